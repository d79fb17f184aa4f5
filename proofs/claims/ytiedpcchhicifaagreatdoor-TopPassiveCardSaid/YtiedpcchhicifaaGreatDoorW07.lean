/- Part of the proof. -/
import Derived.Test.YtiedpcchhicifaaGreatDoorW06
set_option linter.unusedSimpArgs false
set_option linter.unusedVariables false
set_option maxRecDepth 100000
set_option maxHeartbeats 4000000
open List renaming getElem?_eq_some_iff→Δ
open Nat renaming le_refl→Υ
namespace Go.Proofs.YtiedpcchhicifaaGreatDoor
open Go Go.AV
open Nat renaming reduceEqDiff→ad,reduceAdd→J,reduceLeDiff→ae,reduceLT→aj,reduceMul→af,reduceSub→ag
open List renaming set_cons_zero→bu,set_cons_succ→bV,getD_cons_zero→aI,length_append→aq,map_cons→aJ,cons_append→aG,map_nil→aV,length_cons→ax,nil_append→aC,take_succ_cons→cE,length_nil→aF,length_map→aE,length_replicate→aB,take_length→aP,mem_cons_self→ba,mem_cons_of_mem→aQ
open Int renaming toNat_natCast→az
theorem O6 (ws:List (List Int))(h1:ws.length≤1000000)(h2:∀ w,w∈ws→w.length≤1000000):aY Tryz.prog 46 [.one (.list Γ ws),.one (.fn 45 [])] (.one (.list Γ (wsS ws))):=by
 refine zQ 30 Tryz.func46 λC hP hN hB=>?_;have hX:KX [0,1,3,4,5,6,7,16,17,18,19]:=⟨trivial⟩
 have hsl:=j9 cJ ws;have hdl:=o9 (dp cJ ws);refine zT2 ?_;refine aa λ_ k2=>?_;refine uj 0 45 [] rfl ?_;simp only[aJ,aV,shF,if_true,zS,if_false,eq_self,ad,reduceCtorEq,Nat.one_ne_zero,Nat.zero_ne_one];refine dO (n:=0) (L1:=[]) rfl rfl (by rw[hB];decide) rfl rfl ?_;refine am hP hN rfl ?_;refine zS3 ?_;refine zC9 (gy (x4 ws ω)) ?_;refine zS3 ?_;refine ah (k2 _ (kx ?_));refine aa λK3 k3=>am hP hN rfl ?_
 iterate 2 refine zS3 ?_
 refine zC9 (D5 (k:=0) (ver:=0) (xs:=ws) rfl ω) ?_;refine ah (k3 _ (kx ?_));refine aa λK4 k4=>am hP hN rfl ?_;refine zS3 ?_
 (refine aw rfl λ_ k0=>?_;simp only[zE,op1,ev,lkp,cR,bP,fv,iJ,nD,reduceCtorEq,ad,J,ae,aj,af,ag,Tryz.el22,Tryz.td22,Tryz.td78];(repeat refine an ?_);(try refine .inl ?_);apply k0;clear k0;simp only[zP,J])
 refine zC9 (HY 87 [.pfn 45 []] 0 (dp cJ ws) ω rfl (λi j _ _=>Mt _ _)) ?_;refine zS3 ?_;refine ah (k4 _ (kx ?_));refine aa λ_ k5=>?_;refine zT2 ?_;refine ay ?_;refine aM (λn7 s7=>∃ (k:Nat),(k≤(dg (dp cJ ws)).length)∧n7=(dg (dp cJ ws)).length-k∧s7={env:=[(4,.one .nils),(5,.one (.row 0 1)),(16,.one (.row 0 1)),(17,.one (.int .i64 ((dg (dp cJ ws)).length:Int))),(18,.one (.int .i64 (k:Int)))],L:=[.row Γ 26 1 (dg (dp cJ ws))]}) ?_ ?_
 ·exact⟨_,_,ar [4,5,16,17,18],0,Nat.zero_le _,rfl,rfl⟩
 rintro n7 s7 ⟨k,hk,rfl,rfl⟩;refine zT2 ?_;refine aa λ_ k9=>?_;refine cB (λhc10=>?_) (λhc10=>?_)
 ·refine au ?_
  refine k9 _ (kx ?_);refine aa λ_ k11=>?_;refine ay ?_;refine JE ?_;have hwl:=h2 _ (gP.1 (lI (dp cJ ws) _ (dn (show k<(dg (dp cJ ws)).length by omega))));refine am hP hN rfl ?_
  iterate 3 refine Jg ?_
  refine aw rfl λ_ k0=>?_;refine bo (h:=ak (fz ((dg (dp cJ ws)).getD k []) ω)) rfl rfl (by first|exact rfl|(simp only[ev,zP,ad,J];exact rfl)) (by simp only[zV,acs,reduceCtorEq,ad,J,ae,aj,af,ag,az,Ty.dflt]) ?_;apply k0;clear k0;simp only[zP,J]
  iterate 2 refine Jg ?_
  refine ah (k11 _ (kx ?_));refine zR2 (h:=?_);refine⟨_,_,?_,ar [4,5,16,17,18],k+1,ω,rfl,?_⟩
  ·omega
  ·rw[yV ω];rfl
 refine aL ?_;refine k5 _ (kx ?_);refine aa λ_ k13=>?_;refine cA 0 rfl ?_;simp only[aJ,aV,zS,ad,ZW,reduceCtorEq];refine zR2 (h:=k13 _ (kx ?_));refine aA ?_;refine zZn ?_
 rfl
theorem iL (ws:List (List Int))(h1:ws.length≤1000000)(h2:∀ w,w∈ws→w.length≤1000000):aY Tryz.prog 24 [.one (.list Γ ws)] (.one (.list Γ (wsS ws))):=by
 refine zQ 5 Tryz.func24 λC hP hN hB=>?_;have hX:KX [0,2]:=⟨trivial⟩
 refine zT2 ?_;refine aa λK2 k2=>am hP hN rfl ?_;refine zS3 ?_;refine zC9 (ak (O6 ws h1 h2)) ?_;refine zS3 ?_;refine ah (k2 _ (kx ?_));refine aA ?_;refine zZn ?_
 rfl
theorem oA (ws:List (List Int))(h1:ws.length≤1000000)(h2:∀ w,w∈ws→w.length≤1000000):aY Tryz.prog 21 [.one (.list Γ ws)] (.one (.list Γ (mxS ws))):=by
 refine zQ 38 Tryz.func21 λC hP hN hB=>?_;have hX:KX [0,2,3,4,5,6,9,10,11,12,30]:=⟨trivial⟩
 have hol:=ED ws;refine zT2 ?_;refine aa λK2 k2=>am hP hN rfl ?_;refine zS3 ?_;refine zC9 (ak (Pe ws h1 h2)) ?_;refine zS3 ?_;refine ah (k2 _ (kx ?_));refine zT2 ?_;refine aa λ_ k4=>?_;refine zT2 ?_;refine ay ?_;refine eC 4 Γ 26 δ rfl ?_;simp only[ax,aF,aG,aC,Nat.zero_add,J];refine aM (λn6 s6=>∃ (k:Nat) (v:Nat),(k≤(fG ws).length)∧n6=(fG ws).length-k∧s6={env:=[(2,.one .nils),(3,.one (.list Γ (fG ws))),(4,.one (.row 0 v)),(9,.one (.list Γ (fG ws))),(10,.one (.int .i64 ((fG ws).length:Int))),(11,.one (.int .i64 (k:Int)))],L:=[.row Γ 26 v (mxF (fG ws) k)]}) ?_ ?_
 ·exact⟨_,_,ar [2,3,4,9,10,11],0,0,Nat.zero_le _,rfl,rfl⟩
 rintro n6 s6 ⟨k,v,hk,rfl,rfl⟩;refine zT2 ?_;refine aa λ_ k8=>?_;refine cB (λhc9=>?_) (λhc9=>?_)
 ·refine au ?_
  refine k8 _ (kx ?_);refine aa λ_ k10=>?_;refine ay ?_;refine Ou ?_;refine aa λ_ k12=>?_;have hk1:((k:Int)+1).toNat=k+1:=ω;refine am hP hN rfl ?_
  iterate 6 refine pp hk1 ?_
  refine' zJ false 8 21 (λhg13=>?a13) ?b13 ?c13
  case a13=>
   have hq13:=hg13;(try simp only[zB,reduceCtorEq] at hg13);simp only[zE]
   iterate 6 refine yS hk1 ?_
   refine db rfl λ_ k0=>?_;refine bo (h:=ak (cL ((fG ws).getD (k+1) []) ((fG ws).getD k []) (h2 _ (oP (dn ω))) (h2 _ (oP (dn ω))))) rfl rfl (by first|exact rfl|(simp only[ev,zP,ad,J];exact rfl)) (by simp only[zV,acs,reduceCtorEq,ad,J,ae,aj,af,ag,gt,az,hk1]) ?_;apply k0;clear k0;simp only[zP,J];refine yS hk1 ?_;refine pp hk1 ?_;refine ah ?_;exact zK hq13
  case b13=>exact cF
  simp only[bh,aX];refine ah (k12 _ (kx ?_));refine cB (λhc14=>?_) (λhc14=>?_)
  ·have hmk:mxK (fG ws) k=true:=by have hq:=hc14;unfold mxK;simp at hq⊢;omega
   have hml:=BL (fG ws) k;refine zR2 (h:=k10 _ (kx ?_));refine zR2 (h:=?_)
   first
   |(refine⟨_,_,?_,ar [2,3,4,9,10,11],k+1,v+1,ω,rfl,?_⟩
     ·omega
     ·rw[oI,if_pos hmk];rfl)
   |(refine⟨_,_,?_,ar [2,3,4,9,10,11],k+1,v,ω,rfl,?_⟩
     ·omega
     ·rw[oI,if_neg hmk];rfl)
  have hmk:¬mxK (fG ws) k=true:=by have hq:=hc14;unfold mxK;simp at hq⊢;omega
  refine au (k10 _ (kx ?_));refine zR2 (h:=?_)
  first
  |(refine⟨_,_,?_,ar [2,3,4,9,10,11],k+1,v+1,ω,rfl,?_⟩
    ·omega
    ·rw[oI,if_pos hmk];rfl)
  |(refine⟨_,_,?_,ar [2,3,4,9,10,11],k+1,v,ω,rfl,?_⟩
    ·omega
    ·rw[oI,if_neg hmk];rfl)
 refine aL ?_;refine k4 _ (kx ?_);refine aa λ_ k15=>?_;have hkn:k=(fG ws).length:=ω;rw[hkn];refine cA 0 rfl ?_;simp only[aJ,aV,zS,ad,ZW,reduceCtorEq];refine am hP hN rfl ?_;refine zS3 ?_;refine zC9 (ak (iL (mxF (fG ws) (fG ws).length) (by have:=BL (fG ws) (fG ws).length;omega) (λw hw=>h2 w (oP (E6 (Υ _) hw))))) ?_;refine zS3 ?_;refine ah (k15 _ (kx ?_));refine aA ?_;refine zZn ?_
 rfl
set_option maxRecDepth 1000000
set_option maxHeartbeats 0
@[reducible] def tW:Ty:=.list tL
@[reducible] def tN:Ty:=.pair .bool (.pair tL (.pair tL (.pair tW (.pair tL .unit))))
@[reducible] def tT:Ty:=.pair tL (.pair tL .unit)
@[reducible] def xL (l:List Int):AC:=.list tI l
@[reducible] def xW (l:List (List Int)):AC:=.list tL l
def LZ:BT TD:=(.node (.node (.node (.node (.node .leaf 3 {k:=.int .i64,size:=1,bytes:=8,zero:=[.int .i64 0]} .leaf) 4 {k:=.bool,size:=1,bytes:=1,zero:=[.bool false]} (.node .leaf 5 {k:=.int .u8,size:=1,bytes:=1,zero:=[.int .u8 0]} .leaf)) 9 {k:=.str,size:=1,bytes:=16,zero:=[.str []]} (.node (.node .leaf 22 {k:=.slice 26,size:=1,bytes:=24,zero:=[.nils]} .leaf) 24 {k:=.struct [(0,3,1),(1,3,1),(2,22,1),(3,22,1)],size:=4,bytes:=64,zero:=[.int .i64 0,.int .i64 0,.nils,.nils]} (.node .leaf 26 {k:=.slice 3,size:=1,bytes:=24,zero:=[.nils]} .leaf))) 27 {k:=.int .i64,size:=1,bytes:=8,zero:=[.int .i64 0]} (.node (.node (.node .leaf 32 {k:=.slice 86,size:=1,bytes:=24,zero:=[.nils]} .leaf) 34 {k:=.struct [(0,3,1),(1,32,1)],size:=2,bytes:=32,zero:=[.int .i64 0,.nils]} (.node .leaf 53 {k:=.slice 22,size:=1,bytes:=24,zero:=[.nils]} .leaf)) 86 {k:=.struct [(0,26,1),(1,26,1)],size:=2,bytes:=48,zero:=[.nils,.nils]} (.node (.node .leaf 106 {k:=.struct [(0,24,4),(4,22,1)],size:=5,bytes:=88,zero:=[.int .i64 0,.int .i64 0,.nils,.nils,.nils]} .leaf) 111 {k:=.slice 114,size:=1,bytes:=24,zero:=[.nils]} .leaf))) 114 {k:=.struct [(0,3,1),(1,26,1)],size:=2,bytes:=32,zero:=[.int .i64 0,.nils]} (.node (.node (.node (.node .leaf 127 {k:=.int .u64,size:=1,bytes:=8,zero:=[.int .u64 0]} .leaf) 153 {k:=.slice 207,size:=1,bytes:=24,zero:=[.nils]} (.node .leaf 155 {k:=.struct [(0,153,1)],size:=1,bytes:=24,zero:=[.nils]} .leaf)) 157 {k:=.struct [(0,3,1),(1,155,1)],size:=2,bytes:=32,zero:=[.int .i64 0,.nils]} (.node (.node .leaf 161 {k:=.struct [(0,157,2),(2,34,2)],size:=4,bytes:=64,zero:=[.int .i64 0,.nils,.int .i64 0,.nils]} .leaf) 179 {k:=.int .i64,size:=1,bytes:=8,zero:=[.int .i64 0]} .leaf)) 186 {k:=.int .u32,size:=1,bytes:=4,zero:=[.int .u32 0]} (.node (.node (.node .leaf 188 {k:=.int .u64,size:=1,bytes:=8,zero:=[.int .u64 0]} .leaf) 197 {k:=.slice 201,size:=1,bytes:=24,zero:=[.nils]} (.node .leaf 201 {k:=.struct [(0,26,1),(1,3,1)],size:=2,bytes:=32,zero:=[.nils,.int .i64 0]} .leaf)) 207 {k:=.struct [(0,4,1),(1,26,1),(2,26,1),(3,22,1),(4,26,1)],size:=5,bytes:=104,zero:=[.bool false,.nils,.nils,.nils,.nils]} (.node (.node .leaf 213 {k:=.struct [(0,26,1),(1,3,1),(2,26,1)],size:=3,bytes:=56,zero:=[.nils,.int .i64 0,.nils]} .leaf) 242 {k:=.ptr 269,size:=1,bytes:=8,zero:=[.nilp]} .leaf))))
theorem KI:LZ.All λt x=>aN Tryz.prog t=some x:=⟨⟨⟨⟨⟨trivial,Tryz.td3,trivial⟩,Tryz.td4,⟨trivial,Tryz.td5,trivial⟩⟩,Tryz.td9,⟨⟨trivial,Tryz.td22,trivial⟩,Tryz.td24,⟨trivial,Tryz.td26,trivial⟩⟩⟩,Tryz.td27,⟨⟨⟨trivial,Tryz.td32,trivial⟩,Tryz.td34,⟨trivial,Tryz.td53,trivial⟩⟩,Tryz.td86,⟨⟨trivial,Tryz.td106,trivial⟩,Tryz.td111,trivial⟩⟩⟩,Tryz.td114,⟨⟨⟨⟨trivial,Tryz.td127,trivial⟩,Tryz.td153,⟨trivial,Tryz.td155,trivial⟩⟩,Tryz.td157,⟨⟨trivial,Tryz.td161,trivial⟩,Tryz.td179,trivial⟩⟩,Tryz.td186,⟨⟨⟨trivial,Tryz.td188,trivial⟩,Tryz.td197,⟨trivial,Tryz.td201,trivial⟩⟩,Tryz.td207,⟨⟨trivial,Tryz.td213,trivial⟩,Tryz.td242,trivial⟩⟩⟩⟩
def O4:BT EL:=(.node (.node (.node (.node .leaf 22 {e:=26,size:=1,bytes:=24,zero:=[.nils],t:=.list Θ} .leaf) 26 {e:=3,size:=1,bytes:=8,zero:=[.int .i64 0],t:=.int .i64} .leaf) 32 {e:=86,size:=2,bytes:=48,zero:=[.nils,.nils],t:=.pair Γ (.pair Γ (.unit))} (.node .leaf 53 {e:=22,size:=1,bytes:=24,zero:=[.nils],t:=.list Γ} .leaf)) 54 {e:=4,size:=1,bytes:=1,zero:=[.bool false],t:=.bool} (.node (.node .leaf 111 {e:=114,size:=2,bytes:=32,zero:=[.int .i64 0,.nils],t:=.pair Θ (.pair Γ (.unit))} .leaf) 153 {e:=207,size:=5,bytes:=104,zero:=[.bool false,.nils,.nils,.nils,.nils],t:=.pair (.bool) (.pair Γ (.pair Γ (.pair (.list Γ) (.pair Γ (.unit)))))} (.node .leaf 197 {e:=201,size:=2,bytes:=32,zero:=[.nils,.int .i64 0],t:=.pair Γ (.pair Θ (.unit))} .leaf)))
theorem Lf:O4.All λt x=>fD Tryz.prog t=some x:=⟨⟨⟨⟨trivial,Tryz.el22,trivial⟩,Tryz.el26,trivial⟩,Tryz.el32,⟨trivial,Tryz.el53,trivial⟩⟩,Tryz.el54,⟨⟨trivial,Tryz.el111,trivial⟩,Tryz.el153,⟨trivial,Tryz.el197,trivial⟩⟩⟩
def OQ:BT (List (Nat×TypeId×Nat)×List AC):=(.node (.node (.node (.node .leaf 24 ([(0,3,1),(1,3,1),(2,22,1),(3,22,1)],[.int .i64 0,.int .i64 0,.nils,.nils]) .leaf) 34 ([(0,3,1),(1,32,1)],[.int .i64 0,.nils]) (.node .leaf 86 ([(0,26,1),(1,26,1)],[.nils,.nils]) .leaf)) 106 ([(0,24,4),(4,22,1)],[.int .i64 0,.int .i64 0,.nils,.nils,.nils]) (.node (.node .leaf 114 ([(0,3,1),(1,26,1)],[.int .i64 0,.nils]) .leaf) 155 ([(0,153,1)],[.nils]) .leaf)) 157 ([(0,3,1),(1,155,1)],[.int .i64 0,.nils]) (.node (.node (.node .leaf 161 ([(0,157,2),(2,34,2)],[.int .i64 0,.nils,.int .i64 0,.nils]) .leaf) 201 ([(0,26,1),(1,3,1)],[.nils,.int .i64 0]) .leaf) 207 ([(0,4,1),(1,26,1),(2,26,1),(3,22,1),(4,26,1)],[.bool false,.nils,.nils,.nils,.nils]) (.node (.node .leaf 213 ([(0,26,1),(1,3,1),(2,26,1)],[.nils,.int .i64 0,.nils]) .leaf) 269 ([(0,106,5),(5,34,2),(7,26,1),(8,26,1),(9,26,1)],[.int .i64 0,.int .i64 0,.nils,.nils,.nils,.int .i64 0,.nils,.nils,.nils,.nils]) .leaf)))
theorem Lc:OQ.All λt x=>fd Tryz.prog t=some x:=⟨⟨⟨⟨trivial,Tryz.st24,trivial⟩,Tryz.st34,⟨trivial,Tryz.st86,trivial⟩⟩,Tryz.st106,⟨⟨trivial,Tryz.st114,trivial⟩,Tryz.st155,trivial⟩⟩,Tryz.st157,⟨⟨⟨trivial,Tryz.st161,trivial⟩,Tryz.st201,trivial⟩,Tryz.st207,⟨⟨trivial,Tryz.st213,trivial⟩,Tryz.st269,trivial⟩⟩⟩
def fnx (f:Func):FN:=⟨f.body.getD .skip,f.ntmps,f.results.toList⟩
noncomputable def My:BT FN:=(.node (.node (.node (.node (.node (.node (.node .leaf 17 (fnx Tryz.f17) .leaf) 31 (fnx Tryz.f31) .leaf) 32 (fnx Tryz.f32) (.node .leaf 37 (fnx Tryz.f37) .leaf)) 39 (fnx Tryz.f39) (.node (.node .leaf 44 (fnx Tryz.f44) .leaf) 61 (fnx Tryz.f61) (.node .leaf 62 (fnx Tryz.f62) .leaf))) 63 (fnx Tryz.f63) (.node (.node (.node .leaf 64 (fnx Tryz.f64) .leaf) 65 (fnx Tryz.f65) (.node .leaf 66 (fnx Tryz.f66) .leaf)) 69 (fnx Tryz.f69) (.node (.node .leaf 72 (fnx Tryz.f72) .leaf) 80 (fnx Tryz.f80) (.node .leaf 81 (fnx Tryz.f81) .leaf)))) 89 (fnx Tryz.f89) (.node (.node (.node (.node (.node .leaf 106 (fnx Tryz.f106) .leaf) 108 (fnx Tryz.f108) .leaf) 109 (fnx Tryz.f109) (.node .leaf 110 (fnx Tryz.f110) .leaf)) 111 (fnx Tryz.f111) (.node (.node .leaf 113 (fnx Tryz.f113) .leaf) 119 (fnx Tryz.f119) (.node .leaf 128 (fnx Tryz.f128) .leaf))) 130 (fnx Tryz.f130) (.node (.node (.node .leaf 131 (fnx Tryz.f131) .leaf) 138 (fnx Tryz.f138) (.node .leaf 139 (fnx Tryz.f139) .leaf)) 140 (fnx Tryz.f140) (.node (.node .leaf 141 (fnx Tryz.f141) .leaf) 142 (fnx Tryz.f142) (.node .leaf 144 (fnx Tryz.f144) .leaf))))) 146 (fnx Tryz.f146) (.node (.node (.node (.node (.node (.node .leaf 147 (fnx Tryz.f147) .leaf) 148 (fnx Tryz.f148) .leaf) 150 (fnx Tryz.f150) (.node .leaf 151 (fnx Tryz.f151) .leaf)) 160 (fnx Tryz.f160) (.node (.node .leaf 161 (fnx Tryz.f161) .leaf) 162 (fnx Tryz.f162) (.node .leaf 163 (fnx Tryz.f163) .leaf))) 164 (fnx Tryz.f164) (.node (.node (.node .leaf 165 (fnx Tryz.f165) .leaf) 166 (fnx Tryz.f166) (.node .leaf 167 (fnx Tryz.f167) .leaf)) 168 (fnx Tryz.f168) (.node (.node .leaf 171 (fnx Tryz.f171) .leaf) 172 (fnx Tryz.f172) (.node .leaf 173 (fnx Tryz.f173) .leaf)))) 174 (fnx Tryz.f174) (.node (.node (.node (.node (.node .leaf 175 (fnx Tryz.f175) .leaf) 176 (fnx Tryz.f176) .leaf) 191 (fnx Tryz.f191) (.node .leaf 192 (fnx Tryz.f192) .leaf)) 193 (fnx Tryz.f193) (.node (.node .leaf 194 (fnx Tryz.f194) .leaf) 195 (fnx Tryz.f195) (.node .leaf 196 (fnx Tryz.f196) .leaf))) 201 (fnx Tryz.f201) (.node (.node (.node .leaf 202 (fnx Tryz.f202) .leaf) 203 (fnx Tryz.f203) (.node .leaf 204 (fnx Tryz.f204) .leaf)) 205 (fnx Tryz.f205) (.node (.node .leaf 206 (fnx Tryz.f206) .leaf) 216 (fnx Tryz.f216) (.node .leaf 217 (fnx Tryz.f217) .leaf))))))
def PX (f:Nat)(x:FN):Prop:=∃ fn,Tryz.prog.funcs[f]? =some fn∧fn.body=some x.code∧(fn.name == "runtime.NumGoroutine")=false∧fn.ntmps=x.n∧fn.results.toList=x.res∧i7 x.n x.code=true
theorem KU:My.All PX:=⟨⟨⟨⟨⟨⟨⟨trivial,⟨Tryz.f17,Tryz.func17,ζ,ζ,ζ,ζ,ζ⟩,trivial⟩,⟨Tryz.f31,Tryz.func31,ζ,ζ,ζ,ζ,ζ⟩,trivial⟩,⟨Tryz.f32,Tryz.func32,ζ,ζ,ζ,ζ,ζ⟩,⟨trivial,⟨Tryz.f37,Tryz.func37,ζ,ζ,ζ,ζ,ζ⟩,trivial⟩⟩,⟨Tryz.f39,Tryz.func39,ζ,ζ,ζ,ζ,ζ⟩,⟨⟨trivial,⟨Tryz.f44,Tryz.func44,ζ,ζ,ζ,ζ,ζ⟩,trivial⟩,⟨Tryz.f61,Tryz.func61,ζ,ζ,ζ,ζ,ζ⟩,⟨trivial,⟨Tryz.f62,Tryz.func62,ζ,ζ,ζ,ζ,ζ⟩,trivial⟩⟩⟩,⟨Tryz.f63,Tryz.func63,ζ,ζ,ζ,ζ,ζ⟩,⟨⟨⟨trivial,⟨Tryz.f64,Tryz.func64,ζ,ζ,ζ,ζ,ζ⟩,trivial⟩,⟨Tryz.f65,Tryz.func65,ζ,ζ,ζ,ζ,ζ⟩,⟨trivial,⟨Tryz.f66,Tryz.func66,ζ,ζ,ζ,ζ,ζ⟩,trivial⟩⟩,⟨Tryz.f69,Tryz.func69,ζ,ζ,ζ,ζ,ζ⟩,⟨⟨trivial,⟨Tryz.f72,Tryz.func72,ζ,ζ,ζ,ζ,ζ⟩,trivial⟩,⟨Tryz.f80,Tryz.func80,ζ,ζ,ζ,ζ,ζ⟩,⟨trivial,⟨Tryz.f81,Tryz.func81,ζ,ζ,ζ,ζ,ζ⟩,trivial⟩⟩⟩⟩,⟨Tryz.f89,Tryz.func89,ζ,ζ,ζ,ζ,ζ⟩,⟨⟨⟨⟨⟨trivial,⟨Tryz.f106,Tryz.func106,ζ,ζ,ζ,ζ,ζ⟩,trivial⟩,⟨Tryz.f108,Tryz.func108,ζ,ζ,ζ,ζ,ζ⟩,trivial⟩,⟨Tryz.f109,Tryz.func109,ζ,ζ,ζ,ζ,ζ⟩,⟨trivial,⟨Tryz.f110,Tryz.func110,ζ,ζ,ζ,ζ,ζ⟩,trivial⟩⟩,⟨Tryz.f111,Tryz.func111,ζ,ζ,ζ,ζ,ζ⟩,⟨⟨trivial,⟨Tryz.f113,Tryz.func113,ζ,ζ,ζ,ζ,ζ⟩,trivial⟩,⟨Tryz.f119,Tryz.func119,ζ,ζ,ζ,ζ,ζ⟩,⟨trivial,⟨Tryz.f128,Tryz.func128,ζ,ζ,ζ,ζ,ζ⟩,trivial⟩⟩⟩,⟨Tryz.f130,Tryz.func130,ζ,ζ,ζ,ζ,ζ⟩,⟨⟨⟨trivial,⟨Tryz.f131,Tryz.func131,ζ,ζ,ζ,ζ,ζ⟩,trivial⟩,⟨Tryz.f138,Tryz.func138,ζ,ζ,ζ,ζ,ζ⟩,⟨trivial,⟨Tryz.f139,Tryz.func139,ζ,ζ,ζ,ζ,ζ⟩,trivial⟩⟩,⟨Tryz.f140,Tryz.func140,ζ,ζ,ζ,ζ,ζ⟩,⟨⟨trivial,⟨Tryz.f141,Tryz.func141,ζ,ζ,ζ,ζ,ζ⟩,trivial⟩,⟨Tryz.f142,Tryz.func142,ζ,ζ,ζ,ζ,ζ⟩,⟨trivial,⟨Tryz.f144,Tryz.func144,ζ,ζ,ζ,ζ,ζ⟩,trivial⟩⟩⟩⟩⟩,⟨Tryz.f146,Tryz.func146,ζ,ζ,ζ,ζ,ζ⟩,⟨⟨⟨⟨⟨⟨trivial,⟨Tryz.f147,Tryz.func147,ζ,ζ,ζ,ζ,ζ⟩,trivial⟩,⟨Tryz.f148,Tryz.func148,ζ,ζ,ζ,ζ,ζ⟩,trivial⟩,⟨Tryz.f150,Tryz.func150,ζ,ζ,ζ,ζ,ζ⟩,⟨trivial,⟨Tryz.f151,Tryz.func151,ζ,ζ,ζ,ζ,ζ⟩,trivial⟩⟩,⟨Tryz.f160,Tryz.func160,ζ,ζ,ζ,ζ,ζ⟩,⟨⟨trivial,⟨Tryz.f161,Tryz.func161,ζ,ζ,ζ,ζ,ζ⟩,trivial⟩,⟨Tryz.f162,Tryz.func162,ζ,ζ,ζ,ζ,ζ⟩,⟨trivial,⟨Tryz.f163,Tryz.func163,ζ,ζ,ζ,ζ,ζ⟩,trivial⟩⟩⟩,⟨Tryz.f164,Tryz.func164,ζ,ζ,ζ,ζ,ζ⟩,⟨⟨⟨trivial,⟨Tryz.f165,Tryz.func165,ζ,ζ,ζ,ζ,ζ⟩,trivial⟩,⟨Tryz.f166,Tryz.func166,ζ,ζ,ζ,ζ,ζ⟩,⟨trivial,⟨Tryz.f167,Tryz.func167,ζ,ζ,ζ,ζ,ζ⟩,trivial⟩⟩,⟨Tryz.f168,Tryz.func168,ζ,ζ,ζ,ζ,ζ⟩,⟨⟨trivial,⟨Tryz.f171,Tryz.func171,ζ,ζ,ζ,ζ,ζ⟩,trivial⟩,⟨Tryz.f172,Tryz.func172,ζ,ζ,ζ,ζ,ζ⟩,⟨trivial,⟨Tryz.f173,Tryz.func173,ζ,ζ,ζ,ζ,ζ⟩,trivial⟩⟩⟩⟩,⟨Tryz.f174,Tryz.func174,ζ,ζ,ζ,ζ,ζ⟩,⟨⟨⟨⟨⟨trivial,⟨Tryz.f175,Tryz.func175,ζ,ζ,ζ,ζ,ζ⟩,trivial⟩,⟨Tryz.f176,Tryz.func176,ζ,ζ,ζ,ζ,ζ⟩,trivial⟩,⟨Tryz.f191,Tryz.func191,ζ,ζ,ζ,ζ,ζ⟩,⟨trivial,⟨Tryz.f192,Tryz.func192,ζ,ζ,ζ,ζ,ζ⟩,trivial⟩⟩,⟨Tryz.f193,Tryz.func193,ζ,ζ,ζ,ζ,ζ⟩,⟨⟨trivial,⟨Tryz.f194,Tryz.func194,ζ,ζ,ζ,ζ,ζ⟩,trivial⟩,⟨Tryz.f195,Tryz.func195,ζ,ζ,ζ,ζ,ζ⟩,⟨trivial,⟨Tryz.f196,Tryz.func196,ζ,ζ,ζ,ζ,ζ⟩,trivial⟩⟩⟩,⟨Tryz.f201,Tryz.func201,ζ,ζ,ζ,ζ,ζ⟩,⟨⟨⟨trivial,⟨Tryz.f202,Tryz.func202,ζ,ζ,ζ,ζ,ζ⟩,trivial⟩,⟨Tryz.f203,Tryz.func203,ζ,ζ,ζ,ζ,ζ⟩,⟨trivial,⟨Tryz.f204,Tryz.func204,ζ,ζ,ζ,ζ,ζ⟩,trivial⟩⟩,⟨Tryz.f205,Tryz.func205,ζ,ζ,ζ,ζ,ζ⟩,⟨⟨trivial,⟨Tryz.f206,Tryz.func206,ζ,ζ,ζ,ζ,ζ⟩,trivial⟩,⟨Tryz.f216,Tryz.func216,ζ,ζ,ζ,ζ,ζ⟩,⟨trivial,⟨Tryz.f217,Tryz.func217,ζ,ζ,ζ,ζ,ζ⟩,trivial⟩⟩⟩⟩⟩⟩
def Oq:BT (List Nat):=(.node (.node (.node (.node (.node (.node (.node .leaf 17 [0,1,5,6,2,3] .leaf) 31 [0,2,6,23,1,30,8,37,7,45,56,64,9,10,11,74,77,76,78,75,83,82,84,81,14,16,17,19,99,18,12,4,5] .leaf) 32 [0,1,3,9,23,4,10,28,34,2,37,36,38,35,12,13,46,51,50,52,49,15,17,62,71,16,18,19,79,6,7,8] (.node .leaf 37 [0,1,5,13,20,19,21,18,9,6,7,2,3,4] .leaf)) 39 [0,1,3,7,11,2] (.node (.node .leaf 44 [0,4,1] .leaf) 61 [0,1,10,13,12,14,5,24,4] (.node .leaf 62 [0,1,19,8,7,26,6,35,4,5] .leaf))) 63 [0,1,4,17,26,25,27,6,7,35,10,47,5,8,75,74,76,73,13,11,2,3] (.node (.node (.node .leaf 64 [0,8,7,9,6,5,3,2] .leaf) 65 [0,3,2,10,21,1,28,9,34,6,7] (.node .leaf 66 [1,10,9,11,8,0,7,5,4] .leaf)) 69 [0,1,6,21,2,3,8,32,7,9,14,52,11,12,68,13,73,83,15,98,17,103,10,16,117,4,5] (.node (.node .leaf 72 [0,2,5,1,7,6,23,36,35,37,34,9,45,8,4] .leaf) 80 [2,1,12,25,0,4,3,32,10,39,14,56,11,75,80,13,97,15,17,16,18,19,125,20] (.node .leaf 81 [0,2] .leaf)))) 89 [0,1,4] (.node (.node (.node (.node (.node .leaf 106 [0,1,11,6,7,18,27,40,4,5] .leaf) 108 [0,9,2,3] .leaf) 109 [0,1,2,3,8,9,23,4,12,33,11,38,10,43,42,44,41,14,50,55,16,80,15,5,6,7] (.node .leaf 110 [0,1,2,14,13,15,12,3,9,11,25,4,6,10,37,7] .leaf)) 111 [0,1,2,3,6,7,25,4,10,35,9,40,11,52,51,53,8,13,67,66,68,65,17,75,18,12,14,15,129,5] (.node (.node .leaf 113 [0,1,2,5,4,3,11,27,8,6,10,13,44,62,12,66,16,79,15,84,14,96,9] .leaf) 119 [1,8,2,14,9,3,0,34] (.node .leaf 128 [0,4,8,14,2] .leaf))) 130 [0,8,7,9,1,5,16,4] (.node (.node (.node .leaf 131 [0,8,7,9,1,5,16,4] .leaf) 138 [0] (.node .leaf 139 [0,1,19,3,25,32,31,33,30,7,8,43,9,52,55,5,66,4,69,72,2] .leaf)) 140 [0,1,19,18,20,17,26,25,27,8,9,10,13,46,51,12,58,11,5,6,2,3,4] (.node (.node .leaf 141 [0,2,1,4] .leaf) 142 [0,1,5,2] (.node .leaf 144 [0,3,1,2,7,6] .leaf))))) 146 [0,8,7,9,1,5,16,4] (.node (.node (.node (.node (.node (.node .leaf 147 [0,1,3] .leaf) 148 [0,1,3,13,22,26,25,27,24,5,8,43,7,4,47,57,2] .leaf) 150 [0,1,3,4,2,10,19,6,9,7,8] (.node .leaf 151 [0,1,2,3,4,9,5,10,28,6,11,14,48,13,53,12,60,15,16,82,81,83,80,19,88,93,17,101,109,132,20,7,8] .leaf)) 160 [0,1,7,12,20,19,21,18,4,25,5,34,39,6,47,2] (.node (.node .leaf 161 [0,1,3,9,22,2,4,10,29,11,37,12,13,14,53,16,62,15,18,74,17,6,7,8] .leaf) 162 [0,2,1,6,4] (.node .leaf 163 [0,1,9,8,10,7,5,14,3,2] .leaf))) 164 [0,1,3,7,2,17,6] (.node (.node (.node .leaf 165 [0,1,9,11,4] .leaf) 166 [0,2,1,4,5] (.node .leaf 167 [0,1,5,9,2,14,4] .leaf)) 168 [0,1,3,19,18,20,17,5,32,31,33,30,8,4,6,2] (.node (.node .leaf 171 [0,1,3,10,2,6,16,7,4,5] .leaf) 172 [0,1,3,8,19,4,26,2,9,32,11,41,56,55,57,54,12,13,15,10,103,6,7] (.node .leaf 173 [0,2,9,8,23,1,10,11,33,4,13,45,7,50,5,6] .leaf)))) 174 [0,1,4] (.node (.node (.node (.node (.node .leaf 175 [0,1,2,5,10,3,6,19,31,35,4] .leaf) 176 [0,6,14,22,12,1,2,3,4,5,15,33,16,65,18,17,13] .leaf) 191 [0,1,14,2] (.node .leaf 192 [0,2,9,14,5,23,31,35,34,36,33,7,8,45,6,59,1,74,4] .leaf)) 193 [0,1,5,4,15,3,6,25,42,2] (.node (.node .leaf 194 [0,2] .leaf) 195 [0,8,9,10,17,2,11,1,31,6,7] (.node .leaf 196 [1,0,3,4] .leaf))) 201 [0,2,1,3] (.node (.node (.node .leaf 202 [1,0,3] .leaf) 203 [0,1,5,4] (.node .leaf 204 [0,1,4] .leaf)) 205 [0,1,19,4,5,6] (.node (.node .leaf 206 [0,6,1,13,22,2,26,14,30,3,15,36,4,16,42,5,17,48,50,54,12] .leaf) 216 [0,1,4] (.node .leaf 217 [0,1,3] .leaf))))))
def SZ:FuncId→Nat→Bool:=λf d=>(Nat.beq f 63&&Nat.beq d 22)||(Nat.beq f 72&&Nat.beq d 19)||(Nat.beq f 106&&Nat.beq d 13)||(Nat.beq f 151&&Nat.beq d 20)||(Nat.beq f 172&&Nat.beq d 48)||(Nat.beq f 176&&Nat.beq d 18)||(Nat.beq f 193&&Nat.beq d 11)
def EA:FuncId→List AV→Option ((t:Ty)×TypeId×List t.den):=λf args=>bif Nat.beq f 35 then(match args with|[.one (.list (.int .i64) (x::xs))]=>if List.length xs≤1000 then some ⟨.int .i64,3,((x::xs:List Int):List (Ty.den (.int .i64)))⟩ else none|_=>none) else none
def R4:FuncId→Nat→List PA:=λf id=>bif Nat.beq f 172&&Nat.beq id 17 then [.cell 12 9 Θ 3] else bif Nat.beq f 111&&Nat.beq id 23 then [.slot 15 Θ 3] else bif (Nat.beq f 151&&Nat.beq id 28)||(Nat.beq f 176&&Nat.beq id 9) then [.hole] else []
def LK:FuncId→Bool:=λf=>Nat.beq f 12||Nat.beq f 203||Nat.beq f 204||Nat.beq f 144
noncomputable def xE (t:List (FuncId×List AV×AV)):XE:={T:=⟨LZ.get,O4.get,OQ.get⟩,fn:=My.get,con:=GT t,conO:=EA,own:=SZ,keep:=Oq.get,nofz:=λf=>Nat.beq f 168,pre:=R4,quiet:=LK}
theorem bf {t:List (FuncId×List AV×AV)}(h:GN Tryz.prog t):XEok Tryz.prog (xE t):=by
 refine⟨⟨λ_ _ h=>BT.get_all KI h,λ_ _ h=>BT.get_all Lf h,λ_ _ h=>BT.get_all Lc h⟩,λ_ _ h=>BT.get_all (p:=PX) KU h,λ_ _ _ h2=>CG h h2,λf args t e xs h2=>?_,ζ⟩
 ·unfold xE EA at h2
  simp only at h2
  cases e1:Nat.beq f 35 with
  |false=>rw[e1] at h2;cases h2
  |true=>
   rw[e1] at h2;have e2:f=35:=Nat.eq_of_beq_eq_true e1;subst e2;simp only[cond_true] at h2;split at h2
   ·rename_i x0 xs0
    split at h2
    ·rename_i hle
     simp only[Option.some.injEq,Sigma.mk.injEq] at h2;obtain⟨rfl,h3⟩:=h2;simp only[heq_eq_eq,Prod.mk.injEq] at h3;obtain⟨rfl,rfl⟩:=h3;exact Ac (x0::xs0) η (by simp;omega)
    ·cases h2
   ·cases h2
def v0_:AV:=.agg [.int .i64 2,.int .i64 0,xW [[1,0],[1,0]],xW [[1,0],[1,2]]]
def v1_:AV:=.one (.int .i64 0)
def v2_:AV:=.agg [.list tN [(true,([],([],([],([],())))))]]
def v3_:AV:=.one (.int .i64 2)
def v4_:AV:=.agg [.int .i64 2,.list tN [(true,([],([],([],([],())))))]]
def v5_:AV:=.one (xL [])
def v6_:AV:=.one (.int .i64 64)
def v7_:AV:=.one (xW [[]])
def v8_:AV:=.agg [.int .i64 2,.list tN [(true,([],([],([],([],())))))],.int .i64 2,.nils]
def v9_:AV:=.one (xW [[],[0]])
def da:AV:=.one (xL [0])
def vq:AV:=.agg [.int .i64 2,.nils]
def fL:AV:=.one (.nils)
def f9:AV:=.one (.bool false)
def dm:AV:=.one (xL [1])
def zr:AV:=.one (xW [[0],[1]])
def Tt:AV:=.one (.list (.pair tL (.pair tI .unit)) ([([0],(0,())),([1],(0,()))]:Ty.den (.list (.pair tL (.pair tI .unit)))))
def TF:AV:=.agg [.int .i64 2,.list tT [([0],([1],()))]]
def na:AV:=.agg [.int .i64 2,.list tT [([0],([1],())),([1],([0],()))]]
def w9:AV:=.agg [.int .i64 2,.list tN [(true,([],([],([],([],())))))],.int .i64 2,.list tT [([0],([1],())),([1],([0],()))]]
def dU:AV:=.one (.bool true)
def LX:AV:=.agg [.int .i64 2,.int .i64 0,xW [[0,0]],xW [[1,0]]]
def Jj:AV:=.agg [.int .i64 2,.int .i64 0,xW [[0,0]],xW [[1,0]],xW [[]]]
def fI:AV:=.one (xL [0,1])
def zg:AV:=.one (xL [1,2])
def iF:AV:=.agg [.int .i64 2,.list tT [([1],([0],())),([0,1],([1,2],()))]]
def TP:AV:=.agg [xL [],.int .i64 0,xL [1]]
def DK:AV:=.agg [.int .i64 2,.list tN [(true,([],([],([],([],())))))],.int .i64 2,.list tT [([1],([0],())),([0,1],([1,2],()))]]
def uk:AV:=.one (xL [2])
def ub:AV:=.one (xW [[1]])
def mZ:AV:=.agg [.list tN [(false,([],([1],([[0],[2]],([1,2],()))))),(true,([],([],([],([],()))))),(true,([0],([],([],([],())))))]]
def yo:AV:=.agg [.int .i64 2,.list tN [(false,([],([1],([[0],[2]],([1,2],()))))),(true,([],([],([],([],()))))),(true,([0],([],([],([],())))))]]
def vp:AV:=.agg [.int .i64 2,.list tN [(false,([],([1],([[0],[2]],([1,2],()))))),(true,([],([],([],([],()))))),(true,([0],([],([],([],())))))],.int .i64 2,.list tT [([1],([0],())),([0,1],([1,2],()))]]
def i3:AV:=.one (xL [1,1])
def gY:AV:=.one (xL [0,0])
def jE:AV:=.one (xL [0,0,1])
def jF:AV:=.one (xL [0,1,1])
def wY:AV:=.one (xW [[1,1],[0,0,1],[0,1,1]])
def TO:AV:=.agg [.int .i64 2,.list tT [([0,1],([1,2],())),([1,1],([0,0],()))]]
def xp:AV:=.one (xL [1,1,2])
def TJ:AV:=.agg [.int .i64 2,.list tT [([0,1],([1,2],())),([1,1],([0,0],())),([0,0,1],([1,1,2],()))]]
def E1:AV:=.one (xL [1,2,0])
def iX:AV:=.agg [.int .i64 2,.list tT [([1,1],([0,0],())),([0,0,1],([1,1,2],())),([0,1,1],([1,2,0],()))]]
def pq:AV:=.agg [.int .i64 2,.list tN [(false,([],([1],([[0],[2]],([1,2],()))))),(true,([],([],([],([],()))))),(true,([0],([],([],([],())))))],.int .i64 2,.list tT [([1,1],([0,0],())),([0,0,1],([1,1,2],())),([0,1,1],([1,2,0],()))]]
def wK:AV:=.one (.int .i64 1)
def LY:AV:=.agg [.int .i64 2,.int .i64 0,xW [[1,0],[1,0]],xW [[1,0],[1,2]],xW [[],[0]]]
def yY:AV:=.one (.list tW ([[[1]],[[1]]]:Ty.den (.list tW)))
def Df:AV:=.agg [.int .i64 2,.int .i64 0,xW [[1,0],[1,1]],xW [[1,0],[1,2]]]
def yQ:FuncId×List AV×AV:=(16,[v0_],v1_)
def TK:FuncId×List AV×AV:=(138,[],v2_)
def Tx:FuncId×List AV×AV:=(108,[v3_],.tup [v4_,v1_])
def Na:FuncId×List AV×AV:=(49,[v5_,v6_],v1_)
def Hc:FuncId×List AV×AV:=(38,[v7_],v5_)
def Ip:FuncId×List AV×AV:=(163,[v2_],v7_)
def Qc:FuncId×List AV×AV:=(24,[v7_],v7_)
def nF:FuncId×List AV×AV:=(160,[v2_],v1_)
def ya:FuncId×List AV×AV:=(49,[v5_,v3_],v1_)
def TL:FuncId×List AV×AV:=(139,[v8_],v1_)
def wv:FuncId×List AV×AV:=(142,[v2_],v7_)
def mC:FuncId×List AV×AV:=(38,[v9_],da)
def mB:FuncId×List AV×AV:=(49,[da,v3_],v1_)
def NC:FuncId×List AV×AV:=(161,[v2_,vq,da],.tup [v1_,fL,v1_])
def Qj:FuncId×List AV×AV:=(171,[vq,da],.tup [fL,f9])
def Q6:FuncId×List AV×AV:=(162,[v8_,da],f9)
def gS:FuncId×List AV×AV:=(38,[.one (xW [[],[1]])],dm)
def mN:FuncId×List AV×AV:=(49,[dm,v3_],v1_)
def Pq:FuncId×List AV×AV:=(161,[v2_,vq,dm],.tup [v1_,fL,v1_])
def OO:FuncId×List AV×AV:=(171,[vq,dm],.tup [fL,f9])
def OH:FuncId×List AV×AV:=(162,[v8_,dm],f9)
def MT:FuncId×List AV×AV:=(21,[zr],zr)
def PC:FuncId×List AV×AV:=(140,[v8_],.tup [Tt,zr,v1_])
def Ml:FuncId×List AV×AV:=(109,[v4_,vq],.tup [v4_,zr,f9,v1_])
def Nu:FuncId×List AV×AV:=(67,[v0_,da],.tup [dm,v1_])
def LV:FuncId×List AV×AV:=(145,[vq,.agg [xL [0],xL [1]]],.tup [TF,v1_])
def MR:FuncId×List AV×AV:=(67,[v0_,dm],.tup [da,v1_])
def Nv:FuncId×List AV×AV:=(145,[TF,.agg [xL [1],xL [0]]],.tup [na,v1_])
def Q5:FuncId×List AV×AV:=(110,[v0_,vq,zr],.tup [na,v1_])
def Gs:FuncId×List AV×AV:=(139,[w9],v1_)
def PD:FuncId×List AV×AV:=(161,[v2_,na,da],.tup [v1_,fL,v1_])
def MH:FuncId×List AV×AV:=(48,[da,da],dU)
def wJ:FuncId×List AV×AV:=(35,[dm],dm)
def Gr:FuncId×List AV×AV:=(171,[na,da],.tup [dm,dU])
def N3:FuncId×List AV×AV:=(162,[w9,da],dU)
def NS:FuncId×List AV×AV:=(161,[v2_,na,dm],.tup [v1_,fL,v1_])
def PI:FuncId×List AV×AV:=(48,[da,dm],f9)
def Gt:FuncId×List AV×AV:=(48,[dm,dm],dU)
def AM:FuncId×List AV×AV:=(35,[da],da)
def Gi:FuncId×List AV×AV:=(171,[na,dm],.tup [da,dU])
def M5:FuncId×List AV×AV:=(162,[w9,dm],dU)
def GF:FuncId×List AV×AV:=(21,[fL],.one (xW []))
def Fl:FuncId×List AV×AV:=(140,[w9],.tup [Tt,.one (xW []),v1_])
def Ni:FuncId×List AV×AV:=(109,[v4_,na],.tup [v4_,fL,dU,v1_])
def Oi:FuncId×List AV×AV:=(110,[v0_,na,fL],.tup [na,v1_])
def Qg:FuncId×List AV×AV:=(144,[w9,v5_,da],dm)
def ON:FuncId×List AV×AV:=(144,[w9,v5_,dm],da)
def Po:FuncId×List AV×AV:=(16,[LX],v1_)
def NX:FuncId×List AV×AV:=(107,[LX,v1_,v5_],.tup [v5_,v1_,v1_])
def EI:FuncId×List AV×AV:=(148,[Jj],v1_)
def PL:FuncId×List AV×AV:=(111,[v4_,na],.tup [Jj,v1_])
def N1:FuncId×List AV×AV:=(112,[LX,v0_],.tup [fI,dU,v1_])
def Mf:FuncId×List AV×AV:=(67,[v0_,fI],.tup [zg,v1_])
def Ob:FuncId×List AV×AV:=(145,[na,.agg [xL [0,1],xL [1,2]]],.tup [iF,v1_])
def OX:FuncId×List AV×AV:=(110,[v0_,na,.one (xW [[0,1]])],.tup [iF,v1_])
def sn:FuncId×List AV×AV:=(49,[fI,v3_],v1_)
def Pl:FuncId×List AV×AV:=(48,[dm,fI],f9)
def Ov:FuncId×List AV×AV:=(48,[fI,fI],dU)
def Gd:FuncId×List AV×AV:=(35,[zg],zg)
def rE:FuncId×List AV×AV:=(171,[iF,fI],.tup [zg,dU])
def wH:FuncId×List AV×AV:=(171,[iF,dm],.tup [da,dU])
def Nx:FuncId×List AV×AV:=(38,[.one (xW [[],[0,1]])],fI)
def Fc:FuncId×List AV×AV:=(35,[v5_],v5_)
def Od:FuncId×List AV×AV:=(150,[Jj,iF,fI],.tup [TP,fL,v1_])
def Mn:FuncId×List AV×AV:=(139,[DK],v1_)
def N4:FuncId×List AV×AV:=(161,[v2_,iF,da],.tup [v1_,fL,v1_])
def mv:FuncId×List AV×AV:=(38,[zr],fI)
def P3:FuncId×List AV×AV:=(162,[DK,dm],dU)
def PO:FuncId×List AV×AV:=(162,[DK,fI],dU)
def O5:FuncId×List AV×AV:=(144,[DK,v5_,dm],da)
def Ol:FuncId×List AV×AV:=(144,[DK,da,dm],uk)
def Gf:FuncId×List AV×AV:=(49,[dm,v6_],v1_)
def GG:FuncId×List AV×AV:=(49,[da,v6_],v1_)
def No:FuncId×List AV×AV:=(38,[ub],dm)
def Gu:FuncId×List AV×AV:=(38,[.one (xW [[0]])],da)
def N8:FuncId×List AV×AV:=(38,[.one (xW [[2]])],uk)
def tc:FuncId×List AV×AV:=(47,[da,uk],.one (.int .i64 (-1)))
def MC:FuncId×List AV×AV:=(176,[v2_,v1_,dm,da,da,uk],.tup [mZ,v1_])
def P5:FuncId×List AV×AV:=(151,[v4_,iF,TP],.tup [yo,fL,v1_])
def Pg:FuncId×List AV×AV:=(113,[w9,v0_,Jj,fI],.tup [vp,v1_])
def EV:FuncId×List AV×AV:=(163,[mZ],v9_)
def G2:FuncId×List AV×AV:=(24,[v9_],v9_)
def jD:FuncId×List AV×AV:=(160,[mZ],v1_)
def Ow:FuncId×List AV×AV:=(139,[vp],v1_)
def AD:FuncId×List AV×AV:=(142,[mZ],v9_)
def Bb:FuncId×List AV×AV:=(47,[uk,uk],v1_)
def Pu:FuncId×List AV×AV:=(161,[mZ,iF,da],.tup [v3_,fL,v1_])
def NQ:FuncId×List AV×AV:=(48,[dm,da],f9)
def NR:FuncId×List AV×AV:=(48,[fI,da],dU)
def Pk:FuncId×List AV×AV:=(171,[iF,da],.tup [dm,dU])
def Nr:FuncId×List AV×AV:=(162,[vp,da],dU)
def AL:FuncId×List AV×AV:=(38,[.one (xW [[1],[1]])],i3)
def BN:FuncId×List AV×AV:=(49,[i3,v3_],v1_)
def M4:FuncId×List AV×AV:=(48,[dm,i3],f9)
def OG:FuncId×List AV×AV:=(48,[fI,i3],f9)
def PJ:FuncId×List AV×AV:=(171,[iF,i3],.tup [fL,f9])
def NG:FuncId×List AV×AV:=(161,[mZ,iF,dm],.tup [v1_,i3,v1_])
def Ph:FuncId×List AV×AV:=(162,[vp,dm],dU)
def wM:FuncId×List AV×AV:=(38,[.one (xW [[0],[0]])],gY)
def Fb:FuncId×List AV×AV:=(49,[gY,v3_],v1_)
def uP:FuncId×List AV×AV:=(38,[.one (xW [[0,0],[1]])],jE)
def vg:FuncId×List AV×AV:=(49,[jE,v3_],v1_)
def HI:FuncId×List AV×AV:=(48,[dm,jE],f9)
def Hf:FuncId×List AV×AV:=(48,[fI,jE],f9)
def Jt:FuncId×List AV×AV:=(171,[iF,jE],.tup [fL,f9])
def II:FuncId×List AV×AV:=(161,[mZ,iF,gY],.tup [v1_,jE,v1_])
def I8:FuncId×List AV×AV:=(48,[dm,gY],f9)
def Hl:FuncId×List AV×AV:=(48,[fI,gY],f9)
def Iu:FuncId×List AV×AV:=(171,[iF,gY],.tup [fL,f9])
def IR:FuncId×List AV×AV:=(162,[vp,gY],f9)
def v7:FuncId×List AV×AV:=(38,[.one (xW [[0,1],[1]])],jF)
def uO:FuncId×List AV×AV:=(49,[jF,v3_],v1_)
def Hn:FuncId×List AV×AV:=(48,[dm,jF],f9)
def Iw:FuncId×List AV×AV:=(48,[fI,jF],f9)
def Il:FuncId×List AV×AV:=(171,[iF,jF],.tup [fL,f9])
def Iz:FuncId×List AV×AV:=(161,[mZ,iF,fI],.tup [v1_,jF,v1_])
def If:FuncId×List AV×AV:=(162,[vp,fI],dU)
def HF:FuncId×List AV×AV:=(21,[.one (xW [[1,1],[0,0],[0,0,1],[0,1,1]])],wY)
def HK:FuncId×List AV×AV:=(140,[vp],.tup [.one (.list (.pair tL (.pair tI .unit)) ([([0],(2,())),([1],(0,())),([0,0],(0,())),([0,1],(0,()))]:Ty.den (.list (.pair tL (.pair tI .unit))))),wY,v1_])
def Jz:FuncId×List AV×AV:=(109,[yo,iF],.tup [yo,wY,f9,v1_])
def Bg:FuncId×List AV×AV:=(67,[v0_,i3],.tup [gY,v1_])
def HE:FuncId×List AV×AV:=(145,[iF,.agg [xL [1,1],xL [0,0]]],.tup [TO,v1_])
def By:FuncId×List AV×AV:=(67,[v0_,jE],.tup [xp,v1_])
def Jr:FuncId×List AV×AV:=(145,[TO,.agg [xL [0,0,1],xL [1,1,2]]],.tup [TJ,v1_])
def Bn:FuncId×List AV×AV:=(67,[v0_,jF],.tup [E1,v1_])
def I2:FuncId×List AV×AV:=(145,[TJ,.agg [xL [0,1,1],xL [1,2,0]]],.tup [iX,v1_])
def Ie:FuncId×List AV×AV:=(110,[v0_,iF,wY],.tup [iX,v1_])
def Bh:FuncId×List AV×AV:=(139,[pq],v1_)
def HJ:FuncId×List AV×AV:=(48,[i3,fI],f9)
def HT:FuncId×List AV×AV:=(48,[jE,fI],f9)
def IQ:FuncId×List AV×AV:=(48,[jF,fI],dU)
def uV:FuncId×List AV×AV:=(171,[iX,fI],.tup [zg,dU])
def JL:FuncId×List AV×AV:=(161,[mZ,iX,da],.tup [v3_,fL,v1_])
def JH:FuncId×List AV×AV:=(48,[i3,da],f9)
def Ij:FuncId×List AV×AV:=(48,[jE,da],dU)
def AE:FuncId×List AV×AV:=(171,[iX,da],.tup [dm,dU])
def IZ:FuncId×List AV×AV:=(162,[pq,da],dU)
def Jk:FuncId×List AV×AV:=(48,[i3,i3],dU)
def Jv:FuncId×List AV×AV:=(35,[gY],gY)
def I7:FuncId×List AV×AV:=(171,[iX,i3],.tup [gY,dU])
def C0:FuncId×List AV×AV:=(47,[uk,da],wK)
def AU:FuncId×List AV×AV:=(47,[da,da],v1_)
def Js:FuncId×List AV×AV:=(161,[mZ,iX,dm],.tup [wK,fL,v1_])
def GR:FuncId×List AV×AV:=(48,[i3,dm],dU)
def AW:FuncId×List AV×AV:=(171,[iX,dm],.tup [da,dU])
def HH:FuncId×List AV×AV:=(162,[pq,dm],dU)
def Ik:FuncId×List AV×AV:=(48,[i3,jE],f9)
def Hi:FuncId×List AV×AV:=(48,[jE,jE],dU)
def ID:FuncId×List AV×AV:=(35,[xp],xp)
def JT:FuncId×List AV×AV:=(171,[iX,jE],.tup [xp,dU])
def Jx:FuncId×List AV×AV:=(161,[mZ,iX,gY],.tup [v3_,fL,v1_])
def H9:FuncId×List AV×AV:=(48,[i3,gY],f9)
def HA:FuncId×List AV×AV:=(48,[jE,gY],dU)
def H7:FuncId×List AV×AV:=(35,[i3],i3)
def Bj:FuncId×List AV×AV:=(171,[iX,gY],.tup [i3,dU])
def Jf:FuncId×List AV×AV:=(162,[pq,gY],dU)
def Hs:FuncId×List AV×AV:=(48,[i3,jF],f9)
def I5:FuncId×List AV×AV:=(48,[jE,jF],f9)
def JG:FuncId×List AV×AV:=(48,[jF,jF],dU)
def IG:FuncId×List AV×AV:=(35,[E1],E1)
def Hu:FuncId×List AV×AV:=(171,[iX,jF],.tup [E1,dU])
def Hy:FuncId×List AV×AV:=(161,[mZ,iX,fI],.tup [wK,fL,v1_])
def H6:FuncId×List AV×AV:=(162,[pq,fI],dU)
def C3:FuncId×List AV×AV:=(140,[pq],.tup [.one (.list (.pair tL (.pair tI .unit)) ([([0],(2,())),([1],(1,())),([0,0],(2,())),([0,1],(1,()))]:Ty.den (.list (.pair tL (.pair tI .unit))))),.one (xW []),v1_])
def Hr:FuncId×List AV×AV:=(109,[yo,iX],.tup [yo,fL,dU,v1_])
def Ic:FuncId×List AV×AV:=(110,[v0_,iX,fL],.tup [iX,v1_])
def I9:FuncId×List AV×AV:=(144,[pq,v5_,da],dm)
def Jd:FuncId×List AV×AV:=(144,[pq,v5_,dm],da)
def Ir:FuncId×List AV×AV:=(144,[pq,da,da],dm)
def Jy:FuncId×List AV×AV:=(144,[pq,da,dm],uk)
def Bo:FuncId×List AV×AV:=(107,[v0_,v1_,v5_],.tup [v5_,v1_,v1_])
def BE:FuncId×List AV×AV:=(107,[v0_,v1_,da],.tup [dm,wK,v1_])
def H5:FuncId×List AV×AV:=(148,[LY],v1_)
def GP:FuncId×List AV×AV:=(111,[yo,iX],.tup [LY,v1_])
def JC:FuncId×List AV×AV:=(112,[v0_,v0_],.tup [v5_,f9,v1_])
def S8:FuncId×List AV×AV:=(69,[v0_],.tup [LY,iX,v3_,v1_])
def Iy:FuncId×List AV×AV:=(5,[v0_],.tup [v0_,v1_])
def GX:FuncId×List AV×AV:=(49,[fL,v3_],v1_)
def GW:FuncId×List AV×AV:=(35,[fL],fL)
def Ja:FuncId×List AV×AV:=(62,[v3_,wK],.tup [.one (xW [[],[0],[1]]),v1_])
def H3:FuncId×List AV×AV:=(74,[v0_],dU)
def HU:FuncId×List AV×AV:=(41,[v0_,v1_,wK],.tup [dm,dU,v1_])
def IC:FuncId×List AV×AV:=(24,[ub],ub)
def In:FuncId×List AV×AV:=(63,[v0_],.tup [yY,v1_])
def JQ:FuncId×List AV×AV:=(38,[.one (xW [[],[]])],v5_)
def GV:FuncId×List AV×AV:=(65,[v0_,yY,v5_],.tup [ub,v1_])
def Hd:FuncId×List AV×AV:=(65,[v0_,yY,da],.tup [ub,v1_])
def Hq:FuncId×List AV×AV:=(107,[v0_,v1_,dm],.tup [da,v1_,v1_])
def Jw:FuncId×List AV×AV:=(65,[v0_,yY,dm],.tup [ub,v1_])
def HD:FuncId×List AV×AV:=(38,[.one (xW [[0],[]])],da)
def J5:FuncId×List AV×AV:=(107,[v0_,v1_,gY],.tup [i3,wK,v1_])
def Hh:FuncId×List AV×AV:=(65,[v0_,yY,gY],.tup [ub,v1_])
def Jh:FuncId×List AV×AV:=(107,[v0_,v1_,fI],.tup [zg,v1_,v1_])
def IH:FuncId×List AV×AV:=(65,[v0_,yY,fI],.tup [ub,v1_])
def GS:FuncId×List AV×AV:=(21,[.one (xW [[1],[0,1],[1,1],[0,1],[0,0,1],[0,1,1]])],wY)
def Sr:FuncId×List AV×AV:=(31,[v0_,v1_],.tup [wY,v1_])
def HZ:FuncId×List AV×AV:=(16,[Df],v1_)
def J8:FuncId×List AV×AV:=(67,[Df,i3],.tup [gY,v1_])
def H0:FuncId×List AV×AV:=(68,[gY,gY],v3_)
def Jn:FuncId×List AV×AV:=(67,[Df,jE],.tup [xp,v1_])
def GQ:FuncId×List AV×AV:=(68,[xp,xp],.one (.int .i64 3))
def IE:FuncId×List AV×AV:=(67,[Df,jF],.tup [.one (xL [1,2,2]),v1_])
def Hk:FuncId×List AV×AV:=(68,[E1,.one (xL [1,2,2])],v3_)
def HR:FuncId×List AV×AV:=(38,[.one (xW [[0,1,1]])],jF)
def Se:FuncId×List AV×AV:=(32,[v0_,Df,wY],.tup [jF,f9,v1_])
theorem toP {P:Program}{f:FuncId}{a a2:List AV}{r r2:AV}(h:aY P f a r)(hl:vZ a2 a=true)(e:r=r2):aY P f a2 r2:=e▸xm hl h
theorem Cy:EP Tryz.prog yQ:=toP (fu ⟨2,0,[[1,0],[1,0]],[[1,0],[1,2]]⟩) ζ ζ
theorem VC:EP Tryz.prog TK:=aO (n:=3000) (bf (t:=[]) trivial) ζ
theorem Vy:EP Tryz.prog Tx:=aO (n:=3000) (bf (t:=[TK]) ⟨VC,trivial⟩) ζ
theorem Tz:EP Tryz.prog Na:=toP (eO [] 64) ζ ζ
theorem M0:EP Tryz.prog Hc:=toP (dP [[]] δ) ζ ζ
theorem NI:EP Tryz.prog Ip:=aO (n:=3000) (bf (t:=[Hc]) ⟨M0,trivial⟩) ζ
theorem TH:EP Tryz.prog Qc:=toP (iL [[]] δ δ) ζ (congrArg (λl=>AV.one (xW l)) (uK (L:=[[]]) ζ))
theorem pu:EP Tryz.prog nF:=aO (n:=3000) (bf (t:=[Qc,Ip,Na]) ⟨TH,NI,Tz,trivial⟩) ζ
theorem yx:EP Tryz.prog ya:=toP (eO [] 2) ζ ζ
theorem Vj:EP Tryz.prog TL:=aO (n:=3000) (bf (t:=[ya,nF]) ⟨yx,pu,trivial⟩) ζ
theorem AI:EP Tryz.prog wv:=aO (n:=3000) (bf (t:=[Qc,Ip,nF]) ⟨TH,NI,pu,trivial⟩) ζ
theorem o7:EP Tryz.prog mC:=toP (dP [[],[0]] δ) ζ ζ
theorem nA:EP Tryz.prog mB:=toP (eO [0] 2) ζ ζ
theorem V6:EP Tryz.prog NC:=aO (n:=3000) (bf (t:=[mB,nF]) ⟨nA,pu,trivial⟩) ζ
theorem TZ:EP Tryz.prog Qj:=aO (n:=3000) (bf (t:=[]) trivial) ζ
theorem UN:EP Tryz.prog Q6:=aO (n:=3000) (bf (t:=[Qj]) ⟨TZ,trivial⟩) ζ
theorem ic:EP Tryz.prog gS:=toP (dP [[],[1]] δ) ζ ζ
theorem nP:EP Tryz.prog mN:=toP (eO [1] 2) ζ ζ
theorem Ue:EP Tryz.prog Pq:=aO (n:=3000) (bf (t:=[mN,nF]) ⟨nP,pu,trivial⟩) ζ
theorem Ui:EP Tryz.prog OO:=aO (n:=3000) (bf (t:=[]) trivial) ζ
theorem Uy:EP Tryz.prog OH:=aO (n:=3000) (bf (t:=[OO]) ⟨Ui,trivial⟩) ζ
theorem UT:EP Tryz.prog MT:=toP (oA [[0],[1]] δ δ) ζ (congrArg (λl=>AV.one (xW l)) (uJ [[0],[1]] [[0],[1]] ζ ζ))
theorem UJ:EP Tryz.prog PC:=aO (n:=3000) (bf (t:=[MT,OH,Pq,gS,Q6,NC,mC,wv]) ⟨UT,Uy,Ue,ic,UN,V6,o7,AI,trivial⟩) ζ
theorem U7:EP Tryz.prog Ml:=aO (n:=3000) (bf (t:=[PC,TL]) ⟨UJ,Vj,trivial⟩) ζ
theorem Vc:EP Tryz.prog Nu:=toP (jM ⟨2,0,[[1,0],[1,0]],[[1,0],[1,2]]⟩ [0]) ζ ζ
theorem Ve:EP Tryz.prog LV:=toP (oX 2 [] ([0],([1],())) (kA ζ) (oY ζ) δ) ζ ζ
theorem Uw:EP Tryz.prog MR:=toP (jM ⟨2,0,[[1,0],[1,0]],[[1,0],[1,2]]⟩ [1]) ζ ζ
theorem Ug:EP Tryz.prog Nv:=toP (oX 2 [([0],([1],()))] ([1],([0],())) (kA ζ) (oY ζ) δ) ζ ζ
theorem V9:EP Tryz.prog Q5:=aO (n:=3000) (bf (t:=[Nv,MR,LV,Nu]) ⟨Ug,Uw,Ve,Vc,trivial⟩) ζ
theorem Nd:EP Tryz.prog Gs:=aO (n:=3000) (bf (t:=[ya,nF]) ⟨yx,pu,trivial⟩) ζ
theorem TY:EP Tryz.prog PD:=aO (n:=3000) (bf (t:=[mB,nF]) ⟨nA,pu,trivial⟩) ζ
theorem Uu:EP Tryz.prog MH:=toP (cL [0] [0] δ δ) ζ ζ
theorem BU:EP Tryz.prog wJ:=toP (fz [1] δ) ζ ζ
theorem Nz:EP Tryz.prog Gr:=aO (n:=3000) (bf (t:=[wJ,MH]) ⟨BU,Uu,trivial⟩) ζ
theorem UC:EP Tryz.prog N3:=aO (n:=3000) (bf (t:=[Gr]) ⟨Nz,trivial⟩) ζ
theorem UF:EP Tryz.prog NS:=aO (n:=3000) (bf (t:=[mN,nF]) ⟨nP,pu,trivial⟩) ζ
theorem US:EP Tryz.prog PI:=toP (cL [0] [1] δ δ) ζ ζ
theorem P8:EP Tryz.prog Gt:=toP (cL [1] [1] δ δ) ζ ζ
theorem Gy:EP Tryz.prog AM:=toP (fz [0] δ) ζ ζ
theorem Ok:EP Tryz.prog Gi:=aO (n:=3000) (bf (t:=[AM,Gt,PI]) ⟨Gy,P8,US,trivial⟩) ζ
theorem UW:EP Tryz.prog M5:=aO (n:=3000) (bf (t:=[Gi]) ⟨Ok,trivial⟩) ζ
theorem N2:EP Tryz.prog GF:=toP (oA [] δ δ) ζ (congrArg (λl=>AV.one (xW l)) (uJ [] [] ζ ζ))
theorem Me:EP Tryz.prog Fl:=aO (n:=3000) (bf (t:=[GF,M5,NS,gS,N3,PD,mC,wv]) ⟨N2,UW,UF,ic,UC,TY,o7,AI,trivial⟩) ζ
theorem V0:EP Tryz.prog Ni:=aO (n:=3000) (bf (t:=[Fl,Gs]) ⟨Me,Nd,trivial⟩) ζ
theorem TR:EP Tryz.prog Oi:=aO (n:=3000) (bf (t:=[]) trivial) ζ
theorem V7:EP Tryz.prog Qg:=aO (n:=3000) (bf (t:=[Gr,mC]) ⟨Nz,o7,trivial⟩) ζ
theorem U4:EP Tryz.prog ON:=aO (n:=3000) (bf (t:=[Gi,gS]) ⟨Ok,ic,trivial⟩) ζ
theorem U3:EP Tryz.prog Po:=toP (fu ⟨2,0,[[0,0]],[[1,0]]⟩) ζ ζ
theorem V8:EP Tryz.prog NX:=toP (mz ⟨2,0,[[0,0]],[[1,0]]⟩ 0 []) ζ ζ
theorem Oj:EP Tryz.prog EI:=aO (n:=3000) (bf (t:=[NX,Po]) ⟨V8,U3,trivial⟩) ζ
theorem Uq:EP Tryz.prog PL:=aO (n:=3000) (bf (t:=[EI,ON,Qg,wv,Fl,Gs]) ⟨Oj,U4,V7,AI,Me,Nd,trivial⟩) ζ
theorem Ub:EP Tryz.prog N1:=toP (BY ⟨2,0,[[0,0]],[[1,0]]⟩ ⟨2,0,[[1,0],[1,0]],[[1,0],[1,2]]⟩) ζ ζ
theorem Ua:EP Tryz.prog Mf:=toP (jM ⟨2,0,[[1,0],[1,0]],[[1,0],[1,2]]⟩ [0,1]) ζ ζ
theorem UA:EP Tryz.prog Ob:=toP (oX 2 [([0],([1],())),([1],([0],()))] ([0,1],([1,2],())) (kA ζ) (oY ζ) δ) ζ ζ
theorem Va:EP Tryz.prog OX:=aO (n:=3000) (bf (t:=[Ob,Mf]) ⟨UA,Ua,trivial⟩) ζ
theorem xe:EP Tryz.prog sn:=toP (eO [0,1] 2) ζ ζ
theorem Uf:EP Tryz.prog Pl:=toP (cL [1] [0,1] δ δ) ζ ζ
theorem UX:EP Tryz.prog Ov:=toP (cL [0,1] [0,1] δ δ) ζ ζ
theorem OS:EP Tryz.prog Gd:=toP (fz [1,2] δ) ζ ζ
theorem wP:EP Tryz.prog rE:=aO (n:=3000) (bf (t:=[Gd,Ov,Pl]) ⟨OS,UX,Uf,trivial⟩) ζ
theorem Bp:EP Tryz.prog wH:=aO (n:=3000) (bf (t:=[AM,Gt]) ⟨Gy,P8,trivial⟩) ζ
theorem UP:EP Tryz.prog Nx:=toP (dP [[],[0,1]] δ) ζ ζ
theorem Nj:EP Tryz.prog Fc:=toP (fz [] δ) ζ ζ
theorem Uc:EP Tryz.prog Od:=aO (n:=3000) (bf (t:=[wJ,Fc,Nx,wH,gS,rE,sn,EI]) ⟨BU,Nj,UP,Bp,ic,wP,xe,Oj,trivial⟩) ζ
theorem TT:EP Tryz.prog Mn:=aO (n:=3000) (bf (t:=[ya,nF]) ⟨yx,pu,trivial⟩) ζ
theorem Uv:EP Tryz.prog N4:=aO (n:=3000) (bf (t:=[mB,nF]) ⟨nA,pu,trivial⟩) ζ
theorem nL:EP Tryz.prog mv:=toP (dP [[0],[1]] δ) ζ ζ
theorem UH:EP Tryz.prog P3:=aO (n:=3000) (bf (t:=[wH]) ⟨Bp,trivial⟩) ζ
theorem TU:EP Tryz.prog PO:=aO (n:=3000) (bf (t:=[rE]) ⟨wP,trivial⟩) ζ
theorem V3:EP Tryz.prog O5:=aO (n:=3000) (bf (t:=[wH,gS]) ⟨Bp,ic,trivial⟩) ζ
theorem Ux:EP Tryz.prog Ol:=aO (n:=3000) (bf (t:=[rE,mv]) ⟨wP,nL,trivial⟩) ζ
theorem Mv:EP Tryz.prog Gf:=toP (eO [1] 64) ζ ζ
theorem Py:EP Tryz.prog GG:=toP (eO [0] 64) ζ ζ
theorem V2:EP Tryz.prog No:=toP (dP [[1]] δ) ζ ζ
theorem OI:EP Tryz.prog Gu:=toP (dP [[0]] δ) ζ ζ
theorem UU:EP Tryz.prog N8:=toP (dP [[2]] δ) ζ ζ
theorem vH:EP Tryz.prog tc:=toP (qT [0] [2]) ζ ζ
theorem Uz:EP Tryz.prog MC:=aO (n:=3000) (bf (t:=[tc,N8,Gu,No,Fc,Hc,Ip,GG,Gf,nF]) ⟨vH,UU,OI,V2,Nj,M0,NI,Py,Mv,pu,trivial⟩) ζ
theorem V1:EP Tryz.prog P5:=aO (n:=3000) (bf (t:=[MC,Ol,O5,wv,PO,P3,mv,gS,N4,mC,mN,ya,Mn]) ⟨Uz,Ux,V3,AI,TU,UH,nL,ic,Uv,o7,nP,yx,TT,trivial⟩) ζ
theorem Uo:EP Tryz.prog Pg:=aO (n:=3000) (bf (t:=[P5,Od,OX]) ⟨V1,Uc,Va,trivial⟩) ζ
theorem Pn:EP Tryz.prog EV:=aO (n:=3000) (bf (t:=[Gu,Hc]) ⟨OI,M0,trivial⟩) ζ
theorem Pr:EP Tryz.prog G2:=toP (iL [[],[0]] δ δ) ζ (congrArg (λl=>AV.one (xW l)) (uK (L:=[[],[0]]) ζ))
theorem kt:EP Tryz.prog jD:=aO (n:=3000) (bf (t:=[G2,EV,GG,Na,tc,Gf]) ⟨Pr,Pn,Py,Tz,vH,Mv,trivial⟩) ζ
theorem UO:EP Tryz.prog Ow:=aO (n:=3000) (bf (t:=[mB,mN,ya,jD]) ⟨nA,nP,yx,kt,trivial⟩) ζ
theorem Gw:EP Tryz.prog AD:=aO (n:=3000) (bf (t:=[G2,EV,jD]) ⟨Pr,Pn,kt,trivial⟩) ζ
theorem FY:EP Tryz.prog Bb:=toP (qT [2] [2]) ζ ζ
theorem UI:EP Tryz.prog Pu:=aO (n:=3000) (bf (t:=[tc,Bb,rE,sn,mv,mB,jD]) ⟨vH,FY,wP,xe,nL,nA,kt,trivial⟩) ζ
theorem Ur:EP Tryz.prog NQ:=toP (cL [1] [0] δ δ) ζ ζ
theorem Vd:EP Tryz.prog NR:=toP (cL [0,1] [0] δ δ) ζ ζ
theorem TV:EP Tryz.prog Pk:=aO (n:=3000) (bf (t:=[wJ,NR,NQ]) ⟨BU,Vd,Ur,trivial⟩) ζ
theorem U1:EP Tryz.prog Nr:=aO (n:=3000) (bf (t:=[Pk]) ⟨TV,trivial⟩) ζ
theorem Ga:EP Tryz.prog AL:=toP (dP [[1],[1]] δ) ζ ζ
theorem EM:EP Tryz.prog BN:=toP (eO [1,1] 2) ζ ζ
theorem Up:EP Tryz.prog M4:=toP (cL [1] [1,1] δ δ) ζ ζ
theorem Uh:EP Tryz.prog OG:=toP (cL [0,1] [1,1] δ δ) ζ ζ
theorem V5:EP Tryz.prog PJ:=aO (n:=3000) (bf (t:=[OG,M4]) ⟨Uh,Up,trivial⟩) ζ
theorem U0:EP Tryz.prog NG:=aO (n:=3000) (bf (t:=[PJ,BN,AL,mN,jD]) ⟨V5,EM,Ga,nP,kt,trivial⟩) ζ
theorem UV:EP Tryz.prog Ph:=aO (n:=3000) (bf (t:=[wH]) ⟨Bp,trivial⟩) ζ
theorem Bf:EP Tryz.prog wM:=toP (dP [[0],[0]] δ) ζ ζ
theorem Pz:EP Tryz.prog Fb:=toP (eO [0,0] 2) ζ ζ
theorem AA:EP Tryz.prog uP:=toP (dP [[0,0],[1]] δ) ζ ζ
theorem B5:EP Tryz.prog vg:=toP (eO [0,0,1] 2) ζ ζ
theorem Re:EP Tryz.prog HI:=toP (cL [1] [0,0,1] δ δ) ζ ζ
theorem R9:EP Tryz.prog Hf:=toP (cL [0,1] [0,0,1] δ δ) ζ ζ
theorem Qs:EP Tryz.prog Jt:=aO (n:=3000) (bf (t:=[Hf,HI]) ⟨R9,Re,trivial⟩) ζ
theorem SH:EP Tryz.prog II:=aO (n:=3000) (bf (t:=[Jt,vg,uP,Fb,jD]) ⟨Qs,B5,AA,Pz,kt,trivial⟩) ζ
theorem QH:EP Tryz.prog I8:=toP (cL [1] [0,0] δ δ) ζ ζ
theorem R0:EP Tryz.prog Hl:=toP (cL [0,1] [0,0] δ δ) ζ ζ
theorem SR:EP Tryz.prog Iu:=aO (n:=3000) (bf (t:=[Hl,I8]) ⟨R0,QH,trivial⟩) ζ
theorem Sw:EP Tryz.prog IR:=aO (n:=3000) (bf (t:=[Iu]) ⟨SR,trivial⟩) ζ
theorem Bd:EP Tryz.prog v7:=toP (dP [[0,1],[1]] δ) ζ ζ
theorem Bv:EP Tryz.prog uO:=toP (eO [0,1,1] 2) ζ ζ
theorem Sb:EP Tryz.prog Hn:=toP (cL [1] [0,1,1] δ δ) ζ ζ
theorem Sn:EP Tryz.prog Iw:=toP (cL [0,1] [0,1,1] δ δ) ζ ζ
theorem SJ:EP Tryz.prog Il:=aO (n:=3000) (bf (t:=[Iw,Hn]) ⟨Sn,Sb,trivial⟩) ζ
theorem QO:EP Tryz.prog Iz:=aO (n:=3000) (bf (t:=[Il,uO,v7,sn,jD]) ⟨SJ,Bv,Bd,xe,kt,trivial⟩) ζ
theorem Qt:EP Tryz.prog If:=aO (n:=3000) (bf (t:=[rE]) ⟨wP,trivial⟩) ζ
theorem R2:EP Tryz.prog HF:=toP (oA [[1,1],[0,0],[0,0,1],[0,1,1]] δ δ) ζ (congrArg (λl=>AV.one (xW l)) (uJ [[0,0],[0,0,1],[0,1,1],[1,1]] [[1,1],[0,0,1],[0,1,1]] ζ ζ))
theorem Ql:EP Tryz.prog HK:=aO (n:=3000) (bf (t:=[HF,If,Iz,mv,IR,II,wM,Ph,NG,gS,Nr,Pu,mC,AD]) ⟨R2,Qt,QO,nL,Sw,SH,Bf,UV,U0,ic,U1,UI,o7,Gw,trivial⟩) ζ
theorem Rf:EP Tryz.prog Jz:=aO (n:=3000) (bf (t:=[HK,Ow]) ⟨Ql,UO,trivial⟩) ζ
theorem Ih:EP Tryz.prog Bg:=toP (jM ⟨2,0,[[1,0],[1,0]],[[1,0],[1,2]]⟩ [1,1]) ζ ζ
theorem Qq:EP Tryz.prog HE:=toP (oX 2 [([1],([0],())),([0,1],([1,2],()))] ([1,1],([0,0],())) (kA ζ) (oY ζ) δ) ζ ζ
theorem JN:EP Tryz.prog By:=toP (jM ⟨2,0,[[1,0],[1,0]],[[1,0],[1,2]]⟩ [0,0,1]) ζ ζ
theorem QD:EP Tryz.prog Jr:=toP (oX 2 [([0,1],([1,2],())),([1,1],([0,0],()))] ([0,0,1],([1,1,2],())) (kA ζ) (oY ζ) δ) ζ ζ
theorem Jm:EP Tryz.prog Bn:=toP (jM ⟨2,0,[[1,0],[1,0]],[[1,0],[1,2]]⟩ [0,1,1]) ζ ζ
theorem T0:EP Tryz.prog I2:=toP (oX 2 [([0,1],([1,2],())),([1,1],([0,0],())),([0,0,1],([1,1,2],()))] ([0,1,1],([1,2,0],())) (kA ζ) (oY ζ) δ) ζ ζ
theorem QU:EP Tryz.prog Ie:=aO (n:=3000) (bf (t:=[I2,Bn,Jr,By,HE,Bg]) ⟨T0,Jm,QD,JN,Qq,Ih,trivial⟩) ζ
theorem Ha:EP Tryz.prog Bh:=aO (n:=3000) (bf (t:=[mB,mN,ya,jD]) ⟨nA,nP,yx,kt,trivial⟩) ζ
theorem QM:EP Tryz.prog HJ:=toP (cL [1,1] [0,1] δ δ) ζ ζ
theorem SW:EP Tryz.prog HT:=toP (cL [0,0,1] [0,1] δ δ) ζ ζ
theorem T5:EP Tryz.prog IQ:=toP (cL [0,1,1] [0,1] δ δ) ζ ζ
theorem B7:EP Tryz.prog uV:=aO (n:=3000) (bf (t:=[Gd,IQ,HT,HJ]) ⟨OS,T5,SW,QM,trivial⟩) ζ
theorem RD:EP Tryz.prog JL:=aO (n:=3000) (bf (t:=[tc,Bb,uV,sn,mv,mB,jD]) ⟨vH,FY,B7,xe,nL,nA,kt,trivial⟩) ζ
theorem Qr:EP Tryz.prog JH:=toP (cL [1,1] [0] δ δ) ζ ζ
theorem SQ:EP Tryz.prog Ij:=toP (cL [0,0,1] [0] δ δ) ζ ζ
theorem Ho:EP Tryz.prog AE:=aO (n:=3000) (bf (t:=[wJ,Ij,JH]) ⟨BU,SQ,Qr,trivial⟩) ζ
theorem S5:EP Tryz.prog IZ:=aO (n:=3000) (bf (t:=[AE]) ⟨Ho,trivial⟩) ζ
theorem SG:EP Tryz.prog Jk:=toP (cL [1,1] [1,1] δ δ) ζ ζ
theorem Rc:EP Tryz.prog Jv:=toP (fz [0,0] δ) ζ ζ
theorem R6:EP Tryz.prog I7:=aO (n:=3000) (bf (t:=[Jv,Jk]) ⟨Rc,SG,trivial⟩) ζ
theorem I3:EP Tryz.prog C0:=toP (qT [2] [0]) ζ ζ
theorem J4:EP Tryz.prog AU:=toP (qT [0] [0]) ζ ζ
theorem RN:EP Tryz.prog Js:=aO (n:=3000) (bf (t:=[AU,C0,I7,BN,AL,mN,jD]) ⟨J4,I3,R6,EM,Ga,nP,kt,trivial⟩) ζ
theorem R5:EP Tryz.prog GR:=toP (cL [1,1] [1] δ δ) ζ ζ
theorem GZ:EP Tryz.prog AW:=aO (n:=3000) (bf (t:=[AM,GR]) ⟨Gy,R5,trivial⟩) ζ
theorem T8:EP Tryz.prog HH:=aO (n:=3000) (bf (t:=[AW]) ⟨GZ,trivial⟩) ζ
theorem Rg:EP Tryz.prog Ik:=toP (cL [1,1] [0,0,1] δ δ) ζ ζ
theorem Ry:EP Tryz.prog Hi:=toP (cL [0,0,1] [0,0,1] δ δ) ζ ζ
theorem Rp:EP Tryz.prog ID:=toP (fz [1,1,2] δ) ζ ζ
theorem SV:EP Tryz.prog JT:=aO (n:=3000) (bf (t:=[ID,Hi,Ik]) ⟨Rp,Ry,Rg,trivial⟩) ζ
theorem Ti:EP Tryz.prog Jx:=aO (n:=3000) (bf (t:=[tc,Bb,JT,vg,uP,Fb,jD]) ⟨vH,FY,SV,B5,AA,Pz,kt,trivial⟩) ζ
theorem S6:EP Tryz.prog H9:=toP (cL [1,1] [0,0] δ δ) ζ ζ
theorem Sx:EP Tryz.prog HA:=toP (cL [0,0,1] [0,0] δ δ) ζ ζ
theorem S7:EP Tryz.prog H7:=toP (fz [1,1] δ) ζ ζ
theorem Jl:EP Tryz.prog Bj:=aO (n:=3000) (bf (t:=[H7,HA,H9]) ⟨S7,Sx,S6,trivial⟩) ζ
theorem SD:EP Tryz.prog Jf:=aO (n:=3000) (bf (t:=[Bj]) ⟨Jl,trivial⟩) ζ
theorem QY:EP Tryz.prog Hs:=toP (cL [1,1] [0,1,1] δ δ) ζ ζ
theorem QX:EP Tryz.prog I5:=toP (cL [0,0,1] [0,1,1] δ δ) ζ ζ
theorem Sm:EP Tryz.prog JG:=toP (cL [0,1,1] [0,1,1] δ δ) ζ ζ
theorem QI:EP Tryz.prog IG:=toP (fz [1,2,0] δ) ζ ζ
theorem Sz:EP Tryz.prog Hu:=aO (n:=3000) (bf (t:=[IG,JG,I5,Hs]) ⟨QI,Sm,QX,QY,trivial⟩) ζ
theorem RF:EP Tryz.prog Hy:=aO (n:=3000) (bf (t:=[AU,C0,Hu,uO,v7,sn,jD]) ⟨J4,I3,Sz,Bv,Bd,xe,kt,trivial⟩) ζ
theorem So:EP Tryz.prog H6:=aO (n:=3000) (bf (t:=[uV]) ⟨B7,trivial⟩) ζ
theorem IX:EP Tryz.prog C3:=aO (n:=3000) (bf (t:=[GF,H6,Hy,mv,Jf,Jx,wM,HH,Js,gS,IZ,JL,mC,AD]) ⟨N2,So,RF,nL,SD,Ti,Bf,T8,RN,ic,S5,RD,o7,Gw,trivial⟩) ζ
theorem Sh:EP Tryz.prog Hr:=aO (n:=3000) (bf (t:=[C3,Bh]) ⟨IX,Ha,trivial⟩) ζ
theorem SF:EP Tryz.prog Ic:=aO (n:=3000) (bf (t:=[]) trivial) ζ
theorem Rl:EP Tryz.prog I9:=aO (n:=3000) (bf (t:=[AE,mC]) ⟨Ho,o7,trivial⟩) ζ
theorem SX:EP Tryz.prog Jd:=aO (n:=3000) (bf (t:=[AW,gS]) ⟨GZ,ic,trivial⟩) ζ
theorem T4:EP Tryz.prog Ir:=aO (n:=3000) (bf (t:=[Bj,wM]) ⟨Jl,Bf,trivial⟩) ζ
theorem Sp:EP Tryz.prog Jy:=aO (n:=3000) (bf (t:=[uV,mv]) ⟨B7,nL,trivial⟩) ζ
theorem I4:EP Tryz.prog Bo:=toP (mz ⟨2,0,[[1,0],[1,0]],[[1,0],[1,2]]⟩ 0 []) ζ ζ
theorem It:EP Tryz.prog BE:=toP (mz ⟨2,0,[[1,0],[1,0]],[[1,0],[1,2]]⟩ 0 [0]) ζ ζ
theorem Ss:EP Tryz.prog H5:=aO (n:=3000) (bf (t:=[BE,Bo,yQ]) ⟨It,I4,Cy,trivial⟩) ζ
theorem RZ:EP Tryz.prog GP:=aO (n:=3000) (bf (t:=[H5,Jy,Ir,Jd,I9,AD,C3,Bh]) ⟨Ss,Sp,T4,SX,Rl,Gw,IX,Ha,trivial⟩) ζ
theorem Ru:EP Tryz.prog JC:=toP (BY ⟨2,0,[[1,0],[1,0]],[[1,0],[1,2]]⟩ ⟨2,0,[[1,0],[1,0]],[[1,0],[1,2]]⟩) ζ ζ
theorem Th:EP Tryz.prog S8:=aO (n:=3000) (bf (t:=[JC,GP,Ic,Hr,Ie,Jz,Pg,N1,PL,Oi,Ni,Q5,Ml,Tx,yQ]) ⟨Ru,RZ,SF,Sh,QU,Rf,Uo,Ub,Uq,TR,V0,V9,U7,Vy,Cy,trivial⟩) ζ
theorem Sa:EP Tryz.prog Iy:=toP (sq ⟨2,0,[[1,0],[1,0]],[[1,0],[1,2]]⟩) ζ ζ
theorem RK:EP Tryz.prog GX:=toP (eO [] 2) ζ ζ
theorem RQ:EP Tryz.prog GW:=toP (AN) ζ ζ
theorem Sd:EP Tryz.prog Ja:=aO (n:=3000) (bf (t:=[mN,mB,GW,GX]) ⟨nP,nA,RQ,RK,trivial⟩) ζ
theorem QW:EP Tryz.prog H3:=toP (A6 ⟨2,0,[[1,0],[1,0]],[[1,0],[1,2]]⟩) ζ ζ
theorem RH:EP Tryz.prog HU:=toP (Pf ⟨2,0,[[1,0],[1,0]],[[1,0],[1,2]]⟩ 0 1) ζ ζ
theorem RE:EP Tryz.prog IC:=toP (iL [[1]] δ δ) ζ (congrArg (λl=>AV.one (xW l)) (uK (L:=[[1]]) ζ))
theorem Qz:EP Tryz.prog In:=aO (n:=3000) (bf (t:=[IC,HU,H3,yQ]) ⟨RE,RH,QW,Cy,trivial⟩) ζ
theorem Ta:EP Tryz.prog JQ:=toP (dP [[],[]] δ) ζ ζ
theorem SM:EP Tryz.prog GV:=aO (n:=3000) (bf (t:=[gS,Bo]) ⟨ic,I4,trivial⟩) ζ
theorem Rv:EP Tryz.prog Hd:=aO (n:=3000) (bf (t:=[gS,BE]) ⟨ic,It,trivial⟩) ζ
theorem QA:EP Tryz.prog Hq:=toP (mz ⟨2,0,[[1,0],[1,0]],[[1,0],[1,2]]⟩ 0 [1]) ζ ζ
theorem Rn:EP Tryz.prog Jw:=aO (n:=3000) (bf (t:=[gS,Hq]) ⟨ic,QA,trivial⟩) ζ
theorem Qx:EP Tryz.prog HD:=toP (dP [[0],[]] δ) ζ ζ
theorem S4:EP Tryz.prog J5:=toP (mz ⟨2,0,[[1,0],[1,0]],[[1,0],[1,2]]⟩ 0 [0,0]) ζ ζ
theorem Qn:EP Tryz.prog Hh:=aO (n:=3000) (bf (t:=[gS,J5]) ⟨ic,S4,trivial⟩) ζ
theorem RJ:EP Tryz.prog Jh:=toP (mz ⟨2,0,[[1,0],[1,0]],[[1,0],[1,2]]⟩ 0 [0,1]) ζ ζ
theorem SN:EP Tryz.prog IH:=aO (n:=3000) (bf (t:=[gS,Jh]) ⟨ic,RJ,trivial⟩) ζ
theorem SI:EP Tryz.prog GS:=toP (oA [[1],[0,1],[1,1],[0,1],[0,0,1],[0,1,1]] δ δ) ζ (congrArg (λl=>AV.one (xW l)) (uJ [[0,0,1],[0,1],[0,1,1],[1],[1,1]] [[1,1],[0,0,1],[0,1,1]] ζ ζ))
theorem Tc:EP Tryz.prog Sr:=aO (n:=3000) (bf (t:=[GS,v7,IH,uP,Hh,wM,HD,AL,Jw,mv,Hd,gS,GV,JQ,In,Ja,mC,Iy,yQ]) ⟨SI,Bd,SN,AA,Qn,Bf,Qx,Ga,Rn,nL,Rv,ic,SM,Ta,Qz,Sd,o7,Sa,Cy,trivial⟩) ζ
theorem Qv:EP Tryz.prog HZ:=toP (fu ⟨2,0,[[1,0],[1,1]],[[1,0],[1,2]]⟩) ζ ζ
theorem S9:EP Tryz.prog J8:=toP (jM ⟨2,0,[[1,0],[1,1]],[[1,0],[1,2]]⟩ [1,1]) ζ ζ
theorem T3:EP Tryz.prog H0:=toP (mS [0,0] [0,0] δ δ) ζ ζ
theorem Sq:EP Tryz.prog Jn:=toP (jM ⟨2,0,[[1,0],[1,1]],[[1,0],[1,2]]⟩ [0,0,1]) ζ ζ
theorem Qw:EP Tryz.prog GQ:=toP (mS [1,1,2] [1,1,2] δ δ) ζ ζ
theorem Sl:EP Tryz.prog IE:=toP (jM ⟨2,0,[[1,0],[1,1]],[[1,0],[1,2]]⟩ [0,1,1]) ζ ζ
theorem Sj:EP Tryz.prog Hk:=toP (mS [1,2,0] [1,2,2] δ δ) ζ ζ
theorem RW:EP Tryz.prog HR:=toP (dP [[0,1,1]] δ) ζ ζ
theorem SL:EP Tryz.prog Se:=aO (n:=3000) (bf (t:=[HR,Hk,IE,Bn,GQ,Jn,By,H0,J8,Bg,uO,vg,BN,HZ,yQ]) ⟨RW,Sj,Sl,Jm,Qw,Sq,JN,T3,S9,Ih,Bv,B5,EM,Qv,Cy,trivial⟩) ζ
theorem Lj:aY Tryz.prog 69 [br.av] (.tup [.agg [.int .i64 2,.int .i64 0,.list Γ [[1,0],[1,0]],.list Γ [[1,0],[1,2]],.list Γ [[],[0]]],.agg [.int .i64 2,.list Ξ [([1,1],([0,0],())),([0,0,1],([1,1,2],())),([0,1,1],([1,2,0],()))]],.one (.int .i64 2),.one (.int .i64 0)]):=Th
theorem Kn:aY Tryz.prog 31 [br.av,.one (.int .i64 0)] (.tup [.one (.list Γ [[1,1],[0,0,1],[0,1,1]]),.one (.int .i64 0)]):=Tc
def vF:Mly:=⟨2,0,[[1,0],[1,1]],[[1,0],[1,2]]⟩
theorem Q1:aY Tryz.prog 32 [br.av,vF.av,.one (.list Γ [[1,1],[0,0,1],[0,1,1]])] (.tup [.one (.list Θ [0,1,1]),.one (.bool false),.one (.int .i64 0)]):=SL
theorem Fy:aY Tryz.prog 33 [] (.one (.bool true)):=by
 refine zQ 34 Tryz.func33 λC hP hN hB=>?_;have hX:KX [0,1,4,5,6]:=⟨trivial⟩
 refine zT0 ?_;refine aa λK2 k2=>am hP hN rfl ?_;refine NV (ak jP) ?_;refine NV (ak Lj) ?_
 iterate 11 refine zS1 ?_
 refine ah (k2 _ (kx ?_));refine aa λK3 k3=>am hP hN rfl ?_
 iterate 2 refine zS1 ?_
 refine NV (ak (sq br)) ?_
 iterate 6 refine zS1 ?_
 refine ah (k3 _ (kx ?_));refine aa λ_ k4=>?_;refine bz hP hN Tryz.mixed rfl ?_
 iterate 3 refine zS1 ?_
 refine' zJ true 2 22 (λhg5=>?a5) ?b5 ?c5
 case a5=>
  have hq5:=hg5;(try simp only[zB,reduceCtorEq] at hg5);simp only[zE]
  iterate 2 (refine db rfl λ_ k0=>?_;simp only[zO,zT,acs,reduceCtorEq,ad,J,ae,aj,af,ag,Mly.av,br];(repeat refine an ?_);(try refine .inl ?_);apply k0;clear k0;simp only[zP,J])
  refine zS1 ?_;refine ah ?_;exact zK hq5
 case b5=>exact cF
 simp only[bh,aX];refine zS1 ?_;refine' zJ true 3 26 (λhg6=>?a6) ?b6 ?c6
 case a6=>
  have hq6:=hg6;(try simp only[zB,reduceCtorEq] at hg6);simp only[zE]
  (refine db rfl λ_ k0=>?_;simp only[zO,zT,acs,reduceCtorEq,ad,J,ae,aj,af,ag,Mly.av,br];(repeat refine an ?_);(try refine .inl ?_);apply k0;clear k0;simp only[zP,J])
  refine db rfl λ_ k0=>?_;refine bo (h:=ak jP) rfl rfl (by first|exact rfl|(simp only[ev,zP,ad,J];exact rfl)) (by simp only[zV,acs,reduceCtorEq,ad,J,ae,aj,af,ag,Mly.av,br]) ?_;apply k0;clear k0;simp only[zP,J];refine db rfl λ_ k0=>?_;refine bo (h:=ak (uN br.mres br)) rfl rfl (by first|exact rfl|(simp only[ev,zP,ad,J];exact rfl)) (by simp only[zV,acs,reduceCtorEq,ad,J,ae,aj,af,ag,Mly.av,br]) ?_;apply k0;clear k0;simp only[zP,J];refine zS1 ?_;refine ah ?_;exact zK hq6
 case b6=>exact cF
 simp only[bh,aX];refine zS1 ?_;refine' zJ true 1 31 (λhg7=>?a7) ?b7 ?c7
 case a7=>
  have hq7:=hg7;(try simp only[zB,reduceCtorEq] at hg7);simp only[zE];refine db rfl λ_ k0=>?_;refine bo (h:=ak PZ) rfl rfl (by first|exact rfl|(simp only[ev,zP,ad,J];exact rfl)) (by simp only[zV,acs,reduceCtorEq,ad,J,ae,aj,af,ag,Mly.av,br]) ?_;apply k0;clear k0;simp only[zP,J];refine zS1 ?_;refine ah ?_;exact zK hq7
 case b7=>exact cF
 simp only[bh,aX];refine zS1 ?_;refine ah ?_;refine⟨ζ,?_⟩;refine k4 _ (kx ?_);refine aA ?_;refine⟨nr,_,rfl,?_⟩;simp only[zF,zP,ad,J,Mly.av,br];refine VLE.of_eq ?_;refine congrArg (λb=>AV.one (AC.bool b)) ?_;decide+kernel
theorem Ly:aY Tryz.prog 13 [] (.one (.bool true)):=by
 refine zQ 44 Tryz.func13 λC hP hN hB=>?_;have hX:KX [0,1,2,3,4,5,6]:=⟨trivial⟩
 refine aa λK1 k1=>am hP hN rfl ?_;refine kU ?_;refine ah (k1 _ (kx ?_));refine aa λK2 k2=>am hP hN rfl ?_;refine Ci (ak jP) ?_;refine Ci (ak Kn) ?_
 iterate 5 refine kU ?_
 refine ah (k2 _ (kx ?_));refine aa λK3 k3=>am hP hN rfl ?_;refine Ci (QR) ?_
 iterate 2 refine kU ?_
 refine ah (k3 _ (kx ?_));refine aa λK4 k4=>am hP hN rfl ?_
 iterate 6 (refine aw rfl λ_ k0=>?_;simp only[zO,zT,acs,reduceCtorEq,ad,J,ae,aj,af,ag,Mly.av,br,vF,show Int.toNat 1=1 from rfl,List.getD_cons_succ,aI];(repeat refine an ?_);(try refine .inl ?_);apply k0;clear k0;simp only[zP,J])
 refine ah (k4 _ (kx ?_));refine aa λ_ k5=>?_;refine j4 1 2 rfl rfl ?_;simp only[aJ,aV,frC,zS,ad,ZW,reduceCtorEq];refine iM 2 3 2 Γ 2 (xs:=[[1,0],[1,1]]) rfl rfl rfl rfl rfl ?_;simp only[zS];refine eI 2 3 rfl rfl ?_;simp only[aJ,aV,frC,zS,ad,ZW,reduceCtorEq];refine bz hP hN Tryz.mixed rfl ?_;refine Ci (ak jP) ?_
 iterate 2 refine kU ?_
 refine Ci (ak Q1) ?_
 iterate 7 refine kU ?_
 refine ah ?_;refine⟨ζ,?_⟩;refine k5 _ (kx ?_);refine aa λK6 k6=>am hP hN rfl ?_
 iterate 3 refine kU ?_
 refine' zJ true 2 28 (λhg7=>?a7) ?b7 ?c7
 case a7=>
  have hq7:=hg7;(try simp only[zB,reduceCtorEq] at hg7);simp only[zE]
  iterate 2 refine MZ ?_
  refine kU ?_;refine ah ?_;exact zK hq7
 case b7=>exact cF
 simp only[bh,aX];refine kU ?_;refine' zJ true 2 32 (λhg8=>?a8) ?b8 ?c8
 case a8=>
  have hq8:=hg8;(try simp only[zB,reduceCtorEq] at hg8);simp only[zE]
  iterate 2 refine MZ ?_
  refine kU ?_;refine ah ?_;exact zK hq8
 case b8=>exact cF
 simp only[bh,aX];refine kU ?_;refine' zJ true 3 36 (λhg9=>?a9) ?b9 ?c9
 case a9=>
  have hq9:=hg9;(try simp only[zB,reduceCtorEq] at hg9);simp only[zE]
  iterate 3 refine MZ ?_
  refine kU ?_;refine ah ?_;exact zK hq9
 case b9=>exact cF
 simp only[bh,aX];refine kU ?_;refine' zJ true 1 41 (λhg10=>?a10) ?b10 ?c10
 case a10=>
  have hq10:=hg10;(try simp only[zB,reduceCtorEq] at hg10);simp only[zE];refine db rfl λ_ k0=>?_;refine bo (h:=ak Fy) rfl rfl (by first|exact rfl|(simp only[ev,zP,ad,J];exact rfl)) (by simp only[zV,acs,reduceCtorEq,ad,J,ae,aj,af,ag,Mly.av,br,vF]) ?_;apply k0;clear k0;simp only[zP,J];refine kU ?_;refine ah ?_;exact zK hq10
 case b10=>exact cF
 simp only[bh,aX];refine kU ?_;refine ah (k6 _ (kx ?_));refine aA ?_;refine⟨nr,_,rfl,?_⟩;simp only[zF,zP,ad,J,Mly.av,br,vF];refine VLE.of_eq ?_
 rfl
theorem U2 (m:Mly):aY Tryz.prog 29 [m.av] (.one (.int .i64 (mV m))):=by
 refine zQ 107 Tryz.func29 λC hP hN hB=>?_;have hX:KX [0,1,2,3,4,5,6,7,11,20,23,26,36,42,43,44,65,70,71,72,73,99,104]:=⟨trivial⟩
 refine zT5 ?_;refine zT5 ?_;refine aa λ_ k3=>?_;refine ay ?_;refine aa λK4 k4=>am hP hN rfl ?_
 iterate 4 refine zS6 ?_
 refine' zJ false 3 15 (λhg5=>?a5) ?b5 ?c5
 case a5=>
  have hq5:=hg5;(try simp only[zB,reduceCtorEq] at hg5);simp only[zE]
  iterate 3 refine zD7 ?_
  refine zS6 ?_;refine ah ?_;exact zK hq5
 case b5=>exact cF
 simp only[bh,aX];refine zS6 ?_;refine ah (k4 _ (kx ?_));refine cB (λhc6=>?_) (λhc6=>?_)
 ·refine zT5 ?_
  refine aA ?_;refine zZm ?_;refine congrArg (λn=>AV.one (AC.int IntKind.i64 n)) ?_
  symm
  unfold mV
  first
  |(rw[if_pos ω];done)
  |(rw[if_neg ω,if_pos ω];done)
  |(rw[if_neg ω,if_neg ω,if_pos ω];done)
  |(rw[if_neg ω,if_neg ω,if_neg ω,if_pos ω];done)
  |(rw[if_neg ω,if_neg ω,if_neg ω,if_neg ω,if_pos ω];done)
  |(rw[if_neg ω,if_neg ω,if_neg ω,if_neg ω,if_neg ω]
    first
    |(have hp9:=iO ω ω hcells ω (by rw[hcb];decide)
      rw[hcb] at hp9;exact(bC hrows ω (by rw[hp9];decide)).trans hp9)
    |exact(bC hrows ω (by rw[dM hlb];decide)).trans (dM hlb)
    |exact bH λi hi=>hrows i ω)
 refine zT5 ?_;refine cB (λhc9=>?_) (λhc9=>?_)
 ·refine zT5 ?_
  refine aA ?_;refine zZm ?_;refine congrArg (λn=>AV.one (AC.int IntKind.i64 n)) ?_
  symm
  unfold mV
  first
  |(rw[if_pos ω];done)
  |(rw[if_neg ω,if_pos ω];done)
  |(rw[if_neg ω,if_neg ω,if_pos ω];done)
  |(rw[if_neg ω,if_neg ω,if_neg ω,if_pos ω];done)
  |(rw[if_neg ω,if_neg ω,if_neg ω,if_neg ω,if_pos ω];done)
  |(rw[if_neg ω,if_neg ω,if_neg ω,if_neg ω,if_neg ω]
    first
    |(have hp9:=iO ω ω hcells ω (by rw[hcb];decide)
      rw[hcb] at hp9;exact(bC hrows ω (by rw[hp9];decide)).trans hp9)
    |exact(bC hrows ω (by rw[dM hlb];decide)).trans (dM hlb)
    |exact bH λi hi=>hrows i ω)
 refine zT5 ?_;refine cB (λhc12=>?_) (λhc12=>?_)
 ·refine zT5 ?_
  refine aA ?_;refine zZm ?_;refine congrArg (λn=>AV.one (AC.int IntKind.i64 n)) ?_
  symm
  unfold mV
  first
  |(rw[if_pos ω];done)
  |(rw[if_neg ω,if_pos ω];done)
  |(rw[if_neg ω,if_neg ω,if_pos ω];done)
  |(rw[if_neg ω,if_neg ω,if_neg ω,if_pos ω];done)
  |(rw[if_neg ω,if_neg ω,if_neg ω,if_neg ω,if_pos ω];done)
  |(rw[if_neg ω,if_neg ω,if_neg ω,if_neg ω,if_neg ω]
    first
    |(have hp9:=iO ω ω hcells ω (by rw[hcb];decide)
      rw[hcb] at hp9;exact(bC hrows ω (by rw[hp9];decide)).trans hp9)
    |exact(bC hrows ω (by rw[dM hlb];decide)).trans (dM hlb)
    |exact bH λi hi=>hrows i ω)
 refine aa λK14 k14=>am hP hN rfl ?_
 iterate 4 refine zS6 ?_
 refine' zJ false 4 30 (λhg15=>?a15) ?b15 ?c15
 case a15=>
  have hq15:=hg15;(try simp only[zB,reduceCtorEq] at hg15);simp only[zE]
  iterate 4 refine zD7 ?_
  refine zS6 ?_;refine ah ?_;exact zK hq15
 case b15=>exact cF
 simp only[bh,aX];refine zS6 ?_;refine ah (k14 _ (kx ?_));refine cB (λhc16=>?_) (λhc16=>?_)
 ·refine zT5 ?_
  refine aA ?_;refine zZm ?_;refine congrArg (λn=>AV.one (AC.int IntKind.i64 n)) ?_
  symm
  unfold mV
  first
  |(rw[if_pos ω];done)
  |(rw[if_neg ω,if_pos ω];done)
  |(rw[if_neg ω,if_neg ω,if_pos ω];done)
  |(rw[if_neg ω,if_neg ω,if_neg ω,if_pos ω];done)
  |(rw[if_neg ω,if_neg ω,if_neg ω,if_neg ω,if_pos ω];done)
  |(rw[if_neg ω,if_neg ω,if_neg ω,if_neg ω,if_neg ω]
    first
    |(have hp9:=iO ω ω hcells ω (by rw[hcb];decide)
      rw[hcb] at hp9;exact(bC hrows ω (by rw[hp9];decide)).trans hp9)
    |exact(bC hrows ω (by rw[dM hlb];decide)).trans (dM hlb)
    |exact bH λi hi=>hrows i ω)
 refine zT5 ?_;refine cB (λhc19=>?_) (λhc19=>?_)
 ·refine zT5 ?_
  refine aA ?_;refine zZm ?_;refine congrArg (λn=>AV.one (AC.int IntKind.i64 n)) ?_
  symm
  unfold mV
  first
  |(rw[if_pos ω];done)
  |(rw[if_neg ω,if_pos ω];done)
  |(rw[if_neg ω,if_neg ω,if_pos ω];done)
  |(rw[if_neg ω,if_neg ω,if_neg ω,if_pos ω];done)
  |(rw[if_neg ω,if_neg ω,if_neg ω,if_neg ω,if_pos ω];done)
  |(rw[if_neg ω,if_neg ω,if_neg ω,if_neg ω,if_neg ω]
    first
    |(have hp9:=iO ω ω hcells ω (by rw[hcb];decide)
      rw[hcb] at hp9;exact(bC hrows ω (by rw[hp9];decide)).trans hp9)
    |exact(bC hrows ω (by rw[dM hlb];decide)).trans (dM hlb)
    |exact bH λi hi=>hrows i ω)
 refine au (k3 _ (kx ?_));refine aa λ_ k21=>?_;refine zT5 ?_;refine ay ?_;refine aM (λn23 s23=>∃ (k:Nat),(k≤m.nx.length)∧(∀ i,i<k→tz m i=0)∧n23=m.nx.length-k∧s23={env:=[(1,.one (.ptr 0 0 0 0)),(2,.one (.int .i64 0)),(3,.one (.int .i64 (m.nx.length:Int))),(42,.one (.int .i64 (m.nx.length:Int))),(43,.one (.int .i64 (k:Int)))],L:=[.vars 38 [.int .i64 m.inp,.int .i64 m.st,.list Γ m.nx,.list Γ m.ot]]}) ?_ ?_
 ·exact⟨_,_,ar [1,2,3,42,43],0,Nat.zero_le _,λi hi=>by omega,rfl,rfl⟩
 rintro n23 s23 ⟨k,hk,hrows,rfl,rfl⟩;refine zT5 ?_;refine aa λ_ k25=>?_;refine cB (λhc26=>?_) (λhc26=>?_)
 ·refine au ?_
  refine k25 _ (kx ?_);refine aa λ_ k27=>?_;refine ay ?_;refine zT5 ?_;refine aa λ_ k29=>?_;refine aa λ_ k30=>?_;refine bz hP hN Tryz.mixed rfl ?_
  iterate 10 refine zS6 ?_
  refine' zJ false 9 55 (λhg31=>?a31) ?b31 ?c31
  case a31=>
   have hq31:=hg31;(try simp only[zB,reduceCtorEq] at hg31);simp only[zE]
   iterate 9 refine zD7 ?_
   refine zS6 ?_;refine ah ?_;exact zK hq31
  case b31=>exact cF
  simp only[bh,aX];refine ah ?_;refine⟨ζ,?_⟩;refine k30 _ (kx ?_);refine cB (λhc32=>?_) (λhc32=>?_)
  ·have hlb:=hc32
   refine zT5 ?_;refine aA ?_;refine zZm ?_;refine congrArg (λn=>AV.one (AC.int IntKind.i64 n)) ?_
   symm
   unfold mV
   first
   |(rw[if_pos ω];done)
   |(rw[if_neg ω,if_pos ω];done)
   |(rw[if_neg ω,if_neg ω,if_pos ω];done)
   |(rw[if_neg ω,if_neg ω,if_neg ω,if_pos ω];done)
   |(rw[if_neg ω,if_neg ω,if_neg ω,if_neg ω,if_pos ω];done)
   |(rw[if_neg ω,if_neg ω,if_neg ω,if_neg ω,if_neg ω]
     first
     |(have hp9:=iO ω ω hcells ω (by rw[hcb];decide)
       rw[hcb] at hp9;exact(bC hrows ω (by rw[hp9];decide)).trans hp9)
     |exact(bC hrows ω (by rw[dM hlb];decide)).trans (dM hlb)
     |exact bH λi hi=>hrows i ω)
  have hlb:=hc32;refine au (k29 _ (kx ?_));refine zT5 ?_;refine ay ?_;refine aM (λn35 s35=>∃ (j:Nat),((j:Int)≤m.inp)∧(∀ a,a<j→nh m k a=0)∧n35=m.inp.toNat-j∧s35={env:=[(1,.one (.ptr 0 0 0 0)),(2,.one (.int .i64 0)),(3,.one (.int .i64 (m.nx.length:Int))),(4,.one (.int .i64 (k:Int))),(42,.one (.int .i64 (m.nx.length:Int))),(43,.one (.int .i64 (k:Int))),(70,.one (.list Θ (m.nx.getD k []))),(71,.one (.int .i64 ((m.nx.getD k []).length:Int))),(72,.one (.int .i64 (j:Int)))],L:=[.vars 38 [.int .i64 m.inp,.int .i64 m.st,.list Γ m.nx,.list Γ m.ot]]}) ?_ ?_
  ·refine⟨_,_,ar [1,2,3,4,42,43,70,71,72],0,?_,λi hi=>by omega,rfl,rfl⟩;omega
  rintro n35 s35 ⟨j,hj,hcells,rfl,rfl⟩;refine zT5 ?_;refine aa λ_ k37=>?_;refine cB (λhc38=>?_) (λhc38=>?_)
  ·refine au ?_
   refine k37 _ (kx ?_);refine aa λ_ k39=>?_;refine ay ?_;refine zT5 ?_;refine zT5 ?_;refine aa λ_ k42=>?_;refine aa λK43 k43=>am hP hN rfl ?_
   iterate 3 refine zS6 ?_
   refine' zJ false 3 87 (λhg44=>?a44) ?b44 ?c44
   case a44=>
    have hq44:=hg44;(try simp only[zB,reduceCtorEq] at hg44);simp only[zE]
    iterate 3 refine zD7 ?_
    refine zS6 ?_;refine ah ?_;exact zK hq44
   case b44=>exact cF
   simp only[bh,aX];refine zS6 ?_;refine' zJ false 2 92 (λhg45=>?a45) ?b45 ?c45
   case a45=>
    have hq45:=hg45;(try simp only[zB,reduceCtorEq] at hg45);simp only[zE]
    iterate 2 refine zD7 ?_
    refine zS6 ?_;refine ah ?_;exact zK hq45
   case b45=>exact cF
   simp only[bh,aX];refine zS6 ?_;refine' zJ false 2 96 (λhg46=>?a46) ?b46 ?c46
   case a46=>
    have hq46:=hg46;(try simp only[zB,reduceCtorEq] at hg46);simp only[zE]
    iterate 2 refine zD7 ?_
    refine zS6 ?_;refine ah ?_;exact zK hq46
   case b46=>exact cF
   simp only[bh,aX];refine ah (k43 _ (kx ?_));refine cB (λhc47=>?_) (λhc47=>?_)
   ·have hcb:=S1 (m:=m) (s:=k) (a:=j) ω
    refine zT5 ?_;refine aA ?_;refine zZm ?_;refine congrArg (λn=>AV.one (AC.int IntKind.i64 n)) ?_
    symm
    unfold mV
    first
    |(rw[if_pos ω];done)
    |(rw[if_neg ω,if_pos ω];done)
    |(rw[if_neg ω,if_neg ω,if_pos ω];done)
    |(rw[if_neg ω,if_neg ω,if_neg ω,if_pos ω];done)
    |(rw[if_neg ω,if_neg ω,if_neg ω,if_neg ω,if_pos ω];done)
    |(rw[if_neg ω,if_neg ω,if_neg ω,if_neg ω,if_neg ω]
      first
      |(have hp9:=iO ω ω hcells ω (by rw[hcb];decide)
        rw[hcb] at hp9;exact(bC hrows ω (by rw[hp9];decide)).trans hp9)
      |exact(bC hrows ω (by rw[dM hlb];decide)).trans (dM hlb)
      |exact bH λi hi=>hrows i ω)
   have hcn:¬((m.nx.getD k []).getD j 0< -1∨(m.nx.length:Int)≤(m.nx.getD k []).getD j 0∨(m.ot.getD k []).getD j 0< -1∨1048576<(m.ot.getD k []).getD j 0):=ω;refine au (k42 _ (kx ?_));refine zT5 ?_;refine cB (λhc50=>?_) (λhc50=>?_)
   ·have hcb:=T6 hcn (by simpa using hc50)
    refine zT5 ?_;refine aA ?_;refine zZm ?_;refine congrArg (λn=>AV.one (AC.int IntKind.i64 n)) ?_
    symm
    unfold mV
    first
    |(rw[if_pos ω];done)
    |(rw[if_neg ω,if_pos ω];done)
    |(rw[if_neg ω,if_neg ω,if_pos ω];done)
    |(rw[if_neg ω,if_neg ω,if_neg ω,if_pos ω];done)
    |(rw[if_neg ω,if_neg ω,if_neg ω,if_neg ω,if_pos ω];done)
    |(rw[if_neg ω,if_neg ω,if_neg ω,if_neg ω,if_neg ω]
      first
      |(have hp9:=iO ω ω hcells ω (by rw[hcb];decide)
        rw[hcb] at hp9;exact(bC hrows ω (by rw[hp9];decide)).trans hp9)
      |exact(bC hrows ω (by rw[dM hlb];decide)).trans (dM hlb)
      |exact bH λi hi=>hrows i ω)
   have hc0:=He hcn (by simpa using hc50);refine au (k39 _ (kx ?_));refine zR5 (h:=?_);refine⟨_,_,?_,ar [1,2,3,4,42,43,70,71,72],j+1,?_,λa ha=>?_,rfl,rfl⟩
   ·omega
   ·omega
   ·by_cases e:a=j
    ·rw[e];exact hc0
    ·exact hcells a ω
  refine aL ?_;refine k27 _ (kx ?_);refine zR5 (h:=?_);refine⟨_,_,?_,ar [1,2,3,42,43],k+1,ω,λi hi=>?_,rfl,rfl⟩
  ·omega
  ·by_cases e:i=k
   ·rw[e];exact E7 ω ω λa ha=>hcells a ω
   ·exact hrows i ω
 refine aL ?_;refine k21 _ (kx ?_);refine zT5 ?_;refine aA ?_;refine zZm ?_;refine congrArg (λn=>AV.one (AC.int IntKind.i64 n)) ?_
 symm
 unfold mV
 first
 |(rw[if_pos ω];done)
 |(rw[if_neg ω,if_pos ω];done)
 |(rw[if_neg ω,if_neg ω,if_pos ω];done)
 |(rw[if_neg ω,if_neg ω,if_neg ω,if_pos ω];done)
 |(rw[if_neg ω,if_neg ω,if_neg ω,if_neg ω,if_pos ω];done)
 |(rw[if_neg ω,if_neg ω,if_neg ω,if_neg ω,if_neg ω]
   first
   |(have hp9:=iO ω ω hcells ω (by rw[hcb];decide)
     rw[hcb] at hp9;exact(bC hrows ω (by rw[hp9];decide)).trans hp9)
   |exact(bC hrows ω (by rw[dM hlb];decide)).trans (dM hlb)
   |exact bH λi hi=>hrows i ω)
theorem Er (m:Mly)(hm:PRK m):aY Tryz.prog 10 [m.av,.one (.int .i64 0)] (.tup [(if m.nx.length≤128 then coM m 0 else zY).av,.one (.int .i64 (if m.nx.length≤128 then 0 else 11))]):=by
 refine zQ 99 Tryz.func10 λC hP hN hB=>?_;have hX:KX [0,1,2,4,5,6,7,8,9,10,11,12,16,24,29,38,39,40,52,53,54,55,75]:=⟨trivial⟩
 have h2:=hm.n2;have h4:=hm.n1;have hi1:=hm.i1;have hi2:=hm.i2;have hol:=hm.ol;have hpe:=Q2 hm;refine zT5 ?_;refine aa λ_ k2=>?_;refine aa λK3 k3=>am hP hN rfl ?_;refine zS6 ?_;refine zC8 (ak (U2 m)) ?_;refine zS6 ?_;refine ah (k3 _ (kx ?_));refine zT5 ?_;refine cB (λhc5=>?_) (λhc5=>?_)
 ·exfalso
  all_goals omega
 refine au (k2 _ (kx ?_));refine aa λ_ k6=>?_;refine aa λK7 k7=>am hP hN rfl ?_
 iterate 3 refine zS6 ?_
 refine' zJ false 2 21 (λhg8=>?a8) ?b8 ?c8
 case a8=>
  have hq8:=hg8;(try simp only[zB,reduceCtorEq] at hg8);simp only[zE]
  iterate 2 refine zD7 ?_
  refine zS6 ?_;refine ah ?_;exact zK hq8
 case b8=>exact cF
 simp only[bh,aX];refine ah (k7 _ (kx ?_));refine cB (λhc9=>?_) (λhc9=>?_)
 ·exact zX hc9
 refine au (k6 _ (kx ?_));refine aa λ_ k10=>?_;refine zT5 ?_;refine cB (λhc12=>?_) (λhc12=>?_)
 ·have hlim:=hc12
  refine zT5 ?_;refine aA ?_;refine⟨nr,_,rfl,?_⟩;simp only[zF,zP,ad,J,Mly.av]
  first
  |(rw[if_pos ω,if_pos ω]
    exact VLE.of_eq rfl)
  |(rw[if_neg ω,if_neg ω]
    exact bl ⟨dt ⟨.refl _,.refl _,aS rfl,aS rfl,trivial⟩,aD (.refl _),trivial⟩)
 have hlim:=hc12;refine au (k10 _ (kx ?_));refine zT5 ?_;refine aa λ_ k15=>?_;refine aa λ_ k16=>?_;refine eu 2 2 Γ 26 δ rfl rfl ?_;simp only[zS,ax,aF,aG,aC,Nat.zero_add,J];refine eu 2 3 Γ 26 δ rfl rfl ?_;simp only[zS,ax,aF,aG,aC,Nat.zero_add,J];refine zR5 (h:=k16 _ (kx ?_));refine ay ?_;refine aM (λn17 s17=>∃ (k:Nat),(k≤m.nx.length)∧n17=m.nx.length-k∧s17={env:=[(1,.one (.int .i64 0)),(2,.one (.ptr 0 0 0 0)),(4,.one (.ptr 1 0 0 0)),(5,.one (.int .i64 0)),(7,.one (.ptr 2 0 0 0)),(38,.one (.int .i64 (m.nx.length:Int))),(39,.one (.int .i64 (k:Int)))],L:=[.vars 38 [.int .i64 m.inp,.int .i64 m.st,.list Γ m.nx,.list Γ m.ot],.vars 24 [.int .i64 0,.int .i64 0,.nils,.nils],.vars 24 [.int .i64 m.inp,.int .i64 m.st,.row 3 k,.row 4 k],.row Γ 26 k (o6 m k),.row Γ 26 k (nK m 0 k)]}) ?_ ?_
 ·exact⟨_,_,ar [1,2,4,5,7,38,39],0,Nat.zero_le _,rfl,rfl⟩
 rintro n17 s17 ⟨k,hk0,rfl,rfl⟩;refine zT5 ?_;refine aa λ_ k19=>?_;refine cB (λhc20=>?_) (λhc20=>?_)
 ·refine au ?_
  refine k19 _ (kx ?_);refine aa λ_ k21=>?_;refine ay ?_;refine zT5 ?_;refine aa λ_ k23=>?_;have hkl:k<m.nx.length:=ω;have hrl:=hm.rl k hkl;have hql:=hm.ql k hkl;refine du ?_;simp only[aG,List.append_assoc,aC];refine du ?_;simp only[aG,List.append_assoc,aC];refine bz hP hN Tryz.mixed rfl ?_
  iterate 2 refine zS6 ?_
  refine d4 (λC9 hC9=>.inl ⟨rfl,mW (q:=5) (t:=.int .i64) (z0:=0) rfl rfl (by rw[hC9];exact Tryz.td26) rfl (by rw[hC9];exact Tryz.td3) rfl rfl δ rfl rfl ω ω (by show(8:Int)*m.inp≤_;omega) ω rfl⟩) ?_;simp only[zP,J]
  iterate 2 refine zS6 ?_
  refine d4 (λC9 hC9=>.inl ⟨rfl,mW (q:=6) (t:=.int .i64) (z0:=0) rfl rfl (by rw[hC9];exact Tryz.td26) rfl (by rw[hC9];exact Tryz.td3) rfl rfl δ rfl rfl ω ω (by show(8:Int)*m.inp≤_;omega) ω rfl⟩) ?_;simp only[zP,J]
  iterate 2 refine zS6 ?_
  refine ah ?_;refine⟨ζ,?_⟩;refine k23 _ (kx ?_);refine aa λ_ k24=>?_;refine lA ?_;refine ay ?_;refine aM (λn26 s26=>∃ (j:Nat),(j≤(m.nx.getD k []).length)∧n26=(m.nx.getD k []).length-j∧s26={env:=[(1,.one (.int .i64 0)),(2,.one (.ptr 0 0 0 0)),(4,.one (.ptr 1 0 0 0)),(5,.one (.int .i64 0)),(7,.one (.ptr 2 0 0 0)),(8,.one (.int .i64 (k:Int))),(9,.one (.row 5 1)),(10,.one (.row 6 1)),(38,.one (.int .i64 (m.nx.length:Int))),(39,.one (.int .i64 (k:Int))),(52,.one (.list Θ (m.nx.getD k []))),(53,.one (.int .i64 ((m.nx.getD k []).length:Int))),(54,.one (.int .i64 (j:Int)))],L:=[.vars 38 [.int .i64 m.inp,.int .i64 m.st,.list Γ m.nx,.list Γ m.ot],.vars 24 [.int .i64 0,.int .i64 0,.nils,.nils],.vars 24 [.int .i64 m.inp,.int .i64 m.st,.row 3 k,.row 4 k],.row Γ 26 k (o6 m k),.row Γ 26 k (nK m 0 k),.row Θ 3 1 (coT (coN m k) m.inp.toNat j),.row Θ 3 1 (coT (coO m 0 k) m.inp.toNat j)]}) ?_ ?_
  ·exact⟨_,_,ar [1,2,4,5,7,8,9,10,38,39,52,53,54],0,Nat.zero_le _,rfl,by rw[NE,NE];rfl⟩
  rintro n26 s26 ⟨j,hj0,rfl,rfl⟩;refine zT5 ?_;refine aa λ_ k28=>?_;refine cB (λhc29=>?_) (λhc29=>?_)
  ·refine au ?_
   refine k28 _ (kx ?_);refine aa λ_ k30=>?_;refine ay ?_;refine lA ?_;refine aa λ_ k32=>?_;have hx1:=EE (coN m k) (n:=m.inp.toNat) (j:=j) ω;have hx2:=EE (coO m 0 k) (n:=m.inp.toNat) (j:=j) ω;refine Jq (h:=k32 _ (kx ?_));refine zT5 ?_;refine cB (λhc34=>?_) (λhc34=>?_)
   ·have hc9:(m.nx.getD k []).getD j 0= -1:=hc34
    refine am hP hN rfl ?_
    iterate 10 (refine aw rfl λ_ k0=>?_;simp only[zO,zT,acs,reduceCtorEq,ad,J,ae,aj,af,ag,Mly.av,az,List.length_set];(repeat refine an ?_);(try refine .inl ?_);apply k0;clear k0;simp only[zP,J])
    refine ah (k30 _ (kx ?_));refine zR5 (h:=?_)
    first
    |(have e1:coN m k j=(k:Int):=if_pos hc9
      have e2:coO m 0 k j=0:=if_pos hc9;refine⟨_,_,?_,ar [1,2,4,5,7,8,9,10,38,39,52,53,54],j+1,ω,rfl,?_⟩
      ·omega
      ·rw[← oH (coN m k) (x:=(m.nx.getD k []).getD j 0) ω,← oH (coO m 0 k) (x:=(m.ot.getD k []).getD j 0) ω,e1,e2];rfl)
    |(have e1:coN m k j=(m.nx.getD k []).getD j 0:=if_neg hc9
      have e2:coO m 0 k j=(m.ot.getD k []).getD j 0:=if_neg hc9;refine⟨_,_,?_,ar [1,2,4,5,7,8,9,10,38,39,52,53,54],j+1,ω,rfl,?_⟩
      ·omega
      ·rw[← nZ (coN m k) ω,← nZ (coO m 0 k) ω,e1,e2];rfl)
   have hc9:¬(m.nx.getD k []).getD j 0= -1:=hc34;refine au (k30 _ (kx ?_));refine zR5 (h:=?_)
   first
   |(have e1:coN m k j=(k:Int):=if_pos hc9
     have e2:coO m 0 k j=0:=if_pos hc9;refine⟨_,_,?_,ar [1,2,4,5,7,8,9,10,38,39,52,53,54],j+1,ω,rfl,?_⟩
     ·omega
     ·rw[← oH (coN m k) (x:=(m.nx.getD k []).getD j 0) ω,← oH (coO m 0 k) (x:=(m.ot.getD k []).getD j 0) ω,e1,e2];rfl)
   |(have e1:coN m k j=(m.nx.getD k []).getD j 0:=if_neg hc9
     have e2:coO m 0 k j=(m.ot.getD k []).getD j 0:=if_neg hc9;refine⟨_,_,?_,ar [1,2,4,5,7,8,9,10,38,39,52,53,54],j+1,ω,rfl,?_⟩
     ·omega
     ·rw[← nZ (coN m k) ω,← nZ (coO m 0 k) ω,e1,e2];rfl)
  refine aL ?_;refine k24 _ (kx ?_);have hje:j=m.inp.toNat:=ω;subst hje;rw[Es,Es];have hx3:=Ae m k;have hx4:=yM m 0 k;refine cA 5 rfl ?_;simp only[aJ,aV,zS,ad,ZW,reduceCtorEq];refine cA 6 rfl ?_;simp only[aJ,aV,zS,ad,ZW,reduceCtorEq];refine bz hP hN Tryz.mixed rfl ?_
  iterate 14 refine xq (And.intro hx3 hx4) ?_
  refine ah ?_;refine⟨ζ,?_⟩;refine k21 _ (kx ?_);refine dO (n:=6) (L1:=[_,_,_,_,_,_]) rfl rfl (by rw[hB];decide) rfl rfl ?_;refine dO (n:=5) (L1:=[_,_,_,_,_]) rfl rfl (by rw[hB];decide) rfl rfl ?_;refine zR5 (h:=?_);refine⟨_,_,?_,ar [1,2,4,5,7,38,39],k+1,ω,rfl,?_⟩
  ·omega
  ·rw[FF,GB];rfl
 refine aL ?_;refine k15 _ (kx ?_);refine aa λ_ k35=>?_;have hke:k=m.nx.length:=ω;subst hke;refine eI 3 2 rfl rfl ?_;simp only[aJ,aV,frC,zS,ad,ZW,reduceCtorEq];refine eI 4 2 rfl rfl ?_;simp only[aJ,aV,frC,zS,ad,ZW,reduceCtorEq];refine zR5 (h:=k35 _ (kx ?_));refine aA ?_;refine⟨nr,_,rfl,?_⟩;simp only[zF,zP,ad,J,Mly.av]
 first
 |(rw[if_pos ω,if_pos ω]
   exact VLE.of_eq rfl)
 |(rw[if_neg ω,if_neg ω]
   exact bl ⟨dt ⟨.refl _,.refl _,aS rfl,aS rfl,trivial⟩,aD (.refl _),trivial⟩)
theorem Mb (m:Mly)(hm:PRK m)(red:List Bool)(hr:red.length=m.nx.length):aY Tryz.prog 27 [m.av,.one (.list .bool red)] (.tup [.one (.int .i64 (blA m red red.length)),.one (.bool (decide (blA m red red.length<(red.length:Int))))]):=by
 refine zQ 51 Tryz.func27 λC hP hN hB=>?_;have hX:KX [0,1,2,4,5,6,7,8,10,13,14,15,16,21,26,27,28,29,40]:=⟨trivial⟩
 have h4:=hm.n2;have h5:=hm.i2;refine zT5 ?_;refine zT5 ?_;refine aa λ_ k3=>?_;refine zT5 ?_;refine ay ?_;refine aM (λn5 s5=>∃ (k:Nat),(k≤red.length)∧n5=red.length-k∧s5={env:=[(1,.one (.list .bool red)),(2,.one (.ptr 0 0 0 0)),(4,.one (.int .i64 0)),(5,.one (.bool false)),(6,.one (.int .i64 (blA m red k))),(13,.one (.list .bool red)),(14,.one (.int .i64 (red.length:Int))),(15,.one (.int .i64 (k:Int)))],L:=[.vars 38 [.int .i64 m.inp,.int .i64 m.st,.list Γ m.nx,.list Γ m.ot]]}) ?_ ?_
 ·exact⟨_,_,ar [1,2,4,5,6,13,14,15],0,Nat.zero_le _,rfl,rfl⟩
 rintro n5 s5 ⟨k,hk,rfl,rfl⟩;refine zT5 ?_;refine aa λ_ k7=>?_;refine cB (λhc8=>?_) (λhc8=>?_)
 ·refine au ?_
  refine k7 _ (kx ?_);refine aa λ_ k9=>?_;refine ay ?_;refine lA ?_;refine aa λ_ k11=>?_;refine zT5 ?_;refine cB (λhc13=>?_) (λhc13=>?_)
  ·have hrd:red.getD k false=false:=by have hq:=hc13;simpa using hq
   refine aL ?_;refine k9 _ (kx ?_);refine zR5 (h:=?_)
   first
   |(refine⟨_,_,?_,ar [1,2,4,5,6,13,14,15],k+1,ω,rfl,?_⟩
     ·omega
     ·rw[iv,if_neg (by rw[hrd];decide)];rfl)
   |(have hjr:(m.nx.getD k []).take j=(m.nx.getD k []):=List.take_of_length_le ω
     refine⟨_,_,?_,ar [1,2,4,5,6,13,14,15],k+1,ω,rfl,?_⟩
     ·omega
     ·rw[hjr,iv,if_pos hrd];rfl)
  have hrd:red.getD k false=true:=by have hq:=hc13;simpa using hq
  refine au (k11 _ (kx ?_));refine aa λ_ k14=>?_;have hrl:=hm.rl k ω;refine zR5 (h:=k14 _ (kx ?_));refine ay ?_;refine aM (λn15 s15=>∃ (j:Nat),(j≤(m.nx.getD k []).length)∧n15=(m.nx.getD k []).length-j∧s15={env:=[(1,.one (.list .bool red)),(2,.one (.ptr 0 0 0 0)),(4,.one (.int .i64 0)),(5,.one (.bool false)),(6,.one (.int .i64 (blR red ((m.nx.getD k []).take j) (blA m red k)))),(7,.one (.int .i64 (k:Int))),(13,.one (.list .bool red)),(14,.one (.int .i64 (red.length:Int))),(15,.one (.int .i64 (k:Int))),(26,.one (.list Θ (m.nx.getD k []))),(27,.one (.int .i64 ((m.nx.getD k []).length:Int))),(28,.one (.int .i64 (j:Int)))],L:=[.vars 38 [.int .i64 m.inp,.int .i64 m.st,.list Γ m.nx,.list Γ m.ot]]}) ?_ ?_
  ·exact⟨_,_,ar [1,2,4,5,6,7,13,14,15,26,27,28],0,Nat.zero_le _,rfl,rfl⟩
  rintro n15 s15 ⟨j,hj,rfl,rfl⟩;refine zT5 ?_;refine aa λ_ k17=>?_;refine cB (λhc18=>?_) (λhc18=>?_)
  ·refine au ?_
   refine k17 _ (kx ?_);refine aa λ_ k19=>?_;refine ay ?_;refine lA ?_;refine aa λ_ k21=>?_;have hnr:=hm.nr k j ω ω;refine am hP hN rfl ?_
   iterate 3 refine Qi ?_
   refine' zJ true 5 34 (λhg22=>?a22) ?b22 ?c22
   case a22=>
    have hq22:=hg22;(try simp only[zB,reduceCtorEq] at hg22);simp only[zE]
    iterate 5 (refine db rfl λ_ k0=>?_;simp only[zO,zT,acs,reduceCtorEq,ad,J,ae,aj,af,ag,Mly.av,gt];(repeat refine an ?_);(try refine .inl ?_);apply k0;clear k0;simp only[zP,J])
    refine Qi ?_;refine ah ?_;exact zK hq22
   case b22=>exact cF
   simp only[bh,aX];refine ah (k21 _ (kx ?_));refine cB (λhc23=>?_) (λhc23=>?_)
   ·have hbt:=hc23
    refine zR5 (h:=k19 _ (kx ?_));refine zR5 (h:=?_)
    first
    |(refine⟨_,_,?_,ar [1,2,4,5,6,7,13,14,15,26,27,28],j+1,ω,rfl,?_⟩
      ·omega
      ·rw[uZ ω];unfold blC;rw[if_pos hbt];rfl)
    |(refine⟨_,_,?_,ar [1,2,4,5,6,7,13,14,15,26,27,28],j+1,ω,rfl,?_⟩
      ·omega
      ·rw[uZ ω];unfold blC;rw[if_neg hbn];rfl)
   have hbn:¬(¬((m.nx.getD k []).getD j 0)= -1∧red.getD ((m.nx.getD k []).getD j 0).toNat false=false):=by have hq:=hc23;intro hh;simp_all
   refine au (k19 _ (kx ?_));refine zR5 (h:=?_)
   first
   |(refine⟨_,_,?_,ar [1,2,4,5,6,7,13,14,15,26,27,28],j+1,ω,rfl,?_⟩
     ·omega
     ·rw[uZ ω];unfold blC;rw[if_pos hbt];rfl)
   |(refine⟨_,_,?_,ar [1,2,4,5,6,7,13,14,15,26,27,28],j+1,ω,rfl,?_⟩
     ·omega
     ·rw[uZ ω];unfold blC;rw[if_neg hbn];rfl)
  refine aL ?_;refine k9 _ (kx ?_);refine zR5 (h:=?_)
  first
  |(refine⟨_,_,?_,ar [1,2,4,5,6,13,14,15],k+1,ω,rfl,?_⟩
    ·omega
    ·rw[iv,if_neg (by rw[hrd];decide)];rfl)
  |(have hjr:(m.nx.getD k []).take j=(m.nx.getD k []):=List.take_of_length_le ω
    refine⟨_,_,?_,ar [1,2,4,5,6,13,14,15],k+1,ω,rfl,?_⟩
    ·omega
    ·rw[hjr,iv,if_pos hrd];rfl)
 refine aL ?_;refine k3 _ (kx ?_);refine zT5 ?_;refine aA ?_;refine zZm ?_;rw[show k=red.length by omega]
 all_goals rfl
theorem Kl (L0:List AO)(k n:Nat)(es:List (KV×Int))(x y:Int)(hk:L0[k]? =some (.mp 143 .int es))(hF:L0.all (cr L0.length)=true)(hn:n≤1000000)(h0:0≤y)(h1:y<n):cS Tryz.prog L0 105 [.agg [.mpv k],.one (.int .i64 x),.one (.int .i64 y)] {av:=.tup [],upd:=[(k,.mp 143 .int (f0 es (.int y) x))],new:=[.vars 145 [.mpv k]],fp:=List.range L0.length}:=by
 refine fl _ _ Tryz.func105 rfl ζ (Nat.le_of_ble_eq_true rfl) (by intro k hk;exact List.mem_range.2 hk) (λC hP hN hB=>?_);have hX:KX [0,1,2,3]:=⟨trivial⟩
 replace hB:C.bL.length=L0.length:=by rw[hB];skip
 replace hN:C.N=10:=hN;simp only[cm,J];refine HB ZW ?_;have hlt:=(Δ.1 hk).1;have hL1:(L0++[.vars 145 [.mpv k]])[L0.length]? =some (.vars 145 [.mpv k]):=η;have hL2:(L0++[.vars 145 [.mpv k]])[k]? =some (.mp 143 .int es):=by rw[List.getElem?_append_left hlt];exact hk
 have hL3:∀ X:AO,(L0++[(.vars 145 [.mpv k]:AO)]).set k X=L0.set k X++[(.vars 145 [.mpv k]:AO)]:=λX=>by rw[List.set_append,if_pos hlt]
 refine am hP hN rfl ?_
 iterate 4 (refine aw rfl λ_ k0=>?_;simp only[zO,zT,acs,reduceCtorEq,ad,J,ae,aj,af,ag,bB,Option.map_some,hL1,hL2,valOf];(repeat refine And.intro (by first|omega|assumption|exact rfl|exact⟨ω,ω⟩) ?_);(try refine .inl ?_);apply k0;clear k0;simp only[zP,J,hL3])
 (refine aw rfl λ_ k0=>?_;simp only[zE,op1,ev,lkp,cR,bP,cq,dR,Nat.mul_one,bZ,cT,acs,Ty.dflt,zG,cK,fO,bB,valOf,reduceCtorEq,ad,J,ae,aj,af,ag,Tryz.mk143,Tryz.st145,Tryz.td145,Tryz.td3,bB,Option.map_some,hL1,hL2,valOf];(repeat refine And.intro (by first|omega|assumption|exact rfl|exact⟨ω,ω⟩) ?_);(try refine .inl ?_);apply k0;clear k0;simp only[zP,J,hL3])
 refine ah ?_;refine⟨by first|exact .inl rfl|exact .inr rfl,_,rfl,?_⟩;simp only[zP,ad,J,bB,Option.map_some]
 all_goals first|rfl|(exact⟨rfl,rfl⟩)|simp[app,cD]
theorem Qb (L0:List AO)(k n:Nat)(es:List (KV×Int))(x y:Int)(hk:L0[k]? =some (.mp 143 .int es))(hF:L0.all (cr L0.length)=true)(hn:n≤1000000)(h0:0≤y)(h1:y<n):
 cS Tryz.prog L0 105 [.agg [.mpv k],.one (.int .i64 x),.one (.int .i64 y)] {av:=.tup [],upd:=[(k,.mp 143 .int (f0 es (.int y) x))],fp:=List.range L0.length}:=
 CS (Kl L0 k n es x y hk hF hn h0 h1) (λk hk=>List.mem_range.2 hk) rfl (MX hF rfl)
theorem y5 (L0:List AO)(k n:Nat)(es:List (KV×Int))(x:Int)(hk:L0[k]? =some (.mp 143 .int es))(hF:L0.all (cr L0.length)=true)(hu:UPOK n es)(hn:n≤1000000)(h0:0≤x)(h1:x<n):cS Tryz.prog L0 104 [.agg [.mpv k],.one (.int .i64 x)] {av:=.one (.int .i64 (bm es x)),fp:=List.range L0.length}:=by
 refine fl _ _ Tryz.func104 rfl ζ (Nat.le_of_ble_eq_true rfl) (by intro k hk;exact List.mem_range.2 hk) (λC hP hN hB=>?_);have hX:KX [0,1,2,4,5,6,15]:=⟨trivial⟩
 replace hB:C.bL.length=L0.length:=by rw[hB];skip
 replace hN:C.N=18:=hN;simp only[cm,J];refine HB ZW ?_;refine ay ?_;refine aM (λn2 s2=>∃ (x2:Int),(0≤x2)∧(x2<n)∧(bm es x=bm es x2)∧n2=x2.toNat+1∧s2={env:=[(1,.one (.int .i64 x2)),(2,.one (.ptr L0.length 0 0 0)),(4,.one (.int .i64 0))],L:=(L0++[.vars 145 [.mpv k]])}) ?_ ?_
 ·exact⟨_,_,ar [1,2,4],x,h0,h1,rfl,rfl,rfl⟩
 rintro n2 s2 ⟨x2,hx0,hx1,hrp,rfl,rfl⟩;refine ay ?_;refine aa λ_ k3=>?_;have hL1:(L0++[.vars 145 [.mpv k]])[L0.length]? =some (.vars 145 [.mpv k]):=η;have hL2:(L0++[.vars 145 [.mpv k]])[k]? =some (.mp 143 .int es):=by rw[List.getElem?_append_left (Δ.1 hk).1];exact hk
 refine am hP hN rfl ?_
 iterate 3 refine J2 (And.intro ZW (And.intro hL1 hL2)) ?_
 (refine aw rfl λ_ k0=>?_;simp only[zE,op1,ev,lkp,cR,bP,cq,dR,Nat.mul_one,bZ,cT,acs,Ty.dflt,zG,cK,lC,bB,VK.ac,gG,reduceCtorEq,ad,J,ae,aj,af,ag,Tryz.mk143,Tryz.st145,Tryz.td1,Tryz.td145,Tryz.td3,Tryz.td4,bB,Option.map_some,hL1,hL2];(repeat refine And.intro (by first|omega|assumption|exact rfl|exact⟨ω,ω⟩) ?_);(try refine .inl ?_);apply k0;clear k0;simp only[zP,J])
 iterate 5 refine J2 (And.intro ZW (And.intro hL1 hL2)) ?_
 refine ah (k3 _ (kx ?_));refine aa λ_ k4=>?_;refine HB ZW ?_;refine cB (λhc6=>?_) (λhc6=>?_)
 ·have hnn:bD es (.int x2)=none:=by have hq:=hc6;simpa using hq
  refine HB ZW ?_;refine kp [4] ?_;refine eX (L1:=L0) rfl (by rw[hB];exact Υ _) rfl hF ?_;refine aA ?_;refine⟨by first|exact .inl rfl|exact .inr rfl,_,rfl,?_⟩;simp only[zP,ad,J,bB,Option.map_some];rw[hrp,dJ hnn]
  all_goals rfl
 obtain⟨y,hy⟩:∃ y,bD es (.int x2)=some y:=Option.isSome_iff_exists.1 (by have hq:=hc6;simpa using hq);have hyl:=hu.look hy;rw[hy];simp only[Option.getD_some,Option.isSome_some];refine au (k4 _ (kx ?_));refine Vm ZW (h:=?_);refine⟨_,_,?_,ar [1,2,4],y,hyl.1,ω,hrp.trans (hu.step hy),rfl,rfl⟩;omega
theorem Ht (n:Nat)(h1:n≤1000000):gQ Tryz.prog 56 [.one (.int .i64 (n:Int))] Θ 3 ((unk n)):=by
 refine dW Tryz.func56 rfl ζ (Nat.le_of_ble_eq_true rfl) rfl λC hP hN hB=>?_;have hX:KX [0,2,3,4,8,9,10]:=⟨trivial⟩
 replace hN:C.N=17:=hN;simp only[cm,J];refine zT2 ?_;refine aa λK2 k2=>am hP hN rfl ?_;refine zS3 ?_
 (refine aw rfl λ_ k0=>?_;simp only[zE,op1,ev,lkp,cR,bP,cH,bq,Ty.size,Ty.dflt,reduceCtorEq,ad,J,ae,aj,af,ag,Tryz.el26,Tryz.td26,Tryz.td3];(repeat refine an ?_);(try refine .inl ?_);apply k0;clear k0;simp only[zP,J])
 refine zS3 ?_;refine ah (k2 _ (kx ?_));refine aa λ_ k3=>?_;refine zT2 ?_;refine ay ?_;refine aM (λn5 s5=>∃ (k:Nat),(k≤n)∧n5=n-k∧s5={env:=[(2,.one .nils),(3,.one (.row 0 0)),(8,.one (.int .i64 (n:Int))),(9,.one (.int .i64 (k:Int)))],L:=[.row Θ 3 0 (pl n k)]}) ?_ ?_
 ·exact⟨_,_,ar [2,3,8,9],0,Nat.zero_le _,rfl,by rw[Sc];simp only[aB];rfl⟩
 rintro n5 s5 ⟨k,hk,rfl,rfl⟩;refine zT2 ?_;refine aa λ_ k7=>?_;refine cB (λhc8=>?_) (λhc8=>?_)
 ·refine au ?_
  refine k7 _ (kx ?_);refine aa λ_ k9=>?_;refine ay ?_;refine zT2 ?_;have hrl:=KH hk;refine vE (h:=k9 _ (kx ?_));refine zR2 (h:=?_);refine⟨_,_,?_,ar [2,3,8,9],k+1,ω,rfl,?_⟩
  ·omega
  ·rw[Lw ω];rfl
 refine aL ?_;refine k3 _ (kx ?_);refine aa λ_ k11=>?_;have hkn:k=n:=ω;subst hkn;rw[KP];refine zR2 (h:=k11 _ (kx ?_));refine aA ?_;refine⟨by first|exact .inl rfl|exact .inr rfl,_,rfl,_,_,rfl,?_⟩
 rfl
theorem ll (n:Int)(h0:0≤n)(h1:n≤1000000):gQ Tryz.prog 56 [.one (.int .i64 n)] Θ 3 (unk n.toNat):=by
 have h:=Ht n.toNat ω;rw[Int.toNat_of_nonneg h0] at h;exact h
theorem HS (m:Mly)(hm:PK m):aY Tryz.prog 57 [m.av] (.tup [m.rnP.av,.one (.list Θ m.rnN)]):=by
 refine zQ 127 Tryz.func57 λC hP hN hB=>?_;have hX:KX [0,1,2,3,4,5,6,8,9,11,12,13,14,15,30,40,41,42,43,54,68,69,70,71,84,85,86,87,92]:=⟨trivial⟩
 have h1:=hm.s1;have h2:=hm.s2;have h3:=hm.n2;have h4:=hm.n1;have hi1:=hm.i1;have hi2:=hm.i2;have hol:=hm.ol;have hid:((m.inp.toNat:Nat):Int)=m.inp:=by omega
 have huo:=hm.uoR;have hul:=huo.len;have hrnl:m.rnN.length=m.nx.length:=o5 _ _;refine zT5 ?_;refine aa λK2 k2=>am hP hN rfl ?_
 iterate 3 refine zS6 ?_
 refine zC8 (gy (Ht m.nx.length ω)) ?_;refine zS6 ?_;refine ah (k2 _ (kx ?_));refine aa λK3 k3=>am hP hN rfl ?_
 iterate 5 (refine aw rfl λ_ k0=>?_;simp only[zO,zT,acs,reduceCtorEq,ad,J,ae,aj,af,ag,Mly.av,nC];(repeat refine an ?_);(try refine .inl ?_);apply k0;clear k0;simp only[zP,J])
 refine ah (k3 _ (kx ?_));refine aa λK4 k4=>am hP hN rfl ?_
 iterate 2 refine zS6 ?_
 refine I6 ?_;refine zS6 ?_;refine ah (k4 _ (kx ?_));refine aa λ_ k5=>?_;refine zT5 ?_;refine ay ?_;refine aM (λn7 s7=>∃ (i:Nat) (l:List Int) (v:Nat),(RSet m.nx.length l)∧(m.uf (m.nx.length+1-i) i l=m.uo)∧(i≤l.length)∧n7=m.nx.length+1-i∧s7={env:=[(1,.one (.ptr 0 0 0 0)),(2,.one (.ptr 1 0 0 0)),(3,.one .nils),(4,.one (.row 2 0)),(5,.one (.row 3 v)),(6,.one (.int .i64 (i:Int)))],L:=[.vars 38 [.int .i64 m.inp,.int .i64 m.st,.list Γ m.nx,.list Γ m.ot],.vars 38 [.int .i64 0,.int .i64 0,.nils,.nils],.row Θ 3 0 (nbO m.nx.length l),.row Θ 3 v l]}) ?_ ?_
 ·exact⟨_,_,ar [1,2,3,4,5,6],0,[m.st],0,hm.one,rfl,Nat.zero_le _,rfl,by rw[← LU hm.s1 hm.s2];rfl⟩
 rintro n7 s7 ⟨i,l,v,hrs,huf,hil0,rfl,rfl⟩;refine aa λ_ k8=>?_;refine aa λK9 k9=>am hP hN rfl ?_
 iterate 4 (refine aw rfl λ_ k0=>?_;simp only[zO,zT,acs,reduceCtorEq,ad,J,ae,aj,af,ag,Mly.av,az];(repeat refine an ?_);(try refine .inl ?_);apply k0;clear k0;simp only[zP,J])
 refine ah (k9 _ (kx ?_));refine cB (λhc10=>?_) (λhc10=>?_)
 ·refine au ?_
  refine k8 _ (kx ?_);refine aa λ_ k11=>?_;refine ay ?_;refine aa λ_ k12=>?_;have hil:i<l.length:=ω;have hat:=hrs.at_ hil;have hrl:=hm.rl (l.getD i 0).toNat ω;have hrl2:((m.row (l.getD i 0)).length:Int)=m.inp:=hrl;have hle:=hrs.len;refine bz hP hN Tryz.mixed rfl ?_
  iterate 10 refine D9 ?_
  refine ah ?_;refine⟨ζ,?_⟩;refine k12 _ (kx ?_);refine ay ?_;refine aM (λn13 s13=>∃ (j:Nat) (v2:Nat),(j≤(m.row (l.getD i 0)).length)∧(RSet m.nx.length (((m.row (l.getD i 0)).take j).foldl addU l))∧n13=(m.row (l.getD i 0)).length-j∧s13={env:=[(1,.one (.ptr 0 0 0 0)),(2,.one (.ptr 1 0 0 0)),(3,.one .nils),(4,.one (.row 2 0)),(5,.one (.row 3 v2)),(6,.one (.int .i64 (i:Int))),(40,.one (.list Θ (m.row (l.getD i 0)))),(41,.one (.int .i64 ((m.row (l.getD i 0)).length:Int))),(42,.one (.int .i64 (j:Int)))],L:=[.vars 38 [.int .i64 m.inp,.int .i64 m.st,.list Γ m.nx,.list Γ m.ot],.vars 38 [.int .i64 0,.int .i64 0,.nils,.nils],.row Θ 3 0 (nbO m.nx.length (((m.row (l.getD i 0)).take j).foldl addU l)),.row Θ 3 v2 (((m.row (l.getD i 0)).take j).foldl addU l)]}) ?_ ?_
  ·exact⟨_,_,ar [1,2,3,4,5,6,40,41,42],0,v,Nat.zero_le _,hm.tk hrs hat.1 hat.2 0,rfl,rfl⟩
  rintro n13 s13 ⟨j,v2,hj0,hUR2,rfl,rfl⟩;refine zT5 ?_;refine aa λ_ k15=>?_;refine cB (λhc16=>?_) (λhc16=>?_)
  ·refine au ?_
   refine k15 _ (kx ?_);refine aa λ_ k17=>?_;refine ay ?_;refine lA ?_;refine aa λ_ k19=>?_;have hnr: -1≤((m.row (l.getD i 0)).getD j 0)∧((m.row (l.getD i 0)).getD j 0)<m.nx.length:=hm.nr (l.getD i 0).toNat j ω ω;have hUR:=hm.tk hrs hat.1 hat.2 j;have hUl:=hUR.len;refine am hP hN rfl ?_
   iterate 3 refine P9 ?_
   refine' zJ true 5 48 (λhg20=>?a20) ?b20 ?c20
   case a20=>
    have hq20:=hg20;(try simp only[zB,reduceCtorEq] at hg20);simp only[zE]
    iterate 5 (refine db rfl λ_ k0=>?_;simp only[zO,zT,acs,reduceCtorEq,ad,J,ae,aj,af,ag,Mly.av,o5];(repeat refine an ?_);(try refine .inl ?_);apply k0;clear k0;simp only[zP,J])
    refine P9 ?_;refine ah ?_;exact zK hq20
   case b20=>exact cF
   simp only[bh,aX];refine ah (k19 _ (kx ?_));refine cB (λhc21=>?_) (λhc21=>?_)
   ·have hc9:=hc21
    refine aa λK22 k22=>am hP hN rfl ?_
    iterate 6 refine P9 ?_
    refine ah (k22 _ (kx ?_));refine zR5 (h:=k17 _ (kx ?_));refine zR5 (h:=?_)
    first
    |(have e1:addU (((m.row (l.getD i 0)).take j).foldl addU l) ((m.row (l.getD i 0)).getD j 0)=(((m.row (l.getD i 0)).take j).foldl addU l)++[((m.row (l.getD i 0)).getD j 0)]:=rT hc9.1 ((lN ω ω).1 hc9.2)
      have e2:=vY (n:=m.nx.length) (od:=(((m.row (l.getD i 0)).take j).foldl addU l)) (t:=((m.row (l.getD i 0)).getD j 0)) ω ω ((lN ω ω).1 hc9.2);refine⟨_,_,?_,ar [1,2,3,4,5,6,40,41,42],j+1,v2+1,ω,hm.tk hrs hat.1 hat.2 (j+1),rfl,?_⟩
      ·omega
      ·rw[jq ω,e1,← e2];rfl)
    |(have e1:addU (((m.row (l.getD i 0)).take j).foldl addU l) ((m.row (l.getD i 0)).getD j 0)=(((m.row (l.getD i 0)).take j).foldl addU l):=by
       by_cases q1:((m.row (l.getD i 0)).getD j 0)= -1
       ·rw[q1,rQ]
       ·refine vJ (Decidable.byContradiction λq2=>?_)
        have q3:=(lN (n:=m.nx.length) ω ω).2 q2
        simp_all
      refine⟨_,_,?_,ar [1,2,3,4,5,6,40,41,42],j+1,v2,ω,hm.tk hrs hat.1 hat.2 (j+1),rfl,?_⟩
      ·omega
      ·rw[jq ω,e1];rfl)
   have hc9:=hc21;refine au (k17 _ (kx ?_));refine zR5 (h:=?_)
   first
   |(have e1:addU (((m.row (l.getD i 0)).take j).foldl addU l) ((m.row (l.getD i 0)).getD j 0)=(((m.row (l.getD i 0)).take j).foldl addU l)++[((m.row (l.getD i 0)).getD j 0)]:=rT hc9.1 ((lN ω ω).1 hc9.2)
     have e2:=vY (n:=m.nx.length) (od:=(((m.row (l.getD i 0)).take j).foldl addU l)) (t:=((m.row (l.getD i 0)).getD j 0)) ω ω ((lN ω ω).1 hc9.2);refine⟨_,_,?_,ar [1,2,3,4,5,6,40,41,42],j+1,v2+1,ω,hm.tk hrs hat.1 hat.2 (j+1),rfl,?_⟩
     ·omega
     ·rw[jq ω,e1,← e2];rfl)
   |(have e1:addU (((m.row (l.getD i 0)).take j).foldl addU l) ((m.row (l.getD i 0)).getD j 0)=(((m.row (l.getD i 0)).take j).foldl addU l):=by
      by_cases q1:((m.row (l.getD i 0)).getD j 0)= -1
      ·rw[q1,rQ]
      ·refine vJ (Decidable.byContradiction λq2=>?_)
       have q3:=(lN (n:=m.nx.length) ω ω).2 q2
       simp_all
     refine⟨_,_,?_,ar [1,2,3,4,5,6,40,41,42],j+1,v2,ω,hm.tk hrs hat.1 hat.2 (j+1),rfl,?_⟩
     ·omega
     ·rw[jq ω,e1];rfl)
  refine aL ?_;refine k11 _ (kx ?_);refine zR5 (h:=?_);have hje:j=(m.row (l.getD i 0)).length:=ω;subst hje;rw[aP] at hUR2;have hle2:=hUR2.len;refine⟨_,_,?_,ar [1,2,3,4,5,6],i+1,(m.row (l.getD i 0)).foldl addU l,v2,hUR2,?_,?_,rfl,?_⟩
  ·omega
  ·rw[← huf,show m.nx.length+1-i=(m.nx.length+1-(i+1))+1 by omega,xr m _ _ _ hil]
  ·obtain⟨k9,hk9⟩:=kB (m.row (l.getD i 0)) l
   rw[hk9,aq];omega
  ·rw[aP];rfl
 refine aL ?_;refine k5 _ (kx ?_);refine aa λ_ k23=>?_;have hl9:l=m.uo:=by rw[← huf];exact(AB m _ _ _ ω).symm
 subst hl9;refine cA 3 rfl ?_;simp only[aJ,aV,zS,ad,ZW,reduceCtorEq];refine cA 2 rfl ?_;simp only[aJ,aV,zS,ad,ZW,reduceCtorEq];refine zR5 (h:=k23 _ (kx ?_));refine aa λ_ k24=>?_;refine aa λ_ k25=>?_;refine eu 4 2 Γ 26 δ rfl rfl ?_;simp only[zS,ax,aF,aG,aC,Nat.zero_add,J];refine eu 4 3 Γ 26 δ rfl rfl ?_;simp only[zS,ax,aF,aG,aC,Nat.zero_add,J];refine zR5 (h:=k25 _ (kx ?_));refine ay ?_;refine aM (λn26 s26=>∃ (k:Nat),(k≤m.uo.length)∧n26=m.uo.length-k∧s26={env:=[(1,.one (.ptr 0 0 0 0)),(2,.one (.ptr 1 0 0 0)),(3,.one .nils),(4,.one (.list Θ m.rnN)),(9,.one (.ptr 4 0 0 0)),(68,.one (.list Θ m.uo)),(69,.one (.int .i64 (m.uo.length:Int))),(70,.one (.int .i64 (k:Int)))],L:=[.vars 38 [.int .i64 m.inp,.int .i64 m.st,.list Γ m.nx,.list Γ m.ot],.vars 38 [.int .i64 0,.int .i64 0,.nils,.nils],.dead 0,.dead v,.vars 38 [.int .i64 m.inp,.int .i64 0,.row 5 k,.row 6 k],.row Γ 26 k (qI m k),.row Γ 26 k (qy m k)]}) ?_ ?_
 ·exact⟨_,_,ar [1,2,3,4,9,68,69,70],0,Nat.zero_le _,rfl,rfl⟩
 rintro n26 s26 ⟨k,hk0,rfl,rfl⟩;refine zT5 ?_;refine aa λ_ k28=>?_;refine cB (λhc29=>?_) (λhc29=>?_)
 ·refine au ?_
  refine k28 _ (kx ?_);refine aa λ_ k30=>?_;refine ay ?_;refine lA ?_;refine aa λ_ k32=>?_;have hkl:k<m.uo.length:=ω;have hak:=huo.at_ hkl;have hrl:=hm.rl (m.uo.getD k 0).toNat ω;have hrl2:((m.row (m.uo.getD k 0)).length:Int)=m.inp:=hrl;have hql:=hm.ql (m.uo.getD k 0).toNat ω;refine du ?_;simp only[aG,List.append_assoc,aC];refine du ?_;simp only[aG,List.append_assoc,aC];refine bz hP hN Tryz.mixed rfl ?_
  iterate 2 refine zS6 ?_
  refine zC8 (fh (k:=7) rfl (ll m.inp ω ω)) ?_
  iterate 2 refine zS6 ?_
  refine zC8 (fh (k:=8) rfl (ll m.inp ω ω)) ?_
  iterate 2 refine zS6 ?_
  refine ah ?_;refine⟨ζ,?_⟩;refine k32 _ (kx ?_);refine aa λ_ k33=>?_;refine aa λ_ k34=>?_;rw[show unk m.inp.toNat=unk (m.row (m.uo.getD k 0)).length by congr 1;omega];refine Jq (h:=k34 _ (kx ?_));refine ay ?_;refine aM (λn35 s35=>∃ (j:Nat),(j≤(m.row (m.uo.getD k 0)).length)∧n35=(m.row (m.uo.getD k 0)).length-j∧s35={env:=[(1,.one (.ptr 0 0 0 0)),(2,.one (.ptr 1 0 0 0)),(3,.one .nils),(4,.one (.list Θ m.rnN)),(9,.one (.ptr 4 0 0 0)),(11,.one (.int .i64 (m.uo.getD k 0))),(12,.one (.row 7 1)),(13,.one (.row 8 1)),(68,.one (.list Θ m.uo)),(69,.one (.int .i64 (m.uo.length:Int))),(70,.one (.int .i64 (k:Int))),(84,.one (.list Θ (m.row (m.uo.getD k 0)))),(85,.one (.int .i64 ((m.row (m.uo.getD k 0)).length:Int))),(86,.one (.int .i64 (j:Int)))],L:=[.vars 38 [.int .i64 m.inp,.int .i64 m.st,.list Γ m.nx,.list Γ m.ot],.vars 38 [.int .i64 0,.int .i64 0,.nils,.nils],.dead 0,.dead v,.vars 38 [.int .i64 m.inp,.int .i64 0,.row 5 k,.row 6 k],.row Γ 26 k (qI m k),.row Γ 26 k (qy m k),.row Θ 3 1 (nxT m (m.uo.getD k 0) j),.row Θ 3 1 (otT m (m.uo.getD k 0) j)]}) ?_ ?_
  ·exact⟨_,_,ar [1,2,3,4,9,11,12,13,68,69,70,84,85,86],0,Nat.zero_le _,rfl,by rw[UY,U8];rfl⟩
  rintro n35 s35 ⟨j,hj0,rfl,rfl⟩;refine zT5 ?_;refine aa λ_ k37=>?_;refine cB (λhc38=>?_) (λhc38=>?_)
  ·refine au ?_
   refine k37 _ (kx ?_);refine aa λ_ k39=>?_;refine ay ?_;refine lA ?_;refine zT5 ?_;refine cB (λhc42=>?_) (λhc42=>?_)
   ·have hc9:=hc42
    have hnr: -1≤(m.row (m.uo.getD k 0)).getD j 0∧(m.row (m.uo.getD k 0)).getD j 0<m.nx.length:=hm.nr (m.uo.getD k 0).toNat j ω ω;have hxl:=NU m (m.uo.getD k 0) (j:=j) ω;have hxo:=Qe m (m.uo.getD k 0) (j:=j) ω;refine bz hP hN Tryz.mixed rfl ?_
    iterate 20 (refine aw rfl λ_ k0=>?_;simp only[zO,zT,acs,reduceCtorEq,ad,J,ae,aj,af,ag,Mly.av,gt,az,o5];(repeat refine an ?_);(try refine .inl ?_);apply k0;clear k0;simp only[zP,J])
    refine ah ?_;refine⟨ζ,?_⟩;refine k39 _ (kx ?_);refine zR5 (h:=?_)
    first
    |(refine⟨_,_,?_,ar [1,2,3,4,9,11,12,13,68,69,70,84,85,86],j+1,ω,rfl,?_⟩
      ·omega
      ·rw[En ω hc9,Ca ω hc9];rfl)
    |(refine⟨_,_,?_,ar [1,2,3,4,9,11,12,13,68,69,70,84,85,86],j+1,ω,rfl,?_⟩
      ·omega
      ·rw[DX ω hc9,Eb ω hc9];rfl)
   have hc9:=hc42;refine au (k39 _ (kx ?_));refine zR5 (h:=?_)
   first
   |(refine⟨_,_,?_,ar [1,2,3,4,9,11,12,13,68,69,70,84,85,86],j+1,ω,rfl,?_⟩
     ·omega
     ·rw[En ω hc9,Ca ω hc9];rfl)
   |(refine⟨_,_,?_,ar [1,2,3,4,9,11,12,13,68,69,70,84,85,86],j+1,ω,rfl,?_⟩
     ·omega
     ·rw[DX ω hc9,Eb ω hc9];rfl)
  refine aL ?_;refine k33 _ (kx ?_);have hxl:=Kw (m:=m) (k:=k) ω;have hxo:=KT (m:=m) (k:=k) ω;have hje:j=(m.row (m.uo.getD k 0)).length:=ω;subst hje;rw[Nm,Oc];refine cA 7 rfl ?_;simp only[aJ,aV,zS,ad,ZW,reduceCtorEq];refine cA 8 rfl ?_;simp only[aJ,aV,zS,ad,ZW,reduceCtorEq];refine bz hP hN Tryz.mixed rfl ?_
  iterate 14 refine zS6 ?_
  refine ah ?_;refine⟨ζ,?_⟩;refine k30 _ (kx ?_);refine dO (n:=8) (L1:=[_,_,_,_,_,_,_,_]) rfl rfl (by rw[hB];decide) rfl rfl ?_;refine dO (n:=7) (L1:=[_,_,_,_,_,_,_]) rfl rfl (by rw[hB];decide) rfl rfl ?_;refine zR5 (h:=?_);refine⟨_,_,?_,ar [1,2,3,4,9,68,69,70],k+1,ω,rfl,?_⟩
  ·omega
  ·rw[G0 ω,FO ω];rfl
 refine aL ?_;refine k24 _ (kx ?_);refine aa λ_ k43=>?_;have hke:k=m.uo.length:=ω;subst hke;rw[Ks,Lt];refine eI 5 4 rfl rfl ?_;simp only[aJ,aV,frC,zS,ad,ZW,reduceCtorEq];refine eI 6 4 rfl rfl ?_;simp only[aJ,aV,frC,zS,ad,ZW,reduceCtorEq];refine zR5 (h:=k43 _ (kx ?_));refine aA ?_;refine zZm ?_
 all_goals rfl
theorem NB (m:Mly)(hm:PK m)(sa ta:Int)(hsa:0≤sa∧sa<m.nx.length)(hta:0≤ta∧ta<m.nx.length):aY Tryz.prog 58 [m.av,.one (.int .i64 sa),.one (.int .i64 ta)] (.tup [(foP m sa ta).av,.one (.list Θ (foC m sa ta)),.one (.bool (foB m sa ta))]):=by
 refine zQ 235 Tryz.func58 λC hP hN hB=>?_;have hX:KX [0,1,2,3,6,7,8,9,10,11,12,13,14,15,16,17,18,19,20,21,22,23,29,30,31,66,83,98,99,100,101,118,121,154,176,177,178,184,185,186,187,192,219,220,221]:=⟨trivial⟩
 have h1:=hm.s1;have h2:=hm.s2;have h3:=hm.n2;have h4:=hm.n1;have hi1:=hm.i1;have hi2:=hm.i2;have hol:=hm.ol;have hF0:mX m.nx.length (gX m sa ta)=m.nx.length*65+1:=rfl;refine zT5 ?_;refine zT5 ?_;refine aa λ_ k3=>?_;refine aa λ_ k4=>?_;refine nq 2 2 1 26 δ rfl rfl ?_;simp only[zS,ax,aF,aG,aC,Nat.zero_add,J];refine nq 2 3 1 26 δ rfl rfl ?_;simp only[zS,ax,aF,aG,aC,Nat.zero_add,J];refine du ?_;simp only[aG,List.append_assoc,aC];refine zR5 (h:=k4 _ (kx ?_));refine ay ?_;refine aM (λn5 s5=>∃ (k:Nat),(k≤m.nx.length)∧n5=m.nx.length-k∧s5={env:=[(1,.one (.int .i64 sa)),(2,.one (.int .i64 ta)),(3,.one (.ptr 0 0 0 0)),(6,.one (.ptr 1 0 0 0)),(7,.one .nils),(8,.one (.bool false)),(9,.one (.ptr 2 0 0 0)),(29,.one (.int .i64 (m.nx.length:Int))),(30,.one (.int .i64 (k:Int)))],L:=.vars 38 [.int .i64 m.inp,.int .i64 m.st,.list Γ m.nx,.list Γ m.ot]:: .vars 38 [.int .i64 0,.int .i64 0,.nils,.nils]:: .vars 38 [.int .i64 m.inp,.int .i64 0,.rwc 3 k,.rwc 4 k]:: .rowc 26 1 k (frN 2 k):: .rowc 26 1 k (frQ 2 k):: .dead (2*k)::frX 3 2 (m.nx.take k) (m.ot.take k) []}) ?_ ?_
 ·exact⟨_,_,ar [1,2,3,6,7,8,9,29,30],0,Nat.zero_le _,rfl,rfl⟩
 rintro n5 s5 ⟨k,hk0,rfl,rfl⟩;refine zT5 ?_;refine aa λ_ k7=>?_;refine cB (λhc8=>?_) (λhc8=>?_)
 ·refine au ?_
  refine k7 _ (kx ?_);refine aa λ_ k9=>?_;refine ay ?_;refine zT5 ?_;refine aa λ_ k11=>?_;have hkl:k<m.nx.length:=ω;have hrl:=hm.rl k hkl;have hnk:(m.nx.take k).length=k:=by rw[List.length_take];omega
  have hln:(m.ot.take k).length=(m.nx.take k).length:=by rw[List.length_take,List.length_take];omega
  refine du ?_;simp only[aG,List.append_assoc,aC];simp only[iN,aC];have g5a:(frX 3 2 (m.nx.take k) (m.ot.take k) [.dead 0])[2*k]? =some (.dead 0):=fR hln hnk 0;have g5b:(frX 3 2 (m.nx.take k) (m.ot.take k) [.dead 0]).set (2*k) (.row Θ 3 1 [])=frX 3 2 (m.nx.take k) (m.ot.take k) [.row Θ 3 1 []]:=iI hln hnk 0 _;have g5c:(frX 3 2 (m.nx.take k) (m.ot.take k) [.row Θ 3 1 []])[2*k]? =some (.row Θ 3 1 []):=fR hln hnk 0;have g5d:(frX 3 2 (m.nx.take k) (m.ot.take k) [.row Θ 3 1 []]).set (2*k) (.row Θ 3 2 (m.nx.getD k []))=frX 3 2 (m.nx.take k) (m.ot.take k) [.row Θ 3 2 (m.nx.getD k [])]:=iI hln hnk 0 _;have g5e:=(zW 2 k).symm;have g5f:=lD 2 k;refine bz hP hN Tryz.mixed rfl ?_
  iterate 2 (refine aw rfl λ_ k0=>?_;simp only[zO,zT,acs,reduceCtorEq,ad,J,ae,aj,af,ag,Mly.av,az,g5a,g5c];(repeat refine an ?_);(try refine .inl ?_);apply k0;clear k0;simp only[zP,J,g5b,g5d,g5e,aC])
  (refine aw rfl λ_ k0=>?_;simp only[zO,zT,acs,reduceCtorEq,ad,J,ae,aj,af,ag,Mly.av,az,g5a,g5c];refine Or.inr (Or.inr (Or.inl ⟨2*k+1+1+1+1+1+1,g5a,?_⟩));refine k0 _ ?_;clear k0;simp only[zP,J,g5b,g5d,g5e,aC])
  iterate 6 (refine aw rfl λ_ k0=>?_;simp only[zO,zT,acs,reduceCtorEq,ad,J,ae,aj,af,ag,Mly.av,az,g5a,g5c];(repeat refine an ?_);(try refine .inl ?_);apply k0;clear k0;simp only[zP,J,g5b,g5d,g5e,aC])
  refine d4 (λC9 hC9=>.inl ⟨rfl,dy (t:=.list (.int .i64)) (k:=5) (v9:=2*k) rfl rfl (by rw[hC9];exact Tryz.td22) rfl (by rw[hC9];exact Tryz.td26) rfl rfl δ δ rfl⟩) ?_;simp only[zP,J,g5b,g5d,g5e,aC]
  (refine aw rfl λ_ k0=>?_;simp only[zO,zT,acs,reduceCtorEq,ad,J,ae,aj,af,ag,Mly.av,az,g5a,g5c];refine⟨⟨k,1,⟨(by first|omega|(rw[g5f];simp)|simp),(by first|rfl|simp),δ⟩,ω,ω⟩,k0 _ ?_⟩;clear k0;simp only[zP,J,g5b,g5d,g5e,aC])
  iterate 2 (refine aw rfl λ_ k0=>?_;simp only[zO,zT,acs,reduceCtorEq,ad,J,ae,aj,af,ag,Mly.av,az,g5a,g5c];(repeat refine an ?_);(try refine .inl ?_);apply k0;clear k0;simp only[zP,J,g5b,g5d,g5e,aC])
  refine ah ?_;refine⟨by exact j7 (nS (a:=2*k+6) (b:=2*k+7) (c:=2*k+8) ω ω ω ω ω ω) [([],[2],0),([],[2],0),([6],[6],0),([],[0],0),([],[0],0),([],[],0),([],[],0),([],[],0),([6],[6],0),([5],[5],0),([3],[3,5],0),([],[2],0),([2],[2],0)] ζ,?_⟩;refine k11 _ (kx ?_);refine iu 5 rfl ?_;simp only[bV,bu,AO.ver];have hql:=hm.ql k hkl;refine du ?_;simp only[aG,List.append_assoc,aC];simp only[iN,aC,aG];have g6a:(frX 3 2 (m.nx.take k) (m.ot.take k) [.row Θ 3 2 (m.nx.getD k []),.dead 0])[2*k+1]? =some (.dead 0):=fR hln hnk 1;have g6b:(frX 3 2 (m.nx.take k) (m.ot.take k) [.row Θ 3 2 (m.nx.getD k []),.dead 0]).set (2*k+1) (.row Θ 3 1 [])=frX 3 2 (m.nx.take k) (m.ot.take k) [.row Θ 3 2 (m.nx.getD k []),.row Θ 3 1 []]:=iI hln hnk 1 _;have g6c:(frX 3 2 (m.nx.take k) (m.ot.take k) [.row Θ 3 2 (m.nx.getD k []),.row Θ 3 1 []])[2*k+1]? =some (.row Θ 3 1 []):=fR hln hnk 1;have g6d:(frX 3 2 (m.nx.take k) (m.ot.take k) [.row Θ 3 2 (m.nx.getD k []),.row Θ 3 1 []]).set (2*k+1) (.row Θ 3 2 (m.ot.getD k []))=frX 3 2 (m.nx.take k) (m.ot.take k) [.row Θ 3 2 (m.nx.getD k []),.row Θ 3 2 (m.ot.getD k [])]:=iI hln hnk 1 _;have g6e:=(yz 2 k).symm;have g6f:=qB 2 k;refine bz hP hN Tryz.mixed rfl ?_
  iterate 2 (refine aw rfl λ_ k0=>?_;simp only[zO,zT,acs,reduceCtorEq,ad,J,ae,aj,af,ag,Mly.av,az,g6a,g6c];(repeat refine an ?_);(try refine .inl ?_);apply k0;clear k0;simp only[zP,J,g6b,g6d,g6e,aC])
  (refine aw rfl λ_ k0=>?_;simp only[zO,zT,acs,reduceCtorEq,ad,J,ae,aj,af,ag,Mly.av,az,g6a,g6c];refine Or.inr (Or.inr (Or.inl ⟨2*k+1+1+1+1+1+1+1,g6a,?_⟩));refine k0 _ ?_;clear k0;simp only[zP,J,g6b,g6d,g6e,aC])
  iterate 6 (refine aw rfl λ_ k0=>?_;simp only[zO,zT,acs,reduceCtorEq,ad,J,ae,aj,af,ag,Mly.av,az,g6a,g6c];(repeat refine an ?_);(try refine .inl ?_);apply k0;clear k0;simp only[zP,J,g6b,g6d,g6e,aC])
  refine d4 (λC9 hC9=>.inl ⟨rfl,dy (t:=.list (.int .i64)) (k:=5) (v9:=2*k+1) rfl rfl (by rw[hC9];exact Tryz.td22) rfl (by rw[hC9];exact Tryz.td26) rfl rfl δ δ rfl⟩) ?_;simp only[zP,J,g6b,g6d,g6e,aC]
  (refine aw rfl λ_ k0=>?_;simp only[zO,zT,acs,reduceCtorEq,ad,J,ae,aj,af,ag,Mly.av,az,g6a,g6c];refine⟨⟨k,1,⟨(by first|omega|(rw[g6f];simp)|simp),(by first|rfl|simp),δ⟩,ω,ω⟩,k0 _ ?_⟩;clear k0;simp only[zP,J,g6b,g6d,g6e,aC])
  iterate 2 (refine aw rfl λ_ k0=>?_;simp only[zO,zT,acs,reduceCtorEq,ad,J,ae,aj,af,ag,Mly.av,az,g6a,g6c];(repeat refine an ?_);(try refine .inl ?_);apply k0;clear k0;simp only[zP,J,g6b,g6d,g6e,aC])
  refine ah ?_;refine⟨by exact j7 (nS (a:=2*k+7) (b:=2*k+8) (c:=2*k+9) ω ω ω ω ω ω) [([],[2],0),([],[2],0),([6],[6],0),([],[0],0),([],[0],0),([],[],0),([],[],0),([],[],0),([6],[6],0),([5],[5],0),([4],[4,5],0),([],[2],0),([2],[2],0)] ζ,?_⟩;refine k9 _ (kx ?_);refine iu 5 rfl ?_;simp only[bV,bu,AO.ver];refine zR5 (h:=?_);refine⟨_,_,?_,ar [1,2,3,6,7,8,9,29,30],k+1,ω,rfl,?_⟩
  ·omega
  ·rw[tu hkl,tu (show k<m.ot.length by omega),← vr hln,show 2*(k+1)=2*k+1+1 by omega];rfl
 refine aL ?_;refine k3 _ (kx ?_);refine aa λ_ k12=>?_;have hke:k=m.nx.length:=ω;subst hke;have htk1:m.nx.take m.nx.length=m.nx:=aP;have htk2:m.ot.take m.nx.length=m.ot:=by rw[← hol];exact aP
 rw[htk1,htk2];have g8a:(frX 3 2 m.nx m.ot []).length=2*m.nx.length:=ny hol;have g8b:(frX 3 2 m.nx m.ot [.mp 143 .int []]).length=2*m.nx.length+1:=ny hol;have g8c:∀ x:AO,(frX 3 2 m.nx m.ot [.mp 143 .int [],x])[2*m.nx.length+1]? =some x:=λx=>fR hol rfl 1;have g8d:∀ x y:AO,(frX 3 2 m.nx m.ot [.mp 143 .int [],x]).set (2*m.nx.length+1) y=frX 3 2 m.nx m.ot [.mp 143 .int [],y]:=λx y=>iI hol rfl 1 y;refine am hP hN rfl ?_
 (refine aw rfl λ_ k0=>?_;simp only[zE,op1,ev,lkp,cR,bP,kC,kn,cu,cg,cG,kH,fo,Nat.mul_one,bq,acs,Ty.size,Ty.dflt,zG,reduceCtorEq,ad,J,ae,aj,af,ag,Tryz.mk143,Tryz.st145,Tryz.td145,Mly.av,ax,g8a,g8b,g8c];(repeat refine an ?_);(try refine .inl ?_);apply k0;clear k0;simp only[zP,J,aG,iN,aC,g8d])
 iterate 3 (refine aw rfl λ_ k0=>?_;simp only[zO,zT,acs,reduceCtorEq,ad,J,ae,aj,af,ag,Mly.av,ax,g8a,g8b,g8c];(repeat refine an ?_);(try refine .inl ?_);apply k0;clear k0;simp only[zP,J,aG,iN,aC,g8d])
 refine ah (k12 _ (kx ?_));refine aa λ_ k13=>?_;refine aa λ_ k14=>?_;have g9a:∀ x y:AO,(frX 3 2 m.nx m.ot [x,y]).length=2*m.nx.length+1+1:=λx y=>ny hol;refine am hP hN rfl ?_
 iterate 3 (refine aw rfl λ_ k0=>?_;simp only[zO,zT,acs,reduceCtorEq,ad,J,ae,aj,af,ag,Mly.av,ax,g9a];(repeat refine an ?_);(try refine .inl ?_);apply k0;clear k0;simp only[zP,J,aG,iN,aC])
 (refine aw rfl λ_ k0=>?_;simp only[zO,zT,acs,reduceCtorEq,ad,J,ae,aj,af,ag,Mly.av,ax,g9a];(repeat refine an ?_);refine Or.inr (Or.inl (k0 _ ?_));clear k0;simp only[zP,J,aG,iN,aC])
 (refine aw rfl λ_ k0=>?_;simp only[zO,zT,acs,reduceCtorEq,ad,J,ae,aj,af,ag,Mly.av,ax,g9a];(repeat refine an ?_);(try refine .inl ?_);apply k0;clear k0;simp only[zP,J,aG,iN,aC])
 refine ah (k14 _ (kx ?_));refine ay ?_;refine Dq 12 (2*m.nx.length+1+1+1+1+1+1+1+1) rfl (fR hol rfl 2) η λcp hcp=>?_;refine aM (λn15 s15=>∃ (s:FST) (xs:List (Int×(Int×Unit))) (p v c i:Nat),(WI m.nx.length m.inp.toNat s)∧(s.wk=xs.drop p)∧(p≤xs.length)∧(xs.length≤c)∧(gi m.inp.toNat (mX m.nx.length (gX m sa ta)+1-i) s=foG m sa ta)∧(i+mX m.nx.length s≤mX m.nx.length (gX m sa ta))∧(xs.length+(m.nx.length-s.up.length)*65≤m.nx.length*65+1)∧n15=mX m.nx.length s∧s15={env:=[(3,.one (.ptr 0 0 0 0)),(6,.one (.ptr 1 0 0 0)),(7,.one .nils),(8,.one (.bool false)),(9,.one (.ptr 2 0 0 0)),(11,.one (.ptr (2*m.nx.length+1+1+1+1+1+1+1) 0 0 0)),(12,.one (.suf (2*m.nx.length+1+1+1+1+1+1+1+1) v p (some c)))],L:=.vars 38 [.int .i64 m.inp,.int .i64 m.st,.list Γ m.nx,.list Γ m.ot]:: .vars 38 [.int .i64 0,.int .i64 0,.nils,.nils]:: .vars 38 [.int .i64 m.inp,.int .i64 0,.rwc 3 m.nx.length,.rwc 4 m.nx.length]:: .rowc 26 1 m.nx.length (frN 2 m.nx.length):: .rowc 26 1 m.nx.length (frQ 2 m.nx.length):: .dead (2*m.nx.length)::frX 3 2 s.nx s.ot [.mp 143 .int s.up,.vars 145 [.mpv (2*m.nx.length+1+1+1+1+1+1)],.row (.pair Θ (.pair Θ .unit)) 146 v xs]}) ?_ ?_
 ·exact⟨_,_,ar [3,6,7,8,9,11,12],gX m sa ta,[(sa,(ta,()))],0,0,cp,0,WI.zero hm hsa hta,rfl,Nat.zero_le _,hcp,rfl,ω,by show 1+(m.nx.length-0)*65≤_;omega,rfl,rfl⟩
 rintro n15 s15 ⟨s,xs,p,v,c,i,hWn,hwk,hp,hcc,hrun,hmu,hxl,rfl,rfl⟩;refine aa λ_ k16=>?_;refine aa λ_ k17=>?_;have hSl:=hWn.nl;have hSo:=hWn.ol;have hSS:s.ot.length=s.nx.length:=ω;have hLw:(frX 3 2 s.nx s.ot [.mp 143 .int s.up,.vars 145 [.mpv (2*m.nx.length+1+1+1+1+1+1)],.row (.pair (.int .i64) (.pair (.int .i64) .unit)) 146 v xs])[(2*m.nx.length+1+1)]? =some (.row (.pair (.int .i64) (.pair (.int .i64) .unit)) 146 v xs):=fR hSS hSl 2;refine am hP hN rfl ?_;refine xq hLw ?_;refine d4 (λC9 hC9=>.inl ⟨rfl,ph (t:=.pair (.int .i64) (.pair (.int .i64) .unit)) (xs:=xs) rfl rfl (by rw[hC9];exact Tryz.td147) rfl rfl hLw⟩) ?_;simp only[zP,J];refine xq hLw ?_;refine ah (k17 _ (kx ?_));refine cB (λhc18=>?_) (λhc18=>?_)
 ·refine au ?_
  refine k16 _ (kx ?_);refine ay ?_;refine aa λ_ k19=>?_;have hpl:p<xs.length:=ω;have hwl:s.wk.length=xs.length-p:=by rw[hwk,List.length_drop]
  have hwd:s.wk.getD 0 (0,(0,()))=xs.getD p (0,(0,())):=by rw[hwk];simp[List.getD]
  have hLb:(frX 3 2 s.nx s.ot [.mp 143 .int s.up,.vars 145 [.mpv (2*m.nx.length+1+1+1+1+1+1)],.row (.pair Θ (.pair Θ .unit)) 146 v xs])[(2*m.nx.length+1)]? =some (.vars 145 [.mpv (2*m.nx.length+1+1+1+1+1+1)]):=fR hSS hSl 1;have hLm:(frX 3 2 s.nx s.ot [.mp 143 .int s.up,.vars 145 [.mpv (2*m.nx.length+1+1+1+1+1+1)],.row (.pair Θ (.pair Θ .unit)) 146 v xs])[(2*m.nx.length)]? =some (.mp 143 .int s.up):=fR hSS hSl 0;have hmA:(.vars 38 [.int .i64 m.inp,.int .i64 m.st,.list Γ m.nx,.list Γ m.ot]:: .vars 38 [.int .i64 0,.int .i64 0,.nils,.nils]:: .vars 38 [.int .i64 m.inp,.int .i64 0,.rwc 3 m.nx.length,.rwc 4 m.nx.length]:: .rowc 26 1 m.nx.length (frN 2 m.nx.length):: .rowc 26 1 m.nx.length (frQ 2 m.nx.length):: .dead (2*m.nx.length)::frX 3 2 s.nx s.ot [.mp 143 .int s.up,.vars 145 [.mpv (2*m.nx.length+1+1+1+1+1+1)],.row (.pair Θ (.pair Θ .unit)) 146 v xs])[(2*m.nx.length+1+1+1+1+1+1)]? =some (.mp 143 .int s.up):=hLm;have hfl:=Bz (A0:=.vars 38 [.int .i64 m.inp,.int .i64 m.st,.list Γ m.nx,.list Γ m.ot]) (A1:=.vars 38 [.int .i64 0,.int .i64 0,.nils,.nils]) (A2:=.vars 38 [.int .i64 m.inp,.int .i64 0,.rwc 3 m.nx.length,.rwc 4 m.nx.length]) (A3:=.rowc 26 1 m.nx.length (frN 2 m.nx.length)) (A4:=.rowc 26 1 m.nx.length (frQ 2 m.nx.length)) (A5:=.dead (2*m.nx.length)) (E:=3) (V:=2) (X:=[.mp 143 .int s.up,.vars 145 [.mpv (2*m.nx.length+1+1+1+1+1+1)],.row (.pair Θ (.pair Θ .unit)) 146 v xs]) hSS;simp only[ax,aF] at hfl;have hfA:(.vars 38 [.int .i64 m.inp,.int .i64 m.st,.list Γ m.nx,.list Γ m.ot]:: .vars 38 [.int .i64 0,.int .i64 0,.nils,.nils]:: .vars 38 [.int .i64 m.inp,.int .i64 0,.rwc 3 m.nx.length,.rwc 4 m.nx.length]:: .rowc 26 1 m.nx.length (frN 2 m.nx.length):: .rowc 26 1 m.nx.length (frQ 2 m.nx.length):: .dead (2*m.nx.length)::frX 3 2 s.nx s.ot [.mp 143 .int s.up,.vars 145 [.mpv (2*m.nx.length+1+1+1+1+1+1)],.row (.pair Θ (.pair Θ .unit)) 146 v xs]).all (cr (.vars 38 [.int .i64 m.inp,.int .i64 m.st,.list Γ m.nx,.list Γ m.ot]:: .vars 38 [.int .i64 0,.int .i64 0,.nils,.nils]:: .vars 38 [.int .i64 m.inp,.int .i64 0,.rwc 3 m.nx.length,.rwc 4 m.nx.length]:: .rowc 26 1 m.nx.length (frN 2 m.nx.length):: .rowc 26 1 m.nx.length (frQ 2 m.nx.length):: .dead (2*m.nx.length)::frX 3 2 s.nx s.ot [.mp 143 .int s.up,.vars 145 [.mpv (2*m.nx.length+1+1+1+1+1+1)],.row (.pair Θ (.pair Θ .unit)) 146 v xs]).length)=true:=by
   refine y9 rfl rfl rfl rfl ?_ ?_
   ·simp only[ax];omega
   ·simp only[List.all_cons,List.all_nil,Bool.and_true,cr,bY,Bool.true_and,decide_eq_true_eq];simp only[ax];omega
  have hwm:=hWn.wr _ (ve (s:=s) ω);rw[hwd] at hwm;obtain⟨⟨hu0,hu1⟩,hv0,hv1⟩:=hwm;refine bz hP hN Tryz.mixed rfl ?_
  iterate 2 refine DH (And.intro hLb hLw) ?_
  refine d4 (λC9 hC9=>.inl ⟨rfl,fZ (t:=.pair (.int .i64) (.pair (.int .i64) .unit)) (xs:=xs) rfl (by rw[hC9];exact Tryz.td147) rfl (by rw[hC9];exact Tryz.td146) rfl rfl hLw rfl ω ω⟩) ?_;simp only[zP,J];refine d4 (λC9 hC9=>.inl ⟨rfl,lr (t:=.pair (.int .i64) (.pair (.int .i64) .unit)) (xs:=xs) rfl (by rw[hC9];exact Tryz.td146) rfl (by rw[hC9];exact Tryz.td3) rfl hLw rfl ω ω δ⟩) ?_;simp only[zP,J];refine DH (And.intro hLb hLw) ?_;refine aw rfl λ_ k0=>?_;refine bo (h:=y5 _ (2*m.nx.length+1+1+1+1+1+1) m.nx.length s.up _ hmA hfA hWn.uo ω hu0 hu1) rfl rfl (by first|exact rfl|(simp only[ev,zP,ad,J];exact rfl)) (by simp only[zV,acs,reduceCtorEq,ad,J,ae,aj,af,ag,Mly.av,hLb,hLw,Int.toNat_zero,Nat.add_zero]) ?_;apply k0;clear k0;simp only[zP,J]
  iterate 2 refine DH (And.intro hLb hLw) ?_
  refine d4 (λC9 hC9=>.inl ⟨rfl,fZ (t:=.pair (.int .i64) (.pair (.int .i64) .unit)) (xs:=xs) rfl (by rw[hC9];exact Tryz.td147) rfl (by rw[hC9];exact Tryz.td146) rfl rfl hLw rfl ω ω⟩) ?_;simp only[zP,J];refine d4 (λC9 hC9=>.inl ⟨rfl,lr (t:=.pair (.int .i64) (.pair (.int .i64) .unit)) (xs:=xs) rfl (by rw[hC9];exact Tryz.td146) rfl (by rw[hC9];exact Tryz.td3) rfl hLw rfl ω ω δ⟩) ?_;simp only[zP,J];refine DH (And.intro hLb hLw) ?_;refine aw rfl λ_ k0=>?_;refine bo (h:=y5 _ (2*m.nx.length+1+1+1+1+1+1) m.nx.length s.up _ hmA hfA hWn.uo ω hv0 hv1) rfl rfl (by first|exact rfl|(simp only[ev,zP,ad,J];exact rfl)) (by simp only[zV,acs,reduceCtorEq,ad,J,ae,aj,af,ag,Mly.av,hLb,hLw,Int.toNat_zero,Nat.add_zero]) ?_;apply k0;clear k0;simp only[zP,J]
  iterate 2 refine DH (And.intro hLb hLw) ?_
  refine ah ?_;refine⟨ζ,?_⟩;refine k19 _ (kx ?_);refine aa λ_ k20=>?_;obtain⟨U,hU⟩:∃ U:Nat,bm s.up (xs.getD p (0,(0,()))).1=(U:Int):=⟨(bm s.up (xs.getD p (0,(0,()))).1).toNat,by have:=(hWn.uo.rep hu0).1;omega⟩
  obtain⟨W,hW⟩:∃ W:Nat,bm s.up (xs.getD p (0,(0,()))).2.1=(W:Int):=⟨(bm s.up (xs.getD p (0,(0,()))).2.1).toNat,by have:=(hWn.uo.rep hv0).1;omega⟩
  have hUl:=(hWn.uo.rep hu0).2.1;have hWl:=(hWn.uo.rep hv0).2.1;rw[hU] at hUl;rw[hW] at hWl;rw[hU,hW];have hfu:foU s=(U:Int):=by unfold foU;rw[hwd];exact hU
  have hfv:foV s=(W:Int):=by unfold foV;rw[hwd];exact hW
  refine am hP hN rfl ?_
  (refine aw rfl λ_ k0=>?_;simp only[zO,zT,acs,reduceCtorEq,ad,J,ae,aj,af,ag,Mly.av,hLw];(repeat refine an ?_);(try refine .inl ?_);apply k0;clear k0;simp only[zP,J,Int.toNat_one])
  refine d4 (λC9 hC9=>.inl ⟨rfl,uB (t:=.pair (.int .i64) (.pair (.int .i64) .unit)) (xs:=xs) rfl (by rw[hC9];exact Tryz.td147) rfl (by rw[hC9];exact Tryz.td146) rfl rfl hLw rfl ω ω⟩) ?_;simp only[zP,J,Int.toNat_one]
  (refine aw rfl λ_ k0=>?_;simp only[zO,zT,acs,reduceCtorEq,ad,J,ae,aj,af,ag,Mly.av,hLw];(repeat refine an ?_);(try refine .inl ?_);apply k0;clear k0;simp only[zP,J,Int.toNat_one])
  refine ah (k20 _ (kx ?_));refine aa λ_ k21=>?_;refine zT5 ?_;refine cB (λhc23=>?_) (λhc23=>?_)
  ·have heq:=hc23
   refine aL ?_
   first
   |(have hst:=pU (inp:=m.inp.toNat) (s:=s) (by rw[hfu,hfv];exact heq)
     obtain⟨w1,w2⟩:=hWn.step ω ω hst;refine⟨_,_,?_,ar [3,6,7,8,9,11,12],{s with wk:=s.wk.drop 1},xs,p+1,v,c,i+1,w1,?_,ω,hcc,oy hrun ω ω hst,ω,hxl,rfl,rfl⟩
     ·exact w2
     ·show s.wk.drop 1=_;rw[hwk,List.drop_drop])
   |(have hae:a=m.inp.toNat:=by omega
     subst hae;have hst2:=hst.trans hR;obtain⟨w1,w2⟩:=hWn.step ω ω hst2;refine⟨_,_,?_,ar [3,6,7,8,9,11,12],s2,xs2,p2,v2,c2,i+1,w1,hwk2,hp2,hcc2,oy hrun ω ω hst2,ω,?_,rfl,?_⟩
     ·exact w2
     ·have e1:=(hWJ.foR (by omega:X<m.nx.length) hYn m.inp.toNat (Υ _) hR).2.1
      have e2:(foJ s).up.length=s.up.length+1:=rI (hWn.fresh2 hJ0).1;have e3:=rM hWJ.uo ω;rw[e1,e2];omega
     ·have e1:=(hWJ.foR (by omega:X<m.nx.length) hYn m.inp.toNat (Υ _) hR).2.1
      rw[e1];rfl)
  have hne:¬(U:Int)=(W:Int):=hc23;refine au (k21 _ (kx ?_));refine zT5 ?_;refine aa λ_ k25=>?_;obtain⟨X,hX⟩:∃ X,X=min U W:=⟨_,rfl⟩
  obtain⟨Y,hY⟩:∃ Y,Y=max U W:=⟨_,rfl⟩
  have hXi:min (U:Int) (W:Int)=(X:Int):=ω;have hYi:max (U:Int) (W:Int)=(Y:Int):=ω;rw[hXi,hYi];have hXY:X<Y:=ω;have hYn:Y<m.nx.length:=ω;have hst:=G1 (inp:=m.inp.toNat) hfu hfv hne hX hY;have hup:f0 s.up (.int (Y:Int)) (X:Int)=(foJ s).up:=by unfold foJ;rw[hfu,hfv,hXi,hYi]
  have g15:∀ x:AO,(frX 3 2 s.nx s.ot [.mp 143 .int s.up,.vars 145 [.mpv (2*m.nx.length+1+1+1+1+1+1)],.row (.pair Θ (.pair Θ .unit)) 146 v xs]).set (2*m.nx.length) x=frX 3 2 s.nx s.ot [x,.vars 145 [.mpv (2*m.nx.length+1+1+1+1+1+1)],.row (.pair Θ (.pair Θ .unit)) 146 v xs]:=λx=>iI hSS hSl 0 x;refine am hP hN rfl ?_
  iterate 3 (refine aw rfl λ_ k0=>?_;simp only[zO,zT,acs,reduceCtorEq,ad,J,ae,aj,af,ag,Mly.av,hLb];(repeat refine an ?_);(try refine .inl ?_);apply k0;clear k0;simp only[zP,J,g15])
  refine aw rfl λ_ k0=>?_;refine bo (h:=Qb _ (2*m.nx.length+1+1+1+1+1+1) m.nx.length s.up (X:Int) (Y:Int) hmA hfA ω ω ω) rfl rfl (by first|exact rfl|(simp only[ev,zP,ad,J];exact rfl)) (by simp only[zV,acs,reduceCtorEq,ad,J,ae,aj,af,ag,Mly.av,hLb]) ?_;apply k0;clear k0;simp only[zP,J,g15];refine ah (k25 _ (kx ?_));refine aa λ_ k26=>?_;rw[hup];have hJ0:(0:Nat)<s.wk.length:=ω;have hWJ:=hWn.foJ hJ0 (by rw[hfu,hfv];exact hne);have hrY:(s.nx.getD Y []).length=m.inp.toNat:=hWn.rl Y hYn;have gcY:(frN 2 m.nx.length).getD Y .junk= .row (2*Y+1+1+1+1+1+1) 2:=nX hYn;have grY:∀ XX:List AO,(frX 3 2 s.nx s.ot XX)[2*Y]? =some (.row Θ 3 2 (s.nx.getD Y [])):=λXX=>qa hSS ω;refine am hP hN rfl ?_
  iterate 7 (refine aw rfl λ_ k0=>?_;simp only[zO,zT,acs,reduceCtorEq,ad,J,ae,aj,af,ag,Mly.av,gcY,grY,az,Nat.mul_one,Nat.add_zero,lD];(repeat refine an ?_);(try refine .inl ?_);apply k0;clear k0;simp only[zP,J])
  refine ah (k26 _ (kx ?_));refine ay ?_;refine aM (λn27 s27=>∃ (a:Nat) (s2:FST) (xs2:List (Int×(Int×Unit))) (p2 v2 c2:Nat),(a≤m.inp.toNat)∧(foR X Y (foJ s) a=some s2)∧(s2.wk=xs2.drop p2)∧(p2≤xs2.length)∧(xs2.length≤c2)∧(xs2.length≤xs.length+a)∧n27=m.inp.toNat-a∧s27={env:=[(3,.one (.ptr 0 0 0 0)),(6,.one (.ptr 1 0 0 0)),(7,.one .nils),(8,.one (.bool false)),(9,.one (.ptr 2 0 0 0)),(11,.one (.ptr (2*m.nx.length+1+1+1+1+1+1+1) 0 0 0)),(12,.one (.suf (2*m.nx.length+1+1+1+1+1+1+1+1) v2 p2 (some c2))),(13,.one (.int .i64 (X:Int))),(14,.one (.int .i64 (Y:Int))),(98,.one (.row (2*Y+1+1+1+1+1+1) 2)),(99,.one (.int .i64 ((s.nx.getD Y []).length:Int))),(100,.one (.int .i64 (a:Int)))],L:=.vars 38 [.int .i64 m.inp,.int .i64 m.st,.list Γ m.nx,.list Γ m.ot]:: .vars 38 [.int .i64 0,.int .i64 0,.nils,.nils]:: .vars 38 [.int .i64 m.inp,.int .i64 0,.rwc 3 m.nx.length,.rwc 4 m.nx.length]:: .rowc 26 1 m.nx.length (frN 2 m.nx.length):: .rowc 26 1 m.nx.length (frQ 2 m.nx.length):: .dead (2*m.nx.length)::frX 3 2 s2.nx s2.ot [.mp 143 .int (foJ s).up,.vars 145 [.mpv (2*m.nx.length+1+1+1+1+1+1)],.row (.pair Θ (.pair Θ .unit)) 146 v2 xs2]}) ?_ ?_
  ·exact⟨_,_,ar [3,6,7,8,9,11,12,13,14,98,99,100],0,foJ s,xs,p+1,v,c,Nat.zero_le _,rfl,by show s.wk.drop 1=_;rw[hwk,List.drop_drop],ω,hcc,ω,rfl,rfl⟩
  rintro n27 s27 ⟨a,s2,xs2,p2,v2,c2,ha0,hR,hwk2,hp2,hcc2,hxl2,rfl,rfl⟩;refine zT5 ?_;refine aa λ_ k29=>?_;refine cB (λhc30=>?_) (λhc30=>?_)
  ·refine au ?_
   refine k29 _ (kx ?_);refine aa λ_ k31=>?_;refine ay ?_;refine aa λ_ k32=>?_;obtain⟨hW2,hup2,hwl2⟩:=hWJ.foR (by omega:X<m.nx.length) hYn a ω hR;have h2l:=hW2.nl;have h2o:=hW2.ol;have h22:s2.ot.length=s2.nx.length:=ω;have hai:a<m.inp.toNat:=ω;have hrx:=hW2.rl X ω;have hry:=hW2.rl Y hYn;have hqx:=hW2.ql X ω;have hqy:=hW2.ql Y hYn;have hy2: -1≤foE s2.nx Y a∧foE s2.nx Y a<m.nx.length:=hW2.nr Y a hYn hai;have hx2: -1≤foE s2.nx X a∧foE s2.nx X a<m.nx.length:=hW2.nr X a ω hai;have k1:∀ XX:List AO,(frX 3 2 s2.nx s2.ot XX)[2*X]? =some (.row Θ 3 2 (s2.nx.getD X [])):=λXX=>qa h22 ω;have k2:∀ XX:List AO,(frX 3 2 s2.nx s2.ot XX)[2*Y]? =some (.row Θ 3 2 (s2.nx.getD Y [])):=λXX=>qa h22 ω;have k3:∀ XX:List AO,(frX 3 2 s2.nx s2.ot XX)[2*X+1]? =some (.row Θ 3 2 (s2.ot.getD X [])):=λXX=>w8 h22 ω;have k4:∀ XX:List AO,(frX 3 2 s2.nx s2.ot XX)[2*Y+1]? =some (.row Θ 3 2 (s2.ot.getD Y [])):=λXX=>w8 h22 ω;have gcX:(frN 2 m.nx.length).getD X .junk= .row (2*X+1+1+1+1+1+1) 2:=nX ω;have goX:(frQ 2 m.nx.length).getD X .junk= .row (2*X+1+1+1+1+1+1+1) 2:=vx ω;have goY:(frQ 2 m.nx.length).getD Y .junk= .row (2*Y+1+1+1+1+1+1+1) 2:=vx hYn;have glN:=lD 2 m.nx.length;have glO:=qB 2 m.nx.length;refine am hP hN rfl ?_
   iterate 5 (refine aw rfl λ_ k0=>?_;simp only[zO,zT,acs,reduceCtorEq,ad,J,ae,aj,af,ag,Mly.av,k2,az];(repeat refine an ?_);(try refine .inl ?_);apply k0;clear k0;simp only[zP,J])
   refine ah (k32 _ (kx ?_));refine ay ?_;refine zT5 ?_;refine cB (λhc34=>?_) (λhc34=>?_)
   ·have hto:foE s2.nx Y a= -1:=hc34
    refine au (k31 _ (kx ?_));refine zR5 (h:=?_)
    first
    |(refine⟨_,_,?_,ar [3,6,7,8,9,11,12,13,14,98,99,100],a+1,s2,xs2,p2,v2,c2,ω,(dL hR).trans (xJ hto),hwk2,hp2,hcc2,ω,rfl,rfl⟩
      omega)
    |(refine⟨_,_,?_,ar [3,6,7,8,9,11,12,13,14,98,99,100],a+1,{s2 with nx:=foS s2.nx X a (foE s2.nx Y a),ot:=foS s2.ot X a (foE s2.ot Y a)},xs2,p2,v2,c2,ω,(dL hR).trans (xb hto hxo),hwk2,hp2,hcc2,ω,rfl,rfl⟩
      omega)
    |(refine⟨_,_,?_,ar [3,6,7,8,9,11,12,13,14,98,99,100],a+1,{s2 with wk:=s2.wk++[(foE s2.nx X a,(foE s2.nx Y a,()))]},xs2.drop p2++[(foE s2.nx X a,(foE s2.nx Y a,()))],0,v2+1,cp,ω,(dL hR).trans (mM hto hxo hoo),?_,Nat.zero_le _,hcp,?_,rfl,rfl⟩
      ·omega
      ·show s2.wk++_=_;rw[hwk2];rfl
      ·simp only[aq,List.length_drop,ax,aF];omega)
    |(refine⟨_,_,?_,ar [3,6,7,8,9,11,12,13,14,98,99,100],a+1,{s2 with wk:=s2.wk++[(foE s2.nx X a,(foE s2.nx Y a,()))]},xs2++[(foE s2.nx X a,(foE s2.nx Y a,()))],p2,v2+1,c2,ω,(dL hR).trans (mM hto hxo hoo),?_,?_,?_,?_,rfl,rfl⟩
      ·omega
      ·show s2.wk++_=_;rw[hwk2,List.drop_append_of_le_length hp2]
      ·simp only[aq,ax,aF];omega
      ·simp only[aq,ax,aF];omega
      ·simp only[aq,ax,aF];omega)
   have hto:¬foE s2.nx Y a= -1:=hc34;refine Vg (And.intro k1 (And.intro gcX glN)) ?_;refine cB (λhc36=>?_) (λhc36=>?_)
   ·have hxo:foE s2.nx X a= -1:=hc36
    have k5:∀ XX:List AO,(frX 3 2 s2.nx s2.ot XX).set (2*X) (.row Θ 3 2 ((s2.nx.getD X []).set a (foE s2.nx Y a)))=frX 3 2 (foS s2.nx X a (foE s2.nx Y a)) s2.ot XX:=λXX=>AY h22 ω;have k6:∀ XX:List AO,(frX 3 2 (foS s2.nx X a (foE s2.nx Y a)) s2.ot XX)[2*X+1]? =some (.row Θ 3 2 (s2.ot.getD X [])):=λXX=>w8 (by rw[cM];exact h22) (by rw[cM];omega);have k7:∀ XX:List AO,(frX 3 2 (foS s2.nx X a (foE s2.nx Y a)) s2.ot XX).set (2*X+1) (.row Θ 3 2 ((s2.ot.getD X []).set a (foE s2.ot Y a)))=frX 3 2 (foS s2.nx X a (foE s2.nx Y a)) (foS s2.ot X a (foE s2.ot Y a)) XX:=λXX=>Ib (by rw[cM];exact h22) (by rw[cM];omega);refine bz hP hN Tryz.mixed rfl ?_
    iterate 25 (refine aw rfl λ_ k0=>?_;simp only[zO,zT,acs,reduceCtorEq,ad,J,ae,aj,af,ag,Mly.av,k1,k3,k4,k6,gcX,goX,goY,glN,glO,az,Nat.mul_one,Nat.add_zero];(repeat refine an ?_);(try refine .inl ?_);apply k0;clear k0;simp only[zP,J,k5,k7])
    refine ah ?_;refine⟨by exact j7 (nS (a:=2*X+6) (b:=2*X+7) (c:=2*Y+7) ω ω ω ω ω ω) [([],[2],0),([],[2],0),([],[],0),([],[3],0),([],[3],0),([],[],0),([],[2],0),([],[2],0),([],[],0),([],[4],0),([],[4],0),([],[],0),([],[],0),([],[2],0),([],[2],0),([],[],0),([],[4],0),([],[4],0),([],[],0),([],[8],0),([],[8],0),([],[6],0),([6],[6],0),([],[7],0),([7],[7],0)] ζ,?_⟩;refine k31 _ (kx ?_);refine zR5 (h:=?_)
    first
    |(refine⟨_,_,?_,ar [3,6,7,8,9,11,12,13,14,98,99,100],a+1,s2,xs2,p2,v2,c2,ω,(dL hR).trans (xJ hto),hwk2,hp2,hcc2,ω,rfl,rfl⟩
      omega)
    |(refine⟨_,_,?_,ar [3,6,7,8,9,11,12,13,14,98,99,100],a+1,{s2 with nx:=foS s2.nx X a (foE s2.nx Y a),ot:=foS s2.ot X a (foE s2.ot Y a)},xs2,p2,v2,c2,ω,(dL hR).trans (xb hto hxo),hwk2,hp2,hcc2,ω,rfl,rfl⟩
      omega)
    |(refine⟨_,_,?_,ar [3,6,7,8,9,11,12,13,14,98,99,100],a+1,{s2 with wk:=s2.wk++[(foE s2.nx X a,(foE s2.nx Y a,()))]},xs2.drop p2++[(foE s2.nx X a,(foE s2.nx Y a,()))],0,v2+1,cp,ω,(dL hR).trans (mM hto hxo hoo),?_,Nat.zero_le _,hcp,?_,rfl,rfl⟩
      ·omega
      ·show s2.wk++_=_;rw[hwk2];rfl
      ·simp only[aq,List.length_drop,ax,aF];omega)
    |(refine⟨_,_,?_,ar [3,6,7,8,9,11,12,13,14,98,99,100],a+1,{s2 with wk:=s2.wk++[(foE s2.nx X a,(foE s2.nx Y a,()))]},xs2++[(foE s2.nx X a,(foE s2.nx Y a,()))],p2,v2+1,c2,ω,(dL hR).trans (mM hto hxo hoo),?_,?_,?_,?_,rfl,rfl⟩
      ·omega
      ·show s2.wk++_=_;rw[hwk2,List.drop_append_of_le_length hp2]
      ·simp only[aq,ax,aF];omega
      ·simp only[aq,ax,aF];omega
      ·simp only[aq,ax,aF];omega)
   have hxo:¬foE s2.nx X a= -1:=hc36;refine aa λ_ k37=>?_;refine bz hP hN Tryz.mixed rfl ?_
   iterate 18 refine Mo (And.intro k3 (And.intro k4 (And.intro goX (And.intro goY glO)))) ?_
   refine ah ?_;refine⟨ζ,?_⟩;refine k37 _ (kx ?_);refine cB (λhc38=>?_) (λhc38=>?_)
   ·have hoo:¬foE s2.ot X a=foE s2.ot Y a:=hc38
    refine aa λ_ k39=>?_;have hGn:foG m sa ta=none:=Kd hrun ω hJ0 (hst.trans (yC ((dL hR).trans (V4 hto hxo hoo)) _ ω));refine zR5 (h:=k39 _ (kx ?_));refine aA ?_;refine⟨nr,_,rfl,?_⟩;simp only[zF,zP,ad,J,Mly.av]
    first
    |(unfold foP foC foB
      rw[hG];exact VLE.of_eq rfl)
    |(unfold foP foC foB
      rw[hGn];exact bl ⟨dt ⟨.refl _,.refl _,aS rfl,aS rfl,trivial⟩,aD (aS rfl),aD (.refl _),trivial⟩)
   have hoo:foE s2.ot X a=foE s2.ot Y a:=by have hq:=hc38;simpa using hq
   rcases Nat.lt_or_ge c2 (xs2.length+1) with hrm|hrm
   ·skip
    have k8:(frX 3 2 s2.nx s2.ot [.mp 143 .int (foJ s).up,.vars 145 [.mpv (2*m.nx.length+1+1+1+1+1+1)],.row (.pair Θ (.pair Θ .unit)) 146 v2 xs2])[(2*m.nx.length+1+1)]? =some (.row (.pair Θ (.pair Θ .unit)) 146 v2 xs2):=fR h22 h2l 2;have k9:∀ x:AO,(frX 3 2 s2.nx s2.ot [.mp 143 .int (foJ s).up,.vars 145 [.mpv (2*m.nx.length+1+1+1+1+1+1)],.row (.pair Θ (.pair Θ .unit)) 146 v2 xs2]).set (2*m.nx.length+1+1) x=frX 3 2 s2.nx s2.ot [.mp 143 .int (foJ s).up,.vars 145 [.mpv (2*m.nx.length+1+1+1+1+1+1)],x]:=λx=>iI h22 h2l 2 x;refine am hP hN rfl ?_
    iterate 12 (refine aw rfl λ_ k0=>?_;simp only[zO,zT,acs,reduceCtorEq,ad,J,ae,aj,af,ag,Mly.av,k1,gcX,glN,az,Nat.mul_one,Nat.add_zero];(repeat refine an ?_);(try refine .inl ?_);apply k0;clear k0;simp only[zP,J,k9])
    refine d4 (λC9 hC9=>.inl ⟨rfl,qh (t:=.pair (.int .i64) (.pair (.int .i64) .unit)) (xs:=xs2) (ys:=[(foE s2.nx X a,(foE s2.nx Y a,()))]) rfl rfl (by rw[hC9];exact Tryz.td147) rfl (by rw[hC9];exact Tryz.td146) rfl rfl rfl k8 rfl rfl η (by simpa using hrm) (by simp only[ax,aF];omega) (by simp only[ax,aF];omega)⟩) ?_;simp only[zP,J,k9]
    (refine aw rfl λ_ k0=>?_;simp only[zO,zT,acs,reduceCtorEq,ad,J,ae,aj,af,ag,Mly.av,k1,gcX,glN,az,Nat.mul_one,Nat.add_zero];(repeat refine an ?_);(try refine .inl ?_);apply k0;clear k0;simp only[zP,J,k9])
    refine ah (k31 _ (kx ?_));have k10:∀ x:AO,(frX 3 2 s2.nx s2.ot [.mp 143 .int (foJ s).up,.vars 145 [.mpv (2*m.nx.length+1+1+1+1+1+1)],x])[(2*m.nx.length+1+1)]? =some x:=λx=>fR h22 h2l 2;refine Dq 12 (2*m.nx.length+1+1+1+1+1+1+1+1) rfl (k10 (.row (.pair Θ (.pair Θ .unit)) 146 (v2+1) (xs2.drop p2++[(foE s2.nx X a,(foE s2.nx Y a,()))]))) η λcp hcp=>?_;refine zR5 (h:=?_)
    first
    |(refine⟨_,_,?_,ar [3,6,7,8,9,11,12,13,14,98,99,100],a+1,s2,xs2,p2,v2,c2,ω,(dL hR).trans (xJ hto),hwk2,hp2,hcc2,ω,rfl,rfl⟩
      omega)
    |(refine⟨_,_,?_,ar [3,6,7,8,9,11,12,13,14,98,99,100],a+1,{s2 with nx:=foS s2.nx X a (foE s2.nx Y a),ot:=foS s2.ot X a (foE s2.ot Y a)},xs2,p2,v2,c2,ω,(dL hR).trans (xb hto hxo),hwk2,hp2,hcc2,ω,rfl,rfl⟩
      omega)
    |(refine⟨_,_,?_,ar [3,6,7,8,9,11,12,13,14,98,99,100],a+1,{s2 with wk:=s2.wk++[(foE s2.nx X a,(foE s2.nx Y a,()))]},xs2.drop p2++[(foE s2.nx X a,(foE s2.nx Y a,()))],0,v2+1,cp,ω,(dL hR).trans (mM hto hxo hoo),?_,Nat.zero_le _,hcp,?_,rfl,rfl⟩
      ·omega
      ·show s2.wk++_=_;rw[hwk2];rfl
      ·simp only[aq,List.length_drop,ax,aF];omega)
    |(refine⟨_,_,?_,ar [3,6,7,8,9,11,12,13,14,98,99,100],a+1,{s2 with wk:=s2.wk++[(foE s2.nx X a,(foE s2.nx Y a,()))]},xs2++[(foE s2.nx X a,(foE s2.nx Y a,()))],p2,v2+1,c2,ω,(dL hR).trans (mM hto hxo hoo),?_,?_,?_,?_,rfl,rfl⟩
      ·omega
      ·show s2.wk++_=_;rw[hwk2,List.drop_append_of_le_length hp2]
      ·simp only[aq,ax,aF];omega
      ·simp only[aq,ax,aF];omega
      ·simp only[aq,ax,aF];omega)
   ·skip
    have k8:(frX 3 2 s2.nx s2.ot [.mp 143 .int (foJ s).up,.vars 145 [.mpv (2*m.nx.length+1+1+1+1+1+1)],.row (.pair Θ (.pair Θ .unit)) 146 v2 xs2])[(2*m.nx.length+1+1)]? =some (.row (.pair Θ (.pair Θ .unit)) 146 v2 xs2):=fR h22 h2l 2;have k9:∀ x:AO,(frX 3 2 s2.nx s2.ot [.mp 143 .int (foJ s).up,.vars 145 [.mpv (2*m.nx.length+1+1+1+1+1+1)],.row (.pair Θ (.pair Θ .unit)) 146 v2 xs2]).set (2*m.nx.length+1+1) x=frX 3 2 s2.nx s2.ot [.mp 143 .int (foJ s).up,.vars 145 [.mpv (2*m.nx.length+1+1+1+1+1+1)],x]:=λx=>iI h22 h2l 2 x;refine am hP hN rfl ?_
    iterate 12 (refine aw rfl λ_ k0=>?_;simp only[zO,zT,acs,reduceCtorEq,ad,J,ae,aj,af,ag,Mly.av,k1,gcX,glN,az,Nat.mul_one,Nat.add_zero];(repeat refine an ?_);(try refine .inl ?_);apply k0;clear k0;simp only[zP,J,k9])
    refine d4 (λC9 hC9=>.inl ⟨rfl,sS (t:=.pair (.int .i64) (.pair (.int .i64) .unit)) (xs:=xs2) (ys:=[(foE s2.nx X a,(foE s2.nx Y a,()))]) rfl rfl (by rw[hC9];exact Tryz.td147) rfl (by rw[hC9];exact Tryz.td146) rfl rfl k8 rfl rfl η (by simpa using hrm)⟩) ?_;simp only[zP,J,k9]
    (refine aw rfl λ_ k0=>?_;simp only[zO,zT,acs,reduceCtorEq,ad,J,ae,aj,af,ag,Mly.av,k1,gcX,glN,az,Nat.mul_one,Nat.add_zero];(repeat refine an ?_);(try refine .inl ?_);apply k0;clear k0;simp only[zP,J,k9])
    refine ah (k31 _ (kx ?_));refine zR5 (h:=?_)
    first
    |(refine⟨_,_,?_,ar [3,6,7,8,9,11,12,13,14,98,99,100],a+1,s2,xs2,p2,v2,c2,ω,(dL hR).trans (xJ hto),hwk2,hp2,hcc2,ω,rfl,rfl⟩
      omega)
    |(refine⟨_,_,?_,ar [3,6,7,8,9,11,12,13,14,98,99,100],a+1,{s2 with nx:=foS s2.nx X a (foE s2.nx Y a),ot:=foS s2.ot X a (foE s2.ot Y a)},xs2,p2,v2,c2,ω,(dL hR).trans (xb hto hxo),hwk2,hp2,hcc2,ω,rfl,rfl⟩
      omega)
    |(refine⟨_,_,?_,ar [3,6,7,8,9,11,12,13,14,98,99,100],a+1,{s2 with wk:=s2.wk++[(foE s2.nx X a,(foE s2.nx Y a,()))]},xs2.drop p2++[(foE s2.nx X a,(foE s2.nx Y a,()))],0,v2+1,cp,ω,(dL hR).trans (mM hto hxo hoo),?_,Nat.zero_le _,hcp,?_,rfl,rfl⟩
      ·omega
      ·show s2.wk++_=_;rw[hwk2];rfl
      ·simp only[aq,List.length_drop,ax,aF];omega)
    |(refine⟨_,_,?_,ar [3,6,7,8,9,11,12,13,14,98,99,100],a+1,{s2 with wk:=s2.wk++[(foE s2.nx X a,(foE s2.nx Y a,()))]},xs2++[(foE s2.nx X a,(foE s2.nx Y a,()))],p2,v2+1,c2,ω,(dL hR).trans (mM hto hxo hoo),?_,?_,?_,?_,rfl,rfl⟩
      ·omega
      ·show s2.wk++_=_;rw[hwk2,List.drop_append_of_le_length hp2]
      ·simp only[aq,ax,aF];omega
      ·simp only[aq,ax,aF];omega
      ·simp only[aq,ax,aF];omega)
  refine aL ?_
  first
  |(have hst:=pU (inp:=m.inp.toNat) (s:=s) (by rw[hfu,hfv];exact heq)
    obtain⟨w1,w2⟩:=hWn.step ω ω hst;refine⟨_,_,?_,ar [3,6,7,8,9,11,12],{s with wk:=s.wk.drop 1},xs,p+1,v,c,i+1,w1,?_,ω,hcc,oy hrun ω ω hst,ω,hxl,rfl,rfl⟩
    ·exact w2
    ·show s.wk.drop 1=_;rw[hwk,List.drop_drop])
  |(have hae:a=m.inp.toNat:=by omega
    subst hae;have hst2:=hst.trans hR;obtain⟨w1,w2⟩:=hWn.step ω ω hst2;refine⟨_,_,?_,ar [3,6,7,8,9,11,12],s2,xs2,p2,v2,c2,i+1,w1,hwk2,hp2,hcc2,oy hrun ω ω hst2,ω,?_,rfl,?_⟩
    ·exact w2
    ·have e1:=(hWJ.foR (by omega:X<m.nx.length) hYn m.inp.toNat (Υ _) hR).2.1
     have e2:(foJ s).up.length=s.up.length+1:=rI (hWn.fresh2 hJ0).1;have e3:=rM hWJ.uo ω;rw[e1,e2];omega
    ·have e1:=(hWJ.foR (by omega:X<m.nx.length) hYn m.inp.toNat (Υ _) hR).2.1
     rw[e1];rfl)
 refine aL ?_;refine k13 _ (kx ?_);refine aa λ_ k40=>?_;refine aa λ_ k41=>?_;have hend:s.wk=[]:=by rw[hwk];exact List.drop_of_length_le ω
 have hG:foG m sa ta=some s:=D3 hrun ω hend;have glN:=lD 2 m.nx.length;have glO:=qB 2 m.nx.length;have hSl:=hWn.nl;have hSo:=hWn.ol;have hSS:s.ot.length=s.nx.length:=ω;refine am hP hN rfl ?_
 iterate 4 (refine aw rfl λ_ k0=>?_;simp only[zO,zT,acs,reduceCtorEq,ad,J,ae,aj,af,ag,Mly.av,glN,Nat.div_one];(repeat refine an ?_);(try refine .inl ?_);apply k0;clear k0;simp only[zP,J])
 refine ah (k41 _ (kx ?_));refine ay ?_;refine aM (λn42 s42=>∃ (j:Nat),(j≤m.nx.length)∧n42=m.nx.length-j∧s42={env:=[(3,.one (.ptr 0 0 0 0)),(6,.one (.ptr 1 0 0 0)),(7,.one .nils),(8,.one (.bool false)),(9,.one (.ptr 2 0 0 0)),(11,.one (.ptr (2*m.nx.length+1+1+1+1+1+1+1) 0 0 0)),(176,.one (.int .i64 (m.nx.length:Int))),(177,.one (.int .i64 (j:Int)))],L:=.vars 38 [.int .i64 m.inp,.int .i64 m.st,.list Γ m.nx,.list Γ m.ot]:: .vars 38 [.int .i64 0,.int .i64 0,.nils,.nils]:: .vars 38 [.int .i64 m.inp,.int .i64 0,.rwc 3 m.nx.length,.rwc 4 m.nx.length]:: .rowc 26 1 m.nx.length (frN 2 m.nx.length):: .rowc 26 1 m.nx.length (frQ 2 m.nx.length):: .dead (2*m.nx.length)::frX 3 2 (io s.up s.nx j) s.ot [.mp 143 .int s.up,.vars 145 [.mpv (2*m.nx.length+1+1+1+1+1+1)],.row (.pair Θ (.pair Θ .unit)) 146 v xs]}) ?_ ?_
 ·exact⟨_,_,ar [3,6,7,8,9,11,176,177],0,Nat.zero_le _,rfl,by rw[O9];rfl⟩
 rintro n42 s42 ⟨j,hj0,rfl,rfl⟩;refine zT5 ?_;refine aa λ_ k44=>?_;refine cB (λhc45=>?_) (λhc45=>?_)
 ·refine au ?_
  refine k44 _ (kx ?_);refine aa λ_ k46=>?_;refine ay ?_;refine zT5 ?_;refine aa λ_ k48=>?_;have hjn:j<m.nx.length:=ω;have hrj:=hWn.rl j hjn;have gcj:(frN 2 m.nx.length).getD j .junk= .row (2*j+1+1+1+1+1+1) 2:=nX hjn;have grj:∀ XX:List AO,(frX 3 2 (io s.up s.nx j) s.ot XX)[2*j]? =some (.row Θ 3 2 (s.nx.getD j [])):=λXX=>by rw[qa (by rw[ii];exact hSS) (by rw[ii];omega),yN ω]
  refine HC (And.intro glN (And.intro gcj grj)) (h:=k48 _ (kx ?_));refine ay ?_;refine aM (λn49 s49=>∃ (b:Nat),(b≤(s.nx.getD j []).length)∧n49=(s.nx.getD j []).length-b∧s49={env:=[(3,.one (.ptr 0 0 0 0)),(6,.one (.ptr 1 0 0 0)),(7,.one .nils),(8,.one (.bool false)),(9,.one (.ptr 2 0 0 0)),(11,.one (.ptr (2*m.nx.length+1+1+1+1+1+1+1) 0 0 0)),(17,.one (.int .i64 (j:Int))),(176,.one (.int .i64 (m.nx.length:Int))),(177,.one (.int .i64 (j:Int))),(184,.one (.row (2*j+1+1+1+1+1+1) 2)),(185,.one (.int .i64 ((s.nx.getD j []).length:Int))),(186,.one (.int .i64 (b:Int)))],L:=.vars 38 [.int .i64 m.inp,.int .i64 m.st,.list Γ m.nx,.list Γ m.ot]:: .vars 38 [.int .i64 0,.int .i64 0,.nils,.nils]:: .vars 38 [.int .i64 m.inp,.int .i64 0,.rwc 3 m.nx.length,.rwc 4 m.nx.length]:: .rowc 26 1 m.nx.length (frN 2 m.nx.length):: .rowc 26 1 m.nx.length (frQ 2 m.nx.length):: .dead (2*m.nx.length)::frX 3 2 (eH s.up s.nx j b) s.ot [.mp 143 .int s.up,.vars 145 [.mpv (2*m.nx.length+1+1+1+1+1+1)],.row (.pair Θ (.pair Θ .unit)) 146 v xs]}) ?_ ?_
  ·exact⟨_,_,ar [3,6,7,8,9,11,17,176,177,184,185,186],0,Nat.zero_le _,rfl,by rw[Pv ω];rfl⟩
  rintro n49 s49 ⟨b,hb0,rfl,rfl⟩;refine zT5 ?_;refine aa λ_ k51=>?_;refine cB (λhc52=>?_) (λhc52=>?_)
  ·refine au ?_
   refine k51 _ (kx ?_);refine aa λ_ k53=>?_;refine ay ?_;refine aa λ_ k54=>?_;have grm:∀ XX:List AO,(frX 3 2 (eH s.up s.nx j b) s.ot XX)[2*j]? =some (.row Θ 3 2 (fF s.up (s.nx.getD j []) b)):=λXX=>by rw[qa (by rw[mw];exact hSS) (by rw[mw];omega),LD ω]
   have hfr:=vn s.up (s.nx.getD j []) b;have hfa:(fF s.up (s.nx.getD j []) b).getD b 0=(s.nx.getD j []).getD b 0:=Al ω;refine am hP hN rfl ?_
   iterate 5 (refine aw rfl λ_ k0=>?_;simp only[zO,zT,acs,reduceCtorEq,ad,J,ae,aj,af,ag,Mly.av,grm,hfa,az];(repeat refine an ?_);(try refine .inl ?_);apply k0;clear k0;simp only[zP,J])
   refine ah (k54 _ (kx ?_));refine zT5 ?_;refine cB (λhc56=>?_) (λhc56=>?_)
   ·have hc9:¬(s.nx.getD j []).getD b 0= -1:=hc56
    have hnr: -1≤(s.nx.getD j []).getD b 0∧(s.nx.getD j []).getD b 0<m.nx.length:=hWn.nr j b hjn ω;have hNM:s.ot.length=(eH s.up s.nx j b).length:=by rw[mw];exact hSS
    have hNl:(eH s.up s.nx j b).length=m.nx.length:=by rw[mw];exact hSl
    have hLb:(frX 3 2 (eH s.up s.nx j b) s.ot [.mp 143 .int s.up,.vars 145 [.mpv (2*m.nx.length+1+1+1+1+1+1)],.row (.pair Θ (.pair Θ .unit)) 146 v xs])[(2*m.nx.length+1)]? =some (.vars 145 [.mpv (2*m.nx.length+1+1+1+1+1+1)]):=fR hNM hNl 1;have hLm:(frX 3 2 (eH s.up s.nx j b) s.ot [.mp 143 .int s.up,.vars 145 [.mpv (2*m.nx.length+1+1+1+1+1+1)],.row (.pair Θ (.pair Θ .unit)) 146 v xs])[(2*m.nx.length)]? =some (.mp 143 .int s.up):=fR hNM hNl 0;have hmA:(.vars 38 [.int .i64 m.inp,.int .i64 m.st,.list Γ m.nx,.list Γ m.ot]:: .vars 38 [.int .i64 0,.int .i64 0,.nils,.nils]:: .vars 38 [.int .i64 m.inp,.int .i64 0,.rwc 3 m.nx.length,.rwc 4 m.nx.length]:: .rowc 26 1 m.nx.length (frN 2 m.nx.length):: .rowc 26 1 m.nx.length (frQ 2 m.nx.length):: .dead (2*m.nx.length)::frX 3 2 (eH s.up s.nx j b) s.ot [.mp 143 .int s.up,.vars 145 [.mpv (2*m.nx.length+1+1+1+1+1+1)],.row (.pair Θ (.pair Θ .unit)) 146 v xs])[(2*m.nx.length+1+1+1+1+1+1)]? =some (.mp 143 .int s.up):=hLm;have hfl:=Bz (A0:=.vars 38 [.int .i64 m.inp,.int .i64 m.st,.list Γ m.nx,.list Γ m.ot]) (A1:=.vars 38 [.int .i64 0,.int .i64 0,.nils,.nils]) (A2:=.vars 38 [.int .i64 m.inp,.int .i64 0,.rwc 3 m.nx.length,.rwc 4 m.nx.length]) (A3:=.rowc 26 1 m.nx.length (frN 2 m.nx.length)) (A4:=.rowc 26 1 m.nx.length (frQ 2 m.nx.length)) (A5:=.dead (2*m.nx.length)) (E:=3) (V:=2) (X:=[.mp 143 .int s.up,.vars 145 [.mpv (2*m.nx.length+1+1+1+1+1+1)],.row (.pair Θ (.pair Θ .unit)) 146 v xs]) hNM;simp only[ax,aF] at hfl;have hfA:(.vars 38 [.int .i64 m.inp,.int .i64 m.st,.list Γ m.nx,.list Γ m.ot]:: .vars 38 [.int .i64 0,.int .i64 0,.nils,.nils]:: .vars 38 [.int .i64 m.inp,.int .i64 0,.rwc 3 m.nx.length,.rwc 4 m.nx.length]:: .rowc 26 1 m.nx.length (frN 2 m.nx.length):: .rowc 26 1 m.nx.length (frQ 2 m.nx.length):: .dead (2*m.nx.length)::frX 3 2 (eH s.up s.nx j b) s.ot [.mp 143 .int s.up,.vars 145 [.mpv (2*m.nx.length+1+1+1+1+1+1)],.row (.pair Θ (.pair Θ .unit)) 146 v xs]).all (cr (.vars 38 [.int .i64 m.inp,.int .i64 m.st,.list Γ m.nx,.list Γ m.ot]:: .vars 38 [.int .i64 0,.int .i64 0,.nils,.nils]:: .vars 38 [.int .i64 m.inp,.int .i64 0,.rwc 3 m.nx.length,.rwc 4 m.nx.length]:: .rowc 26 1 m.nx.length (frN 2 m.nx.length):: .rowc 26 1 m.nx.length (frQ 2 m.nx.length):: .dead (2*m.nx.length)::frX 3 2 (eH s.up s.nx j b) s.ot [.mp 143 .int s.up,.vars 145 [.mpv (2*m.nx.length+1+1+1+1+1+1)],.row (.pair Θ (.pair Θ .unit)) 146 v xs]).length)=true:=by
     refine y9 rfl rfl rfl rfl ?_ ?_
     ·simp only[ax];omega
     ·simp only[List.all_cons,List.all_nil,Bool.and_true,cr,bY,Bool.true_and,decide_eq_true_eq];simp only[ax];omega
    have gsm:∀ XX:List AO,(frX 3 2 (eH s.up s.nx j b) s.ot XX).set (2*j) (.row Θ 3 2 ((fF s.up (s.nx.getD j []) b).set b (bm s.up ((s.nx.getD j []).getD b 0))))=frX 3 2 (eH s.up s.nx j (b+1)) s.ot XX:=λXX=>by
     have e1:g9 s.up ((s.nx.getD j []).getD b 0)=bm s.up ((s.nx.getD j []).getD b 0):=if_neg hc9;rw[AY hNM ω,← e1,Fo ω]
    refine bz hP hN Tryz.mixed rfl ?_
    iterate 8 (refine aw rfl λ_ k0=>?_;simp only[zO,zT,acs,reduceCtorEq,ad,J,ae,aj,af,ag,Mly.av,glN,gcj,grm,hLb,az,Nat.mul_one,Nat.add_zero];(repeat refine an ?_);(try refine .inl ?_);apply k0;clear k0;simp only[zP,J,gsm])
    refine aw rfl λ_ k0=>?_;refine bo (h:=y5 _ (2*m.nx.length+1+1+1+1+1+1) m.nx.length s.up ((s.nx.getD j []).getD b 0) hmA hfA hWn.uo ω ω ω) rfl rfl (by first|exact rfl|(simp only[ev,zP,ad,J];exact rfl)) (by simp only[zV,acs,reduceCtorEq,ad,J,ae,aj,af,ag,Mly.av,glN,gcj,grm,hLb,az,Nat.mul_one,Nat.add_zero]) ?_;apply k0;clear k0;simp only[zP,J,gsm]
    iterate 2 (refine aw rfl λ_ k0=>?_;simp only[zO,zT,acs,reduceCtorEq,ad,J,ae,aj,af,ag,Mly.av,glN,gcj,grm,hLb,az,Nat.mul_one,Nat.add_zero];(repeat refine an ?_);(try refine .inl ?_);apply k0;clear k0;simp only[zP,J,gsm])
    refine ah ?_;refine⟨ζ,?_⟩;refine k53 _ (kx ?_);refine zR5 (h:=?_)
    first
    |(refine⟨_,_,?_,ar [3,6,7,8,9,11,17,176,177,184,185,186],b+1,ω,rfl,rfl⟩
      omega)
    |(refine⟨_,_,?_,ar [3,6,7,8,9,11,17,176,177,184,185,186],b+1,ω,rfl,?_⟩
      ·omega
      ·rw[tF ω hc9];rfl)
   have hc9:(s.nx.getD j []).getD b 0= -1:=hc56;refine au (k53 _ (kx ?_));refine zR5 (h:=?_)
   first
   |(refine⟨_,_,?_,ar [3,6,7,8,9,11,17,176,177,184,185,186],b+1,ω,rfl,rfl⟩
     omega)
   |(refine⟨_,_,?_,ar [3,6,7,8,9,11,17,176,177,184,185,186],b+1,ω,rfl,?_⟩
     ·omega
     ·rw[tF ω hc9];rfl)
  refine aL ?_;refine k46 _ (kx ?_);refine zR5 (h:=?_);have hbe:b=(s.nx.getD j []).length:=ω;subst hbe;refine⟨_,_,?_,ar [3,6,7,8,9,11,176,177],j+1,ω,rfl,?_⟩
  ·omega
  ·rw[EY ω];rfl
 refine aL ?_;refine k40 _ (kx ?_);refine aa λ_ k57=>?_;have hje:j=m.nx.length:=ω;subst hje;have hft:io s.up s.nx m.nx.length=(foQ m s).nx:=by rw[← hSl];exact F0 _ _
 rw[hft];have hNM:s.ot.length=(foQ m s).nx.length:=by rw[← hft,ii];exact hSS
 have hNl:(foQ m s).nx.length=m.nx.length:=by rw[← hft,ii];exact hSl
 have hLb:(frX 3 2 (foQ m s).nx s.ot [.mp 143 .int s.up,.vars 145 [.mpv (2*m.nx.length+1+1+1+1+1+1)],.row (.pair Θ (.pair Θ .unit)) 146 v xs])[(2*m.nx.length+1)]? =some (.vars 145 [.mpv (2*m.nx.length+1+1+1+1+1+1)]):=fR hNM hNl 1;have hLm:(frX 3 2 (foQ m s).nx s.ot [.mp 143 .int s.up,.vars 145 [.mpv (2*m.nx.length+1+1+1+1+1+1)],.row (.pair Θ (.pair Θ .unit)) 146 v xs])[(2*m.nx.length)]? =some (.mp 143 .int s.up):=fR hNM hNl 0;have hmA:(.vars 38 [.int .i64 m.inp,.int .i64 m.st,.list Γ m.nx,.list Γ m.ot]:: .vars 38 [.int .i64 0,.int .i64 0,.nils,.nils]:: .vars 38 [.int .i64 m.inp,.int .i64 0,.rwc 3 m.nx.length,.rwc 4 m.nx.length]:: .rowc 26 1 m.nx.length (frN 2 m.nx.length):: .rowc 26 1 m.nx.length (frQ 2 m.nx.length):: .dead (2*m.nx.length)::frX 3 2 (foQ m s).nx s.ot [.mp 143 .int s.up,.vars 145 [.mpv (2*m.nx.length+1+1+1+1+1+1)],.row (.pair Θ (.pair Θ .unit)) 146 v xs])[(2*m.nx.length+1+1+1+1+1+1)]? =some (.mp 143 .int s.up):=hLm;have hfl:=Bz (A0:=.vars 38 [.int .i64 m.inp,.int .i64 m.st,.list Γ m.nx,.list Γ m.ot]) (A1:=.vars 38 [.int .i64 0,.int .i64 0,.nils,.nils]) (A2:=.vars 38 [.int .i64 m.inp,.int .i64 0,.rwc 3 m.nx.length,.rwc 4 m.nx.length]) (A3:=.rowc 26 1 m.nx.length (frN 2 m.nx.length)) (A4:=.rowc 26 1 m.nx.length (frQ 2 m.nx.length)) (A5:=.dead (2*m.nx.length)) (E:=3) (V:=2) (X:=[.mp 143 .int s.up,.vars 145 [.mpv (2*m.nx.length+1+1+1+1+1+1)],.row (.pair Θ (.pair Θ .unit)) 146 v xs]) hNM;simp only[ax,aF] at hfl;have hfA:(.vars 38 [.int .i64 m.inp,.int .i64 m.st,.list Γ m.nx,.list Γ m.ot]:: .vars 38 [.int .i64 0,.int .i64 0,.nils,.nils]:: .vars 38 [.int .i64 m.inp,.int .i64 0,.rwc 3 m.nx.length,.rwc 4 m.nx.length]:: .rowc 26 1 m.nx.length (frN 2 m.nx.length):: .rowc 26 1 m.nx.length (frQ 2 m.nx.length):: .dead (2*m.nx.length)::frX 3 2 (foQ m s).nx s.ot [.mp 143 .int s.up,.vars 145 [.mpv (2*m.nx.length+1+1+1+1+1+1)],.row (.pair Θ (.pair Θ .unit)) 146 v xs]).all (cr (.vars 38 [.int .i64 m.inp,.int .i64 m.st,.list Γ m.nx,.list Γ m.ot]:: .vars 38 [.int .i64 0,.int .i64 0,.nils,.nils]:: .vars 38 [.int .i64 m.inp,.int .i64 0,.rwc 3 m.nx.length,.rwc 4 m.nx.length]:: .rowc 26 1 m.nx.length (frN 2 m.nx.length):: .rowc 26 1 m.nx.length (frQ 2 m.nx.length):: .dead (2*m.nx.length)::frX 3 2 (foQ m s).nx s.ot [.mp 143 .int s.up,.vars 145 [.mpv (2*m.nx.length+1+1+1+1+1+1)],.row (.pair Θ (.pair Θ .unit)) 146 v xs]).length)=true:=by
  refine y9 rfl rfl rfl rfl ?_ ?_
  ·simp only[ax];omega
  ·simp only[List.all_cons,List.all_nil,Bool.and_true,cr,bY,Bool.true_and,decide_eq_true_eq];simp only[ax];omega
 refine am hP hN rfl ?_
 iterate 3 refine xq hLb ?_
 refine aw rfl λ_ k0=>?_;refine bo (h:=y5 _ (2*m.nx.length+1+1+1+1+1+1) m.nx.length s.up m.st hmA hfA hWn.uo ω h1 h2) rfl rfl (by first|exact rfl|(simp only[ev,zP,ad,J];exact rfl)) (by simp only[zV,acs,reduceCtorEq,ad,J,ae,aj,af,ag,Mly.av,hLb]) ?_;apply k0;clear k0;simp only[zP,J]
 iterate 2 refine xq hLb ?_
 refine ah (k57 _ (kx ?_));refine aa λ_ k58=>?_;have hQk:=mI hm hWn;refine tZ rfl hNl ω ?_;refine iM 3 2 2 Γ m.nx.length rfl rfl rfl (by rw[← hNl];exact jO _) (by rw[mh,hNl];exact(Nat.mul_one _).symm) ?_;simp only[zS,ax,aF,aG,aC,Nat.zero_add,J];refine iM 4 2 3 Γ m.nx.length rfl rfl rfl (by rw[← hSo];exact jO _) (by rw[mh,hSo];exact(Nat.mul_one _).symm) ?_;simp only[zS,ax,aF,aG,aC,Nat.zero_add,J];refine eI 3 2 rfl rfl ?_;simp only[aJ,aV,frC,zS,ad,ZW,reduceCtorEq];refine eI 4 2 rfl rfl ?_;simp only[aJ,aV,frC,zS,ad,ZW,reduceCtorEq];have g37:∀ x y z:AO,(List.replicate (2*m.nx.length) (AO.dead 2)++[x,y,z]).length=2*m.nx.length+1+1+1:=λx y z=>by simp
 have g38:∀ x y z t:AO,(List.replicate (2*m.nx.length) (AO.dead 2)++[x,y,z,t]).length=2*m.nx.length+1+1+1+1:=λx y z t=>by simp
 have g37b:∀ x y z t:AO,(List.replicate (2*m.nx.length) (AO.dead 2)++[x,y,z,t])[(2*m.nx.length+1+1+1)]? =some t:=λx y z t=>ddX 3;have g37c:∀ x y z t u:AO,(List.replicate (2*m.nx.length) (AO.dead 2)++[x,y,z,t]).set (2*m.nx.length+1+1+1) u=List.replicate (2*m.nx.length) (AO.dead 2)++[x,y,z,u]:=λx y z t u=>ddS 3;refine am hP hN rfl ?_
 (refine aw rfl λ_ k0=>?_;simp only[zO,zT,acs,reduceCtorEq,ad,J,ae,aj,af,ag,Mly.av,ax,g37,g37b];(repeat refine an ?_);(try refine .inl ?_);apply k0;clear k0;simp only[zP,J,aG,List.append_assoc,aC,g37c])
 refine aw rfl λ_ k0=>?_;refine bo (h:=ak (show aY Tryz.prog 57 [.agg [.int .i64 m.inp,.int .i64 (bm s.up m.st),.list Γ (foQ m s).nx,.list Γ s.ot]] _ from HS (foQ m s) hQk)) rfl rfl (by first|exact rfl|(simp only[ev,zP,ad,J];exact rfl)) (by simp only[zV,acs,reduceCtorEq,ad,J,ae,aj,af,ag,Mly.av,ax,g37,g37b]) ?_;apply k0;clear k0;simp only[zP,J,aG,List.append_assoc,aC,g37c]
 iterate 6 (refine aw rfl λ_ k0=>?_;simp only[zO,zT,acs,reduceCtorEq,ad,J,ae,aj,af,ag,Mly.av,ax,g37,g37b];(repeat refine an ?_);(try refine .inl ?_);apply k0;clear k0;simp only[zP,J,aG,List.append_assoc,aC,g37c])
 refine ah (k58 _ (kx ?_));refine aa λ_ k59=>?_;have hrn:(foQ m s).rnN.length=m.nx.length:=(o5 _ _).trans hNl;refine am hP hN rfl ?_
 iterate 2 (refine aw rfl λ_ k0=>?_;simp only[zO,zT,acs,reduceCtorEq,ad,J,ae,aj,af,ag,Mly.av,ax,g38,hrn];(repeat refine an ?_);(try refine .inl ?_);apply k0;clear k0;simp only[zP,J,aG,List.append_assoc,aC])
 (refine aw rfl λ_ k0=>?_;simp only[zE,op1,ev,lkp,cR,bP,cC,gm,ff,cY,dC,fa,Nat.div_one,cV,di,Ty.size,bq,dite_true,cH,Ty.dflt,reduceCtorEq,ad,J,ae,aj,af,ag,Tryz.el26,Tryz.td26,Tryz.td3,Mly.av,ax,g38,hrn];(repeat refine an ?_);(try refine .inl ?_);apply k0;clear k0;simp only[zP,J,aG,List.append_assoc,aC])
 (refine aw rfl λ_ k0=>?_;simp only[zO,zT,acs,reduceCtorEq,ad,J,ae,aj,af,ag,Mly.av,ax,g38,hrn];(repeat refine an ?_);(try refine .inl ?_);apply k0;clear k0;simp only[zP,J,aG,List.append_assoc,aC])
 refine ah (k59 _ (kx ?_));refine aa λ_ k60=>?_;refine aa λ_ k61=>?_;have g39:∀ x y z t u:AO,(List.replicate (2*m.nx.length) (AO.dead 2)++[x,y,z,t,u])[(2*m.nx.length+1+1+1+1)]? =some u:=λx y z t u=>ddX 4;refine am hP hN rfl ?_
 iterate 3 (refine aw rfl λ_ k0=>?_;simp only[zO,zT,acs,reduceCtorEq,ad,J,ae,aj,af,ag,Mly.av,g39,aB];(repeat refine an ?_);(try refine .inl ?_);apply k0;clear k0;simp only[zP,J])
 refine ah (k61 _ (kx ?_));refine ay ?_;refine aM (λn62 s62=>∃ (k2:Nat),(k2≤m.nx.length)∧n62=m.nx.length-k2∧s62={env:=[(6,.one (.ptr 1 0 0 0)),(7,.one .nils),(8,.one (.bool false)),(11,.one (.ptr (2*m.nx.length+1+1+1+1+1+1+1) 0 0 0)),(20,.one (.ptr (2*m.nx.length+1+1+1+1+1+1+1+1+1) 0 0 0)),(21,.one (.list Θ (foQ m s).rnN)),(22,.one (.row (2*m.nx.length+1+1+1+1+1+1+1+1+1+1) 0)),(219,.one (.int .i64 (m.nx.length:Int))),(220,.one (.int .i64 (k2:Int)))],L:=.vars 38 [.int .i64 m.inp,.int .i64 m.st,.list Γ m.nx,.list Γ m.ot]:: .vars 38 [.int .i64 0,.int .i64 0,.nils,.nils]:: .vars 38 [.int .i64 m.inp,.int .i64 (bm s.up m.st),.list Γ (foQ m s).nx,.list Γ (foQ m s).ot]:: .dead (m.nx.length+1):: .dead (m.nx.length+1):: .dead (2*m.nx.length)::(List.replicate (2*m.nx.length) (.dead 2)++[.mp 143 .int s.up,.vars 145 [.mpv (2*m.nx.length+1+1+1+1+1+1)],.row (.pair Θ (.pair Θ .unit)) 146 v xs,.vars 38 [.int .i64 (foQ m s).rnP.inp,.int .i64 (foQ m s).rnP.st,.list Γ (foQ m s).rnP.nx,.list Γ (foQ m s).rnP.ot],.row Θ 3 0 (lW m s k2)])}) ?_ ?_
 ·exact⟨_,_,ar [6,7,8,11,20,21,22,219,220],0,Nat.zero_le _,rfl,by rw[RB];rfl⟩
 rintro n62 s62 ⟨k2,hk20,rfl,rfl⟩;refine zT5 ?_;refine aa λ_ k64=>?_;refine cB (λhc65=>?_) (λhc65=>?_)
 ·refine au ?_
  refine k64 _ (kx ?_);refine aa λ_ k66=>?_;refine ay ?_;refine zT5 ?_;have hk2:k2<m.nx.length:=ω;have hkl2:=KR (m:=m) (f:=s) (k:=k2) ω;have hrk:=hWn.uo.rep (x:=(k2:Int)) ω;have hLb:∀ x y z t u:AO,(List.replicate (2*m.nx.length) (AO.dead 2)++[x,y,z,t,u])[(2*m.nx.length+1)]? =some y:=λx y z t u=>ddX 1;have hLm:∀ x y z t u:AO,(List.replicate (2*m.nx.length) (AO.dead 2)++[x,y,z,t,u])[(2*m.nx.length)]? =some x:=λx y z t u=>ddX 0;have hmA:(.vars 38 [.int .i64 m.inp,.int .i64 m.st,.list Γ m.nx,.list Γ m.ot]:: .vars 38 [.int .i64 0,.int .i64 0,.nils,.nils]:: .vars 38 [.int .i64 m.inp,.int .i64 (bm s.up m.st),.list Γ (foQ m s).nx,.list Γ (foQ m s).ot]:: .dead (m.nx.length+1):: .dead (m.nx.length+1):: .dead (2*m.nx.length)::(List.replicate (2*m.nx.length) (.dead 2)++[.mp 143 .int s.up,.vars 145 [.mpv (2*m.nx.length+1+1+1+1+1+1)],.row (.pair Θ (.pair Θ .unit)) 146 v xs,.vars 38 [.int .i64 (foQ m s).rnP.inp,.int .i64 (foQ m s).rnP.st,.list Γ (foQ m s).rnP.nx,.list Γ (foQ m s).rnP.ot],.row Θ 3 0 (lW m s k2)]):List AO)[(2*m.nx.length+1+1+1+1+1+1)]? =some (.mp 143 .int s.up):=hLm _ _ _ _ _;have hfA:(.vars 38 [.int .i64 m.inp,.int .i64 m.st,.list Γ m.nx,.list Γ m.ot]:: .vars 38 [.int .i64 0,.int .i64 0,.nils,.nils]:: .vars 38 [.int .i64 m.inp,.int .i64 (bm s.up m.st),.list Γ (foQ m s).nx,.list Γ (foQ m s).ot]:: .dead (m.nx.length+1):: .dead (m.nx.length+1):: .dead (2*m.nx.length)::(List.replicate (2*m.nx.length) (.dead 2)++[.mp 143 .int s.up,.vars 145 [.mpv (2*m.nx.length+1+1+1+1+1+1)],.row (.pair Θ (.pair Θ .unit)) 146 v xs,.vars 38 [.int .i64 (foQ m s).rnP.inp,.int .i64 (foQ m s).rnP.st,.list Γ (foQ m s).rnP.nx,.list Γ (foQ m s).rnP.ot],.row Θ 3 0 (lW m s k2)]):List AO).all (cr (.vars 38 [.int .i64 m.inp,.int .i64 m.st,.list Γ m.nx,.list Γ m.ot]:: .vars 38 [.int .i64 0,.int .i64 0,.nils,.nils]:: .vars 38 [.int .i64 m.inp,.int .i64 (bm s.up m.st),.list Γ (foQ m s).nx,.list Γ (foQ m s).ot]:: .dead (m.nx.length+1):: .dead (m.nx.length+1):: .dead (2*m.nx.length)::(List.replicate (2*m.nx.length) (.dead 2)++[.mp 143 .int s.up,.vars 145 [.mpv (2*m.nx.length+1+1+1+1+1+1)],.row (.pair Θ (.pair Θ .unit)) 146 v xs,.vars 38 [.int .i64 (foQ m s).rnP.inp,.int .i64 (foQ m s).rnP.st,.list Γ (foQ m s).rnP.nx,.list Γ (foQ m s).rnP.ot],.row Θ 3 0 (lW m s k2)]):List AO).length)=true:=by
   rw[RT];refine RY rfl rfl rfl rfl rfl rfl ?_;simp only[List.all_cons,List.all_nil,Bool.and_true,cr,bY,Bool.true_and,decide_eq_true_eq,ax,aF];omega
  have g42:∀ x y z t u w:AO,(List.replicate (2*m.nx.length) (AO.dead 2)++[x,y,z,t,u]).set (2*m.nx.length+1+1+1+1) w=List.replicate (2*m.nx.length) (AO.dead 2)++[x,y,z,t,w]:=λx y z t u w=>ddS 4;refine am hP hN rfl ?_
  iterate 5 (refine aw rfl λ_ k0=>?_;simp only[zO,zT,acs,reduceCtorEq,ad,J,ae,aj,af,ag,Mly.av,hLb,g39,hrn,az];(repeat refine an ?_);(try refine .inl ?_);apply k0;clear k0;simp only[zP,J,g42])
  refine aw rfl λ_ k0=>?_;refine bo (h:=y5 _ (2*m.nx.length+1+1+1+1+1+1) m.nx.length s.up (k2:Int) hmA hfA hWn.uo ω ω ω) rfl rfl (by first|exact rfl|(simp only[ev,zP,ad,J];exact rfl)) (by simp only[zV,acs,reduceCtorEq,ad,J,ae,aj,af,ag,Mly.av,hLb,g39,hrn,az]) ?_;apply k0;clear k0;simp only[zP,J,g42]
  iterate 4 (refine aw rfl λ_ k0=>?_;simp only[zO,zT,acs,reduceCtorEq,ad,J,ae,aj,af,ag,Mly.av,hLb,g39,hrn,az];(repeat refine an ?_);(try refine .inl ?_);apply k0;clear k0;simp only[zP,J,g42])
  refine ah (k66 _ (kx ?_));refine zR5 (h:=?_);refine⟨_,_,?_,ar [6,7,8,11,20,21,22,219,220],k2+1,ω,rfl,?_⟩
  ·omega
  ·rw[← Lx ω];rfl
 refine aL ?_;refine k60 _ (kx ?_);refine aa λ_ k68=>?_;have hk9:k2=m.nx.length:=ω;subst hk9;rw[KL];have g44:∀ x y z t u w:AO,(List.replicate (2*m.nx.length) (AO.dead 2)++[x,y,z,t,u]).set (2*m.nx.length+1+1+1+1) w=List.replicate (2*m.nx.length) (AO.dead 2)++[x,y,z,t,w]:=λx y z t u w=>ddS 4;have g45:∀ x y z t u:AO,(List.replicate (2*m.nx.length) (AO.dead 2)++[x,y,z,t,u])[(2*m.nx.length+1+1+1)]? =some t:=λx y z t u=>ddX 3;refine cA (2*m.nx.length+1+1+1+1+1+1+1+1+1+1) (g39 _ _ _ _ _) ?_;simp only[aJ,aV,zS,ad,and_self,and_true,true_and,and_false,false_and,if_true,if_false,eq_self,reduceCtorEq,g44];refine am hP hN rfl ?_
 iterate 5 refine xq g45 ?_
 refine ah (k68 _ (kx ?_));refine aA ?_;refine⟨nr,_,rfl,?_⟩;simp only[zF,zP,ad,J,Mly.av]
 first
 |(unfold foP foC foB
   rw[hG];exact VLE.of_eq rfl)
 |(unfold foP foC foB
   rw[hGn];exact bl ⟨dt ⟨.refl _,.refl _,aS rfl,aS rfl,trivial⟩,aD (aS rfl),aD (.refl _),trivial⟩)
theorem QL (m:Mly)(hm:PK m)(red:List Bool)(hr:red.length=m.nx.length)(bs:Int)(hb:0≤bs∧bs<m.nx.length):aY Tryz.prog 28 [m.av,.one (.list .bool red),.one (.int .i64 bs)] (.tup [(meF m red bs).1.av,.one (.list .bool (meF m red bs).2)]):=by
 refine zQ 73 Tryz.func28 λC hP hN hB=>?_;have hX:KX [0,1,2,3,6,7,8,9,10,11,12,13,14,15,16,17,18,19,20,25,35,40,41,42,43,54]:=⟨trivial⟩
 have h3:=hm.n2;have h4:=hm.n1;refine zT5 ?_;refine aa λ_ k2=>?_;refine zT5 ?_;refine ay ?_;refine aM (λn4 s4=>∃ (r:Nat),(r≤red.length)∧(∀ q,q<r→meT m red bs q=false)∧n4=red.length-r∧s4={env:=[(1,.one (.list .bool red)),(2,.one (.int .i64 bs)),(3,.one (.ptr 0 0 0 0)),(6,.one (.ptr 1 0 0 0)),(7,.one .nils),(17,.one (.list .bool red)),(18,.one (.int .i64 (red.length:Int))),(19,.one (.int .i64 (r:Int)))],L:=[.vars 38 [.int .i64 m.inp,.int .i64 m.st,.list Γ m.nx,.list Γ m.ot],.vars 38 [.int .i64 0,.int .i64 0,.nils,.nils]]}) ?_ ?_
 ·exact⟨_,_,ar [1,2,3,6,7,17,18,19],0,Nat.zero_le _,λq hq=>by omega,rfl,rfl⟩
 rintro n4 s4 ⟨r,hr0,hall,rfl,rfl⟩;refine zT5 ?_;refine aa λ_ k6=>?_;refine cB (λhc7=>?_) (λhc7=>?_)
 ·refine au ?_
  refine k6 _ (kx ?_);refine aa λ_ k8=>?_;refine ay ?_;refine lA ?_;refine aa λ_ k10=>?_;refine zT5 ?_;refine cB (λhc12=>?_) (λhc12=>?_)
  ·have hnr:red.getD r false=false:=by have hq:=hc12;simpa using hq
   refine aL ?_;refine k8 _ (kx ?_)
   first
   |(refine kp [1,2,3,6,7,17,18,19] ?_;refine jx (L1:=[_,_]) rfl hB rfl rfl ?_)
   |skip
   refine zR5 (h:=?_);have hno:meT m red bs r=false:=by
    unfold meT
    first
    |(rw[hnr];rfl)
    |(rw[hnf];simp)
   refine⟨_,_,?_,ar [1,2,3,6,7,17,18,19],r+1,ω,λq hq=>?_,rfl,rfl⟩
   ·omega
   ·by_cases e:q=r
    ·rw[e];exact hno
    ·exact hall q ω
  have hrr:red.getD r false=true:=by have hq:=hc12;simpa using hq
  refine au (k10 _ (kx ?_));refine aa λ_ k13=>?_;have hrl:r<red.length:=ω;refine am hP hN rfl ?_
  iterate 3 refine zS6 ?_
  refine zC8 (ak (NB m hm (r:Int) bs ω hb)) ?_
  iterate 8 refine zS6 ?_
  refine ah (k13 _ (kx ?_));refine aa λ_ k14=>?_;refine zT5 ?_;refine cB (λhc16=>?_) (λhc16=>?_)
  ·have hnf:foB m (r:Int) bs=false:=by have hq:=hc16;simpa using hq
   refine aL ?_;refine k8 _ (kx ?_)
   first
   |(refine kp [1,2,3,6,7,17,18,19] ?_;refine jx (L1:=[_,_]) rfl hB rfl rfl ?_)
   |skip
   refine zR5 (h:=?_);have hno:meT m red bs r=false:=by
    unfold meT
    first
    |(rw[hnr];rfl)
    |(rw[hnf];simp)
   refine⟨_,_,?_,ar [1,2,3,6,7,17,18,19],r+1,ω,λq hq=>?_,rfl,rfl⟩
   ·omega
   ·by_cases e:q=r
    ·rw[e];exact hno
    ·exact hall q ω
  have hfb:foB m (r:Int) bs=true:=by have hq:=hc16;simpa using hq
  refine au (k14 _ (kx ?_));refine aa λ_ k17=>?_;have hcl:=OK hfb;have hpl:((foP m (r:Int) bs).nx.length:Int)≤4096:=by
   obtain⟨f,hf⟩:=Option.isSome_iff_exists.1 (show(foG m (r:Int) bs).isSome=true from hfb);have h9:=(oB hm ω hb hf).1;have hq:=(mI hm h9).uoR.len;have hnl:(foQ m f).nx.length=m.nx.length:=by show(f.nx.map _).length=_;rw[aE];exact h9.nl
   have e:(foP m (r:Int) bs).nx.length=(foQ m f).uo.length:=by unfold foP;rw[hf];simp[Mly.rnP,Mly.rnX]
   omega
  refine am hP hN rfl ?_
  iterate 3 refine zS6 ?_
  (refine aw rfl λ_ k0=>?_;simp only[zE,op1,ev,lkp,cR,bP,cq,dR,Nat.mul_one,bZ,cT,acs,Ty.dflt,zG,cK,cC,gm,ff,cY,dC,fa,Nat.div_one,cV,di,Ty.size,bq,dite_true,cH,reduceCtorEq,ad,J,ae,aj,af,ag,Tryz.el22,Tryz.el54,Tryz.st38,Tryz.td2,Tryz.td22,Tryz.td3,Tryz.td38,Tryz.td54,Mly.av];(repeat refine an ?_);(try refine .inl ?_);apply k0;clear k0;simp only[zP,J])
  refine zS6 ?_;refine ah (k17 _ (kx ?_));refine aa λ_ k18=>?_;refine zT5 ?_;refine ay ?_;refine aM (λn20 s20=>∃ (k:Nat),(k≤red.length)∧n20=red.length-k∧s20={env:=[(1,.one (.list .bool red)),(2,.one (.int .i64 bs)),(3,.one (.ptr 0 0 0 0)),(6,.one (.ptr 1 0 0 0)),(7,.one .nils),(8,.one (.int .i64 (r:Int))),(10,.one (.ptr 2 0 0 0)),(11,.one (.list Θ (foC m (r:Int) bs))),(13,.one (.row 3 0)),(17,.one (.list .bool red)),(18,.one (.int .i64 (red.length:Int))),(19,.one (.int .i64 (r:Int))),(40,.one (.list .bool red)),(41,.one (.int .i64 (red.length:Int))),(42,.one (.int .i64 (k:Int)))],L:=[.vars 38 [.int .i64 m.inp,.int .i64 m.st,.list Γ m.nx,.list Γ m.ot],.vars 38 [.int .i64 0,.int .i64 0,.nils,.nils],.vars 38 [.int .i64 (foP m (r:Int) bs).inp,.int .i64 (foP m (r:Int) bs).st,.list Γ (foP m (r:Int) bs).nx,.list Γ (foP m (r:Int) bs).ot],.row .bool 4 0 (meR (foC m (r:Int) bs) red (foP m (r:Int) bs).nx.length k)]}) ?_ ?_
  ·exact⟨_,_,ar [1,2,3,6,7,8,10,11,13,17,18,19,40,41,42],0,Nat.zero_le _,rfl,rfl⟩
  rintro n20 s20 ⟨k,hk0,rfl,rfl⟩;refine zT5 ?_;refine aa λ_ k22=>?_;refine cB (λhc23=>?_) (λhc23=>?_)
  ·refine au ?_
   refine k22 _ (kx ?_);refine aa λ_ k24=>?_;refine ay ?_;refine lA ?_;refine aa λ_ k26=>?_;have hcr:=Q4 hm ω hb hfb (λf hf=>(oB hm ω hb hf).1) k ω;have hml:=kE (foC m (r:Int) bs) red (foP m (r:Int) bs).nx.length k;refine am hP hN rfl ?_
   iterate 2 refine D9 ?_
   refine' zJ true 5 48 (λhg27=>?a27) ?b27 ?c27
   case a27=>
    have hq27:=hg27;(try simp only[zB,reduceCtorEq] at hg27);simp only[zE]
    iterate 5 (refine db rfl λ_ k0=>?_;simp only[zO,zT,acs,reduceCtorEq,ad,J,ae,aj,af,ag,Mly.av,gt,az];(repeat refine an ?_);(try refine .inl ?_);apply k0;clear k0;simp only[zP,J])
    refine D9 ?_;refine ah ?_;exact zK hq27
   case b27=>exact cF
   simp only[bh,aX];refine ah (k26 _ (kx ?_));refine cB (λhc28=>?_) (λhc28=>?_)
   ·have hin:red.getD k false=true∧¬(foC m (r:Int) bs).getD k 0= -1:=by have hq:=hc28;simpa using hq
    refine Jq (h:=k24 _ (kx ?_));refine zR5 (h:=?_)
    first
    |(refine⟨_,_,?_,ar [1,2,3,6,7,8,10,11,13,17,18,19,40,41,42],k+1,ω,rfl,?_⟩
      ·omega
      ·rw[jU];unfold meS;rw[if_pos hin];rfl)
    |(refine⟨_,_,?_,ar [1,2,3,6,7,8,10,11,13,17,18,19,40,41,42],k+1,ω,rfl,?_⟩
      ·omega
      ·rw[jU];unfold meS;rw[if_neg hout];rfl)
   have hout:¬(red.getD k false=true∧¬(foC m (r:Int) bs).getD k 0= -1):=by have hq:=hc28;intro h9;simp_all
   refine au (k24 _ (kx ?_));refine zR5 (h:=?_)
   first
   |(refine⟨_,_,?_,ar [1,2,3,6,7,8,10,11,13,17,18,19,40,41,42],k+1,ω,rfl,?_⟩
     ·omega
     ·rw[jU];unfold meS;rw[if_pos hin];rfl)
   |(refine⟨_,_,?_,ar [1,2,3,6,7,8,10,11,13,17,18,19,40,41,42],k+1,ω,rfl,?_⟩
     ·omega
     ·rw[jU];unfold meS;rw[if_neg hout];rfl)
  refine aL ?_;refine k18 _ (kx ?_);refine aa λ_ k29=>?_;have hke:k=red.length:=ω;subst hke;refine cA 3 rfl ?_;simp only[aJ,aV,zS,ad,ZW,reduceCtorEq];refine zR5 (h:=k29 _ (kx ?_));refine aA ?_;refine zZm ?_
  first
  |(rw[BR hrl hall (by unfold meT;rw[hrr,hfb];rfl)];all_goals rfl)
  |(rw[Ay λq hq=>hall q ω];all_goals rfl)
 refine aL ?_;refine k2 _ (kx ?_);refine aa λK30 k30=>am hP hN rfl ?_;refine I6 ?_
 iterate 3 refine zS6 ?_
 refine ah (k30 _ (kx ?_));refine zT5 ?_;refine aa λ_ k32=>?_;refine cA 2 rfl ?_;simp only[aJ,aV,zS,ad,ZW,reduceCtorEq];refine zR5 (h:=k32 _ (kx ?_));refine aA ?_;refine zZm ?_
 first
 |(rw[BR hrl hall (by unfold meT;rw[hrr,hfb];rfl)];all_goals rfl)
 |(rw[Ay λq hq=>hall q ω];all_goals rfl)
end Go.Proofs.YtiedpcchhicifaaGreatDoor
