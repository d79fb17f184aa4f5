/- Part of the proof. -/
import Derived.Test.YtiedpcchhicifaaGreatDoorW06
set_option linter.unusedSimpArgs false
set_option linter.unusedVariables false
set_option maxRecDepth 100000
set_option maxHeartbeats 4000000
open List renaming getElem?_eq_some_iff→Δ
open Nat renaming le_refl→Υ
namespace Go.Proofs.YtiedpcchhicifaaGreatDoor
open Go Go.AV
open Nat renaming reduceEqDiff→ad,reduceAdd→J,reduceLeDiff→ae,reduceLT→aj,reduceMul→af,reduceSub→ag
open List renaming set_cons_zero→bv,set_cons_succ→bW,getD_cons_zero→aI,length_append→aq,map_cons→aJ,cons_append→aG,map_nil→aV,length_cons→ax,nil_append→aC,length_nil→aF,length_replicate→aB,take_length→aP
open Int renaming toNat_natCast→az
def De {L0:List AO}{k ver:Nat}{e:TypeId}{xs:List (List Int)}(hL:L0[k]? =some (.row Γ e ver xs))(h1:xs.length<4611686018427387904):
 cS Tryz.prog L0 44 [.one (.row k ver),.one (.fn 45 [])] {av:=.tup [],upd:=[(k,.row Γ e ver (dj cJ xs))],fp:=[k]}:=by
 rcases Nat.eq_zero_or_pos xs.length with h0|h0
 ·have:xs=[]:=List.eq_nil_of_length_eq_zero h0
  subst this;refine xX (fp:=[k]) ?_ (by rw[hL];simp[dj]) η;exact jr (args:=[.one (.row k ver),.one (.fn 45 [])]) (by simp[fzV,fz1,fzC,hL]) rfl (wm 45) rfl
 ·exact G8 hL h0 h1
def LX {L0:List AO}{k ver:Nat}{e:TypeId}{xs:List (List Int)}(hL:L0[k]? =some (.row Γ e ver xs))(h1:xs.length<4611686018427387904):
 cS Tryz.prog L0 44 [.one (.row k ver),.one (.fn 47 [])] {av:=.tup [],upd:=[(k,.row Γ e ver (dj dg xs))],fp:=[k]}:=by
 rcases Nat.eq_zero_or_pos xs.length with h0|h0
 ·have:xs=[]:=List.eq_nil_of_length_eq_zero h0
  subst this;refine xX (fp:=[k]) ?_ (by rw[hL];simp[dj]) η;exact jr (args:=[.one (.row k ver),.one (.fn 47 [])]) (by simp[fzV,fz1,fzC,hL]) rfl (wm 47) rfl
 ·exact GB hL h0 h1
def P3 (ws:List (List Int))(h1:ws.length≤1000000)(h2:∀ w,w∈ws→w.length≤1000000):aY Tryz.prog 46 [.one (.list Γ ws),.one (.fn 47 [])] (.one (.list Γ (fD ws))):=by
 refine zQ 30 Tryz.func46 λC hP hN hB=>?_;have hsl:=ja dg ws;have hdl:=nW (dj dg ws);refine zT2 [0,1,3,4] ?_;refine aa λ_ k2=>?_;refine tA 0 47 [] rfl ?_;simp only[aJ,aV,shF,if_true,zS,if_false,eq_self,ad,reduceCtorEq,Nat.one_ne_zero,Nat.zero_ne_one];refine dM (n:=0) (L1:=[]) rfl rfl (by rw[hB];decide) rfl rfl ?_;refine am hP hN rfl ?_;refine zS3 ?_;refine zC9 (gD (v8 ws ω)) ?_;refine zS3 ?_;refine ah (k2 _ (kp [0,1,3,4,5] ?_));refine aa λK3 k3=>am hP hN rfl ?_
 iterate 2 refine zS3 ?_
 refine zC9 (LX (k:=0) (ver:=0) (xs:=ws) rfl ω) ?_;refine ah (k3 _ (kp [0,1,3,4,5] ?_));refine aa λK4 k4=>am hP hN rfl ?_;refine zS3 ?_
 (refine aw rfl λ_ k0=>?_;simp only[zE,op1,ev,lkp,cT,cA,fl,iz,o4,reduceCtorEq,ad,J,ae,aj,af,ag,Tryz.el22,Tryz.td22,Tryz.td78];(repeat refine an ?_);(try refine .inl ?_);apply k0;clear k0;simp only[zP,J])
 refine zC9 (IJ 87 [.pfn 47 []] 0 (dj dg ws) ω rfl (λi j _ _=>NA _ _)) ?_;refine zS3 ?_;refine ah (k4 _ (kp [0,1,3,4,5] ?_));refine aa λ_ k5=>?_;refine zT2 [0,1,3,4,5,16,17,18] ?_;refine ay ?_;refine aM (λn7 s7=>∃ (k:Nat),(k≤(db (dj dg ws)).length)∧n7=(db (dj dg ws)).length-k∧s7={env:=[(4,.one .nils),(5,.one (.row 0 1)),(16,.one (.row 0 1)),(17,.one (.int .i64 ((db (dj dg ws)).length:Int))),(18,.one (.int .i64 (k:Int)))],L:=[.row Γ 26 1 (db (dj dg ws))]}) ?_ ?_
 ·exact⟨_,_,ar [4,5,16,17,18],0,Nat.zero_le _,rfl,rfl⟩
 rintro n7 s7 ⟨k,hk,rfl,rfl⟩;refine zT2 [4,5,16,17,18,19] ?_;refine aa λ_ k9=>?_;refine cB (λhc10=>?_) (λhc10=>?_)
 ·refine au ?_
  refine k9 _ (kp [4,5,16,17,18,19] ?_);refine aa λ_ k11=>?_;refine ay ?_;refine HX [4,5,6,7,16,17,18,19] ?_;have hwl:=h2 _ (gI.1 (lI (dj dg ws) _ (dh (show k<(db (dj dg ws)).length by omega))));refine am hP hN rfl ?_
  iterate 3 refine H0 ?_
  refine aw rfl λ_ k0=>?_;refine bo (h:=ak (fu ((db (dj dg ws)).getD k []) ω)) rfl rfl (by first|exact rfl|(simp only[ev,zP,ad,J];exact rfl)) (by simp only[zV,acs,reduceCtorEq,ad,J,ae,aj,af,ag,az,Ty.dflt]) ?_;apply k0;clear k0;simp only[zP,J]
  iterate 2 refine H0 ?_
  refine ah (k11 _ (kp [4,5,6,7,16,17,18,19] ?_));refine zR2 (h:=?_);refine⟨_,_,?_,ar [4,5,16,17,18],k+1,ω,rfl,?_⟩
  ·omega
  ·rw[zo ω];rfl
 refine aL ?_;refine k5 _ (kp [4,5,16,17,18,19] ?_);refine aa λ_ k13=>?_;refine cz 0 rfl ?_;simp only[aJ,aV,zS,ad,zW,reduceCtorEq];refine zR2 (h:=k13 _ (kp [4,5,16,17,18,19] ?_));refine aA ?_;refine zZn ?_
 rfl
def O8 (a b:List Int):aY Tryz.prog 87 [.one (.list Θ a),.one (.list Θ b),.one (.pfn 45 [])] (.one (.bool (decide (a=b)))):=by
 refine zQ 11 Tryz.func87 λC hP hN hB=>?_;refine zT2 [0,1,2,5] ?_;refine aa λK2 k2=>am hP hN rfl ?_
 iterate 3 refine zS3 ?_
 refine zC9 (ak (zr a b)) ?_
 iterate 2 refine zS3 ?_
 refine ah (k2 _ (kp [0,1,2,5] ?_));refine aA ?_;refine zZn ?_;rw[OJ]
 all_goals rfl
def MD (ws:List (List Int))(h1:ws.length≤1000000)(h2:∀ w,w∈ws→w.length≤1000000):aY Tryz.prog 46 [.one (.list Γ ws),.one (.fn 45 [])] (.one (.list Γ (wsS ws))):=by
 refine zQ 30 Tryz.func46 λC hP hN hB=>?_;have hsl:=ja cJ ws;have hdl:=nW (dj cJ ws);refine zT2 [0,1,3,4] ?_;refine aa λ_ k2=>?_;refine tA 0 45 [] rfl ?_;simp only[aJ,aV,shF,if_true,zS,if_false,eq_self,ad,reduceCtorEq,Nat.one_ne_zero,Nat.zero_ne_one];refine dM (n:=0) (L1:=[]) rfl rfl (by rw[hB];decide) rfl rfl ?_;refine am hP hN rfl ?_;refine zS3 ?_;refine zC9 (gD (v8 ws ω)) ?_;refine zS3 ?_;refine ah (k2 _ (kp [0,1,3,4,5] ?_));refine aa λK3 k3=>am hP hN rfl ?_
 iterate 2 refine zS3 ?_
 refine zC9 (De (k:=0) (ver:=0) (xs:=ws) rfl ω) ?_;refine ah (k3 _ (kp [0,1,3,4,5] ?_));refine aa λK4 k4=>am hP hN rfl ?_;refine zS3 ?_
 (refine aw rfl λ_ k0=>?_;simp only[zE,op1,ev,lkp,cT,cA,fl,iz,o4,reduceCtorEq,ad,J,ae,aj,af,ag,Tryz.el22,Tryz.td22,Tryz.td78];(repeat refine an ?_);(try refine .inl ?_);apply k0;clear k0;simp only[zP,J])
 refine zC9 (IJ 87 [.pfn 45 []] 0 (dj cJ ws) ω rfl (λi j _ _=>O8 _ _)) ?_;refine zS3 ?_;refine ah (k4 _ (kp [0,1,3,4,5] ?_));refine aa λ_ k5=>?_;refine zT2 [0,1,3,4,5,16,17,18] ?_;refine ay ?_;refine aM (λn7 s7=>∃ (k:Nat),(k≤(db (dj cJ ws)).length)∧n7=(db (dj cJ ws)).length-k∧s7={env:=[(4,.one .nils),(5,.one (.row 0 1)),(16,.one (.row 0 1)),(17,.one (.int .i64 ((db (dj cJ ws)).length:Int))),(18,.one (.int .i64 (k:Int)))],L:=[.row Γ 26 1 (db (dj cJ ws))]}) ?_ ?_
 ·exact⟨_,_,ar [4,5,16,17,18],0,Nat.zero_le _,rfl,rfl⟩
 rintro n7 s7 ⟨k,hk,rfl,rfl⟩;refine zT2 [4,5,16,17,18,19] ?_;refine aa λ_ k9=>?_;refine cB (λhc10=>?_) (λhc10=>?_)
 ·refine au ?_
  refine k9 _ (kp [4,5,16,17,18,19] ?_);refine aa λ_ k11=>?_;refine ay ?_;refine HX [4,5,6,7,16,17,18,19] ?_;have hwl:=h2 _ (gI.1 (lI (dj cJ ws) _ (dh (show k<(db (dj cJ ws)).length by omega))));refine am hP hN rfl ?_
  iterate 3 refine H0 ?_
  refine aw rfl λ_ k0=>?_;refine bo (h:=ak (fu ((db (dj cJ ws)).getD k []) ω)) rfl rfl (by first|exact rfl|(simp only[ev,zP,ad,J];exact rfl)) (by simp only[zV,acs,reduceCtorEq,ad,J,ae,aj,af,ag,az,Ty.dflt]) ?_;apply k0;clear k0;simp only[zP,J]
  iterate 2 refine H0 ?_
  refine ah (k11 _ (kp [4,5,6,7,16,17,18,19] ?_));refine zR2 (h:=?_);refine⟨_,_,?_,ar [4,5,16,17,18],k+1,ω,rfl,?_⟩
  ·omega
  ·rw[zo ω];rfl
 refine aL ?_;refine k5 _ (kp [4,5,16,17,18,19] ?_);refine aa λ_ k13=>?_;refine cz 0 rfl ?_;simp only[aJ,aV,zS,ad,zW,reduceCtorEq];refine zR2 (h:=k13 _ (kp [4,5,16,17,18,19] ?_));refine aA ?_;refine zZn ?_
 rfl
def iD (ws:List (List Int))(h1:ws.length≤1000000)(h2:∀ w,w∈ws→w.length≤1000000):aY Tryz.prog 24 [.one (.list Γ ws)] (.one (.list Γ (wsS ws))):=by
 refine zQ 5 Tryz.func24 λC hP hN hB=>?_;refine zT2 [0,2] ?_;refine aa λK2 k2=>am hP hN rfl ?_;refine zS3 ?_;refine zC9 (ak (MD ws h1 h2)) ?_;refine zS3 ?_;refine ah (k2 _ (kp [0,2] ?_));refine aA ?_;refine zZn ?_
 rfl
def ox (ws:List (List Int))(h1:ws.length≤1000000)(h2:∀ w,w∈ws→w.length≤1000000):aY Tryz.prog 21 [.one (.list Γ ws)] (.one (.list Γ (mxS ws))):=by
 refine zQ 38 Tryz.func21 λC hP hN hB=>?_;have hol:=E0 ws;refine zT2 [0,2] ?_;refine aa λK2 k2=>am hP hN rfl ?_;refine zS3 ?_;refine zC9 (ak (P3 ws h1 h2)) ?_;refine zS3 ?_;refine ah (k2 _ (kp [0,2,3] ?_));refine zT2 [0,2,3,4] ?_;refine aa λ_ k4=>?_;refine zT2 [0,2,3,4,9,10,11] ?_;refine ay ?_;refine et 4 Γ 26 δ rfl ?_;simp only[ax,aF,aG,aC,Nat.zero_add,J];refine aM (λn6 s6=>∃ (k:Nat) (v:Nat),(k≤(fD ws).length)∧n6=(fD ws).length-k∧s6={env:=[(2,.one .nils),(3,.one (.list Γ (fD ws))),(4,.one (.row 0 v)),(9,.one (.list Γ (fD ws))),(10,.one (.int .i64 ((fD ws).length:Int))),(11,.one (.int .i64 (k:Int)))],L:=[.row Γ 26 v (mxF (fD ws) k)]}) ?_ ?_
 ·exact⟨_,_,ar [2,3,4,9,10,11],0,0,Nat.zero_le _,rfl,rfl⟩
 rintro n6 s6 ⟨k,v,hk,rfl,rfl⟩;refine zT2 [2,3,4,9,10,11,12] ?_;refine aa λ_ k8=>?_;refine cB (λhc9=>?_) (λhc9=>?_)
 ·refine au ?_
  refine k8 _ (kp [2,3,4,9,10,11,12] ?_);refine aa λ_ k10=>?_;refine ay ?_;refine P6 [2,3,4,5,6,9,10,11,12] ?_;refine aa λ_ k12=>?_;have hk1:((k:Int)+1).toNat=k+1:=ω;refine am hP hN rfl ?_
  iterate 6 refine pp hk1 ?_
  refine' zJ false 8 21 (λhg13=>?a13) ?b13 ?c13
  case a13=>
   have hq13:=hg13;(try simp only[zB,reduceCtorEq] at hg13);simp only[zE]
   iterate 6 refine yr hk1 ?_
   refine da rfl λ_ k0=>?_;refine bo (h:=ak (cL ((fD ws).getD (k+1) []) ((fD ws).getD k []) (h2 _ (om (dh ω))) (h2 _ (om (dh ω))))) rfl rfl (by first|exact rfl|(simp only[ev,zP,ad,J];exact rfl)) (by simp only[zV,acs,reduceCtorEq,ad,J,ae,aj,af,ag,gt,az,hk1]) ?_;apply k0;clear k0;simp only[zP,J];refine yr hk1 ?_;refine pp hk1 ?_;refine ah ?_;exact zK hq13
  case b13=>exact cG
  simp only[bh,aX];refine ah (k12 _ (kp [2,3,4,5,6,9,10,11,12,30] ?_));refine cB (λhc14=>?_) (λhc14=>?_)
  ·have hmk:mxK (fD ws) k=true:=by have hq:=hc14;unfold mxK;simp at hq⊢;omega
   have hml:=Bq (fD ws) k;refine zR2 (h:=k10 _ (kp [2,3,4,5,6,9,10,11,12,30] ?_));refine zR2 (h:=?_)
   first
   |(refine⟨_,_,?_,ar [2,3,4,9,10,11],k+1,v+1,ω,rfl,?_⟩
     ·omega
     ·rw[oR,if_pos hmk];rfl)
   |(refine⟨_,_,?_,ar [2,3,4,9,10,11],k+1,v,ω,rfl,?_⟩
     ·omega
     ·rw[oR,if_neg hmk];rfl)
  have hmk:¬mxK (fD ws) k=true:=by have hq:=hc14;unfold mxK;simp at hq⊢;omega
  refine au (k10 _ (kp [2,3,4,5,6,9,10,11,12,30] ?_));refine zR2 (h:=?_)
  first
  |(refine⟨_,_,?_,ar [2,3,4,9,10,11],k+1,v+1,ω,rfl,?_⟩
    ·omega
    ·rw[oR,if_pos hmk];rfl)
  |(refine⟨_,_,?_,ar [2,3,4,9,10,11],k+1,v,ω,rfl,?_⟩
    ·omega
    ·rw[oR,if_neg hmk];rfl)
 refine aL ?_;refine k4 _ (kp [2,3,4,9,10,11,12] ?_);refine aa λ_ k15=>?_;have hkn:k=(fD ws).length:=ω;rw[hkn];refine cz 0 rfl ?_;simp only[aJ,aV,zS,ad,zW,reduceCtorEq];refine am hP hN rfl ?_;refine zS3 ?_;refine zC9 (ak (iD (mxF (fD ws) (fD ws).length) (by have:=Bq (fD ws) (fD ws).length;omega) (λw hw=>h2 w (om (Cd (Υ _) hw))))) ?_;refine zS3 ?_;refine ah (k15 _ (kp [2,3,4,9,10,11,12] ?_));refine aA ?_;refine zZn ?_
 rfl
set_option maxRecDepth 1000000
set_option maxHeartbeats 0
@[reducible] def tW:Ty:=.list tL
@[reducible] def tN:Ty:=.pair .bool (.pair tL (.pair tL (.pair tW (.pair tL .unit))))
@[reducible] def tT:Ty:=.pair tL (.pair tL .unit)
@[reducible] def xL (l:List Int):AC:=.list tI l
@[reducible] def xW (l:List (List Int)):AC:=.list tL l
def LI:BT TD:=(.node (.node (.node (.node (.node .leaf 3 {k:=.int .i64,size:=1,bytes:=8,zero:=[.int .i64 0]} .leaf) 4 {k:=.bool,size:=1,bytes:=1,zero:=[.bool false]} (.node .leaf 5 {k:=.int .u8,size:=1,bytes:=1,zero:=[.int .u8 0]} .leaf)) 9 {k:=.str,size:=1,bytes:=16,zero:=[.str []]} (.node (.node .leaf 22 {k:=.slice 26,size:=1,bytes:=24,zero:=[.nils]} .leaf) 24 {k:=.struct [(0,3,1),(1,3,1),(2,22,1),(3,22,1)],size:=4,bytes:=64,zero:=[.int .i64 0,.int .i64 0,.nils,.nils]} (.node .leaf 26 {k:=.slice 3,size:=1,bytes:=24,zero:=[.nils]} .leaf))) 27 {k:=.int .i64,size:=1,bytes:=8,zero:=[.int .i64 0]} (.node (.node (.node .leaf 32 {k:=.slice 86,size:=1,bytes:=24,zero:=[.nils]} .leaf) 34 {k:=.struct [(0,3,1),(1,32,1)],size:=2,bytes:=32,zero:=[.int .i64 0,.nils]} (.node .leaf 53 {k:=.slice 22,size:=1,bytes:=24,zero:=[.nils]} .leaf)) 86 {k:=.struct [(0,26,1),(1,26,1)],size:=2,bytes:=48,zero:=[.nils,.nils]} (.node (.node .leaf 106 {k:=.struct [(0,24,4),(4,22,1)],size:=5,bytes:=88,zero:=[.int .i64 0,.int .i64 0,.nils,.nils,.nils]} .leaf) 111 {k:=.slice 114,size:=1,bytes:=24,zero:=[.nils]} .leaf))) 114 {k:=.struct [(0,3,1),(1,26,1)],size:=2,bytes:=32,zero:=[.int .i64 0,.nils]} (.node (.node (.node (.node .leaf 127 {k:=.int .u64,size:=1,bytes:=8,zero:=[.int .u64 0]} .leaf) 153 {k:=.slice 207,size:=1,bytes:=24,zero:=[.nils]} (.node .leaf 155 {k:=.struct [(0,153,1)],size:=1,bytes:=24,zero:=[.nils]} .leaf)) 157 {k:=.struct [(0,3,1),(1,155,1)],size:=2,bytes:=32,zero:=[.int .i64 0,.nils]} (.node (.node .leaf 161 {k:=.struct [(0,157,2),(2,34,2)],size:=4,bytes:=64,zero:=[.int .i64 0,.nils,.int .i64 0,.nils]} .leaf) 179 {k:=.int .i64,size:=1,bytes:=8,zero:=[.int .i64 0]} .leaf)) 186 {k:=.int .u32,size:=1,bytes:=4,zero:=[.int .u32 0]} (.node (.node (.node .leaf 188 {k:=.int .u64,size:=1,bytes:=8,zero:=[.int .u64 0]} .leaf) 197 {k:=.slice 201,size:=1,bytes:=24,zero:=[.nils]} (.node .leaf 201 {k:=.struct [(0,26,1),(1,3,1)],size:=2,bytes:=32,zero:=[.nils,.int .i64 0]} .leaf)) 207 {k:=.struct [(0,4,1),(1,26,1),(2,26,1),(3,22,1),(4,26,1)],size:=5,bytes:=104,zero:=[.bool false,.nils,.nils,.nils,.nils]} (.node (.node .leaf 213 {k:=.struct [(0,26,1),(1,3,1),(2,26,1)],size:=3,bytes:=56,zero:=[.nils,.int .i64 0,.nils]} .leaf) 242 {k:=.ptr 269,size:=1,bytes:=8,zero:=[.nilp]} .leaf))))
def LC:LI.All λt x=>aN Tryz.prog t=some x:=⟨⟨⟨⟨⟨trivial,Tryz.td3,trivial⟩,Tryz.td4,⟨trivial,Tryz.td5,trivial⟩⟩,Tryz.td9,⟨⟨trivial,Tryz.td22,trivial⟩,Tryz.td24,⟨trivial,Tryz.td26,trivial⟩⟩⟩,Tryz.td27,⟨⟨⟨trivial,Tryz.td32,trivial⟩,Tryz.td34,⟨trivial,Tryz.td53,trivial⟩⟩,Tryz.td86,⟨⟨trivial,Tryz.td106,trivial⟩,Tryz.td111,trivial⟩⟩⟩,Tryz.td114,⟨⟨⟨⟨trivial,Tryz.td127,trivial⟩,Tryz.td153,⟨trivial,Tryz.td155,trivial⟩⟩,Tryz.td157,⟨⟨trivial,Tryz.td161,trivial⟩,Tryz.td179,trivial⟩⟩,Tryz.td186,⟨⟨⟨trivial,Tryz.td188,trivial⟩,Tryz.td197,⟨trivial,Tryz.td201,trivial⟩⟩,Tryz.td207,⟨⟨trivial,Tryz.td213,trivial⟩,Tryz.td242,trivial⟩⟩⟩⟩
def NN:BT EL:=(.node (.node (.node (.node .leaf 22 {e:=26,size:=1,bytes:=24,zero:=[.nils],t:=.list Θ} .leaf) 26 {e:=3,size:=1,bytes:=8,zero:=[.int .i64 0],t:=.int .i64} .leaf) 32 {e:=86,size:=2,bytes:=48,zero:=[.nils,.nils],t:=.pair Γ (.pair Γ (.unit))} (.node .leaf 53 {e:=22,size:=1,bytes:=24,zero:=[.nils],t:=.list Γ} .leaf)) 54 {e:=4,size:=1,bytes:=1,zero:=[.bool false],t:=.bool} (.node (.node .leaf 111 {e:=114,size:=2,bytes:=32,zero:=[.int .i64 0,.nils],t:=.pair Θ (.pair Γ (.unit))} .leaf) 153 {e:=207,size:=5,bytes:=104,zero:=[.bool false,.nils,.nils,.nils,.nils],t:=.pair (.bool) (.pair Γ (.pair Γ (.pair (.list Γ) (.pair Γ (.unit)))))} (.node .leaf 197 {e:=201,size:=2,bytes:=32,zero:=[.nils,.int .i64 0],t:=.pair Γ (.pair Θ (.unit))} .leaf)))
def KS:NN.All λt x=>fB Tryz.prog t=some x:=⟨⟨⟨⟨trivial,Tryz.el22,trivial⟩,Tryz.el26,trivial⟩,Tryz.el32,⟨trivial,Tryz.el53,trivial⟩⟩,Tryz.el54,⟨⟨trivial,Tryz.el111,trivial⟩,Tryz.el153,⟨trivial,Tryz.el197,trivial⟩⟩⟩
def NJ:BT (List (Nat×TypeId×Nat)×List AC):=(.node (.node (.node (.node .leaf 24 ([(0,3,1),(1,3,1),(2,22,1),(3,22,1)],[.int .i64 0,.int .i64 0,.nils,.nils]) .leaf) 34 ([(0,3,1),(1,32,1)],[.int .i64 0,.nils]) (.node .leaf 86 ([(0,26,1),(1,26,1)],[.nils,.nils]) .leaf)) 106 ([(0,24,4),(4,22,1)],[.int .i64 0,.int .i64 0,.nils,.nils,.nils]) (.node (.node .leaf 114 ([(0,3,1),(1,26,1)],[.int .i64 0,.nils]) .leaf) 155 ([(0,153,1)],[.nils]) .leaf)) 157 ([(0,3,1),(1,155,1)],[.int .i64 0,.nils]) (.node (.node (.node .leaf 161 ([(0,157,2),(2,34,2)],[.int .i64 0,.nils,.int .i64 0,.nils]) .leaf) 201 ([(0,26,1),(1,3,1)],[.nils,.int .i64 0]) .leaf) 207 ([(0,4,1),(1,26,1),(2,26,1),(3,22,1),(4,26,1)],[.bool false,.nils,.nils,.nils,.nils]) (.node (.node .leaf 213 ([(0,26,1),(1,3,1),(2,26,1)],[.nils,.int .i64 0,.nils]) .leaf) 269 ([(0,106,5),(5,34,2),(7,26,1),(8,26,1),(9,26,1)],[.int .i64 0,.int .i64 0,.nils,.nils,.nils,.int .i64 0,.nils,.nils,.nils,.nils]) .leaf)))
def LG:NJ.All λt x=>fb Tryz.prog t=some x:=⟨⟨⟨⟨trivial,Tryz.st24,trivial⟩,Tryz.st34,⟨trivial,Tryz.st86,trivial⟩⟩,Tryz.st106,⟨⟨trivial,Tryz.st114,trivial⟩,Tryz.st155,trivial⟩⟩,Tryz.st157,⟨⟨⟨trivial,Tryz.st161,trivial⟩,Tryz.st201,trivial⟩,Tryz.st207,⟨⟨trivial,Tryz.st213,trivial⟩,Tryz.st269,trivial⟩⟩⟩
def fnx (f:Func):FN:=⟨f.body.getD .skip,f.ntmps,f.results.toList⟩
noncomputable def Pn:BT FN:=(.node (.node (.node (.node (.node (.node (.node .leaf 17 (fnx Tryz.f17) .leaf) 31 (fnx Tryz.f31) .leaf) 32 (fnx Tryz.f32) (.node .leaf 37 (fnx Tryz.f37) .leaf)) 39 (fnx Tryz.f39) (.node (.node .leaf 44 (fnx Tryz.f44) .leaf) 61 (fnx Tryz.f61) (.node .leaf 62 (fnx Tryz.f62) .leaf))) 63 (fnx Tryz.f63) (.node (.node (.node .leaf 64 (fnx Tryz.f64) .leaf) 65 (fnx Tryz.f65) (.node .leaf 66 (fnx Tryz.f66) .leaf)) 69 (fnx Tryz.f69) (.node (.node .leaf 72 (fnx Tryz.f72) .leaf) 80 (fnx Tryz.f80) (.node .leaf 81 (fnx Tryz.f81) .leaf)))) 89 (fnx Tryz.f89) (.node (.node (.node (.node (.node .leaf 106 (fnx Tryz.f106) .leaf) 108 (fnx Tryz.f108) .leaf) 109 (fnx Tryz.f109) (.node .leaf 110 (fnx Tryz.f110) .leaf)) 111 (fnx Tryz.f111) (.node (.node .leaf 113 (fnx Tryz.f113) .leaf) 119 (fnx Tryz.f119) (.node .leaf 128 (fnx Tryz.f128) .leaf))) 130 (fnx Tryz.f130) (.node (.node (.node .leaf 131 (fnx Tryz.f131) .leaf) 138 (fnx Tryz.f138) (.node .leaf 139 (fnx Tryz.f139) .leaf)) 140 (fnx Tryz.f140) (.node (.node .leaf 141 (fnx Tryz.f141) .leaf) 142 (fnx Tryz.f142) (.node .leaf 144 (fnx Tryz.f144) .leaf))))) 146 (fnx Tryz.f146) (.node (.node (.node (.node (.node (.node .leaf 147 (fnx Tryz.f147) .leaf) 148 (fnx Tryz.f148) .leaf) 150 (fnx Tryz.f150) (.node .leaf 151 (fnx Tryz.f151) .leaf)) 160 (fnx Tryz.f160) (.node (.node .leaf 161 (fnx Tryz.f161) .leaf) 162 (fnx Tryz.f162) (.node .leaf 163 (fnx Tryz.f163) .leaf))) 164 (fnx Tryz.f164) (.node (.node (.node .leaf 165 (fnx Tryz.f165) .leaf) 166 (fnx Tryz.f166) (.node .leaf 167 (fnx Tryz.f167) .leaf)) 168 (fnx Tryz.f168) (.node (.node .leaf 171 (fnx Tryz.f171) .leaf) 172 (fnx Tryz.f172) (.node .leaf 173 (fnx Tryz.f173) .leaf)))) 174 (fnx Tryz.f174) (.node (.node (.node (.node (.node .leaf 175 (fnx Tryz.f175) .leaf) 176 (fnx Tryz.f176) .leaf) 191 (fnx Tryz.f191) (.node .leaf 192 (fnx Tryz.f192) .leaf)) 193 (fnx Tryz.f193) (.node (.node .leaf 194 (fnx Tryz.f194) .leaf) 195 (fnx Tryz.f195) (.node .leaf 196 (fnx Tryz.f196) .leaf))) 201 (fnx Tryz.f201) (.node (.node (.node .leaf 202 (fnx Tryz.f202) .leaf) 203 (fnx Tryz.f203) (.node .leaf 204 (fnx Tryz.f204) .leaf)) 205 (fnx Tryz.f205) (.node (.node .leaf 206 (fnx Tryz.f206) .leaf) 216 (fnx Tryz.f216) (.node .leaf 217 (fnx Tryz.f217) .leaf))))))
def Pi (f:Nat)(x:FN):Prop:=∃ fn,Tryz.prog.funcs[f]? =some fn∧fn.body=some x.code∧(fn.name == "runtime.NumGoroutine")=false∧fn.ntmps=x.n∧fn.results.toList=x.res∧gX x.n x.code=true
def LE:Pn.All Pi:=⟨⟨⟨⟨⟨⟨⟨trivial,⟨Tryz.f17,Tryz.func17,ζ,ζ,ζ,ζ,ζ⟩,trivial⟩,⟨Tryz.f31,Tryz.func31,ζ,ζ,ζ,ζ,ζ⟩,trivial⟩,⟨Tryz.f32,Tryz.func32,ζ,ζ,ζ,ζ,ζ⟩,⟨trivial,⟨Tryz.f37,Tryz.func37,ζ,ζ,ζ,ζ,ζ⟩,trivial⟩⟩,⟨Tryz.f39,Tryz.func39,ζ,ζ,ζ,ζ,ζ⟩,⟨⟨trivial,⟨Tryz.f44,Tryz.func44,ζ,ζ,ζ,ζ,ζ⟩,trivial⟩,⟨Tryz.f61,Tryz.func61,ζ,ζ,ζ,ζ,ζ⟩,⟨trivial,⟨Tryz.f62,Tryz.func62,ζ,ζ,ζ,ζ,ζ⟩,trivial⟩⟩⟩,⟨Tryz.f63,Tryz.func63,ζ,ζ,ζ,ζ,ζ⟩,⟨⟨⟨trivial,⟨Tryz.f64,Tryz.func64,ζ,ζ,ζ,ζ,ζ⟩,trivial⟩,⟨Tryz.f65,Tryz.func65,ζ,ζ,ζ,ζ,ζ⟩,⟨trivial,⟨Tryz.f66,Tryz.func66,ζ,ζ,ζ,ζ,ζ⟩,trivial⟩⟩,⟨Tryz.f69,Tryz.func69,ζ,ζ,ζ,ζ,ζ⟩,⟨⟨trivial,⟨Tryz.f72,Tryz.func72,ζ,ζ,ζ,ζ,ζ⟩,trivial⟩,⟨Tryz.f80,Tryz.func80,ζ,ζ,ζ,ζ,ζ⟩,⟨trivial,⟨Tryz.f81,Tryz.func81,ζ,ζ,ζ,ζ,ζ⟩,trivial⟩⟩⟩⟩,⟨Tryz.f89,Tryz.func89,ζ,ζ,ζ,ζ,ζ⟩,⟨⟨⟨⟨⟨trivial,⟨Tryz.f106,Tryz.func106,ζ,ζ,ζ,ζ,ζ⟩,trivial⟩,⟨Tryz.f108,Tryz.func108,ζ,ζ,ζ,ζ,ζ⟩,trivial⟩,⟨Tryz.f109,Tryz.func109,ζ,ζ,ζ,ζ,ζ⟩,⟨trivial,⟨Tryz.f110,Tryz.func110,ζ,ζ,ζ,ζ,ζ⟩,trivial⟩⟩,⟨Tryz.f111,Tryz.func111,ζ,ζ,ζ,ζ,ζ⟩,⟨⟨trivial,⟨Tryz.f113,Tryz.func113,ζ,ζ,ζ,ζ,ζ⟩,trivial⟩,⟨Tryz.f119,Tryz.func119,ζ,ζ,ζ,ζ,ζ⟩,⟨trivial,⟨Tryz.f128,Tryz.func128,ζ,ζ,ζ,ζ,ζ⟩,trivial⟩⟩⟩,⟨Tryz.f130,Tryz.func130,ζ,ζ,ζ,ζ,ζ⟩,⟨⟨⟨trivial,⟨Tryz.f131,Tryz.func131,ζ,ζ,ζ,ζ,ζ⟩,trivial⟩,⟨Tryz.f138,Tryz.func138,ζ,ζ,ζ,ζ,ζ⟩,⟨trivial,⟨Tryz.f139,Tryz.func139,ζ,ζ,ζ,ζ,ζ⟩,trivial⟩⟩,⟨Tryz.f140,Tryz.func140,ζ,ζ,ζ,ζ,ζ⟩,⟨⟨trivial,⟨Tryz.f141,Tryz.func141,ζ,ζ,ζ,ζ,ζ⟩,trivial⟩,⟨Tryz.f142,Tryz.func142,ζ,ζ,ζ,ζ,ζ⟩,⟨trivial,⟨Tryz.f144,Tryz.func144,ζ,ζ,ζ,ζ,ζ⟩,trivial⟩⟩⟩⟩⟩,⟨Tryz.f146,Tryz.func146,ζ,ζ,ζ,ζ,ζ⟩,⟨⟨⟨⟨⟨⟨trivial,⟨Tryz.f147,Tryz.func147,ζ,ζ,ζ,ζ,ζ⟩,trivial⟩,⟨Tryz.f148,Tryz.func148,ζ,ζ,ζ,ζ,ζ⟩,trivial⟩,⟨Tryz.f150,Tryz.func150,ζ,ζ,ζ,ζ,ζ⟩,⟨trivial,⟨Tryz.f151,Tryz.func151,ζ,ζ,ζ,ζ,ζ⟩,trivial⟩⟩,⟨Tryz.f160,Tryz.func160,ζ,ζ,ζ,ζ,ζ⟩,⟨⟨trivial,⟨Tryz.f161,Tryz.func161,ζ,ζ,ζ,ζ,ζ⟩,trivial⟩,⟨Tryz.f162,Tryz.func162,ζ,ζ,ζ,ζ,ζ⟩,⟨trivial,⟨Tryz.f163,Tryz.func163,ζ,ζ,ζ,ζ,ζ⟩,trivial⟩⟩⟩,⟨Tryz.f164,Tryz.func164,ζ,ζ,ζ,ζ,ζ⟩,⟨⟨⟨trivial,⟨Tryz.f165,Tryz.func165,ζ,ζ,ζ,ζ,ζ⟩,trivial⟩,⟨Tryz.f166,Tryz.func166,ζ,ζ,ζ,ζ,ζ⟩,⟨trivial,⟨Tryz.f167,Tryz.func167,ζ,ζ,ζ,ζ,ζ⟩,trivial⟩⟩,⟨Tryz.f168,Tryz.func168,ζ,ζ,ζ,ζ,ζ⟩,⟨⟨trivial,⟨Tryz.f171,Tryz.func171,ζ,ζ,ζ,ζ,ζ⟩,trivial⟩,⟨Tryz.f172,Tryz.func172,ζ,ζ,ζ,ζ,ζ⟩,⟨trivial,⟨Tryz.f173,Tryz.func173,ζ,ζ,ζ,ζ,ζ⟩,trivial⟩⟩⟩⟩,⟨Tryz.f174,Tryz.func174,ζ,ζ,ζ,ζ,ζ⟩,⟨⟨⟨⟨⟨trivial,⟨Tryz.f175,Tryz.func175,ζ,ζ,ζ,ζ,ζ⟩,trivial⟩,⟨Tryz.f176,Tryz.func176,ζ,ζ,ζ,ζ,ζ⟩,trivial⟩,⟨Tryz.f191,Tryz.func191,ζ,ζ,ζ,ζ,ζ⟩,⟨trivial,⟨Tryz.f192,Tryz.func192,ζ,ζ,ζ,ζ,ζ⟩,trivial⟩⟩,⟨Tryz.f193,Tryz.func193,ζ,ζ,ζ,ζ,ζ⟩,⟨⟨trivial,⟨Tryz.f194,Tryz.func194,ζ,ζ,ζ,ζ,ζ⟩,trivial⟩,⟨Tryz.f195,Tryz.func195,ζ,ζ,ζ,ζ,ζ⟩,⟨trivial,⟨Tryz.f196,Tryz.func196,ζ,ζ,ζ,ζ,ζ⟩,trivial⟩⟩⟩,⟨Tryz.f201,Tryz.func201,ζ,ζ,ζ,ζ,ζ⟩,⟨⟨⟨trivial,⟨Tryz.f202,Tryz.func202,ζ,ζ,ζ,ζ,ζ⟩,trivial⟩,⟨Tryz.f203,Tryz.func203,ζ,ζ,ζ,ζ,ζ⟩,⟨trivial,⟨Tryz.f204,Tryz.func204,ζ,ζ,ζ,ζ,ζ⟩,trivial⟩⟩,⟨Tryz.f205,Tryz.func205,ζ,ζ,ζ,ζ,ζ⟩,⟨⟨trivial,⟨Tryz.f206,Tryz.func206,ζ,ζ,ζ,ζ,ζ⟩,trivial⟩,⟨Tryz.f216,Tryz.func216,ζ,ζ,ζ,ζ,ζ⟩,⟨trivial,⟨Tryz.f217,Tryz.func217,ζ,ζ,ζ,ζ,ζ⟩,trivial⟩⟩⟩⟩⟩⟩
def OI:BT (List Nat):=(.node (.node (.node (.node (.node (.node (.node .leaf 17 [0,1,5,6,2,3] .leaf) 31 [0,2,6,23,1,30,8,37,7,45,56,64,9,10,11,74,77,76,78,75,83,82,84,81,14,16,17,19,99,18,12,4,5] .leaf) 32 [0,1,3,9,23,4,10,28,34,2,37,36,38,35,12,13,46,51,50,52,49,15,17,62,71,16,18,19,79,6,7,8] (.node .leaf 37 [0,1,5,13,20,19,21,18,9,6,7,2,3,4] .leaf)) 39 [0,1,3,7,11,2] (.node (.node .leaf 44 [0,4,1] .leaf) 61 [0,1,10,13,12,14,5,24,4] (.node .leaf 62 [0,1,19,8,7,26,6,35,4,5] .leaf))) 63 [0,1,4,17,26,25,27,6,7,35,10,47,5,8,75,74,76,73,13,11,2,3] (.node (.node (.node .leaf 64 [0,8,7,9,6,5,3,2] .leaf) 65 [0,3,2,10,21,1,28,9,34,6,7] (.node .leaf 66 [1,10,9,11,8,0,7,5,4] .leaf)) 69 [0,1,6,21,2,3,8,32,7,9,14,52,11,12,68,13,73,83,15,98,17,103,10,16,117,4,5] (.node (.node .leaf 72 [0,2,5,1,7,6,23,36,35,37,34,9,45,8,4] .leaf) 80 [2,1,12,25,0,4,3,32,10,39,14,56,11,75,80,13,97,15,17,16,18,19,125,20] (.node .leaf 81 [0,2] .leaf)))) 89 [0,1,4] (.node (.node (.node (.node (.node .leaf 106 [0,1,11,6,7,18,27,40,4,5] .leaf) 108 [0,9,2,3] .leaf) 109 [0,1,2,3,8,9,23,4,12,33,11,38,10,43,42,44,41,14,50,55,16,80,15,5,6,7] (.node .leaf 110 [0,1,2,14,13,15,12,3,9,11,25,4,6,10,37,7] .leaf)) 111 [0,1,2,3,6,7,25,4,10,35,9,40,11,52,51,53,8,13,67,66,68,65,17,75,18,12,14,15,129,5] (.node (.node .leaf 113 [0,1,2,5,4,3,11,27,8,6,10,13,44,62,12,66,16,79,15,84,14,96,9] .leaf) 119 [1,8,2,14,9,3,0,34] (.node .leaf 128 [0,4,8,14,2] .leaf))) 130 [0,8,7,9,1,5,16,4] (.node (.node (.node .leaf 131 [0,8,7,9,1,5,16,4] .leaf) 138 [0] (.node .leaf 139 [0,1,19,3,25,32,31,33,30,7,8,43,9,52,55,5,66,4,69,72,2] .leaf)) 140 [0,1,19,18,20,17,26,25,27,8,9,10,13,46,51,12,58,11,5,6,2,3,4] (.node (.node .leaf 141 [0,2,1,4] .leaf) 142 [0,1,5,2] (.node .leaf 144 [0,3,1,2,7,6] .leaf))))) 146 [0,8,7,9,1,5,16,4] (.node (.node (.node (.node (.node (.node .leaf 147 [0,1,3] .leaf) 148 [0,1,3,13,22,26,25,27,24,5,8,43,7,4,47,57,2] .leaf) 150 [0,1,3,4,2,10,19,6,9,7,8] (.node .leaf 151 [0,1,2,3,4,9,5,10,28,6,11,14,48,13,53,12,60,15,16,82,81,83,80,19,88,93,17,101,109,132,20,7,8] .leaf)) 160 [0,1,7,12,20,19,21,18,4,25,5,34,39,6,47,2] (.node (.node .leaf 161 [0,1,3,9,22,2,4,10,29,11,37,12,13,14,53,16,62,15,18,74,17,6,7,8] .leaf) 162 [0,2,1,6,4] (.node .leaf 163 [0,1,9,8,10,7,5,14,3,2] .leaf))) 164 [0,1,3,7,2,17,6] (.node (.node (.node .leaf 165 [0,1,9,11,4] .leaf) 166 [0,2,1,4,5] (.node .leaf 167 [0,1,5,9,2,14,4] .leaf)) 168 [0,1,3,19,18,20,17,5,32,31,33,30,8,4,6,2] (.node (.node .leaf 171 [0,1,3,10,2,6,16,7,4,5] .leaf) 172 [0,1,3,8,19,4,26,2,9,32,11,41,56,55,57,54,12,13,15,10,103,6,7] (.node .leaf 173 [0,2,9,8,23,1,10,11,33,4,13,45,7,50,5,6] .leaf)))) 174 [0,1,4] (.node (.node (.node (.node (.node .leaf 175 [0,1,2,5,10,3,6,19,31,35,4] .leaf) 176 [0,6,14,22,12,1,2,3,4,5,15,33,16,65,18,17,13] .leaf) 191 [0,1,14,2] (.node .leaf 192 [0,2,9,14,5,23,31,35,34,36,33,7,8,45,6,59,1,74,4] .leaf)) 193 [0,1,5,4,15,3,6,25,42,2] (.node (.node .leaf 194 [0,2] .leaf) 195 [0,8,9,10,17,2,11,1,31,6,7] (.node .leaf 196 [1,0,3,4] .leaf))) 201 [0,2,1,3] (.node (.node (.node .leaf 202 [1,0,3] .leaf) 203 [0,1,5,4] (.node .leaf 204 [0,1,4] .leaf)) 205 [0,1,19,4,5,6] (.node (.node .leaf 206 [0,6,1,13,22,2,26,14,30,3,15,36,4,16,42,5,17,48,50,54,12] .leaf) 216 [0,1,4] (.node .leaf 217 [0,1,3] .leaf))))))
def Qm:FuncId→Nat→Bool:=λf d=>(Nat.beq f 63&&Nat.beq d 22)||(Nat.beq f 72&&Nat.beq d 19)||(Nat.beq f 106&&Nat.beq d 13)||(Nat.beq f 151&&Nat.beq d 20)||(Nat.beq f 172&&Nat.beq d 48)||(Nat.beq f 176&&Nat.beq d 18)||(Nat.beq f 193&&Nat.beq d 11)
def CM:FuncId→List AV→Option ((t:Ty)×TypeId×List t.den):=λf args=>bif Nat.beq f 35 then(match args with|[.one (.list (.int .i64) (x::xs))]=>if List.length xs≤1000 then some ⟨.int .i64,3,((x::xs:List Int):List (Ty.den (.int .i64)))⟩ else none|_=>none) else none
def Rt:FuncId→Nat→List PA:=λf id=>bif Nat.beq f 172&&Nat.beq id 17 then [.cell 12 9 Θ 3] else bif Nat.beq f 111&&Nat.beq id 23 then [.slot 15 Θ 3] else bif (Nat.beq f 151&&Nat.beq id 28)||(Nat.beq f 176&&Nat.beq id 9) then [.hole] else []
def Kt:FuncId→Bool:=λf=>Nat.beq f 12||Nat.beq f 203||Nat.beq f 204||Nat.beq f 144
noncomputable def xE (t:List (FuncId×List AV×AV)):XE:={T:=⟨LI.get,NN.get,NJ.get⟩,fn:=Pn.get,con:=Ia t,conO:=CM,own:=Qm,keep:=OI.get,nofz:=λf=>Nat.beq f 168,pre:=Rt,quiet:=Kt}
def bf {t:List (FuncId×List AV×AV)}(h:FD Tryz.prog t):XEok Tryz.prog (xE t):=by
 refine⟨⟨λ_ _ h=>BT.get_all LC h,λ_ _ h=>BT.get_all KS h,λ_ _ h=>BT.get_all LG h⟩,λ_ _ h=>BT.get_all (p:=Pi) LE h,λ_ _ _ h2=>Df h h2,λf args t e xs h2=>?_,ζ⟩
 ·unfold xE CM at h2
  simp only at h2
  cases e1:Nat.beq f 35 with
  |false=>rw[e1] at h2;cases h2
  |true=>
   rw[e1] at h2;have e2:f=35:=Nat.eq_of_beq_eq_true e1;subst e2;simp only[cond_true] at h2;split at h2
   ·rename_i x0 xs0
    split at h2
    ·rename_i hle
     simp only[Option.some.injEq,Sigma.mk.injEq] at h2;obtain⟨rfl,h3⟩:=h2;simp only[heq_eq_eq,Prod.mk.injEq] at h3;obtain⟨rfl,rfl⟩:=h3;exact yf (x0::xs0) η (by simp;omega)
    ·cases h2
   ·cases h2
def v0_:AV:=.agg [.int .i64 2,.int .i64 0,xW [[1,0],[1,0]],xW [[1,0],[1,2]]]
def v1_:AV:=.one (.int .i64 0)
def v2_:AV:=.agg [.list tN [(true,([],([],([],([],())))))]]
def v3_:AV:=.one (.int .i64 2)
def v4_:AV:=.agg [.int .i64 2,.list tN [(true,([],([],([],([],())))))]]
def v5_:AV:=.one (xL [])
def v6_:AV:=.one (.int .i64 64)
def v7_:AV:=.one (xW [[]])
def v8_:AV:=.agg [.int .i64 2,.list tN [(true,([],([],([],([],())))))],.int .i64 2,.nils]
def v9_:AV:=.one (xW [[],[0]])
def d8:AV:=.one (xL [0])
def y5:AV:=.agg [.int .i64 2,.nils]
def fJ:AV:=.one (.nils)
def eZ:AV:=.one (.bool false)
def di:AV:=.one (xL [1])
def yX:AV:=.one (xW [[0],[1]])
def Tz:AV:=.one (.list (.pair tL (.pair tI .unit)) ([([0],(0,())),([1],(0,()))]:Ty.den (.list (.pair tL (.pair tI .unit)))))
def TH:AV:=.agg [.int .i64 2,.list tT [([0],([1],()))]]
def mR:AV:=.agg [.int .i64 2,.list tT [([0],([1],())),([1],([0],()))]]
def vo:AV:=.agg [.int .i64 2,.list tN [(true,([],([],([],([],())))))],.int .i64 2,.list tT [([0],([1],())),([1],([0],()))]]
def dQ:AV:=.one (.bool true)
def OU:AV:=.agg [.int .i64 2,.int .i64 0,xW [[0,0]],xW [[1,0]]]
def Jv:AV:=.agg [.int .i64 2,.int .i64 0,xW [[0,0]],xW [[1,0]],xW [[]]]
def fF:AV:=.one (xL [0,1])
def yp:AV:=.one (xL [1,2])
def iK:AV:=.agg [.int .i64 2,.list tT [([1],([0],())),([0,1],([1,2],()))]]
def Tv:AV:=.agg [xL [],.int .i64 0,xL [1]]
def Dx:AV:=.agg [.int .i64 2,.list tN [(true,([],([],([],([],())))))],.int .i64 2,.list tT [([1],([0],())),([0,1],([1,2],()))]]
def ub:AV:=.one (xL [2])
def tV:AV:=.one (xW [[1]])
def mU:AV:=.agg [.list tN [(false,([],([1],([[0],[2]],([1,2],()))))),(true,([],([],([],([],()))))),(true,([0],([],([],([],())))))]]
def yI:AV:=.agg [.int .i64 2,.list tN [(false,([],([1],([[0],[2]],([1,2],()))))),(true,([],([],([],([],()))))),(true,([0],([],([],([],())))))]]
def w7:AV:=.agg [.int .i64 2,.list tN [(false,([],([1],([[0],[2]],([1,2],()))))),(true,([],([],([],([],()))))),(true,([0],([],([],([],())))))],.int .i64 2,.list tT [([1],([0],())),([0,1],([1,2],()))]]
def gT:AV:=.one (xL [1,1])
def gQ:AV:=.one (xL [0,0])
def jB:AV:=.one (xL [0,0,1])
def jD:AV:=.one (xL [0,1,1])
def wj:AV:=.one (xW [[1,1],[0,0,1],[0,1,1]])
def Tp:AV:=.agg [.int .i64 2,.list tT [([0,1],([1,2],())),([1,1],([0,0],()))]]
def xB:AV:=.one (xL [1,1,2])
def Th:AV:=.agg [.int .i64 2,.list tT [([0,1],([1,2],())),([1,1],([0,0],())),([0,0,1],([1,1,2],()))]]
def EA:AV:=.one (xL [1,2,0])
def iR:AV:=.agg [.int .i64 2,.list tT [([1,1],([0,0],())),([0,0,1],([1,1,2],())),([0,1,1],([1,2,0],()))]]
def ph:AV:=.agg [.int .i64 2,.list tN [(false,([],([1],([[0],[2]],([1,2],()))))),(true,([],([],([],([],()))))),(true,([0],([],([],([],())))))],.int .i64 2,.list tT [([1,1],([0,0],())),([0,0,1],([1,1,2],())),([0,1,1],([1,2,0],()))]]
def xN:AV:=.one (.int .i64 1)
def N8:AV:=.agg [.int .i64 2,.int .i64 0,xW [[1,0],[1,0]],xW [[1,0],[1,2]],xW [[],[0]]]
def A6:AV:=.one (.list tW ([[[1]],[[1]]]:Ty.den (.list tW)))
def DC:AV:=.agg [.int .i64 2,.int .i64 0,xW [[1,0],[1,1]],xW [[1,0],[1,2]]]
def za:FuncId×List AV×AV:=(16,[v0_],v1_)
def TE:FuncId×List AV×AV:=(138,[],v2_)
def TF:FuncId×List AV×AV:=(108,[v3_],.tup [v4_,v1_])
def N0:FuncId×List AV×AV:=(49,[v5_,v6_],v1_)
def Iv:FuncId×List AV×AV:=(38,[v7_],v5_)
def I4:FuncId×List AV×AV:=(163,[v2_],v7_)
def Oo:FuncId×List AV×AV:=(24,[v7_],v7_)
def nK:FuncId×List AV×AV:=(160,[v2_],v1_)
def vw:FuncId×List AV×AV:=(49,[v5_,v3_],v1_)
def Tt:FuncId×List AV×AV:=(139,[v8_],v1_)
def xJ:FuncId×List AV×AV:=(142,[v2_],v7_)
def mF:FuncId×List AV×AV:=(38,[v9_],d8)
def mm:FuncId×List AV×AV:=(49,[d8,v3_],v1_)
def P8:FuncId×List AV×AV:=(161,[v2_,y5,d8],.tup [v1_,fJ,v1_])
def Qc:FuncId×List AV×AV:=(171,[y5,d8],.tup [fJ,eZ])
def Mn:FuncId×List AV×AV:=(162,[v8_,d8],eZ)
def gL:FuncId×List AV×AV:=(38,[.one (xW [[],[1]])],di)
def mg:FuncId×List AV×AV:=(49,[di,v3_],v1_)
def P4:FuncId×List AV×AV:=(161,[v2_,y5,di],.tup [v1_,fJ,v1_])
def OE:FuncId×List AV×AV:=(171,[y5,di],.tup [fJ,eZ])
def Ml:FuncId×List AV×AV:=(162,[v8_,di],eZ)
def Ms:FuncId×List AV×AV:=(21,[yX],yX)
def M4:FuncId×List AV×AV:=(140,[v8_],.tup [Tz,yX,v1_])
def OW:FuncId×List AV×AV:=(109,[v4_,y5],.tup [v4_,yX,eZ,v1_])
def Oj:FuncId×List AV×AV:=(67,[v0_,d8],.tup [di,v1_])
def M7:FuncId×List AV×AV:=(145,[y5,.agg [xL [0],xL [1]]],.tup [TH,v1_])
def OG:FuncId×List AV×AV:=(67,[v0_,di],.tup [d8,v1_])
def Nr:FuncId×List AV×AV:=(145,[TH,.agg [xL [1],xL [0]]],.tup [mR,v1_])
def Oz:FuncId×List AV×AV:=(110,[v0_,y5,yX],.tup [mR,v1_])
def F9:FuncId×List AV×AV:=(139,[vo],v1_)
def NT:FuncId×List AV×AV:=(161,[v2_,mR,d8],.tup [v1_,fJ,v1_])
def MC:FuncId×List AV×AV:=(48,[d8,d8],dQ)
def xg:FuncId×List AV×AV:=(35,[di],di)
def Fv:FuncId×List AV×AV:=(171,[mR,d8],.tup [di,dQ])
def LW:FuncId×List AV×AV:=(162,[vo,d8],dQ)
def OX:FuncId×List AV×AV:=(161,[v2_,mR,di],.tup [v1_,fJ,v1_])
def PO:FuncId×List AV×AV:=(48,[d8,di],eZ)
def F7:FuncId×List AV×AV:=(48,[di,di],dQ)
def AF:FuncId×List AV×AV:=(35,[d8],d8)
def Fc:FuncId×List AV×AV:=(171,[mR,di],.tup [d8,dQ])
def Px:FuncId×List AV×AV:=(162,[vo,di],dQ)
def Fs:FuncId×List AV×AV:=(21,[fJ],.one (xW []))
def FB:FuncId×List AV×AV:=(140,[vo],.tup [Tz,.one (xW []),v1_])
def MA:FuncId×List AV×AV:=(109,[v4_,mR],.tup [v4_,fJ,dQ,v1_])
def PZ:FuncId×List AV×AV:=(110,[v0_,mR,fJ],.tup [mR,v1_])
def LJ:FuncId×List AV×AV:=(144,[vo,v5_,d8],di)
def PC:FuncId×List AV×AV:=(144,[vo,v5_,di],d8)
def Qa:FuncId×List AV×AV:=(16,[OU],v1_)
def MX:FuncId×List AV×AV:=(107,[OU,v1_,v5_],.tup [v5_,v1_,v1_])
def Gw:FuncId×List AV×AV:=(148,[Jv],v1_)
def PD:FuncId×List AV×AV:=(111,[v4_,mR],.tup [Jv,v1_])
def OL:FuncId×List AV×AV:=(112,[OU,v0_],.tup [fF,dQ,v1_])
def NL:FuncId×List AV×AV:=(67,[v0_,fF],.tup [yp,v1_])
def Mf:FuncId×List AV×AV:=(145,[mR,.agg [xL [0,1],xL [1,2]]],.tup [iK,v1_])
def NQ:FuncId×List AV×AV:=(110,[v0_,mR,.one (xW [[0,1]])],.tup [iK,v1_])
def sK:FuncId×List AV×AV:=(49,[fF,v3_],v1_)
def Mu:FuncId×List AV×AV:=(48,[di,fF],eZ)
def Pk:FuncId×List AV×AV:=(48,[fF,fF],dQ)
def GH:FuncId×List AV×AV:=(35,[yp],yp)
def sj:FuncId×List AV×AV:=(171,[iK,fF],.tup [yp,dQ])
def wg:FuncId×List AV×AV:=(171,[iK,di],.tup [d8,dQ])
def NE:FuncId×List AV×AV:=(38,[.one (xW [[],[0,1]])],fF)
def Fd:FuncId×List AV×AV:=(35,[v5_],v5_)
def Ot:FuncId×List AV×AV:=(150,[Jv,iK,fF],.tup [Tv,fJ,v1_])
def LQ:FuncId×List AV×AV:=(139,[Dx],v1_)
def Q5:FuncId×List AV×AV:=(161,[v2_,iK,d8],.tup [v1_,fJ,v1_])
def mb:FuncId×List AV×AV:=(38,[yX],fF)
def PN:FuncId×List AV×AV:=(162,[Dx,di],dQ)
def ND:FuncId×List AV×AV:=(162,[Dx,fF],dQ)
def Ng:FuncId×List AV×AV:=(144,[Dx,v5_,di],d8)
def Me:FuncId×List AV×AV:=(144,[Dx,d8,di],ub)
def G4:FuncId×List AV×AV:=(49,[di,v6_],v1_)
def Gd:FuncId×List AV×AV:=(49,[d8,v6_],v1_)
def Nw:FuncId×List AV×AV:=(38,[tV],di)
def Gr:FuncId×List AV×AV:=(38,[.one (xW [[0]])],d8)
def Oh:FuncId×List AV×AV:=(38,[.one (xW [[2]])],ub)
def rZ:FuncId×List AV×AV:=(47,[d8,ub],.one (.int .i64 (-1)))
def Nh:FuncId×List AV×AV:=(176,[v2_,v1_,di,d8,d8,ub],.tup [mU,v1_])
def OV:FuncId×List AV×AV:=(151,[v4_,iK,Tv],.tup [yI,fJ,v1_])
def P0:FuncId×List AV×AV:=(113,[vo,v0_,Jv,fF],.tup [w7,v1_])
def Gp:FuncId×List AV×AV:=(163,[mU],v9_)
def F4:FuncId×List AV×AV:=(24,[v9_],v9_)
def jx:FuncId×List AV×AV:=(160,[mU],v1_)
def LH:FuncId×List AV×AV:=(139,[w7],v1_)
def AM:FuncId×List AV×AV:=(142,[mU],v9_)
def BJ:FuncId×List AV×AV:=(47,[ub,ub],v1_)
def Ph:FuncId×List AV×AV:=(161,[mU,iK,d8],.tup [v3_,fJ,v1_])
def Oa:FuncId×List AV×AV:=(48,[di,d8],eZ)
def Q3:FuncId×List AV×AV:=(48,[fF,d8],dQ)
def Mz:FuncId×List AV×AV:=(171,[iK,d8],.tup [di,dQ])
def PS:FuncId×List AV×AV:=(162,[w7,d8],dQ)
def Av:FuncId×List AV×AV:=(38,[.one (xW [[1],[1]])],gT)
def B5:FuncId×List AV×AV:=(49,[gT,v3_],v1_)
def Nb:FuncId×List AV×AV:=(48,[di,gT],eZ)
def ML:FuncId×List AV×AV:=(48,[fF,gT],eZ)
def M1:FuncId×List AV×AV:=(171,[iK,gT],.tup [fJ,eZ])
def N3:FuncId×List AV×AV:=(161,[mU,iK,di],.tup [v1_,gT,v1_])
def Mk:FuncId×List AV×AV:=(162,[w7,di],dQ)
def xO:FuncId×List AV×AV:=(38,[.one (xW [[0],[0]])],gQ)
def F5:FuncId×List AV×AV:=(49,[gQ,v3_],v1_)
def uU:FuncId×List AV×AV:=(38,[.one (xW [[0,0],[1]])],jB)
def uQ:FuncId×List AV×AV:=(49,[jB,v3_],v1_)
def Ie:FuncId×List AV×AV:=(48,[di,jB],eZ)
def GU:FuncId×List AV×AV:=(48,[fF,jB],eZ)
def HY:FuncId×List AV×AV:=(171,[iK,jB],.tup [fJ,eZ])
def Hk:FuncId×List AV×AV:=(161,[mU,iK,gQ],.tup [v1_,jB,v1_])
def I0:FuncId×List AV×AV:=(48,[di,gQ],eZ)
def HL:FuncId×List AV×AV:=(48,[fF,gQ],eZ)
def JO:FuncId×List AV×AV:=(171,[iK,gQ],.tup [fJ,eZ])
def J3:FuncId×List AV×AV:=(162,[w7,gQ],eZ)
def uK:FuncId×List AV×AV:=(38,[.one (xW [[0,1],[1]])],jD)
def uY:FuncId×List AV×AV:=(49,[jD,v3_],v1_)
def Jj:FuncId×List AV×AV:=(48,[di,jD],eZ)
def Io:FuncId×List AV×AV:=(48,[fF,jD],eZ)
def Hf:FuncId×List AV×AV:=(171,[iK,jD],.tup [fJ,eZ])
def Jy:FuncId×List AV×AV:=(161,[mU,iK,fF],.tup [v1_,jD,v1_])
def HA:FuncId×List AV×AV:=(162,[w7,fF],dQ)
def Js:FuncId×List AV×AV:=(21,[.one (xW [[1,1],[0,0],[0,0,1],[0,1,1]])],wj)
def Hw:FuncId×List AV×AV:=(140,[w7],.tup [.one (.list (.pair tL (.pair tI .unit)) ([([0],(2,())),([1],(0,())),([0,0],(0,())),([0,1],(0,()))]:Ty.den (.list (.pair tL (.pair tI .unit))))),wj,v1_])
def JI:FuncId×List AV×AV:=(109,[yI,iK],.tup [yI,wj,eZ,v1_])
def AP:FuncId×List AV×AV:=(67,[v0_,gT],.tup [gQ,v1_])
def Iz:FuncId×List AV×AV:=(145,[iK,.agg [xL [1,1],xL [0,0]]],.tup [Tp,v1_])
def Am:FuncId×List AV×AV:=(67,[v0_,jB],.tup [xB,v1_])
def Iw:FuncId×List AV×AV:=(145,[Tp,.agg [xL [0,0,1],xL [1,1,2]]],.tup [Th,v1_])
def AR:FuncId×List AV×AV:=(67,[v0_,jD],.tup [EA,v1_])
def Ih:FuncId×List AV×AV:=(145,[Th,.agg [xL [0,1,1],xL [1,2,0]]],.tup [iR,v1_])
def Jt:FuncId×List AV×AV:=(110,[v0_,iK,wj],.tup [iR,v1_])
def AD:FuncId×List AV×AV:=(139,[ph],v1_)
def GW:FuncId×List AV×AV:=(48,[gT,fF],eZ)
def Ji:FuncId×List AV×AV:=(48,[jB,fF],eZ)
def ID:FuncId×List AV×AV:=(48,[jD,fF],dQ)
def uL:FuncId×List AV×AV:=(171,[iR,fF],.tup [yp,dQ])
def JC:FuncId×List AV×AV:=(161,[mU,iR,d8],.tup [v3_,fJ,v1_])
def Hh:FuncId×List AV×AV:=(48,[gT,d8],eZ)
def Jh:FuncId×List AV×AV:=(48,[jB,d8],dQ)
def AZ:FuncId×List AV×AV:=(171,[iR,d8],.tup [di,dQ])
def HI:FuncId×List AV×AV:=(162,[ph,d8],dQ)
def IN:FuncId×List AV×AV:=(48,[gT,gT],dQ)
def GJ:FuncId×List AV×AV:=(35,[gQ],gQ)
def J2:FuncId×List AV×AV:=(171,[iR,gT],.tup [gQ,dQ])
def AS:FuncId×List AV×AV:=(47,[ub,d8],xN)
def Bf:FuncId×List AV×AV:=(47,[d8,d8],v1_)
def Hn:FuncId×List AV×AV:=(161,[mU,iR,di],.tup [xN,fJ,v1_])
def Jc:FuncId×List AV×AV:=(48,[gT,di],dQ)
def Bk:FuncId×List AV×AV:=(171,[iR,di],.tup [d8,dQ])
def GL:FuncId×List AV×AV:=(162,[ph,di],dQ)
def Jq:FuncId×List AV×AV:=(48,[gT,jB],eZ)
def Jf:FuncId×List AV×AV:=(48,[jB,jB],dQ)
def GY:FuncId×List AV×AV:=(35,[xB],xB)
def HS:FuncId×List AV×AV:=(171,[iR,jB],.tup [xB,dQ])
def Ht:FuncId×List AV×AV:=(161,[mU,iR,gQ],.tup [v3_,fJ,v1_])
def HJ:FuncId×List AV×AV:=(48,[gT,gQ],eZ)
def J6:FuncId×List AV×AV:=(48,[jB,gQ],dQ)
def Ho:FuncId×List AV×AV:=(35,[gT],gT)
def AU:FuncId×List AV×AV:=(171,[iR,gQ],.tup [gT,dQ])
def Ig:FuncId×List AV×AV:=(162,[ph,gQ],dQ)
def IT:FuncId×List AV×AV:=(48,[gT,jD],eZ)
def JL:FuncId×List AV×AV:=(48,[jB,jD],eZ)
def IX:FuncId×List AV×AV:=(48,[jD,jD],dQ)
def JR:FuncId×List AV×AV:=(35,[EA],EA)
def IZ:FuncId×List AV×AV:=(171,[iR,jD],.tup [EA,dQ])
def IQ:FuncId×List AV×AV:=(161,[mU,iR,fF],.tup [xN,fJ,v1_])
def Iy:FuncId×List AV×AV:=(162,[ph,fF],dQ)
def Al:FuncId×List AV×AV:=(140,[ph],.tup [.one (.list (.pair tL (.pair tI .unit)) ([([0],(2,())),([1],(1,())),([0,0],(2,())),([0,1],(1,()))]:Ty.den (.list (.pair tL (.pair tI .unit))))),.one (xW []),v1_])
def JS:FuncId×List AV×AV:=(109,[yI,iR],.tup [yI,fJ,dQ,v1_])
def Hd:FuncId×List AV×AV:=(110,[v0_,iR,fJ],.tup [iR,v1_])
def GN:FuncId×List AV×AV:=(144,[ph,v5_,d8],di)
def HD:FuncId×List AV×AV:=(144,[ph,v5_,di],d8)
def JD:FuncId×List AV×AV:=(144,[ph,d8,d8],di)
def IL:FuncId×List AV×AV:=(144,[ph,d8,di],ub)
def AX:FuncId×List AV×AV:=(107,[v0_,v1_,v5_],.tup [v5_,v1_,v1_])
def Ba:FuncId×List AV×AV:=(107,[v0_,v1_,d8],.tup [di,xN,v1_])
def J1:FuncId×List AV×AV:=(148,[N8],v1_)
def Hy:FuncId×List AV×AV:=(111,[yI,iR],.tup [N8,v1_])
def GK:FuncId×List AV×AV:=(112,[v0_,v0_],.tup [v5_,eZ,v1_])
def SD:FuncId×List AV×AV:=(69,[v0_],.tup [N8,iR,v3_,v1_])
def He:FuncId×List AV×AV:=(5,[v0_],.tup [v0_,v1_])
def HG:FuncId×List AV×AV:=(49,[fJ,v3_],v1_)
def IV:FuncId×List AV×AV:=(35,[fJ],fJ)
def Ju:FuncId×List AV×AV:=(62,[v3_,xN],.tup [.one (xW [[],[0],[1]]),v1_])
def HH:FuncId×List AV×AV:=(74,[v0_],dQ)
def IG:FuncId×List AV×AV:=(41,[v0_,v1_,xN],.tup [di,dQ,v1_])
def Ij:FuncId×List AV×AV:=(24,[tV],tV)
def IY:FuncId×List AV×AV:=(63,[v0_],.tup [A6,v1_])
def HR:FuncId×List AV×AV:=(38,[.one (xW [[],[]])],v5_)
def Jz:FuncId×List AV×AV:=(65,[v0_,A6,v5_],.tup [tV,v1_])
def HQ:FuncId×List AV×AV:=(65,[v0_,A6,d8],.tup [tV,v1_])
def Jg:FuncId×List AV×AV:=(107,[v0_,v1_,di],.tup [d8,v1_,v1_])
def I2:FuncId×List AV×AV:=(65,[v0_,A6,di],.tup [tV,v1_])
def JA:FuncId×List AV×AV:=(38,[.one (xW [[0],[]])],d8)
def GV:FuncId×List AV×AV:=(107,[v0_,v1_,gQ],.tup [gT,xN,v1_])
def Jr:FuncId×List AV×AV:=(65,[v0_,A6,gQ],.tup [tV,v1_])
def H7:FuncId×List AV×AV:=(107,[v0_,v1_,fF],.tup [yp,v1_,v1_])
def H8:FuncId×List AV×AV:=(65,[v0_,A6,fF],.tup [tV,v1_])
def HV:FuncId×List AV×AV:=(21,[.one (xW [[1],[0,1],[1,1],[0,1],[0,0,1],[0,1,1]])],wj)
def Su:FuncId×List AV×AV:=(31,[v0_,v1_],.tup [wj,v1_])
def I3:FuncId×List AV×AV:=(16,[DC],v1_)
def JJ:FuncId×List AV×AV:=(67,[DC,gT],.tup [gQ,v1_])
def Hc:FuncId×List AV×AV:=(68,[gQ,gQ],v3_)
def JQ:FuncId×List AV×AV:=(67,[DC,jB],.tup [xB,v1_])
def Hl:FuncId×List AV×AV:=(68,[xB,xB],.one (.int .i64 3))
def HZ:FuncId×List AV×AV:=(67,[DC,jD],.tup [.one (xL [1,2,2]),v1_])
def IH:FuncId×List AV×AV:=(68,[EA,.one (xL [1,2,2])],v3_)
def Jn:FuncId×List AV×AV:=(38,[.one (xW [[0,1,1]])],jD)
def Rb:FuncId×List AV×AV:=(32,[v0_,DC,wj],.tup [jD,eZ,v1_])
def toP {P:Program}{f:FuncId}{a a2:List AV}{r r2:AV}(h:aY P f a r)(hl:xo a2 a=true)(e:r=r2):aY P f a2 r2:=e▸vg hl h
def DM:EP Tryz.prog za:=toP (fo ⟨2,0,[[1,0],[1,0]],[[1,0],[1,2]]⟩) ζ ζ
def Vo:EP Tryz.prog TE:=aO (n:=3000) (bf (t:=[]) trivial) ζ
def Vb:EP Tryz.prog TF:=aO (n:=3000) (bf (t:=[TE]) ⟨Vo,trivial⟩) ζ
def Tn:EP Tryz.prog N0:=toP (eK [] 64) ζ ζ
def N1:EP Tryz.prog Iv:=toP (dK [[]] δ) ζ ζ
def OH:EP Tryz.prog I4:=aO (n:=3000) (bf (t:=[Iv]) ⟨N1,trivial⟩) ζ
def Tm:EP Tryz.prog Oo:=toP (iD [[]] δ δ) ζ (congrArg (λl=>AV.one (xW l)) (v4 (L:=[[]]) ζ))
def pj:EP Tryz.prog nK:=aO (n:=3000) (bf (t:=[Oo,I4,N0]) ⟨Tm,OH,Tn,trivial⟩) ζ
def A7:EP Tryz.prog vw:=toP (eK [] 2) ζ ζ
def Vg:EP Tryz.prog Tt:=aO (n:=3000) (bf (t:=[vw,nK]) ⟨A7,pj,trivial⟩) ζ
def BV:EP Tryz.prog xJ:=aO (n:=3000) (bf (t:=[Oo,I4,nK]) ⟨Tm,OH,pj,trivial⟩) ζ
def nT:EP Tryz.prog mF:=toP (dK [[],[0]] δ) ζ ζ
def nJ:EP Tryz.prog mm:=toP (eK [0] 2) ζ ζ
def UY:EP Tryz.prog P8:=aO (n:=3000) (bf (t:=[mm,nK]) ⟨nJ,pj,trivial⟩) ζ
def UX:EP Tryz.prog Qc:=aO (n:=3000) (bf (t:=[]) trivial) ζ
def TY:EP Tryz.prog Mn:=aO (n:=3000) (bf (t:=[Qc]) ⟨UX,trivial⟩) ζ
def i9:EP Tryz.prog gL:=toP (dK [[],[1]] δ) ζ ζ
def mY:EP Tryz.prog mg:=toP (eK [1] 2) ζ ζ
def TN:EP Tryz.prog P4:=aO (n:=3000) (bf (t:=[mg,nK]) ⟨mY,pj,trivial⟩) ζ
def UU:EP Tryz.prog OE:=aO (n:=3000) (bf (t:=[]) trivial) ζ
def UV:EP Tryz.prog Ml:=aO (n:=3000) (bf (t:=[OE]) ⟨UU,trivial⟩) ζ
def UZ:EP Tryz.prog Ms:=toP (ox [[0],[1]] δ δ) ζ (congrArg (λl=>AV.one (xW l)) (uG [[0],[1]] [[0],[1]] ζ ζ))
def TM:EP Tryz.prog M4:=aO (n:=3000) (bf (t:=[Ms,Ml,P4,gL,Mn,P8,mF,xJ]) ⟨UZ,UV,TN,i9,TY,UY,nT,BV,trivial⟩) ζ
def UQ:EP Tryz.prog OW:=aO (n:=3000) (bf (t:=[M4,Tt]) ⟨TM,Vg,trivial⟩) ζ
def UA:EP Tryz.prog Oj:=toP (jL ⟨2,0,[[1,0],[1,0]],[[1,0],[1,2]]⟩ [0]) ζ ζ
def Uh:EP Tryz.prog M7:=toP (oY 2 [] ([0],([1],())) (kd ζ) (oD ζ) δ) ζ ζ
def TX:EP Tryz.prog OG:=toP (jL ⟨2,0,[[1,0],[1,0]],[[1,0],[1,2]]⟩ [1]) ζ ζ
def TZ:EP Tryz.prog Nr:=toP (oY 2 [([0],([1],()))] ([1],([0],())) (kd ζ) (oD ζ) δ) ζ ζ
def U1:EP Tryz.prog Oz:=aO (n:=3000) (bf (t:=[Nr,OG,M7,Oj]) ⟨TZ,TX,Uh,UA,trivial⟩) ζ
def NY:EP Tryz.prog F9:=aO (n:=3000) (bf (t:=[vw,nK]) ⟨A7,pj,trivial⟩) ζ
def UM:EP Tryz.prog NT:=aO (n:=3000) (bf (t:=[mm,nK]) ⟨nJ,pj,trivial⟩) ζ
def Ua:EP Tryz.prog MC:=toP (cL [0] [0] δ δ) ζ ζ
def BI:EP Tryz.prog xg:=toP (fu [1] δ) ζ ζ
def Qd:EP Tryz.prog Fv:=aO (n:=3000) (bf (t:=[xg,MC]) ⟨BI,Ua,trivial⟩) ζ
def U5:EP Tryz.prog LW:=aO (n:=3000) (bf (t:=[Fv]) ⟨Qd,trivial⟩) ζ
def U0:EP Tryz.prog OX:=aO (n:=3000) (bf (t:=[mg,nK]) ⟨mY,pj,trivial⟩) ζ
def Uo:EP Tryz.prog PO:=toP (cL [0] [1] δ δ) ζ ζ
def Pm:EP Tryz.prog F7:=toP (cL [1] [1] δ δ) ζ ζ
def Gz:EP Tryz.prog AF:=toP (fu [0] δ) ζ ζ
def M9:EP Tryz.prog Fc:=aO (n:=3000) (bf (t:=[AF,F7,PO]) ⟨Gz,Pm,Uo,trivial⟩) ζ
def UP:EP Tryz.prog Px:=aO (n:=3000) (bf (t:=[Fc]) ⟨M9,trivial⟩) ζ
def PW:EP Tryz.prog Fs:=toP (ox [] δ δ) ζ (congrArg (λl=>AV.one (xW l)) (uG [] [] ζ ζ))
def PL:EP Tryz.prog FB:=aO (n:=3000) (bf (t:=[Fs,Px,OX,gL,LW,NT,mF,xJ]) ⟨PW,UP,U0,i9,U5,UM,nT,BV,trivial⟩) ζ
def UW:EP Tryz.prog MA:=aO (n:=3000) (bf (t:=[FB,F9]) ⟨PL,NY,trivial⟩) ζ
def V1:EP Tryz.prog PZ:=aO (n:=3000) (bf (t:=[]) trivial) ζ
def Ub:EP Tryz.prog LJ:=aO (n:=3000) (bf (t:=[Fv,mF]) ⟨Qd,nT,trivial⟩) ζ
def UF:EP Tryz.prog PC:=aO (n:=3000) (bf (t:=[Fc,gL]) ⟨M9,i9,trivial⟩) ζ
def Ut:EP Tryz.prog Qa:=toP (fo ⟨2,0,[[0,0]],[[1,0]]⟩) ζ ζ
def Uj:EP Tryz.prog MX:=toP (m4 ⟨2,0,[[0,0]],[[1,0]]⟩ 0 []) ζ ζ
def Nd:EP Tryz.prog Gw:=aO (n:=3000) (bf (t:=[MX,Qa]) ⟨Uj,Ut,trivial⟩) ζ
def U8:EP Tryz.prog PD:=aO (n:=3000) (bf (t:=[Gw,PC,LJ,xJ,FB,F9]) ⟨Nd,UF,Ub,BV,PL,NY,trivial⟩) ζ
def Uf:EP Tryz.prog OL:=toP (Bg ⟨2,0,[[0,0]],[[1,0]]⟩ ⟨2,0,[[1,0],[1,0]],[[1,0],[1,2]]⟩) ζ ζ
def U3:EP Tryz.prog NL:=toP (jL ⟨2,0,[[1,0],[1,0]],[[1,0],[1,2]]⟩ [0,1]) ζ ζ
def UH:EP Tryz.prog Mf:=toP (oY 2 [([0],([1],())),([1],([0],()))] ([0,1],([1,2],())) (kd ζ) (oD ζ) δ) ζ ζ
def V5:EP Tryz.prog NQ:=aO (n:=3000) (bf (t:=[Mf,NL]) ⟨UH,U3,trivial⟩) ζ
def xu:EP Tryz.prog sK:=toP (eK [0,1] 2) ζ ζ
def TQ:EP Tryz.prog Mu:=toP (cL [1] [0,1] δ δ) ζ ζ
def UJ:EP Tryz.prog Pk:=toP (cL [0,1] [0,1] δ δ) ζ ζ
def M6:EP Tryz.prog GH:=toP (fu [1,2] δ) ζ ζ
def y3:EP Tryz.prog sj:=aO (n:=3000) (bf (t:=[GH,Pk,Mu]) ⟨M6,UJ,TQ,trivial⟩) ζ
def AA:EP Tryz.prog wg:=aO (n:=3000) (bf (t:=[AF,F7]) ⟨Gz,Pm,trivial⟩) ζ
def UG:EP Tryz.prog NE:=toP (dK [[],[0,1]] δ) ζ ζ
def Pa:EP Tryz.prog Fd:=toP (fu [] δ) ζ ζ
def Ux:EP Tryz.prog Ot:=aO (n:=3000) (bf (t:=[xg,Fd,NE,wg,gL,sj,sK,Gw]) ⟨BI,Pa,UG,AA,i9,y3,xu,Nd,trivial⟩) ζ
def UO:EP Tryz.prog LQ:=aO (n:=3000) (bf (t:=[vw,nK]) ⟨A7,pj,trivial⟩) ζ
def UL:EP Tryz.prog Q5:=aO (n:=3000) (bf (t:=[mm,nK]) ⟨nJ,pj,trivial⟩) ζ
def nU:EP Tryz.prog mb:=toP (dK [[0],[1]] δ) ζ ζ
def UR:EP Tryz.prog PN:=aO (n:=3000) (bf (t:=[wg]) ⟨AA,trivial⟩) ζ
def TR:EP Tryz.prog ND:=aO (n:=3000) (bf (t:=[sj]) ⟨y3,trivial⟩) ζ
def TT:EP Tryz.prog Ng:=aO (n:=3000) (bf (t:=[wg,gL]) ⟨AA,i9,trivial⟩) ζ
def V6:EP Tryz.prog Me:=aO (n:=3000) (bf (t:=[sj,mb]) ⟨y3,nU,trivial⟩) ζ
def N9:EP Tryz.prog G4:=toP (eK [1] 64) ζ ζ
def Mw:EP Tryz.prog Gd:=toP (eK [0] 64) ζ ζ
def Uz:EP Tryz.prog Nw:=toP (dK [[1]] δ) ζ ζ
def Q4:EP Tryz.prog Gr:=toP (dK [[0]] δ) ζ ζ
def V3:EP Tryz.prog Oh:=toP (dK [[2]] δ) ζ ζ
def wy:EP Tryz.prog rZ:=toP (qr [0] [2]) ζ ζ
def Ud:EP Tryz.prog Nh:=aO (n:=3000) (bf (t:=[rZ,Oh,Gr,Nw,Fd,Iv,I4,Gd,G4,nK]) ⟨wy,V3,Q4,Uz,Pa,N1,OH,Mw,N9,pj,trivial⟩) ζ
def UD:EP Tryz.prog OV:=aO (n:=3000) (bf (t:=[Nh,Me,Ng,xJ,ND,PN,mb,gL,Q5,mF,mg,vw,LQ]) ⟨Ud,V6,TT,BV,TR,UR,nU,i9,UL,nT,mY,A7,UO,trivial⟩) ζ
def U2:EP Tryz.prog P0:=aO (n:=3000) (bf (t:=[OV,Ot,NQ]) ⟨UD,Ux,V5,trivial⟩) ζ
def N4:EP Tryz.prog Gp:=aO (n:=3000) (bf (t:=[Gr,Iv]) ⟨Q4,N1,trivial⟩) ζ
def Pt:EP Tryz.prog F4:=toP (iD [[],[0]] δ δ) ζ (congrArg (λl=>AV.one (xW l)) (v4 (L:=[[],[0]]) ζ))
def kj:EP Tryz.prog jx:=aO (n:=3000) (bf (t:=[F4,Gp,Gd,N0,rZ,G4]) ⟨Pt,N4,Mw,Tn,wy,N9,trivial⟩) ζ
def UC:EP Tryz.prog LH:=aO (n:=3000) (bf (t:=[mm,mg,vw,jx]) ⟨nJ,mY,A7,kj,trivial⟩) ζ
def Gi:EP Tryz.prog AM:=aO (n:=3000) (bf (t:=[F4,Gp,jx]) ⟨Pt,N4,kj,trivial⟩) ζ
def Gv:EP Tryz.prog BJ:=toP (qr [2] [2]) ζ ζ
def V7:EP Tryz.prog Ph:=aO (n:=3000) (bf (t:=[rZ,BJ,sj,sK,mb,mm,jx]) ⟨wy,Gv,y3,xu,nU,nJ,kj,trivial⟩) ζ
def Up:EP Tryz.prog Oa:=toP (cL [1] [0] δ δ) ζ ζ
def UE:EP Tryz.prog Q3:=toP (cL [0,1] [0] δ δ) ζ ζ
def TV:EP Tryz.prog Mz:=aO (n:=3000) (bf (t:=[xg,Q3,Oa]) ⟨BI,UE,Up,trivial⟩) ζ
def TP:EP Tryz.prog PS:=aO (n:=3000) (bf (t:=[Mz]) ⟨TV,trivial⟩) ζ
def FF:EP Tryz.prog Av:=toP (dK [[1],[1]] δ) ζ ζ
def ET:EP Tryz.prog B5:=toP (eK [1,1] 2) ζ ζ
def UB:EP Tryz.prog Nb:=toP (cL [1] [1,1] δ δ) ζ ζ
def Ug:EP Tryz.prog ML:=toP (cL [0,1] [1,1] δ δ) ζ ζ
def UI:EP Tryz.prog M1:=aO (n:=3000) (bf (t:=[ML,Nb]) ⟨Ug,UB,trivial⟩) ζ
def Ur:EP Tryz.prog N3:=aO (n:=3000) (bf (t:=[M1,B5,Av,mg,jx]) ⟨UI,ET,FF,mY,kj,trivial⟩) ζ
def TS:EP Tryz.prog Mk:=aO (n:=3000) (bf (t:=[wg]) ⟨AA,trivial⟩) ζ
def Bl:EP Tryz.prog xO:=toP (dK [[0],[0]] δ) ζ ζ
def PE:EP Tryz.prog F5:=toP (eK [0,0] 2) ζ ζ
def BD:EP Tryz.prog uU:=toP (dK [[0,0],[1]] δ) ζ ζ
def B6:EP Tryz.prog uQ:=toP (eK [0,0,1] 2) ζ ζ
def T6:EP Tryz.prog Ie:=toP (cL [1] [0,0,1] δ δ) ζ ζ
def Sp:EP Tryz.prog GU:=toP (cL [0,1] [0,0,1] δ δ) ζ ζ
def RT:EP Tryz.prog HY:=aO (n:=3000) (bf (t:=[GU,Ie]) ⟨Sp,T6,trivial⟩) ζ
def QS:EP Tryz.prog Hk:=aO (n:=3000) (bf (t:=[HY,uQ,uU,F5,jx]) ⟨RT,B6,BD,PE,kj,trivial⟩) ζ
def Ri:EP Tryz.prog I0:=toP (cL [1] [0,0] δ δ) ζ ζ
def T9:EP Tryz.prog HL:=toP (cL [0,1] [0,0] δ δ) ζ ζ
def QQ:EP Tryz.prog JO:=aO (n:=3000) (bf (t:=[HL,I0]) ⟨T9,Ri,trivial⟩) ζ
def Rm:EP Tryz.prog J3:=aO (n:=3000) (bf (t:=[JO]) ⟨QQ,trivial⟩) ζ
def Bv:EP Tryz.prog uK:=toP (dK [[0,1],[1]] δ) ζ ζ
def Aw:EP Tryz.prog uY:=toP (eK [0,1,1] 2) ζ ζ
def So:EP Tryz.prog Jj:=toP (cL [1] [0,1,1] δ δ) ζ ζ
def RF:EP Tryz.prog Io:=toP (cL [0,1] [0,1,1] δ δ) ζ ζ
def SL:EP Tryz.prog Hf:=aO (n:=3000) (bf (t:=[Io,Jj]) ⟨RF,So,trivial⟩) ζ
def QM:EP Tryz.prog Jy:=aO (n:=3000) (bf (t:=[Hf,uY,uK,sK,jx]) ⟨SL,Aw,Bv,xu,kj,trivial⟩) ζ
def QZ:EP Tryz.prog HA:=aO (n:=3000) (bf (t:=[sj]) ⟨y3,trivial⟩) ζ
def T3:EP Tryz.prog Js:=toP (ox [[1,1],[0,0],[0,0,1],[0,1,1]] δ δ) ζ (congrArg (λl=>AV.one (xW l)) (uG [[0,0],[0,0,1],[0,1,1],[1,1]] [[1,1],[0,0,1],[0,1,1]] ζ ζ))
def SF:EP Tryz.prog Hw:=aO (n:=3000) (bf (t:=[Js,HA,Jy,mb,J3,Hk,xO,Mk,N3,gL,PS,Ph,mF,AM]) ⟨T3,QZ,QM,nU,Rm,QS,Bl,TS,Ur,i9,TP,V7,nT,Gi,trivial⟩) ζ
def Sk:EP Tryz.prog JI:=aO (n:=3000) (bf (t:=[Hw,LH]) ⟨SF,UC,trivial⟩) ζ
def IB:EP Tryz.prog AP:=toP (jL ⟨2,0,[[1,0],[1,0]],[[1,0],[1,2]]⟩ [1,1]) ζ ζ
def Sf:EP Tryz.prog Iz:=toP (oY 2 [([1],([0],())),([0,1],([1,2],()))] ([1,1],([0,0],())) (kd ζ) (oD ζ) δ) ζ ζ
def IK:EP Tryz.prog Am:=toP (jL ⟨2,0,[[1,0],[1,0]],[[1,0],[1,2]]⟩ [0,0,1]) ζ ζ
def RK:EP Tryz.prog Iw:=toP (oY 2 [([0,1],([1,2],())),([1,1],([0,0],()))] ([0,0,1],([1,1,2],())) (kd ζ) (oD ζ) δ) ζ ζ
def JP:EP Tryz.prog AR:=toP (jL ⟨2,0,[[1,0],[1,0]],[[1,0],[1,2]]⟩ [0,1,1]) ζ ζ
def Sj:EP Tryz.prog Ih:=toP (oY 2 [([0,1],([1,2],())),([1,1],([0,0],())),([0,0,1],([1,1,2],()))] ([0,1,1],([1,2,0],())) (kd ζ) (oD ζ) δ) ζ ζ
def QP:EP Tryz.prog Jt:=aO (n:=3000) (bf (t:=[Ih,AR,Iw,Am,Iz,AP]) ⟨Sj,JP,RK,IK,Sf,IB,trivial⟩) ζ
def GX:EP Tryz.prog AD:=aO (n:=3000) (bf (t:=[mm,mg,vw,jx]) ⟨nJ,mY,A7,kj,trivial⟩) ζ
def Qi:EP Tryz.prog GW:=toP (cL [1,1] [0,1] δ δ) ζ ζ
def Rr:EP Tryz.prog Ji:=toP (cL [0,0,1] [0,1] δ δ) ζ ζ
def RD:EP Tryz.prog ID:=toP (cL [0,1,1] [0,1] δ δ) ζ ζ
def BG:EP Tryz.prog uL:=aO (n:=3000) (bf (t:=[GH,ID,Ji,GW]) ⟨M6,RD,Rr,Qi,trivial⟩) ζ
def SK:EP Tryz.prog JC:=aO (n:=3000) (bf (t:=[rZ,BJ,uL,sK,mb,mm,jx]) ⟨wy,Gv,BG,xu,nU,nJ,kj,trivial⟩) ζ
def T8:EP Tryz.prog Hh:=toP (cL [1,1] [0] δ δ) ζ ζ
def SP:EP Tryz.prog Jh:=toP (cL [0,0,1] [0] δ δ) ζ ζ
def JT:EP Tryz.prog AZ:=aO (n:=3000) (bf (t:=[xg,Jh,Hh]) ⟨BI,SP,T8,trivial⟩) ζ
def Sc:EP Tryz.prog HI:=aO (n:=3000) (bf (t:=[AZ]) ⟨JT,trivial⟩) ζ
def S9:EP Tryz.prog IN:=toP (cL [1,1] [1,1] δ δ) ζ ζ
def SX:EP Tryz.prog GJ:=toP (fu [0,0] δ) ζ ζ
def QE:EP Tryz.prog J2:=aO (n:=3000) (bf (t:=[GJ,IN]) ⟨SX,S9,trivial⟩) ζ
def IE:EP Tryz.prog AS:=toP (qr [2] [0]) ζ ζ
def Ix:EP Tryz.prog Bf:=toP (qr [0] [0]) ζ ζ
def SQ:EP Tryz.prog Hn:=aO (n:=3000) (bf (t:=[Bf,AS,J2,B5,Av,mg,jx]) ⟨Ix,IE,QE,ET,FF,mY,kj,trivial⟩) ζ
def SW:EP Tryz.prog Jc:=toP (cL [1,1] [1] δ δ) ζ ζ
def I6:EP Tryz.prog Bk:=aO (n:=3000) (bf (t:=[AF,Jc]) ⟨Gz,SW,trivial⟩) ζ
def Ss:EP Tryz.prog GL:=aO (n:=3000) (bf (t:=[Bk]) ⟨I6,trivial⟩) ζ
def Qj:EP Tryz.prog Jq:=toP (cL [1,1] [0,0,1] δ δ) ζ ζ
def SY:EP Tryz.prog Jf:=toP (cL [0,0,1] [0,0,1] δ δ) ζ ζ
def QR:EP Tryz.prog GY:=toP (fu [1,1,2] δ) ζ ζ
def QJ:EP Tryz.prog HS:=aO (n:=3000) (bf (t:=[GY,Jf,Jq]) ⟨QR,SY,Qj,trivial⟩) ζ
def Qt:EP Tryz.prog Ht:=aO (n:=3000) (bf (t:=[rZ,BJ,HS,uQ,uU,F5,jx]) ⟨wy,Gv,QJ,B6,BD,PE,kj,trivial⟩) ζ
def Qr:EP Tryz.prog HJ:=toP (cL [1,1] [0,0] δ δ) ζ ζ
def Qs:EP Tryz.prog J6:=toP (cL [0,0,1] [0,0] δ δ) ζ ζ
def QC:EP Tryz.prog Ho:=toP (fu [1,1] δ) ζ ζ
def I7:EP Tryz.prog AU:=aO (n:=3000) (bf (t:=[Ho,J6,HJ]) ⟨QC,Qs,Qr,trivial⟩) ζ
def Rh:EP Tryz.prog Ig:=aO (n:=3000) (bf (t:=[AU]) ⟨I7,trivial⟩) ζ
def RO:EP Tryz.prog IT:=toP (cL [1,1] [0,1,1] δ δ) ζ ζ
def RE:EP Tryz.prog JL:=toP (cL [0,0,1] [0,1,1] δ δ) ζ ζ
def Rd:EP Tryz.prog IX:=toP (cL [0,1,1] [0,1,1] δ δ) ζ ζ
def RU:EP Tryz.prog JR:=toP (fu [1,2,0] δ) ζ ζ
def Sz:EP Tryz.prog IZ:=aO (n:=3000) (bf (t:=[JR,IX,JL,IT]) ⟨RU,Rd,RE,RO,trivial⟩) ζ
def QU:EP Tryz.prog IQ:=aO (n:=3000) (bf (t:=[Bf,AS,IZ,uY,uK,sK,jx]) ⟨Ix,IE,Sz,Aw,Bv,xu,kj,trivial⟩) ζ
def R2:EP Tryz.prog Iy:=aO (n:=3000) (bf (t:=[uL]) ⟨BG,trivial⟩) ζ
def HF:EP Tryz.prog Al:=aO (n:=3000) (bf (t:=[Fs,Iy,IQ,mb,Ig,Ht,xO,GL,Hn,gL,HI,JC,mF,AM]) ⟨PW,R2,QU,nU,Rh,Qt,Bl,Ss,SQ,i9,Sc,SK,nT,Gi,trivial⟩) ζ
def Qk:EP Tryz.prog JS:=aO (n:=3000) (bf (t:=[Al,AD]) ⟨HF,GX,trivial⟩) ζ
def QT:EP Tryz.prog Hd:=aO (n:=3000) (bf (t:=[]) trivial) ζ
def S8:EP Tryz.prog GN:=aO (n:=3000) (bf (t:=[AZ,mF]) ⟨JT,nT,trivial⟩) ζ
def QX:EP Tryz.prog HD:=aO (n:=3000) (bf (t:=[Bk,gL]) ⟨I6,i9,trivial⟩) ζ
def Si:EP Tryz.prog JD:=aO (n:=3000) (bf (t:=[AU,xO]) ⟨I7,Bl,trivial⟩) ζ
def Rs:EP Tryz.prog IL:=aO (n:=3000) (bf (t:=[uL,mb]) ⟨BG,nU,trivial⟩) ζ
def Im:EP Tryz.prog AX:=toP (m4 ⟨2,0,[[1,0],[1,0]],[[1,0],[1,2]]⟩ 0 []) ζ ζ
def Jm:EP Tryz.prog Ba:=toP (m4 ⟨2,0,[[1,0],[1,0]],[[1,0],[1,2]]⟩ 0 [0]) ζ ζ
def Rl:EP Tryz.prog J1:=aO (n:=3000) (bf (t:=[Ba,AX,za]) ⟨Jm,Im,DM,trivial⟩) ζ
def Sb:EP Tryz.prog Hy:=aO (n:=3000) (bf (t:=[J1,IL,JD,HD,GN,AM,Al,AD]) ⟨Rl,Rs,Si,QX,S8,Gi,HF,GX,trivial⟩) ζ
def S6:EP Tryz.prog GK:=toP (Bg ⟨2,0,[[1,0],[1,0]],[[1,0],[1,2]]⟩ ⟨2,0,[[1,0],[1,0]],[[1,0],[1,2]]⟩) ζ ζ
def S4:EP Tryz.prog SD:=aO (n:=3000) (bf (t:=[GK,Hy,Hd,JS,Jt,JI,P0,OL,PD,PZ,MA,Oz,OW,TF,za]) ⟨S6,Sb,QT,Qk,QP,Sk,U2,Uf,U8,V1,UW,U1,UQ,Vb,DM,trivial⟩) ζ
def T1:EP Tryz.prog He:=toP (sw ⟨2,0,[[1,0],[1,0]],[[1,0],[1,2]]⟩) ζ ζ
def Rv:EP Tryz.prog HG:=toP (eK [] 2) ζ ζ
def R3:EP Tryz.prog IV:=toP (Bu) ζ ζ
def RA:EP Tryz.prog Ju:=aO (n:=3000) (bf (t:=[mg,mm,IV,HG]) ⟨mY,nJ,R3,Rv,trivial⟩) ζ
def R6:EP Tryz.prog HH:=toP (yk ⟨2,0,[[1,0],[1,0]],[[1,0],[1,2]]⟩) ζ ζ
def Ql:EP Tryz.prog IG:=toP (LV ⟨2,0,[[1,0],[1,0]],[[1,0],[1,2]]⟩ 0 1) ζ ζ
def RY:EP Tryz.prog Ij:=toP (iD [[1]] δ δ) ζ (congrArg (λl=>AV.one (xW l)) (v4 (L:=[[1]]) ζ))
def QL:EP Tryz.prog IY:=aO (n:=3000) (bf (t:=[Ij,IG,HH,za]) ⟨RY,Ql,R6,DM,trivial⟩) ζ
def Qv:EP Tryz.prog HR:=toP (dK [[],[]] δ) ζ ζ
def QN:EP Tryz.prog Jz:=aO (n:=3000) (bf (t:=[gL,AX]) ⟨i9,Im,trivial⟩) ζ
def SG:EP Tryz.prog HQ:=aO (n:=3000) (bf (t:=[gL,Ba]) ⟨i9,Jm,trivial⟩) ζ
def R5:EP Tryz.prog Jg:=toP (m4 ⟨2,0,[[1,0],[1,0]],[[1,0],[1,2]]⟩ 0 [1]) ζ ζ
def QV:EP Tryz.prog I2:=aO (n:=3000) (bf (t:=[gL,Jg]) ⟨i9,R5,trivial⟩) ζ
def Sm:EP Tryz.prog JA:=toP (dK [[0],[]] δ) ζ ζ
def Qe:EP Tryz.prog GV:=toP (m4 ⟨2,0,[[1,0],[1,0]],[[1,0],[1,2]]⟩ 0 [0,0]) ζ ζ
def Tc:EP Tryz.prog Jr:=aO (n:=3000) (bf (t:=[gL,GV]) ⟨i9,Qe,trivial⟩) ζ
def Qy:EP Tryz.prog H7:=toP (m4 ⟨2,0,[[1,0],[1,0]],[[1,0],[1,2]]⟩ 0 [0,1]) ζ ζ
def Sn:EP Tryz.prog H8:=aO (n:=3000) (bf (t:=[gL,H7]) ⟨i9,Qy,trivial⟩) ζ
def Rw:EP Tryz.prog HV:=toP (ox [[1],[0,1],[1,1],[0,1],[0,0,1],[0,1,1]] δ δ) ζ (congrArg (λl=>AV.one (xW l)) (uG [[0,0,1],[0,1],[0,1,1],[1],[1,1]] [[1,1],[0,0,1],[0,1,1]] ζ ζ))
def Qo:EP Tryz.prog Su:=aO (n:=3000) (bf (t:=[HV,uK,H8,uU,Jr,xO,JA,Av,I2,mb,HQ,gL,Jz,HR,IY,Ju,mF,He,za]) ⟨Rw,Bv,Sn,BD,Tc,Bl,Sm,FF,QV,nU,SG,i9,QN,Qv,QL,RA,nT,T1,DM,trivial⟩) ζ
def R9:EP Tryz.prog I3:=toP (fo ⟨2,0,[[1,0],[1,1]],[[1,0],[1,2]]⟩) ζ ζ
def Qg:EP Tryz.prog JJ:=toP (jL ⟨2,0,[[1,0],[1,1]],[[1,0],[1,2]]⟩ [1,1]) ζ ζ
def Qn:EP Tryz.prog Hc:=toP (mH [0,0] [0,0] δ δ) ζ ζ
def RJ:EP Tryz.prog JQ:=toP (jL ⟨2,0,[[1,0],[1,1]],[[1,0],[1,2]]⟩ [0,0,1]) ζ ζ
def Tg:EP Tryz.prog Hl:=toP (mH [1,1,2] [1,1,2] δ δ) ζ ζ
def QO:EP Tryz.prog HZ:=toP (jL ⟨2,0,[[1,0],[1,1]],[[1,0],[1,2]]⟩ [0,1,1]) ζ ζ
def RB:EP Tryz.prog IH:=toP (mH [1,2,0] [1,2,2] δ δ) ζ ζ
def RH:EP Tryz.prog Jn:=toP (dK [[0,1,1]] δ) ζ ζ
def S0:EP Tryz.prog Rb:=aO (n:=3000) (bf (t:=[Jn,IH,HZ,AR,Hl,JQ,Am,Hc,JJ,AP,uY,uQ,B5,I3,za]) ⟨RH,RB,QO,JP,Tg,RJ,IK,Qn,Qg,IB,Aw,B6,ET,R9,DM,trivial⟩) ζ
def KL:aY Tryz.prog 69 [bq.av] (.tup [.agg [.int .i64 2,.int .i64 0,.list Γ [[1,0],[1,0]],.list Γ [[1,0],[1,2]],.list Γ [[],[0]]],.agg [.int .i64 2,.list Ξ [([1,1],([0,0],())),([0,0,1],([1,1,2],())),([0,1,1],([1,2,0],()))]],.one (.int .i64 2),.one (.int .i64 0)]):=S4
def Ky:aY Tryz.prog 31 [bq.av,.one (.int .i64 0)] (.tup [.one (.list Γ [[1,1],[0,0,1],[0,1,1]]),.one (.int .i64 0)]):=Qo
def xF:Mly:=⟨2,0,[[1,0],[1,1]],[[1,0],[1,2]]⟩
def M2:aY Tryz.prog 32 [bq.av,xF.av,.one (.list Γ [[1,1],[0,0,1],[0,1,1]])] (.tup [.one (.list Θ [0,1,1]),.one (.bool false),.one (.int .i64 0)]):=S0
def EE:aY Tryz.prog 33 [] (.one (.bool true)):=by
 refine zQ 34 Tryz.func33 λC hP hN hB=>?_;refine zT0 [0] ?_;refine aa λK2 k2=>am hP hN rfl ?_;refine PF (ak jN) ?_;refine PF (ak KL) ?_
 iterate 11 refine zS1 ?_
 refine ah (k2 _ (kp [0,1,4] ?_));refine aa λK3 k3=>am hP hN rfl ?_
 iterate 2 refine zS1 ?_
 refine PF (ak (sw bq)) ?_
 iterate 6 refine zS1 ?_
 refine ah (k3 _ (kp [0,1,4,5,6] ?_));refine aa λ_ k4=>?_;refine bu hP hN Tryz.mixed rfl ?_
 iterate 3 refine zS1 ?_
 refine' zJ true 2 22 (λhg5=>?a5) ?b5 ?c5
 case a5=>
  have hq5:=hg5;(try simp only[zB,reduceCtorEq] at hg5);simp only[zE]
  iterate 2 (refine da rfl λ_ k0=>?_;simp only[zO,zT,acs,reduceCtorEq,ad,J,ae,aj,af,ag,Mly.av,bq];(repeat refine an ?_);(try refine .inl ?_);apply k0;clear k0;simp only[zP,J])
  refine zS1 ?_;refine ah ?_;exact zK hq5
 case b5=>exact cG
 simp only[bh,aX];refine zS1 ?_;refine' zJ true 3 26 (λhg6=>?a6) ?b6 ?c6
 case a6=>
  have hq6:=hg6;(try simp only[zB,reduceCtorEq] at hg6);simp only[zE]
  (refine da rfl λ_ k0=>?_;simp only[zO,zT,acs,reduceCtorEq,ad,J,ae,aj,af,ag,Mly.av,bq];(repeat refine an ?_);(try refine .inl ?_);apply k0;clear k0;simp only[zP,J])
  refine da rfl λ_ k0=>?_;refine bo (h:=ak jN) rfl rfl (by first|exact rfl|(simp only[ev,zP,ad,J];exact rfl)) (by simp only[zV,acs,reduceCtorEq,ad,J,ae,aj,af,ag,Mly.av,bq]) ?_;apply k0;clear k0;simp only[zP,J];refine da rfl λ_ k0=>?_;refine bo (h:=ak (uM bq.mres bq)) rfl rfl (by first|exact rfl|(simp only[ev,zP,ad,J];exact rfl)) (by simp only[zV,acs,reduceCtorEq,ad,J,ae,aj,af,ag,Mly.av,bq]) ?_;apply k0;clear k0;simp only[zP,J];refine zS1 ?_;refine ah ?_;exact zK hq6
 case b6=>exact cG
 simp only[bh,aX];refine zS1 ?_;refine' zJ true 1 31 (λhg7=>?a7) ?b7 ?c7
 case a7=>
  have hq7:=hg7;(try simp only[zB,reduceCtorEq] at hg7);simp only[zE];refine da rfl λ_ k0=>?_;refine bo (h:=ak M8) rfl rfl (by first|exact rfl|(simp only[ev,zP,ad,J];exact rfl)) (by simp only[zV,acs,reduceCtorEq,ad,J,ae,aj,af,ag,Mly.av,bq]) ?_;apply k0;clear k0;simp only[zP,J];refine zS1 ?_;refine ah ?_;exact zK hq7
 case b7=>exact cG
 simp only[bh,aX];refine zS1 ?_;refine ah ?_;refine⟨ζ,?_⟩;refine k4 _ (kp [0,1,4,5,6] ?_);refine aA ?_;refine⟨nr,_,rfl,?_⟩;simp only[zF,zP,ad,J,Mly.av,bq];refine VLE.of_eq ?_;refine congrArg (λb=>AV.one (AC.bool b)) ?_;decide+kernel
def Ld:aY Tryz.prog 13 [] (.one (.bool true)):=by
 refine zQ 44 Tryz.func13 λC hP hN hB=>?_;refine aa λK1 k1=>am hP hN rfl ?_;refine kG ?_;refine ah (k1 _ (kp [0] ?_));refine aa λK2 k2=>am hP hN rfl ?_;refine CB (ak jN) ?_;refine CB (ak Ky) ?_
 iterate 5 refine kG ?_
 refine ah (k2 _ (kp [0,1,2] ?_));refine aa λK3 k3=>am hP hN rfl ?_;refine CB (Sv) ?_
 iterate 2 refine kG ?_
 refine ah (k3 _ (kp [0,1,2,3] ?_));refine aa λK4 k4=>am hP hN rfl ?_
 iterate 6 (refine aw rfl λ_ k0=>?_;simp only[zO,zT,acs,reduceCtorEq,ad,J,ae,aj,af,ag,Mly.av,bq,xF,show Int.toNat 1=1 from rfl,List.getD_cons_succ,aI];(repeat refine an ?_);(try refine .inl ?_);apply k0;clear k0;simp only[zP,J])
 refine ah (k4 _ (kp [0,1,2,3] ?_));refine aa λ_ k5=>?_;refine jb 1 2 rfl rfl ?_;simp only[aJ,aV,frC,zS,ad,zW,reduceCtorEq];refine iC 2 3 2 Γ 2 (xs:=[[1,0],[1,1]]) rfl rfl rfl rfl rfl ?_;simp only[zS];refine eF 2 3 rfl rfl ?_;simp only[aJ,aV,frC,zS,ad,zW,reduceCtorEq];refine bu hP hN Tryz.mixed rfl ?_;refine CB (ak jN) ?_
 iterate 2 refine kG ?_
 refine CB (ak M2) ?_
 iterate 7 refine kG ?_
 refine ah ?_;refine⟨ζ,?_⟩;refine k5 _ (kp [0,1,2,3,4,5,6] ?_);refine aa λK6 k6=>am hP hN rfl ?_
 iterate 3 refine kG ?_
 refine' zJ true 2 28 (λhg7=>?a7) ?b7 ?c7
 case a7=>
  have hq7:=hg7;(try simp only[zB,reduceCtorEq] at hg7);simp only[zE]
  iterate 2 refine Oy ?_
  refine kG ?_;refine ah ?_;exact zK hq7
 case b7=>exact cG
 simp only[bh,aX];refine kG ?_;refine' zJ true 2 32 (λhg8=>?a8) ?b8 ?c8
 case a8=>
  have hq8:=hg8;(try simp only[zB,reduceCtorEq] at hg8);simp only[zE]
  iterate 2 refine Oy ?_
  refine kG ?_;refine ah ?_;exact zK hq8
 case b8=>exact cG
 simp only[bh,aX];refine kG ?_;refine' zJ true 3 36 (λhg9=>?a9) ?b9 ?c9
 case a9=>
  have hq9:=hg9;(try simp only[zB,reduceCtorEq] at hg9);simp only[zE]
  iterate 3 refine Oy ?_
  refine kG ?_;refine ah ?_;exact zK hq9
 case b9=>exact cG
 simp only[bh,aX];refine kG ?_;refine' zJ true 1 41 (λhg10=>?a10) ?b10 ?c10
 case a10=>
  have hq10:=hg10;(try simp only[zB,reduceCtorEq] at hg10);simp only[zE];refine da rfl λ_ k0=>?_;refine bo (h:=ak EE) rfl rfl (by first|exact rfl|(simp only[ev,zP,ad,J];exact rfl)) (by simp only[zV,acs,reduceCtorEq,ad,J,ae,aj,af,ag,Mly.av,bq,xF]) ?_;apply k0;clear k0;simp only[zP,J];refine kG ?_;refine ah ?_;exact zK hq10
 case b10=>exact cG
 simp only[bh,aX];refine kG ?_;refine ah (k6 _ (kp [0,1,2,3,4,5,6] ?_));refine aA ?_;refine⟨nr,_,rfl,?_⟩;simp only[zF,zP,ad,J,Mly.av,bq,xF];refine VLE.of_eq ?_
 rfl
def U9 (m:Mly):aY Tryz.prog 29 [m.av] (.one (.int .i64 (mO m))):=by
 refine zQ 107 Tryz.func29 λC hP hN hB=>?_;refine zT5 [0,1,2] ?_;refine zT5 [0,1,2,3] ?_;refine aa λ_ k3=>?_;refine ay ?_;refine aa λK4 k4=>am hP hN rfl ?_
 iterate 4 refine zS6 ?_
 refine' zJ false 3 15 (λhg5=>?a5) ?b5 ?c5
 case a5=>
  have hq5:=hg5;(try simp only[zB,reduceCtorEq] at hg5);simp only[zE]
  iterate 3 refine zD7 ?_
  refine zS6 ?_;refine ah ?_;exact zK hq5
 case b5=>exact cG
 simp only[bh,aX];refine zS6 ?_;refine ah (k4 _ (kp [0,1,2,3,11] ?_));refine cB (λhc6=>?_) (λhc6=>?_)
 ·refine zT5 [0,1,2,3,11] ?_
  refine aA ?_;refine zZm ?_;refine congrArg (λn=>AV.one (AC.int IntKind.i64 n)) ?_
  symm
  unfold mO
  first
  |(rw[if_pos ω];done)
  |(rw[if_neg ω,if_pos ω];done)
  |(rw[if_neg ω,if_neg ω,if_pos ω];done)
  |(rw[if_neg ω,if_neg ω,if_neg ω,if_pos ω];done)
  |(rw[if_neg ω,if_neg ω,if_neg ω,if_neg ω,if_pos ω];done)
  |(rw[if_neg ω,if_neg ω,if_neg ω,if_neg ω,if_neg ω]
    first
    |(have hp9:=iF ω ω hcells ω (by rw[hcb];decide)
      rw[hcb] at hp9;exact(bB hrows ω (by rw[hp9];decide)).trans hp9)
    |exact(bB hrows ω (by rw[dF hlb];decide)).trans (dF hlb)
    |exact bG λi hi=>hrows i ω)
 refine zT5 [0,1,2,3,11,20] ?_;refine cB (λhc9=>?_) (λhc9=>?_)
 ·refine zT5 [0,1,2,3,11,20] ?_
  refine aA ?_;refine zZm ?_;refine congrArg (λn=>AV.one (AC.int IntKind.i64 n)) ?_
  symm
  unfold mO
  first
  |(rw[if_pos ω];done)
  |(rw[if_neg ω,if_pos ω];done)
  |(rw[if_neg ω,if_neg ω,if_pos ω];done)
  |(rw[if_neg ω,if_neg ω,if_neg ω,if_pos ω];done)
  |(rw[if_neg ω,if_neg ω,if_neg ω,if_neg ω,if_pos ω];done)
  |(rw[if_neg ω,if_neg ω,if_neg ω,if_neg ω,if_neg ω]
    first
    |(have hp9:=iF ω ω hcells ω (by rw[hcb];decide)
      rw[hcb] at hp9;exact(bB hrows ω (by rw[hp9];decide)).trans hp9)
    |exact(bB hrows ω (by rw[dF hlb];decide)).trans (dF hlb)
    |exact bG λi hi=>hrows i ω)
 refine zT5 [0,1,2,3,11,20,23] ?_;refine cB (λhc12=>?_) (λhc12=>?_)
 ·refine zT5 [0,1,2,3,11,20,23] ?_
  refine aA ?_;refine zZm ?_;refine congrArg (λn=>AV.one (AC.int IntKind.i64 n)) ?_
  symm
  unfold mO
  first
  |(rw[if_pos ω];done)
  |(rw[if_neg ω,if_pos ω];done)
  |(rw[if_neg ω,if_neg ω,if_pos ω];done)
  |(rw[if_neg ω,if_neg ω,if_neg ω,if_pos ω];done)
  |(rw[if_neg ω,if_neg ω,if_neg ω,if_neg ω,if_pos ω];done)
  |(rw[if_neg ω,if_neg ω,if_neg ω,if_neg ω,if_neg ω]
    first
    |(have hp9:=iF ω ω hcells ω (by rw[hcb];decide)
      rw[hcb] at hp9;exact(bB hrows ω (by rw[hp9];decide)).trans hp9)
    |exact(bB hrows ω (by rw[dF hlb];decide)).trans (dF hlb)
    |exact bG λi hi=>hrows i ω)
 refine aa λK14 k14=>am hP hN rfl ?_
 iterate 4 refine zS6 ?_
 refine' zJ false 4 30 (λhg15=>?a15) ?b15 ?c15
 case a15=>
  have hq15:=hg15;(try simp only[zB,reduceCtorEq] at hg15);simp only[zE]
  iterate 4 refine zD7 ?_
  refine zS6 ?_;refine ah ?_;exact zK hq15
 case b15=>exact cG
 simp only[bh,aX];refine zS6 ?_;refine ah (k14 _ (kp [0,1,2,3,11,20,23,26] ?_));refine cB (λhc16=>?_) (λhc16=>?_)
 ·refine zT5 [0,1,2,3,11,20,23,26] ?_
  refine aA ?_;refine zZm ?_;refine congrArg (λn=>AV.one (AC.int IntKind.i64 n)) ?_
  symm
  unfold mO
  first
  |(rw[if_pos ω];done)
  |(rw[if_neg ω,if_pos ω];done)
  |(rw[if_neg ω,if_neg ω,if_pos ω];done)
  |(rw[if_neg ω,if_neg ω,if_neg ω,if_pos ω];done)
  |(rw[if_neg ω,if_neg ω,if_neg ω,if_neg ω,if_pos ω];done)
  |(rw[if_neg ω,if_neg ω,if_neg ω,if_neg ω,if_neg ω]
    first
    |(have hp9:=iF ω ω hcells ω (by rw[hcb];decide)
      rw[hcb] at hp9;exact(bB hrows ω (by rw[hp9];decide)).trans hp9)
    |exact(bB hrows ω (by rw[dF hlb];decide)).trans (dF hlb)
    |exact bG λi hi=>hrows i ω)
 refine zT5 [0,1,2,3,11,20,23,26,36] ?_;refine cB (λhc19=>?_) (λhc19=>?_)
 ·refine zT5 [0,1,2,3,11,20,23,26,36] ?_
  refine aA ?_;refine zZm ?_;refine congrArg (λn=>AV.one (AC.int IntKind.i64 n)) ?_
  symm
  unfold mO
  first
  |(rw[if_pos ω];done)
  |(rw[if_neg ω,if_pos ω];done)
  |(rw[if_neg ω,if_neg ω,if_pos ω];done)
  |(rw[if_neg ω,if_neg ω,if_neg ω,if_pos ω];done)
  |(rw[if_neg ω,if_neg ω,if_neg ω,if_neg ω,if_pos ω];done)
  |(rw[if_neg ω,if_neg ω,if_neg ω,if_neg ω,if_neg ω]
    first
    |(have hp9:=iF ω ω hcells ω (by rw[hcb];decide)
      rw[hcb] at hp9;exact(bB hrows ω (by rw[hp9];decide)).trans hp9)
    |exact(bB hrows ω (by rw[dF hlb];decide)).trans (dF hlb)
    |exact bG λi hi=>hrows i ω)
 refine au (k3 _ (kp [0,1,2,3,11,20,23,26,36] ?_));refine aa λ_ k21=>?_;refine zT5 [0,1,2,3,11,20,23,26,36,42,43] ?_;refine ay ?_;refine aM (λn23 s23=>∃ (k:Nat),(k≤m.nx.length)∧(∀ i,i<k→tp m i=0)∧n23=m.nx.length-k∧s23={env:=[(1,.one (.ptr 0 0 0 0)),(2,.one (.int .i64 0)),(3,.one (.int .i64 (m.nx.length:Int))),(42,.one (.int .i64 (m.nx.length:Int))),(43,.one (.int .i64 (k:Int)))],L:=[.vars 38 [.int .i64 m.inp,.int .i64 m.st,.list Γ m.nx,.list Γ m.ot]]}) ?_ ?_
 ·exact⟨_,_,ar [1,2,3,42,43],0,Nat.zero_le _,λi hi=>by omega,rfl,rfl⟩
 rintro n23 s23 ⟨k,hk,hrows,rfl,rfl⟩;refine zT5 [1,2,3,42,43,44] ?_;refine aa λ_ k25=>?_;refine cB (λhc26=>?_) (λhc26=>?_)
 ·refine au ?_
  refine k25 _ (kp [1,2,3,42,43,44] ?_);refine aa λ_ k27=>?_;refine ay ?_;refine zT5 [1,2,3,4,42,43,44] ?_;refine aa λ_ k29=>?_;refine aa λ_ k30=>?_;refine bu hP hN Tryz.mixed rfl ?_
  iterate 10 refine zS6 ?_
  refine' zJ false 9 55 (λhg31=>?a31) ?b31 ?c31
  case a31=>
   have hq31:=hg31;(try simp only[zB,reduceCtorEq] at hg31);simp only[zE]
   iterate 9 refine zD7 ?_
   refine zS6 ?_;refine ah ?_;exact zK hq31
  case b31=>exact cG
  simp only[bh,aX];refine ah ?_;refine⟨ζ,?_⟩;refine k30 _ (kp [1,2,3,4,42,43,44,65] ?_);refine cB (λhc32=>?_) (λhc32=>?_)
  ·have hlb:=hc32
   refine zT5 [1,2,3,4,42,43,44,65] ?_;refine aA ?_;refine zZm ?_;refine congrArg (λn=>AV.one (AC.int IntKind.i64 n)) ?_
   symm
   unfold mO
   first
   |(rw[if_pos ω];done)
   |(rw[if_neg ω,if_pos ω];done)
   |(rw[if_neg ω,if_neg ω,if_pos ω];done)
   |(rw[if_neg ω,if_neg ω,if_neg ω,if_pos ω];done)
   |(rw[if_neg ω,if_neg ω,if_neg ω,if_neg ω,if_pos ω];done)
   |(rw[if_neg ω,if_neg ω,if_neg ω,if_neg ω,if_neg ω]
     first
     |(have hp9:=iF ω ω hcells ω (by rw[hcb];decide)
       rw[hcb] at hp9;exact(bB hrows ω (by rw[hp9];decide)).trans hp9)
     |exact(bB hrows ω (by rw[dF hlb];decide)).trans (dF hlb)
     |exact bG λi hi=>hrows i ω)
  have hlb:=hc32;refine au (k29 _ (kp [1,2,3,4,42,43,44,65] ?_));refine zT5 [1,2,3,4,42,43,44,65,70,71,72] ?_;refine ay ?_;refine aM (λn35 s35=>∃ (j:Nat),((j:Int)≤m.inp)∧(∀ a,a<j→nX m k a=0)∧n35=m.inp.toNat-j∧s35={env:=[(1,.one (.ptr 0 0 0 0)),(2,.one (.int .i64 0)),(3,.one (.int .i64 (m.nx.length:Int))),(4,.one (.int .i64 (k:Int))),(42,.one (.int .i64 (m.nx.length:Int))),(43,.one (.int .i64 (k:Int))),(70,.one (.list Θ (m.nx.getD k []))),(71,.one (.int .i64 ((m.nx.getD k []).length:Int))),(72,.one (.int .i64 (j:Int)))],L:=[.vars 38 [.int .i64 m.inp,.int .i64 m.st,.list Γ m.nx,.list Γ m.ot]]}) ?_ ?_
  ·refine⟨_,_,ar [1,2,3,4,42,43,70,71,72],0,?_,λi hi=>by omega,rfl,rfl⟩;omega
  rintro n35 s35 ⟨j,hj,hcells,rfl,rfl⟩;refine zT5 [1,2,3,4,42,43,70,71,72,73] ?_;refine aa λ_ k37=>?_;refine cB (λhc38=>?_) (λhc38=>?_)
  ·refine au ?_
   refine k37 _ (kp [1,2,3,4,42,43,70,71,72,73] ?_);refine aa λ_ k39=>?_;refine ay ?_;refine zT5 [1,2,3,4,5,6,42,43,70,71,72,73] ?_;refine zT5 [1,2,3,4,5,6,7,42,43,70,71,72,73] ?_;refine aa λ_ k42=>?_;refine aa λK43 k43=>am hP hN rfl ?_
   iterate 3 refine zS6 ?_
   refine' zJ false 3 87 (λhg44=>?a44) ?b44 ?c44
   case a44=>
    have hq44:=hg44;(try simp only[zB,reduceCtorEq] at hg44);simp only[zE]
    iterate 3 refine zD7 ?_
    refine zS6 ?_;refine ah ?_;exact zK hq44
   case b44=>exact cG
   simp only[bh,aX];refine zS6 ?_;refine' zJ false 2 92 (λhg45=>?a45) ?b45 ?c45
   case a45=>
    have hq45:=hg45;(try simp only[zB,reduceCtorEq] at hg45);simp only[zE]
    iterate 2 refine zD7 ?_
    refine zS6 ?_;refine ah ?_;exact zK hq45
   case b45=>exact cG
   simp only[bh,aX];refine zS6 ?_;refine' zJ false 2 96 (λhg46=>?a46) ?b46 ?c46
   case a46=>
    have hq46:=hg46;(try simp only[zB,reduceCtorEq] at hg46);simp only[zE]
    iterate 2 refine zD7 ?_
    refine zS6 ?_;refine ah ?_;exact zK hq46
   case b46=>exact cG
   simp only[bh,aX];refine ah (k43 _ (kp [1,2,3,4,5,6,7,42,43,70,71,72,73,99] ?_));refine cB (λhc47=>?_) (λhc47=>?_)
   ·have hcb:=R4 (m:=m) (s:=k) (a:=j) ω
    refine zT5 [1,2,3,4,5,6,7,42,43,70,71,72,73,99] ?_;refine aA ?_;refine zZm ?_;refine congrArg (λn=>AV.one (AC.int IntKind.i64 n)) ?_
    symm
    unfold mO
    first
    |(rw[if_pos ω];done)
    |(rw[if_neg ω,if_pos ω];done)
    |(rw[if_neg ω,if_neg ω,if_pos ω];done)
    |(rw[if_neg ω,if_neg ω,if_neg ω,if_pos ω];done)
    |(rw[if_neg ω,if_neg ω,if_neg ω,if_neg ω,if_pos ω];done)
    |(rw[if_neg ω,if_neg ω,if_neg ω,if_neg ω,if_neg ω]
      first
      |(have hp9:=iF ω ω hcells ω (by rw[hcb];decide)
        rw[hcb] at hp9;exact(bB hrows ω (by rw[hp9];decide)).trans hp9)
      |exact(bB hrows ω (by rw[dF hlb];decide)).trans (dF hlb)
      |exact bG λi hi=>hrows i ω)
   have hcn:¬((m.nx.getD k []).getD j 0< -1∨(m.nx.length:Int)≤(m.nx.getD k []).getD j 0∨(m.ot.getD k []).getD j 0< -1∨1048576<(m.ot.getD k []).getD j 0):=ω;refine au (k42 _ (kp [1,2,3,4,5,6,7,42,43,70,71,72,73,99] ?_));refine zT5 [1,2,3,4,5,6,7,42,43,70,71,72,73,99,104] ?_;refine cB (λhc50=>?_) (λhc50=>?_)
   ·have hcb:=R8 hcn (by simpa using hc50)
    refine zT5 [1,2,3,4,5,6,7,42,43,70,71,72,73,99,104] ?_;refine aA ?_;refine zZm ?_;refine congrArg (λn=>AV.one (AC.int IntKind.i64 n)) ?_
    symm
    unfold mO
    first
    |(rw[if_pos ω];done)
    |(rw[if_neg ω,if_pos ω];done)
    |(rw[if_neg ω,if_neg ω,if_pos ω];done)
    |(rw[if_neg ω,if_neg ω,if_neg ω,if_pos ω];done)
    |(rw[if_neg ω,if_neg ω,if_neg ω,if_neg ω,if_pos ω];done)
    |(rw[if_neg ω,if_neg ω,if_neg ω,if_neg ω,if_neg ω]
      first
      |(have hp9:=iF ω ω hcells ω (by rw[hcb];decide)
        rw[hcb] at hp9;exact(bB hrows ω (by rw[hp9];decide)).trans hp9)
      |exact(bB hrows ω (by rw[dF hlb];decide)).trans (dF hlb)
      |exact bG λi hi=>hrows i ω)
   have hc0:=GZ hcn (by simpa using hc50);refine au (k39 _ (kp [1,2,3,4,5,6,7,42,43,70,71,72,73,99,104] ?_));refine zR5 (h:=?_);refine⟨_,_,?_,ar [1,2,3,4,42,43,70,71,72],j+1,?_,λa ha=>?_,rfl,rfl⟩
   ·omega
   ·omega
   ·by_cases e:a=j
    ·rw[e];exact hc0
    ·exact hcells a ω
  refine aL ?_;refine k27 _ (kp [1,2,3,4,42,43,70,71,72,73] ?_);refine zR5 (h:=?_);refine⟨_,_,?_,ar [1,2,3,42,43],k+1,ω,λi hi=>?_,rfl,rfl⟩
  ·omega
  ·by_cases e:i=k
   ·rw[e];exact Em ω ω λa ha=>hcells a ω
   ·exact hrows i ω
 refine aL ?_;refine k21 _ (kp [1,2,3,42,43,44] ?_);refine zT5 [1,2,3,42,43,44] ?_;refine aA ?_;refine zZm ?_;refine congrArg (λn=>AV.one (AC.int IntKind.i64 n)) ?_
 symm
 unfold mO
 first
 |(rw[if_pos ω];done)
 |(rw[if_neg ω,if_pos ω];done)
 |(rw[if_neg ω,if_neg ω,if_pos ω];done)
 |(rw[if_neg ω,if_neg ω,if_neg ω,if_pos ω];done)
 |(rw[if_neg ω,if_neg ω,if_neg ω,if_neg ω,if_pos ω];done)
 |(rw[if_neg ω,if_neg ω,if_neg ω,if_neg ω,if_neg ω]
   first
   |(have hp9:=iF ω ω hcells ω (by rw[hcb];decide)
     rw[hcb] at hp9;exact(bB hrows ω (by rw[hp9];decide)).trans hp9)
   |exact(bB hrows ω (by rw[dF hlb];decide)).trans (dF hlb)
   |exact bG λi hi=>hrows i ω)
def Dy (m:Mly)(hm:PRK m):aY Tryz.prog 10 [m.av,.one (.int .i64 0)] (.tup [(if m.nx.length≤128 then coM m 0 else zu).av,.one (.int .i64 (if m.nx.length≤128 then 0 else 11))]):=by
 refine zQ 99 Tryz.func10 λC hP hN hB=>?_;have h2:=hm.n2;have h4:=hm.n1;have hi1:=hm.i1;have hi2:=hm.i2;have hol:=hm.ol;have hpe:=Nn hm;refine zT5 [0,1,2,4,5] ?_;refine aa λ_ k2=>?_;refine aa λK3 k3=>am hP hN rfl ?_;refine zS6 ?_;refine zC8 (ak (U9 m)) ?_;refine zS6 ?_;refine ah (k3 _ (kp [0,1,2,4,5,6] ?_));refine zT5 [0,1,2,4,5,6,16] ?_;refine cB (λhc5=>?_) (λhc5=>?_)
 ·exfalso
  all_goals omega
 refine au (k2 _ (kp [0,1,2,4,5,6,16] ?_));refine aa λ_ k6=>?_;refine aa λK7 k7=>am hP hN rfl ?_
 iterate 3 refine zS6 ?_
 refine' zJ false 2 21 (λhg8=>?a8) ?b8 ?c8
 case a8=>
  have hq8:=hg8;(try simp only[zB,reduceCtorEq] at hg8);simp only[zE]
  iterate 2 refine zD7 ?_
  refine zS6 ?_;refine ah ?_;exact zK hq8
 case b8=>exact cG
 simp only[bh,aX];refine ah (k7 _ (kp [0,1,2,4,5,6,16,24] ?_));refine cB (λhc9=>?_) (λhc9=>?_)
 ·exact zX hc9
 refine au (k6 _ (kp [0,1,2,4,5,6,16,24] ?_));refine aa λ_ k10=>?_;refine zT5 [0,1,2,4,5,6,16,24,29] ?_;refine cB (λhc12=>?_) (λhc12=>?_)
 ·have hlim:=hc12
  refine zT5 [0,1,2,4,5,6,16,24,29] ?_;refine aA ?_;refine⟨nr,_,rfl,?_⟩;simp only[zF,zP,ad,J,Mly.av]
  first
  |(rw[if_pos ω,if_pos ω]
    exact VLE.of_eq rfl)
  |(rw[if_neg ω,if_neg ω]
    exact bj ⟨dr ⟨.refl _,.refl _,aS rfl,aS rfl,trivial⟩,aD (.refl _),trivial⟩)
 have hlim:=hc12;refine au (k10 _ (kp [0,1,2,4,5,6,16,24,29] ?_));refine zT5 [0,1,2,4,5,6,7,16,24,29] ?_;refine aa λ_ k15=>?_;refine aa λ_ k16=>?_;refine ep 2 2 Γ 26 δ rfl rfl ?_;simp only[zS,ax,aF,aG,aC,Nat.zero_add,J];refine ep 2 3 Γ 26 δ rfl rfl ?_;simp only[zS,ax,aF,aG,aC,Nat.zero_add,J];refine zR5 (h:=k16 _ (kp [0,1,2,4,5,6,7,16,24,29,38,39] ?_));refine ay ?_;refine aM (λn17 s17=>∃ (k:Nat),(k≤m.nx.length)∧n17=m.nx.length-k∧s17={env:=[(1,.one (.int .i64 0)),(2,.one (.ptr 0 0 0 0)),(4,.one (.ptr 1 0 0 0)),(5,.one (.int .i64 0)),(7,.one (.ptr 2 0 0 0)),(38,.one (.int .i64 (m.nx.length:Int))),(39,.one (.int .i64 (k:Int)))],L:=[.vars 38 [.int .i64 m.inp,.int .i64 m.st,.list Γ m.nx,.list Γ m.ot],.vars 24 [.int .i64 0,.int .i64 0,.nils,.nils],.vars 24 [.int .i64 m.inp,.int .i64 m.st,.row 3 k,.row 4 k],.row Γ 26 k (nG m k),.row Γ 26 k (na m 0 k)]}) ?_ ?_
 ·exact⟨_,_,ar [1,2,4,5,7,38,39],0,Nat.zero_le _,rfl,rfl⟩
 rintro n17 s17 ⟨k,hk0,rfl,rfl⟩;refine zT5 [1,2,4,5,7,38,39,40] ?_;refine aa λ_ k19=>?_;refine cB (λhc20=>?_) (λhc20=>?_)
 ·refine au ?_
  refine k19 _ (kp [1,2,4,5,7,38,39,40] ?_);refine aa λ_ k21=>?_;refine ay ?_;refine zT5 [1,2,4,5,7,8,38,39,40] ?_;refine aa λ_ k23=>?_;have hkl:k<m.nx.length:=ω;have hrl:=hm.rl k hkl;have hql:=hm.ql k hkl;refine dp ?_;simp only[aG,List.append_assoc,aC];refine dp ?_;simp only[aG,List.append_assoc,aC];refine bu hP hN Tryz.mixed rfl ?_
  iterate 2 refine zS6 ?_
  refine cX (λC9 hC9=>.inl ⟨rfl,mS (q:=5) (t:=.int .i64) (z0:=0) rfl rfl (by rw[hC9];exact Tryz.td26) rfl (by rw[hC9];exact Tryz.td3) rfl rfl δ rfl rfl ω ω (by show(8:Int)*m.inp≤_;omega) ω rfl⟩) ?_;simp only[zP,J]
  iterate 2 refine zS6 ?_
  refine cX (λC9 hC9=>.inl ⟨rfl,mS (q:=6) (t:=.int .i64) (z0:=0) rfl rfl (by rw[hC9];exact Tryz.td26) rfl (by rw[hC9];exact Tryz.td3) rfl rfl δ rfl rfl ω ω (by show(8:Int)*m.inp≤_;omega) ω rfl⟩) ?_;simp only[zP,J]
  iterate 2 refine zS6 ?_
  refine ah ?_;refine⟨ζ,?_⟩;refine k23 _ (kp [1,2,4,5,7,8,9,10,38,39,40] ?_);refine aa λ_ k24=>?_;refine lE [1,2,4,5,7,8,9,10,38,39,40,52,53,54] ?_;refine ay ?_;refine aM (λn26 s26=>∃ (j:Nat),(j≤(m.nx.getD k []).length)∧n26=(m.nx.getD k []).length-j∧s26={env:=[(1,.one (.int .i64 0)),(2,.one (.ptr 0 0 0 0)),(4,.one (.ptr 1 0 0 0)),(5,.one (.int .i64 0)),(7,.one (.ptr 2 0 0 0)),(8,.one (.int .i64 (k:Int))),(9,.one (.row 5 1)),(10,.one (.row 6 1)),(38,.one (.int .i64 (m.nx.length:Int))),(39,.one (.int .i64 (k:Int))),(52,.one (.list Θ (m.nx.getD k []))),(53,.one (.int .i64 ((m.nx.getD k []).length:Int))),(54,.one (.int .i64 (j:Int)))],L:=[.vars 38 [.int .i64 m.inp,.int .i64 m.st,.list Γ m.nx,.list Γ m.ot],.vars 24 [.int .i64 0,.int .i64 0,.nils,.nils],.vars 24 [.int .i64 m.inp,.int .i64 m.st,.row 3 k,.row 4 k],.row Γ 26 k (nG m k),.row Γ 26 k (na m 0 k),.row Θ 3 1 (coT (coN m k) m.inp.toNat j),.row Θ 3 1 (coT (coO m 0 k) m.inp.toNat j)]}) ?_ ?_
  ·exact⟨_,_,ar [1,2,4,5,7,8,9,10,38,39,52,53,54],0,Nat.zero_le _,rfl,by rw[Ol,Ol];rfl⟩
  rintro n26 s26 ⟨j,hj0,rfl,rfl⟩;refine zT5 [1,2,4,5,7,8,9,10,38,39,52,53,54,55] ?_;refine aa λ_ k28=>?_;refine cB (λhc29=>?_) (λhc29=>?_)
  ·refine au ?_
   refine k28 _ (kp [1,2,4,5,7,8,9,10,38,39,52,53,54,55] ?_);refine aa λ_ k30=>?_;refine ay ?_;refine lE [1,2,4,5,7,8,9,10,11,12,38,39,52,53,54,55] ?_;refine aa λ_ k32=>?_;have hx1:=Cz (coN m k) (n:=m.inp.toNat) (j:=j) ω;have hx2:=Cz (coO m 0 k) (n:=m.inp.toNat) (j:=j) ω;refine J9 (h:=k32 _ (kp [1,2,4,5,7,8,9,10,11,12,38,39,52,53,54,55] ?_));refine zT5 [1,2,4,5,7,8,9,10,11,12,38,39,52,53,54,55,75] ?_;refine cB (λhc34=>?_) (λhc34=>?_)
   ·have hc9:(m.nx.getD k []).getD j 0= -1:=hc34
    refine am hP hN rfl ?_
    iterate 10 (refine aw rfl λ_ k0=>?_;simp only[zO,zT,acs,reduceCtorEq,ad,J,ae,aj,af,ag,Mly.av,az,List.length_set];(repeat refine an ?_);(try refine .inl ?_);apply k0;clear k0;simp only[zP,J])
    refine ah (k30 _ (kp [1,2,4,5,7,8,9,10,11,12,38,39,52,53,54,55,75] ?_));refine zR5 (h:=?_)
    first
    |(have e1:coN m k j=(k:Int):=if_pos hc9
      have e2:coO m 0 k j=0:=if_pos hc9;refine⟨_,_,?_,ar [1,2,4,5,7,8,9,10,38,39,52,53,54],j+1,ω,rfl,?_⟩
      ·omega
      ·rw[← ov (coN m k) (x:=(m.nx.getD k []).getD j 0) ω,← ov (coO m 0 k) (x:=(m.ot.getD k []).getD j 0) ω,e1,e2];rfl)
    |(have e1:coN m k j=(m.nx.getD k []).getD j 0:=if_neg hc9
      have e2:coO m 0 k j=(m.ot.getD k []).getD j 0:=if_neg hc9;refine⟨_,_,?_,ar [1,2,4,5,7,8,9,10,38,39,52,53,54],j+1,ω,rfl,?_⟩
      ·omega
      ·rw[← nR (coN m k) ω,← nR (coO m 0 k) ω,e1,e2];rfl)
   have hc9:¬(m.nx.getD k []).getD j 0= -1:=hc34;refine au (k30 _ (kp [1,2,4,5,7,8,9,10,11,12,38,39,52,53,54,55,75] ?_));refine zR5 (h:=?_)
   first
   |(have e1:coN m k j=(k:Int):=if_pos hc9
     have e2:coO m 0 k j=0:=if_pos hc9;refine⟨_,_,?_,ar [1,2,4,5,7,8,9,10,38,39,52,53,54],j+1,ω,rfl,?_⟩
     ·omega
     ·rw[← ov (coN m k) (x:=(m.nx.getD k []).getD j 0) ω,← ov (coO m 0 k) (x:=(m.ot.getD k []).getD j 0) ω,e1,e2];rfl)
   |(have e1:coN m k j=(m.nx.getD k []).getD j 0:=if_neg hc9
     have e2:coO m 0 k j=(m.ot.getD k []).getD j 0:=if_neg hc9;refine⟨_,_,?_,ar [1,2,4,5,7,8,9,10,38,39,52,53,54],j+1,ω,rfl,?_⟩
     ·omega
     ·rw[← nR (coN m k) ω,← nR (coO m 0 k) ω,e1,e2];rfl)
  refine aL ?_;refine k24 _ (kp [1,2,4,5,7,8,9,10,38,39,52,53,54,55] ?_);have hje:j=m.inp.toNat:=ω;subst hje;rw[Eo,Eo];have hx3:=z8 m k;have hx4:=yz m 0 k;refine cz 5 rfl ?_;simp only[aJ,aV,zS,ad,zW,reduceCtorEq];refine cz 6 rfl ?_;simp only[aJ,aV,zS,ad,zW,reduceCtorEq];refine bu hP hN Tryz.mixed rfl ?_
  iterate 14 refine wF (And.intro hx3 hx4) ?_
  refine ah ?_;refine⟨ζ,?_⟩;refine k21 _ (kp [1,2,4,5,7,8,9,10,38,39,52,53,54,55] ?_);refine dM (n:=6) (L1:=[_,_,_,_,_,_]) rfl rfl (by rw[hB];decide) rfl rfl ?_;refine dM (n:=5) (L1:=[_,_,_,_,_]) rfl rfl (by rw[hB];decide) rfl rfl ?_;refine zR5 (h:=?_);refine⟨_,_,?_,ar [1,2,4,5,7,38,39],k+1,ω,rfl,?_⟩
  ·omega
  ·rw[Gb,EJ];rfl
 refine aL ?_;refine k15 _ (kp [1,2,4,5,7,38,39,40] ?_);refine aa λ_ k35=>?_;have hke:k=m.nx.length:=ω;subst hke;refine eF 3 2 rfl rfl ?_;simp only[aJ,aV,frC,zS,ad,zW,reduceCtorEq];refine eF 4 2 rfl rfl ?_;simp only[aJ,aV,frC,zS,ad,zW,reduceCtorEq];refine zR5 (h:=k35 _ (kp [1,2,4,5,7,38,39,40] ?_));refine aA ?_;refine⟨nr,_,rfl,?_⟩;simp only[zF,zP,ad,J,Mly.av]
 first
 |(rw[if_pos ω,if_pos ω]
   exact VLE.of_eq rfl)
 |(rw[if_neg ω,if_neg ω]
   exact bj ⟨dr ⟨.refl _,.refl _,aS rfl,aS rfl,trivial⟩,aD (.refl _),trivial⟩)
def Np (m:Mly)(hm:PRK m)(red:List Bool)(hr:red.length=m.nx.length):aY Tryz.prog 27 [m.av,.one (.list .bool red)] (.tup [.one (.int .i64 (blA m red red.length)),.one (.bool (decide (blA m red red.length<(red.length:Int))))]):=by
 refine zQ 51 Tryz.func27 λC hP hN hB=>?_;have h4:=hm.n2;have h5:=hm.i2;refine zT5 [0,1,2,4,5] ?_;refine zT5 [0,1,2,4,5,6] ?_;refine aa λ_ k3=>?_;refine zT5 [0,1,2,4,5,6,13,14,15] ?_;refine ay ?_;refine aM (λn5 s5=>∃ (k:Nat),(k≤red.length)∧n5=red.length-k∧s5={env:=[(1,.one (.list .bool red)),(2,.one (.ptr 0 0 0 0)),(4,.one (.int .i64 0)),(5,.one (.bool false)),(6,.one (.int .i64 (blA m red k))),(13,.one (.list .bool red)),(14,.one (.int .i64 (red.length:Int))),(15,.one (.int .i64 (k:Int)))],L:=[.vars 38 [.int .i64 m.inp,.int .i64 m.st,.list Γ m.nx,.list Γ m.ot]]}) ?_ ?_
 ·exact⟨_,_,ar [1,2,4,5,6,13,14,15],0,Nat.zero_le _,rfl,rfl⟩
 rintro n5 s5 ⟨k,hk,rfl,rfl⟩;refine zT5 [1,2,4,5,6,13,14,15,16] ?_;refine aa λ_ k7=>?_;refine cB (λhc8=>?_) (λhc8=>?_)
 ·refine au ?_
  refine k7 _ (kp [1,2,4,5,6,13,14,15,16] ?_);refine aa λ_ k9=>?_;refine ay ?_;refine lE [1,2,4,5,6,7,8,13,14,15,16] ?_;refine aa λ_ k11=>?_;refine zT5 [1,2,4,5,6,7,8,13,14,15,16,21] ?_;refine cB (λhc13=>?_) (λhc13=>?_)
  ·have hrd:red.getD k false=false:=by have hq:=hc13;simpa using hq
   refine aL ?_;refine k9 _ (kp [1,2,4,5,6,7,8,13,14,15,16,21] ?_);refine zR5 (h:=?_)
   first
   |(refine⟨_,_,?_,ar [1,2,4,5,6,13,14,15],k+1,ω,rfl,?_⟩
     ·omega
     ·rw[iv,if_neg (by rw[hrd];decide)];rfl)
   |(have hjr:(m.nx.getD k []).take j=(m.nx.getD k []):=List.take_of_length_le ω
     refine⟨_,_,?_,ar [1,2,4,5,6,13,14,15],k+1,ω,rfl,?_⟩
     ·omega
     ·rw[hjr,iv,if_pos hrd];rfl)
  have hrd:red.getD k false=true:=by have hq:=hc13;simpa using hq
  refine au (k11 _ (kp [1,2,4,5,6,7,8,13,14,15,16,21] ?_));refine aa λ_ k14=>?_;have hrl:=hm.rl k ω;refine zR5 (h:=k14 _ (kp [1,2,4,5,6,7,8,13,14,15,16,21,26,27,28] ?_));refine ay ?_;refine aM (λn15 s15=>∃ (j:Nat),(j≤(m.nx.getD k []).length)∧n15=(m.nx.getD k []).length-j∧s15={env:=[(1,.one (.list .bool red)),(2,.one (.ptr 0 0 0 0)),(4,.one (.int .i64 0)),(5,.one (.bool false)),(6,.one (.int .i64 (blR red ((m.nx.getD k []).take j) (blA m red k)))),(7,.one (.int .i64 (k:Int))),(13,.one (.list .bool red)),(14,.one (.int .i64 (red.length:Int))),(15,.one (.int .i64 (k:Int))),(26,.one (.list Θ (m.nx.getD k []))),(27,.one (.int .i64 ((m.nx.getD k []).length:Int))),(28,.one (.int .i64 (j:Int)))],L:=[.vars 38 [.int .i64 m.inp,.int .i64 m.st,.list Γ m.nx,.list Γ m.ot]]}) ?_ ?_
  ·exact⟨_,_,ar [1,2,4,5,6,7,13,14,15,26,27,28],0,Nat.zero_le _,rfl,rfl⟩
  rintro n15 s15 ⟨j,hj,rfl,rfl⟩;refine zT5 [1,2,4,5,6,7,13,14,15,26,27,28,29] ?_;refine aa λ_ k17=>?_;refine cB (λhc18=>?_) (λhc18=>?_)
  ·refine au ?_
   refine k17 _ (kp [1,2,4,5,6,7,13,14,15,26,27,28,29] ?_);refine aa λ_ k19=>?_;refine ay ?_;refine lE [1,2,4,5,6,7,10,13,14,15,26,27,28,29] ?_;refine aa λ_ k21=>?_;have hnr:=hm.nr k j ω ω;refine am hP hN rfl ?_
   iterate 3 refine PI ?_
   refine' zJ true 5 34 (λhg22=>?a22) ?b22 ?c22
   case a22=>
    have hq22:=hg22;(try simp only[zB,reduceCtorEq] at hg22);simp only[zE]
    iterate 5 (refine da rfl λ_ k0=>?_;simp only[zO,zT,acs,reduceCtorEq,ad,J,ae,aj,af,ag,Mly.av,gt];(repeat refine an ?_);(try refine .inl ?_);apply k0;clear k0;simp only[zP,J])
    refine PI ?_;refine ah ?_;exact zK hq22
   case b22=>exact cG
   simp only[bh,aX];refine ah (k21 _ (kp [1,2,4,5,6,7,10,13,14,15,26,27,28,29,40] ?_));refine cB (λhc23=>?_) (λhc23=>?_)
   ·have hbt:=hc23
    refine zR5 (h:=k19 _ (kp [1,2,4,5,6,7,10,13,14,15,26,27,28,29,40] ?_));refine zR5 (h:=?_)
    first
    |(refine⟨_,_,?_,ar [1,2,4,5,6,7,13,14,15,26,27,28],j+1,ω,rfl,?_⟩
      ·omega
      ·rw[uC ω];unfold blC;rw[if_pos hbt];rfl)
    |(refine⟨_,_,?_,ar [1,2,4,5,6,7,13,14,15,26,27,28],j+1,ω,rfl,?_⟩
      ·omega
      ·rw[uC ω];unfold blC;rw[if_neg hbn];rfl)
   have hbn:¬(¬((m.nx.getD k []).getD j 0)= -1∧red.getD ((m.nx.getD k []).getD j 0).toNat false=false):=by have hq:=hc23;intro hh;simp_all
   refine au (k19 _ (kp [1,2,4,5,6,7,10,13,14,15,26,27,28,29,40] ?_));refine zR5 (h:=?_)
   first
   |(refine⟨_,_,?_,ar [1,2,4,5,6,7,13,14,15,26,27,28],j+1,ω,rfl,?_⟩
     ·omega
     ·rw[uC ω];unfold blC;rw[if_pos hbt];rfl)
   |(refine⟨_,_,?_,ar [1,2,4,5,6,7,13,14,15,26,27,28],j+1,ω,rfl,?_⟩
     ·omega
     ·rw[uC ω];unfold blC;rw[if_neg hbn];rfl)
  refine aL ?_;refine k9 _ (kp [1,2,4,5,6,7,13,14,15,26,27,28,29] ?_);refine zR5 (h:=?_)
  first
  |(refine⟨_,_,?_,ar [1,2,4,5,6,13,14,15],k+1,ω,rfl,?_⟩
    ·omega
    ·rw[iv,if_neg (by rw[hrd];decide)];rfl)
  |(have hjr:(m.nx.getD k []).take j=(m.nx.getD k []):=List.take_of_length_le ω
    refine⟨_,_,?_,ar [1,2,4,5,6,13,14,15],k+1,ω,rfl,?_⟩
    ·omega
    ·rw[hjr,iv,if_pos hrd];rfl)
 refine aL ?_;refine k3 _ (kp [1,2,4,5,6,13,14,15,16] ?_);refine zT5 [1,2,4,5,6,13,14,15,16] ?_;refine aA ?_;refine zZm ?_;rw[show k=red.length by omega]
 all_goals rfl
def Lz (L0:List AO)(k n:Nat)(es:List (KV×Int))(x y:Int)(hk:L0[k]? =some (.mp 143 .int es))(hF:L0.all (ci L0.length)=true)(hn:n≤1000000)(h0:0≤y)(h1:y<n):cS Tryz.prog L0 105 [.agg [.mpv k],.one (.int .i64 x),.one (.int .i64 y)] {av:=.tup [],upd:=[(k,.mp 143 .int (f0 es (.int y) x))],new:=[.vars 145 [.mpv k]],fp:=List.range L0.length}:=by
 refine fe _ _ Tryz.func105 rfl ζ (Nat.le_of_ble_eq_true rfl) (by intro k hk;exact List.mem_range.2 hk) (λC hP hN hB=>?_);replace hB:C.bL.length=L0.length:=by rw[hB];skip
 replace hN:C.N=10:=hN;simp only[cr,J];refine Hm bz [0,1,2,3] ?_;have hlt:=(Δ.1 hk).1;have hL1:(L0++[.vars 145 [.mpv k]])[L0.length]? =some (.vars 145 [.mpv k]):=η;have hL2:(L0++[.vars 145 [.mpv k]])[k]? =some (.mp 143 .int es):=by rw[List.getElem?_append_left hlt];exact hk
 have hL3:∀ X:AO,(L0++[(.vars 145 [.mpv k]:AO)]).set k X=L0.set k X++[(.vars 145 [.mpv k]:AO)]:=λX=>by rw[List.set_append,if_pos hlt]
 refine am hP hN rfl ?_
 iterate 4 (refine aw rfl λ_ k0=>?_;simp only[zO,zT,acs,reduceCtorEq,ad,J,ae,aj,af,ag,bz,Option.map_some,hL1,hL2,valOf];(repeat refine And.intro (by first|omega|assumption|exact rfl|exact⟨ω,ω⟩) ?_);(try refine .inl ?_);apply k0;clear k0;simp only[zP,J,hL3])
 (refine aw rfl λ_ k0=>?_;simp only[zE,op1,ev,lkp,cT,cA,cq,dR,Nat.mul_one,bY,d6,acs,Ty.dflt,zG,cQ,fM,bz,valOf,reduceCtorEq,ad,J,ae,aj,af,ag,Tryz.mk143,Tryz.st145,Tryz.td145,Tryz.td3,bz,Option.map_some,hL1,hL2,valOf];(repeat refine And.intro (by first|omega|assumption|exact rfl|exact⟨ω,ω⟩) ?_);(try refine .inl ?_);apply k0;clear k0;simp only[zP,J,hL3])
 refine ah ?_;refine⟨by first|exact .inl rfl|exact .inr rfl,_,rfl,?_⟩;simp only[zP,ad,J,bz,Option.map_some]
 all_goals first|rfl|(exact⟨rfl,rfl⟩)|simp[app,cE]
def OP (L0:List AO)(k n:Nat)(es:List (KV×Int))(x y:Int)(hk:L0[k]? =some (.mp 143 .int es))(hF:L0.all (ci L0.length)=true)(hn:n≤1000000)(h0:0≤y)(h1:y<n):
 cS Tryz.prog L0 105 [.agg [.mpv k],.one (.int .i64 x),.one (.int .i64 y)] {av:=.tup [],upd:=[(k,.mp 143 .int (f0 es (.int y) x))],fp:=List.range L0.length}:=
 Cw (Lz L0 k n es x y hk hF hn h0 h1) (λk hk=>List.mem_range.2 hk) rfl (LU hF rfl)
def xh (L0:List AO)(k n:Nat)(es:List (KV×Int))(x:Int)(hk:L0[k]? =some (.mp 143 .int es))(hF:L0.all (ci L0.length)=true)(hu:UPOK n es)(hn:n≤1000000)(h0:0≤x)(h1:x<n):cS Tryz.prog L0 104 [.agg [.mpv k],.one (.int .i64 x)] {av:=.one (.int .i64 (bm es x)),fp:=List.range L0.length}:=by
 refine fe _ _ Tryz.func104 rfl ζ (Nat.le_of_ble_eq_true rfl) (by intro k hk;exact List.mem_range.2 hk) (λC hP hN hB=>?_);replace hB:C.bL.length=L0.length:=by rw[hB];skip
 replace hN:C.N=18:=hN;simp only[cr,J];refine Hm bz [0,1,2,4] ?_;refine ay ?_;refine aM (λn2 s2=>∃ (x2:Int),(0≤x2)∧(x2<n)∧(bm es x=bm es x2)∧n2=x2.toNat+1∧s2={env:=[(1,.one (.int .i64 x2)),(2,.one (.ptr L0.length 0 0 0)),(4,.one (.int .i64 0))],L:=(L0++[.vars 145 [.mpv k]])}) ?_ ?_
 ·exact⟨_,_,ar [1,2,4],x,h0,h1,rfl,rfl,rfl⟩
 rintro n2 s2 ⟨x2,hx0,hx1,hrp,rfl,rfl⟩;refine ay ?_;refine aa λ_ k3=>?_;have hL1:(L0++[.vars 145 [.mpv k]])[L0.length]? =some (.vars 145 [.mpv k]):=η;have hL2:(L0++[.vars 145 [.mpv k]])[k]? =some (.mp 143 .int es):=by rw[List.getElem?_append_left (Δ.1 hk).1];exact hk
 refine am hP hN rfl ?_
 iterate 3 refine JN (And.intro bz (And.intro hL1 hL2)) ?_
 (refine aw rfl λ_ k0=>?_;simp only[zE,op1,ev,lkp,cT,cA,cq,dR,Nat.mul_one,bY,d6,acs,Ty.dflt,zG,cQ,lO,bz,VK.ac,i5,reduceCtorEq,ad,J,ae,aj,af,ag,Tryz.mk143,Tryz.st145,Tryz.td1,Tryz.td145,Tryz.td3,Tryz.td4,bz,Option.map_some,hL1,hL2];(repeat refine And.intro (by first|omega|assumption|exact rfl|exact⟨ω,ω⟩) ?_);(try refine .inl ?_);apply k0;clear k0;simp only[zP,J])
 iterate 5 refine JN (And.intro bz (And.intro hL1 hL2)) ?_
 refine ah (k3 _ (kp [1,2,4,5,6] ?_));refine aa λ_ k4=>?_;refine Hm bz [1,2,4,5,6,15] ?_;refine cB (λhc6=>?_) (λhc6=>?_)
 ·have hnn:bC es (.int x2)=none:=by have hq:=hc6;simpa using hq
  refine Hm bz [1,2,4,5,6,15] ?_;refine kp [4] ?_;refine eS (L1:=L0) rfl (by rw[hB];exact Υ _) rfl hF ?_;refine aA ?_;refine⟨by first|exact .inl rfl|exact .inr rfl,_,rfl,?_⟩;simp only[zP,ad,J,bz,Option.map_some];rw[hrp,dE hnn]
  all_goals rfl
 obtain⟨y,hy⟩:∃ y,bC es (.int x2)=some y:=Option.isSome_iff_exists.1 (by have hq:=hc6;simpa using hq);have hyl:=hu.look hy;rw[hy];simp only[Option.getD_some,Option.isSome_some];refine au (k4 _ (kp [1,2,4,5,6,15] ?_));refine Vv bz (h:=?_);refine⟨_,_,?_,ar [1,2,4],y,hyl.1,ω,hrp.trans (hu.step hy),rfl,rfl⟩;omega
def Iq (n:Nat)(h1:n≤1000000):gK Tryz.prog 56 [.one (.int .i64 (n:Int))] Θ 3 ((unk n)):=by
 refine dO Tryz.func56 rfl ζ (Nat.le_of_ble_eq_true rfl) rfl λC hP hN hB=>?_;replace hN:C.N=17:=hN;simp only[cr,J];refine zT2 [0,2] ?_;refine aa λK2 k2=>am hP hN rfl ?_;refine zS3 ?_
 (refine aw rfl λ_ k0=>?_;simp only[zE,op1,ev,lkp,cT,cA,cH,bH,Ty.size,Ty.dflt,reduceCtorEq,ad,J,ae,aj,af,ag,Tryz.el26,Tryz.td26,Tryz.td3];(repeat refine an ?_);(try refine .inl ?_);apply k0;clear k0;simp only[zP,J])
 refine zS3 ?_;refine ah (k2 _ (kp [0,2,3] ?_));refine aa λ_ k3=>?_;refine zT2 [0,2,3,8,9] ?_;refine ay ?_;refine aM (λn5 s5=>∃ (k:Nat),(k≤n)∧n5=n-k∧s5={env:=[(2,.one .nils),(3,.one (.row 0 0)),(8,.one (.int .i64 (n:Int))),(9,.one (.int .i64 (k:Int)))],L:=[.row Θ 3 0 (pu n k)]}) ?_ ?_
 ·exact⟨_,_,ar [2,3,8,9],0,Nat.zero_le _,rfl,by rw[R7];simp only[aB];rfl⟩
 rintro n5 s5 ⟨k,hk,rfl,rfl⟩;refine zT2 [2,3,8,9,10] ?_;refine aa λ_ k7=>?_;refine cB (λhc8=>?_) (λhc8=>?_)
 ·refine au ?_
  refine k7 _ (kp [2,3,8,9,10] ?_);refine aa λ_ k9=>?_;refine ay ?_;refine zT2 [2,3,4,8,9,10] ?_;have hrl:=KP hk;refine vz (h:=k9 _ (kp [2,3,4,8,9,10] ?_));refine zR2 (h:=?_);refine⟨_,_,?_,ar [2,3,8,9],k+1,ω,rfl,?_⟩
  ·omega
  ·rw[Lc ω];rfl
 refine aL ?_;refine k3 _ (kp [2,3,8,9,10] ?_);refine aa λ_ k11=>?_;have hkn:k=n:=ω;subst hkn;rw[Lk];refine zR2 (h:=k11 _ (kp [2,3,8,9,10] ?_));refine aA ?_;refine⟨by first|exact .inl rfl|exact .inr rfl,_,rfl,_,_,rfl,?_⟩
 rfl
def lR (n:Int)(h0:0≤n)(h1:n≤1000000):gK Tryz.prog 56 [.one (.int .i64 n)] Θ 3 (unk n.toNat):=by
 have h:=Iq n.toNat ω;rw[Int.toNat_of_nonneg h0] at h;exact h
def Hb (m:Mly)(hm:PK m):aY Tryz.prog 57 [m.av] (.tup [m.rnP.av,.one (.list Θ m.rnN)]):=by
 refine zQ 127 Tryz.func57 λC hP hN hB=>?_;have h1:=hm.s1;have h2:=hm.s2;have h3:=hm.n2;have h4:=hm.n1;have hi1:=hm.i1;have hi2:=hm.i2;have hol:=hm.ol;have hid:((m.inp.toNat:Nat):Int)=m.inp:=by omega
 have huo:=hm.uoR;have hul:=huo.len;have hrnl:m.rnN.length=m.nx.length:=nO _ _;refine zT5 [0,1,2,3] ?_;refine aa λK2 k2=>am hP hN rfl ?_
 iterate 3 refine zS6 ?_
 refine zC8 (gD (Iq m.nx.length ω)) ?_;refine zS6 ?_;refine ah (k2 _ (kp [0,1,2,3,4] ?_));refine aa λK3 k3=>am hP hN rfl ?_
 iterate 5 (refine aw rfl λ_ k0=>?_;simp only[zO,zT,acs,reduceCtorEq,ad,J,ae,aj,af,ag,Mly.av,nM];(repeat refine an ?_);(try refine .inl ?_);apply k0;clear k0;simp only[zP,J])
 refine ah (k3 _ (kp [0,1,2,3,4] ?_));refine aa λK4 k4=>am hP hN rfl ?_
 iterate 2 refine zS6 ?_
 refine IU ?_;refine zS6 ?_;refine ah (k4 _ (kp [0,1,2,3,4,5] ?_));refine aa λ_ k5=>?_;refine zT5 [0,1,2,3,4,5,6] ?_;refine ay ?_;refine aM (λn7 s7=>∃ (i:Nat) (l:List Int) (v:Nat),(RSet m.nx.length l)∧(m.uf (m.nx.length+1-i) i l=m.uo)∧(i≤l.length)∧n7=m.nx.length+1-i∧s7={env:=[(1,.one (.ptr 0 0 0 0)),(2,.one (.ptr 1 0 0 0)),(3,.one .nils),(4,.one (.row 2 0)),(5,.one (.row 3 v)),(6,.one (.int .i64 (i:Int)))],L:=[.vars 38 [.int .i64 m.inp,.int .i64 m.st,.list Γ m.nx,.list Γ m.ot],.vars 38 [.int .i64 0,.int .i64 0,.nils,.nils],.row Θ 3 0 (nbO m.nx.length l),.row Θ 3 v l]}) ?_ ?_
 ·exact⟨_,_,ar [1,2,3,4,5,6],0,[m.st],0,hm.one,rfl,Nat.zero_le _,rfl,by rw[← PJ hm.s1 hm.s2];rfl⟩
 rintro n7 s7 ⟨i,l,v,hrs,huf,hil0,rfl,rfl⟩;refine aa λ_ k8=>?_;refine aa λK9 k9=>am hP hN rfl ?_
 iterate 4 (refine aw rfl λ_ k0=>?_;simp only[zO,zT,acs,reduceCtorEq,ad,J,ae,aj,af,ag,Mly.av,az];(repeat refine an ?_);(try refine .inl ?_);apply k0;clear k0;simp only[zP,J])
 refine ah (k9 _ (kp [1,2,3,4,5,6,30] ?_));refine cB (λhc10=>?_) (λhc10=>?_)
 ·refine au ?_
  refine k8 _ (kp [1,2,3,4,5,6,30] ?_);refine aa λ_ k11=>?_;refine ay ?_;refine aa λ_ k12=>?_;have hil:i<l.length:=ω;have hat:=hrs.at_ hil;have hrl:=hm.rl (l.getD i 0).toNat ω;have hrl2:((m.row (l.getD i 0)).length:Int)=m.inp:=hrl;have hle:=hrs.len;refine bu hP hN Tryz.mixed rfl ?_
  iterate 10 refine Dd ?_
  refine ah ?_;refine⟨ζ,?_⟩;refine k12 _ (kp [1,2,3,4,5,6,30,40,41,42] ?_);refine ay ?_;refine aM (λn13 s13=>∃ (j:Nat) (v2:Nat),(j≤(m.row (l.getD i 0)).length)∧(RSet m.nx.length (((m.row (l.getD i 0)).take j).foldl addU l))∧n13=(m.row (l.getD i 0)).length-j∧s13={env:=[(1,.one (.ptr 0 0 0 0)),(2,.one (.ptr 1 0 0 0)),(3,.one .nils),(4,.one (.row 2 0)),(5,.one (.row 3 v2)),(6,.one (.int .i64 (i:Int))),(40,.one (.list Θ (m.row (l.getD i 0)))),(41,.one (.int .i64 ((m.row (l.getD i 0)).length:Int))),(42,.one (.int .i64 (j:Int)))],L:=[.vars 38 [.int .i64 m.inp,.int .i64 m.st,.list Γ m.nx,.list Γ m.ot],.vars 38 [.int .i64 0,.int .i64 0,.nils,.nils],.row Θ 3 0 (nbO m.nx.length (((m.row (l.getD i 0)).take j).foldl addU l)),.row Θ 3 v2 (((m.row (l.getD i 0)).take j).foldl addU l)]}) ?_ ?_
  ·exact⟨_,_,ar [1,2,3,4,5,6,40,41,42],0,v,Nat.zero_le _,hm.tk hrs hat.1 hat.2 0,rfl,rfl⟩
  rintro n13 s13 ⟨j,v2,hj0,hUR2,rfl,rfl⟩;refine zT5 [1,2,3,4,5,6,40,41,42,43] ?_;refine aa λ_ k15=>?_;refine cB (λhc16=>?_) (λhc16=>?_)
  ·refine au ?_
   refine k15 _ (kp [1,2,3,4,5,6,40,41,42,43] ?_);refine aa λ_ k17=>?_;refine ay ?_;refine lE [1,2,3,4,5,6,8,40,41,42,43] ?_;refine aa λ_ k19=>?_;have hnr: -1≤((m.row (l.getD i 0)).getD j 0)∧((m.row (l.getD i 0)).getD j 0)<m.nx.length:=hm.nr (l.getD i 0).toNat j ω ω;have hUR:=hm.tk hrs hat.1 hat.2 j;have hUl:=hUR.len;refine am hP hN rfl ?_
   iterate 3 refine MH ?_
   refine' zJ true 5 48 (λhg20=>?a20) ?b20 ?c20
   case a20=>
    have hq20:=hg20;(try simp only[zB,reduceCtorEq] at hg20);simp only[zE]
    iterate 5 (refine da rfl λ_ k0=>?_;simp only[zO,zT,acs,reduceCtorEq,ad,J,ae,aj,af,ag,Mly.av,nO];(repeat refine an ?_);(try refine .inl ?_);apply k0;clear k0;simp only[zP,J])
    refine MH ?_;refine ah ?_;exact zK hq20
   case b20=>exact cG
   simp only[bh,aX];refine ah (k19 _ (kp [1,2,3,4,5,6,8,40,41,42,43,54] ?_));refine cB (λhc21=>?_) (λhc21=>?_)
   ·have hc9:=hc21
    refine aa λK22 k22=>am hP hN rfl ?_
    iterate 6 refine MH ?_
    refine ah (k22 _ (kp [1,2,3,4,5,6,8,40,41,42,43,54] ?_));refine zR5 (h:=k17 _ (kp [1,2,3,4,5,6,8,40,41,42,43,54] ?_));refine zR5 (h:=?_)
    first
    |(have e1:addU (((m.row (l.getD i 0)).take j).foldl addU l) ((m.row (l.getD i 0)).getD j 0)=(((m.row (l.getD i 0)).take j).foldl addU l)++[((m.row (l.getD i 0)).getD j 0)]:=sG hc9.1 ((lM ω ω).1 hc9.2)
      have e2:=wc (n:=m.nx.length) (od:=(((m.row (l.getD i 0)).take j).foldl addU l)) (t:=((m.row (l.getD i 0)).getD j 0)) ω ω ((lM ω ω).1 hc9.2);refine⟨_,_,?_,ar [1,2,3,4,5,6,40,41,42],j+1,v2+1,ω,hm.tk hrs hat.1 hat.2 (j+1),rfl,?_⟩
      ·omega
      ·rw[jn ω,e1,← e2];rfl)
    |(have e1:addU (((m.row (l.getD i 0)).take j).foldl addU l) ((m.row (l.getD i 0)).getD j 0)=(((m.row (l.getD i 0)).take j).foldl addU l):=by
       by_cases q1:((m.row (l.getD i 0)).getD j 0)= -1
       ·rw[q1,rG]
       ·refine vE (Decidable.byContradiction λq2=>?_)
        have q3:=(lM (n:=m.nx.length) ω ω).2 q2
        simp_all
      refine⟨_,_,?_,ar [1,2,3,4,5,6,40,41,42],j+1,v2,ω,hm.tk hrs hat.1 hat.2 (j+1),rfl,?_⟩
      ·omega
      ·rw[jn ω,e1];rfl)
   have hc9:=hc21;refine au (k17 _ (kp [1,2,3,4,5,6,8,40,41,42,43,54] ?_));refine zR5 (h:=?_)
   first
   |(have e1:addU (((m.row (l.getD i 0)).take j).foldl addU l) ((m.row (l.getD i 0)).getD j 0)=(((m.row (l.getD i 0)).take j).foldl addU l)++[((m.row (l.getD i 0)).getD j 0)]:=sG hc9.1 ((lM ω ω).1 hc9.2)
     have e2:=wc (n:=m.nx.length) (od:=(((m.row (l.getD i 0)).take j).foldl addU l)) (t:=((m.row (l.getD i 0)).getD j 0)) ω ω ((lM ω ω).1 hc9.2);refine⟨_,_,?_,ar [1,2,3,4,5,6,40,41,42],j+1,v2+1,ω,hm.tk hrs hat.1 hat.2 (j+1),rfl,?_⟩
     ·omega
     ·rw[jn ω,e1,← e2];rfl)
   |(have e1:addU (((m.row (l.getD i 0)).take j).foldl addU l) ((m.row (l.getD i 0)).getD j 0)=(((m.row (l.getD i 0)).take j).foldl addU l):=by
      by_cases q1:((m.row (l.getD i 0)).getD j 0)= -1
      ·rw[q1,rG]
      ·refine vE (Decidable.byContradiction λq2=>?_)
       have q3:=(lM (n:=m.nx.length) ω ω).2 q2
       simp_all
     refine⟨_,_,?_,ar [1,2,3,4,5,6,40,41,42],j+1,v2,ω,hm.tk hrs hat.1 hat.2 (j+1),rfl,?_⟩
     ·omega
     ·rw[jn ω,e1];rfl)
  refine aL ?_;refine k11 _ (kp [1,2,3,4,5,6,40,41,42,43] ?_);refine zR5 (h:=?_);have hje:j=(m.row (l.getD i 0)).length:=ω;subst hje;rw[aP] at hUR2;have hle2:=hUR2.len;refine⟨_,_,?_,ar [1,2,3,4,5,6],i+1,(m.row (l.getD i 0)).foldl addU l,v2,hUR2,?_,?_,rfl,?_⟩
  ·omega
  ·rw[← huf,show m.nx.length+1-i=(m.nx.length+1-(i+1))+1 by omega,wM m _ _ _ hil]
  ·obtain⟨k9,hk9⟩:=kr (m.row (l.getD i 0)) l
   rw[hk9,aq];omega
  ·rw[aP];rfl
 refine aL ?_;refine k5 _ (kp [1,2,3,4,5,6,30] ?_);refine aa λ_ k23=>?_;have hl9:l=m.uo:=by rw[← huf];exact(BH m _ _ _ ω).symm
 subst hl9;refine cz 3 rfl ?_;simp only[aJ,aV,zS,ad,zW,reduceCtorEq];refine cz 2 rfl ?_;simp only[aJ,aV,zS,ad,zW,reduceCtorEq];refine zR5 (h:=k23 _ (kp [1,2,3,4,5,6,9,30] ?_));refine aa λ_ k24=>?_;refine aa λ_ k25=>?_;refine ep 4 2 Γ 26 δ rfl rfl ?_;simp only[zS,ax,aF,aG,aC,Nat.zero_add,J];refine ep 4 3 Γ 26 δ rfl rfl ?_;simp only[zS,ax,aF,aG,aC,Nat.zero_add,J];refine zR5 (h:=k25 _ (kp [1,2,3,4,5,6,9,30,68,69,70] ?_));refine ay ?_;refine aM (λn26 s26=>∃ (k:Nat),(k≤m.uo.length)∧n26=m.uo.length-k∧s26={env:=[(1,.one (.ptr 0 0 0 0)),(2,.one (.ptr 1 0 0 0)),(3,.one .nils),(4,.one (.list Θ m.rnN)),(9,.one (.ptr 4 0 0 0)),(68,.one (.list Θ m.uo)),(69,.one (.int .i64 (m.uo.length:Int))),(70,.one (.int .i64 (k:Int)))],L:=[.vars 38 [.int .i64 m.inp,.int .i64 m.st,.list Γ m.nx,.list Γ m.ot],.vars 38 [.int .i64 0,.int .i64 0,.nils,.nils],.dead 0,.dead v,.vars 38 [.int .i64 m.inp,.int .i64 0,.row 5 k,.row 6 k],.row Γ 26 k (q9 m k),.row Γ 26 k (qB m k)]}) ?_ ?_
 ·exact⟨_,_,ar [1,2,3,4,9,68,69,70],0,Nat.zero_le _,rfl,rfl⟩
 rintro n26 s26 ⟨k,hk0,rfl,rfl⟩;refine zT5 [1,2,3,4,9,68,69,70,71] ?_;refine aa λ_ k28=>?_;refine cB (λhc29=>?_) (λhc29=>?_)
 ·refine au ?_
  refine k28 _ (kp [1,2,3,4,9,68,69,70,71] ?_);refine aa λ_ k30=>?_;refine ay ?_;refine lE [1,2,3,4,9,11,68,69,70,71] ?_;refine aa λ_ k32=>?_;have hkl:k<m.uo.length:=ω;have hak:=huo.at_ hkl;have hrl:=hm.rl (m.uo.getD k 0).toNat ω;have hrl2:((m.row (m.uo.getD k 0)).length:Int)=m.inp:=hrl;have hql:=hm.ql (m.uo.getD k 0).toNat ω;refine dp ?_;simp only[aG,List.append_assoc,aC];refine dp ?_;simp only[aG,List.append_assoc,aC];refine bu hP hN Tryz.mixed rfl ?_
  iterate 2 refine zS6 ?_
  refine zC8 (ff (k:=7) rfl (lR m.inp ω ω)) ?_
  iterate 2 refine zS6 ?_
  refine zC8 (ff (k:=8) rfl (lR m.inp ω ω)) ?_
  iterate 2 refine zS6 ?_
  refine ah ?_;refine⟨ζ,?_⟩;refine k32 _ (kp [1,2,3,4,9,11,12,13,68,69,70,71] ?_);refine aa λ_ k33=>?_;refine aa λ_ k34=>?_;rw[show unk m.inp.toNat=unk (m.row (m.uo.getD k 0)).length by congr 1;omega];refine J9 (h:=k34 _ (kp [1,2,3,4,9,11,12,13,68,69,70,71,84,85,86] ?_));refine ay ?_;refine aM (λn35 s35=>∃ (j:Nat),(j≤(m.row (m.uo.getD k 0)).length)∧n35=(m.row (m.uo.getD k 0)).length-j∧s35={env:=[(1,.one (.ptr 0 0 0 0)),(2,.one (.ptr 1 0 0 0)),(3,.one .nils),(4,.one (.list Θ m.rnN)),(9,.one (.ptr 4 0 0 0)),(11,.one (.int .i64 (m.uo.getD k 0))),(12,.one (.row 7 1)),(13,.one (.row 8 1)),(68,.one (.list Θ m.uo)),(69,.one (.int .i64 (m.uo.length:Int))),(70,.one (.int .i64 (k:Int))),(84,.one (.list Θ (m.row (m.uo.getD k 0)))),(85,.one (.int .i64 ((m.row (m.uo.getD k 0)).length:Int))),(86,.one (.int .i64 (j:Int)))],L:=[.vars 38 [.int .i64 m.inp,.int .i64 m.st,.list Γ m.nx,.list Γ m.ot],.vars 38 [.int .i64 0,.int .i64 0,.nils,.nils],.dead 0,.dead v,.vars 38 [.int .i64 m.inp,.int .i64 0,.row 5 k,.row 6 k],.row Γ 26 k (q9 m k),.row Γ 26 k (qB m k),.row Θ 3 1 (nxT m (m.uo.getD k 0) j),.row Θ 3 1 (otT m (m.uo.getD k 0) j)]}) ?_ ?_
  ·exact⟨_,_,ar [1,2,3,4,9,11,12,13,68,69,70,84,85,86],0,Nat.zero_le _,rfl,by rw[TL,TU];rfl⟩
  rintro n35 s35 ⟨j,hj0,rfl,rfl⟩;refine zT5 [1,2,3,4,9,11,12,13,68,69,70,84,85,86,87] ?_;refine aa λ_ k37=>?_;refine cB (λhc38=>?_) (λhc38=>?_)
  ·refine au ?_
   refine k37 _ (kp [1,2,3,4,9,11,12,13,68,69,70,84,85,86,87] ?_);refine aa λ_ k39=>?_;refine ay ?_;refine lE [1,2,3,4,9,11,12,13,14,15,68,69,70,84,85,86,87] ?_;refine zT5 [1,2,3,4,9,11,12,13,14,15,68,69,70,84,85,86,87,92] ?_;refine cB (λhc42=>?_) (λhc42=>?_)
   ·have hc9:=hc42
    have hnr: -1≤(m.row (m.uo.getD k 0)).getD j 0∧(m.row (m.uo.getD k 0)).getD j 0<m.nx.length:=hm.nr (m.uo.getD k 0).toNat j ω ω;have hxl:=Ok m (m.uo.getD k 0) (j:=j) ω;have hxo:=OQ m (m.uo.getD k 0) (j:=j) ω;refine bu hP hN Tryz.mixed rfl ?_
    iterate 20 (refine aw rfl λ_ k0=>?_;simp only[zO,zT,acs,reduceCtorEq,ad,J,ae,aj,af,ag,Mly.av,gt,az,nO];(repeat refine an ?_);(try refine .inl ?_);apply k0;clear k0;simp only[zP,J])
    refine ah ?_;refine⟨ζ,?_⟩;refine k39 _ (kp [1,2,3,4,9,11,12,13,14,15,68,69,70,84,85,86,87,92] ?_);refine zR5 (h:=?_)
    first
    |(refine⟨_,_,?_,ar [1,2,3,4,9,11,12,13,68,69,70,84,85,86],j+1,ω,rfl,?_⟩
      ·omega
      ·rw[Cg ω hc9,Db ω hc9];rfl)
    |(refine⟨_,_,?_,ar [1,2,3,4,9,11,12,13,68,69,70,84,85,86],j+1,ω,rfl,?_⟩
      ·omega
      ·rw[DB ω hc9,Ee ω hc9];rfl)
   have hc9:=hc42;refine au (k39 _ (kp [1,2,3,4,9,11,12,13,14,15,68,69,70,84,85,86,87,92] ?_));refine zR5 (h:=?_)
   first
   |(refine⟨_,_,?_,ar [1,2,3,4,9,11,12,13,68,69,70,84,85,86],j+1,ω,rfl,?_⟩
     ·omega
     ·rw[Cg ω hc9,Db ω hc9];rfl)
   |(refine⟨_,_,?_,ar [1,2,3,4,9,11,12,13,68,69,70,84,85,86],j+1,ω,rfl,?_⟩
     ·omega
     ·rw[DB ω hc9,Ee ω hc9];rfl)
  refine aL ?_;refine k33 _ (kp [1,2,3,4,9,11,12,13,68,69,70,84,85,86,87] ?_);have hxl:=LF (m:=m) (k:=k) ω;have hxo:=KJ (m:=m) (k:=k) ω;have hje:j=(m.row (m.uo.getD k 0)).length:=ω;subst hje;rw[Of,Mj];refine cz 7 rfl ?_;simp only[aJ,aV,zS,ad,zW,reduceCtorEq];refine cz 8 rfl ?_;simp only[aJ,aV,zS,ad,zW,reduceCtorEq];refine bu hP hN Tryz.mixed rfl ?_
  iterate 14 refine zS6 ?_
  refine ah ?_;refine⟨ζ,?_⟩;refine k30 _ (kp [1,2,3,4,9,11,12,13,68,69,70,84,85,86,87] ?_);refine dM (n:=8) (L1:=[_,_,_,_,_,_,_,_]) rfl rfl (by rw[hB];decide) rfl rfl ?_;refine dM (n:=7) (L1:=[_,_,_,_,_,_,_]) rfl rfl (by rw[hB];decide) rfl rfl ?_;refine zR5 (h:=?_);refine⟨_,_,?_,ar [1,2,3,4,9,68,69,70],k+1,ω,rfl,?_⟩
  ·omega
  ·rw[GI ω,Fg ω];rfl
 refine aL ?_;refine k24 _ (kp [1,2,3,4,9,68,69,70,71] ?_);refine aa λ_ k43=>?_;have hke:k=m.uo.length:=ω;subst hke;rw[Kv,LD];refine eF 5 4 rfl rfl ?_;simp only[aJ,aV,frC,zS,ad,zW,reduceCtorEq];refine eF 6 4 rfl rfl ?_;simp only[aJ,aV,frC,zS,ad,zW,reduceCtorEq];refine zR5 (h:=k43 _ (kp [1,2,3,4,9,68,69,70,71] ?_));refine aA ?_;refine zZm ?_
 all_goals rfl
def Mo (m:Mly)(hm:PK m)(sa ta:Int)(hsa:0≤sa∧sa<m.nx.length)(hta:0≤ta∧ta<m.nx.length):aY Tryz.prog 58 [m.av,.one (.int .i64 sa),.one (.int .i64 ta)] (.tup [(foP m sa ta).av,.one (.list Θ (foC m sa ta)),.one (.bool (foB m sa ta))]):=by
 refine zQ 235 Tryz.func58 λC hP hN hB=>?_;have h1:=hm.s1;have h2:=hm.s2;have h3:=hm.n2;have h4:=hm.n1;have hi1:=hm.i1;have hi2:=hm.i2;have hol:=hm.ol;have hF0:mP m.nx.length (gM m sa ta)=m.nx.length*65+1:=rfl;refine zT5 [0,1,2,3,6,7,8] ?_;refine zT5 [0,1,2,3,6,7,8,9] ?_;refine aa λ_ k3=>?_;refine aa λ_ k4=>?_;refine nN 2 2 1 26 δ rfl rfl ?_;simp only[zS,ax,aF,aG,aC,Nat.zero_add,J];refine nN 2 3 1 26 δ rfl rfl ?_;simp only[zS,ax,aF,aG,aC,Nat.zero_add,J];refine dp ?_;simp only[aG,List.append_assoc,aC];refine zR5 (h:=k4 _ (kp [0,1,2,3,6,7,8,9,29,30] ?_));refine ay ?_;refine aM (λn5 s5=>∃ (k:Nat),(k≤m.nx.length)∧n5=m.nx.length-k∧s5={env:=[(1,.one (.int .i64 sa)),(2,.one (.int .i64 ta)),(3,.one (.ptr 0 0 0 0)),(6,.one (.ptr 1 0 0 0)),(7,.one .nils),(8,.one (.bool false)),(9,.one (.ptr 2 0 0 0)),(29,.one (.int .i64 (m.nx.length:Int))),(30,.one (.int .i64 (k:Int)))],L:=.vars 38 [.int .i64 m.inp,.int .i64 m.st,.list Γ m.nx,.list Γ m.ot]:: .vars 38 [.int .i64 0,.int .i64 0,.nils,.nils]:: .vars 38 [.int .i64 m.inp,.int .i64 0,.rwc 3 k,.rwc 4 k]:: .rowc 26 1 k (frN 2 k):: .rowc 26 1 k (frQ 2 k):: .dead (2*k)::frX 3 2 (m.nx.take k) (m.ot.take k) []}) ?_ ?_
 ·exact⟨_,_,ar [1,2,3,6,7,8,9,29,30],0,Nat.zero_le _,rfl,rfl⟩
 rintro n5 s5 ⟨k,hk0,rfl,rfl⟩;refine zT5 [1,2,3,6,7,8,9,29,30,31] ?_;refine aa λ_ k7=>?_;refine cB (λhc8=>?_) (λhc8=>?_)
 ·refine au ?_
  refine k7 _ (kp [1,2,3,6,7,8,9,29,30,31] ?_);refine aa λ_ k9=>?_;refine ay ?_;refine zT5 [1,2,3,6,7,8,9,10,29,30,31] ?_;refine aa λ_ k11=>?_;have hkl:k<m.nx.length:=ω;have hrl:=hm.rl k hkl;have hnk:(m.nx.take k).length=k:=by rw[List.length_take];omega
  have hln:(m.ot.take k).length=(m.nx.take k).length:=by rw[List.length_take,List.length_take];omega
  refine dp ?_;simp only[aG,List.append_assoc,aC];simp only[iG,aC];have g5a:(frX 3 2 (m.nx.take k) (m.ot.take k) [.dead 0])[2*k]? =some (.dead 0):=fP hln hnk 0;have g5b:(frX 3 2 (m.nx.take k) (m.ot.take k) [.dead 0]).set (2*k) (.row Θ 3 1 [])=frX 3 2 (m.nx.take k) (m.ot.take k) [.row Θ 3 1 []]:=iA hln hnk 0 _;have g5c:(frX 3 2 (m.nx.take k) (m.ot.take k) [.row Θ 3 1 []])[2*k]? =some (.row Θ 3 1 []):=fP hln hnk 0;have g5d:(frX 3 2 (m.nx.take k) (m.ot.take k) [.row Θ 3 1 []]).set (2*k) (.row Θ 3 2 (m.nx.getD k []))=frX 3 2 (m.nx.take k) (m.ot.take k) [.row Θ 3 2 (m.nx.getD k [])]:=iA hln hnk 0 _;have g5e:=(yJ 2 k).symm;have g5f:=lT 2 k;refine bu hP hN Tryz.mixed rfl ?_
  iterate 2 (refine aw rfl λ_ k0=>?_;simp only[zO,zT,acs,reduceCtorEq,ad,J,ae,aj,af,ag,Mly.av,az,g5a,g5c];(repeat refine an ?_);(try refine .inl ?_);apply k0;clear k0;simp only[zP,J,g5b,g5d,g5e,aC])
  (refine aw rfl λ_ k0=>?_;simp only[zO,zT,acs,reduceCtorEq,ad,J,ae,aj,af,ag,Mly.av,az,g5a,g5c];refine Or.inr (Or.inr (Or.inl ⟨2*k+1+1+1+1+1+1,g5a,?_⟩));refine k0 _ ?_;clear k0;simp only[zP,J,g5b,g5d,g5e,aC])
  iterate 6 (refine aw rfl λ_ k0=>?_;simp only[zO,zT,acs,reduceCtorEq,ad,J,ae,aj,af,ag,Mly.av,az,g5a,g5c];(repeat refine an ?_);(try refine .inl ?_);apply k0;clear k0;simp only[zP,J,g5b,g5d,g5e,aC])
  refine cX (λC9 hC9=>.inl ⟨rfl,dm (t:=.list (.int .i64)) (k:=5) (v9:=2*k) rfl rfl (by rw[hC9];exact Tryz.td22) rfl (by rw[hC9];exact Tryz.td26) rfl rfl δ δ rfl⟩) ?_;simp only[zP,J,g5b,g5d,g5e,aC]
  (refine aw rfl λ_ k0=>?_;simp only[zO,zT,acs,reduceCtorEq,ad,J,ae,aj,af,ag,Mly.av,az,g5a,g5c];refine⟨⟨k,1,⟨(by first|omega|(rw[g5f];simp)|simp),(by first|rfl|simp),δ⟩,ω,ω⟩,k0 _ ?_⟩;clear k0;simp only[zP,J,g5b,g5d,g5e,aC])
  iterate 2 (refine aw rfl λ_ k0=>?_;simp only[zO,zT,acs,reduceCtorEq,ad,J,ae,aj,af,ag,Mly.av,az,g5a,g5c];(repeat refine an ?_);(try refine .inl ?_);apply k0;clear k0;simp only[zP,J,g5b,g5d,g5e,aC])
  refine ah ?_;refine⟨by exact jc (o7 (a:=2*k+6) (b:=2*k+7) (c:=2*k+8) ω ω ω ω ω ω) [([],[2],0),([],[2],0),([6],[6],0),([],[0],0),([],[0],0),([],[],0),([],[],0),([],[],0),([6],[6],0),([5],[5],0),([3],[3,5],0),([],[2],0),([2],[2],0)] ζ,?_⟩;refine k11 _ (kp [1,2,3,6,7,8,9,10,29,30,31] ?_);refine io 5 rfl ?_;simp only[bW,bv,AO.ver];have hql:=hm.ql k hkl;refine dp ?_;simp only[aG,List.append_assoc,aC];simp only[iG,aC,aG];have g6a:(frX 3 2 (m.nx.take k) (m.ot.take k) [.row Θ 3 2 (m.nx.getD k []),.dead 0])[2*k+1]? =some (.dead 0):=fP hln hnk 1;have g6b:(frX 3 2 (m.nx.take k) (m.ot.take k) [.row Θ 3 2 (m.nx.getD k []),.dead 0]).set (2*k+1) (.row Θ 3 1 [])=frX 3 2 (m.nx.take k) (m.ot.take k) [.row Θ 3 2 (m.nx.getD k []),.row Θ 3 1 []]:=iA hln hnk 1 _;have g6c:(frX 3 2 (m.nx.take k) (m.ot.take k) [.row Θ 3 2 (m.nx.getD k []),.row Θ 3 1 []])[2*k+1]? =some (.row Θ 3 1 []):=fP hln hnk 1;have g6d:(frX 3 2 (m.nx.take k) (m.ot.take k) [.row Θ 3 2 (m.nx.getD k []),.row Θ 3 1 []]).set (2*k+1) (.row Θ 3 2 (m.ot.getD k []))=frX 3 2 (m.nx.take k) (m.ot.take k) [.row Θ 3 2 (m.nx.getD k []),.row Θ 3 2 (m.ot.getD k [])]:=iA hln hnk 1 _;have g6e:=(yg 2 k).symm;have g6f:=qR 2 k;refine bu hP hN Tryz.mixed rfl ?_
  iterate 2 (refine aw rfl λ_ k0=>?_;simp only[zO,zT,acs,reduceCtorEq,ad,J,ae,aj,af,ag,Mly.av,az,g6a,g6c];(repeat refine an ?_);(try refine .inl ?_);apply k0;clear k0;simp only[zP,J,g6b,g6d,g6e,aC])
  (refine aw rfl λ_ k0=>?_;simp only[zO,zT,acs,reduceCtorEq,ad,J,ae,aj,af,ag,Mly.av,az,g6a,g6c];refine Or.inr (Or.inr (Or.inl ⟨2*k+1+1+1+1+1+1+1,g6a,?_⟩));refine k0 _ ?_;clear k0;simp only[zP,J,g6b,g6d,g6e,aC])
  iterate 6 (refine aw rfl λ_ k0=>?_;simp only[zO,zT,acs,reduceCtorEq,ad,J,ae,aj,af,ag,Mly.av,az,g6a,g6c];(repeat refine an ?_);(try refine .inl ?_);apply k0;clear k0;simp only[zP,J,g6b,g6d,g6e,aC])
  refine cX (λC9 hC9=>.inl ⟨rfl,dm (t:=.list (.int .i64)) (k:=5) (v9:=2*k+1) rfl rfl (by rw[hC9];exact Tryz.td22) rfl (by rw[hC9];exact Tryz.td26) rfl rfl δ δ rfl⟩) ?_;simp only[zP,J,g6b,g6d,g6e,aC]
  (refine aw rfl λ_ k0=>?_;simp only[zO,zT,acs,reduceCtorEq,ad,J,ae,aj,af,ag,Mly.av,az,g6a,g6c];refine⟨⟨k,1,⟨(by first|omega|(rw[g6f];simp)|simp),(by first|rfl|simp),δ⟩,ω,ω⟩,k0 _ ?_⟩;clear k0;simp only[zP,J,g6b,g6d,g6e,aC])
  iterate 2 (refine aw rfl λ_ k0=>?_;simp only[zO,zT,acs,reduceCtorEq,ad,J,ae,aj,af,ag,Mly.av,az,g6a,g6c];(repeat refine an ?_);(try refine .inl ?_);apply k0;clear k0;simp only[zP,J,g6b,g6d,g6e,aC])
  refine ah ?_;refine⟨by exact jc (o7 (a:=2*k+7) (b:=2*k+8) (c:=2*k+9) ω ω ω ω ω ω) [([],[2],0),([],[2],0),([6],[6],0),([],[0],0),([],[0],0),([],[],0),([],[],0),([],[],0),([6],[6],0),([5],[5],0),([4],[4,5],0),([],[2],0),([2],[2],0)] ζ,?_⟩;refine k9 _ (kp [1,2,3,6,7,8,9,10,29,30,31] ?_);refine io 5 rfl ?_;simp only[bW,bv,AO.ver];refine zR5 (h:=?_);refine⟨_,_,?_,ar [1,2,3,6,7,8,9,29,30],k+1,ω,rfl,?_⟩
  ·omega
  ·rw[ua hkl,ua (show k<m.ot.length by omega),← vA hln,show 2*(k+1)=2*k+1+1 by omega];rfl
 refine aL ?_;refine k3 _ (kp [1,2,3,6,7,8,9,29,30,31] ?_);refine aa λ_ k12=>?_;have hke:k=m.nx.length:=ω;subst hke;have htk1:m.nx.take m.nx.length=m.nx:=aP;have htk2:m.ot.take m.nx.length=m.ot:=by rw[← hol];exact aP
 rw[htk1,htk2];have g8a:(frX 3 2 m.nx m.ot []).length=2*m.nx.length:=np hol;have g8b:(frX 3 2 m.nx m.ot [.mp 143 .int []]).length=2*m.nx.length+1:=np hol;have g8c:∀ x:AO,(frX 3 2 m.nx m.ot [.mp 143 .int [],x])[2*m.nx.length+1]? =some x:=λx=>fP hol rfl 1;have g8d:∀ x y:AO,(frX 3 2 m.nx m.ot [.mp 143 .int [],x]).set (2*m.nx.length+1) y=frX 3 2 m.nx m.ot [.mp 143 .int [],y]:=λx y=>iA hol rfl 1 y;refine am hP hN rfl ?_
 (refine aw rfl λ_ k0=>?_;simp only[zE,op1,ev,lkp,cT,cA,ka,lh,cC,bZ,d4,lV,fE,Nat.mul_one,bH,acs,Ty.size,Ty.dflt,zG,reduceCtorEq,ad,J,ae,aj,af,ag,Tryz.mk143,Tryz.st145,Tryz.td145,Mly.av,ax,g8a,g8b,g8c];(repeat refine an ?_);(try refine .inl ?_);apply k0;clear k0;simp only[zP,J,aG,iG,aC,g8d])
 iterate 3 (refine aw rfl λ_ k0=>?_;simp only[zO,zT,acs,reduceCtorEq,ad,J,ae,aj,af,ag,Mly.av,ax,g8a,g8b,g8c];(repeat refine an ?_);(try refine .inl ?_);apply k0;clear k0;simp only[zP,J,aG,iG,aC,g8d])
 refine ah (k12 _ (kp [1,2,3,6,7,8,9,11,29,30,31] ?_));refine aa λ_ k13=>?_;refine aa λ_ k14=>?_;have g9a:∀ x y:AO,(frX 3 2 m.nx m.ot [x,y]).length=2*m.nx.length+1+1:=λx y=>np hol;refine am hP hN rfl ?_
 iterate 3 (refine aw rfl λ_ k0=>?_;simp only[zO,zT,acs,reduceCtorEq,ad,J,ae,aj,af,ag,Mly.av,ax,g9a];(repeat refine an ?_);(try refine .inl ?_);apply k0;clear k0;simp only[zP,J,aG,iG,aC])
 (refine aw rfl λ_ k0=>?_;simp only[zO,zT,acs,reduceCtorEq,ad,J,ae,aj,af,ag,Mly.av,ax,g9a];(repeat refine an ?_);refine Or.inr (Or.inl (k0 _ ?_));clear k0;simp only[zP,J,aG,iG,aC])
 (refine aw rfl λ_ k0=>?_;simp only[zO,zT,acs,reduceCtorEq,ad,J,ae,aj,af,ag,Mly.av,ax,g9a];(repeat refine an ?_);(try refine .inl ?_);apply k0;clear k0;simp only[zP,J,aG,iG,aC])
 refine ah (k14 _ (kp [1,2,3,6,7,8,9,11,12,29,30,31] ?_));refine ay ?_;refine DZ 12 (2*m.nx.length+1+1+1+1+1+1+1+1) rfl (fP hol rfl 2) η λcp hcp=>?_;refine aM (λn15 s15=>∃ (s:FST) (xs:List (Int×(Int×Unit))) (p v c i:Nat),(WI m.nx.length m.inp.toNat s)∧(s.wk=xs.drop p)∧(p≤xs.length)∧(xs.length≤c)∧(ge m.inp.toNat (mP m.nx.length (gM m sa ta)+1-i) s=foG m sa ta)∧(i+mP m.nx.length s≤mP m.nx.length (gM m sa ta))∧(xs.length+(m.nx.length-s.up.length)*65≤m.nx.length*65+1)∧n15=mP m.nx.length s∧s15={env:=[(3,.one (.ptr 0 0 0 0)),(6,.one (.ptr 1 0 0 0)),(7,.one .nils),(8,.one (.bool false)),(9,.one (.ptr 2 0 0 0)),(11,.one (.ptr (2*m.nx.length+1+1+1+1+1+1+1) 0 0 0)),(12,.one (.suf (2*m.nx.length+1+1+1+1+1+1+1+1) v p (some c)))],L:=.vars 38 [.int .i64 m.inp,.int .i64 m.st,.list Γ m.nx,.list Γ m.ot]:: .vars 38 [.int .i64 0,.int .i64 0,.nils,.nils]:: .vars 38 [.int .i64 m.inp,.int .i64 0,.rwc 3 m.nx.length,.rwc 4 m.nx.length]:: .rowc 26 1 m.nx.length (frN 2 m.nx.length):: .rowc 26 1 m.nx.length (frQ 2 m.nx.length):: .dead (2*m.nx.length)::frX 3 2 s.nx s.ot [.mp 143 .int s.up,.vars 145 [.mpv (2*m.nx.length+1+1+1+1+1+1)],.row (.pair Θ (.pair Θ .unit)) 146 v xs]}) ?_ ?_
 ·exact⟨_,_,ar [3,6,7,8,9,11,12],gM m sa ta,[(sa,(ta,()))],0,0,cp,0,WI.zero hm hsa hta,rfl,Nat.zero_le _,hcp,rfl,ω,by show 1+(m.nx.length-0)*65≤_;omega,rfl,rfl⟩
 rintro n15 s15 ⟨s,xs,p,v,c,i,hWn,hwk,hp,hcc,hrun,hmu,hxl,rfl,rfl⟩;refine aa λ_ k16=>?_;refine aa λ_ k17=>?_;have hSl:=hWn.nl;have hSo:=hWn.ol;have hSS:s.ot.length=s.nx.length:=ω;have hLw:(frX 3 2 s.nx s.ot [.mp 143 .int s.up,.vars 145 [.mpv (2*m.nx.length+1+1+1+1+1+1)],.row (.pair (.int .i64) (.pair (.int .i64) .unit)) 146 v xs])[(2*m.nx.length+1+1)]? =some (.row (.pair (.int .i64) (.pair (.int .i64) .unit)) 146 v xs):=fP hSS hSl 2;refine am hP hN rfl ?_;refine wF hLw ?_;refine cX (λC9 hC9=>.inl ⟨rfl,pd (t:=.pair (.int .i64) (.pair (.int .i64) .unit)) (xs:=xs) rfl rfl (by rw[hC9];exact Tryz.td147) rfl rfl hLw⟩) ?_;simp only[zP,J];refine wF hLw ?_;refine ah (k17 _ (kp [3,6,7,8,9,11,12,66] ?_));refine cB (λhc18=>?_) (λhc18=>?_)
 ·refine au ?_
  refine k16 _ (kp [3,6,7,8,9,11,12,66] ?_);refine ay ?_;refine aa λ_ k19=>?_;have hpl:p<xs.length:=ω;have hwl:s.wk.length=xs.length-p:=by rw[hwk,List.length_drop]
  have hwd:s.wk.getD 0 (0,(0,()))=xs.getD p (0,(0,())):=by rw[hwk];simp[List.getD]
  have hLb:(frX 3 2 s.nx s.ot [.mp 143 .int s.up,.vars 145 [.mpv (2*m.nx.length+1+1+1+1+1+1)],.row (.pair Θ (.pair Θ .unit)) 146 v xs])[(2*m.nx.length+1)]? =some (.vars 145 [.mpv (2*m.nx.length+1+1+1+1+1+1)]):=fP hSS hSl 1;have hLm:(frX 3 2 s.nx s.ot [.mp 143 .int s.up,.vars 145 [.mpv (2*m.nx.length+1+1+1+1+1+1)],.row (.pair Θ (.pair Θ .unit)) 146 v xs])[(2*m.nx.length)]? =some (.mp 143 .int s.up):=fP hSS hSl 0;have hmA:(.vars 38 [.int .i64 m.inp,.int .i64 m.st,.list Γ m.nx,.list Γ m.ot]:: .vars 38 [.int .i64 0,.int .i64 0,.nils,.nils]:: .vars 38 [.int .i64 m.inp,.int .i64 0,.rwc 3 m.nx.length,.rwc 4 m.nx.length]:: .rowc 26 1 m.nx.length (frN 2 m.nx.length):: .rowc 26 1 m.nx.length (frQ 2 m.nx.length):: .dead (2*m.nx.length)::frX 3 2 s.nx s.ot [.mp 143 .int s.up,.vars 145 [.mpv (2*m.nx.length+1+1+1+1+1+1)],.row (.pair Θ (.pair Θ .unit)) 146 v xs])[(2*m.nx.length+1+1+1+1+1+1)]? =some (.mp 143 .int s.up):=hLm;have hfl:=Ax (A0:=.vars 38 [.int .i64 m.inp,.int .i64 m.st,.list Γ m.nx,.list Γ m.ot]) (A1:=.vars 38 [.int .i64 0,.int .i64 0,.nils,.nils]) (A2:=.vars 38 [.int .i64 m.inp,.int .i64 0,.rwc 3 m.nx.length,.rwc 4 m.nx.length]) (A3:=.rowc 26 1 m.nx.length (frN 2 m.nx.length)) (A4:=.rowc 26 1 m.nx.length (frQ 2 m.nx.length)) (A5:=.dead (2*m.nx.length)) (E:=3) (V:=2) (X:=[.mp 143 .int s.up,.vars 145 [.mpv (2*m.nx.length+1+1+1+1+1+1)],.row (.pair Θ (.pair Θ .unit)) 146 v xs]) hSS;simp only[ax,aF] at hfl;have hfA:(.vars 38 [.int .i64 m.inp,.int .i64 m.st,.list Γ m.nx,.list Γ m.ot]:: .vars 38 [.int .i64 0,.int .i64 0,.nils,.nils]:: .vars 38 [.int .i64 m.inp,.int .i64 0,.rwc 3 m.nx.length,.rwc 4 m.nx.length]:: .rowc 26 1 m.nx.length (frN 2 m.nx.length):: .rowc 26 1 m.nx.length (frQ 2 m.nx.length):: .dead (2*m.nx.length)::frX 3 2 s.nx s.ot [.mp 143 .int s.up,.vars 145 [.mpv (2*m.nx.length+1+1+1+1+1+1)],.row (.pair Θ (.pair Θ .unit)) 146 v xs]).all (ci (.vars 38 [.int .i64 m.inp,.int .i64 m.st,.list Γ m.nx,.list Γ m.ot]:: .vars 38 [.int .i64 0,.int .i64 0,.nils,.nils]:: .vars 38 [.int .i64 m.inp,.int .i64 0,.rwc 3 m.nx.length,.rwc 4 m.nx.length]:: .rowc 26 1 m.nx.length (frN 2 m.nx.length):: .rowc 26 1 m.nx.length (frQ 2 m.nx.length):: .dead (2*m.nx.length)::frX 3 2 s.nx s.ot [.mp 143 .int s.up,.vars 145 [.mpv (2*m.nx.length+1+1+1+1+1+1)],.row (.pair Θ (.pair Θ .unit)) 146 v xs]).length)=true:=by
   refine wS rfl rfl rfl rfl ?_ ?_
   ·simp only[ax];omega
   ·simp only[List.all_cons,List.all_nil,Bool.and_true,ci,bV,Bool.true_and,decide_eq_true_eq];simp only[ax];omega
  have hwm:=hWn.wr _ (uJ (s:=s) ω);rw[hwd] at hwm;obtain⟨⟨hu0,hu1⟩,hv0,hv1⟩:=hwm;refine bu hP hN Tryz.mixed rfl ?_
  iterate 2 refine CG (And.intro hLb hLw) ?_
  refine cX (λC9 hC9=>.inl ⟨rfl,fR (t:=.pair (.int .i64) (.pair (.int .i64) .unit)) (xs:=xs) rfl (by rw[hC9];exact Tryz.td147) rfl (by rw[hC9];exact Tryz.td146) rfl rfl hLw rfl ω ω⟩) ?_;simp only[zP,J];refine cX (λC9 hC9=>.inl ⟨rfl,lP (t:=.pair (.int .i64) (.pair (.int .i64) .unit)) (xs:=xs) rfl (by rw[hC9];exact Tryz.td146) rfl (by rw[hC9];exact Tryz.td3) rfl hLw rfl ω ω δ⟩) ?_;simp only[zP,J];refine CG (And.intro hLb hLw) ?_;refine aw rfl λ_ k0=>?_;refine bo (h:=xh _ (2*m.nx.length+1+1+1+1+1+1) m.nx.length s.up _ hmA hfA hWn.uo ω hu0 hu1) rfl rfl (by first|exact rfl|(simp only[ev,zP,ad,J];exact rfl)) (by simp only[zV,acs,reduceCtorEq,ad,J,ae,aj,af,ag,Mly.av,hLb,hLw,Int.toNat_zero,Nat.add_zero]) ?_;apply k0;clear k0;simp only[zP,J]
  iterate 2 refine CG (And.intro hLb hLw) ?_
  refine cX (λC9 hC9=>.inl ⟨rfl,fR (t:=.pair (.int .i64) (.pair (.int .i64) .unit)) (xs:=xs) rfl (by rw[hC9];exact Tryz.td147) rfl (by rw[hC9];exact Tryz.td146) rfl rfl hLw rfl ω ω⟩) ?_;simp only[zP,J];refine cX (λC9 hC9=>.inl ⟨rfl,lP (t:=.pair (.int .i64) (.pair (.int .i64) .unit)) (xs:=xs) rfl (by rw[hC9];exact Tryz.td146) rfl (by rw[hC9];exact Tryz.td3) rfl hLw rfl ω ω δ⟩) ?_;simp only[zP,J];refine CG (And.intro hLb hLw) ?_;refine aw rfl λ_ k0=>?_;refine bo (h:=xh _ (2*m.nx.length+1+1+1+1+1+1) m.nx.length s.up _ hmA hfA hWn.uo ω hv0 hv1) rfl rfl (by first|exact rfl|(simp only[ev,zP,ad,J];exact rfl)) (by simp only[zV,acs,reduceCtorEq,ad,J,ae,aj,af,ag,Mly.av,hLb,hLw,Int.toNat_zero,Nat.add_zero]) ?_;apply k0;clear k0;simp only[zP,J]
  iterate 2 refine CG (And.intro hLb hLw) ?_
  refine ah ?_;refine⟨ζ,?_⟩;refine k19 _ (kp [3,6,7,8,9,11,12,13,14,66] ?_);refine aa λ_ k20=>?_;obtain⟨U,hU⟩:∃ U:Nat,bm s.up (xs.getD p (0,(0,()))).1=(U:Int):=⟨(bm s.up (xs.getD p (0,(0,()))).1).toNat,by have:=(hWn.uo.rep hu0).1;omega⟩
  obtain⟨W,hW⟩:∃ W:Nat,bm s.up (xs.getD p (0,(0,()))).2.1=(W:Int):=⟨(bm s.up (xs.getD p (0,(0,()))).2.1).toNat,by have:=(hWn.uo.rep hv0).1;omega⟩
  have hUl:=(hWn.uo.rep hu0).2.1;have hWl:=(hWn.uo.rep hv0).2.1;rw[hU] at hUl;rw[hW] at hWl;rw[hU,hW];have hfu:foU s=(U:Int):=by unfold foU;rw[hwd];exact hU
  have hfv:foV s=(W:Int):=by unfold foV;rw[hwd];exact hW
  refine am hP hN rfl ?_
  (refine aw rfl λ_ k0=>?_;simp only[zO,zT,acs,reduceCtorEq,ad,J,ae,aj,af,ag,Mly.av,hLw];(repeat refine an ?_);(try refine .inl ?_);apply k0;clear k0;simp only[zP,J,Int.toNat_one])
  refine cX (λC9 hC9=>.inl ⟨rfl,uw (t:=.pair (.int .i64) (.pair (.int .i64) .unit)) (xs:=xs) rfl (by rw[hC9];exact Tryz.td147) rfl (by rw[hC9];exact Tryz.td146) rfl rfl hLw rfl ω ω⟩) ?_;simp only[zP,J,Int.toNat_one]
  (refine aw rfl λ_ k0=>?_;simp only[zO,zT,acs,reduceCtorEq,ad,J,ae,aj,af,ag,Mly.av,hLw];(repeat refine an ?_);(try refine .inl ?_);apply k0;clear k0;simp only[zP,J,Int.toNat_one])
  refine ah (k20 _ (kp [3,6,7,8,9,11,12,13,14,66] ?_));refine aa λ_ k21=>?_;refine zT5 [3,6,7,8,9,11,12,13,14,66,83] ?_;refine cB (λhc23=>?_) (λhc23=>?_)
  ·have heq:=hc23
   refine aL ?_
   first
   |(have hst:=pI (inp:=m.inp.toNat) (s:=s) (by rw[hfu,hfv];exact heq)
     obtain⟨w1,w2⟩:=hWn.step ω ω hst;refine⟨_,_,?_,ar [3,6,7,8,9,11,12],{s with wk:=s.wk.drop 1},xs,p+1,v,c,i+1,w1,?_,ω,hcc,ou hrun ω ω hst,ω,hxl,rfl,rfl⟩
     ·exact w2
     ·show s.wk.drop 1=_;rw[hwk,List.drop_drop])
   |(have hae:a=m.inp.toNat:=by omega
     subst hae;have hst2:=hst.trans hR;obtain⟨w1,w2⟩:=hWn.step ω ω hst2;refine⟨_,_,?_,ar [3,6,7,8,9,11,12],s2,xs2,p2,v2,c2,i+1,w1,hwk2,hp2,hcc2,ou hrun ω ω hst2,ω,?_,rfl,?_⟩
     ·exact w2
     ·have e1:=(hWJ.foR (by omega:X<m.nx.length) hYn m.inp.toNat (Υ _) hR).2.1
      have e2:(foJ s).up.length=s.up.length+1:=sq (hWn.fresh2 hJ0).1;have e3:=rB hWJ.uo ω;rw[e1,e2];omega
     ·have e1:=(hWJ.foR (by omega:X<m.nx.length) hYn m.inp.toNat (Υ _) hR).2.1
      rw[e1];rfl)
  have hne:¬(U:Int)=(W:Int):=hc23;refine au (k21 _ (kp [3,6,7,8,9,11,12,13,14,66,83] ?_));refine zT5 [3,6,7,8,9,11,12,13,14,66,83] ?_;refine aa λ_ k25=>?_;obtain⟨X,hX⟩:∃ X,X=min U W:=⟨_,rfl⟩
  obtain⟨Y,hY⟩:∃ Y,Y=max U W:=⟨_,rfl⟩
  have hXi:min (U:Int) (W:Int)=(X:Int):=ω;have hYi:max (U:Int) (W:Int)=(Y:Int):=ω;rw[hXi,hYi];have hXY:X<Y:=ω;have hYn:Y<m.nx.length:=ω;have hst:=ES (inp:=m.inp.toNat) hfu hfv hne hX hY;have hup:f0 s.up (.int (Y:Int)) (X:Int)=(foJ s).up:=by unfold foJ;rw[hfu,hfv,hXi,hYi]
  have g15:∀ x:AO,(frX 3 2 s.nx s.ot [.mp 143 .int s.up,.vars 145 [.mpv (2*m.nx.length+1+1+1+1+1+1)],.row (.pair Θ (.pair Θ .unit)) 146 v xs]).set (2*m.nx.length) x=frX 3 2 s.nx s.ot [x,.vars 145 [.mpv (2*m.nx.length+1+1+1+1+1+1)],.row (.pair Θ (.pair Θ .unit)) 146 v xs]:=λx=>iA hSS hSl 0 x;refine am hP hN rfl ?_
  iterate 3 (refine aw rfl λ_ k0=>?_;simp only[zO,zT,acs,reduceCtorEq,ad,J,ae,aj,af,ag,Mly.av,hLb];(repeat refine an ?_);(try refine .inl ?_);apply k0;clear k0;simp only[zP,J,g15])
  refine aw rfl λ_ k0=>?_;refine bo (h:=OP _ (2*m.nx.length+1+1+1+1+1+1) m.nx.length s.up (X:Int) (Y:Int) hmA hfA ω ω ω) rfl rfl (by first|exact rfl|(simp only[ev,zP,ad,J];exact rfl)) (by simp only[zV,acs,reduceCtorEq,ad,J,ae,aj,af,ag,Mly.av,hLb]) ?_;apply k0;clear k0;simp only[zP,J,g15];refine ah (k25 _ (kp [3,6,7,8,9,11,12,13,14,66,83] ?_));refine aa λ_ k26=>?_;rw[hup];have hJ0:(0:Nat)<s.wk.length:=ω;have hWJ:=hWn.foJ hJ0 (by rw[hfu,hfv];exact hne);have hrY:(s.nx.getD Y []).length=m.inp.toNat:=hWn.rl Y hYn;have gcY:(frN 2 m.nx.length).getD Y .junk= .row (2*Y+1+1+1+1+1+1) 2:=nS hYn;have grY:∀ XX:List AO,(frX 3 2 s.nx s.ot XX)[2*Y]? =some (.row Θ 3 2 (s.nx.getD Y [])):=λXX=>pS hSS ω;refine am hP hN rfl ?_
  iterate 7 (refine aw rfl λ_ k0=>?_;simp only[zO,zT,acs,reduceCtorEq,ad,J,ae,aj,af,ag,Mly.av,gcY,grY,az,Nat.mul_one,Nat.add_zero,lT];(repeat refine an ?_);(try refine .inl ?_);apply k0;clear k0;simp only[zP,J])
  refine ah (k26 _ (kp [3,6,7,8,9,11,12,13,14,66,83,98,99,100] ?_));refine ay ?_;refine aM (λn27 s27=>∃ (a:Nat) (s2:FST) (xs2:List (Int×(Int×Unit))) (p2 v2 c2:Nat),(a≤m.inp.toNat)∧(foR X Y (foJ s) a=some s2)∧(s2.wk=xs2.drop p2)∧(p2≤xs2.length)∧(xs2.length≤c2)∧(xs2.length≤xs.length+a)∧n27=m.inp.toNat-a∧s27={env:=[(3,.one (.ptr 0 0 0 0)),(6,.one (.ptr 1 0 0 0)),(7,.one .nils),(8,.one (.bool false)),(9,.one (.ptr 2 0 0 0)),(11,.one (.ptr (2*m.nx.length+1+1+1+1+1+1+1) 0 0 0)),(12,.one (.suf (2*m.nx.length+1+1+1+1+1+1+1+1) v2 p2 (some c2))),(13,.one (.int .i64 (X:Int))),(14,.one (.int .i64 (Y:Int))),(98,.one (.row (2*Y+1+1+1+1+1+1) 2)),(99,.one (.int .i64 ((s.nx.getD Y []).length:Int))),(100,.one (.int .i64 (a:Int)))],L:=.vars 38 [.int .i64 m.inp,.int .i64 m.st,.list Γ m.nx,.list Γ m.ot]:: .vars 38 [.int .i64 0,.int .i64 0,.nils,.nils]:: .vars 38 [.int .i64 m.inp,.int .i64 0,.rwc 3 m.nx.length,.rwc 4 m.nx.length]:: .rowc 26 1 m.nx.length (frN 2 m.nx.length):: .rowc 26 1 m.nx.length (frQ 2 m.nx.length):: .dead (2*m.nx.length)::frX 3 2 s2.nx s2.ot [.mp 143 .int (foJ s).up,.vars 145 [.mpv (2*m.nx.length+1+1+1+1+1+1)],.row (.pair Θ (.pair Θ .unit)) 146 v2 xs2]}) ?_ ?_
  ·exact⟨_,_,ar [3,6,7,8,9,11,12,13,14,98,99,100],0,foJ s,xs,p+1,v,c,Nat.zero_le _,rfl,by show s.wk.drop 1=_;rw[hwk,List.drop_drop],ω,hcc,ω,rfl,rfl⟩
  rintro n27 s27 ⟨a,s2,xs2,p2,v2,c2,ha0,hR,hwk2,hp2,hcc2,hxl2,rfl,rfl⟩;refine zT5 [3,6,7,8,9,11,12,13,14,98,99,100,101] ?_;refine aa λ_ k29=>?_;refine cB (λhc30=>?_) (λhc30=>?_)
  ·refine au ?_
   refine k29 _ (kp [3,6,7,8,9,11,12,13,14,98,99,100,101] ?_);refine aa λ_ k31=>?_;refine ay ?_;refine aa λ_ k32=>?_;obtain⟨hW2,hup2,hwl2⟩:=hWJ.foR (by omega:X<m.nx.length) hYn a ω hR;have h2l:=hW2.nl;have h2o:=hW2.ol;have h22:s2.ot.length=s2.nx.length:=ω;have hai:a<m.inp.toNat:=ω;have hrx:=hW2.rl X ω;have hry:=hW2.rl Y hYn;have hqx:=hW2.ql X ω;have hqy:=hW2.ql Y hYn;have hy2: -1≤foE s2.nx Y a∧foE s2.nx Y a<m.nx.length:=hW2.nr Y a hYn hai;have hx2: -1≤foE s2.nx X a∧foE s2.nx X a<m.nx.length:=hW2.nr X a ω hai;have k1:∀ XX:List AO,(frX 3 2 s2.nx s2.ot XX)[2*X]? =some (.row Θ 3 2 (s2.nx.getD X [])):=λXX=>pS h22 ω;have k2:∀ XX:List AO,(frX 3 2 s2.nx s2.ot XX)[2*Y]? =some (.row Θ 3 2 (s2.nx.getD Y [])):=λXX=>pS h22 ω;have k3:∀ XX:List AO,(frX 3 2 s2.nx s2.ot XX)[2*X+1]? =some (.row Θ 3 2 (s2.ot.getD X [])):=λXX=>xe h22 ω;have k4:∀ XX:List AO,(frX 3 2 s2.nx s2.ot XX)[2*Y+1]? =some (.row Θ 3 2 (s2.ot.getD Y [])):=λXX=>xe h22 ω;have gcX:(frN 2 m.nx.length).getD X .junk= .row (2*X+1+1+1+1+1+1) 2:=nS ω;have goX:(frQ 2 m.nx.length).getD X .junk= .row (2*X+1+1+1+1+1+1+1) 2:=wJ ω;have goY:(frQ 2 m.nx.length).getD Y .junk= .row (2*Y+1+1+1+1+1+1+1) 2:=wJ hYn;have glN:=lT 2 m.nx.length;have glO:=qR 2 m.nx.length;refine am hP hN rfl ?_
   iterate 5 (refine aw rfl λ_ k0=>?_;simp only[zO,zT,acs,reduceCtorEq,ad,J,ae,aj,af,ag,Mly.av,k2,az];(repeat refine an ?_);(try refine .inl ?_);apply k0;clear k0;simp only[zP,J])
   refine ah (k32 _ (kp [3,6,7,8,9,11,12,13,14,15,16,98,99,100,101] ?_));refine ay ?_;refine zT5 [3,6,7,8,9,11,12,13,14,15,16,98,99,100,101,118] ?_;refine cB (λhc34=>?_) (λhc34=>?_)
   ·have hto:foE s2.nx Y a= -1:=hc34
    refine au (k31 _ (kp [3,6,7,8,9,11,12,13,14,15,16,98,99,100,101,118] ?_));refine zR5 (h:=?_)
    first
    |(refine⟨_,_,?_,ar [3,6,7,8,9,11,12,13,14,98,99,100],a+1,s2,xs2,p2,v2,c2,ω,(dG hR).trans (xG hto),hwk2,hp2,hcc2,ω,rfl,rfl⟩
      omega)
    |(refine⟨_,_,?_,ar [3,6,7,8,9,11,12,13,14,98,99,100],a+1,{s2 with nx:=foS s2.nx X a (foE s2.nx Y a),ot:=foS s2.ot X a (foE s2.ot Y a)},xs2,p2,v2,c2,ω,(dG hR).trans (xP hto hxo),hwk2,hp2,hcc2,ω,rfl,rfl⟩
      omega)
    |(refine⟨_,_,?_,ar [3,6,7,8,9,11,12,13,14,98,99,100],a+1,{s2 with wk:=s2.wk++[(foE s2.nx X a,(foE s2.nx Y a,()))]},xs2.drop p2++[(foE s2.nx X a,(foE s2.nx Y a,()))],0,v2+1,cp,ω,(dG hR).trans (ma hto hxo hoo),?_,Nat.zero_le _,hcp,?_,rfl,rfl⟩
      ·omega
      ·show s2.wk++_=_;rw[hwk2];rfl
      ·simp only[aq,List.length_drop,ax,aF];omega)
    |(refine⟨_,_,?_,ar [3,6,7,8,9,11,12,13,14,98,99,100],a+1,{s2 with wk:=s2.wk++[(foE s2.nx X a,(foE s2.nx Y a,()))]},xs2++[(foE s2.nx X a,(foE s2.nx Y a,()))],p2,v2+1,c2,ω,(dG hR).trans (ma hto hxo hoo),?_,?_,?_,?_,rfl,rfl⟩
      ·omega
      ·show s2.wk++_=_;rw[hwk2,List.drop_append_of_le_length hp2]
      ·simp only[aq,ax,aF];omega
      ·simp only[aq,ax,aF];omega
      ·simp only[aq,ax,aF];omega)
   have hto:¬foE s2.nx Y a= -1:=hc34;refine Vw (And.intro k1 (And.intro gcX glN)) [3,6,7,8,9,11,12,13,14,15,16,98,99,100,101,118,121] ?_;refine cB (λhc36=>?_) (λhc36=>?_)
   ·have hxo:foE s2.nx X a= -1:=hc36
    have k5:∀ XX:List AO,(frX 3 2 s2.nx s2.ot XX).set (2*X) (.row Θ 3 2 ((s2.nx.getD X []).set a (foE s2.nx Y a)))=frX 3 2 (foS s2.nx X a (foE s2.nx Y a)) s2.ot XX:=λXX=>BY h22 ω;have k6:∀ XX:List AO,(frX 3 2 (foS s2.nx X a (foE s2.nx Y a)) s2.ot XX)[2*X+1]? =some (.row Θ 3 2 (s2.ot.getD X [])):=λXX=>xe (by rw[cM];exact h22) (by rw[cM];omega);have k7:∀ XX:List AO,(frX 3 2 (foS s2.nx X a (foE s2.nx Y a)) s2.ot XX).set (2*X+1) (.row Θ 3 2 ((s2.ot.getD X []).set a (foE s2.ot Y a)))=frX 3 2 (foS s2.nx X a (foE s2.nx Y a)) (foS s2.ot X a (foE s2.ot Y a)) XX:=λXX=>HB (by rw[cM];exact h22) (by rw[cM];omega);refine bu hP hN Tryz.mixed rfl ?_
    iterate 25 (refine aw rfl λ_ k0=>?_;simp only[zO,zT,acs,reduceCtorEq,ad,J,ae,aj,af,ag,Mly.av,k1,k3,k4,k6,gcX,goX,goY,glN,glO,az,Nat.mul_one,Nat.add_zero];(repeat refine an ?_);(try refine .inl ?_);apply k0;clear k0;simp only[zP,J,k5,k7])
    refine ah ?_;refine⟨by exact jc (o7 (a:=2*X+6) (b:=2*X+7) (c:=2*Y+7) ω ω ω ω ω ω) [([],[2],0),([],[2],0),([],[],0),([],[3],0),([],[3],0),([],[],0),([],[2],0),([],[2],0),([],[],0),([],[4],0),([],[4],0),([],[],0),([],[],0),([],[2],0),([],[2],0),([],[],0),([],[4],0),([],[4],0),([],[],0),([],[8],0),([],[8],0),([],[6],0),([6],[6],0),([],[7],0),([7],[7],0)] ζ,?_⟩;refine k31 _ (kp [3,6,7,8,9,11,12,13,14,15,16,98,99,100,101,118,121] ?_);refine zR5 (h:=?_)
    first
    |(refine⟨_,_,?_,ar [3,6,7,8,9,11,12,13,14,98,99,100],a+1,s2,xs2,p2,v2,c2,ω,(dG hR).trans (xG hto),hwk2,hp2,hcc2,ω,rfl,rfl⟩
      omega)
    |(refine⟨_,_,?_,ar [3,6,7,8,9,11,12,13,14,98,99,100],a+1,{s2 with nx:=foS s2.nx X a (foE s2.nx Y a),ot:=foS s2.ot X a (foE s2.ot Y a)},xs2,p2,v2,c2,ω,(dG hR).trans (xP hto hxo),hwk2,hp2,hcc2,ω,rfl,rfl⟩
      omega)
    |(refine⟨_,_,?_,ar [3,6,7,8,9,11,12,13,14,98,99,100],a+1,{s2 with wk:=s2.wk++[(foE s2.nx X a,(foE s2.nx Y a,()))]},xs2.drop p2++[(foE s2.nx X a,(foE s2.nx Y a,()))],0,v2+1,cp,ω,(dG hR).trans (ma hto hxo hoo),?_,Nat.zero_le _,hcp,?_,rfl,rfl⟩
      ·omega
      ·show s2.wk++_=_;rw[hwk2];rfl
      ·simp only[aq,List.length_drop,ax,aF];omega)
    |(refine⟨_,_,?_,ar [3,6,7,8,9,11,12,13,14,98,99,100],a+1,{s2 with wk:=s2.wk++[(foE s2.nx X a,(foE s2.nx Y a,()))]},xs2++[(foE s2.nx X a,(foE s2.nx Y a,()))],p2,v2+1,c2,ω,(dG hR).trans (ma hto hxo hoo),?_,?_,?_,?_,rfl,rfl⟩
      ·omega
      ·show s2.wk++_=_;rw[hwk2,List.drop_append_of_le_length hp2]
      ·simp only[aq,ax,aF];omega
      ·simp only[aq,ax,aF];omega
      ·simp only[aq,ax,aF];omega)
   have hxo:¬foE s2.nx X a= -1:=hc36;refine aa λ_ k37=>?_;refine bu hP hN Tryz.mixed rfl ?_
   iterate 18 refine Nk (And.intro k3 (And.intro k4 (And.intro goX (And.intro goY glO)))) ?_
   refine ah ?_;refine⟨ζ,?_⟩;refine k37 _ (kp [3,6,7,8,9,11,12,13,14,15,16,98,99,100,101,118,121,154] ?_);refine cB (λhc38=>?_) (λhc38=>?_)
   ·have hoo:¬foE s2.ot X a=foE s2.ot Y a:=hc38
    refine aa λ_ k39=>?_;have hGn:foG m sa ta=none:=KN hrun ω hJ0 (hst.trans (yE ((dG hR).trans (Uk hto hxo hoo)) _ ω));refine zR5 (h:=k39 _ (kp [3,6,7,8,9,11,12,13,14,15,16,98,99,100,101,118,121,154] ?_));refine aA ?_;refine⟨nr,_,rfl,?_⟩;simp only[zF,zP,ad,J,Mly.av]
    first
    |(unfold foP foC foB
      rw[hG];exact VLE.of_eq rfl)
    |(unfold foP foC foB
      rw[hGn];exact bj ⟨dr ⟨.refl _,.refl _,aS rfl,aS rfl,trivial⟩,aD (aS rfl),aD (.refl _),trivial⟩)
   have hoo:foE s2.ot X a=foE s2.ot Y a:=by have hq:=hc38;simpa using hq
   rcases Nat.lt_or_ge c2 (xs2.length+1) with hrm|hrm
   ·skip
    have k8:(frX 3 2 s2.nx s2.ot [.mp 143 .int (foJ s).up,.vars 145 [.mpv (2*m.nx.length+1+1+1+1+1+1)],.row (.pair Θ (.pair Θ .unit)) 146 v2 xs2])[(2*m.nx.length+1+1)]? =some (.row (.pair Θ (.pair Θ .unit)) 146 v2 xs2):=fP h22 h2l 2;have k9:∀ x:AO,(frX 3 2 s2.nx s2.ot [.mp 143 .int (foJ s).up,.vars 145 [.mpv (2*m.nx.length+1+1+1+1+1+1)],.row (.pair Θ (.pair Θ .unit)) 146 v2 xs2]).set (2*m.nx.length+1+1) x=frX 3 2 s2.nx s2.ot [.mp 143 .int (foJ s).up,.vars 145 [.mpv (2*m.nx.length+1+1+1+1+1+1)],x]:=λx=>iA h22 h2l 2 x;refine am hP hN rfl ?_
    iterate 12 (refine aw rfl λ_ k0=>?_;simp only[zO,zT,acs,reduceCtorEq,ad,J,ae,aj,af,ag,Mly.av,k1,gcX,glN,az,Nat.mul_one,Nat.add_zero];(repeat refine an ?_);(try refine .inl ?_);apply k0;clear k0;simp only[zP,J,k9])
    refine cX (λC9 hC9=>.inl ⟨rfl,qu (t:=.pair (.int .i64) (.pair (.int .i64) .unit)) (xs:=xs2) (ys:=[(foE s2.nx X a,(foE s2.nx Y a,()))]) rfl rfl (by rw[hC9];exact Tryz.td147) rfl (by rw[hC9];exact Tryz.td146) rfl rfl rfl k8 rfl rfl η (by simpa using hrm) (by simp only[ax,aF];omega) (by simp only[ax,aF];omega)⟩) ?_;simp only[zP,J,k9]
    (refine aw rfl λ_ k0=>?_;simp only[zO,zT,acs,reduceCtorEq,ad,J,ae,aj,af,ag,Mly.av,k1,gcX,glN,az,Nat.mul_one,Nat.add_zero];(repeat refine an ?_);(try refine .inl ?_);apply k0;clear k0;simp only[zP,J,k9])
    refine ah (k31 _ (kp [3,6,7,8,9,11,12,13,14,15,16,98,99,100,101,118,121,154] ?_));have k10:∀ x:AO,(frX 3 2 s2.nx s2.ot [.mp 143 .int (foJ s).up,.vars 145 [.mpv (2*m.nx.length+1+1+1+1+1+1)],x])[(2*m.nx.length+1+1)]? =some x:=λx=>fP h22 h2l 2;refine DZ 12 (2*m.nx.length+1+1+1+1+1+1+1+1) rfl (k10 (.row (.pair Θ (.pair Θ .unit)) 146 (v2+1) (xs2.drop p2++[(foE s2.nx X a,(foE s2.nx Y a,()))]))) η λcp hcp=>?_;refine zR5 (h:=?_)
    first
    |(refine⟨_,_,?_,ar [3,6,7,8,9,11,12,13,14,98,99,100],a+1,s2,xs2,p2,v2,c2,ω,(dG hR).trans (xG hto),hwk2,hp2,hcc2,ω,rfl,rfl⟩
      omega)
    |(refine⟨_,_,?_,ar [3,6,7,8,9,11,12,13,14,98,99,100],a+1,{s2 with nx:=foS s2.nx X a (foE s2.nx Y a),ot:=foS s2.ot X a (foE s2.ot Y a)},xs2,p2,v2,c2,ω,(dG hR).trans (xP hto hxo),hwk2,hp2,hcc2,ω,rfl,rfl⟩
      omega)
    |(refine⟨_,_,?_,ar [3,6,7,8,9,11,12,13,14,98,99,100],a+1,{s2 with wk:=s2.wk++[(foE s2.nx X a,(foE s2.nx Y a,()))]},xs2.drop p2++[(foE s2.nx X a,(foE s2.nx Y a,()))],0,v2+1,cp,ω,(dG hR).trans (ma hto hxo hoo),?_,Nat.zero_le _,hcp,?_,rfl,rfl⟩
      ·omega
      ·show s2.wk++_=_;rw[hwk2];rfl
      ·simp only[aq,List.length_drop,ax,aF];omega)
    |(refine⟨_,_,?_,ar [3,6,7,8,9,11,12,13,14,98,99,100],a+1,{s2 with wk:=s2.wk++[(foE s2.nx X a,(foE s2.nx Y a,()))]},xs2++[(foE s2.nx X a,(foE s2.nx Y a,()))],p2,v2+1,c2,ω,(dG hR).trans (ma hto hxo hoo),?_,?_,?_,?_,rfl,rfl⟩
      ·omega
      ·show s2.wk++_=_;rw[hwk2,List.drop_append_of_le_length hp2]
      ·simp only[aq,ax,aF];omega
      ·simp only[aq,ax,aF];omega
      ·simp only[aq,ax,aF];omega)
   ·skip
    have k8:(frX 3 2 s2.nx s2.ot [.mp 143 .int (foJ s).up,.vars 145 [.mpv (2*m.nx.length+1+1+1+1+1+1)],.row (.pair Θ (.pair Θ .unit)) 146 v2 xs2])[(2*m.nx.length+1+1)]? =some (.row (.pair Θ (.pair Θ .unit)) 146 v2 xs2):=fP h22 h2l 2;have k9:∀ x:AO,(frX 3 2 s2.nx s2.ot [.mp 143 .int (foJ s).up,.vars 145 [.mpv (2*m.nx.length+1+1+1+1+1+1)],.row (.pair Θ (.pair Θ .unit)) 146 v2 xs2]).set (2*m.nx.length+1+1) x=frX 3 2 s2.nx s2.ot [.mp 143 .int (foJ s).up,.vars 145 [.mpv (2*m.nx.length+1+1+1+1+1+1)],x]:=λx=>iA h22 h2l 2 x;refine am hP hN rfl ?_
    iterate 12 (refine aw rfl λ_ k0=>?_;simp only[zO,zT,acs,reduceCtorEq,ad,J,ae,aj,af,ag,Mly.av,k1,gcX,glN,az,Nat.mul_one,Nat.add_zero];(repeat refine an ?_);(try refine .inl ?_);apply k0;clear k0;simp only[zP,J,k9])
    refine cX (λC9 hC9=>.inl ⟨rfl,sP (t:=.pair (.int .i64) (.pair (.int .i64) .unit)) (xs:=xs2) (ys:=[(foE s2.nx X a,(foE s2.nx Y a,()))]) rfl rfl (by rw[hC9];exact Tryz.td147) rfl (by rw[hC9];exact Tryz.td146) rfl rfl k8 rfl rfl η (by simpa using hrm)⟩) ?_;simp only[zP,J,k9]
    (refine aw rfl λ_ k0=>?_;simp only[zO,zT,acs,reduceCtorEq,ad,J,ae,aj,af,ag,Mly.av,k1,gcX,glN,az,Nat.mul_one,Nat.add_zero];(repeat refine an ?_);(try refine .inl ?_);apply k0;clear k0;simp only[zP,J,k9])
    refine ah (k31 _ (kp [3,6,7,8,9,11,12,13,14,15,16,98,99,100,101,118,121,154] ?_));refine zR5 (h:=?_)
    first
    |(refine⟨_,_,?_,ar [3,6,7,8,9,11,12,13,14,98,99,100],a+1,s2,xs2,p2,v2,c2,ω,(dG hR).trans (xG hto),hwk2,hp2,hcc2,ω,rfl,rfl⟩
      omega)
    |(refine⟨_,_,?_,ar [3,6,7,8,9,11,12,13,14,98,99,100],a+1,{s2 with nx:=foS s2.nx X a (foE s2.nx Y a),ot:=foS s2.ot X a (foE s2.ot Y a)},xs2,p2,v2,c2,ω,(dG hR).trans (xP hto hxo),hwk2,hp2,hcc2,ω,rfl,rfl⟩
      omega)
    |(refine⟨_,_,?_,ar [3,6,7,8,9,11,12,13,14,98,99,100],a+1,{s2 with wk:=s2.wk++[(foE s2.nx X a,(foE s2.nx Y a,()))]},xs2.drop p2++[(foE s2.nx X a,(foE s2.nx Y a,()))],0,v2+1,cp,ω,(dG hR).trans (ma hto hxo hoo),?_,Nat.zero_le _,hcp,?_,rfl,rfl⟩
      ·omega
      ·show s2.wk++_=_;rw[hwk2];rfl
      ·simp only[aq,List.length_drop,ax,aF];omega)
    |(refine⟨_,_,?_,ar [3,6,7,8,9,11,12,13,14,98,99,100],a+1,{s2 with wk:=s2.wk++[(foE s2.nx X a,(foE s2.nx Y a,()))]},xs2++[(foE s2.nx X a,(foE s2.nx Y a,()))],p2,v2+1,c2,ω,(dG hR).trans (ma hto hxo hoo),?_,?_,?_,?_,rfl,rfl⟩
      ·omega
      ·show s2.wk++_=_;rw[hwk2,List.drop_append_of_le_length hp2]
      ·simp only[aq,ax,aF];omega
      ·simp only[aq,ax,aF];omega
      ·simp only[aq,ax,aF];omega)
  refine aL ?_
  first
  |(have hst:=pI (inp:=m.inp.toNat) (s:=s) (by rw[hfu,hfv];exact heq)
    obtain⟨w1,w2⟩:=hWn.step ω ω hst;refine⟨_,_,?_,ar [3,6,7,8,9,11,12],{s with wk:=s.wk.drop 1},xs,p+1,v,c,i+1,w1,?_,ω,hcc,ou hrun ω ω hst,ω,hxl,rfl,rfl⟩
    ·exact w2
    ·show s.wk.drop 1=_;rw[hwk,List.drop_drop])
  |(have hae:a=m.inp.toNat:=by omega
    subst hae;have hst2:=hst.trans hR;obtain⟨w1,w2⟩:=hWn.step ω ω hst2;refine⟨_,_,?_,ar [3,6,7,8,9,11,12],s2,xs2,p2,v2,c2,i+1,w1,hwk2,hp2,hcc2,ou hrun ω ω hst2,ω,?_,rfl,?_⟩
    ·exact w2
    ·have e1:=(hWJ.foR (by omega:X<m.nx.length) hYn m.inp.toNat (Υ _) hR).2.1
     have e2:(foJ s).up.length=s.up.length+1:=sq (hWn.fresh2 hJ0).1;have e3:=rB hWJ.uo ω;rw[e1,e2];omega
    ·have e1:=(hWJ.foR (by omega:X<m.nx.length) hYn m.inp.toNat (Υ _) hR).2.1
     rw[e1];rfl)
 refine aL ?_;refine k13 _ (kp [3,6,7,8,9,11,12,66] ?_);refine aa λ_ k40=>?_;refine aa λ_ k41=>?_;have hend:s.wk=[]:=by rw[hwk];exact List.drop_of_length_le ω
 have hG:foG m sa ta=some s:=Cr hrun ω hend;have glN:=lT 2 m.nx.length;have glO:=qR 2 m.nx.length;have hSl:=hWn.nl;have hSo:=hWn.ol;have hSS:s.ot.length=s.nx.length:=ω;refine am hP hN rfl ?_
 iterate 4 (refine aw rfl λ_ k0=>?_;simp only[zO,zT,acs,reduceCtorEq,ad,J,ae,aj,af,ag,Mly.av,glN,Nat.div_one];(repeat refine an ?_);(try refine .inl ?_);apply k0;clear k0;simp only[zP,J])
 refine ah (k41 _ (kp [3,6,7,8,9,11,12,66,176,177] ?_));refine ay ?_;refine aM (λn42 s42=>∃ (j:Nat),(j≤m.nx.length)∧n42=m.nx.length-j∧s42={env:=[(3,.one (.ptr 0 0 0 0)),(6,.one (.ptr 1 0 0 0)),(7,.one .nils),(8,.one (.bool false)),(9,.one (.ptr 2 0 0 0)),(11,.one (.ptr (2*m.nx.length+1+1+1+1+1+1+1) 0 0 0)),(176,.one (.int .i64 (m.nx.length:Int))),(177,.one (.int .i64 (j:Int)))],L:=.vars 38 [.int .i64 m.inp,.int .i64 m.st,.list Γ m.nx,.list Γ m.ot]:: .vars 38 [.int .i64 0,.int .i64 0,.nils,.nils]:: .vars 38 [.int .i64 m.inp,.int .i64 0,.rwc 3 m.nx.length,.rwc 4 m.nx.length]:: .rowc 26 1 m.nx.length (frN 2 m.nx.length):: .rowc 26 1 m.nx.length (frQ 2 m.nx.length):: .dead (2*m.nx.length)::frX 3 2 (i7 s.up s.nx j) s.ot [.mp 143 .int s.up,.vars 145 [.mpv (2*m.nx.length+1+1+1+1+1+1)],.row (.pair Θ (.pair Θ .unit)) 146 v xs]}) ?_ ?_
 ·exact⟨_,_,ar [3,6,7,8,9,11,176,177],0,Nat.zero_le _,rfl,by rw[Pw];rfl⟩
 rintro n42 s42 ⟨j,hj0,rfl,rfl⟩;refine zT5 [3,6,7,8,9,11,176,177,178] ?_;refine aa λ_ k44=>?_;refine cB (λhc45=>?_) (λhc45=>?_)
 ·refine au ?_
  refine k44 _ (kp [3,6,7,8,9,11,176,177,178] ?_);refine aa λ_ k46=>?_;refine ay ?_;refine zT5 [3,6,7,8,9,11,17,176,177,178] ?_;refine aa λ_ k48=>?_;have hjn:j<m.nx.length:=ω;have hrj:=hWn.rl j hjn;have gcj:(frN 2 m.nx.length).getD j .junk= .row (2*j+1+1+1+1+1+1) 2:=nS hjn;have grj:∀ XX:List AO,(frX 3 2 (i7 s.up s.nx j) s.ot XX)[2*j]? =some (.row Θ 3 2 (s.nx.getD j [])):=λXX=>by rw[pS (by rw[i3];exact hSS) (by rw[i3];omega),yh ω]
  refine H6 (And.intro glN (And.intro gcj grj)) (h:=k48 _ (kp [3,6,7,8,9,11,17,176,177,178,184,185,186] ?_));refine ay ?_;refine aM (λn49 s49=>∃ (b:Nat),(b≤(s.nx.getD j []).length)∧n49=(s.nx.getD j []).length-b∧s49={env:=[(3,.one (.ptr 0 0 0 0)),(6,.one (.ptr 1 0 0 0)),(7,.one .nils),(8,.one (.bool false)),(9,.one (.ptr 2 0 0 0)),(11,.one (.ptr (2*m.nx.length+1+1+1+1+1+1+1) 0 0 0)),(17,.one (.int .i64 (j:Int))),(176,.one (.int .i64 (m.nx.length:Int))),(177,.one (.int .i64 (j:Int))),(184,.one (.row (2*j+1+1+1+1+1+1) 2)),(185,.one (.int .i64 ((s.nx.getD j []).length:Int))),(186,.one (.int .i64 (b:Int)))],L:=.vars 38 [.int .i64 m.inp,.int .i64 m.st,.list Γ m.nx,.list Γ m.ot]:: .vars 38 [.int .i64 0,.int .i64 0,.nils,.nils]:: .vars 38 [.int .i64 m.inp,.int .i64 0,.rwc 3 m.nx.length,.rwc 4 m.nx.length]:: .rowc 26 1 m.nx.length (frN 2 m.nx.length):: .rowc 26 1 m.nx.length (frQ 2 m.nx.length):: .dead (2*m.nx.length)::frX 3 2 (eG s.up s.nx j b) s.ot [.mp 143 .int s.up,.vars 145 [.mpv (2*m.nx.length+1+1+1+1+1+1)],.row (.pair Θ (.pair Θ .unit)) 146 v xs]}) ?_ ?_
  ·exact⟨_,_,ar [3,6,7,8,9,11,17,176,177,184,185,186],0,Nat.zero_le _,rfl,by rw[Ob ω];rfl⟩
  rintro n49 s49 ⟨b,hb0,rfl,rfl⟩;refine zT5 [3,6,7,8,9,11,17,176,177,184,185,186,187] ?_;refine aa λ_ k51=>?_;refine cB (λhc52=>?_) (λhc52=>?_)
  ·refine au ?_
   refine k51 _ (kp [3,6,7,8,9,11,17,176,177,184,185,186,187] ?_);refine aa λ_ k53=>?_;refine ay ?_;refine aa λ_ k54=>?_;have grm:∀ XX:List AO,(frX 3 2 (eG s.up s.nx j b) s.ot XX)[2*j]? =some (.row Θ 3 2 (fG s.up (s.nx.getD j []) b)):=λXX=>by rw[pS (by rw[md];exact hSS) (by rw[md];omega),Lu ω]
   have hfr:=wY s.up (s.nx.getD j []) b;have hfa:(fG s.up (s.nx.getD j []) b).getD b 0=(s.nx.getD j []).getD b 0:=yw ω;refine am hP hN rfl ?_
   iterate 5 (refine aw rfl λ_ k0=>?_;simp only[zO,zT,acs,reduceCtorEq,ad,J,ae,aj,af,ag,Mly.av,grm,hfa,az];(repeat refine an ?_);(try refine .inl ?_);apply k0;clear k0;simp only[zP,J])
   refine ah (k54 _ (kp [3,6,7,8,9,11,17,18,19,176,177,184,185,186,187] ?_));refine zT5 [3,6,7,8,9,11,17,18,19,176,177,184,185,186,187,192] ?_;refine cB (λhc56=>?_) (λhc56=>?_)
   ·have hc9:¬(s.nx.getD j []).getD b 0= -1:=hc56
    have hnr: -1≤(s.nx.getD j []).getD b 0∧(s.nx.getD j []).getD b 0<m.nx.length:=hWn.nr j b hjn ω;have hNM:s.ot.length=(eG s.up s.nx j b).length:=by rw[md];exact hSS
    have hNl:(eG s.up s.nx j b).length=m.nx.length:=by rw[md];exact hSl
    have hLb:(frX 3 2 (eG s.up s.nx j b) s.ot [.mp 143 .int s.up,.vars 145 [.mpv (2*m.nx.length+1+1+1+1+1+1)],.row (.pair Θ (.pair Θ .unit)) 146 v xs])[(2*m.nx.length+1)]? =some (.vars 145 [.mpv (2*m.nx.length+1+1+1+1+1+1)]):=fP hNM hNl 1;have hLm:(frX 3 2 (eG s.up s.nx j b) s.ot [.mp 143 .int s.up,.vars 145 [.mpv (2*m.nx.length+1+1+1+1+1+1)],.row (.pair Θ (.pair Θ .unit)) 146 v xs])[(2*m.nx.length)]? =some (.mp 143 .int s.up):=fP hNM hNl 0;have hmA:(.vars 38 [.int .i64 m.inp,.int .i64 m.st,.list Γ m.nx,.list Γ m.ot]:: .vars 38 [.int .i64 0,.int .i64 0,.nils,.nils]:: .vars 38 [.int .i64 m.inp,.int .i64 0,.rwc 3 m.nx.length,.rwc 4 m.nx.length]:: .rowc 26 1 m.nx.length (frN 2 m.nx.length):: .rowc 26 1 m.nx.length (frQ 2 m.nx.length):: .dead (2*m.nx.length)::frX 3 2 (eG s.up s.nx j b) s.ot [.mp 143 .int s.up,.vars 145 [.mpv (2*m.nx.length+1+1+1+1+1+1)],.row (.pair Θ (.pair Θ .unit)) 146 v xs])[(2*m.nx.length+1+1+1+1+1+1)]? =some (.mp 143 .int s.up):=hLm;have hfl:=Ax (A0:=.vars 38 [.int .i64 m.inp,.int .i64 m.st,.list Γ m.nx,.list Γ m.ot]) (A1:=.vars 38 [.int .i64 0,.int .i64 0,.nils,.nils]) (A2:=.vars 38 [.int .i64 m.inp,.int .i64 0,.rwc 3 m.nx.length,.rwc 4 m.nx.length]) (A3:=.rowc 26 1 m.nx.length (frN 2 m.nx.length)) (A4:=.rowc 26 1 m.nx.length (frQ 2 m.nx.length)) (A5:=.dead (2*m.nx.length)) (E:=3) (V:=2) (X:=[.mp 143 .int s.up,.vars 145 [.mpv (2*m.nx.length+1+1+1+1+1+1)],.row (.pair Θ (.pair Θ .unit)) 146 v xs]) hNM;simp only[ax,aF] at hfl;have hfA:(.vars 38 [.int .i64 m.inp,.int .i64 m.st,.list Γ m.nx,.list Γ m.ot]:: .vars 38 [.int .i64 0,.int .i64 0,.nils,.nils]:: .vars 38 [.int .i64 m.inp,.int .i64 0,.rwc 3 m.nx.length,.rwc 4 m.nx.length]:: .rowc 26 1 m.nx.length (frN 2 m.nx.length):: .rowc 26 1 m.nx.length (frQ 2 m.nx.length):: .dead (2*m.nx.length)::frX 3 2 (eG s.up s.nx j b) s.ot [.mp 143 .int s.up,.vars 145 [.mpv (2*m.nx.length+1+1+1+1+1+1)],.row (.pair Θ (.pair Θ .unit)) 146 v xs]).all (ci (.vars 38 [.int .i64 m.inp,.int .i64 m.st,.list Γ m.nx,.list Γ m.ot]:: .vars 38 [.int .i64 0,.int .i64 0,.nils,.nils]:: .vars 38 [.int .i64 m.inp,.int .i64 0,.rwc 3 m.nx.length,.rwc 4 m.nx.length]:: .rowc 26 1 m.nx.length (frN 2 m.nx.length):: .rowc 26 1 m.nx.length (frQ 2 m.nx.length):: .dead (2*m.nx.length)::frX 3 2 (eG s.up s.nx j b) s.ot [.mp 143 .int s.up,.vars 145 [.mpv (2*m.nx.length+1+1+1+1+1+1)],.row (.pair Θ (.pair Θ .unit)) 146 v xs]).length)=true:=by
     refine wS rfl rfl rfl rfl ?_ ?_
     ·simp only[ax];omega
     ·simp only[List.all_cons,List.all_nil,Bool.and_true,ci,bV,Bool.true_and,decide_eq_true_eq];simp only[ax];omega
    have gsm:∀ XX:List AO,(frX 3 2 (eG s.up s.nx j b) s.ot XX).set (2*j) (.row Θ 3 2 ((fG s.up (s.nx.getD j []) b).set b (bm s.up ((s.nx.getD j []).getD b 0))))=frX 3 2 (eG s.up s.nx j (b+1)) s.ot XX:=λXX=>by
     have e1:fX s.up ((s.nx.getD j []).getD b 0)=bm s.up ((s.nx.getD j []).getD b 0):=if_neg hc9;rw[BY hNM ω,← e1,FO ω]
    refine bu hP hN Tryz.mixed rfl ?_
    iterate 8 (refine aw rfl λ_ k0=>?_;simp only[zO,zT,acs,reduceCtorEq,ad,J,ae,aj,af,ag,Mly.av,glN,gcj,grm,hLb,az,Nat.mul_one,Nat.add_zero];(repeat refine an ?_);(try refine .inl ?_);apply k0;clear k0;simp only[zP,J,gsm])
    refine aw rfl λ_ k0=>?_;refine bo (h:=xh _ (2*m.nx.length+1+1+1+1+1+1) m.nx.length s.up ((s.nx.getD j []).getD b 0) hmA hfA hWn.uo ω ω ω) rfl rfl (by first|exact rfl|(simp only[ev,zP,ad,J];exact rfl)) (by simp only[zV,acs,reduceCtorEq,ad,J,ae,aj,af,ag,Mly.av,glN,gcj,grm,hLb,az,Nat.mul_one,Nat.add_zero]) ?_;apply k0;clear k0;simp only[zP,J,gsm]
    iterate 2 (refine aw rfl λ_ k0=>?_;simp only[zO,zT,acs,reduceCtorEq,ad,J,ae,aj,af,ag,Mly.av,glN,gcj,grm,hLb,az,Nat.mul_one,Nat.add_zero];(repeat refine an ?_);(try refine .inl ?_);apply k0;clear k0;simp only[zP,J,gsm])
    refine ah ?_;refine⟨ζ,?_⟩;refine k53 _ (kp [3,6,7,8,9,11,17,18,19,176,177,184,185,186,187,192] ?_);refine zR5 (h:=?_)
    first
    |(refine⟨_,_,?_,ar [3,6,7,8,9,11,17,176,177,184,185,186],b+1,ω,rfl,rfl⟩
      omega)
    |(refine⟨_,_,?_,ar [3,6,7,8,9,11,17,176,177,184,185,186],b+1,ω,rfl,?_⟩
      ·omega
      ·rw[tR ω hc9];rfl)
   have hc9:(s.nx.getD j []).getD b 0= -1:=hc56;refine au (k53 _ (kp [3,6,7,8,9,11,17,18,19,176,177,184,185,186,187,192] ?_));refine zR5 (h:=?_)
   first
   |(refine⟨_,_,?_,ar [3,6,7,8,9,11,17,176,177,184,185,186],b+1,ω,rfl,rfl⟩
     omega)
   |(refine⟨_,_,?_,ar [3,6,7,8,9,11,17,176,177,184,185,186],b+1,ω,rfl,?_⟩
     ·omega
     ·rw[tR ω hc9];rfl)
  refine aL ?_;refine k46 _ (kp [3,6,7,8,9,11,17,176,177,184,185,186,187] ?_);refine zR5 (h:=?_);have hbe:b=(s.nx.getD j []).length:=ω;subst hbe;refine⟨_,_,?_,ar [3,6,7,8,9,11,176,177],j+1,ω,rfl,?_⟩
  ·omega
  ·rw[EF ω];rfl
 refine aL ?_;refine k40 _ (kp [3,6,7,8,9,11,176,177,178] ?_);refine aa λ_ k57=>?_;have hje:j=m.nx.length:=ω;subst hje;have hft:i7 s.up s.nx m.nx.length=(foQ m s).nx:=by rw[← hSl];exact GC _ _
 rw[hft];have hNM:s.ot.length=(foQ m s).nx.length:=by rw[← hft,i3];exact hSS
 have hNl:(foQ m s).nx.length=m.nx.length:=by rw[← hft,i3];exact hSl
 have hLb:(frX 3 2 (foQ m s).nx s.ot [.mp 143 .int s.up,.vars 145 [.mpv (2*m.nx.length+1+1+1+1+1+1)],.row (.pair Θ (.pair Θ .unit)) 146 v xs])[(2*m.nx.length+1)]? =some (.vars 145 [.mpv (2*m.nx.length+1+1+1+1+1+1)]):=fP hNM hNl 1;have hLm:(frX 3 2 (foQ m s).nx s.ot [.mp 143 .int s.up,.vars 145 [.mpv (2*m.nx.length+1+1+1+1+1+1)],.row (.pair Θ (.pair Θ .unit)) 146 v xs])[(2*m.nx.length)]? =some (.mp 143 .int s.up):=fP hNM hNl 0;have hmA:(.vars 38 [.int .i64 m.inp,.int .i64 m.st,.list Γ m.nx,.list Γ m.ot]:: .vars 38 [.int .i64 0,.int .i64 0,.nils,.nils]:: .vars 38 [.int .i64 m.inp,.int .i64 0,.rwc 3 m.nx.length,.rwc 4 m.nx.length]:: .rowc 26 1 m.nx.length (frN 2 m.nx.length):: .rowc 26 1 m.nx.length (frQ 2 m.nx.length):: .dead (2*m.nx.length)::frX 3 2 (foQ m s).nx s.ot [.mp 143 .int s.up,.vars 145 [.mpv (2*m.nx.length+1+1+1+1+1+1)],.row (.pair Θ (.pair Θ .unit)) 146 v xs])[(2*m.nx.length+1+1+1+1+1+1)]? =some (.mp 143 .int s.up):=hLm;have hfl:=Ax (A0:=.vars 38 [.int .i64 m.inp,.int .i64 m.st,.list Γ m.nx,.list Γ m.ot]) (A1:=.vars 38 [.int .i64 0,.int .i64 0,.nils,.nils]) (A2:=.vars 38 [.int .i64 m.inp,.int .i64 0,.rwc 3 m.nx.length,.rwc 4 m.nx.length]) (A3:=.rowc 26 1 m.nx.length (frN 2 m.nx.length)) (A4:=.rowc 26 1 m.nx.length (frQ 2 m.nx.length)) (A5:=.dead (2*m.nx.length)) (E:=3) (V:=2) (X:=[.mp 143 .int s.up,.vars 145 [.mpv (2*m.nx.length+1+1+1+1+1+1)],.row (.pair Θ (.pair Θ .unit)) 146 v xs]) hNM;simp only[ax,aF] at hfl;have hfA:(.vars 38 [.int .i64 m.inp,.int .i64 m.st,.list Γ m.nx,.list Γ m.ot]:: .vars 38 [.int .i64 0,.int .i64 0,.nils,.nils]:: .vars 38 [.int .i64 m.inp,.int .i64 0,.rwc 3 m.nx.length,.rwc 4 m.nx.length]:: .rowc 26 1 m.nx.length (frN 2 m.nx.length):: .rowc 26 1 m.nx.length (frQ 2 m.nx.length):: .dead (2*m.nx.length)::frX 3 2 (foQ m s).nx s.ot [.mp 143 .int s.up,.vars 145 [.mpv (2*m.nx.length+1+1+1+1+1+1)],.row (.pair Θ (.pair Θ .unit)) 146 v xs]).all (ci (.vars 38 [.int .i64 m.inp,.int .i64 m.st,.list Γ m.nx,.list Γ m.ot]:: .vars 38 [.int .i64 0,.int .i64 0,.nils,.nils]:: .vars 38 [.int .i64 m.inp,.int .i64 0,.rwc 3 m.nx.length,.rwc 4 m.nx.length]:: .rowc 26 1 m.nx.length (frN 2 m.nx.length):: .rowc 26 1 m.nx.length (frQ 2 m.nx.length):: .dead (2*m.nx.length)::frX 3 2 (foQ m s).nx s.ot [.mp 143 .int s.up,.vars 145 [.mpv (2*m.nx.length+1+1+1+1+1+1)],.row (.pair Θ (.pair Θ .unit)) 146 v xs]).length)=true:=by
  refine wS rfl rfl rfl rfl ?_ ?_
  ·simp only[ax];omega
  ·simp only[List.all_cons,List.all_nil,Bool.and_true,ci,bV,Bool.true_and,decide_eq_true_eq];simp only[ax];omega
 refine am hP hN rfl ?_
 iterate 3 refine wF hLb ?_
 refine aw rfl λ_ k0=>?_;refine bo (h:=xh _ (2*m.nx.length+1+1+1+1+1+1) m.nx.length s.up m.st hmA hfA hWn.uo ω h1 h2) rfl rfl (by first|exact rfl|(simp only[ev,zP,ad,J];exact rfl)) (by simp only[zV,acs,reduceCtorEq,ad,J,ae,aj,af,ag,Mly.av,hLb]) ?_;apply k0;clear k0;simp only[zP,J]
 iterate 2 refine wF hLb ?_
 refine ah (k57 _ (kp [3,6,7,8,9,11,176,177,178] ?_));refine aa λ_ k58=>?_;have hQk:=mI hm hWn;refine tM rfl hNl ω ?_;refine iC 3 2 2 Γ m.nx.length rfl rfl rfl (by rw[← hNl];exact jI _) (by rw[mc,hNl];exact(Nat.mul_one _).symm) ?_;simp only[zS,ax,aF,aG,aC,Nat.zero_add,J];refine iC 4 2 3 Γ m.nx.length rfl rfl rfl (by rw[← hSo];exact jI _) (by rw[mc,hSo];exact(Nat.mul_one _).symm) ?_;simp only[zS,ax,aF,aG,aC,Nat.zero_add,J];refine eF 3 2 rfl rfl ?_;simp only[aJ,aV,frC,zS,ad,zW,reduceCtorEq];refine eF 4 2 rfl rfl ?_;simp only[aJ,aV,frC,zS,ad,zW,reduceCtorEq];have g37:∀ x y z:AO,(List.replicate (2*m.nx.length) (AO.dead 2)++[x,y,z]).length=2*m.nx.length+1+1+1:=λx y z=>by simp
 have g38:∀ x y z t:AO,(List.replicate (2*m.nx.length) (AO.dead 2)++[x,y,z,t]).length=2*m.nx.length+1+1+1+1:=λx y z t=>by simp
 have g37b:∀ x y z t:AO,(List.replicate (2*m.nx.length) (AO.dead 2)++[x,y,z,t])[(2*m.nx.length+1+1+1)]? =some t:=λx y z t=>ddX 3;have g37c:∀ x y z t u:AO,(List.replicate (2*m.nx.length) (AO.dead 2)++[x,y,z,t]).set (2*m.nx.length+1+1+1) u=List.replicate (2*m.nx.length) (AO.dead 2)++[x,y,z,u]:=λx y z t u=>ddS 3;refine am hP hN rfl ?_
 (refine aw rfl λ_ k0=>?_;simp only[zO,zT,acs,reduceCtorEq,ad,J,ae,aj,af,ag,Mly.av,ax,g37,g37b];(repeat refine an ?_);(try refine .inl ?_);apply k0;clear k0;simp only[zP,J,aG,List.append_assoc,aC,g37c])
 refine aw rfl λ_ k0=>?_;refine bo (h:=ak (show aY Tryz.prog 57 [.agg [.int .i64 m.inp,.int .i64 (bm s.up m.st),.list Γ (foQ m s).nx,.list Γ s.ot]] _ from Hb (foQ m s) hQk)) rfl rfl (by first|exact rfl|(simp only[ev,zP,ad,J];exact rfl)) (by simp only[zV,acs,reduceCtorEq,ad,J,ae,aj,af,ag,Mly.av,ax,g37,g37b]) ?_;apply k0;clear k0;simp only[zP,J,aG,List.append_assoc,aC,g37c]
 iterate 6 (refine aw rfl λ_ k0=>?_;simp only[zO,zT,acs,reduceCtorEq,ad,J,ae,aj,af,ag,Mly.av,ax,g37,g37b];(repeat refine an ?_);(try refine .inl ?_);apply k0;clear k0;simp only[zP,J,aG,List.append_assoc,aC,g37c])
 refine ah (k58 _ (kp [3,6,7,8,9,11,20,21,176,177,178] ?_));refine aa λ_ k59=>?_;have hrn:(foQ m s).rnN.length=m.nx.length:=(nO _ _).trans hNl;refine am hP hN rfl ?_
 iterate 2 (refine aw rfl λ_ k0=>?_;simp only[zO,zT,acs,reduceCtorEq,ad,J,ae,aj,af,ag,Mly.av,ax,g38,hrn];(repeat refine an ?_);(try refine .inl ?_);apply k0;clear k0;simp only[zP,J,aG,List.append_assoc,aC])
 (refine aw rfl λ_ k0=>?_;simp only[zE,op1,ev,lkp,cT,cA,cD,gC,fz,dA,dV,fA,Nat.div_one,cY,dH,Ty.size,bH,dite_true,cH,Ty.dflt,reduceCtorEq,ad,J,ae,aj,af,ag,Tryz.el26,Tryz.td26,Tryz.td3,Mly.av,ax,g38,hrn];(repeat refine an ?_);(try refine .inl ?_);apply k0;clear k0;simp only[zP,J,aG,List.append_assoc,aC])
 (refine aw rfl λ_ k0=>?_;simp only[zO,zT,acs,reduceCtorEq,ad,J,ae,aj,af,ag,Mly.av,ax,g38,hrn];(repeat refine an ?_);(try refine .inl ?_);apply k0;clear k0;simp only[zP,J,aG,List.append_assoc,aC])
 refine ah (k59 _ (kp [3,6,7,8,9,11,20,21,22,176,177,178] ?_));refine aa λ_ k60=>?_;refine aa λ_ k61=>?_;have g39:∀ x y z t u:AO,(List.replicate (2*m.nx.length) (AO.dead 2)++[x,y,z,t,u])[(2*m.nx.length+1+1+1+1)]? =some u:=λx y z t u=>ddX 4;refine am hP hN rfl ?_
 iterate 3 (refine aw rfl λ_ k0=>?_;simp only[zO,zT,acs,reduceCtorEq,ad,J,ae,aj,af,ag,Mly.av,g39,aB];(repeat refine an ?_);(try refine .inl ?_);apply k0;clear k0;simp only[zP,J])
 refine ah (k61 _ (kp [3,6,7,8,9,11,20,21,22,176,177,178,219,220] ?_));refine ay ?_;refine aM (λn62 s62=>∃ (k2:Nat),(k2≤m.nx.length)∧n62=m.nx.length-k2∧s62={env:=[(6,.one (.ptr 1 0 0 0)),(7,.one .nils),(8,.one (.bool false)),(11,.one (.ptr (2*m.nx.length+1+1+1+1+1+1+1) 0 0 0)),(20,.one (.ptr (2*m.nx.length+1+1+1+1+1+1+1+1+1) 0 0 0)),(21,.one (.list Θ (foQ m s).rnN)),(22,.one (.row (2*m.nx.length+1+1+1+1+1+1+1+1+1+1) 0)),(219,.one (.int .i64 (m.nx.length:Int))),(220,.one (.int .i64 (k2:Int)))],L:=.vars 38 [.int .i64 m.inp,.int .i64 m.st,.list Γ m.nx,.list Γ m.ot]:: .vars 38 [.int .i64 0,.int .i64 0,.nils,.nils]:: .vars 38 [.int .i64 m.inp,.int .i64 (bm s.up m.st),.list Γ (foQ m s).nx,.list Γ (foQ m s).ot]:: .dead (m.nx.length+1):: .dead (m.nx.length+1):: .dead (2*m.nx.length)::(List.replicate (2*m.nx.length) (.dead 2)++[.mp 143 .int s.up,.vars 145 [.mpv (2*m.nx.length+1+1+1+1+1+1)],.row (.pair Θ (.pair Θ .unit)) 146 v xs,.vars 38 [.int .i64 (foQ m s).rnP.inp,.int .i64 (foQ m s).rnP.st,.list Γ (foQ m s).rnP.nx,.list Γ (foQ m s).rnP.ot],.row Θ 3 0 (lZ m s k2)])}) ?_ ?_
 ·exact⟨_,_,ar [6,7,8,11,20,21,22,219,220],0,Nat.zero_le _,rfl,by rw[SO];rfl⟩
 rintro n62 s62 ⟨k2,hk20,rfl,rfl⟩;refine zT5 [6,7,8,11,20,21,22,219,220,221] ?_;refine aa λ_ k64=>?_;refine cB (λhc65=>?_) (λhc65=>?_)
 ·refine au ?_
  refine k64 _ (kp [6,7,8,11,20,21,22,219,220,221] ?_);refine aa λ_ k66=>?_;refine ay ?_;refine zT5 [6,7,8,11,20,21,22,23,219,220,221] ?_;have hk2:k2<m.nx.length:=ω;have hkl2:=Kd (m:=m) (f:=s) (k:=k2) ω;have hrk:=hWn.uo.rep (x:=(k2:Int)) ω;have hLb:∀ x y z t u:AO,(List.replicate (2*m.nx.length) (AO.dead 2)++[x,y,z,t,u])[(2*m.nx.length+1)]? =some y:=λx y z t u=>ddX 1;have hLm:∀ x y z t u:AO,(List.replicate (2*m.nx.length) (AO.dead 2)++[x,y,z,t,u])[(2*m.nx.length)]? =some x:=λx y z t u=>ddX 0;have hmA:(.vars 38 [.int .i64 m.inp,.int .i64 m.st,.list Γ m.nx,.list Γ m.ot]:: .vars 38 [.int .i64 0,.int .i64 0,.nils,.nils]:: .vars 38 [.int .i64 m.inp,.int .i64 (bm s.up m.st),.list Γ (foQ m s).nx,.list Γ (foQ m s).ot]:: .dead (m.nx.length+1):: .dead (m.nx.length+1):: .dead (2*m.nx.length)::(List.replicate (2*m.nx.length) (.dead 2)++[.mp 143 .int s.up,.vars 145 [.mpv (2*m.nx.length+1+1+1+1+1+1)],.row (.pair Θ (.pair Θ .unit)) 146 v xs,.vars 38 [.int .i64 (foQ m s).rnP.inp,.int .i64 (foQ m s).rnP.st,.list Γ (foQ m s).rnP.nx,.list Γ (foQ m s).rnP.ot],.row Θ 3 0 (lZ m s k2)]):List AO)[(2*m.nx.length+1+1+1+1+1+1)]? =some (.mp 143 .int s.up):=hLm _ _ _ _ _;have hfA:(.vars 38 [.int .i64 m.inp,.int .i64 m.st,.list Γ m.nx,.list Γ m.ot]:: .vars 38 [.int .i64 0,.int .i64 0,.nils,.nils]:: .vars 38 [.int .i64 m.inp,.int .i64 (bm s.up m.st),.list Γ (foQ m s).nx,.list Γ (foQ m s).ot]:: .dead (m.nx.length+1):: .dead (m.nx.length+1):: .dead (2*m.nx.length)::(List.replicate (2*m.nx.length) (.dead 2)++[.mp 143 .int s.up,.vars 145 [.mpv (2*m.nx.length+1+1+1+1+1+1)],.row (.pair Θ (.pair Θ .unit)) 146 v xs,.vars 38 [.int .i64 (foQ m s).rnP.inp,.int .i64 (foQ m s).rnP.st,.list Γ (foQ m s).rnP.nx,.list Γ (foQ m s).rnP.ot],.row Θ 3 0 (lZ m s k2)]):List AO).all (ci (.vars 38 [.int .i64 m.inp,.int .i64 m.st,.list Γ m.nx,.list Γ m.ot]:: .vars 38 [.int .i64 0,.int .i64 0,.nils,.nils]:: .vars 38 [.int .i64 m.inp,.int .i64 (bm s.up m.st),.list Γ (foQ m s).nx,.list Γ (foQ m s).ot]:: .dead (m.nx.length+1):: .dead (m.nx.length+1):: .dead (2*m.nx.length)::(List.replicate (2*m.nx.length) (.dead 2)++[.mp 143 .int s.up,.vars 145 [.mpv (2*m.nx.length+1+1+1+1+1+1)],.row (.pair Θ (.pair Θ .unit)) 146 v xs,.vars 38 [.int .i64 (foQ m s).rnP.inp,.int .i64 (foQ m s).rnP.st,.list Γ (foQ m s).rnP.nx,.list Γ (foQ m s).rnP.ot],.row Θ 3 0 (lZ m s k2)]):List AO).length)=true:=by
   rw[Sy];refine RZ rfl rfl rfl rfl rfl rfl ?_;simp only[List.all_cons,List.all_nil,Bool.and_true,ci,bV,Bool.true_and,decide_eq_true_eq,ax,aF];omega
  have g42:∀ x y z t u w:AO,(List.replicate (2*m.nx.length) (AO.dead 2)++[x,y,z,t,u]).set (2*m.nx.length+1+1+1+1) w=List.replicate (2*m.nx.length) (AO.dead 2)++[x,y,z,t,w]:=λx y z t u w=>ddS 4;refine am hP hN rfl ?_
  iterate 5 (refine aw rfl λ_ k0=>?_;simp only[zO,zT,acs,reduceCtorEq,ad,J,ae,aj,af,ag,Mly.av,hLb,g39,hrn,az];(repeat refine an ?_);(try refine .inl ?_);apply k0;clear k0;simp only[zP,J,g42])
  refine aw rfl λ_ k0=>?_;refine bo (h:=xh _ (2*m.nx.length+1+1+1+1+1+1) m.nx.length s.up (k2:Int) hmA hfA hWn.uo ω ω ω) rfl rfl (by first|exact rfl|(simp only[ev,zP,ad,J];exact rfl)) (by simp only[zV,acs,reduceCtorEq,ad,J,ae,aj,af,ag,Mly.av,hLb,g39,hrn,az]) ?_;apply k0;clear k0;simp only[zP,J,g42]
  iterate 4 (refine aw rfl λ_ k0=>?_;simp only[zO,zT,acs,reduceCtorEq,ad,J,ae,aj,af,ag,Mly.av,hLb,g39,hrn,az];(repeat refine an ?_);(try refine .inl ?_);apply k0;clear k0;simp only[zP,J,g42])
  refine ah (k66 _ (kp [6,7,8,11,20,21,22,23,219,220,221] ?_));refine zR5 (h:=?_);refine⟨_,_,?_,ar [6,7,8,11,20,21,22,219,220],k2+1,ω,rfl,?_⟩
  ·omega
  ·rw[← La ω];rfl
 refine aL ?_;refine k60 _ (kp [6,7,8,11,20,21,22,219,220,221] ?_);refine aa λ_ k68=>?_;have hk9:k2=m.nx.length:=ω;subst hk9;rw[KR];have g44:∀ x y z t u w:AO,(List.replicate (2*m.nx.length) (AO.dead 2)++[x,y,z,t,u]).set (2*m.nx.length+1+1+1+1) w=List.replicate (2*m.nx.length) (AO.dead 2)++[x,y,z,t,w]:=λx y z t u w=>ddS 4;have g45:∀ x y z t u:AO,(List.replicate (2*m.nx.length) (AO.dead 2)++[x,y,z,t,u])[(2*m.nx.length+1+1+1)]? =some t:=λx y z t u=>ddX 3;refine cz (2*m.nx.length+1+1+1+1+1+1+1+1+1+1) (g39 _ _ _ _ _) ?_;simp only[aJ,aV,zS,ad,and_self,and_true,true_and,and_false,false_and,if_true,if_false,eq_self,reduceCtorEq,g44];refine am hP hN rfl ?_
 iterate 5 refine wF g45 ?_
 refine ah (k68 _ (kp [6,7,8,11,20,21,22,219,220,221] ?_));refine aA ?_;refine⟨nr,_,rfl,?_⟩;simp only[zF,zP,ad,J,Mly.av]
 first
 |(unfold foP foC foB
   rw[hG];exact VLE.of_eq rfl)
 |(unfold foP foC foB
   rw[hGn];exact bj ⟨dr ⟨.refl _,.refl _,aS rfl,aS rfl,trivial⟩,aD (aS rfl),aD (.refl _),trivial⟩)
end Go.Proofs.YtiedpcchhicifaaGreatDoor
