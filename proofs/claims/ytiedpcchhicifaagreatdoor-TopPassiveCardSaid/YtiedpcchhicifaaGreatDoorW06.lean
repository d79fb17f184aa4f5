/- Part of the proof. -/
import Derived.Test.YtiedpcchhicifaaGreatDoorW05
set_option linter.unusedSimpArgs false
set_option linter.unusedVariables false
set_option maxRecDepth 100000
set_option maxHeartbeats 4000000
open List renaming getElem?_eq_some_iff→Δ
open Go.Result renaming andThen_ok→Ψ
open Go.Sem renaming run_pure→Ω
open Go.Sem renaming run_bind→Φ
open Nat renaming le_refl→Υ
namespace Go.Proofs.YtiedpcchhicifaaGreatDoor
open Go Go.AV
open Nat renaming reduceEqDiff→ad,reduceAdd→J,reduceLeDiff→ae,reduceLT→aj,reduceMul→af,reduceSub→ag
open List renaming set_cons_zero→bu,set_cons_succ→bV,getD_cons_zero→aI,length_append→aq,map_cons→aJ,cons_append→aG,map_nil→aV,length_cons→ax,nil_append→aC,take_succ_cons→cE,length_nil→aF,length_map→aE,length_replicate→aB,take_length→aP,mem_cons_self→ba,mem_cons_of_mem→aQ
open Int renaming toNat_natCast→az
theorem E9 (m:Mly):aY Tryz.prog 34 [m.av] (.one (.list Θ m.reach)):=by
 refine zQ 55 Tryz.func34 λC hP hN hB=>?_;have hX:KX [0,1,2,3,4,5,7,10,25,35,36,37,38,45]:=⟨trivial⟩
 refine zT5 ?_;refine aa λ_ k2=>?_;refine aa λK3 k3=>am hP hN rfl ?_;refine zS6 ?_;refine zC8 (ak (fu m)) ?_;refine zS6 ?_;refine ah (k3 _ (kx ?_));refine cB (λhc4=>?_) (λhc4=>?_)
 ·refine zT5 ?_
  refine aA ?_;refine⟨nr,_,rfl,?_⟩;simp only[zF,zP,ad,J,Mly.av]
  first
  |(rw[xu ‹¬aK m=0›];exact x7 (aS rfl))
  |(rw[← hrf,i4 _ _ _ _ ω];exact VLE.of_eq η)
 refine au (k2 _ (kx ?_));refine aa λ_ k6=>?_;have hv:aK m=0:=by assumption
 have hm:=fc hv;have h1:=hm.s1;have h2:=hm.s2;have h3:=hm.n2;have hrp:(List.replicate m.nx.length false).length=m.nx.length:=aB;refine am hP hN rfl ?_
 iterate 3 refine zS6 ?_
 (refine aw rfl λ_ k0=>?_;simp only[zE,op1,ev,lkp,cR,bP,cq,dR,Nat.mul_one,bZ,cT,acs,Ty.dflt,zG,cK,cC,gm,ff,cY,dC,fa,Nat.div_one,cV,di,Ty.size,bq,dite_true,cH,reduceCtorEq,ad,J,ae,aj,af,ag,Tryz.el22,Tryz.el54,Tryz.st24,Tryz.td2,Tryz.td22,Tryz.td24,Tryz.td3,Tryz.td54,Mly.av];(repeat refine an ?_);(try refine .inl ?_);apply k0;clear k0;simp only[zP,J])
 refine zS6 ?_;refine ah (k6 _ (kx ?_));refine zT5 ?_;refine aa λK8 k8=>am hP hN rfl ?_
 iterate 2 refine zS6 ?_
 refine I6 ?_;refine zS6 ?_;refine ah (k8 _ (kx ?_));refine aa λ_ k9=>?_;refine zT5 ?_;refine ay ?_;refine aM (λn11 s11=>∃ (i:Nat) (l:List Int) (v:Nat),(RSet m.nx.length l)∧(m.rf (m.nx.length+1-i) i l=m.reach)∧(i≤l.length)∧n11=m.nx.length+1-i∧s11={env:=[(1,.one (.ptr 0 0 0 0)),(3,.one (.row 1 0)),(4,.one (.row 2 v)),(5,.one (.int .i64 (i:Int)))],L:=[.vars 24 [.int .i64 m.inp,.int .i64 m.st,.list Γ m.nx,.list Γ m.ot],.row .bool 4 0 (fm m.nx.length l),.row Θ 3 v l]}) ?_ ?_
 ·refine⟨_,_,ar [1,3,4,5],0,[m.st],0,jd hm,(eV hv).symm,Nat.zero_le _,rfl,?_⟩
  have hs:=lU (n:=m.nx.length) (l:=[]) hm.s1 hm.s2;rw[yP];simp only[aC] at hs;rw[hs];rfl
 rintro n11 s11 ⟨i,l,v,hR,hrf,hi,rfl,rfl⟩;refine aa λ_ k12=>?_;refine zT5 ?_;refine cB (λhc14=>?_) (λhc14=>?_)
 ·refine au ?_
  refine k12 _ (kx ?_);refine aa λ_ k15=>?_;refine ay ?_;refine aa λ_ k16=>?_;have hx:=hR.at_ (i:=i) ω;have hl:=hR.len;have hrl:=hm.rl (l.getD i 0).toNat ω;have hi2:=hm.i2;have hrow:((m.row (l.getD i 0)).length:Int)=m.inp:=hrl;refine bz hP hN Tryz.mixed rfl ?_
  iterate 10 refine zS6 ?_
  refine ah ?_;refine⟨ζ,?_⟩;refine k16 _ (kx ?_);refine ay ?_;refine aM (λn17 s17=>∃ (j:Nat) (v2:Nat),(j≤(m.row (l.getD i 0)).length)∧(RSet m.nx.length (((m.row (l.getD i 0)).take j).foldl cw l))∧n17=(m.row (l.getD i 0)).length-j∧s17={env:=[(1,.one (.ptr 0 0 0 0)),(3,.one (.row 1 0)),(4,.one (.row 2 v2)),(5,.one (.int .i64 (i:Int))),(35,.one (.list Θ (m.row (l.getD i 0)))),(36,.one (.int .i64 ((m.row (l.getD i 0)).length:Int))),(37,.one (.int .i64 (j:Int)))],L:=[.vars 24 [.int .i64 m.inp,.int .i64 m.st,.list Γ m.nx,.list Γ m.ot],.row .bool 4 0 (fm m.nx.length (((m.row (l.getD i 0)).take j).foldl cw l)),.row Θ 3 v2 (((m.row (l.getD i 0)).take j).foldl cw l)]}) ?_ ?_
  ·exact⟨_,_,ar [1,3,4,5,35,36,37],0,v,Nat.zero_le _,hR,rfl,rfl⟩
  rintro n17 s17 ⟨j,v2,hj,hRc,rfl,rfl⟩;refine zT5 ?_;refine aa λ_ k19=>?_;refine cB (λhc20=>?_) (λhc20=>?_)
  ·refine au ?_
   refine k19 _ (kx ?_);refine aa λ_ k21=>?_;refine ay ?_;refine zT5 ?_;refine aa λ_ k23=>?_;have ht:=row_rng hm hx.1 hx.2 ((m.row (l.getD i 0)).getD j 0) (cP ω);have hse:=xg (l:=(((m.row (l.getD i 0)).take j).foldl cw l)) ht.1 ht.2;have hsl:=sK m.nx.length (((m.row (l.getD i 0)).take j).foldl cw l);have hcl:=hRc.len;refine zR5 (h:=k23 _ (kx ?_));refine cB (λhc24=>?_) (λhc24=>?_)
   ·refine zT5 ?_
    refine zR5 (h:=k21 _ (kx ?_));refine zR5 (h:=?_)
    first
    |(have hnin:¬((m.row (l.getD i 0)).getD j 0∈(((m.row (l.getD i 0)).take j).foldl cw l)):=by
       intro hin;rw[decide_eq_true hin] at hse;have hh:=hc24;rw[hse] at hh;cases hh
      refine⟨_,_,?_,ar [1,3,4,5,35,36,37],j+1,v2+1,ω,?_,rfl,?_⟩
      ·omega
      ·exact RSet.take hm hR hx.1 hx.2 (j+1)
      ·rw[iZ ω,fg hnin,← lU ht.1 ht.2];rfl)
    |(have hin:((m.row (l.getD i 0)).getD j 0∈(((m.row (l.getD i 0)).take j).foldl cw l)):=by
       have hh:=hc24;rw[hse] at hh;exact of_decide_eq_true hh
      refine⟨_,_,?_,ar [1,3,4,5,35,36,37],j+1,v2,ω,?_,rfl,?_⟩
      ·omega
      ·exact RSet.take hm hR hx.1 hx.2 (j+1)
      ·rw[iZ ω,gF hin];rfl)
   refine au (k21 _ (kx ?_));refine zR5 (h:=?_)
   first
   |(have hnin:¬((m.row (l.getD i 0)).getD j 0∈(((m.row (l.getD i 0)).take j).foldl cw l)):=by
      intro hin;rw[decide_eq_true hin] at hse;have hh:=hc24;rw[hse] at hh;cases hh
     refine⟨_,_,?_,ar [1,3,4,5,35,36,37],j+1,v2+1,ω,?_,rfl,?_⟩
     ·omega
     ·exact RSet.take hm hR hx.1 hx.2 (j+1)
     ·rw[iZ ω,fg hnin,← lU ht.1 ht.2];rfl)
   |(have hin:((m.row (l.getD i 0)).getD j 0∈(((m.row (l.getD i 0)).take j).foldl cw l)):=by
      have hh:=hc24;rw[hse] at hh;exact of_decide_eq_true hh
     refine⟨_,_,?_,ar [1,3,4,5,35,36,37],j+1,v2,ω,?_,rfl,?_⟩
     ·omega
     ·exact RSet.take hm hR hx.1 hx.2 (j+1)
     ·rw[iZ ω,gF hin];rfl)
  refine aL ?_;refine k15 _ (kx ?_);refine zR5 (h:=?_);have hjr:(m.row (l.getD i 0)).take j=m.row (l.getD i 0):=List.take_of_length_le ω;rw[hjr] at hRc;have hge:=qv (m.row (l.getD i 0)) l;refine⟨_,_,?_,ar [1,3,4,5],i+1,(m.row (l.getD i 0)).foldl cw l,v2,hRc,?_,ω,rfl,?_⟩
  ·omega
  ·rw[← hrf,show m.nx.length+1-i=(m.nx.length+1-(i+1))+1 by omega,jo m _ _ _ ω]
  ·rw[hjr];rfl
 refine aL ?_;refine k9 _ (kx ?_);refine zT5 ?_;refine aA ?_;refine⟨nr,_,rfl,?_⟩;simp only[zF,zP,ad,J,Mly.av]
 first
 |(rw[xu ‹¬aK m=0›];exact x7 (aS rfl))
 |(rw[← hrf,i4 _ _ _ _ ω];exact VLE.of_eq η)
theorem Tk (m:Mly):aY Tryz.prog 14 [m.av] (.tup [m.trim.av,.one (.int .i64 (aK m))]):=by
 refine zQ 89 Tryz.func14 λC hP hN hB=>?_;have hX:KX [0,1,2,3,4,5,6,7,8,9,11,12,13,14,18,27,28,29,30,42,43,44,45,55,56,57,58]:=⟨trivial⟩
 refine zT5 ?_;refine aa λ_ k2=>?_;refine aa λK3 k3=>am hP hN rfl ?_;refine zS6 ?_;refine zC8 (ak (fu m)) ?_;refine zS6 ?_;refine ah (k3 _ (kx ?_));refine zT5 ?_;refine cB (λhc5=>?_) (λhc5=>?_)
 ·refine zT5 ?_
  refine aA ?_;refine⟨nr,_,rfl,?_⟩;simp only[zF,zP,ad,J,Mly.av]
  first
  |(rw[zp ‹¬aK m=0›]
    exact bl ⟨dt ⟨.refl _,.refl _,aS rfl,aS rfl,trivial⟩,aD (.refl _),trivial⟩)
  |(rw[vl hv,hv]
    have hk3:k=m.reach.length:=ω;have e1:m.tnx.take k=m.tnx:=List.take_of_length_le (by simp[Mly.tnx];omega);have e2:m.tot.take k=m.tot:=List.take_of_length_le (by simp[Mly.tot];omega);rw[e1,e2];exact VLE.of_eq (by simp[fzC];rfl))
 refine au (k2 _ (kx ?_));refine aa λK7 k7=>am hP hN rfl ?_;refine zS6 ?_;refine zC8 (ak (E9 m)) ?_;refine zS6 ?_;refine ah (k7 _ (kx ?_));refine aa λ_ k8=>?_;have hv:aK m=0:=by assumption
 have hm:=fc hv;have h3:=hm.n2;have hR:=gx hm;have hRl:=hR.len;have hi1:=hm.i1;have hi2:=hm.i2;have hol:=hm.ol;refine am hP hN rfl ?_
 iterate 3 refine zS6 ?_
 (refine aw rfl λ_ k0=>?_;simp only[zE,op1,ev,lkp,cR,bP,cq,dR,Nat.mul_one,bZ,cT,acs,Ty.dflt,zG,cK,cC,gm,ff,cY,dC,fa,Nat.div_one,cV,di,Ty.size,bq,dite_true,cH,reduceCtorEq,ad,J,ae,aj,af,ag,Tryz.el22,Tryz.el26,Tryz.st24,Tryz.td2,Tryz.td22,Tryz.td24,Tryz.td26,Tryz.td3,Mly.av];(repeat refine an ?_);(try refine .inl ?_);apply k0;clear k0;simp only[zP,J])
 refine zS6 ?_;refine ah (k8 _ (kx ?_));refine aa λ_ k9=>?_;refine zT5 ?_;refine ay ?_;refine aM (λn11 s11=>∃ (k:Nat),(k≤m.reach.length)∧n11=m.reach.length-k∧s11={env:=[(1,.one (.ptr 0 0 0 0)),(2,.one (.ptr 1 0 0 0)),(5,.one (.list Θ m.reach)),(6,.one (.row 2 0)),(27,.one (.list Θ m.reach)),(28,.one (.int .i64 (m.reach.length:Int))),(29,.one (.int .i64 (k:Int)))],L:=[.vars 24 [.int .i64 m.inp,.int .i64 m.st,.list Γ m.nx,.list Γ m.ot],.vars 24 [.int .i64 0,.int .i64 0,.nils,.nils],.row Θ 3 0 (tX m.nx.length m.reach k)]}) ?_ ?_
 ·exact⟨_,_,ar [1,2,5,6,27,28,29],0,Nat.zero_le _,rfl,rfl⟩
 rintro n11 s11 ⟨k,hk,rfl,rfl⟩;refine zT5 ?_;refine aa λ_ k13=>?_;refine cB (λhc14=>?_) (λhc14=>?_)
 ·refine au ?_
  refine k13 _ (kx ?_);refine aa λ_ k15=>?_;refine ay ?_;refine zT5 ?_;have hx:=hR.at_ (i:=k) ω;have hnl:=om m.nx.length m.reach k;refine zR5 (h:=k15 _ (kx ?_));refine zR5 (h:=?_);refine⟨_,_,?_,ar [1,2,5,6,27,28,29],k+1,ω,rfl,rfl⟩
  ·omega
 refine aL ?_;refine k9 _ (kx ?_);refine zT5 ?_;refine aa λ_ k18=>?_;refine zT5 ?_;refine ay ?_;refine eu 3 2 Γ 26 δ rfl rfl ?_;simp only[zS,ax,aF,aG,aC,Nat.zero_add,J];refine eu 3 3 Γ 26 δ rfl rfl ?_;simp only[zS,ax,aF,aG,aC,Nat.zero_add,J];have hkl:k=m.reach.length:=ω;refine aM (λn20 s20=>∃ (k:Nat) (v:Nat),(k≤m.reach.length)∧n20=m.reach.length-k∧s20={env:=[(1,.one (.ptr 0 0 0 0)),(2,.one (.ptr 1 0 0 0)),(6,.one (.row 2 0)),(9,.one (.ptr 3 0 0 0)),(42,.one (.list Θ m.reach)),(43,.one (.int .i64 (m.reach.length:Int))),(44,.one (.int .i64 (k:Int)))],L:=[.vars 24 [.int .i64 m.inp,.int .i64 m.st,.list Γ m.nx,.list Γ m.ot],.vars 24 [.int .i64 0,.int .i64 0,.nils,.nils],.row Θ 3 0 m.num,.vars 24 [.int .i64 m.inp,.int .i64 0,.row 4 v,.row 5 v],.row Γ 26 v (m.tnx.take k),.row Γ 26 v (m.tot.take k)]}) ?_ ?_
 ·refine⟨_,_,ar [1,2,6,9,42,43,44],0,0,Nat.zero_le _,rfl,?_⟩
  rw[hkl];rfl
 rintro n20 s20 ⟨k,v,hk2,rfl,rfl⟩;refine zT5 ?_;refine aa λ_ k22=>?_;refine cB (λhc23=>?_) (λhc23=>?_)
 ·refine au ?_
  refine k22 _ (kx ?_);refine aa λ_ k24=>?_;refine ay ?_;refine aa λ_ k25=>?_;have hx:=hR.at_ (i:=k) ω;refine zR5 (h:=k25 _ (kx ?_));refine aa λ_ k26=>?_;have hrow:((m.row (m.reach.getD k 0)).length:Int)=m.inp:=hm.rl (m.reach.getD k 0).toNat ω;have hrot:=hm.ql (m.reach.getD k 0).toNat ω;refine am hP hN rfl ?_
  iterate 2 refine zS6 ?_
  (refine aw rfl λ_ k0=>?_;simp only[zE,op1,ev,lkp,cR,bP,cq,dR,Nat.mul_one,bZ,cT,acs,Ty.dflt,zG,cK,cH,bq,Ty.size,reduceCtorEq,ad,J,ae,aj,af,ag,Tryz.el26,Tryz.st24,Tryz.td24,Tryz.td26,Tryz.td3,Mly.av];(repeat refine an ?_);(try refine .inl ?_);apply k0;clear k0;simp only[zP,J])
  refine zS6 ?_;refine ah (k26 _ (kx ?_));refine aa λ_ k27=>?_;refine zT5 ?_;refine ay ?_;refine aM (λn29 s29=>∃ (j:Nat),(j≤(m.row (m.reach.getD k 0)).length)∧n29=(m.row (m.reach.getD k 0)).length-j∧s29={env:=[(1,.one (.ptr 0 0 0 0)),(2,.one (.ptr 1 0 0 0)),(6,.one (.row 2 0)),(9,.one (.ptr 3 0 0 0)),(11,.one (.int .i64 (m.reach.getD k 0))),(12,.one (.row 6 0)),(42,.one (.list Θ m.reach)),(43,.one (.int .i64 (m.reach.length:Int))),(44,.one (.int .i64 (k:Int))),(55,.one (.list Θ (m.row (m.reach.getD k 0)))),(56,.one (.int .i64 ((m.row (m.reach.getD k 0)).length:Int))),(57,.one (.int .i64 (j:Int)))],L:=[.vars 24 [.int .i64 m.inp,.int .i64 m.st,.list Γ m.nx,.list Γ m.ot],.vars 24 [.int .i64 0,.int .i64 0,.nils,.nils],.row Θ 3 0 m.num,.vars 24 [.int .i64 m.inp,.int .i64 0,.row 4 v,.row 5 v],.row Γ 26 v (m.tnx.take k),.row Γ 26 v (m.tot.take k),.row Θ 3 0 (km m.num (m.row (m.reach.getD k 0)) j)]}) ?_ ?_
  ·refine⟨_,_,ar [1,2,6,9,11,12,42,43,44,55,56,57],0,Nat.zero_le _,rfl,?_⟩
   rw[CZ,show(m.row (m.reach.getD k 0)).length=m.inp.toNat by omega];rfl
  rintro n29 s29 ⟨j,hj,rfl,rfl⟩;refine zT5 ?_;refine aa λ_ k31=>?_;refine cB (λhc32=>?_) (λhc32=>?_)
  ·refine au ?_
   refine k31 _ (kx ?_);refine aa λ_ k33=>?_;refine ay ?_;refine zT5 ?_;have ht:=row_rng hm hx.1 hx.2 ((m.row (m.reach.getD k 0)).getD j 0) (cP ω);have hnl:m.num.length=m.nx.length:=om _ _ _;have hnf:=Fw m.num (m.row (m.reach.getD k 0)) hj;refine zR5 (h:=k33 _ (kx ?_));refine zR5 (h:=?_);refine⟨_,_,?_,ar [1,2,6,9,11,12,42,43,44,55,56,57],j+1,ω,rfl,?_⟩
   ·omega
   ·rw[← Ff _ _ ω];rfl
  refine aL ?_;refine k27 _ (kx ?_);refine aa λ_ k35=>?_;refine cA 6 rfl ?_;simp only[aJ,aV,zS,ad,ZW,reduceCtorEq];have htl:(m.tnx.take k).length=k:=by simp[Mly.tnx];omega
  have hol2:(m.tot.take k).length=k:=by simp[Mly.tot];omega
  refine zR5 (h:=k35 _ (kx ?_));refine bz hP hN Tryz.mixed rfl ?_
  iterate 7 refine zS6 ?_
  refine zC8 (ak (fz (m.ot.getD (m.reach.getD k 0).toNat []) ω)) ?_
  iterate 4 refine zS6 ?_
  refine ah ?_;refine⟨ζ,?_⟩;refine k24 _ (kx ?_);refine dO (n:=6) (L1:=[_,_,_,_,_,_]) rfl rfl (by rw[hB];decide) rfl rfl ?_;refine zR5 (h:=?_);have hjr:j=(m.row (m.reach.getD k 0)).length:=ω;refine⟨_,_,?_,ar [1,2,6,9,42,43,44],k+1,v+1,ω,rfl,?_⟩
  ·omega
  ·rw[show m.tnx.take (k+1)=m.tnx.take k++[km m.num (m.row (m.reach.getD k 0)) j] by rw[hjr,F9];exact kK _ 0 ω,show m.tot.take (k+1)=m.tot.take k++[m.ot.getD (m.reach.getD k 0).toNat []] from kK _ 0 ω];rfl
 refine aL ?_;refine k18 _ (kx ?_);refine zT5 ?_;refine aA ?_;refine⟨nr,_,rfl,?_⟩;simp only[zF,zP,ad,J,Mly.av]
 first
 |(rw[zp ‹¬aK m=0›]
   exact bl ⟨dt ⟨.refl _,.refl _,aS rfl,aS rfl,trivial⟩,aD (.refl _),trivial⟩)
 |(rw[vl hv,hv]
   have hk3:k=m.reach.length:=ω;have e1:m.tnx.take k=m.tnx:=List.take_of_length_le (by simp[Mly.tnx];omega);have e2:m.tot.take k=m.tot:=List.take_of_length_le (by simp[Mly.tot];omega);rw[e1,e2];exact VLE.of_eq (by simp[fzC];rfl))
theorem sq (m:Mly):aY Tryz.prog 5 [m.av] (.tup [m.mres.av,.one (.int .i64 (aK m))]):=by
 refine zQ 84 Tryz.func5 λC hP hN hB=>?_;have hX:KX [0,1,2,3,4,5,6,7,8,9,10,12,19,28,34,35,36,37,45,50,51,52,53]:=⟨trivial⟩
 refine zT5 ?_;refine aa λK2 k2=>am hP hN rfl ?_;refine zS6 ?_;refine zC8 (ak (Tk m)) ?_
 iterate 6 refine zS6 ?_
 refine ah (k2 _ (kx ?_));refine aa λ_ k3=>?_;refine zT5 ?_;refine cB (λhc5=>?_) (λhc5=>?_)
 ·refine zT5 ?_
  refine aA ?_;refine⟨nr,_,rfl,?_⟩;simp only[zF,zP,ad,J,Mly.av]
  first
  |(rw[sA ‹¬aK m=0›];exact bl ⟨dt ⟨.refl _,.refl _,aS rfl,aS rfl,trivial⟩,aD (.refl _),trivial⟩)
  |(have hk3:k=m.trim.nx.length:=by omega
    subst hk3;rw[D6 hv,hv];exact VLE.of_eq (by simp[fzC];rfl))
 have hv:aK m=0:=ω;have hm:=fc hv;have ht:MOK m.trim:=by rw[Jb hv];exact Ap hm
 have hvt:=ci ht;have hst:=gM ht;have hel:=hst.len;have hn2:=ht.n2;have hi1:=ht.i1;have hi2:=ht.i2;have hol:=ht.ol;have hn1:=ht.n1;refine au (k3 _ (kx ?_));refine aa λK7 k7=>am hP hN rfl ?_;refine zS6 ?_;refine zC8 (ak (Da m.trim hvt)) ?_
 iterate 5 refine zS6 ?_
 refine ah (k7 _ (kx ?_));refine aa λ_ k8=>?_;refine zT5 ?_;refine cB (λhc10=>?_) (λhc10=>?_)
 ·exact zX hc10
 refine au (k8 _ (kx ?_));refine zT5 ?_;refine aa λ_ k12=>?_;refine zT5 ?_;refine ay ?_;refine eu 3 2 Γ 26 δ rfl rfl ?_;simp only[zS,ax,aF,aG,aC,Nat.zero_add,J];refine eu 3 3 Γ 26 δ rfl rfl ?_;simp only[zS,ax,aF,aG,aC,Nat.zero_add,J];refine aM (λn14 s14=>∃ (k:Nat) (v:Nat),(k≤m.trim.nx.length)∧n14=m.trim.nx.length-k∧s14={env:=[(2,.one (.ptr 1 0 0 0)),(3,.one (.int .i64 0)),(4,.one (.ptr 2 0 0 0)),(6,.one (.list Θ m.trim.eqc)),(7,.one (.ptr 3 0 0 0)),(34,.one (.list Θ m.trim.eqc)),(35,.one (.int .i64 (m.trim.eqc.length:Int))),(36,.one (.int .i64 (k:Int)))],L:=[.vars 24 [.int .i64 m.inp,.int .i64 m.st,.list Γ m.nx,.list Γ m.ot],.vars 24 [.int .i64 0,.int .i64 0,.nils,.nils],.vars 24 [.int .i64 m.trim.inp,.int .i64 m.trim.st,.list Γ m.trim.nx,.list Γ m.trim.ot],.vars 24 [.int .i64 m.trim.inp,.int .i64 0,.row 4 v,.row 5 v],.row Γ 26 v (m.trim.qN k),.row Γ 26 v (m.trim.qO k)]}) ?_ ?_
 ·refine⟨_,_,ar [2,3,4,6,7,34,35,36],0,0,Nat.zero_le _,rfl,rfl⟩
 rintro n14 s14 ⟨k,v,hk,rfl,rfl⟩;refine zT5 ?_;refine aa λ_ k16=>?_;refine cB (λhc17=>?_) (λhc17=>?_)
 ·refine au ?_
  refine k16 _ (kx ?_);refine aa λ_ k18=>?_;refine ay ?_;refine zT5 ?_;refine aa λ_ k20=>?_;refine aa λ_ k21=>?_;have hrp:=(BA (jp ht) k ω).len;have hql:=SA m.trim k;have hqo:=QE m.trim k;have hcb:=jp ht k ω;simp only[iV,Bool.or_eq_false_iff,decide_eq_false_iff_not] at hcb;refine zR5 (h:=k21 _ (kx ?_));refine cB (λhc22=>?_) (λhc22=>?_)
  ·refine aL ?_
   refine k18 _ (kx ?_)
   first|(refine dO (n:=7) (L1:=[_,_,_,_,_,_,_]) rfl rfl (by rw[hB];decide) rfl rfl ?_;refine dO (n:=6) (L1:=[_,_,_,_,_,_]) rfl rfl (by rw[hB];decide) rfl rfl ?_)|skip
   refine zR5 (h:=?_)
   first
   |(have hnw:¬m.trim.eqc.getD k 0=cN m.trim.eqc k:=by omega
     refine⟨_,_,?_,ar [2,3,4,6,7,34,35,36],k+1,v,ω,rfl,?_⟩
     ·omega
     ·rw[(uT hnw).1,(uT hnw).2];rfl)
   |(have hnw:m.trim.eqc.getD k 0=cN m.trim.eqc k:=by omega
     have hjr:j=(m.trim.nx.getD k []).length:=ω;have htk:((m.trim.nx.getD k []).take j).map m.trim.f=(m.trim.nx.getD k []).map m.trim.f:=by rw[hjr,aP]
     refine⟨_,_,?_,ar [2,3,4,6,7,34,35,36],k+1,v+1,ω,rfl,?_⟩
     ·omega
     ·rw[(vf hnw).1,(vf hnw).2,← htk];rfl)
  refine au (k20 _ (kx ?_));refine zT5 ?_;refine aa λ_ k24=>?_;refine aa λ_ k25=>?_;have hrl:=ht.rl k ω;have hrq:=ht.ql k ω;refine zR5 (h:=k25 _ (kx ?_));refine ay ?_;refine eC 10 Θ 3 δ rfl ?_;simp only[ax,aF,aG,aC,Nat.zero_add,J];refine aM (λn26 s26=>∃ (j:Nat) (v2:Nat),(j≤(m.trim.nx.getD k []).length)∧n26=(m.trim.nx.getD k []).length-j∧s26={env:=[(2,.one (.ptr 1 0 0 0)),(3,.one (.int .i64 0)),(4,.one (.ptr 2 0 0 0)),(6,.one (.list Θ m.trim.eqc)),(7,.one (.ptr 3 0 0 0)),(8,.one (.int .i64 (k:Int))),(9,.one (.int .i64 (m.trim.eqc.getD k 0))),(10,.one (.row 6 v2)),(34,.one (.list Θ m.trim.eqc)),(35,.one (.int .i64 (m.trim.eqc.length:Int))),(36,.one (.int .i64 (k:Int))),(50,.one (.list Θ (m.trim.nx.getD k []))),(51,.one (.int .i64 ((m.trim.nx.getD k []).length:Int))),(52,.one (.int .i64 (j:Int)))],L:=[.vars 24 [.int .i64 m.inp,.int .i64 m.st,.list Γ m.nx,.list Γ m.ot],.vars 24 [.int .i64 0,.int .i64 0,.nils,.nils],.vars 24 [.int .i64 m.trim.inp,.int .i64 m.trim.st,.list Γ m.trim.nx,.list Γ m.trim.ot],.vars 24 [.int .i64 m.trim.inp,.int .i64 0,.row 4 v,.row 5 v],.row Γ 26 v (m.trim.qN k),.row Γ 26 v (m.trim.qO k),.row Θ 3 v2 (((m.trim.nx.getD k []).take j).map m.trim.f)]}) ?_ ?_
  ·refine⟨_,_,ar [2,3,4,6,7,8,9,10,34,35,36,50,51,52],0,0,Nat.zero_le _,rfl,rfl⟩
  rintro n26 s26 ⟨j,v2,hj,rfl,rfl⟩;refine zT5 ?_;refine aa λ_ k28=>?_;refine cB (λhc29=>?_) (λhc29=>?_)
  ·refine au ?_
   refine k28 _ (kx ?_);refine aa λ_ k30=>?_;refine ay ?_;refine zT5 ?_;have hnr:=ht.nr k j ω ω;refine am hP hN rfl ?_
   iterate 8 refine JV ?_
   refine ah (k30 _ (kx ?_));refine zR5 (h:=?_);refine⟨_,_,?_,ar [2,3,4,6,7,8,9,10,34,35,36,50,51,52],j+1,v2+1,ω,rfl,?_⟩
   ·omega
   ·rw[uq m.trim.f ω];rfl
  refine aL ?_;refine k24 _ (kx ?_);refine aa λ_ k32=>?_;refine cA 6 rfl ?_;simp only[aJ,aV,zS,ad,ZW,reduceCtorEq];have hrle:=Mq m.trim.eqc k;refine zR5 (h:=k32 _ (kx ?_));refine du ?_;simp only[aG,List.append_assoc,aC];refine bz hP hN Tryz.mixed rfl ?_
  iterate 2 refine zS6 ?_
  (refine aw rfl λ_ k0=>?_;simp only[zO,zT,acs,reduceCtorEq,ad,J,ae,aj,af,ag,Mly.av];(repeat refine an ?_);refine Or.inr (Or.inr (Or.inl ⟨7,ξ,?_⟩));refine k0 _ ?_;clear k0;simp only[zP,J])
  iterate 5 refine zS6 ?_
  (refine aw rfl λ_ k0=>?_;simp only[zO,zT,acs,reduceCtorEq,ad,J,ae,aj,af,ag,Mly.av];(repeat refine an ?_);refine Or.inr (k0 _ ?_);clear k0;simp only[zP,J])
  iterate 4 refine zS6 ?_
  refine ah ?_;refine⟨ζ,?_⟩;refine k18 _ (kx ?_)
  first|(refine dO (n:=7) (L1:=[_,_,_,_,_,_,_]) rfl rfl (by rw[hB];decide) rfl rfl ?_;refine dO (n:=6) (L1:=[_,_,_,_,_,_]) rfl rfl (by rw[hB];decide) rfl rfl ?_)|skip
  refine zR5 (h:=?_)
  first
  |(have hnw:¬m.trim.eqc.getD k 0=cN m.trim.eqc k:=by omega
    refine⟨_,_,?_,ar [2,3,4,6,7,34,35,36],k+1,v,ω,rfl,?_⟩
    ·omega
    ·rw[(uT hnw).1,(uT hnw).2];rfl)
  |(have hnw:m.trim.eqc.getD k 0=cN m.trim.eqc k:=by omega
    have hjr:j=(m.trim.nx.getD k []).length:=ω;have htk:((m.trim.nx.getD k []).take j).map m.trim.f=(m.trim.nx.getD k []).map m.trim.f:=by rw[hjr,aP]
    refine⟨_,_,?_,ar [2,3,4,6,7,34,35,36],k+1,v+1,ω,rfl,?_⟩
    ·omega
    ·rw[(vf hnw).1,(vf hnw).2,← htk];rfl)
 refine aL ?_;refine k12 _ (kx ?_);refine zT5 ?_;refine aA ?_;refine⟨nr,_,rfl,?_⟩;simp only[zF,zP,ad,J,Mly.av]
 first
 |(rw[sA ‹¬aK m=0›];exact bl ⟨dt ⟨.refl _,.refl _,aS rfl,aS rfl,trivial⟩,aD (.refl _),trivial⟩)
 |(have hk3:k=m.trim.nx.length:=by omega
   subst hk3;rw[D6 hv,hv];exact VLE.of_eq (by simp[fzC];rfl))
theorem PH (xs ys:List Int):aY Tryz.prog 61 [.one (.list Θ xs),.one (.list Θ ys)] (.one (.bool (decide (xs=ys)))):=by
 refine zQ 26 Tryz.func61 λC hP hN hB=>?_;have hX:KX [0,1,4,5,10,12,13,14,24]:=⟨trivial⟩
 refine fT 0 rfl λhf0=>?_;simp only[lkp,if_true,if_false,reduceCtorEq,ad,eq_self,Nat.one_ne_zero,Nat.zero_ne_one,lc,kD,kd,Fit,and_true,implies_true,true_and] at hf0;refine zT2 ?_;refine aa λ_ k2=>?_;refine zT2 ?_;refine cB (λhc4=>?_) (λhc4=>?_)
 ·refine zT2 ?_
  refine aA ?_;refine zZn ?_
  first
  |(refine iD ?_;rintro rfl;first|exact absurd rfl ‹¬_› |omega)
  |(refine jb ?_;have hk1:k=xs.length:=by omega
    have hk2:k=ys.length:=ω;rw[hk1,aP,← hk1,hk2,aP] at hT;exact hT)
 refine au (k2 _ (kx ?_));refine aa λ_ k6=>?_;refine zT2 ?_;refine ay ?_;refine aM (λn8 s8=>∃ (k:Nat),(k≤xs.length)∧(xs.take k=ys.take k)∧n8=xs.length-k∧s8={env:=[(0,.one (.list Θ xs)),(1,.one (.list Θ ys)),(12,.one (.int .i64 (xs.length:Int))),(13,.one (.int .i64 (k:Int)))],L:=[]}) ?_ ?_
 ·exact⟨_,_,ar [0,1,12,13],0,Nat.zero_le _,rfl,rfl,rfl⟩
 rintro n8 s8 ⟨k,hk,hT,rfl,rfl⟩;refine zT2 ?_;refine aa λ_ k10=>?_;refine cB (λhc11=>?_) (λhc11=>?_)
 ·refine au ?_
  refine k10 _ (kx ?_);refine aa λ_ k12=>?_;refine ay ?_;refine zT2 ?_;refine aa λ_ k14=>?_;refine bz hP hN Tryz.mixed rfl ?_
  iterate 9 refine zS3 ?_
  refine ah ?_;refine⟨ζ,?_⟩;refine k14 _ (kx ?_);refine cB (λhc15=>?_) (λhc15=>?_)
  ·refine zT2 ?_
   refine aA ?_;refine zZn ?_
   first
   |(refine iD ?_;rintro rfl;first|exact absurd rfl ‹¬_› |omega)
   |(refine jb ?_;have hk1:k=xs.length:=by omega
     have hk2:k=ys.length:=ω;rw[hk1,aP,← hk1,hk2,aP] at hT;exact hT)
  refine au (k12 _ (kx ?_));refine zR2 (h:=?_);refine⟨_,_,?_,ar [0,1,12,13],k+1,ω,pC (d:=0) hT ω ω ?_,rfl,rfl⟩
  ·omega
  ·first|assumption|omega
 refine aL ?_;refine k6 _ (kx ?_);refine zT2 ?_;refine aA ?_;refine zZn ?_
 first
 |(refine iD ?_;rintro rfl;first|exact absurd rfl ‹¬_› |omega)
 |(refine jb ?_;have hk1:k=xs.length:=by omega
   have hk2:k=ys.length:=ω;rw[hk1,aP,← hk1,hk2,aP] at hT;exact hT)
theorem NO (xs ys:List Int):aY Tryz.prog 60 [.one (.list Θ xs),.one (.list Θ ys)] (.one (.bool (decide (xs=ys)))):=by
 refine zQ 8 Tryz.func60 λC hP hN hB=>?_;have hX:KX [0,1,4]:=⟨trivial⟩
 refine zT2 ?_;refine aa λK2 k2=>am hP hN rfl ?_
 iterate 2 refine zS3 ?_
 refine zC9 (ak (PH xs ys)) ?_;refine zS3 ?_;refine ah (k2 _ (kx ?_));refine aA ?_;refine zZn ?_
 rfl
theorem Vb (xs ys:List (List Int)):aY Tryz.prog 59 [.one (.list Γ xs),.one (.list Γ ys),.one (.fn 60 [])] (.one (.bool (decide (xs=ys)))):=by
 refine zQ 32 Tryz.func59 λC hP hN hB=>?_;have hX:KX [0,1,2,6,7,8,9,14,15,16,17,18,30]:=⟨trivial⟩
 refine fT 0 rfl λhf0=>?_;simp only[lkp,if_true,if_false,reduceCtorEq,ad,eq_self,Nat.one_ne_zero,Nat.zero_ne_one,lc,kD,kd,Fit,and_true,implies_true,true_and] at hf0;refine zT2 ?_;refine aa λ_ k2=>?_;refine zT2 ?_;refine cB (λhc4=>?_) (λhc4=>?_)
 ·refine zT2 ?_
  refine aA ?_;refine zZn ?_
  first
  |(refine iD ?_;rintro rfl;first|exact absurd rfl ‹¬_› |omega)
  |(refine jb ?_;have hk1:k=xs.length:=by omega
    have hk2:k=ys.length:=ω;rw[hk1,aP,← hk1,hk2,aP] at hT;exact hT)
 refine au (k2 _ (kx ?_));refine aa λ_ k6=>?_;refine zT2 ?_;refine ay ?_;refine aM (λn8 s8=>∃ (k:Nat),(k≤xs.length)∧(xs.take k=ys.take k)∧n8=xs.length-k∧s8={env:=[(1,.one (.list Γ ys)),(2,.one (.fn 60 [])),(15,.one (.list Γ xs)),(16,.one (.int .i64 (xs.length:Int))),(17,.one (.int .i64 (k:Int)))],L:=[]}) ?_ ?_
 ·exact⟨_,_,ar [1,2,15,16,17],0,Nat.zero_le _,rfl,rfl,rfl⟩
 rintro n8 s8 ⟨k,hk,hT,rfl,rfl⟩;refine zT2 ?_;refine aa λ_ k10=>?_;refine cB (λhc11=>?_) (λhc11=>?_)
 ·refine au ?_
  refine k10 _ (kx ?_);refine aa λ_ k12=>?_;refine ay ?_;refine zT2 ?_;refine zT2 ?_;refine aa λK15 k15=>am hP hN rfl ?_
  iterate 3 refine zS3 ?_
  refine zC9 (ak (NO (xs.getD k []) (ys.getD k []))) ?_;refine zS3 ?_;refine ah (k15 _ (kx ?_));refine cB (λhc16=>?_) (λhc16=>?_)
  ·refine zT2 ?_
   refine aA ?_;refine zZn ?_
   first
   |(refine iD ?_;rintro rfl;first|exact absurd rfl ‹¬_› |omega)
   |(refine jb ?_;have hk1:k=xs.length:=by omega
     have hk2:k=ys.length:=ω;rw[hk1,aP,← hk1,hk2,aP] at hT;exact hT)
  refine au (k12 _ (kx ?_));refine zR2 (h:=?_);refine⟨_,_,?_,ar [1,2,15,16,17],k+1,ω,pC (d:=[]) hT ω ω ?_,rfl,rfl⟩
  ·omega
  ·first|assumption|omega
 refine aL ?_;refine k6 _ (kx ?_);refine zT2 ?_;refine aA ?_;refine zZn ?_
 first
 |(refine iD ?_;rintro rfl;first|exact absurd rfl ‹¬_› |omega)
 |(refine jb ?_;have hk1:k=xs.length:=by omega
   have hk2:k=ys.length:=ω;rw[hk1,aP,← hk1,hk2,aP] at hT;exact hT)
theorem JM (xs ys:List (List Int)):aY Tryz.prog 30 [.one (.list Γ xs),.one (.list Γ ys)] (.one (.bool (decide (xs=ys)))):=by
 refine zQ 8 Tryz.func30 λC hP hN hB=>?_;have hX:KX [0,1,4]:=⟨trivial⟩
 refine zT2 ?_;refine aa λK2 k2=>am hP hN rfl ?_
 iterate 2 refine zS3 ?_
 refine zC9 (ak (Vb xs ys)) ?_;refine zS3 ?_;refine ah (k2 _ (kx ?_));refine aA ?_;refine zZn ?_
 rfl
theorem uN (m n:Mly):aY Tryz.prog 11 [m.av,n.av] (.one (.bool (kz m n))):=by
 refine zQ 31 Tryz.func11 λC hP hN hB=>?_;have hX:KX [0,1,2,3,4]:=⟨trivial⟩
 refine zT5 ?_;refine aa λK2 k2=>am hP hN rfl ?_
 iterate 6 refine zS6 ?_
 refine' zJ true 5 10 (λhg3=>?a3) ?b3 ?c3
 case a3=>
  have hq3:=hg3;(try simp only[zB,reduceCtorEq] at hg3);simp only[zE]
  iterate 5 refine zD7 ?_
  refine zS6 ?_;refine ah ?_;exact zK hq3
 case b3=>exact cF
 simp only[bh,aX];refine zS6 ?_;refine' zJ true 5 17 (λhg4=>?a4) ?b4 ?c4
 case a4=>
  have hq4:=hg4;(try simp only[zB,reduceCtorEq] at hg4);simp only[zE]
  iterate 4 refine zD7 ?_
  refine db rfl λ_ k0=>?_;refine bo (h:=ak (JM m.nx n.nx)) rfl rfl (by first|exact rfl|(simp only[ev,zP,ad,J];exact rfl)) (by simp only[zV,acs,reduceCtorEq,ad,J,ae,aj,af,ag,Mly.av]) ?_;apply k0;clear k0;simp only[zP,J];refine zS6 ?_;refine ah ?_;exact zK hq4
 case b4=>exact cF
 simp only[bh,aX];refine zS6 ?_;refine' zJ true 5 24 (λhg5=>?a5) ?b5 ?c5
 case a5=>
  have hq5:=hg5;(try simp only[zB,reduceCtorEq] at hg5);simp only[zE]
  iterate 4 refine zD7 ?_
  refine db rfl λ_ k0=>?_;refine bo (h:=ak (JM m.ot n.ot)) rfl rfl (by first|exact rfl|(simp only[ev,zP,ad,J];exact rfl)) (by simp only[zV,acs,reduceCtorEq,ad,J,ae,aj,af,ag,Mly.av]) ?_;apply k0;clear k0;simp only[zP,J];refine zS6 ?_;refine ah ?_;exact zK hq5
 case b5=>exact cF
 simp only[bh,aX];refine zS6 ?_;refine ah (k2 _ (kx ?_));refine aA ?_;refine zZm ?_
 rfl
theorem EC:aY Tryz.prog 114 [] (mr.av):=by
 refine zQ 10 Tryz.func114 λC hP hN hB=>?_;have hX:KX [0]:=⟨trivial⟩
 refine aa λK1 k1=>am hP hN rfl ?_
 (refine aw rfl λ_ k0=>?_;simp only[zO,zT,acs,reduceCtorEq,ad,J,ae,aj,af,ag,Mly.av,mr];(repeat refine an ?_);(try refine .inl ?_);apply k0;clear k0;simp only[zP,J])
 refine ah (k1 _ (kx ?_));refine aa λK2 k2=>am hP hN rfl ?_
 iterate 10 (refine aw rfl λ_ k0=>?_;simp only[zO,zT,acs,reduceCtorEq,ad,J,ae,aj,af,ag,Mly.av,mr];(repeat refine an ?_);(try refine .inl ?_);apply k0;clear k0;simp only[zP,J])
 refine ah (k2 _ (kx ?_));refine aA ?_;refine⟨nr,_,rfl,?_⟩;simp only[zF,zP,ad,J,Mly.av,mr];refine VLE.of_eq ?_
 rfl
theorem PZ:aY Tryz.prog 70 [] (.one (.bool true)):=by
 refine zQ 30 Tryz.func70 λC hP hN hB=>?_;have hX:KX [0,1,2,3,4]:=⟨trivial⟩
 refine zT5 ?_;refine aa λK2 k2=>am hP hN rfl ?_;refine zC8 (ak EC) ?_;refine zC8 (ak (sq mr)) ?_
 iterate 6 refine zS6 ?_
 refine ah (k2 _ (kx ?_));refine aa λK3 k3=>am hP hN rfl ?_;refine zC8 (ak EC) ?_;refine zC8 (ak jP) ?_;refine zC8 (ak (Qf mr br)) ?_
 iterate 5 refine zS6 ?_
 refine ah (k3 _ (kx ?_));refine aa λ_ k4=>?_;refine bz hP hN Tryz.mixed rfl ?_
 iterate 3 refine zS6 ?_
 refine' zJ true 3 18 (λhg5=>?a5) ?b5 ?c5
 case a5=>
  have hq5:=hg5;(try simp only[zB,reduceCtorEq] at hg5);simp only[zE];refine zD7 ?_;refine db rfl λ_ k0=>?_;refine bo (h:=ak jP) rfl rfl (by first|exact rfl|(simp only[ev,zP,ad,J];exact rfl)) (by simp only[zV,acs,reduceCtorEq,ad,J,ae,aj,af,ag,Mly.av]) ?_;apply k0;clear k0;simp only[zP,J];refine db rfl λ_ k0=>?_;refine bo (h:=ak (uN mr.mres br)) rfl rfl (by first|exact rfl|(simp only[ev,zP,ad,J];exact rfl)) (by simp only[zV,acs,reduceCtorEq,ad,J,ae,aj,af,ag,Mly.av]) ?_;apply k0;clear k0;simp only[zP,J];refine zS6 ?_;refine ah ?_;exact zK hq5
 case b5=>exact cF
 simp only[bh,aX];refine zS6 ?_;refine' zJ true 2 23 (λhg6=>?a6) ?b6 ?c6
 case a6=>
  have hq6:=hg6;(try simp only[zB,reduceCtorEq] at hg6);simp only[zE]
  iterate 2 refine zD7 ?_
  refine zS6 ?_;refine ah ?_;exact zK hq6
 case b6=>exact cF
 simp only[bh,aX];refine zS6 ?_;refine' zJ true 1 27 (λhg7=>?a7) ?b7 ?c7
 case a7=>
  have hq7:=hg7;(try simp only[zB,reduceCtorEq] at hg7);simp only[zE];refine zD7 ?_;refine zS6 ?_;refine ah ?_;exact zK hq7
 case b7=>exact cF
 simp only[bh,aX];refine zS6 ?_;refine ah ?_;refine⟨ζ,?_⟩;refine k4 _ (kx ?_);refine aA ?_;refine zZm ?_;refine congrArg (λb=>AV.one (AC.bool b)) ?_;decide+kernel
theorem UR (a n:Int):aY Tryz.prog 90 [.one (.int .i64 a),.one (.pat Θ n 0)] (.one (.bool (decide (a<0)||decide (n≤a)))):=by
 refine zQ 11 Tryz.func90 λC hP hN hB=>?_;have hX:KX [0,1,3]:=⟨trivial⟩
 refine zT2 ?_;refine aa λK2 k2=>am hP hN rfl ?_
 iterate 3 refine zS3 ?_
 refine' zJ false 3 6 (λhg3=>?a3) ?b3 ?c3
 case a3=>
  have hq3:=hg3;(try simp only[zB,reduceCtorEq] at hg3);simp only[zE]
  iterate 3 refine tE ?_
  refine zS3 ?_;refine ah ?_;exact zK hq3
 case b3=>exact cF
 simp only[bh,aX];refine zS3 ?_;refine ah (k2 _ (kx ?_));refine aA ?_;refine zZn ?_
 rfl
theorem Uj (w:List Int)(n:Int)(hw:w.length≤1024):aY Tryz.prog 130 [.one (.list Θ w),.one (.fn 90 [.pat Θ n])] (.one (.int .i64 (nG w n))):=by
 refine zQ 19 Tryz.func130 λC hP hN hB=>?_;have hX:KX [0,1,4,5,7,8,9,16]:=⟨trivial⟩
 refine zT2 ?_;refine aa λ_ k2=>?_;refine zT2 ?_;refine ay ?_;refine aM (λn4 s4=>∃ (k:Nat),(k≤w.length)∧(∀ i,i<k→¬dQ n (w.getD i 0))∧n4=w.length-k∧s4={env:=[(0,.one (.list Θ w)),(1,.one (.fn 90 [.pat Θ n])),(7,.one (.int .i64 (w.length:Int))),(8,.one (.int .i64 (k:Int)))],L:=[]}) ?_ ?_
 ·exact⟨_,_,ar [0,1,7,8],0,Nat.zero_le _,λi hi=>by omega,rfl,rfl⟩
 rintro n4 s4 ⟨k,hk,hI,rfl,rfl⟩;refine zT2 ?_;refine aa λ_ k6=>?_;refine cB (λhc7=>?_) (λhc7=>?_)
 ·refine au ?_
  refine k6 _ (kx ?_);refine aa λ_ k8=>?_;refine ay ?_;refine zT2 ?_;refine aa λK10 k10=>am hP hN rfl ?_
  iterate 5 refine zS3 ?_
  refine zC9 (ak (UR (w.getD k 0) n)) ?_;refine ah (k10 _ (kx ?_));refine cB (λhc11=>?_) (λhc11=>?_)
  ·refine zT2 ?_
   refine aA ?_;refine zZn ?_;refine congrArg (λn=>AV.one (AC.int IntKind.i64 n)) ?_
   symm
   first
   |exact CP ω hI (by unfold dQ;omega)
   |exact pM λi hi=>hI i ω
  refine au (k8 _ (kx ?_));refine zR2 (h:=?_);refine⟨_,_,?_,ar [0,1,7,8],k+1,ω,λi hi=>?_,rfl,rfl⟩
  ·omega
  ·by_cases e:i=k
   ·rw[e];unfold dQ;omega
   ·exact hI i ω
 refine aL ?_;refine k2 _ (kx ?_);refine zT2 ?_;refine aA ?_;refine zZn ?_;refine congrArg (λn=>AV.one (AC.int IntKind.i64 n)) ?_
 symm
 first
 |exact CP ω hI (by unfold dQ;omega)
 |exact pM λi hi=>hI i ω
theorem R8 (w:List Int)(n:Int)(hw:w.length≤1024):aY Tryz.prog 89 [.one (.list Θ w),.one (.fn 90 [.pat Θ n])] (.one (.bool (decide (0≤nG w n)))):=by
 refine zQ 9 Tryz.func89 λC hP hN hB=>?_;have hX:KX [0,1,4]:=⟨trivial⟩
 refine zT2 ?_;refine aa λK2 k2=>am hP hN rfl ?_
 iterate 2 refine zS3 ?_
 refine zC9 (ak (Uj w n hw)) ?_
 iterate 2 refine zS3 ?_
 refine ah (k2 _ (kx ?_));refine aA ?_;refine zZn ?_
 rfl
theorem Rq (n:Int):aY Tryz.prog 88 [.one (.int .i64 n)] (.one (.bool (decide (1≤n)&&decide (n≤1024)))):=by
 refine zQ 9 Tryz.func88 λC hP hN hB=>?_;have hX:KX [0,2]:=⟨trivial⟩
 refine zT2 ?_;refine aa λK2 k2=>am hP hN rfl ?_
 iterate 3 refine zS3 ?_
 refine' zJ true 2 5 (λhg3=>?a3) ?b3 ?c3
 case a3=>
  have hq3:=hg3;(try simp only[zB,reduceCtorEq] at hg3);simp only[zE]
  iterate 2 refine tE ?_
  refine zS3 ?_;refine ah ?_;exact zK hq3
 case b3=>exact cF
 simp only[bh,aX];refine zS3 ?_;refine ah (k2 _ (kx ?_));refine aA ?_;refine zZn ?_
 rfl
theorem eO (w:List Int)(n:Int):aY Tryz.prog 49 [.one (.list Θ w),.one (.int .i64 n)] (.one (.int .i64 (bQ w n))):=by
 refine zQ 17 Tryz.func49 λC hP hN hB=>?_;have hX:KX [0,1,3,4,5,9,13]:=⟨trivial⟩
 refine zT2 ?_;refine aa λ_ k2=>?_;refine ay ?_;refine aa λK3 k3=>am hP hN rfl ?_;refine zS3 ?_;refine zC9 (ak (Rq n)) ?_
 iterate 2 refine zS3 ?_
 refine ah (k3 _ (kx ?_));refine cB (λhc4=>?_) (λhc4=>?_)
 ·refine zT2 ?_
  refine aA ?_;refine zZn ?_;refine congrArg (λn=>AV.one (AC.int IntKind.i64 n)) ?_
  symm
  first
  |(unfold bQ;rw[if_pos ω];done)
  |(unfold bQ;rw[if_neg ω,if_pos ω];done)
  |exact mb ω ω ω ω
  |exact jL ω ω ω ω
 refine zT2 ?_;refine cB (λhc7=>?_) (λhc7=>?_)
 ·refine zT2 ?_
  refine aA ?_;refine zZn ?_;refine congrArg (λn=>AV.one (AC.int IntKind.i64 n)) ?_
  symm
  first
  |(unfold bQ;rw[if_pos ω];done)
  |(unfold bQ;rw[if_neg ω,if_pos ω];done)
  |exact mb ω ω ω ω
  |exact jL ω ω ω ω
 refine aa λ_ k9=>?_;refine gJ 0 Θ rfl rfl ?_;simp only[aJ,aV,shV,if_true,bu];refine am hP hN rfl ?_;refine zS3 ?_
 (refine aw rfl λ_ k0=>?_;simp only[zE,op1,ev,lkp,cR,bP,fv,iJ,nD,reduceCtorEq,ad,J,ae,aj,af,ag,Tryz.el26,Tryz.td131,Tryz.td26];(repeat refine an ?_);(try refine .inl ?_);apply k0;clear k0;simp only[zP,J])
 refine zC9 (ak (R8 w n ω)) ?_;refine zS3 ?_;refine ah (k9 _ (kx ?_));refine cB (λhc10=>?_) (λhc10=>?_)
 ·refine zT2 ?_
  refine aA ?_;refine zZn ?_;refine congrArg (λn=>AV.one (AC.int IntKind.i64 n)) ?_
  symm
  first
  |(unfold bQ;rw[if_pos ω];done)
  |(unfold bQ;rw[if_neg ω,if_pos ω];done)
  |exact mb ω ω ω ω
  |exact jL ω ω ω ω
 refine au (k2 _ (kx ?_));refine zT2 ?_;refine aA ?_;refine zZn ?_;refine congrArg (λn=>AV.one (AC.int IntKind.i64 n)) ?_
 symm
 first
 |(unfold bQ;rw[if_pos ω];done)
 |(unfold bQ;rw[if_neg ω,if_pos ω];done)
 |exact mb ω ω ω ω
 |exact jL ω ω ω ω
theorem Ac (xs:List Int)(h0:0<xs.length)(h1:xs.length≤10000000000000):gQ Tryz.prog 35 [.one (.list Θ xs)] Θ 3 (xs):=by
 refine dW Tryz.func35 rfl ζ (Nat.le_of_ble_eq_true rfl) rfl λC hP hN hB=>?_;have hX:KX [0,2,4]:=⟨trivial⟩
 replace hN:C.N=8:=hN;simp only[cm,J];refine zT2 ?_;refine aa λ_ k2=>?_;refine zT2 ?_;refine cB (λhc4=>?_) (λhc4=>?_)
 ·exact zX hc4
 refine au (k2 _ (kx ?_));refine aa λK5 k5=>am hP hN rfl ?_;refine zS4 ?_
 iterate 3 refine zS3 ?_
 refine ah (k5 _ (kx ?_));refine aA ?_;refine⟨by first|exact .inl rfl|exact .inr rfl,_,rfl,_,_,rfl,?_⟩
 rfl
theorem A6 (m:Mly):aY Tryz.prog 74 [m.av] (.one (.bool (mnB m))):=by
 refine zQ 33 Tryz.func74 λC hP hN hB=>?_;have hX:KX [0,1,2,3,4,16]:=⟨trivial⟩
 refine zT5 ?_;refine aa λ_ k2=>?_;refine aa λ_ k3=>?_;refine bz hP hN Tryz.mixed rfl ?_;refine zS6 ?_;refine zC8 (ak (fu m)) ?_
 iterate 2 refine zS6 ?_
 refine' zJ false 7 8 (λhg4=>?a4) ?b4 ?c4
 case a4=>
  have hq4:=hg4;(try simp only[zB,reduceCtorEq] at hg4);simp only[zE];refine zD7 ?_;refine db rfl λ_ k0=>?_;refine bo (h:=ak (E9 m)) rfl rfl (by first|exact rfl|(simp only[ev,zP,ad,J];exact rfl)) (by simp only[zV,acs,reduceCtorEq,ad,J,ae,aj,af,ag,Mly.av]) ?_;apply k0;clear k0;simp only[zP,J]
  iterate 5 refine zD7 ?_
  refine zS6 ?_;refine ah ?_;exact zK hq4
 case b4=>exact cF
 simp only[bh,aX];refine ah ?_;refine⟨ζ,?_⟩;refine k3 _ (kx ?_);refine cB (λhc5=>?_) (λhc5=>?_)
 ·have hno:=UL (m:=m) (by have h9:=hc5;omega)
  refine zT5 ?_;refine aA ?_;refine zZm ?_
  first|(rw[hno];done)|(rw[hno];rfl)|(rw[hnb,hyes.1,he9];rfl)
 have hyes:aK m=0∧m.reach.length=m.nx.length:=by have h9:=hc5;omega
 have hnb:=UM hyes.1 hyes.2;have he9:decide ((m.mres.nx.length:Int)=(m.nx.length:Int))=decide (m.mres.nx.length=m.nx.length):=by rw[decide_eq_decide];omega
 refine au (k2 _ (kx ?_));refine aa λK7 k7=>am hP hN rfl ?_;refine zS6 ?_;refine zC8 (ak (sq m)) ?_
 iterate 6 refine zS6 ?_
 refine ah (k7 _ (kx ?_));refine aa λK8 k8=>am hP hN rfl ?_
 iterate 3 refine zS6 ?_
 refine' zJ true 7 24 (λhg9=>?a9) ?b9 ?c9
 case a9=>
  have hq9:=hg9;(try simp only[zB,reduceCtorEq] at hg9);simp only[zE]
  iterate 7 refine zD7 ?_
  refine zS6 ?_;refine ah ?_;exact zK hq9
 case b9=>exact cF
 simp only[bh,aX];refine zS6 ?_;refine ah (k8 _ (kx ?_));refine aA ?_;refine zZm ?_
 first|(rw[hno];done)|(rw[hno];rfl)|(rw[hnb,hyes.1,he9];rfl)
theorem Pf (m:Mly)(s t:Int):aY Tryz.prog 41 [m.av,.one (.int .i64 s),.one (.int .i64 t)] (.tup [.one (.list Θ ((stW m s t).getD [])),.one (.bool (stW m s t).isSome),.one (.int .i64 (stE m s t))]):=by
 refine zQ 48 Tryz.func41 λC hP hN hB=>?_;have hX:KX [0,1,2,3,6,7,8,9,10,11,15,36]:=⟨trivial⟩
 refine zT5 ?_;refine aa λ_ k2=>?_;refine aa λK3 k3=>am hP hN rfl ?_;refine zS6 ?_;refine zC8 (ak (fu m)) ?_;refine zS6 ?_;refine ah (k3 _ (kx ?_));refine zT5 ?_;refine cB (λhc5=>?_) (λhc5=>?_)
 ·refine zT5 ?_
  refine aA ?_;refine⟨nr,_,rfl,?_⟩;simp only[zF,zP,ad,J,Mly.av];unfold stW stE
  first
  |(rw[if_neg ‹¬aK m=0›,if_neg (λhh=>‹¬aK m=0› hh.1)];exact bl ⟨aD (aS rfl),aD (.refl _),aD (.refl _),trivial⟩)
  |(rw[if_pos ‹aK m=0›,if_neg (λhh=>by omega),if_neg ω];exact bl ⟨aD (aS rfl),aD (.refl _),aD (.refl _),trivial⟩)
  |(rw[if_pos ‹aK m=0›,if_pos (by refine⟨by assumption,?_⟩;omega),if_pos ω];exact bl ⟨aD (.refl _),aD (.refl _),aD (.refl _),trivial⟩)
 refine au (k2 _ (kx ?_));refine aa λ_ k7=>?_;refine aa λK8 k8=>am hP hN rfl ?_
 iterate 3 refine zS6 ?_
 refine' zJ false 5 19 (λhg9=>?a9) ?b9 ?c9
 case a9=>
  have hq9:=hg9;(try simp only[zB,reduceCtorEq] at hg9);simp only[zE]
  iterate 5 refine zD7 ?_
  refine zS6 ?_;refine ah ?_;exact zK hq9
 case b9=>exact cF
 simp only[bh,aX];refine zS6 ?_;refine' zJ false 2 26 (λhg10=>?a10) ?b10 ?c10
 case a10=>
  have hq10:=hg10;(try simp only[zB,reduceCtorEq] at hg10);simp only[zE]
  iterate 2 refine zD7 ?_
  refine zS6 ?_;refine ah ?_;exact zK hq10
 case b10=>exact cF
 simp only[bh,aX];refine zS6 ?_;refine' zJ false 5 30 (λhg11=>?a11) ?b11 ?c11
 case a11=>
  have hq11:=hg11;(try simp only[zB,reduceCtorEq] at hg11);simp only[zE]
  iterate 5 refine zD7 ?_
  refine zS6 ?_;refine ah ?_;exact zK hq11
 case b11=>exact cF
 simp only[bh,aX];refine ah (k8 _ (kx ?_));refine cB (λhc12=>?_) (λhc12=>?_)
 ·refine zT5 ?_
  refine aA ?_;refine⟨nr,_,rfl,?_⟩;simp only[zF,zP,ad,J,Mly.av];unfold stW stE
  first
  |(rw[if_neg ‹¬aK m=0›,if_neg (λhh=>‹¬aK m=0› hh.1)];exact bl ⟨aD (aS rfl),aD (.refl _),aD (.refl _),trivial⟩)
  |(rw[if_pos ‹aK m=0›,if_neg (λhh=>by omega),if_neg ω];exact bl ⟨aD (aS rfl),aD (.refl _),aD (.refl _),trivial⟩)
  |(rw[if_pos ‹aK m=0›,if_pos (by refine⟨by assumption,?_⟩;omega),if_pos ω];exact bl ⟨aD (.refl _),aD (.refl _),aD (.refl _),trivial⟩)
 refine au (k7 _ (kx ?_));refine aa λK14 k14=>am hP hN rfl ?_
 iterate 5 refine zS6 ?_
 refine zC8 (ak (zz m m s t (fc (by assumption)) (fc (by assumption)) rfl ω ω)) ?_
 iterate 5 refine zS6 ?_
 refine ah (k14 _ (kx ?_));refine zT5 ?_;refine aA ?_;refine⟨nr,_,rfl,?_⟩;simp only[zF,zP,ad,J,Mly.av];unfold stW stE
 first
 |(rw[if_neg ‹¬aK m=0›,if_neg (λhh=>‹¬aK m=0› hh.1)];exact bl ⟨aD (aS rfl),aD (.refl _),aD (.refl _),trivial⟩)
 |(rw[if_pos ‹aK m=0›,if_neg (λhh=>by omega),if_neg ω];exact bl ⟨aD (aS rfl),aD (.refl _),aD (.refl _),trivial⟩)
 |(rw[if_pos ‹aK m=0›,if_pos (by refine⟨by assumption,?_⟩;omega),if_pos ω];exact bl ⟨aD (.refl _),aD (.refl _),aD (.refl _),trivial⟩)
theorem Tm (m:Mly)(s a:Int)(hm:MOK m)(h0:0≤s)(hs:s<m.nx.length)(a0:0≤a)(ha:a<m.inp):aY Tryz.prog 91 [m.av,.one (.int .i64 s),.one (.int .i64 a)] (.tup [.one (.int .i64 (m.nxt s a)),.one (.int .i64 (m.out s a))]):=by
 have h1:=hm.rl s.toNat ω;have h2:=hm.ql s.toNat ω;have h3:=hm.ol;refine zQ 26 Tryz.func91 λC hP hN hB=>?_;have hX:KX [0,1,2,3,6,7]:=⟨trivial⟩
 refine zT5 ?_;refine aa λ_ k2=>?_;refine bz hP hN Tryz.mixed rfl ?_
 iterate 20 refine zS6 ?_
 refine ah ?_;refine⟨ζ,?_⟩;refine k2 _ (kx ?_);refine aA ?_;refine zZm ?_
 rfl
theorem Mu (m:Mly)(s:Int)(w:List Int)(hs:SOK m s)(hw:WOK w m.inp)(L0:List AO)(m0:Nat)(hm0:L0[m0]? =some (.vars 84 [.int .i64 m.inp,.int .i64 m.st,.list Γ m.nx,.list Γ m.ot,.int .i64 s])):cS Tryz.prog L0 50 (List.map (mv1 m0) [.one (.ptr 0 0 0 0),.one (.list Θ w)]) {av:=.one (.list Θ (m.go s w).2),upd:=[(m0,.vars 84 [.int .i64 m.inp,.int .i64 m.st,.list Γ m.nx,.list Γ m.ot,.int .i64 (m.go s w).1])],fp:=[m0]}:=by
 refine Fu Tryz.func50 rfl ζ (Nat.le_of_ble_eq_true rfl) rfl rfl (λC hP hN hB=>?_) L0 m0 hm0;replace hN:C.N=39:=hN;simp only[cm,J];have hX:KX [0,1,4,5,7,8,9,10,11,12,13]:=⟨trivial⟩
 refine zT5 ?_;refine zT5 ?_;refine aa λ_ k3=>?_;refine zT5 ?_;refine ay ?_;refine eC 5 Θ 3 δ rfl ?_;simp only[ax,aF,aG,aC,Nat.zero_add,J];refine aM (λn5 s5=>∃ (k:Nat) (v:Nat),(k≤w.length)∧n5=w.length-k∧s5={env:=[(0,.one (.ptr 0 0 0 0)),(5,.one (.row 1 v)),(10,.one (.list Θ w)),(11,.one (.int .i64 (w.length:Int))),(12,.one (.int .i64 (k:Int)))],L:=[.vars 84 [.int .i64 m.inp,.int .i64 m.st,.list Γ m.nx,.list Γ m.ot,.int .i64 (m.go s (w.take k)).1],.row Θ 3 v (m.go s (w.take k)).2]}) ?_ ?_
 ·exact⟨_,_,ar [0,5,10,11,12],0,0,Nat.zero_le _,rfl,rfl⟩
 rintro n5 s5 ⟨k,v,hk,rfl,rfl⟩;have hgo:=NK hs.ok hs.s0 hs.s1 hw k hk;have hlen:=hw.len;have hgl:=oD m s (w.take k);rw[List.length_take] at hgl;refine zT5 ?_;refine aa λ_ k7=>?_;refine cB (λhc8=>?_) (λhc8=>?_)
 ·refine au ?_
  refine k7 _ (kx ?_);refine aa λ_ k9=>?_;refine ay ?_;refine zT5 ?_;refine aa λ_ k11=>?_;refine bz hP hN Tryz.mixed rfl ?_
  iterate 9 refine zS6 ?_
  refine zC8 (ak (Tm m (m.go s (w.take k)).1 (w.getD k 0) hs.ok hgo.1 hgo.2 (hw.sym k ω).1 (hw.sym k ω).2)) ?_
  iterate 5 refine zS6 ?_
  refine ah ?_;refine⟨ζ,?_⟩;refine k11 _ (kx ?_);refine zT5 ?_;refine zR5 (h:=k9 _ (kx ?_));refine zR5 (h:=?_);refine⟨_,_,?_,ar [0,5,10,11,12],k+1,v+1,ω,rfl,?_⟩
  ·omega
  ·rw[kG m s ω];rfl
 refine aL ?_;refine k3 _ (kx ?_);refine zT5 ?_;refine aA ?_;refine⟨by first|exact .inl rfl|exact .inr rfl,_,rfl,_,_,rfl,?_,?_⟩<;>simp only[fzV,fz1,fzC,aJ,aV,zP,ad,J,Mly.av]
 all_goals(have htk:w.take k=w:=by rw[show k=w.length by omega,aP])
 all_goals(rw[htk];try simp)
theorem PS (m:Mly)(s:Int):aY Tryz.prog 137 [m.av,.one (.int .i64 s)] (.one (.int .i64 (dV m s))):=by
 refine zQ 20 Tryz.func137 λC hP hN hB=>?_;have hX:KX [0,1,2,4,5,9,19]:=⟨trivial⟩
 refine zT5 ?_;refine aa λ_ k2=>?_;refine aa λK3 k3=>am hP hN rfl ?_;refine zS6 ?_;refine zC8 (ak (fu m)) ?_;refine zS6 ?_;refine ah (k3 _ (kx ?_));refine zT5 ?_;refine cB (λhc5=>?_) (λhc5=>?_)
 ·refine zT5 ?_
  refine aA ?_;refine zZm ?_;refine congrArg (λn=>AV.one (AC.int IntKind.i64 n)) ?_
  symm
  unfold dV
  first
  |(rw[if_pos ω];done)
  |(rw[if_neg ω,if_pos ω];done)
  |(rw[if_neg ω,if_neg ω];done)
 refine au (k2 _ (kx ?_));refine aa λ_ k7=>?_;refine aa λK8 k8=>am hP hN rfl ?_
 iterate 3 refine zS6 ?_
 refine' zJ false 5 13 (λhg9=>?a9) ?b9 ?c9
 case a9=>
  have hq9:=hg9;(try simp only[zB,reduceCtorEq] at hg9);simp only[zE]
  iterate 5 refine zD7 ?_
  refine zS6 ?_;refine ah ?_;exact zK hq9
 case b9=>exact cF
 simp only[bh,aX];refine ah (k8 _ (kx ?_));refine cB (λhc10=>?_) (λhc10=>?_)
 ·refine zT5 ?_
  refine aA ?_;refine zZm ?_;refine congrArg (λn=>AV.one (AC.int IntKind.i64 n)) ?_
  symm
  unfold dV
  first
  |(rw[if_pos ω];done)
  |(rw[if_neg ω,if_pos ω];done)
  |(rw[if_neg ω,if_neg ω];done)
 refine au (k7 _ (kx ?_));refine zT5 ?_;refine aA ?_;refine zZm ?_;refine congrArg (λn=>AV.one (AC.int IntKind.i64 n)) ?_
 symm
 unfold dV
 first
 |(rw[if_pos ω];done)
 |(rw[if_neg ω,if_pos ω];done)
 |(rw[if_neg ω,if_neg ω];done)
theorem mz (m:Mly)(s:Int)(w:List Int):aY Tryz.prog 107 [m.av,.one (.int .i64 s),.one (.list Θ w)] (.tup [.one (.list Θ (eG m s w)),.one (.int .i64 (pF m s w)),.one (.int .i64 (gv m s w))]):=by
 refine zQ 39 Tryz.func107 λC hP hN hB=>?_;have hX:KX [0,1,2,3,6,7,8,9,10,11,12,17,24]:=⟨trivial⟩
 refine zT5 ?_;refine aa λ_ k2=>?_;refine aa λK3 k3=>am hP hN rfl ?_
 iterate 2 refine zS6 ?_
 refine zC8 (ak (PS m s)) ?_;refine zS6 ?_;refine ah (k3 _ (kx ?_));refine zT5 ?_;refine cB (λhc5=>?_) (λhc5=>?_)
 ·refine zT5 ?_
  refine aA ?_;refine⟨nr,_,rfl,?_⟩;simp only[zF,zP,ad,J,Mly.av]
  first
  |(have hE:=mJ (w:=w) ‹¬dV m s=0›
    unfold eG pF;rw[hE,if_neg ‹¬dV m s=0›,if_neg ‹¬dV m s=0›];exact bl ⟨aD (aS rfl),aD (.refl _),aD (.refl _),trivial⟩)
  |(have hE:=nQ (w:=w) ‹dV m s=0›
    unfold eG pF;rw[hE]
    first
    |(rw[if_neg ‹¬bQ w m.inp=0›,if_neg ‹¬bQ w m.inp=0›]
      exact bl ⟨aD (aS rfl),aD (.refl _),aD (.refl _),trivial⟩)
    |(rw[‹bQ w m.inp=0›,if_pos rfl,if_pos rfl]
      exact bl ⟨aD (.refl _),aD (.refl _),aD (.refl _),trivial⟩))
 refine au (k2 _ (kx ?_));refine aa λ_ k7=>?_;refine aa λK8 k8=>am hP hN rfl ?_
 iterate 3 refine zS6 ?_
 refine zC8 (ak (eO w m.inp)) ?_;refine zS6 ?_;refine ah (k8 _ (kx ?_));refine zT5 ?_;refine cB (λhc10=>?_) (λhc10=>?_)
 ·refine zT5 ?_
  refine aA ?_;refine⟨nr,_,rfl,?_⟩;simp only[zF,zP,ad,J,Mly.av]
  first
  |(have hE:=mJ (w:=w) ‹¬dV m s=0›
    unfold eG pF;rw[hE,if_neg ‹¬dV m s=0›,if_neg ‹¬dV m s=0›];exact bl ⟨aD (aS rfl),aD (.refl _),aD (.refl _),trivial⟩)
  |(have hE:=nQ (w:=w) ‹dV m s=0›
    unfold eG pF;rw[hE]
    first
    |(rw[if_neg ‹¬bQ w m.inp=0›,if_neg ‹¬bQ w m.inp=0›]
      exact bl ⟨aD (aS rfl),aD (.refl _),aD (.refl _),trivial⟩)
    |(rw[‹bQ w m.inp=0›,if_pos rfl,if_pos rfl]
      exact bl ⟨aD (.refl _),aD (.refl _),aD (.refl _),trivial⟩))
 refine au (k7 _ (kx ?_));refine zT5 ?_;refine aa λK13 k13=>am hP hN rfl ?_
 iterate 2 refine zS6 ?_
 refine zC8 (Mu m s w (Sf (by first|assumption|omega)) (me (by first|assumption|omega)) _ 1 rfl) ?_;refine zS6 ?_;refine ah (k13 _ (kx ?_));refine aa λ_ k14=>?_;refine bz hP hN Tryz.mixed rfl ?_
 iterate 8 refine zS6 ?_
 refine ah ?_;refine⟨ζ,?_⟩;refine k14 _ (kx ?_);refine aA ?_;refine⟨nr,_,rfl,?_⟩;simp only[zF,zP,ad,J,Mly.av]
 first
 |(have hE:=mJ (w:=w) ‹¬dV m s=0›
   unfold eG pF;rw[hE,if_neg ‹¬dV m s=0›,if_neg ‹¬dV m s=0›];exact bl ⟨aD (aS rfl),aD (.refl _),aD (.refl _),trivial⟩)
 |(have hE:=nQ (w:=w) ‹dV m s=0›
   unfold eG pF;rw[hE]
   first
   |(rw[if_neg ‹¬bQ w m.inp=0›,if_neg ‹¬bQ w m.inp=0›]
     exact bl ⟨aD (aS rfl),aD (.refl _),aD (.refl _),trivial⟩)
   |(rw[‹bQ w m.inp=0›,if_pos rfl,if_pos rfl]
     exact bl ⟨aD (.refl _),aD (.refl _),aD (.refl _),trivial⟩))
theorem jM (m:Mly)(w:List Int):aY Tryz.prog 67 [m.av,.one (.list Θ w)] (.tup [.one (.list Θ (eG m m.st w)),.one (.int .i64 (gv m m.st w))]):=by
 refine zQ 20 Tryz.func67 λC hP hN hB=>?_;have hX:KX [0,1,2,4,5,6,8]:=⟨trivial⟩
 refine zT5 ?_;refine aa λK2 k2=>am hP hN rfl ?_
 iterate 4 refine zS6 ?_
 refine zC8 (ak (mz m m.st w)) ?_
 iterate 7 refine zS6 ?_
 refine ah (k2 _ (kx ?_));refine zT5 ?_;refine aA ?_;refine zZm ?_
 rfl
theorem Nn (x y:Int):aY Tryz.prog 82 [.one (.list Θ [x,y])] (.one (.int .i64 (orI x y))):=by
 refine zQ 18 Tryz.func82 λC hP hN hB=>?_;have hX:KX [0,2,3,5,6,7,8,9,14]:=⟨trivial⟩
 refine vB ?_;refine vB ?_;refine aa λ_ k3=>?_;refine vB ?_;refine ay ?_;refine aM (λn5 s5=>∃ (k:Nat),(k≤2)∧(∀ q,q<k→[x,y].getD q 0=0)∧n5=2-k∧s5={env:=[(2,.one (.int .i64 0)),(3,.one (.int .i64 0)),(6,.one (.list Θ [x,y])),(7,.one (.int .i64 2)),(8,.one (.int .i64 (k:Int)))],L:=[]}) ?_ ?_
 ·exact⟨_,_,ar [2,3,6,7,8],0,ω,λq hq=>by omega,rfl,rfl⟩
 rintro n5 s5 ⟨k,hk,hq,rfl,rfl⟩;refine vB ?_;refine aa λ_ k7=>?_;refine cB (λhc8=>?_) (λhc8=>?_)
 ·refine au ?_
  refine k7 _ (kx ?_);refine aa λ_ k9=>?_;refine ay ?_;refine vB ?_;refine vB ?_;refine cB (λhc12=>?_) (λhc12=>?_)
  ·have h1:=hc12
   refine vB ?_;refine aA ?_;refine⟨nr,_,rfl,?_⟩;simp only[zF,zP,ad,J,ax,aF];refine VLE.of_eq ?_;refine congrArg (λn=>AV.one (AC.int IntKind.i64 n)) ?_;unfold orI
   first
   |(have hk3:k=0∨k=1:=by omega
     rcases hk3 with rfl|rfl
     ·have h9:¬x=0:=by simpa using h1
      rw[if_pos h9];rfl
     ·have h8:x=0:=by simpa using hq 0 ω
      rw[if_neg (λk=>k h8)];rfl)
   |(subst hk2
     have h8:x=0:=by simpa using hq 0 ω
     have h9:y=0:=by simpa using hq 1 ω
     rw[if_neg (λk=>k h8),h9])
  have h1:=hc12;refine au (k9 _ (kx ?_));refine To (h:=?_);refine⟨_,_,?_,ar [2,3,6,7,8],k+1,ω,λq hq2=>?_,rfl,rfl⟩
  ·omega
  ·by_cases e:q=k
   ·rw[e];omega
   ·exact hq q ω
 refine aL ?_;refine k3 _ (kx ?_);refine aa λ_ k14=>?_;have hk2:k=2:=ω;refine To (h:=k14 _ (kx ?_));refine aA ?_;refine⟨nr,_,rfl,?_⟩;simp only[zF,zP,ad,J,ax,aF];refine VLE.of_eq ?_;refine congrArg (λn=>AV.one (AC.int IntKind.i64 n)) ?_;unfold orI
 first
 |(have hk3:k=0∨k=1:=by omega
   rcases hk3 with rfl|rfl
   ·have h9:¬x=0:=by simpa using h1
    rw[if_pos h9];rfl
   ·have h8:x=0:=by simpa using hq 0 ω
    rw[if_neg (λk=>k h8)];rfl)
 |(subst hk2
   have h8:x=0:=by simpa using hq 0 ω
   have h9:y=0:=by simpa using hq 1 ω
   rw[if_neg (λk=>k h8),h9])
theorem Dl (x:Int):aY Tryz.prog 129 [.one (.int .i64 x)] (.one (.bool false)):=by
 refine zQ 6 Tryz.func129 λC hP hN hB=>?_;have hX:KX [0,2]:=⟨trivial⟩
 refine zT2 ?_;refine zT2 ?_;refine aA ?_;refine zZn ?_;simp
theorem Jp (x y:Int):aY Tryz.prog 83 [.one (.int .i64 x),.one (.int .i64 y)] (.one (.int .i64 (gR x y))):=by
 refine zQ 20 Tryz.func83 λC hP hN hB=>?_;have hX:KX [0,1,4,5,6,11,13,16,19]:=⟨trivial⟩
 refine zT2 ?_;refine aa λK2 k2=>am hP hN rfl ?_;refine zS3 ?_;refine zC9 (ak (Dl x)) ?_;refine zS3 ?_;refine ah (k2 _ (kx ?_));refine aa λK3 k3=>am hP hN rfl ?_;refine zS3 ?_;refine zC9 (ak (Dl y)) ?_;refine zS3 ?_;refine ah (k3 _ (kx ?_));refine aa λ_ k4=>?_;refine zT2 ?_;refine cB (λhc6=>?_) (λhc6=>?_)
 ·exact zX hc6
 refine au (k4 _ (kx ?_));refine aa λ_ k7=>?_;refine zT2 ?_;refine cB (λhc9=>?_) (λhc9=>?_)
 ·exact zX hc9
 refine au (k7 _ (kx ?_));refine aa λ_ k10=>?_;refine zT2 ?_;refine cB (λhc12=>?_) (λhc12=>?_)
 ·have h1:=hc12
  refine zT2 ?_;refine aA ?_;refine zZn ?_;refine congrArg (λn=>AV.one (AC.int IntKind.i64 n)) ?_;unfold gR
  first
  |(rw[if_pos ω];done)
  |(rw[if_neg ω,if_pos ω];done)
  |(rw[if_neg ω,if_neg ω];done)
 have h1:=hc12;refine au (k10 _ (kx ?_));refine aa λ_ k14=>?_;refine zT2 ?_;refine cB (λhc16=>?_) (λhc16=>?_)
 ·have h2:=hc16
  refine zT2 ?_;refine aA ?_;refine zZn ?_;refine congrArg (λn=>AV.one (AC.int IntKind.i64 n)) ?_;unfold gR
  first
  |(rw[if_pos ω];done)
  |(rw[if_neg ω,if_pos ω];done)
  |(rw[if_neg ω,if_neg ω];done)
 have h2:=hc16;refine au (k14 _ (kx ?_));refine zT2 ?_;refine aA ?_;refine zZn ?_;refine congrArg (λn=>AV.one (AC.int IntKind.i64 n)) ?_;unfold gR
 first
 |(rw[if_pos ω];done)
 |(rw[if_neg ω,if_pos ω];done)
 |(rw[if_neg ω,if_neg ω];done)
theorem ua (v w:List Int):aY Tryz.prog 84 [.one (.list Θ v),.one (.list Θ w)] (.one (.int .i64 (dj v w))):=by
 refine zQ 36 Tryz.func84 λC hP hN hB=>?_;have hX:KX [0,1,4,5,6,7,8,9,10,11,12,19,28,35]:=⟨trivial⟩
 refine fT 0 rfl λhf0=>?_;simp only[lkp,if_true,if_false,reduceCtorEq,ad,eq_self,Nat.one_ne_zero,Nat.zero_ne_one,lc,kD,kd,Fit,and_true,implies_true,true_and] at hf0;refine fT 1 rfl λhf1=>?_;simp only[lkp,if_true,if_false,reduceCtorEq,ad,eq_self,Nat.one_ne_zero,Nat.zero_ne_one,lc,kD,kd,Fit,and_true,implies_true,true_and] at hf1;refine zT2 ?_;refine aa λ_ k2=>?_;refine zT2 ?_;refine ay ?_;refine aM (λn4 s4=>∃ (k:Nat),(k≤v.length)∧(k≤w.length)∧(∀ q,q<k→v.getD q 0=w.getD q 0)∧n4=v.length-k∧s4={env:=[(0,.one (.list Θ v)),(1,.one (.list Θ w)),(4,.one (.int .i64 0)),(9,.one (.list Θ v)),(10,.one (.int .i64 (v.length:Int))),(11,.one (.int .i64 (k:Int)))],L:=[]}) ?_ ?_
 ·exact⟨_,_,ar [0,1,4,9,10,11],0,Nat.zero_le _,Nat.zero_le _,λq hq=>by omega,rfl,rfl⟩
 rintro n4 s4 ⟨k,hk,hkw,hq,rfl,rfl⟩;refine zT2 ?_;refine aa λ_ k6=>?_;refine cB (λhc7=>?_) (λhc7=>?_)
 ·refine au ?_
  refine k6 _ (kx ?_);refine aa λ_ k8=>?_;refine ay ?_;refine zT2 ?_;refine aa λ_ k10=>?_;refine zT2 ?_;refine cB (λhc12=>?_) (λhc12=>?_)
  ·have h1:=hc12
   refine zT2 ?_;refine aA ?_;refine zZn ?_;refine congrArg (λn=>AV.one (AC.int IntKind.i64 n)) ?_
   symm
   first
   |exact nz hq ω ω ω
   |exact kj (λq hq2=>hq q ω) ω
   |(rw[gh (λq hq2=>hq q ω) ω,if_pos ω];done)
   |(rw[gh (λq hq2=>hq q ω) ω,if_neg ω];done)
  have h1:=hc12;refine au (k10 _ (kx ?_));refine zT2 ?_;refine aa λK15 k15=>am hP hN rfl ?_
  iterate 2 refine zS3 ?_
  refine zC9 (ak (Jp (v.getD k 0) (w.getD k 0))) ?_;refine zS3 ?_;refine ah (k15 _ (kx ?_));refine zT2 ?_;refine cB (λhc17=>?_) (λhc17=>?_)
  ·have h2:=hc17
   refine zT2 ?_;refine aA ?_;refine zZn ?_;refine congrArg (λn=>AV.one (AC.int IntKind.i64 n)) ?_
   symm
   first
   |exact nz hq ω ω ω
   |exact kj (λq hq2=>hq q ω) ω
   |(rw[gh (λq hq2=>hq q ω) ω,if_pos ω];done)
   |(rw[gh (λq hq2=>hq q ω) ω,if_neg ω];done)
  have h2:=hc17;have heq:=Np (x:=v.getD k 0) (y:=w.getD k 0) ω;refine au (k8 _ (kx ?_));refine zR2 (h:=?_);refine⟨_,_,?_,ar [0,1,4,9,10,11],k+1,ω,ω,λq hq2=>?_,rfl,rfl⟩
  ·omega
  ·by_cases e:q=k
   ·rw[e];exact heq
   ·exact hq q ω
 refine aL ?_;refine k2 _ (kx ?_);refine aa λ_ k19=>?_;refine zT2 ?_;refine cB (λhc21=>?_) (λhc21=>?_)
 ·have h3:=hc21
  refine zT2 ?_;refine aA ?_;refine zZn ?_;refine congrArg (λn=>AV.one (AC.int IntKind.i64 n)) ?_
  symm
  first
  |exact nz hq ω ω ω
  |exact kj (λq hq2=>hq q ω) ω
  |(rw[gh (λq hq2=>hq q ω) ω,if_pos ω];done)
  |(rw[gh (λq hq2=>hq q ω) ω,if_neg ω];done)
 have h3:=hc21;refine au (k19 _ (kx ?_));refine zT2 ?_;refine aA ?_;refine zZn ?_;refine congrArg (λn=>AV.one (AC.int IntKind.i64 n)) ?_
 symm
 first
 |exact nz hq ω ω ω
 |exact kj (λq hq2=>hq q ω) ω
 |(rw[gh (λq hq2=>hq q ω) ω,if_pos ω];done)
 |(rw[gh (λq hq2=>hq q ω) ω,if_neg ω];done)
theorem zN (v w:List Int):aY Tryz.prog 45 [.one (.list Θ v),.one (.list Θ w)] (.one (.int .i64 (cJ v w))):=by
 refine zQ 15 Tryz.func45 λC hP hN hB=>?_;have hX:KX [0,1,4]:=⟨trivial⟩
 refine zT2 ?_;refine aa λK2 k2=>am hP hN rfl ?_
 iterate 4 refine zS3 ?_
 refine zC9 (ak (Jp v.length w.length)) ?_
 iterate 2 refine zS3 ?_
 refine zC9 (ak (ua v w)) ?_;refine zS3 ?_;refine zC9 (ak (Nn (gR v.length w.length) (dj v w))) ?_;refine zS3 ?_;refine ah (k2 _ (kx ?_));refine aA ?_;refine zZn ?_;rw[IY]
theorem tl (a b:TRC):aY Tryz.prog 98 [.agg [.list Θ a.1,.list Θ a.2.1],.agg [.list Θ b.1,.list Θ b.2.1]] (.one (.int .i64 (cJ a.1 b.1))):=by
 refine zQ 10 Tryz.func98 λC hP hN hB=>?_;have hX:KX [0,1,2,3,4]:=⟨trivial⟩
 refine zT2 ?_;refine aa λK2 k2=>am hP hN rfl ?_
 iterate 4 refine zS3 ?_
 refine zC9 (ak (zN a.1 b.1)) ?_;refine zS3 ?_;refine ah (k2 _ (kx ?_));refine aA ?_;refine zZn ?_
 rfl
theorem UQ (xs:List TRC)(t:TRC)(hs:SRT xs)(hl:xs.length≤1000000):aY Tryz.prog 97 [.one (.list Ξ xs),.agg [.list Θ t.1,.list Θ t.2.1],.one (.fn 98 [])] (.tup [.one (.int .i64 (plc xs t:Int)),.one (.bool (decide ((plc xs t:Int)<xs.length)&&decide (cJ (xs.getD (plc xs t) aT).1 t.1=0)))]):=by
 refine zQ 49 Tryz.func97 λC hP hN hB=>?_;have hX:KX [0,1,2,4,6,7,8,9,10,11,17,31]:=⟨trivial⟩
 refine fT 0 rfl λhf0=>?_;simp only[lkp,if_true,if_false,reduceCtorEq,ad,eq_self,Nat.one_ne_zero,Nat.zero_ne_one,lc,kD,kd,Fit,and_true,implies_true,true_and] at hf0;refine HG ?_;refine HG ?_;refine HG ?_;refine aa λ_ k4=>?_;refine ay ?_;refine aM (λn5 s5=>∃ (lo hi:Nat),(lo≤hi∧hi≤xs.length)∧(∀ q:Nat,q<lo→cJ (xs.getD q aT).1 t.1<0)∧(∀ q:Nat,hi≤q→q<xs.length→¬cJ (xs.getD q aT).1 t.1<0)∧n5=hi-lo∧s5={env:=[(0,.one (.list Ξ xs)),(2,.one (.fn 98 [])),(4,.one (.ptr 0 0 0 0)),(6,.one (.int .i64 0)),(7,.one (.bool false)),(8,.one (.int .i64 (xs.length:Int))),(9,.one (.int .i64 (lo:Int))),(10,.one (.int .i64 (hi:Int)))],L:=[.vars 86 [.list Θ t.1,.list Θ t.2.1]]}) ?_ ?_
 ·exact⟨_,_,ar [0,2,4,6,7,8,9,10],0,xs.length,⟨Nat.zero_le _,Υ _⟩,λq h=>by omega,λq h h2=>by omega,rfl,rfl⟩
 rintro n5 s5 ⟨lo,hi,hlo,h1,h2,rfl,rfl⟩;refine aa λ_ k6=>?_;refine HG ?_;refine cB (λhc8=>?_) (λhc8=>?_)
 ·refine au ?_
  refine k6 _ (kx ?_);refine ay ?_;refine aa λK9 k9=>am hP hN rfl ?_
  iterate 3 refine De ?_
  (refine aw rfl λ_ k0=>?_;simp only[zE,op1,ev,lkp,cR,bP,gT,cZ,gk,gW,fH,iz,eJ,reduceCtorEq,ad,J,ae,aj,af,ag,Tryz.td127,Tryz.td3,d7,Int.toNat_one,Int.reducePow,Int.reduceToNat];(repeat refine an ?_);(try refine .inl ?_);apply k0;clear k0;simp only[zP,J])
  refine De ?_
  (refine aw rfl λ_ k0=>?_;simp only[zE,op1,ev,lkp,cR,bP,gT,cZ,gk,gW,fH,iz,eJ,reduceCtorEq,ad,J,ae,aj,af,ag,Tryz.td127,Tryz.td3,d7,Int.toNat_one,Int.reducePow,Int.reduceToNat];(repeat refine an ?_);(try refine .inl ?_);apply k0;clear k0;simp only[zP,J])
  refine De ?_;refine ah (k9 _ (kx ?_));refine aa λ_ k10=>?_;have hmid:((lo:Int)+(hi:Int)) / 2=(((lo+hi) / 2):Nat):=ω;rw[hmid];have hml:((lo+hi) / 2)<xs.length:=ω;obtain⟨x1,x2,hgx⟩:∃ x1 x2,∀ d,xs.getD ((lo+hi) / 2) d=(x1,(x2,())):=⟨_,_,iS ω⟩
  refine bz hP hN Tryz.mixed rfl ?_
  iterate 6 refine CE hgx ?_
  refine aw rfl λ_ k0=>?_;refine bo (h:=ak (tl (x1,(x2,())) t)) rfl rfl (by first|exact rfl|(simp only[ev,zP,ad,J];exact rfl)) (by simp only[zV,acs,reduceCtorEq,ad,J,ae,aj,af,ag,d7,Int.toNat_one,Int.reducePow,Int.reduceToNat,gt,az,hgx]) ?_;apply k0;clear k0;simp only[zP,J];refine CE hgx ?_;refine ah ?_;refine⟨ζ,?_⟩;refine k10 _ (kx ?_);refine cB (λhc11=>?_) (λhc11=>?_)
  ·have hv:cJ (xs.getD ((lo+hi) / 2) aT).1 t.1<0:=by rw[hgx];simpa using hc11
   refine Tp (h:=?_)
   first
   |(refine⟨_,_,?_,ar [0,2,4,6,7,8,9,10],((lo+hi) / 2)+1,hi,⟨ω,hlo.2⟩,λq hq=>?_,h2,rfl,rfl⟩
     ·omega
     ·by_cases e:q=((lo+hi) / 2)
      ·rw[e];exact hv
      ·exact gA (oc hs (show q<((lo+hi) / 2) by omega) hml) hv)
   |(refine⟨_,_,?_,ar [0,2,4,6,7,8,9,10],lo,((lo+hi) / 2),⟨ω,ω⟩,h1,λq hq hq2 hv2=>?_,rfl,rfl⟩
     ·omega
     ·by_cases e:q=((lo+hi) / 2)
      ·rw[e] at hv2;exact hv hv2
      ·exact hv (gA (oc hs (show((lo+hi) / 2)<q by omega) hq2) hv2))
  have hv:¬cJ (xs.getD ((lo+hi) / 2) aT).1 t.1<0:=by rw[hgx];simpa using hc11
  refine Tp (h:=?_)
  first
  |(refine⟨_,_,?_,ar [0,2,4,6,7,8,9,10],((lo+hi) / 2)+1,hi,⟨ω,hlo.2⟩,λq hq=>?_,h2,rfl,rfl⟩
    ·omega
    ·by_cases e:q=((lo+hi) / 2)
     ·rw[e];exact hv
     ·exact gA (oc hs (show q<((lo+hi) / 2) by omega) hml) hv)
  |(refine⟨_,_,?_,ar [0,2,4,6,7,8,9,10],lo,((lo+hi) / 2),⟨ω,ω⟩,h1,λq hq hq2 hv2=>?_,rfl,rfl⟩
    ·omega
    ·by_cases e:q=((lo+hi) / 2)
     ·rw[e] at hv2;exact hv hv2
     ·exact hv (gA (oc hs (show((lo+hi) / 2)<q by omega) hq2) hv2))
 refine aL ?_;refine k4 _ (kx ?_);refine aa λ_ k12=>?_;have hlh:lo=hi:=ω;have hpl:plc xs t=lo:=Qu hs h1 ω (λq hq hq2=>h2 q ω hq2);obtain⟨x1,x2,hgx0⟩:∃ x1 x2,xs.getD lo aT=(x1,(x2,())):=⟨_,_,rfl⟩
 have hgx:xs.getD lo ([],([],()))=(x1,(x2,())):=hgx0;refine bz hP hN Tryz.mixed rfl ?_
 iterate 5 refine CE hgx ?_
 refine' zJ true 8 39 (λhg13=>?a13) ?b13 ?c13
 case a13=>
  have hq13:=hg13;(try simp only[zB,reduceCtorEq] at hg13);simp only[zE]
  iterate 6 (refine db rfl λ_ k0=>?_;simp only[zO,zT,acs,reduceCtorEq,ad,J,ae,aj,af,ag,d7,Int.toNat_one,Int.reducePow,Int.reduceToNat,gt,az,hgx];(repeat refine an ?_);(try refine .inl ?_);apply k0;clear k0;simp only[zP,J])
  refine db rfl λ_ k0=>?_;refine bo (h:=ak (tl (x1,(x2,())) t)) rfl rfl (by first|exact rfl|(simp only[ev,zP,ad,J];exact rfl)) (by simp only[zV,acs,reduceCtorEq,ad,J,ae,aj,af,ag,d7,Int.toNat_one,Int.reducePow,Int.reduceToNat,gt,az,hgx]) ?_;apply k0;clear k0;simp only[zP,J]
  (refine db rfl λ_ k0=>?_;simp only[zO,zT,acs,reduceCtorEq,ad,J,ae,aj,af,ag,d7,Int.toNat_one,Int.reducePow,Int.reduceToNat,gt,az,hgx];(repeat refine an ?_);(try refine .inl ?_);apply k0;clear k0;simp only[zP,J])
  refine CE hgx ?_;refine ah ?_;exact zK hq13
 case b13=>exact cF
 simp only[bh,aX]
 iterate 2 refine CE hgx ?_
 refine ah ?_;refine⟨ζ,?_⟩;refine k12 _ (kx ?_);refine aA ?_;refine⟨nr,_,rfl,?_⟩;simp only[zF,zP,ad,J,d7,Int.toNat_one,Int.reducePow,Int.reduceToNat];refine VLE.of_eq ?_;simp only[hpl,hgx0]
theorem yH (t:TRC)(h1:t.1.length≤100000)(h2:t.2.1.length≤100000):aY Tryz.prog 92 [.agg [.list Θ t.1,.list Θ t.2.1]] (.agg [.list Θ t.1,.list Θ t.2.1]):=by
 refine zQ 10 Tryz.func92 λC hP hN hB=>?_;have hX:KX [0,1,2]:=⟨trivial⟩
 refine zT2 ?_;refine aa λ_ k2=>?_;refine bz hP hN Tryz.mixed rfl ?_
 iterate 2 refine zS3 ?_
 refine zC9 (ak (fz t.1 ω)) ?_
 iterate 2 refine zS3 ?_
 refine zC9 (ak (fz t.2.1 ω)) ?_
 iterate 2 refine zS3 ?_
 refine ah ?_;refine⟨ζ,?_⟩;refine k2 _ (kx ?_);refine aA ?_;refine zZn ?_
 rfl
section
open Go.RowKit Go.Shelf Go.Lib Go.Proofs
theorem ma {P:Program}(w:World)(dT sT ty elem:TypeId)(g o dLen dCap:Nat)(a:Addr)(sLen sCap:Nat)(cur:Array Value)(t:TypeId)(cs:List Value)(k sz:Nat)
 (hu:P.underlying dT=some (.slice elem)) (hs:∀ w,(sizeOf elem).run P w= .ok sz w)
 (hg:w.heap[g]? =some (.cells cur t (0,0))) (hk:Nat.min sLen dLen=k) (hn:cs.length=k*sz)
 (hsrc:∀ j v,cs[j]? =some v→w.cell? (a.add j)=some v) (hfit:o+cs.length≤cur.size) (h1:∀ v∈cs,v.oneCell'=true):
 (Builtin.copy_ #[dT,sT] ty #[.slice (some ⟨g,o,none⟩) dLen dCap,.slice (some a) sLen sCap]).run P w=
   .ok (goInt k) (w.setRow g (splice cur.toList o cs).toArray):=by
 have hl:=run_firstCells_some (P:=P) w sz k a sLen sCap cs hn hsrc;have hst:=run_storeCells_at P g o t cs 0 cur w hg (by simpa using hfit) h1;simp only[Nat.add_zero] at hst;subst hk;simp[Builtin.copy_,run_underlying hu,Builtin.lenOf,hs,hl,hst,splice]
def INS (w:World)(v:Value)(n i:Nat)(flat vs:List Value)(v':Value)(w':World):Prop:=
 w'.ownsRow 0 86 2 v' (n+1) (flat.take (i*2)++vs++flat.drop (i*2))∧w.grownBy w' v.ownBlock∧(v'.ownBlock=v.ownBlock∨v'.ownBlock=some w.heap.size)
theorem Ge (g n c i vb vc:Nat)(cur vcur:Array Value)(flat vs:List Value)(w:World)(hi:i<n)(hroom:n+1≤c)(hc:c≤maxLen)(hcs:cur.size=c*2)
 (hg:w.heap[g]? =some (.cells cur 86 (0,0))) (htk:cur.toList.take (n*2)=flat) (hvb:w.heap[vb]? =some (.cells vcur 86 (0,0))) (hvl:vs.length=2) (hvk:vcur.toList.take 2=vs) (hne:vb≠g)
 (h1:∀ v∈flat,v.oneCell'=true) (h2:∀ v∈vs,v.oneCell'=true):
 Calls Tryz.prog 99 #[.slice (some ⟨g,0,none⟩) n c,.int .i64 i,.slice (some ⟨vb,0,none⟩) 1 vc] w λe w'=>∃ v',e= .returned v'∧INS w (.slice (some ⟨g,0,none⟩) n c) n i flat vs v' w':=by
 have hcm:c≤9223372036854775807:=by simp only[maxLen] at hc;omega
 have hvs2:2≤vcur.size:=by rw[← hvk,List.length_take,Array.length_toList] at hvl;omega
 have hfl:flat.length=n*2:=by rw[← htk,List.length_take,Array.length_toList];omega
 have hov:∀ lb cb off,(callFunc 132 #[.slice (some ⟨vb,0,none⟩) 1 vc,.slice (some ⟨g,off,none⟩) lb cb]).run Tryz.prog w= .ok (.value (.bool false)) w:=λlb cb off=>by
  rw[run_callFunc_extern Tryz.func132 ζ ζ ζ (e:=Extern.SlicesOverlaps.overlaps #[32,32] #[4]) ζ,
   Lib.run_overlaps_apart w 32 4 86 Tryz.underlying32 2 Tryz.sizeOf86 ⟨vb,0,none⟩ ⟨g,off,none⟩ 1 vc lb cb hne 86 86 vcur.size cur.size (by simp[World.shape?,hvb]) (by simp[World.shape?,hg]) ω (by simp[World.frozen?,hvb]) (by simp[World.frozen?,hvb])]
  rfl
 have hz2:¬((i:Int)=(n:Int)):=ω;have hw1:IntKind.i64.wrap ((i:Int)+1)=(i:Int)+1:=by rw[IntKind.wrap_i64];omega
 have hb1:(0:Int)≤(i:Int)+1:=ω;have hin:i≤n:=ω;have htn:((i:Int)+1).toNat=i+1:=ω;have hb2:¬(c=i+1):=ω;have hb3:(i:Int)≤(n:Int)+1:=ω;have hb4:¬(c=i):=ω;have hdl:(flat.drop (i*2)).length=(n-i)*2:=by rw[List.length_drop];omega
 have hcl:cur.toList.length=c*2:=by rw[Array.length_toList];exact hcs
 have hfc:∀ j v,flat[j]? =some v→cur[j]? =some v:=λj v hj=>by
  rw[← htk,List.getElem?_take] at hj;split at hj
  ·simpa using hj
  ·cases hj
 obtain⟨cur1,hcur1⟩:∃ cur1,cur1=(splice cur.toList ((i+1)*2) (flat.drop (i*2))).toArray:=⟨_,rfl⟩
 have hl1:cur1.size=c*2:=by rw[hcur1,List.size_toArray,length_splice _ _ _ (by rw[hdl];omega),hcl]
 obtain⟨cur2,hcur2⟩:∃ cur2,cur2=(splice cur1.toList (i*2) vs).toArray:=⟨_,rfl⟩
 have hc1l:cur1.toList.length=c*2:=by rw[Array.length_toList];exact hl1
 have hl2:cur2.size=c*2:=by rw[hcur2,List.size_toArray,length_splice _ _ _ ω,hc1l]
 have hcp1:∀ (W:World),W.heap=w.heap→∀ ty dc sc l1 l2 o1 o2,l1=n-i→l2=n+1-i→o1=(i+1)*2→o2=i*2→(Builtin.copy_ #[32,32] ty #[.slice (some ⟨g,o1,none⟩) l1 dc,.slice (some ⟨g,o2,none⟩) l2 sc]).run Tryz.prog W= .ok (goInt ((n-i:Nat):Int)) (W.setRow g cur1):=λW hW ty dc sc l1 l2 o1 o2 e1 e2 e3 e4=>by
  subst e1 e2 e3 e4;rw[hcur1];exact ma W 32 32 ty 86 g ((i+1)*2) (n-i) dc ⟨g,i*2,none⟩ (n+1-i) sc cur 86 (flat.drop (i*2)) (n-i) 2 Tryz.underlying32 Tryz.sizeOf86 (by rw[hW];exact hg) (by simp only[Nat.min_def];split<;>omega) hdl
   (λj v hj=>by
     rw[Addr.add_lit];simp only[World.cell?,hW,hg];rw[List.getElem?_drop] at hj;exact hfc _ _ hj) ω (λv hv=>h1 v (List.mem_of_mem_drop hv))
 have hg1:∀ W:World,W.heap=w.heap→(W.setRow g cur1).heap[g]? =some (.cells cur1 86 (0,0)):=λW hW=>setRow_heap W g cur cur1 86 (0,0) (by rw[hW];exact hg);have hv1:∀ W:World,W.heap=w.heap→(W.setRow g cur1).heap[vb]? =some (.cells vcur 86 (0,0)):=λW hW=>by rw[setRow_other W g vb cur1 hne,hW];exact hvb
 have hcp2:∀ (W:World),W.heap[g]? =some (.cells cur1 86 (0,0))→W.heap[vb]? =some (.cells vcur 86 (0,0))→∀ ty dc l1 o1,l1=n+1-i→o1=i*2→(Builtin.copy_ #[32,32] ty #[.slice (some ⟨g,o1,none⟩) l1 dc,.slice (some ⟨vb,0,none⟩) 1 vc]).run Tryz.prog W= .ok (goInt 1) (W.setRow g cur2):=λW hW hV ty dc l1 o1 e1 e2=>by
  subst e1 e2;rw[hcur2];exact ma W 32 32 ty 86 g (i*2) (n+1-i) dc ⟨vb,0,none⟩ 1 vc cur1 86 vs 1 2 Tryz.underlying32 Tryz.sizeOf86 hW (by simp only[Nat.min_def];split<;>omega) hvl
   (λj v hj=>by
     rw[Addr.add_lit];simp only[World.cell?,hV,Nat.zero_add];rw[← hvk,List.getElem?_take] at hj;split at hj
     ·simpa using hj
     ·cases hj) ω h2
 have hfin:∀ W:World,W.heap[g]? =some (.cells cur1 86 (0,0))→w.grownBy W (some g)→INS w (.slice (some ⟨g,0,none⟩) n c) n i flat vs (.slice (some ⟨g,0,none⟩) (n+1) c) (W.setRow g cur2):=λW hW hG=>by
  have hu:List.take ((n+1)*2) cur2.toList=flat.take (i*2)++vs++flat.drop (i*2):=by
   rw[hcur2,hcur1];simp only[splice,hvl,hdl,List.toList_toArray];have a1:(cur.toList.take ((i+1)*2)).length=(i+1)*2:=by rw[List.length_take];omega
   have b1:List.take (i*2) (cur.toList.take ((i+1)*2)++(flat.drop (i*2)++cur.toList.drop ((i+1)*2+(n-i)*2)))=flat.take (i*2):=by
    rw[List.take_append_of_le_length ω,List.take_take,← htk,List.take_take]
    congr 1;omega
   have b2:List.drop (i*2+2) (cur.toList.take ((i+1)*2)++(flat.drop (i*2)++cur.toList.drop ((i+1)*2+(n-i)*2)))=flat.drop (i*2)++cur.toList.drop ((i+1)*2+(n-i)*2):=by
    rw[List.drop_append,List.drop_of_length_le ω,aC,a1,show i*2+2-(i+1)*2=0 by omega,List.drop_zero]
   rw[b1,b2,← List.append_assoc,← List.append_assoc];rw[List.take_append_of_le_length (by simp only[aq,List.length_take,hvl,hdl];omega)];rw[List.take_of_length_le (by simp only[aq,List.length_take,hvl,hdl];omega)]
  refine⟨⟨?_,.inr ⟨g,c,cur2,rfl,Nat.zero_le _,setRow_heap W g cur1 cur2 86 (0,0) hW,hroom,hc,hl2,hu⟩⟩,⟨hG.os,hG.tape,hG.output,?_,λk hk hk2=>?_⟩,.inl rfl⟩
  ·simp only[aq,List.length_take,hvl,hdl];omega
  ·have:=hG.size;simpa [World.setRow] using this
  ·have hkg:k≠g:=λe=>hk2 (by rw[e];rfl)
   rw[setRow_other W g k cur2 hkg];exact hG.block k hk (λe=>hkg (Option.some.inj e))
 have hgb:∀ W:World,W.heap=w.heap→W.os=w.os→W.tape=w.tape→W.output=w.output→w.grownBy (W.setRow g cur1) (some g):=λW e1 e2 e3 e4=>
  ⟨e2,e3,e4,by simp[World.setRow,e1],λk _ hk=>by rw[setRow_other W g k cur1 (λe=>hk (by rw[e])),e1]⟩
 clear hcur1 hcur2 hl1 hl2 hc1l hfc hcl hdl hfl htk hvl hvk h1 h2 hvs2;have mixed:=Tryz.mixed
 go_enter Tryz.func99,Tryz.ntmps99
 go_wp2_with (simp only[hov])
 go_region_law_o (refine step_copy_runI rfl _ _ 32 32 rfl (.slice (some ⟨g,(i+1)*2,none⟩) (n-i) (c-(i+1))) (.slice (some ⟨g,i*2,none⟩) (n+1-i) (c-i)) (by simp[Act.eval,Act.put]) (by simp[Act.eval,Act.put]) (hcp1 w.drew rfl _ _ _ _ _ _ _ ω ω ω ω) ?_)
 have hE2:=λty dc=>hcp2 (w.drew.setRow g cur1) (hg1 w.drew rfl) (hv1 w.drew rfl) ty dc (n+1-i) (i*2) rfl rfl
 go_wp2_with (simp only[hE2])
 go_ret
 exact⟨_,rfl,hfin (w.drew.setRow g cur1) (hg1 w.drew rfl) (hgb w.drew rfl rfl rfl rfl)⟩
theorem NF (v:Value)(n vb vc:Nat)(vcur:Array Value)(flat vs:List Value)(w:World)(hn:n≤1000000)(hown:w.ownsRow 0 86 2 v n flat)
 (hvb:w.heap[vb]? =some (.cells vcur 86 (0,0))) (hvl:vs.length=2) (hvk:vcur.toList.take 2=vs) (h2:∀ v∈vs,v.oneCell'=true):
 Calls Tryz.prog 99 #[v,.int .i64 n,.slice (some ⟨vb,0,none⟩) 1 vc] w λe w'=>∃ v',e= .returned v'∧INS w v n n flat vs v' w':=by
 obtain⟨d,i0,z0,g1,g2,g3,g4,g5,g6,g7⟩:=cU Tryz.td86;have hzs:z0.cells.size=2:=by
  have:=cz (C:=⟨Tryz.prog,λ_=>False,λ_=>False,w,0,[],λ_=>undef,w⟩) (L:=[]) (σ:=λ_=>undef) (w:=w) g4;rw[← Array.length_toList,← this.length];rfl
 obtain⟨v',w',r1,r2,r3,_,r5⟩:=run_append_own_at (P:=Tryz.prog) w 0 32 32 86 i0 z0 2 48 Tryz.underlying32 g2 g3 g5 g6 hzs δ v n flat hown ⟨vb,0,none⟩ 1 vc vs ω
  (λj v hj=>by
    rw[Addr.add_lit];simp only[World.cell?,hvb,Nat.zero_add];rw[← hvk,List.getElem?_take] at hj;split at hj
    ·simpa using hj
    ·cases hj) h2 (by simp only[maxLen];omega) ω (Nat.zero_le _)
 have hfl:=hown.1;have hfin:INS w v n n flat vs v' w':=by
  refine⟨?_,r3,r5⟩;rw[← hfl,aP,List.drop_length,List.append_nil];exact r2
 rcases hown.2 with⟨rfl,rfl⟩|⟨g,c,cur,rfl,_,hg,hnc,hcm,hcs,htk⟩
 ·clear hown hfl r2 r3 r5 g1 g2 g3 g4 g5 g6 g7 hzs
  have mixed:=Tryz.mixed
  go_enter Tryz.func99,Tryz.ntmps99
  go_wp2_with (at_builtin;refine Lib.wpList_append_run _ rfl _ _ _ _ rfl _ _ rfl rfl _ _ r1 ?_)
  go_ret
  exact⟨_,rfl,hfin⟩
 ·clear hown hfl r2 r3 r5 g1 g2 g3 g4 g5 g6 g7 hzs
  have hcm2:c≤9223372036854775807:=by simp only[maxLen] at hcm;omega
  have mixed:=Tryz.mixed
  go_enter Tryz.func99,Tryz.ntmps99
  go_wp2_with (at_builtin;refine Lib.wpList_append_run _ rfl _ _ _ _ rfl _ _ rfl rfl _ _ r1 ?_)
  all_goals(go_ret;exact⟨_,rfl,hfin⟩)
theorem KZ (g n c i vb vc:Nat)(cur vcur:Array Value)(flat vs:List Value)(w:World)(hn:n≤1000000)(hi:i<n)(hnc:n≤c)(hroom:c<n+1)(hcs:cur.size=c*2)
 (hg:w.heap[g]? =some (.cells cur 86 (0,0))) (htk:cur.toList.take (n*2)=flat) (hvb:w.heap[vb]? =some (.cells vcur 86 (0,0))) (hvl:vs.length=2) (hvk:vcur.toList.take 2=vs) (hne:vb≠g)
 (h1:∀ v∈flat,v.oneCell'=true) (h2:∀ v∈vs,v.oneCell'=true):
 Calls Tryz.prog 99 #[.slice (some ⟨g,0,none⟩) n c,.int .i64 i,.slice (some ⟨vb,0,none⟩) 1 vc] w λe w'=>∃ v',e= .returned v'∧INS w (.slice (some ⟨g,0,none⟩) n c) n i flat vs v' w':=by
 obtain⟨d,i0,z0,g1,g2,g3,g4,g5,g6,g7⟩:=cU Tryz.td86;have hzs:z0.cells.size=2:=by
  have:=cz (C:=⟨Tryz.prog,λ_=>False,λ_=>False,w,0,[],λ_=>undef,w⟩) (L:=[]) (σ:=λ_=>undef) (w:=w) g4;rw[← Array.length_toList,← this.length];rfl
 have hgw:g<w.heap.size:=(Array.getElem?_eq_some_iff.1 hg).1;have hvw:vb<w.heap.size:=(Array.getElem?_eq_some_iff.1 hvb).1;have hfl:flat.length=n*2:=by rw[← htk,List.length_take,Array.length_toList];omega
 have hfc:∀ j v,flat[j]? =some v→cur[j]? =some v:=λj v hj=>by
  rw[← htk,List.getElem?_take] at hj;split at hj
  ·simpa using hj
  ·cases hj
 have hdl:(flat.drop (i*2)).length=(n-i)*2:=by rw[List.length_drop];omega
 have hik:i+(n+1-i)=n+1:=ω;have hkk:(n:Int)+1-(i:Int)=((n+1-i:Nat):Int):=ω;have g5':i0.size=2:=g5;have g6':i0.bytes=48:=g6;have hold:(Builtin.firstCells i0.size i (.slice (some ⟨g,0,none⟩) i c)).run Tryz.prog w.drew= .ok (flat.take (i*2)).toArray w.drew:=by
  rw[g5'];exact run_firstCells_some w.drew 2 i ⟨g,0,none⟩ i c (flat.take (i*2)) (by rw[List.length_take];omega) (λj v hj=>by
   rw[Addr.add_lit];rw[List.getElem?_take] at hj;split at hj
   ·have:=hfc j v hj
    simp only[World.cell?,Nat.zero_add];show(match w.heap[g]? with|some (.cells c _ _)=>_|_=>none)=_;rw[hg];exact this
   ·cases hj)
 obtain⟨G,hG⟩:∃ G,G=grownCap w (n+1) c 86:=⟨_,rfl⟩
 obtain⟨ROW,hROW⟩:∃ ROW:Array Value,ROW=(flat.take (i*2)).toArray++Builtin.zeroCells z0.cells (n+1-i)++Builtin.zeroCells z0.cells (G-(n+1)):=⟨_,rfl⟩
 have hGn:n+1≤G:=by rw[hG];exact grownCap_ge w _ _ _
 have hGm:G≤maxLen:=by rw[hG];exact grownCap_le_maxLen w (n+1) c 86 (by unfold maxLen;omega)
 have hG63:G≤9223372036854775807:=by simp only[maxLen] at hGm;omega
 have hRs:ROW.size=G*2:=by
  rw[hROW];simp only[Array.size_append,List.size_toArray,size_zeroCells,hzs,List.length_take,hfl];omega
 have hrz:∀ ty,(Builtin.append_ #[32,3] ty #[.slice (some ⟨g,0,none⟩) i c,.int .i64 ((n:Int)+1-(i:Int))]).run Tryz.prog w= .ok (.slice (some ⟨w.heap.size,0,none⟩) (n+1) G) (w.drew.alloc (.cells ROW 86)):=λty=>by
  have h:=Lib.run_append_grow_zeros (P:=Tryz.prog) w 32 3 ty 86 i0 z0 .i64 .i64 Tryz.underlying32 Tryz.underlying3 g2 g3 (some ⟨g,0,none⟩) i c (flat.take (i*2)) hold (n+1-i) ω ω ω ω (by rw[g6'];omega) (by rw[g6',hik];exact growslice_fits ω ω);rw[hik,← hG,← hROW] at h;rw[hkk];exact h
 obtain⟨r1,hr1⟩:∃ r1,r1=(splice ROW.toList (i*2) vs).toArray:=⟨_,rfl⟩
 have hl1:r1.size=G*2:=by rw[hr1,List.size_toArray,length_splice _ _ _ (by rw[Array.length_toList (xs:=ROW)];omega),Array.length_toList,hRs]
 have hl1':r1.toList.length=G*2:=by rw[Array.length_toList];exact hl1
 have hRl:ROW.toList.length=G*2:=by rw[Array.length_toList];exact hRs
 obtain⟨r2,hr2⟩:∃ r2,r2=(splice r1.toList ((i+1)*2) (flat.drop (i*2))).toArray:=⟨_,rfl⟩
 have hl2:r2.size=G*2:=by rw[hr2,List.size_toArray,length_splice _ _ _ ω,hl1']
 have hcp1:∀ (W:World),W.heap[w.heap.size]? =some (.cells ROW 86 (0,0))→W.heap[vb]? =some (.cells vcur 86 (0,0))→∀ ty dc l1 o1,l1=n+1-i→o1=i*2→(Builtin.copy_ #[32,32] ty #[.slice (some ⟨w.heap.size,o1,none⟩) l1 dc,.slice (some ⟨vb,0,none⟩) 1 vc]).run Tryz.prog W= .ok (goInt 1) (W.setRow w.heap.size r1):=λW hW hV ty dc l1 o1 e1 e2=>by
  subst e1 e2;rw[hr1];exact ma W 32 32 ty 86 w.heap.size (i*2) (n+1-i) dc ⟨vb,0,none⟩ 1 vc ROW 86 vs 1 2 Tryz.underlying32 Tryz.sizeOf86 hW (by simp only[Nat.min_def];split<;>omega) hvl
   (λj v hj=>by
     rw[Addr.add_lit];simp only[World.cell?,hV,Nat.zero_add];rw[← hvk,List.getElem?_take] at hj;split at hj
     ·simpa using hj
     ·cases hj) ω h2
 have hcp2:∀ (W:World),W.heap[w.heap.size]? =some (.cells r1 86 (0,0))→W.heap[g]? =some (.cells cur 86 (0,0))→∀ ty dc sc l1 l2 o1 o2,l1=n-i→l2=n-i→o1=(i+1)*2→o2=i*2→(Builtin.copy_ #[32,32] ty #[.slice (some ⟨w.heap.size,o1,none⟩) l1 dc,.slice (some ⟨g,o2,none⟩) l2 sc]).run Tryz.prog W= .ok (goInt ((n-i:Nat):Int)) (W.setRow w.heap.size r2):=λW hW hV ty dc sc l1 l2 o1 o2 e1 e2 e3 e4=>by
  subst e1 e2 e3 e4;rw[hr2];exact ma W 32 32 ty 86 w.heap.size ((i+1)*2) (n-i) dc ⟨g,i*2,none⟩ (n-i) sc r1 86 (flat.drop (i*2)) (n-i) 2 Tryz.underlying32 Tryz.sizeOf86 hW (by simp only[Nat.min_def];split<;>omega) hdl
   (λj v hj=>by
     rw[Addr.add_lit];simp only[World.cell?,hV];rw[List.getElem?_drop] at hj;exact hfc _ _ hj) ω (λv hv=>h1 v (List.mem_of_mem_drop hv))
 have hu:List.take ((n+1)*2) r2.toList=flat.take (i*2)++vs++flat.drop (i*2):=by
  have hRt:ROW.toList.take (i*2)=flat.take (i*2):=by
   rw[hROW];simp only[Array.toList_append,List.toList_toArray];rw[List.take_append_of_le_length (by simp only[aq,List.length_take];omega),List.take_append_of_le_length (by rw[List.length_take];omega),List.take_take,Nat.min_self]
  have hfi:(flat.take (i*2)).length=i*2:=by rw[List.length_take];omega
  rw[hr2,hr1];simp only[splice,hvl,hdl,List.toList_toArray,hRt];have b1:List.take ((i+1)*2) (flat.take (i*2)++(vs++ROW.toList.drop (i*2+2)))=flat.take (i*2)++vs:=by
   rw[← List.append_assoc,List.take_append_of_le_length (by rw[aq];omega),List.take_of_length_le (by rw[aq];omega)]
  rw[b1,← List.append_assoc,List.take_append_of_le_length (by simp only[aq];omega),List.take_of_length_le (by simp only[aq];omega)]
 obtain⟨W1,hW1⟩:∃ W1,W1=w.drew.alloc (.cells ROW 86):=⟨_,rfl⟩
 have hN:W1.heap[w.heap.size]? =some (.cells ROW 86 (0,0)):=by rw[hW1];exact heap_alloc_new w.drew _
 have hO:∀ b,b<w.heap.size→W1.heap[b]? =w.heap[b]?:=λb hb=>by rw[hW1];exact heap_alloc_old w.drew _ hb
 have hO1:W1.os=w.os∧W1.tape=w.tape∧W1.output=w.output∧W1.heap.size=w.heap.size+1:=by rw[hW1];exact⟨rfl,rfl,rfl,by simp[World.alloc]⟩
 rw[← hW1] at hrz;have hE1:=λty dc=>hcp1 W1 hN (by rw[hO vb hvw];exact hvb) ty dc (n+1-i) (i*2) rfl rfl;have hN2:∀ W:World,W.heap=(W1.setRow w.heap.size r1).heap→W.heap[w.heap.size]? =some (.cells r1 86 (0,0)):=λW hW=>by rw[hW];exact setRow_heap W1 _ ROW r1 86 (0,0) hN
 have hV2:∀ W:World,W.heap=(W1.setRow w.heap.size r1).heap→W.heap[g]? =some (.cells cur 86 (0,0)):=λW hW=>by rw[hW,setRow_other W1 _ g r1 ω,hO g hgw];exact hg
 have hfin:∀ W:World,W.heap=(W1.setRow w.heap.size r1).heap→W.os=W1.os→W.tape=W1.tape→W.output=W1.output→INS w (.slice (some ⟨g,0,none⟩) n c) n i flat vs (.slice (some ⟨w.heap.size,0,none⟩) (n+1) G) (W.setRow w.heap.size r2):=λW hW e1 e2 e3=>by
  refine⟨⟨?_,.inr ⟨w.heap.size,G,r2,rfl,Nat.zero_le _,setRow_heap W _ r1 r2 86 (0,0) (hN2 W hW),hGn,hGm,hl2,hu⟩⟩,⟨e1.trans hO1.1,e2.trans hO1.2.1,e3.trans hO1.2.2.1,?_,λk hk _=>?_⟩,.inr rfl⟩
  ·simp only[aq,List.length_take,hvl,hdl];omega
  ·simp[World.setRow,hW,hO1.2.2.2]
  ·rw[setRow_other W _ k r2 ω,hW,setRow_other W1 _ k r1 ω,hO k hk]
 have hz2:¬((i:Int)=(n:Int)):=ω;have hz3:(c:Int)<(n:Int)+1:=ω;have hw1:IntKind.i64.wrap ((i:Int)+1)=(i:Int)+1:=by rw[IntKind.wrap_i64];omega
 have hb1:(0:Int)≤(i:Int)+1:=ω;have hin:i≤n:=ω;have htn:((i:Int)+1).toNat=i+1:=ω;have hGi:¬(G=i):=ω;have hGim:¬(G=i+1):=ω;have hci:¬(c=i):=ω;have hb3:(i:Int)≤(n:Int):=ω;have hcm:c≤9223372036854775807:=ω;clear hW1 hu hr1 hr2 hROW hG hRs hold hl1 hl1' hRl hl2 hfc hdl hik hkk g1 g2 g3 g4 g5 g6 g7 g5' g6' hzs h1 h2 htk hvk hfl hN hO hcp1 hGm;have mixed:=Tryz.mixed
 go_enter Tryz.func99,Tryz.ntmps99
 go_wp2_with (at_builtin;refine Lib.wpList_append_run _ rfl _ _ _ _ rfl _ _ rfl rfl _ _ (hrz _) ?_)
 go_wp2_with (simp only[hE1])
 go_region_law_o (refine step_copy_runI rfl _ _ 32 32 rfl (.slice (some ⟨w.heap.size,(i+1)*2,none⟩) (n-i) (G-(i+1))) (.slice (some ⟨g,i*2,none⟩) (n-i) (c-i)) (by simp[Act.eval,Act.put]) (by simp[Act.eval,Act.put]) (hcp2 (W1.setRow w.heap.size r1).drew (hN2 _ rfl) (hV2 _ rfl) _ _ _ _ _ _ _ ω ω ω ω) ?_)
 go_wp2
 go_ret
 exact⟨_,rfl,hfin _ rfl rfl rfl rfl⟩
theorem N0 (v:Value)(n i vb vc:Nat)(vcur:Array Value)(flat vs:List Value)(w:World)(hn:n≤1000000)(hi:i≤n)(hown:w.ownsRow 0 86 2 v n flat)
 (hvb:w.heap[vb]? =some (.cells vcur 86 (0,0))) (hvl:vs.length=2) (hvk:vcur.toList.take 2=vs) (hne:∀ g,v.ownBlock=some g→vb≠g) (h1:∀ v∈flat,v.oneCell'=true) (h2:∀ v∈vs,v.oneCell'=true):
 Calls Tryz.prog 99 #[v,.int .i64 i,.slice (some ⟨vb,0,none⟩) 1 vc] w λe w'=>∃ v',e= .returned v'∧INS w v n i flat vs v' w':=by
 by_cases he:i=n
 ·subst he;exact NF v i vb vc vcur flat vs w hn hown hvb hvl hvk h2
 ·rcases hown.2 with⟨rfl,rfl⟩|⟨g,c,cur,rfl,_,hg,hnc,hcm,hcs,htk⟩
  ·omega
  ·have hne':=hne g rfl
   by_cases hr:n+1≤c
   ·exact Ge g n c i vb vc cur vcur flat vs w ω hr hcm hcs hg htk hvb hvl hvk hne' h1 h2
   ·exact KZ g n c i vb vc cur vcur flat vs w hn ω hnc ω hcs hg htk hvb hvl hvk hne' h1 h2
end
section
open Go.RowKit
abbrev TRT:Ty:=.pair Γ (.pair Γ .unit)
theorem wI {av:Nat→Prop}{w:World}:∀ {t:Ty} {d:t.den} {cs:List Value},Dat av w t d cs→∀ v∈cs,v.oneCell'=true
 | .int _,_,_,h=>by simp only[Dat] at h;subst h;intro v hv;rw[List.mem_singleton.1 hv];rfl
 | .bool,_,_,h=>by simp only[Dat] at h;subst h;intro v hv;rw[List.mem_singleton.1 hv];rfl
 | .str,_,_,h=>by simp only[Dat] at h;subst h;intro v hv;rw[List.mem_singleton.1 hv];rfl
 | .list _,_,_,h=>by simp only[Dat] at h;obtain⟨A,c,rfl,_⟩:=h;intro v hv;rw[List.mem_singleton.1 hv];rfl
 | .unit,_,_,h=>by simp only[Dat] at h;subst h;intro v hv;cases hv
 | .pair a b,(x,y),cs,h=>by
   simp only[Dat] at h;obtain⟨c1,c2,rfl,h1,h2⟩:=h;intro v hv;rcases List.mem_append.1 hv with q|q
   ·exact wI h1 v q
   ·exact wI h2 v q
theorem yu {av:Nat→Prop}{w:World}{t:Ty}{xs:List t.den}{flat:List Value}(hl:flat.length=xs.length*t.size)(h0:0<t.size)
 (h:∀ i,i<xs.length→Dat av w t (xs.getD i t.dflt) ((flat.drop (i*t.size)).take t.size)):∀ v∈flat,v.oneCell'=true:=by
 intro v hv;obtain⟨j,hj,rfl⟩:=List.getElem_of_mem hv;have hlt:j / t.size<xs.length:=Nat.div_lt_of_lt_mul (by rw[Nat.mul_comm];omega);have h1:=wI (h _ hlt) flat[j] (by
  have e:j=j / t.size*t.size+j % t.size:=by rw[Nat.mul_comm];exact(Nat.div_add_mod j t.size).symm
  have hm:=Nat.mod_lt j h0;rw[List.mem_iff_getElem?];refine⟨j % t.size,?_⟩;rw[List.getElem?_take_of_lt hm,List.getElem?_drop,← e,List.getElem?_eq_getElem hj])
 exact h1
theorem Us {L0:List AO}{k j ver vj:Nat}{xs:List TRC}{x:TRC}{i:Nat}(hL:L0[k]? =some (.row TRT 86 ver xs))(hJ:L0[j]? =some (.row TRT 86 vj [x]))(hkj:k≠j)(hi:i≤xs.length)(hn:xs.length≤1000000):
 cS Tryz.prog L0 99 [.one (.row k ver),.one (.int .i64 i),.one (.row j vj)] {av:=.one (.row k (ver+1)),upd:=[(k,.row TRT 86 (ver+1) (xs.take i++x::xs.drop i))],fp:=[k,j]}:=by
 refine⟨⟨Tryz.f99,Tryz.func99,ζ,ζ⟩,λC L σ w vs hP hinv ha hfp hlen=>?_⟩
 match vs,ha with
 |[v1,v2,v3],⟨h1,h2,h3,_⟩=>
 have hob:L[k]? =some (.row TRT 86 ver xs):=by rw[hfp k η];exact hL
 have hobj:L[j]? =some (.row TRT 86 vj [x]):=by rw[hfp j η];exact hJ
 obtain⟨ob,q1,q2,q3⟩:=h1.2;rw[hob] at q1;cases q1;obtain⟨_,e1⟩:=q3 rfl rfl;obtain⟨ob2,p1,p2,p3⟩:=h3.2;rw[hobj] at p1;cases p1;obtain⟨_,e3⟩:=p3 rfl rfl;have e2:v2= .int .i64 i:=h2.2;subst e1 e2 e3;obtain⟨flat,f1,f2,f3⟩:=hinv.ob k _ hob;obtain⟨flatj,j1,j2,j3⟩:=hinv.ob j _ hobj;rcases j1.2 with⟨_,z⟩|⟨gj,cj,curj,ej,_,hgj,hnj,hcj,hsj,htj⟩
 ·simp at z
 have hone:=yu f1.1 f2 f3;have honej:=yu j1.1 j2 j3;have hsz:TRT.size=2:=rfl;have hj3:=j3 0 η;have hfj:flatj.length=2:=by have:=j1.1;rw[hsz] at this;simpa using this
 have hblk:blk (σ k)=(σ k).ownBlock:=gE (dX f1);have hblkj:blk (σ j)=some gj:=by rw[ej];rfl
 have hne:∀ g,(σ k).ownBlock=some g→gj≠g:=λg hg hgg=>by
  subst hgg;exact hkj (hinv.inj k j gj ⟨_,hob,rfl,by rw[hblk];exact hg⟩ ⟨_,hobj,rfl,hblkj⟩)
 have hvj:σ j= .slice (some ⟨gj,0,none⟩) 1 cj:=ej;rw[hvj];have hc:=N0 (σ k) xs.length i gj cj curj flat flatj w hn hi f1 hgj hfj (by rw[hsz] at htj;simpa using htj) hne hone honej;refine hc.mono λen w' hh=>?_;obtain⟨v',e4,r2,r3,r5⟩:=hh;refine⟨v',e4,?_⟩;have hblk':blk v'=v'.ownBlock:=gE (dX r2);have hll:(xs.take i++x::xs.drop i).length=xs.length+1:=by simp;omega
 refine cI (σ':=sup σ k v') hinv hob r3.size r3.os r3.tape r3.output
  (λb hb hno=>r3.block b hb (λeb=>hno ⟨_,hob,rfl,by rw[hblk];exact eb.symm⟩)) (λb hb=>d6 σ v' hb) ⟨Nat.le_succ _,λ_ h=>by simp[AO.ver] at h⟩
  (λ_ b hb=>?_) (λhp hav=>?_) (λhI _=>?_)
 ·rw[aR,hblk'] at hb
  rcases r5 with r5|r5
  ·exact .inl ⟨_,hob,rfl,by rw[hblk,← r5];exact hb⟩
  ·rw[r5] at hb
   simp only[Option.some.injEq] at hb;exact .inr ω
 ·have hkeep:∀ {t':Ty} {d:t'.den} {cs:List Value},Dat (avd C L σ) w t' d cs→Dat (avd C (L.set k (.row TRT 86 (ver+1) (xs.take i++x::xs.drop i))) (sup σ k v')) w' t' d cs:=λhd=>
   hd.keep r3.size (λb hb ha=>r3.block b hb (λej=>ha (.inr ⟨k,_,hob,rfl,by rw[hblk];exact ej.symm⟩))) hav
  refine⟨flat.take (i*2)++flatj++flat.drop (i*2),by rw[aR,hll];exact r2,f2,λq hq=>?_⟩;rw[hll] at hq;have hfl:flat.length=xs.length*2:=f1.1;have hft:(flat.take (i*2)).length=i*2:=by rw[List.length_take];omega
  rw[hsz]
  by_cases q1:q<i
  ·have e1:(xs.take i++x::xs.drop i).getD q TRT.dflt=xs.getD q TRT.dflt:=by
    simp only[List.getD];rw[List.getElem?_append_left (by rw[List.length_take];omega),List.getElem?_take_of_lt q1]
   have e2:((flat.take (i*2)++flatj++flat.drop (i*2)).drop (q*2)).take 2=(flat.drop (q*2)).take 2:=by
    rw[List.append_assoc,List.drop_append_of_le_length ω,List.take_append_of_le_length (by rw[List.length_drop];omega),List.drop_take,List.take_take]
    congr 1;omega
   rw[e1,e2];exact hkeep (f3 q ω)
  ·by_cases q2:q=i
   ·subst q2
    have e1:(xs.take q++x::xs.drop q).getD q TRT.dflt=x:=by
     simp only[List.getD];rw[List.getElem?_append_right (by rw[List.length_take];omega),List.length_take,show q-min q xs.length=0 by omega]
     rfl
    have e2:((flat.take (q*2)++flatj++flat.drop (q*2)).drop (q*2)).take 2=flatj:=by
     rw[List.append_assoc,List.drop_append,List.drop_of_length_le ω,aC,hft,Nat.sub_self,List.drop_zero,List.take_append_of_le_length ω,List.take_of_length_le ω]
    rw[e1,e2];have e3:(flatj.drop (0*TRT.size)).take TRT.size=flatj:=by rw[Nat.zero_mul,List.drop_zero,hsz,List.take_of_length_le ω]
    rw[e3] at hj3;exact hkeep hj3
   ·have e1:(xs.take i++x::xs.drop i).getD q TRT.dflt=xs.getD (q-1) TRT.dflt:=by
     simp only[List.getD];rw[List.getElem?_append_right (by rw[List.length_take];omega),List.length_take,show q-min i xs.length=(q-1-i)+1 by omega,List.getElem?_cons_succ,List.getElem?_drop,show i+(q-1-i)=q-1 by omega]
    have e2:((flat.take (i*2)++flatj++flat.drop (i*2)).drop (q*2)).take 2=(flat.drop ((q-1)*2)).take 2:=by
     rw[List.drop_append,List.drop_of_length_le (by rw[aq];omega),aC,aq,hft,hfj,List.drop_drop]
     congr 2;omega
    rw[e1,e2];exact hkeep (f3 (q-1) ω)
 ·have hlt:k<L.length:=(Δ.1 hob).1
  refine⟨?_,.row TRT 86 (ver+1) (xs.take i++x::xs.drop i),by simp[hlt],Υ _,λ_ _=>⟨⟨_,_,_,rfl⟩,(aR _ _ _).symm⟩⟩;rcases r2.2 with⟨rfl,_⟩|⟨g,cap,cur,rfl,_⟩<;>rfl
end
section
open Go.RowKit
theorem Ku {P:Program}{T:TypeId}{td:TD}(h:aN P T=some td)(hz:td.zero=[.nils,.nils]):∃ z,(∀ w,(zeroValue T).run P w= .ok z w)∧z.cells= #[.slice none 0 0,.slice none 0 0]:=by
 obtain⟨d,i,z,h1,h2,h3,h4,h5,h6,h7⟩:=cU h;refine⟨z,λw=>by simp[zeroValue,typeInfo,h2,h3],?_⟩;have hr:=cz (C:=⟨P,λ_=>False,λ_=>False,default,0,[],λ_=>undef,default⟩) (L:=[]) (σ:=λ_=>undef) (w:=default) h4;rw[hz] at hr;apply Array.ext'
 match hq:z.cells.toList,hr with
 |[a,b],hr=>
  obtain⟨⟨_,ha⟩,⟨_,hb⟩,_⟩:=hr;rw[show a= .slice none 0 0 from ha,show b= .slice none 0 0 from hb]
theorem Ls (m:Nat):(Builtin.zeroCells #[Value.slice none 0 0,Value.slice none 0 0] m).toList=List.replicate (m*2) (.slice none 0 0):=by
 have h0:(Builtin.zeroCells #[Value.slice none 0 0,Value.slice none 0 0] m).toList=(List.range (m*2)).map (λi=>#[Value.slice none 0 0,Value.slice none 0 0][i % 2]!):=by
  simp[Builtin.zeroCells]
 rw[h0];refine List.ext_getElem η λi h1 h2=>?_;rw[List.getElem_map,List.getElem_range,List.getElem_replicate];rcases Nat.mod_two_eq_zero_or_one i with e|e<;>rw[e]<;>rfl
theorem Ud {w:World}{v:Value}{n i:Nat}{flat:List Value}(hown:w.ownsRow 0 86 2 v n flat)(hi:i≤n):
 ∃ v2 w',(Instr.sliceAt 32 v (some (.int .i64 i)) none none).run Tryz.prog w= .ok v2 w∧(∀ ty,(Builtin.clear_ #[32] ty #[v2]).run Tryz.prog w= .ok (.tuple #[]) w')∧
   w'.ownsRow 0 86 2 v n (flat.take (i*2)++List.replicate ((n-i)*2) (.slice none 0 0))∧w.grownBy w' v.ownBlock:=by
 obtain⟨d,hd,hkd,hu⟩:=bS Tryz.td32 w;have:=bW hkd;subst this;have hfl:=hown.1;rcases hown.2 with⟨e2,e3⟩|⟨g,cap,cur,e2,g1,g2,g3,g4,g5,g6⟩
 ·subst e2 e3
  have hi0:i=0:=ω;subst hi0;have hx:flat=[]:=List.eq_nil_of_length_eq_zero (by simpa using hfl);subst hx;refine⟨.slice none 0 0,w,?_,λty=>?_,hown,World.grownBy.refl w _⟩
  ·have hb:=eP (P:=Tryz.prog) (w:=w) (isSlice:=true) (len:=0) (cap:=0) (lo:=some (.int .i64 ((0:Nat):Int))) (hi:=none) (l:=0) (h:=0) (Int.le_refl 0) (Int.le_refl 0) ω (Υ _) (.inr ⟨_,rfl⟩) (.inl ⟨rfl,rfl⟩)
   simp only[Instr.sliceAt,Φ,hd,Ψ,Instr.slice,hb,bT Tryz.td86 w,Ω];simp
  ·simp[Builtin.clear_,run_underlying Tryz.underlying32]
 ·subst e2
  have hb:=eP (P:=Tryz.prog) (w:=w) (isSlice:=true) (len:=n) (cap:=cap) (lo:=some (.int .i64 (i:Int))) (hi:=none) (l:=i) (h:=n) ω ω (Int.le_refl _) g3 (.inr ⟨_,rfl⟩) (.inl ⟨rfl,rfl⟩);obtain⟨z,hz1,hz2⟩:=Ku Tryz.td86 rfl
  by_cases hin:i=n
  ·subst hin
   refine⟨if cap-i=0 then .slice (some ⟨g,0,none⟩) 0 0 else .slice (some ⟨g,i*2,none⟩) 0 (cap-i),w,?_,λty=>?_,by simpa [← hfl] using hown,World.grownBy.refl w _⟩
   ·simp only[Instr.sliceAt,Φ,hd,Ψ,Instr.slice,hb,bT Tryz.td86 w,Ω]
    by_cases hc:cap=i
    ·simp[hc]
    ·have:¬cap-i=0:=by omega
     simp[hc,this,add_lit]
   ·split<;>simp[Builtin.clear_,run_underlying Tryz.underlying32]
  ·have hst:=run_storeCells_at Tryz.prog g (i*2) 86 (List.replicate ((n-i)*2) (.slice none 0 0)) 0 cur w g2 (by simp;omega) (by intro u hu';rw[List.eq_of_mem_replicate hu'];rfl)
   simp only[Nat.add_zero,aB] at hst;refine⟨.slice (some ⟨g,i*2,none⟩) (n-i) (cap-i),w.setRow g (cur.toList.take (i*2)++List.replicate ((n-i)*2) (Value.slice none 0 0)++cur.toList.drop (i*2+(n-i)*2)).toArray,?_,λty=>?_,?_,?_⟩
   ·simp only[Instr.sliceAt,Φ,hd,Ψ,Instr.slice,hb,bT Tryz.td86 w,Ω]
    have hc:¬cap=i:=ω;simp[hc,add_lit]
    try omega
   ·obtain⟨m,hm⟩:∃ m,n-i=m+1:=⟨n-i-1,ω⟩
    rw[hm] at hst⊢;simp[Builtin.clear_,run_underlying Tryz.underlying32,hz1,hz2,Ls,hst]
   ·have hcl:cur.toList.length=cap*2:=by rw[Array.length_toList];exact g5
    refine⟨by simp;omega,.inr ⟨g,cap,_,rfl,g1,setRow_heap w g cur _ 86 _ g2,g3,g4,by simp;omega,?_⟩⟩;rw[← g6,List.take_take,Nat.min_eq_left ω,List.toList_toArray,List.take_append_of_le_length (by simp;omega),List.take_of_length_le (by simp;omega)]
   ·exact⟨rfl,rfl,rfl,by simp[World.setRow],λk _ hk=>setRow_other w g k _ (λe=>hk (by rw[e];rfl))⟩
theorem OU {a:Act}{d t:Nat}(v:Value)(h:d≠t):(a.put (some d) v).tmps.getD t undef=a.tmps.getD t undef:=by
 simp only[Act.put,Array.getD_eq_getD_getElem?,Array.getElem?_setIfInBounds_ne h]
theorem o4 {a:Act}{d t:Nat}(v:Value)(h:d≠t):(a.put (some d) v).eval (.tmp t)=a.eval (.tmp t):=by
 have:=OU (a:=a) (d:=d) (t:=t) v h;exact this
theorem w6 {a:Act}{d:Nat}(v:Value)(h:d<a.tmps.size):(a.put (some d) v).eval (.tmp d)=v:=by
 simp[Act.eval,Act.put,Array.getD,h]
theorem MV {C:Ctx}{Q:Exit→St→Prop}{s:St}{id N:Nat}{x0 x1:Nat}{d0 d1 d2:Nat}{o0 o1 o2 o3:Oper}{k ver i:Nat}{zs:List TRC}(hP:C.P=Tryz.prog)(hN:C.N=N)
 (hg0:o0.guard=none) (hg1:o1.guard=none) (hg2:o2.guard=none) (hg3:o3.guard=none)
 (h0:o0.op= .move (.tmp x0)) (h0d:o0.dst=some d0) (h1:o1.op= .move (.tmp x1)) (h1d:o1.dst=some d1)
 (h2:o2.op= .slice 32 (.tmp d0) (some (.tmp d1)) none none) (h2d:o2.dst=some d2) (h3:o3.op= .call {callee:=.builtin .clear,args:=#[.tmp d2],argTypes:=#[32]}) (h3d:o3.dst=none)
 (hn:(d0<N∧d1<N∧d2<N)∧d0≠x1∧d0≠d1∧d1≠d2∧d0≠d2)
 (e0:ev s.env (.tmp x0)= .one (.row k ver)) (e1:ev s.env (.tmp x1)= .one (.int .i64 i)) (hL:s.L[k]? =some (.row TRT 86 ver zs)) (hi:i≤zs.length)
 (u0:lkp s.env d0= .undef∧lkp s.env d1= .undef∧lkp s.env d2= .undef)
 (h:Q .normal {env:=s.env,L:=s.L.set k (.row TRT 86 ver (zs.take i++List.replicate (zs.length-i) ([],([],()))))}):AWP C (.region id [o0,o1,o2,o3].toArray false) Q s:=by
 intro σ a w hr;obtain⟨⟨n0,n1,n2⟩,n3,n4,n5,n6⟩:=hn;have hv:=hr.ev (.tmp x0);rw[e0] at hv;obtain⟨ob,q2,q3,q4⟩:=hv.2;rw[hL] at q2;cases q2;obtain⟨_,ev0⟩:=q4 rfl rfl;have ev1:a.eval (.tmp x1)= .int .i64 i:=by have:=hr.ev (.tmp x1);rw[e1] at this;exact this.2
 obtain⟨flat,f1,f2,f3⟩:=hr.inv.ob k _ hL;obtain⟨v2,w',r1,r2,r3,r4⟩:=Ud f1 hi;have hsz:a.tmps.size=N:=hr.size.trans hN;refine wp_region_lit ?_;refine wpList_plain hg0 λK0 k0=>iC (Post:=λv w1=>v=σ k∧w1=w) (by simp only[h0,execOp,Ω,bI];exact⟨ev0,trivial⟩) λv w1 hh=>k0 _ _ ?_;obtain⟨rfl,rfl⟩:=hh;rw[h0d];refine wpList_plain hg1 λK1 k1=>iC (Post:=λv w2=>v= .int .i64 i∧w2=w1) (by simp only[h1,execOp,Ω,bI];exact⟨by rw[o4 _ n3];exact ev1,trivial⟩) λv w2 hh=>k1 _ _ ?_;obtain⟨rfl,rfl⟩:=hh;rw[h1d];have s1:(a.put (some d0) (σ k)).tmps.size=N:=by simp[Act.put,hsz]
 have s2:((a.put (some d0) (σ k)).put (some d1) (.int .i64 i)).tmps.size=N:=by simp[Act.put,hsz]
 refine wpList_plain hg2 λK2 k2=>iC (Post:=λv w3=>v=v2∧w3=w2) ?_ λv w3 hh=>k2 _ _ ?_
 ·have g0:((a.put (some d0) (σ k)).put (some d1) (.int .i64 i)).eval (.tmp d0)=σ k:=by rw[o4 _ (Ne.symm n4),w6 _ ω]
  have g1:((a.put (some d0) (σ k)).put (some d1) (.int .i64 i)).eval (.tmp d1)= .int .i64 i:=w6 _ ω;simp only[h2,execOp,Option.map_some,Option.map_none,g0,g1,hP,Φ,r1,Ψ,Ω,bI];exact⟨trivial,trivial⟩
 obtain⟨rfl,rfl⟩:=hh;rw[h2d];have hr4:blk (σ k)=(σ k).ownBlock:=gE (dX f1);have hlt:k<s.L.length:=(Δ.1 hL).1;have hll:(zs.take i++List.replicate (zs.length-i) (([],([],())):TRC)).length=zs.length:=by simp;omega
 have hdone:pd C s.L σ w3 {av:=.tup [],upd:=[(k,.row TRT 86 ver (zs.take i++List.replicate (zs.length-i) ([],([],()))))],fp:=[k]} (.tuple #[]) w':=by
  refine cI (σ':=σ) hr.inv hL r4.size r4.os r4.tape r4.output
   (λb hb hno=>r4.block b hb (λeb=>hno ⟨_,hL,rfl,by rw[hr4];exact eb.symm⟩)) (λ_ _=>rfl) ⟨Υ _,λ_ _=>⟨rfl,rfl,rfl,_,rfl⟩⟩
   (λ_ b hb=>.inl ⟨_,hL,rfl,hb⟩) (λhp hav=>?_) (λ_ _=>⟨[],rfl,trivial⟩)
  have hkeep:∀ {t':Ty} {d:t'.den} {cs:List Value},Dat (avd C s.L σ) w3 t' d cs→Dat (avd C (s.L.set k (.row TRT 86 ver (zs.take i++List.replicate (zs.length-i) ([],([],()))))) σ) w' t' d cs:=λhd=>
   hd.keep r4.size (λb hb ha=>r4.block b hb (λej=>ha (.inr ⟨k,_,hL,rfl,by rw[hr4];exact ej.symm⟩))) hav
  refine⟨_,by rw[hll];exact r3,f2,λq hq=>?_⟩;rw[hll] at hq;have hfl:flat.length=zs.length*2:=f1.1;have hsz2:TRT.size=2:=rfl;rw[hsz2]
  by_cases q1:q<i
  ·have e1:(zs.take i++List.replicate (zs.length-i) (([],([],())):TRC)).getD q TRT.dflt=zs.getD q TRT.dflt:=by
    simp only[List.getD];rw[List.getElem?_append_left (by rw[List.length_take];omega),List.getElem?_take_of_lt q1]
   have e2:((flat.take (i*2)++List.replicate ((zs.length-i)*2) (Value.slice none 0 0)).drop (q*2)).take 2=(flat.drop (q*2)).take 2:=by
    rw[List.drop_append_of_le_length (by rw[List.length_take];omega),List.take_append_of_le_length (by rw[List.length_drop,List.length_take];omega),List.drop_take,List.take_take,show min 2 (i*2-q*2)=2 by omega]
   rw[e1,e2];exact hkeep (f3 q ω)
  ·have e1:(zs.take i++List.replicate (zs.length-i) (([],([],())):TRC)).getD q TRT.dflt=([],([],())):=by
    simp only[List.getD];rw[List.getElem?_append_right (by rw[List.length_take];omega),List.length_take,List.getElem?_replicate,if_pos ω]
    rfl
   have e2:((flat.take (i*2)++List.replicate ((zs.length-i)*2) (Value.slice none 0 0)).drop (q*2)).take 2=[.slice none 0 0,.slice none 0 0]:=by
    rw[List.drop_append,List.drop_of_length_le (by rw[List.length_take];omega),aC,List.length_take,List.drop_replicate,List.take_replicate,show min 2 ((zs.length-i)*2-(q*2-min (i*2) flat.length))=2 by omega,List.replicate_succ,List.replicate_succ,List.replicate_zero]
   rw[e1,e2];show Dat _ _ TRT (([],([],())):TRC) _;exact⟨[.slice none 0 0],[.slice none 0 0],rfl,fA _,⟨[.slice none 0 0],[],rfl,fA _,rfl⟩⟩
 obtain⟨σ',hI,_,hPr⟩:=hdone;have happ:app s.L {av:=AV.tup [],upd:=[(k,.row TRT 86 ver (zs.take i++List.replicate (zs.length-i) ([],([],()))))],fp:=[k]}=s.L.set k (.row TRT 86 ver (zs.take i++List.replicate (zs.length-i) ([],([],())))):=by simp[app,cD]
 rw[happ] at hI hPr;have s3:(((a.put (some d0) (σ k)).put (some d1) (.int .i64 i)).put (some d2) v).tmps.size=N:=by simp[Act.put,hsz]
 refine wpList_plain hg3 λK3 k3=>iC (Post:=λv w4=>w4=w') ?_ λv3 w4 hh=>k3 _ _ ?_
 ·have g2:(((a.put (some d0) (σ k)).put (some d1) (.int .i64 i)).put (some d2) v).eval (.tmp d2)=v:=w6 _ ω
  simp only[h3,execOp,resolve,invoke,builtin,g2,hP,Φ,Ω,Ψ,List.map_toArray,aJ,aV,r2,bI]
 subst hh;rw[h3d];refine wpList_nil ?_;refine⟨_,σ',h,hI,λt=>?_,?_,?_,hr.pres.trans hPr⟩
 ·show RV C (s.L.set k _) σ' w4 (lkp s.env t) _
  by_cases t0:t=d0
  ·subst t0;rw[u0.1];trivial
  by_cases t1:t=d1
  ·subst t1;rw[u0.2.1];trivial
  by_cases t2:t=d2
  ·subst t2;rw[u0.2.2];trivial
  have:((((a.put (some d0) (σ k)).put (some d1) (.int .i64 i)).put (some d2) v).put none v3).tmps.getD t undef=a.tmps.getD t undef:=by
   have p1:=o4 (a:=(a.put (some d0) (σ k)).put (some d1) (.int .i64 i)) v (Ne.symm t2);have p2:=o4 (a:=a.put (some d0) (σ k)) (.int .i64 i) (Ne.symm t1);have p3:=o4 (a:=a) (σ k) (Ne.symm t0);exact p1.trans (p2.trans p3)
  rw[this];exact hPr.rv (hr.env t)
 ·show(((a.put (some d0) (σ k)).put (some d1) (.int .i64 i)).put (some d2) v).tmps.size=C.N
  rw[s3,hN]
 ·exact hr.defers
theorem ES {C:Ctx}{L0:List AO}{o:Oper}{opn:Operand→AV}{x y z:Operand}{ats:Array TypeId}{k:IntKind}{a b c:Int}(ho:o.op= .call {callee:=.builtin .min,args:=#[x,y,z],argTypes:=ats})(hx':opn x= .one (.int k a))(hy':opn y= .one (.int k b))(hz':opn z= .one (.int k c)):bG C L0 o opn {av:=.one (.int k (min (min a b) c))}:=by
 intro L σ w ρ hi hx hfp hlen;have hx1:=hx x (by simp[ho,Op.operands,Call.operands]);have hx2:=hx y (by simp[ho,Op.operands,Call.operands]);have hx3:=hx z (by simp[ho,Op.operands,Call.operands]);rw[hx'] at hx1;rw[hy'] at hx2;rw[hz'] at hx3;have e1:ρ x= .int k a:=hx1.2;have e2:ρ y= .int k b:=hx2.2;have e3:ρ z= .int k c:=hx3.2;have hrun:(Builtin.min_ ats o.type #[.int k a,.int k b,.int k c]).run C.P w= .ok (.int k (min (min a b) c)) w:=by
  simp[Builtin.min_,Builtin.min2,GU]
 simp only[ho,execOp,resolve,invoke,builtin,List.map_toArray,aJ,aV,e1,e2,e3,Φ,Ω,Ψ,hrun,bI];exact aZ hi ⟨rfl,rfl⟩
end
theorem F4 (v w:List Int)(hv:v.length≤1000000)(hw:w.length≤1000000):aY Tryz.prog 68 [.one (.list Θ v),.one (.list Θ w)] (.one (.int .i64 (cmn v w:Int))):=by
 obtain⟨n,hn⟩:∃ n,n=min v.length w.length:=⟨_,rfl⟩
 have hnm:min (v.length:Int) (w.length:Int)=(n:Int):=ω;refine zQ 30 Tryz.func68 λC hP hN hB=>?_;have hX:KX [0,1,4,5,10,11,12,22]:=⟨trivial⟩
 refine tJ ?_;refine aa λ_ k2=>?_;refine tJ ?_;refine ay ?_;refine aM (λn4 s4=>∃ (k:Nat),(k≤n)∧(∀ j,j<k→v.getD j 0=w.getD j 0)∧n4=n-k∧s4={env:=[(0,.one (.list Θ v)),(1,.one (.list Θ w)),(4,.one (.int .i64 0)),(10,.one (.int .i64 (n:Int))),(11,.one (.int .i64 (k:Int)))],L:=[]}) ?_ ?_
 ·refine⟨_,_,ar [0,1,4,10,11],0,Nat.zero_le _,λj h=>by omega,rfl,?_⟩
  rw[← hnm];rfl
 rintro n4 s4 ⟨k,hk,hj,rfl,rfl⟩;refine tJ ?_;refine aa λ_ k6=>?_;refine cB (λhc7=>?_) (λhc7=>?_)
 ·refine au ?_
  refine k6 _ (kx ?_);refine aa λ_ k8=>?_;refine ay ?_;refine aa λ_ k9=>?_;have hkv:k<v.length:=ω;have hkw:k<w.length:=ω;refine vE (h:=k9 _ (kx ?_));refine aa λ_ k10=>?_;refine bz hP hN Tryz.mixed rfl ?_
  iterate 9 refine yB ?_
  refine ah ?_;refine⟨ζ,?_⟩;refine k10 _ (kx ?_);refine cB (λhc11=>?_) (λhc11=>?_)
  ·have hne:¬v.getD k 0=w.getD k 0:=hc11
   refine tJ ?_;refine aA ?_;refine⟨nr,_,rfl,?_⟩;simp only[zF,zP,ad,J,az];refine VLE.of_eq ?_;refine congrArg (λn=>AV.one (AC.int IntKind.i64 n)) ?_
   symm
   first
   |exact congrArg Int.ofNat (jK hj ω ω λh9=>hne h9.2.2)
   |(rw[hnm,← hkn];exact congrArg Int.ofNat (jK hj ω ω ω))
  have heq:v.getD k 0=w.getD k 0:=by simpa using hc11
  refine au (k8 _ (kx ?_));refine vE (h:=?_);refine⟨_,_,?_,ar [0,1,4,10,11],k+1,ω,λj h=>?_,rfl,rfl⟩
  ·omega
  ·by_cases e:j=k
   ·rw[e];exact heq
   ·exact hj j ω
 refine aL ?_;refine k2 _ (kx ?_);refine aa λ_ k13=>?_;have hkn:k=n:=ω;refine vE (h:=k13 _ (kx ?_));refine aA ?_;refine⟨nr,_,rfl,?_⟩;simp only[zF,zP,ad,J,az];refine VLE.of_eq ?_;refine congrArg (λn=>AV.one (AC.int IntKind.i64 n)) ?_
 symm
 first
 |exact congrArg Int.ofNat (jK hj ω ω λh9=>hne h9.2.2)
 |(rw[hnm,← hkn];exact congrArg Int.ofNat (jK hj ω ω ω))
theorem B1 (v w:List Int)(hv:v.length≤1000000)(hw:w.length≤1000000):aY Tryz.prog 48 [.one (.list Θ v),.one (.list Θ w)] (.one (.bool (pfB v w))):=by
 refine zQ 11 Tryz.func48 λC hP hN hB=>?_;have hX:KX [0,1,4]:=⟨trivial⟩
 refine zT2 ?_;refine aa λK2 k2=>am hP hN rfl ?_
 iterate 2 refine zS3 ?_
 refine zC9 (ak (F4 v w hv hw)) ?_
 iterate 4 refine zS3 ?_
 refine ah (k2 _ (kx ?_));refine aA ?_;refine zZn ?_
 rfl
theorem JK (a1 a2:List Int)(u:TRC)(h1:a1.length≤100000)(h2:u.1.length≤100000):aY Tryz.prog 96 [.agg [.list Θ u.1,.list Θ u.2.1],.one (.pat Ξ (a1,(a2,())) 0)] (.one (.bool (pfB a1 u.1))):=by
 refine zQ 9 Tryz.func96 λC hP hN hB=>?_;have hX:KX [0,1,2,3]:=⟨trivial⟩
 refine zT2 ?_;refine aa λK2 k2=>am hP hN rfl ?_
 iterate 4 refine zS3 ?_
 refine zC9 (ak (B1 a1 u.1 ω ω)) ?_;refine zS3 ?_;refine ah (k2 _ (kx ?_));refine aA ?_;refine zZn ?_
 rfl
theorem Tb (xs:List TRC)(f:Nat)(caps:List Cap)(p:TRC→Bool)(hcap:caps.all mO=true)(hf:∀ k x1 x2,k<xs.length→xs.getD k aT=(x1,(x2,()))→aY Tryz.prog f (.agg [.list Θ x1,.list Θ x2]::caps.map dG) (.one (.bool (p (x1,(x2,())))))):aY Tryz.prog 131 [.one (.list Ξ xs),.one (.fn f caps)] (.one (.int .i64 (jt p xs))):=by
 refine jn Tryz.func131 rfl ζ (Nat.le_of_ble_eq_true rfl) (by simp only[List.all_cons,List.all_nil,iK,mP,gu,hcap,Bool.and_true]) λC hP hN hB=>?_;have hX:KX [0,1,4,5,7,8,9,16]:=⟨trivial⟩
 replace hN:C.N=19:=hN;simp only[cm,J];refine fT 0 rfl λhf0=>?_;simp only[lkp,if_true,if_false,reduceCtorEq,ad,eq_self,Nat.one_ne_zero,Nat.zero_ne_one,lc,kD,kd,Fit,and_true,implies_true,true_and] at hf0;refine zT2 ?_;refine aa λ_ k2=>?_;refine zT2 ?_;refine ay ?_;refine aM (λn4 s4=>∃ (k:Nat),(k≤xs.length)∧(∀ q:Nat,q<k→p (xs.getD q aT)=false)∧n4=xs.length-k∧s4={env:=[(0,.one (.list Ξ xs)),(1,.one (.fn f caps)),(7,.one (.int .i64 (xs.length:Int))),(8,.one (.int .i64 (k:Int)))],L:=[]}) ?_ ?_
 ·exact⟨_,_,ar [0,1,7,8],0,Nat.zero_le _,λi hi=>by omega,rfl,rfl⟩
 rintro n4 s4 ⟨k,hk,hq,rfl,rfl⟩;refine zT2 ?_;refine aa λ_ k6=>?_;refine cB (λhc7=>?_) (λhc7=>?_)
 ·refine au ?_
  refine k6 _ (kx ?_);refine aa λ_ k8=>?_;refine ay ?_;refine zT2 ?_;refine aa λ_ k10=>?_;obtain⟨x1,x2,hgx⟩:∃ x1 x2,∀ d,xs.getD k d=(x1,(x2,())):=⟨_,_,iS ω⟩
  refine am hP hN rfl ?_
  iterate 5 refine pp hgx ?_
  refine aw rfl λ_ k0=>?_;refine bo (h:=ak (hf k x1 x2 ω (hgx _))) rfl rfl (by first|exact rfl|(simp only[ev,zP,ad,J];exact rfl)) (by simp only[zV,acs,reduceCtorEq,ad,J,ae,aj,af,ag,gt,az,hgx]) ?_;apply k0;clear k0;simp only[zP,J];refine ah (k10 _ (kx ?_));refine cB (λhc11=>?_) (λhc11=>?_)
  ·have hp:=hc11
   refine zT2 ?_;refine aA ?_;refine zZn ?_;refine congrArg (λn=>AV.one (AC.int IntKind.i64 n)) ?_
   symm
   first
   |exact Db ω hq (by rw[hgx];simpa using hp)
   |exact xS λq hq2=>hq q ω
  have hp:=hc11;refine au (k8 _ (kx ?_));refine zR2 (h:=?_);refine⟨_,_,?_,ar [0,1,7,8],k+1,ω,λq hq2=>?_,rfl,rfl⟩
  ·omega
  ·by_cases e:q=k
   ·rw[e,hgx];simpa using hp
   ·exact hq q ω
 refine aL ?_;refine k2 _ (kx ?_);refine zT2 ?_;refine aA ?_;refine zZn ?_;refine congrArg (λn=>AV.one (AC.int IntKind.i64 n)) ?_
 symm
 first
 |exact Db ω hq (by rw[hgx];simpa using hp)
 |exact xS λq hq2=>hq q ω
theorem Sy (n:Int)(X:List TRC)(v:Nat)(xs:List TRC)(t:TRC)(hl:xs.length≤1000000)(hb:LB 100000 xs)(ht:t.1.length≤100000):cS Tryz.prog [.vars 34 [.int .i64 n,.list Ξ X],.vars 34 [.int .i64 0,.nils],.row Ξ 86 v xs,.vars 86 [.list Θ t.1,.list Θ t.2.1]] 95 [.one (.row 2 v),.one (.fn 96 [.pat Ξ (t.1,(t.2.1,()))])] {av:=.one (.row 2 (dlv v xs t)),upd:=[(2,.row Ξ 86 (dlv v xs t) (ju xs t))],fp:=[0,1,2,3]}:=by
 refine fl _ _ Tryz.func95 rfl ζ (Nat.le_of_ble_eq_true rfl) (by intro k hk;simp only[ax,aF,Nat.zero_add,J] at hk;simp only[List.mem_cons,List.not_mem_nil,or_false];omega) (λC hP hN hB=>?_);have hX:KX [0,1,4,5,6,7,12,19,29]:=⟨trivial⟩
 replace hB:C.bL.length=4:=by rw[hB];rfl
 replace hN:C.N=42:=hN;simp only[cm,J];refine zT2 ?_;refine aa λK2 k2=>am hP hN rfl ?_
 iterate 2 refine zS3 ?_
 refine zC9 (jv (args:=[.one (.row 2 v),.one (.fn 96 [.pat Ξ (t.1,(t.2.1,()))])]) (by simp[fzV,fz1,fzC,mO]) rfl (Tb xs 96 [.pat Ξ (t.1,(t.2.1,()))] (λu=>pfB t.1 u.1) rfl (λk x1 x2 hk e=>JK t.1 t.2.1 (x1,(x2,())) ht (hb.get hk e).1)) rfl) ?_;refine zS3 ?_;refine ah (k2 _ (kx ?_));refine aa λ_ k3=>?_;refine zT2 ?_;refine cB (λhc5=>?_) (λhc5=>?_)
 ·have hno:jt (λu=>pfB t.1 u.1) xs= -1:=hc5
  obtain⟨e1,e2⟩:=U9 (v:=v) hno;refine zT2 ?_;refine aA ?_;refine⟨by first|exact .inl rfl|exact .inr rfl,_,rfl,?_⟩;simp only[zP,ad,J]
  first
  |(rw[e1,e2];first|exact⟨rfl,rfl⟩|rfl)
  |(rw[e1,show ju xs t=R.take i from hKe.symm,hil];first|exact⟨rfl,rfl⟩|rfl)
 have hyes:¬jt (λu=>pfB t.1 u.1) xs= -1:=hc5;have e1:=T7 (v:=v) hyes;obtain⟨i0,hi0⟩:∃ i0:Nat,jt (λu=>pfB t.1 u.1) xs=(i0:Int):=by
  rcases pI (λu=>pfB t.1 u.1) xs with⟨k,e,_⟩|⟨e,_⟩
  ·exact⟨k,e⟩
  ·exact absurd e hyes
 have k0:=KEP.start hi0;have hi0l:=k0.jl;rw[hi0];refine au (k3 _ (kx ?_));refine aa λ_ k7=>?_;refine zT2 ?_;refine ay ?_;refine aM (λn9 s9=>∃ (i j:Nat) (R:List TRC),(KEP (λu=>pfB t.1 u.1) xs R i j)∧n9=xs.length-j∧s9={env:=[(0,.one (.row 2 v)),(1,.one (.fn 96 [.pat Ξ (t.1,(t.2.1,()))])),(4,.one .nils),(5,.one (.int .i64 (i:Int))),(6,.one (.int .i64 (j:Int)))],L:=[.vars 34 [.int .i64 n,.list Ξ X],.vars 34 [.int .i64 0,.nils],.row Ξ 86 v R,.vars 86 [.list Θ t.1,.list Θ t.2.1]]}) ?_ ?_
 ·exact⟨_,_,ar [0,1,4,5,6],i0,i0+1,xs,k0,rfl,rfl⟩
 rintro n9 s9 ⟨i,j,R,hK,rfl,rfl⟩;refine aa λ_ k10=>?_;refine zT2 ?_;refine cB (λhc12=>?_) (λhc12=>?_)
 ·refine au ?_
  refine k10 _ (kx ?_);refine aa λ_ k13=>?_;refine ay ?_;refine aa λ_ k14=>?_;have hij:=hK.ij;have hRl:=hK.l;obtain⟨x1,x2,hgx⟩:∃ x1 x2,∀ d,R.getD j d=(x1,(x2,())):=⟨_,_,iS ω⟩
  have hxe:xs.getD j aT=(x1,(x2,())):=(hK.at_ ω).symm.trans (hgx _);refine zd hgx (h:=k14 _ (kx ?_));refine aa λK15 k15=>am hP hN rfl ?_
  iterate 2 refine Co hgx ?_
  refine aw rfl λ_ k0=>?_;refine bo (h:=ak (JK t.1 t.2.1 (x1,(x2,())) ht (hb.get (k:=j) ω hxe).1)) rfl rfl (by first|exact rfl|(simp only[ev,zP,ad,J];exact rfl)) (by simp only[zV,acs,reduceCtorEq,ad,J,ae,aj,af,ag,hgx]) ?_;apply k0;clear k0;simp only[zP,J];refine Co hgx ?_;refine ah (k15 _ (kx ?_));refine cB (λhc16=>?_) (λhc16=>?_)
  ·have hpf:pfB t.1 x1=false:=by simpa using hc16
   have k2:=hK.yes ω (by rw[hxe];exact hpf);refine Vi hgx ?_;refine zR2 (h:=k13 _ (kx ?_));refine kp [0,1,4,5,6] ?_;refine eX (L1:=[_,_,_,_]) rfl (by rw[hB];exact Υ _) rfl rfl ?_;refine zR2 (h:=?_)
   first
   |(refine⟨_,_,?_,ar [0,1,4,5,6],i+1,j+1,R.set i (xs.getD j aT),k2,rfl,by rw[hxe];rfl⟩
     omega)
   |(refine⟨_,_,?_,ar [0,1,4,5,6],i,j+1,R,k2,rfl,rfl⟩
     omega)
  have hpt:pfB t.1 x1=true:=by simpa using hc16
  have k2:=hK.no ω (by rw[hxe];exact hpt);refine au (k13 _ (kx ?_));refine kp [0,1,4,5,6] ?_;refine eX (L1:=[_,_,_,_]) rfl (by rw[hB];exact Υ _) rfl rfl ?_;refine zR2 (h:=?_)
  first
  |(refine⟨_,_,?_,ar [0,1,4,5,6],i+1,j+1,R.set i (xs.getD j aT),k2,rfl,by rw[hxe];rfl⟩
    omega)
  |(refine⟨_,_,?_,ar [0,1,4,5,6],i,j+1,R,k2,rfl,rfl⟩
    omega)
 refine aL ?_;refine k7 _ (kx ?_);refine aa λ_ k18=>?_;have hRl:=hK.l;have hij:=hK.ij;have hjl:=hK.jl;have hjx:j=xs.length:=ω;have hKe:=hK.end_ hjx;refine MV hP hN rfl rfl rfl rfl rfl rfl rfl rfl rfl rfl rfl rfl δ rfl rfl rfl ω ⟨rfl,rfl,rfl⟩ ?_;simp only[zP,J];refine k18 _ (kx ?_);refine aa λ_ k19=>?_;have hil:(R.take i++List.replicate (R.length-i) (([],([],())):TRC)).take i=R.take i:=by rw[List.take_append_of_le_length (by rw[List.length_take];omega),List.take_take,Nat.min_self]
 have hi2:i≤(R.take i++List.replicate (R.length-i) (([],([],())):TRC)).length:=by simp;omega
 refine am hP hN rfl ?_
 iterate 2 refine yB ?_
 (refine aw rfl λ_ k0=>?_;simp only[zE,op1,ev,lkp,cR,bP,eZ,bnd,Ty.size,reduceCtorEq,ad,J,ae,aj,af,ag,Tryz.el32,Tryz.td3,Tryz.td32,az];(repeat refine an ?_);(try refine .inl ?_);apply k0;clear k0;simp only[zP,J])
 refine yB ?_;refine ah (k19 _ (kx ?_));refine aA ?_;refine⟨by first|exact .inl rfl|exact .inr rfl,_,rfl,?_⟩;simp only[zP,ad,J]
 first
 |(rw[e1,e2];first|exact⟨rfl,rfl⟩|rfl)
 |(rw[e1,show ju xs t=R.take i from hKe.symm,hil];first|exact⟨rfl,rfl⟩|rfl)
theorem pX (a b:TRC)(ha:a.1.length≤100000)(hb:b.1.length≤100000)(ha2:a.2.1.length≤100000)(hb2:b.2.1.length≤100000):aY Tryz.prog 94 [.agg [.list Θ a.1,.list Θ a.2.1],.agg [.list Θ b.1,.list Θ b.2.1]] (.one (.int .i64 (dfO a b))):=by
 refine zQ 32 Tryz.func94 λC hP hN hB=>?_;have hX:KX [0,1,2,3,4,5,6,30]:=⟨trivial⟩
 obtain⟨n,hn⟩:∃ n,n=dfN a b:=⟨_,rfl⟩
 have hnm:min (min (cmn a.1 b.1:Int) (a.2.1.length:Int)) (b.2.1.length:Int)=(n:Int):=by unfold dfN at hn;omega
 refine zT2 ?_;refine aa λ_ k2=>?_;refine bz hP hN Tryz.mixed rfl ?_
 iterate 4 refine Co hnm ?_
 refine aw rfl λ_ k0=>?_;refine bo (h:=ak (F4 a.1 b.1 ω ω)) rfl rfl (by first|exact rfl|(simp only[ev,zP,ad,J];exact rfl)) (by simp only[zV,acs,reduceCtorEq,ad,J,ae,aj,af,ag,hnm]) ?_;apply k0;clear k0;simp only[zP,J]
 iterate 6 refine Co hnm ?_
 refine d4 (λC9 hC9=>.inl ⟨rfl,ES rfl rfl rfl rfl⟩) ?_;simp only[zP,J];refine Co hnm ?_;refine ah ?_;refine⟨ζ,?_⟩;refine k2 _ (kx ?_);refine aa λ_ k3=>?_;refine aa λ_ k4=>?_;refine bz hP hN Tryz.mixed rfl ?_
 iterate 3 refine Pc hnm ?_
 (refine aw rfl λ_ k0=>?_;simp only[zE,op1,ev,lkp,cR,bP,cq,dR,Nat.mul_one,bZ,cT,acs,Ty.dflt,zG,cK,eZ,bnd,Ty.size,reduceCtorEq,ad,J,ae,aj,af,ag,Tryz.el26,Tryz.st86,Tryz.td1,Tryz.td26,Tryz.td3,Tryz.td86,hnm,az,Int.toNat_zero,List.drop_zero];(repeat refine an ?_);(try refine .inl ?_);apply k0;clear k0;simp only[zP,J])
 iterate 3 refine Pc hnm ?_
 (refine aw rfl λ_ k0=>?_;simp only[zE,op1,ev,lkp,cR,bP,cq,dR,Nat.mul_one,bZ,cT,acs,Ty.dflt,zG,cK,eZ,bnd,Ty.size,reduceCtorEq,ad,J,ae,aj,af,ag,Tryz.el26,Tryz.st86,Tryz.td1,Tryz.td26,Tryz.td3,Tryz.td86,hnm,az,Int.toNat_zero,List.drop_zero];(repeat refine an ?_);(try refine .inl ?_);apply k0;clear k0;simp only[zP,J])
 refine aw rfl λ_ k0=>?_;refine bo (h:=ak (F4 (a.2.1.take n) (b.2.1.take n) (by rw[List.length_take];omega) (by rw[List.length_take];omega))) rfl rfl (by first|exact rfl|(simp only[ev,zP,ad,J];exact rfl)) (by simp only[zV,acs,reduceCtorEq,ad,J,ae,aj,af,ag,hnm,az,Int.toNat_zero,List.drop_zero]) ?_;apply k0;clear k0;simp only[zP,J];refine Pc hnm ?_;refine ah ?_;refine⟨ζ,?_⟩;refine k4 _ (kx ?_);refine zT2 ?_;refine cB (λhc6=>?_) (λhc6=>?_)
 ·have hlt:=hc6
  refine zT2 ?_;refine aA ?_;refine zZn ?_;refine congrArg (λn=>AV.one (AC.int IntKind.i64 n)) ?_;unfold dfO;rw[← hn]
  first
  |(rw[if_pos ω];done)
  |(rw[if_neg ω];done)
 have hge:=hc6;refine au (k3 _ (kx ?_));refine zT2 ?_;refine aA ?_;refine zZn ?_;refine congrArg (λn=>AV.one (AC.int IntKind.i64 n)) ?_;unfold dfO;rw[← hn]
 first
 |(rw[if_pos ω];done)
 |(rw[if_neg ω];done)
theorem QS (n:Int)(X:List TRC)(v:Nat)(xs:List TRC)(t:TRC)(hs:SRT xs)(hl:xs.length≤9000)(hb:LB 100000 xs)(ht:t.1.length≤100000∧t.2.1.length≤100000)(hn:nH xs t=true):cS Tryz.prog [.vars 34 [.int .i64 n,.list Ξ X],.vars 34 [.int .i64 0,.nils],.row Ξ 86 v xs,.vars 86 [.list Θ t.1,.list Θ t.2.1]] 53 [.one (.row 2 v),.agg [.list Θ t.1,.list Θ t.2.1]] {av:=.tup [.one .nils,.one (.int .i64 13)],fp:=[0,1,2,3]}:=by
 refine fl _ _ Tryz.func53 rfl ζ (Nat.le_of_ble_eq_true rfl) (by intro k hk;simp only[ax,aF,Nat.zero_add,J] at hk;simp only[List.mem_cons,List.not_mem_nil,or_false];omega) (λC hP hN hB=>?_);have hX:KX [0,1,3,4,5,6,8,11,12,13,14,20,36]:=⟨trivial⟩
 replace hB:C.bL.length=4:=by rw[hB];rfl
 replace hN:C.N=56:=hN;simp only[cm,J];refine zT2 ?_;refine aa λ_ k2=>?_;refine gJ 4 Ξ rfl rfl ?_;simp only[aJ,aV,shV,if_true,zS,if_false,eq_self,ad,reduceCtorEq,Nat.one_ne_zero,Nat.zero_ne_one];refine eX (L1:=[_,_,_,_]) rfl (by rw[hB];exact Υ _) rfl rfl ?_;refine zR2 (h:=k2 _ (kx ?_));refine aa λ_ k3=>?_;refine zT2 ?_;refine ay ?_;refine aM (λn5 s5=>∃ (k:Nat),(k≤xs.length)∧(∀ q:Nat,q<k→¬0≤dfO (xs.getD q aT) t)∧n5=xs.length-k∧s5={env:=[(0,.one (.row 2 v)),(3,.one (.pat Ξ (t.1,(t.2.1,())) 0)),(4,.one .nils),(5,.one (.int .i64 0)),(6,.one (.bool (pL xs t k))),(11,.one (.row 2 v)),(12,.one (.int .i64 (xs.length:Int))),(13,.one (.int .i64 (k:Int)))],L:=[.vars 34 [.int .i64 n,.list Ξ X],.vars 34 [.int .i64 0,.nils],.row Ξ 86 v xs,.vars 86 [.list Θ t.1,.list Θ t.2.1]]}) ?_ ?_
 ·exact⟨_,_,ar [0,3,4,5,6,11,12,13],0,Nat.zero_le _,λq hq=>by omega,rfl,rfl⟩
 rintro n5 s5 ⟨k,hk,hq,rfl,rfl⟩;refine zT2 ?_;refine aa λ_ k7=>?_;refine cB (λhc8=>?_) (λhc8=>?_)
 ·refine au ?_
  refine k7 _ (kx ?_);refine aa λ_ k9=>?_;refine ay ?_;refine aa λ_ k10=>?_;obtain⟨x1,x2,hgx⟩:∃ x1 x2,∀ d,xs.getD k d=(x1,(x2,())):=⟨_,_,iS ω⟩
  have hbx:=hb.get (k:=k) ω (hgx _);refine zd hgx (h:=k10 _ (kx ?_));refine aa λ_ k11=>?_;refine aa λK12 k12=>am hP hN rfl ?_
  iterate 2 refine zS3 ?_
  refine zC9 (ak (pX (x1,(x2,())) (t.1,(t.2.1,())) hbx.1 ht.1 hbx.2 ht.2)) ?_;refine zS3 ?_;refine ah (k12 _ (kx ?_));refine cB (λhc13=>?_) (λhc13=>?_)
  ·refine zT2 ?_
   refine kp [4,5] ?_;refine eX (L1:=[_,_,_,_]) rfl (by rw[hB];exact Υ _) rfl rfl ?_;refine aA ?_;refine⟨by first|exact .inl rfl|exact .inr rfl,_,rfl,?_⟩;simp only[zP,ad,J]
   all_goals rfl
  have hnd:=hc13;refine au (k11 _ (kx ?_));refine am hP hN rfl ?_
  iterate 2 refine zS3 ?_
  refine' zJ false 5 22 (λhg15=>?a15) ?b15 ?c15
  case a15=>
   have hq15:=hg15;(try simp only[zB,reduceCtorEq] at hg15);simp only[zE]
   iterate 4 refine tE ?_
   refine db rfl λ_ k0=>?_;refine bo (h:=ak (B1 x1 t.1 ω ω)) rfl rfl (by first|exact rfl|(simp only[ev,zP,ad,J];exact rfl)) (by simp only[zV,acs,reduceCtorEq,ad,J,ae,aj,af,ag]) ?_;apply k0;clear k0;simp only[zP,J];refine zS3 ?_;refine ah ?_;exact zK hq15
  case b15=>exact cF
  simp only[bh,aX];refine zS3 ?_;refine ah (k9 _ (kx ?_));refine kp [0,3,4,5,6,11,12,13] ?_;refine eX (L1:=[_,_,_,_]) rfl (by rw[hB];exact Υ _) rfl rfl ?_;refine zR2 (h:=?_);refine⟨_,_,?_,ar [0,3,4,5,6,11,12,13],k+1,ω,λq hq2=>?_,rfl,?_⟩
  ·omega
  ·by_cases e:q=k
   ·rw[e,hgx];have h8:dfO (x1,(x2,())) t<0:=hnd;omega
   ·exact hq q ω
  ·rw[tV ω,hgx];rfl
 refine aL ?_;refine k3 _ (kx ?_);refine aa λ_ k16=>?_;refine aa λ_ k17=>?_;have hF:False:=by rw[C6 λq hq2=>hq q ω] at hn;cases hn
 refine am hP hN rfl ?_
 iterate 2 refine zS3 ?_
 refine' zJ false 4 31 (λhg18=>?a18) ?b18 ?c18
 case a18=>
  have hq18:=hg18;(try simp only[zB,reduceCtorEq] at hg18);simp only[zE]
  iterate 4 refine tE ?_
  refine zS3 ?_;refine ah ?_;exact zK hq18
 case b18=>exact cF
 simp only[bh,aX];refine ah (k17 _ (kx ?_));refine cB (λhc19=>?_) (λhc19=>?_)
 ·exfalso
  exact hF
 ·exfalso
  exact hF
theorem T1 (n:Int)(X:List TRC)(v:Nat)(xs:List TRC)(t:TRC)(hs:SRT xs)(hl:xs.length≤9000)(hb:LB 100000 xs)(ht:t.1.length≤100000∧t.2.1.length≤100000)(hn:nH xs t=false):cS Tryz.prog [.vars 34 [.int .i64 n,.list Ξ X],.vars 34 [.int .i64 0,.nils],.row Ξ 86 v xs,.vars 86 [.list Θ t.1,.list Θ t.2.1]] 53 [.one (.row 2 v),.agg [.list Θ t.1,.list Θ t.2.1]] {av:=.tup [.one (.row 2 (adv v xs t)),.one (.int .i64 0)],upd:=[(2,.row Ξ 86 (adv v xs t) (iU xs t))],fp:=[0,1,2,3]}:=by
 refine fl _ _ Tryz.func53 rfl ζ (Nat.le_of_ble_eq_true rfl) (by intro k hk;simp only[ax,aF,Nat.zero_add,J] at hk;simp only[List.mem_cons,List.not_mem_nil,or_false];omega) (λC hP hN hB=>?_);have hX:KX [0,1,3,4,5,6,8,9,11,12,13,14,20,36,43]:=⟨trivial⟩
 replace hB:C.bL.length=4:=by rw[hB];rfl
 replace hN:C.N=56:=hN;simp only[cm,J];refine zT2 ?_;refine aa λ_ k2=>?_;refine gJ 4 Ξ rfl rfl ?_;simp only[aJ,aV,shV,if_true,zS,if_false,eq_self,ad,reduceCtorEq,Nat.one_ne_zero,Nat.zero_ne_one];refine eX (L1:=[_,_,_,_]) rfl (by rw[hB];exact Υ _) rfl rfl ?_;refine zR2 (h:=k2 _ (kx ?_));refine aa λ_ k3=>?_;refine zT2 ?_;refine ay ?_;refine aM (λn5 s5=>∃ (k:Nat),(k≤xs.length)∧(∀ q:Nat,q<k→¬0≤dfO (xs.getD q aT) t)∧n5=xs.length-k∧s5={env:=[(0,.one (.row 2 v)),(3,.one (.pat Ξ (t.1,(t.2.1,())) 0)),(4,.one .nils),(5,.one (.int .i64 0)),(6,.one (.bool (pL xs t k))),(11,.one (.row 2 v)),(12,.one (.int .i64 (xs.length:Int))),(13,.one (.int .i64 (k:Int)))],L:=[.vars 34 [.int .i64 n,.list Ξ X],.vars 34 [.int .i64 0,.nils],.row Ξ 86 v xs,.vars 86 [.list Θ t.1,.list Θ t.2.1]]}) ?_ ?_
 ·exact⟨_,_,ar [0,3,4,5,6,11,12,13],0,Nat.zero_le _,λq hq=>by omega,rfl,rfl⟩
 rintro n5 s5 ⟨k,hk,hq,rfl,rfl⟩;refine zT2 ?_;refine aa λ_ k7=>?_;refine cB (λhc8=>?_) (λhc8=>?_)
 ·refine au ?_
  refine k7 _ (kx ?_);refine aa λ_ k9=>?_;refine ay ?_;refine aa λ_ k10=>?_;obtain⟨x1,x2,hgx⟩:∃ x1 x2,∀ d,xs.getD k d=(x1,(x2,())):=⟨_,_,iS ω⟩
  have hbx:=hb.get (k:=k) ω (hgx _);refine zd hgx (h:=k10 _ (kx ?_));refine aa λ_ k11=>?_;refine aa λK12 k12=>am hP hN rfl ?_
  iterate 2 refine zS3 ?_
  refine zC9 (ak (pX (x1,(x2,())) (t.1,(t.2.1,())) hbx.1 ht.1 hbx.2 ht.2)) ?_;refine zS3 ?_;refine ah (k12 _ (kx ?_));refine cB (λhc13=>?_) (λhc13=>?_)
  ·exfalso
   have h8:=hc13;rw[OA (k:=k) ω (by rw[hgx];exact h8)] at hn;cases hn
  have hnd:=hc13;refine au (k11 _ (kx ?_));refine am hP hN rfl ?_
  iterate 2 refine zS3 ?_
  refine' zJ false 5 22 (λhg14=>?a14) ?b14 ?c14
  case a14=>
   have hq14:=hg14;(try simp only[zB,reduceCtorEq] at hg14);simp only[zE]
   iterate 4 refine tE ?_
   refine db rfl λ_ k0=>?_;refine bo (h:=ak (B1 x1 t.1 ω ω)) rfl rfl (by first|exact rfl|(simp only[ev,zP,ad,J];exact rfl)) (by simp only[zV,acs,reduceCtorEq,ad,J,ae,aj,af,ag]) ?_;apply k0;clear k0;simp only[zP,J];refine zS3 ?_;refine ah ?_;exact zK hq14
  case b14=>exact cF
  simp only[bh,aX];refine zS3 ?_;refine ah (k9 _ (kx ?_));refine kp [0,3,4,5,6,11,12,13] ?_;refine eX (L1:=[_,_,_,_]) rfl (by rw[hB];exact Υ _) rfl rfl ?_;refine zR2 (h:=?_);refine⟨_,_,?_,ar [0,3,4,5,6,11,12,13],k+1,ω,λq hq2=>?_,rfl,?_⟩
  ·omega
  ·by_cases e:q=k
   ·rw[e,hgx];have h8:dfO (x1,(x2,())) t<0:=hnd;omega
   ·exact hq q ω
  ·rw[tV ω,hgx];rfl
 refine aL ?_;refine k3 _ (kx ?_);refine aa λ_ k15=>?_;refine aa λK16 k16=>am hP hN rfl ?_
 iterate 2 refine zS3 ?_
 refine' zJ false 4 31 (λhg17=>?a17) ?b17 ?c17
 case a17=>
  have hq17:=hg17;(try simp only[zB,reduceCtorEq] at hg17);simp only[zE]
  iterate 4 refine tE ?_
  refine zS3 ?_;refine ah ?_;exact zK hq17
 case b17=>exact cF
 simp only[bh,aX];refine ah (k16 _ (kx ?_));refine cB (λhc18=>?_) (λhc18=>?_)
 ·have hin:kF xs t=true:=by rw[vA];rw[show k=xs.length by omega] at hc18;simpa using hc18
  obtain⟨e1,e2⟩:=UG (v:=v) hin;refine zT2 ?_;refine kp [4,5] ?_
  first
  |(refine eX (L1:=[_,_,_,_]) rfl (by rw[hB];exact Υ _) rfl rfl ?_)
  |skip
  refine aA ?_;refine⟨by first|exact .inl rfl|exact .inr rfl,_,rfl,?_⟩;simp only[zP,ad,J];rw[e1,e2]
  first|exact⟨rfl,rfl⟩|rfl
 have hin:kF xs t=false:=by rw[vA];rw[show k=xs.length by omega] at hc18;simpa using hc18
 obtain⟨e1,e2⟩:=Rs (v:=v) hin;refine au (k15 _ (kx ?_));refine aa λK20 k20=>am hP hN rfl ?_;refine zS3 ?_
 (refine aw rfl λ_ k0=>?_;simp only[zE,op1,ev,lkp,cR,bP,fv,iJ,nD,reduceCtorEq,ad,J,ae,aj,af,ag,Tryz.el32,Tryz.td138,Tryz.td32];(repeat refine an ?_);(try refine .inl ?_);apply k0;clear k0;simp only[zP,J])
 refine zC9 (Sy n X v xs t ω hb ht.1) ?_;refine zS3 ?_;refine ah (k20 _ (kx ?_));refine aa λ_ k21=>?_;refine aa λ_ k22=>?_;have hdl:=zw xs t;refine zR2 (h:=k22 _ (kx ?_));refine cB (λhc23=>?_) (λhc23=>?_)
 ·exfalso
  omega
 refine au (k21 _ (kx ?_));refine aa λK24 k24=>am hP hN rfl ?_
 iterate 2 refine zS3 ?_
 refine zC9 (jv (args:=[.one (.row 2 (dlv v xs t)),.agg [.list Θ t.1,.list Θ t.2.1],.one (.fn 98 [])]) (by simp[fzV,fz1,fzC,mO]) rfl (UQ (ju xs t) (t.1,(t.2.1,())) (PE hs) ω) rfl) ?_
 iterate 5 refine zS3 ?_
 refine ah (k24 _ (kx ?_));refine aa λ_ k25=>?_;have hpl:=J1 (ju xs t) t;refine am hP hN rfl ?_
 iterate 3 refine zS3 ?_
 refine zC9 (ak (yH (t.1,(t.2.1,())) ht.1 ht.2)) ?_;refine zS4 ?_;refine zC9 (Us (k:=2) (j:=4) (ver:=dlv v xs t) (vj:=0) (xs:=ju xs t) (x:=(t.1,(t.2.1,()))) (i:=plc (ju xs t) t) rfl rfl δ ω ω) ?_
 iterate 2 refine zS3 ?_
 refine ah (k25 _ (kx ?_));refine kp [4,5] ?_
 first
 |(refine eX (L1:=[_,_,_,_]) rfl (by rw[hB];exact Υ _) rfl rfl ?_)
 |skip
 refine aA ?_;refine⟨by first|exact .inl rfl|exact .inr rfl,_,rfl,?_⟩;simp only[zP,ad,J];rw[e1,e2]
 first|exact⟨rfl,rfl⟩|rfl
theorem Ra (xs:List Int)(f:Nat)(caps:List Cap)(p:Int→Bool)(hcap:caps.all mO=true)(hf:∀ k,k<xs.length→aY Tryz.prog f (.one (.int .i64 (xs.getD k 0))::caps.map dG) (.one (.bool (p (xs.getD k 0))))):aY Tryz.prog 130 [.one (.list Θ xs),.one (.fn f caps)] (.one (.int .i64 (eK p xs))):=by
 refine jn Tryz.func130 rfl ζ (Nat.le_of_ble_eq_true rfl) (by simp only[List.all_cons,List.all_nil,iK,mP,gu,hcap,Bool.and_true]) λC hP hN hB=>?_;have hX:KX [0,1,4,5,7,8,9,16]:=⟨trivial⟩
 replace hN:C.N=19:=hN;simp only[cm,J];refine fT 0 rfl λhf0=>?_;simp only[lkp,if_true,if_false,reduceCtorEq,ad,eq_self,Nat.one_ne_zero,Nat.zero_ne_one,lc,kD,kd,Fit,and_true,implies_true,true_and] at hf0;refine zT2 ?_;refine aa λ_ k2=>?_;refine zT2 ?_;refine ay ?_;refine aM (λn4 s4=>∃ (k:Nat),(k≤xs.length)∧(∀ q,q<k→p (xs.getD q 0)=false)∧n4=xs.length-k∧s4={env:=[(0,.one (.list Θ xs)),(1,.one (.fn f caps)),(7,.one (.int .i64 (xs.length:Int))),(8,.one (.int .i64 (k:Int)))],L:=[]}) ?_ ?_
 ·exact⟨_,_,ar [0,1,7,8],0,Nat.zero_le _,λi hi=>by omega,rfl,rfl⟩
 rintro n4 s4 ⟨k,hk,hq,rfl,rfl⟩;refine zT2 ?_;refine aa λ_ k6=>?_;refine cB (λhc7=>?_) (λhc7=>?_)
 ·refine au ?_
  refine k6 _ (kx ?_);refine aa λ_ k8=>?_;refine ay ?_;refine zT2 ?_;refine aa λK10 k10=>am hP hN rfl ?_
  iterate 5 refine zS3 ?_
  refine zC9 (ak (hf k ω)) ?_;refine ah (k10 _ (kx ?_));refine cB (λhc11=>?_) (λhc11=>?_)
  ·refine zT2 ?_
   refine aA ?_;refine zZn ?_;refine congrArg (λn=>AV.one (AC.int IntKind.i64 n)) ?_
   symm
   first
   |exact Cl ω hq (by assumption)
   |exact kw λq hq2=>hq q ω
  refine au (k8 _ (kx ?_));refine zR2 (h:=?_);refine⟨_,_,?_,ar [0,1,7,8],k+1,ω,λq hq2=>?_,rfl,rfl⟩
  ·omega
  ·by_cases e:q=k
   ·rw[e];assumption
   ·exact hq q ω
 refine aL ?_;refine k2 _ (kx ?_);refine zT2 ?_;refine aA ?_;refine zZn ?_;refine congrArg (λn=>AV.one (AC.int IntKind.i64 n)) ?_
 symm
 first
 |exact Cl ω hq (by assumption)
 |exact kw λq hq2=>hq q ω
theorem M1 (xs:List Int)(f:Nat)(caps:List Cap)(p:Int→Bool)(hcap:caps.all mO=true)(hf:∀ k,k<xs.length→aY Tryz.prog f (.one (.int .i64 (xs.getD k 0))::caps.map dG) (.one (.bool (p (xs.getD k 0))))):aY Tryz.prog 89 [.one (.list Θ xs),.one (.fn f caps)] (.one (.bool (decide (0≤eK p xs)))):=by
 refine jn Tryz.func89 rfl ζ (Nat.le_of_ble_eq_true rfl) (by simp only[List.all_cons,List.all_nil,iK,mP,gu,hcap,Bool.and_true]) λC hP hN hB=>?_;have hX:KX [0,1,4]:=⟨trivial⟩
 replace hN:C.N=9:=hN;simp only[cm,J];refine zT2 ?_;refine aa λK2 k2=>am hP hN rfl ?_
 iterate 2 refine zS3 ?_
 refine zC9 (ak (Ra xs f caps p hcap hf)) ?_
 iterate 2 refine zS3 ?_
 refine ah (k2 _ (kx ?_));refine aA ?_;refine zZn ?_
 rfl
theorem KM (o:Int):aY Tryz.prog 93 [.one (.int .i64 o)] (.one (.bool (pO o))):=by
 refine zQ 9 Tryz.func93 λC hP hN hB=>?_;have hX:KX [0,2]:=⟨trivial⟩
 refine zT2 ?_;refine aa λK2 k2=>am hP hN rfl ?_
 iterate 3 refine zS3 ?_
 refine' zJ false 2 5 (λhg3=>?a3) ?b3 ?c3
 case a3=>
  have hq3:=hg3;(try simp only[zB,reduceCtorEq] at hg3);simp only[zE]
  iterate 2 refine tE ?_
  refine zS3 ?_;refine ah ?_;exact zK hq3
 case b3=>exact cF
 simp only[bh,aX];refine zS3 ?_;refine ah (k2 _ (kx ?_));refine aA ?_;refine zZn ?_;unfold pO;rfl
theorem xD (t:TRC)(n:Int):aY Tryz.prog 52 [.agg [.list Θ t.1,.list Θ t.2.1],.one (.int .i64 n)] (.one (.int .i64 (prO n t))):=by
 refine zQ 25 Tryz.func52 λC hP hN hB=>?_;have hX:KX [0,1,2,4,5,11,13,21]:=⟨trivial⟩
 refine zT2 ?_;refine aa λ_ k2=>?_;refine aa λK3 k3=>am hP hN rfl ?_
 iterate 3 refine zS3 ?_
 refine zC9 (ak (eO t.1 n)) ?_;refine zS3 ?_;refine ah (k3 _ (kx ?_));refine zT2 ?_;refine cB (λhc5=>?_) (λhc5=>?_)
 ·have h1:=hc5
  refine zT2 ?_;refine aA ?_;refine zZn ?_;refine congrArg (λn=>AV.one (AC.int IntKind.i64 n)) ?_
  symm
  first
  |exact vS ω
  |exact vt ω ω
  |exact BK ω ω ω
  |exact wn ω ω ω
 have h1:=hc5;refine au (k2 _ (kx ?_));refine aa λ_ k7=>?_;refine ay ?_;refine zT2 ?_;refine cB (λhc9=>?_) (λhc9=>?_)
 ·have h2:=hc9
  refine zT2 ?_;refine aA ?_;refine zZn ?_;refine congrArg (λn=>AV.one (AC.int IntKind.i64 n)) ?_
  symm
  first
  |exact vS ω
  |exact vt ω ω
  |exact BK ω ω ω
  |exact wn ω ω ω
 have h2:=hc9;refine aa λK11 k11=>am hP hN rfl ?_
 iterate 2 refine zS3 ?_
 refine zC9 (ak (M1 t.2.1 93 [] pO rfl (λk hk=>KM (t.2.1.getD k 0)))) ?_;refine zS3 ?_;refine ah (k11 _ (kx ?_));refine cB (λhc12=>?_) (λhc12=>?_)
 ·have h3:=hc12
  refine zT2 ?_;refine aA ?_;refine zZn ?_;refine congrArg (λn=>AV.one (AC.int IntKind.i64 n)) ?_
  symm
  first
  |exact vS ω
  |exact vt ω ω
  |exact BK ω ω ω
  |exact wn ω ω ω
 have h3:=hc12;refine au (k7 _ (kx ?_));refine zT2 ?_;refine aA ?_;refine zZn ?_;refine congrArg (λn=>AV.one (AC.int IntKind.i64 n)) ?_
 symm
 first
 |exact vS ω
 |exact vt ω ω
 |exact BK ω ω ω
 |exact wn ω ω ω
theorem P2 (xs:List TRC)(hl:xs.length≤1000000)(hb:LB 100000 xs):gQ Tryz.prog 51 [.one (.list Ξ xs)] Ξ 86 (xs):=by
 refine dW Tryz.func51 rfl ζ (Nat.le_of_ble_eq_true rfl) rfl λC hP hN hB=>?_;have hX:KX [0,2,3,5,10,11,12,13]:=⟨trivial⟩
 replace hN:C.N=23:=hN;simp only[cm,J];refine fT 0 rfl λhf0=>?_;simp only[lkp,if_true,if_false,reduceCtorEq,ad,eq_self,Nat.one_ne_zero,Nat.zero_ne_one,lc,kD,kd,Fit,and_true,implies_true,true_and] at hf0;refine zT2 ?_;refine aa λK2 k2=>am hP hN rfl ?_
 iterate 3 refine zS3 ?_
 (refine aw rfl λ_ k0=>?_;simp only[zE,op1,ev,lkp,cR,bP,cC,gm,ff,cY,dC,fa,Nat.div_one,cV,di,Ty.size,bq,dite_true,gT,cZ,gk,gW,fH,iz,cH,Ty.dflt,reduceCtorEq,ad,J,ae,aj,af,ag,Tryz.el32,Tryz.td3,Tryz.td32];(repeat refine an ?_);(try refine .inl ?_);apply k0;clear k0;simp only[zP,J])
 refine zS3 ?_;refine ah (k2 _ (kx ?_));refine aa λ_ k3=>?_;refine zT2 ?_;refine ay ?_;refine aM (λn5 s5=>∃ (k v:Nat),(k≤xs.length)∧n5=xs.length-k∧s5={env:=[(2,.one .nils),(3,.one (.row 0 v)),(10,.one (.list Ξ xs)),(11,.one (.int .i64 (xs.length:Int))),(12,.one (.int .i64 (k:Int)))],L:=[.row Ξ 86 v (xs.take k)]}) ?_ ?_
 ·exact⟨_,_,ar [2,3,10,11,12],0,0,Nat.zero_le _,rfl,rfl⟩
 rintro n5 s5 ⟨k,v,hk,rfl,rfl⟩;refine zT2 ?_;refine aa λ_ k7=>?_;refine cB (λhc8=>?_) (λhc8=>?_)
 ·refine au ?_
  refine k7 _ (kx ?_);refine aa λ_ k9=>?_;refine ay ?_;refine aa λ_ k10=>?_;obtain⟨x1,x2,hgx⟩:∃ x1 x2,∀ d,xs.getD k d=(x1,(x2,())):=⟨_,_,iS ω⟩
  refine zd hgx (h:=k10 _ (kx ?_));refine am hP hN rfl ?_
  iterate 2 (refine aw rfl λ_ k0=>?_;simp only[zO,zT,acs,reduceCtorEq,ad,J,ae,aj,af,ag,List.length_take];(repeat refine an ?_);(try refine .inl ?_);apply k0;clear k0;simp only[zP,J])
  refine aw rfl λ_ k0=>?_;refine bo (h:=ak (yH (x1,(x2,())) (hb.get ω (hgx _)).1 (hb.get ω (hgx _)).2)) rfl rfl (by first|exact rfl|(simp only[ev,zP,ad,J];exact rfl)) (by simp only[zV,acs,reduceCtorEq,ad,J,ae,aj,af,ag,List.length_take]) ?_;apply k0;clear k0;simp only[zP,J]
  iterate 3 (refine aw rfl λ_ k0=>?_;simp only[zO,zT,acs,reduceCtorEq,ad,J,ae,aj,af,ag,List.length_take];(repeat refine an ?_);(try refine .inl ?_);apply k0;clear k0;simp only[zP,J])
  refine ah (k9 _ (kx ?_));refine kp [2,3,10,11,12] ?_;refine eX (L1:=[_]) rfl (by rw[hB];exact Nat.zero_le _) rfl rfl ?_;refine zR2 (h:=?_);refine⟨_,_,?_,ar [2,3,10,11,12],k+1,v+1,ω,rfl,?_⟩
  ·omega
  ·rw[DB (show k<xs.length by omega),hgx];rfl
 refine aL ?_;refine k3 _ (kx ?_);refine aa λ_ k11=>?_;have hkl:k=xs.length:=ω;rw[hkl,aP];refine zR2 (h:=k11 _ (kx ?_));refine aA ?_;refine⟨by first|exact .inl rfl|exact .inr rfl,_,rfl,_,_,rfl,?_⟩
 rfl
theorem J9 (n:Int)(X l:List TRC)(hs:SRT X)(hb:LB 100000 X)(hl:X.length+l.length≤9000):aY Tryz.prog 23 [.agg [.int .i64 n,.list Ξ X],.one (.list Ξ l)] (.tup [.agg [.int .i64 n,.list Ξ (u9 n X l)],.one (.int .i64 (oa n X l))]):=by
 refine zQ 45 Tryz.func23 λC hP hN hB=>?_;have hX:KX [0,1,2,4,5,6,8,9,10,11,15,16,17,18,26,36]:=⟨trivial⟩
 refine zT2 ?_;refine aa λK2 k2=>am hP hN rfl ?_
 iterate 2 refine zS3 ?_
 refine zC9 (gy (P2 X ω hb)) ?_;refine zS3 ?_;refine ah (k2 _ (kx ?_));refine aa λ_ k3=>?_;refine zT2 ?_;refine ay ?_;refine aM (λn5 s5=>∃ (k v:Nat),(k≤l.length)∧(∀ q:Nat,q<k→jm n X l q=0)∧n5=l.length-k∧s5={env:=[(2,.one (.ptr 0 0 0 0)),(4,.one (.ptr 1 0 0 0)),(5,.one (.int .i64 0)),(6,.one (.row 2 v)),(15,.one (.list Ξ l)),(16,.one (.int .i64 (l.length:Int))),(17,.one (.int .i64 (k:Int)))],L:=[.vars 34 [.int .i64 n,.list Ξ X],.vars 34 [.int .i64 0,.nils],.row Ξ 86 v (XK X l k)]}) ?_ ?_
 ·exact⟨_,_,ar [2,4,5,6,15,16,17],0,0,Nat.zero_le _,λq hq=>by omega,rfl,rfl⟩
 rintro n5 s5 ⟨k,v,hk,hq,rfl,rfl⟩;refine zT2 ?_;refine aa λ_ k7=>?_;refine cB (λhc8=>?_) (λhc8=>?_)
 ·refine au ?_
  refine k7 _ (kx ?_);refine aa λ_ k9=>?_;refine ay ?_;refine aa λ_ k10=>?_;obtain⟨x1,x2,hgx⟩:∃ x1 x2,∀ d,l.getD k d=(x1,(x2,())):=⟨_,_,iS ω⟩
  have hXl:=v8 (X:=X) (l:=l) (k:=k) ω;have hXs:=IV (l:=l) hs (k:=k) ω;have hXb:=TS hb (k:=k) ω hq;have hlk:l.getD k aT=(x1,(x2,())):=hgx _;refine zd hgx (h:=k10 _ (kx ?_));refine aa λ_ k11=>?_;refine aa λK12 k12=>am hP hN rfl ?_
  iterate 3 refine zS3 ?_
  refine zC9 (ak (xD (x1,(x2,())) n)) ?_;refine zS3 ?_;refine ah (k12 _ (kx ?_));refine zT2 ?_;refine cB (λhc14=>?_) (λhc14=>?_)
  ·have hpe:¬prO n (x1,(x2,()))=0:=hc14
   have hie:jm n X l k=prO n (x1,(x2,())):=by unfold jm;rw[hlk];exact Sv hpe
   obtain⟨e1,e2⟩:=DO (n:=n) (X:=X) (l:=l) (k:=k) ω hq (by rw[hie];exact hpe);refine zT2 ?_;refine aA ?_;refine zZn ?_
   first
   |(rw[e1,e2,hie];first|done|rfl)
   |(rw[e1,e2,htk];first|done|rfl)
   |(rw[e1,e2];first|done|rfl)
  have hpz:prO n (x1,(x2,()))=0:=hc14;have hpl:x1.length≤1024∧x2.length≤1024:=xF hpz;refine au (k11 _ (kx ?_));refine aa λ_ k16=>?_;obtain⟨B,hB9⟩:∃ B,B=nH (XK X l k) (x1,(x2,())):=⟨_,rfl⟩
  rcases Bool.eq_false_or_eq_true (nH (XK X l k) (x1,(x2,()))) with hnb|hnb
  ·skip
   refine am hP hN rfl ?_
   iterate 2 refine zS3 ?_
   refine zC9 (QS n X v (XK X l k) (x1,(x2,())) hXs ω hXb ⟨by show x1.length≤100000;omega,by show x2.length≤100000;omega⟩ hnb) ?_
   iterate 5 refine zS3 ?_
   refine ah (k16 _ (kx ?_));refine aa λ_ k17=>?_;refine zT2 ?_;refine cB (λhc19=>?_) (λhc19=>?_)
   ·have hie:jm n X l k=13:=by unfold jm;rw[hlk];exact OY hpz hnb
    obtain⟨e1,e2⟩:=DO (n:=n) (X:=X) (l:=l) (k:=k) ω hq (by rw[hie];decide);refine zT2 ?_;refine aA ?_;refine zZn ?_
    first
    |(rw[e1,e2,hie];first|done|rfl)
    |(rw[e1,e2,htk];first|done|rfl)
    |(rw[e1,e2];first|done|rfl)
   ·exact zX hc19
  ·skip
   refine am hP hN rfl ?_
   iterate 2 refine zS3 ?_
   refine zC9 (T1 n X v (XK X l k) (x1,(x2,())) hXs ω hXb ⟨by show x1.length≤100000;omega,by show x2.length≤100000;omega⟩ hnb) ?_
   iterate 5 refine zS3 ?_
   refine ah (k16 _ (kx ?_));refine aa λ_ k21=>?_;refine zT2 ?_;refine cB (λhc23=>?_) (λhc23=>?_)
   ·exact zX hc23
   refine au (k21 _ (kx ?_));refine zR2 (h:=k9 _ (kx ?_));refine kp [2,4,5,6,15,16,17] ?_;refine eX (L1:=[_,_,_]) rfl (by rw[hB];exact Nat.zero_le _) rfl rfl ?_;refine zR2 (h:=?_);have hie:jm n X l k=0:=by unfold jm;rw[hlk];exact DA hpz hnb
   refine⟨_,_,?_,ar [2,4,5,6,15,16,17],k+1,adv v (XK X l k) (x1,(x2,())),ω,λq hq2=>?_,rfl,?_⟩
   ·omega
   ·by_cases e:q=k
    ·rw[e];exact hie
    ·exact hq q ω
   ·rw[kv ω,hlk];rfl
 refine aL ?_;refine k3 _ (kx ?_);refine aa λ_ k24=>?_;refine cA 2 rfl ?_;simp only[aJ,aV,zS,ad,ZW,reduceCtorEq];have hkl:k=l.length:=ω;obtain⟨e1,e2⟩:=Te (n:=n) (X:=X) (l:=l) (λq hq2=>hq q ω);have htk:XK X l l.length=XK X l k:=by rw[hkl]
 refine zR2 (h:=k24 _ (kx ?_));refine aA ?_;refine zZn ?_
 first
 |(rw[e1,e2,hie];first|done|rfl)
 |(rw[e1,e2,htk];first|done|rfl)
 |(rw[e1,e2];first|done|rfl)
theorem oX (n:Int)(X:List TRC)(t:TRC)(hs:SRT X)(hb:LB 100000 X)(hl:X.length≤8000):aY Tryz.prog 145 [.agg [.int .i64 n,.list Ξ X],.agg [.list Θ t.1,.list Θ t.2.1]] (.tup [.agg [.int .i64 n,.list Ξ (u9 n X [t])],.one (.int .i64 (oa n X [t]))]):=by
 refine zQ 12 Tryz.func145 λC hP hN hB=>?_;have hX:KX [0,1,2,3,4,5]:=⟨trivial⟩
 refine zT2 ?_;refine aa λK2 k2=>am hP hN rfl ?_
 iterate 3 refine zS3 ?_
 refine zC9 (ak (J9 n X [t] hs hb (by simp only[ax,aF];omega))) ?_
 iterate 4 refine zS3 ?_
 refine ah (k2 _ (kx ?_));refine aA ?_;refine zZn ?_
 rfl
theorem mS (v w:List Int)(hv:v.length≤1000000)(hw:w.length≤1000000):aY Tryz.prog 68 [.one (.list Θ v),.one (.list Θ w)] (.one (.int .i64 (jh v w:Int))):=by
 obtain⟨n,hn⟩:∃ n,n=min v.length w.length:=⟨_,rfl⟩
 have hnm:min (v.length:Int) (w.length:Int)=(n:Int):=ω;refine zQ 30 Tryz.func68 λC hP hN hB=>?_;have hX:KX [0,1,4,5,10,11,12,22]:=⟨trivial⟩
 refine tJ ?_;refine aa λ_ k2=>?_;refine tJ ?_;refine ay ?_;refine aM (λn4 s4=>∃ (k:Nat),(k≤n)∧(∀ j,j<k→v.getD j 0=w.getD j 0)∧n4=n-k∧s4={env:=[(0,.one (.list Θ v)),(1,.one (.list Θ w)),(4,.one (.int .i64 0)),(10,.one (.int .i64 (n:Int))),(11,.one (.int .i64 (k:Int)))],L:=[]}) ?_ ?_
 ·refine⟨_,_,ar [0,1,4,10,11],0,Nat.zero_le _,λj h=>by omega,rfl,?_⟩
  rw[← hnm];rfl
 rintro n4 s4 ⟨k,hk,hj,rfl,rfl⟩;refine tJ ?_;refine aa λ_ k6=>?_;refine cB (λhc7=>?_) (λhc7=>?_)
 ·refine au ?_
  refine k6 _ (kx ?_);refine aa λ_ k8=>?_;refine ay ?_;refine aa λ_ k9=>?_;have hkv:k<v.length:=ω;have hkw:k<w.length:=ω;refine vE (h:=k9 _ (kx ?_));refine aa λ_ k10=>?_;refine bz hP hN Tryz.mixed rfl ?_
  iterate 9 refine yB ?_
  refine ah ?_;refine⟨ζ,?_⟩;refine k10 _ (kx ?_);refine cB (λhc11=>?_) (λhc11=>?_)
  ·have hne:¬v.getD k 0=w.getD k 0:=hc11
   refine tJ ?_;refine aA ?_;refine⟨nr,_,rfl,?_⟩;simp only[zF,zP,ad,J,az];refine VLE.of_eq ?_;refine congrArg (λn=>AV.one (AC.int IntKind.i64 n)) ?_
   symm
   first
   |exact congrArg Int.ofNat (tq ω ω hj hne)
   |(rw[hnm,← hkn];exact congrArg Int.ofNat (pH ω ω hj ω))
  have heq:v.getD k 0=w.getD k 0:=by simpa using hc11
  refine au (k8 _ (kx ?_));refine vE (h:=?_);refine⟨_,_,?_,ar [0,1,4,10,11],k+1,ω,λj h=>?_,rfl,rfl⟩
  ·omega
  ·by_cases e:j=k
   ·rw[e];exact heq
   ·exact hj j ω
 refine aL ?_;refine k2 _ (kx ?_);refine aa λ_ k13=>?_;have hkn:k=n:=ω;refine vE (h:=k13 _ (kx ?_));refine aA ?_;refine⟨nr,_,rfl,?_⟩;simp only[zF,zP,ad,J,az];refine VLE.of_eq ?_;refine congrArg (λn=>AV.one (AC.int IntKind.i64 n)) ?_
 symm
 first
 |exact congrArg Int.ofNat (tq ω ω hj hne)
 |(rw[hnm,← hkn];exact congrArg Int.ofNat (pH ω ω hj ω))
theorem cL (v w:List Int)(hv:v.length≤1000000)(hw:w.length≤1000000):aY Tryz.prog 48 [.one (.list Θ v),.one (.list Θ w)] (.one (.bool (decide ((jh v w:Int)=w.length)))):=by
 refine zQ 11 Tryz.func48 λC hP hN hB=>?_;have hX:KX [0,1,4]:=⟨trivial⟩
 refine zT2 ?_;refine aa λK2 k2=>am hP hN rfl ?_
 iterate 2 refine zS3 ?_
 refine zC9 (ak (mS v w hv hw)) ?_
 iterate 4 refine zS3 ?_
 refine ah (k2 _ (kx ?_));refine aA ?_;refine zZn ?_
 rfl
theorem qT (v w:List Int):aY Tryz.prog 47 [.one (.list Θ v),.one (.list Θ w)] (.one (.int .i64 (dj v w))):=by
 refine zQ 8 Tryz.func47 λC hP hN hB=>?_;have hX:KX [0,1,4]:=⟨trivial⟩
 refine zT2 ?_;refine aa λK2 k2=>am hP hN rfl ?_
 iterate 2 refine zS3 ?_
 refine zC9 (ak (ua v w)) ?_;refine zS3 ?_;refine ah (k2 _ (kx ?_));refine aA ?_;refine zZn ?_
 rfl
theorem KY:gQ Tryz.prog 35 [.one .emp] Θ 3 (([]:List Int)):=by
 refine dW Tryz.func35 rfl ζ (Nat.le_of_ble_eq_true rfl) rfl λC hP hN hB=>?_;have hX:KX [0,2,4]:=⟨trivial⟩
 replace hN:C.N=8:=hN;simp only[cm,J];refine zT2 ?_;refine aa λ_ k2=>?_;refine zT2 ?_;refine cB (λhc4=>?_) (λhc4=>?_)
 ·exact zX hc4
 refine au (k2 _ (kx ?_));refine aa λK5 k5=>am hP hN rfl ?_;refine zS4 ?_
 iterate 3 refine zS3 ?_
 refine ah (k5 _ (kx ?_));refine aA ?_;refine⟨by first|exact .inl rfl|exact .inr rfl,_,rfl,_,_,rfl,?_⟩
 rfl
theorem zc:gQ Tryz.prog 35 [.one .nils] Θ 3 (([]:List Int)):=by
 refine dW Tryz.func35 rfl ζ (Nat.le_of_ble_eq_true rfl) rfl λC hP hN hB=>?_;have hX:KX [0,2,4]:=⟨trivial⟩
 replace hN:C.N=8:=hN;simp only[cm,J];refine zT2 ?_;refine aa λ_ k2=>?_;refine zT2 ?_;refine cB (λhc4=>?_) (λhc4=>?_)
 ·refine zT2 ?_
  refine eC 2 Θ 3 δ rfl ?_;simp only[ax,aF,aG,aC,Nat.zero_add,J];refine aA ?_;refine⟨by first|exact .inl rfl|exact .inr rfl,_,rfl,_,_,rfl,?_⟩
  rfl
 ·exact zX hc4
theorem qE {P:Program}{f:FuncId}{t t2:Ty}{e2:TypeId}{xs:List t.den}{ys:List t2.den}(h0:xs=[]→gQ P f [.one .nils] t2 e2 ys)(h1:xs=[]→gQ P f [.one .emp] t2 e2 ys)(h2:0<xs.length→gQ P f [.one (.list t xs)] t2 e2 ys)(hc:j5 P f):gQ P f [.one (.list t xs)] t2 e2 ys:=by
 refine⟨hc,λC L σ w vs hP hI ha=>?_⟩;obtain⟨u,rfl,hu⟩:=ha.one;rcases oe hu with⟨e,h⟩|⟨e,h⟩|h
 ·exact(h0 e).2 C L σ w _ hP hI ⟨h,trivial⟩
 ·exact(h1 e).2 C L σ w _ hP hI ⟨h,trivial⟩
 ·exact(h2 h).2 C L σ w _ hP hI ⟨hu,trivial⟩
theorem Kk (xs:List Int)(h:xs.length≤10000000000000):gQ Tryz.prog 35 [.one (.list Θ xs)] Θ 3 xs:=
 qE (t:=.int .i64) (λe=>by subst e;exact zc) (λe=>by subst e;exact KY) (λh0=>Ac xs h0 h) zc.1
theorem FZ:gQ Tryz.prog 85 [.one .emp] Γ 26 (([]:List (List Int))):=by
 refine dW Tryz.func85 rfl ζ (Nat.le_of_ble_eq_true rfl) rfl λC hP hN hB=>?_;have hX:KX [0,2,4]:=⟨trivial⟩
 replace hN:C.N=8:=hN;simp only[cm,J];refine zT2 ?_;refine aa λ_ k2=>?_;refine zT2 ?_;refine cB (λhc4=>?_) (λhc4=>?_)
 ·exact zX hc4
 refine au (k2 _ (kx ?_));refine aa λK5 k5=>am hP hN rfl ?_;refine zS4 ?_
 iterate 3 refine zS3 ?_
 refine ah (k5 _ (kx ?_));refine aA ?_;refine⟨by first|exact .inl rfl|exact .inr rfl,_,rfl,_,_,rfl,?_⟩
 rfl
theorem wt:gQ Tryz.prog 85 [.one .nils] Γ 26 (([]:List (List Int))):=by
 refine dW Tryz.func85 rfl ζ (Nat.le_of_ble_eq_true rfl) rfl λC hP hN hB=>?_;have hX:KX [0,2,4]:=⟨trivial⟩
 replace hN:C.N=8:=hN;simp only[cm,J];refine zT2 ?_;refine aa λ_ k2=>?_;refine zT2 ?_;refine cB (λhc4=>?_) (λhc4=>?_)
 ·refine zT2 ?_
  refine eC 2 Γ 26 δ rfl ?_;simp only[ax,aF,aG,aC,Nat.zero_add,J];refine aA ?_;refine⟨by first|exact .inl rfl|exact .inr rfl,_,rfl,_,_,rfl,?_⟩
  rfl
 ·exact zX hc4
theorem Fg (xs:List (List Int))(h0:0<xs.length)(h1:xs.length≤1000000000000):gQ Tryz.prog 85 [.one (.list Γ xs)] Γ 26 (xs):=by
 refine dW Tryz.func85 rfl ζ (Nat.le_of_ble_eq_true rfl) rfl λC hP hN hB=>?_;have hX:KX [0,2,4]:=⟨trivial⟩
 replace hN:C.N=8:=hN;simp only[cm,J];refine zT2 ?_;refine aa λ_ k2=>?_;refine zT2 ?_;refine cB (λhc4=>?_) (λhc4=>?_)
 ·exact zX hc4
 refine au (k2 _ (kx ?_));refine aa λK5 k5=>am hP hN rfl ?_;refine zS4 ?_
 iterate 3 refine zS3 ?_
 refine ah (k5 _ (kx ?_));refine aA ?_;refine⟨by first|exact .inl rfl|exact .inr rfl,_,rfl,_,_,rfl,?_⟩
 rfl
theorem x4 (xs:List (List Int))(h:xs.length≤1000000000000):gQ Tryz.prog 85 [.one (.list Γ xs)] Γ 26 xs:=
 qE (t:=.list Θ) (λe=>by subst e;exact wt) (λe=>by subst e;exact FZ) (λh0=>Fg xs h0 h) wt.1
theorem HY (f:Nat)(caps:List Cap)(ver:Nat)(xs:List (List Int))(hxl:xs.length≤1000000)(hcap:caps.all mO=true)(hf:∀ i j,i<xs.length→j<xs.length→aY Tryz.prog f (.one (.list Θ (xs.getD i [])):: .one (.list Θ (xs.getD j []))::caps.map dG) (.one (.bool (decide (xs.getD i []=xs.getD j []))))):cS Tryz.prog [.row Γ 26 ver xs] 86 [.one (.row 0 ver),.one (.fn f caps)] {av:=.one (.row 0 (ver+1)),upd:=[(0,.row Γ 26 (ver+1) (dg xs))],fp:=[0]}:=by
 refine fl _ _ Tryz.func86 rfl ζ (Nat.le_of_ble_eq_true rfl) (by intro k hk;simp only[ax,aF,Nat.zero_add,J] at hk;simp only[List.mem_cons,List.not_mem_nil,or_false];omega) (λC hP hN hB=>?_);have hX:KX [0,1,4,5,6,7,10,15,28,35,49]:=⟨trivial⟩
 replace hB:C.bL.length=1:=by rw[hB];rfl
 replace hN:C.N=66:=hN;simp only[cm,J];refine zT2 ?_;refine aa λ_ k2=>?_;refine zT2 ?_;refine cB (λhc4=>?_) (λhc4=>?_)
 ·refine aa λ_ k5=>?_
  refine yw 0 0 rfl rfl ?_;simp only[bu];refine zR2 (h:=k5 _ (kx ?_));refine aA ?_;refine⟨by first|exact .inl rfl|exact .inr rfl,_,rfl,?_⟩;simp only[zP,ad,J]
  first
  |rfl
  |(rw[nu ω];done)
  |(rw[rU ω hk3];done)
  |skip
 refine au (k2 _ (kx ?_));refine aa λ_ k6=>?_;refine zT2 ?_;refine ay ?_;refine aM (λn8 s8=>∃ (k0:Nat),(1≤k0)∧(k0≤xs.length)∧(dg (xs.take k0)=xs.take k0)∧n8=xs.length-k0∧s8={env:=[(0,.one (.row 0 ver)),(1,.one (.fn f caps)),(4,.one .nils),(5,.one (.int .i64 (k0:Int)))],L:=[.row Γ 26 ver xs]}) ?_ ?_
 ·exact⟨_,_,ar [0,1,4,5],1,Υ _,ω,zm,rfl,rfl⟩
 rintro n8 s8 ⟨k0,hk1,hk2,hk3,rfl,rfl⟩;refine aa λ_ k9=>?_;refine zT2 ?_;refine cB (λhc11=>?_) (λhc11=>?_)
 ·refine au ?_
  refine k9 _ (kx ?_);refine aa λ_ k12=>?_;refine ay ?_;refine aa λ_ k13=>?_;have hk01:((k0:Int)-1).toNat=k0-1:=ω;have hf6:=hf k0 (k0-1) ω ω;refine bz hP hN Tryz.mixed rfl ?_
  iterate 10 (refine aw rfl λ_ k0=>?_;simp only[zO,zT,acs,reduceCtorEq,ad,J,ae,aj,af,ag,gt,az,hk01,Ty.dflt];(repeat refine an ?_);(try refine .inl ?_);apply k0;clear k0;simp only[zP,J])
  refine aw rfl λ_ k0=>?_;refine bo (h:=ak hf6) rfl rfl (by first|exact rfl|(simp only[ev,zP,ad,J];exact rfl)) (by simp only[zV,acs,reduceCtorEq,ad,J,ae,aj,af,ag,gt,az,hk01,Ty.dflt]) ?_;apply k0;clear k0;simp only[zP,J];refine ah ?_;refine⟨ζ,?_⟩;refine k13 _ (kx ?_);refine cB (λhc14=>?_) (λhc14=>?_)
  ·have hdup:=hc14
   refine aa λK15 k15=>am hP hN rfl ?_
   iterate 2 refine zS3 ?_
   refine d4 (λC9 hC9=>.inl ⟨rfl,ly rfl (by rw[hC9];exact Tryz.td22) rfl (by rw[hC9];exact Tryz.td26) rfl rfl rfl rfl ω ω ω⟩) ?_;simp only[zP,J];refine zS3 ?_;refine ah (k15 _ (kx ?_));refine aa λ_ k16=>?_;refine zT2 ?_;refine ay ?_;refine aM (λn18 s18=>∃ (i:Nat) (k:Nat) (ys:List (List Int)),(ys.length=xs.length)∧(1≤k)∧(k<i)∧(i≤xs.length)∧(k0<i)∧(∀ j,i≤j+1→ys.getD j []=xs.getD j [])∧(ys.take k=dg (xs.take i))∧n18=xs.length-i∧s18={env:=[(0,.one (.row 0 ver)),(1,.one (.fn f caps)),(4,.one .nils),(5,.one (.int .i64 (k:Int))),(6,.one (.suf 0 ver k0 none)),(7,.one (.int .i64 ((i:Int)-(k0:Int))))],L:=[.row (.list (.int .i64)) 26 ver ys]}) ?_ ?_
   ·exact⟨_,_,ar [0,1,4,5,6,7],k0+1,k0,xs,rfl,hk1,ω,ω,ω,λj _=>rfl,Kx ω ω hk3 hdup,rfl,by rw[show(((k0+1:Nat):Int)-(k0:Int))=1 by omega];rfl⟩
   rintro n18 s18 ⟨i,k,ys,hyl,hk4,hki,hil,hk0i,hyx,hyk,rfl,rfl⟩;refine aa λ_ k19=>?_;refine aa λK20 k20=>am hP hN rfl ?_
   iterate 2 refine zS3 ?_
   refine d4 (λC9 hC9=>.inl ⟨rfl,ph rfl rfl (by rw[hC9];exact Tryz.td22) rfl rfl rfl⟩) ?_;simp only[zP,J];refine zS3 ?_;refine ah (k20 _ (kx ?_));refine cB (λhc21=>?_) (λhc21=>?_)
   ·refine au ?_
    refine k19 _ (kx ?_);refine aa λ_ k22=>?_;refine ay ?_;refine aa λ_ k23=>?_;have hi1:k0+((i:Int)-(k0:Int)).toNat=i:=ω;have hi2:k0+((i:Int)-(k0:Int)-1).toNat=i-1:=ω;have hf11:=hf i (i-1) ω ω;have hy1:=hyx i ω;have hy2:=hyx (i-1) ω;refine bz hP hN Tryz.mixed rfl ?_
    iterate 3 refine Hj (And.intro hi1 (And.intro hi2 (And.intro hy1 hy2))) ?_
    refine d4 (λC9 hC9=>.inl ⟨rfl,fZ rfl (by rw[hC9];exact Tryz.td22) rfl (by rw[hC9];exact Tryz.td26) rfl rfl rfl rfl ω ω⟩) ?_;simp only[zP,J]
    iterate 4 refine Hj (And.intro hi1 (And.intro hi2 (And.intro hy1 hy2))) ?_
    refine d4 (λC9 hC9=>.inl ⟨rfl,fZ rfl (by rw[hC9];exact Tryz.td22) rfl (by rw[hC9];exact Tryz.td26) rfl rfl rfl rfl ω ω⟩) ?_;simp only[zP,J];refine Hj (And.intro hi1 (And.intro hi2 (And.intro hy1 hy2))) ?_;refine aw rfl λ_ k0=>?_;refine bo (h:=ak hf11) rfl rfl (by first|exact rfl|(simp only[ev,zP,ad,J];exact rfl)) (by simp only[zV,acs,reduceCtorEq,ad,J,ae,aj,af,ag,hi1,hi2,hy1,hy2,Ty.dflt,az]) ?_;apply k0;clear k0;simp only[zP,J];refine Hj (And.intro hi1 (And.intro hi2 (And.intro hy1 hy2))) ?_;refine ah ?_;refine⟨ζ,?_⟩;refine k23 _ (kx ?_);refine cB (λhc24=>?_) (λhc24=>?_)
    ·have hne:=hc24
     refine aa λK25 k25=>am hP hN rfl ?_
     iterate 4 (refine aw rfl λ_ k0=>?_;simp only[zO,zT,acs,reduceCtorEq,ad,J,ae,aj,af,ag,hi1,hy1,az,Ty.dflt];(repeat refine an ?_);(try refine .inl ?_);apply k0;clear k0;simp only[zP,J])
     refine d4 (λC9 hC9=>.inl ⟨rfl,fZ rfl (by rw[hC9];exact Tryz.td22) rfl (by rw[hC9];exact Tryz.td26) rfl rfl rfl rfl ω ω⟩) ?_;simp only[zP,J]
     iterate 3 (refine aw rfl λ_ k0=>?_;simp only[zO,zT,acs,reduceCtorEq,ad,J,ae,aj,af,ag,hi1,hy1,az,Ty.dflt];(repeat refine an ?_);(try refine .inl ?_);apply k0;clear k0;simp only[zP,J])
     refine ah (k25 _ (kx ?_));refine zR2 (h:=k22 _ (kx ?_));refine zR2 (h:=?_)
     first
     |(refine⟨_,_,?_,ar [0,1,4,5,6,7],i+1,k+1,ys.set k (xs.getD i []),by rw[List.length_set];exact hyl,ω,ω,ω,ω,λj hj=>(Hp ω).trans (hyx j ω),?_,rfl,?_⟩
       ·omega
       ·rw[Hg hyk ω,lE ω ω,if_neg hne]
       ·rw[show(((i+1:Nat):Int)-(k0:Int))=(i:Int)-(k0:Int)+1 by omega];rfl)
     |(refine⟨_,_,?_,ar [0,1,4,5,6,7],i+1,k,ys,hyl,ω,ω,ω,ω,λj hj=>hyx j ω,?_,rfl,?_⟩
       ·omega
       ·rw[hyk,lE ω ω,if_pos hsm]
       ·rw[show(((i+1:Nat):Int)-(k0:Int))=(i:Int)-(k0:Int)+1 by omega];rfl)
    have hsm:=hc24;refine au (k22 _ (kx ?_));refine zR2 (h:=?_)
    first
    |(refine⟨_,_,?_,ar [0,1,4,5,6,7],i+1,k+1,ys.set k (xs.getD i []),by rw[List.length_set];exact hyl,ω,ω,ω,ω,λj hj=>(Hp ω).trans (hyx j ω),?_,rfl,?_⟩
      ·omega
      ·rw[Hg hyk ω,lE ω ω,if_neg hne]
      ·rw[show(((i+1:Nat):Int)-(k0:Int))=(i:Int)-(k0:Int)+1 by omega];rfl)
    |(refine⟨_,_,?_,ar [0,1,4,5,6,7],i+1,k,ys,hyl,ω,ω,ω,ω,λj hj=>hyx j ω,?_,rfl,?_⟩
      ·omega
      ·rw[hyk,lE ω ω,if_pos hsm]
      ·rw[show(((i+1:Nat):Int)-(k0:Int))=(i:Int)-(k0:Int)+1 by omega];rfl)
   refine aL ?_;refine k16 _ (kx ?_);refine aa λK26 k26=>am hP hN rfl ?_
   iterate 2 refine zS3 ?_
   refine d4 (λC9 hC9=>.inl ⟨rfl,ly rfl (by rw[hC9];exact Tryz.td22) rfl (by rw[hC9];exact Tryz.td26) rfl rfl rfl rfl ω ω ω⟩) ?_;simp only[zP,J];refine d4 (λC9 hC9=>.inl ⟨rfl,uE (t:=.list (.int .i64)) (xs:=ys) (dz:=[]) rfl rfl (by rw[hC9];exact Tryz.td22) rfl (by rw[hC9];exact Tryz.td26) rfl rfl rfl rfl ω⟩) ?_;simp only[zP,J];refine ah (k26 _ (kx ?_));refine aa λ_ k27=>?_;have hl15:(ys.take k++List.replicate (ys.length-k) ([]:List Int)).length=ys.length:=by simp;omega
   have hr15:(ys.take k++List.replicate (ys.length-k) ([]:List Int)).take k=dg xs:=by rw[SE ω,hyk,List.take_of_length_le ω]
   refine am hP hN rfl ?_
   iterate 2 (refine aw rfl λ_ k0=>?_;simp only[zO,zT,acs,reduceCtorEq,ad,J,ae,aj,af,ag];(repeat refine an ?_);(try refine .inl ?_);apply k0;clear k0;simp only[zP,J,az,hr15])
   (refine aw rfl λ_ k0=>?_;simp only[zE,op1,ev,lkp,cR,bP,eZ,bnd,Ty.size,reduceCtorEq,ad,J,ae,aj,af,ag,Tryz.el22,Tryz.td22,Tryz.td3];(repeat refine an ?_);(try refine .inl ?_);apply k0;clear k0;simp only[zP,J,az,hr15])
   (refine aw rfl λ_ k0=>?_;simp only[zO,zT,acs,reduceCtorEq,ad,J,ae,aj,af,ag];(repeat refine an ?_);(try refine .inl ?_);apply k0;clear k0;simp only[zP,J,az,hr15])
   refine ah (k27 _ (kx ?_));refine aA ?_;refine⟨by first|exact .inl rfl|exact .inr rfl,_,rfl,?_⟩;simp only[zP,ad,J]
   first
   |rfl
   |(rw[nu ω];done)
   |(rw[rU ω hk3];done)
   |skip
  have hndup:=hc14;refine au (k12 _ (kx ?_));refine zR2 (h:=?_);refine⟨_,_,?_,ar [0,1,4,5],k0+1,ω,ω,L3 ω ω hk3 hndup,rfl,rfl⟩;omega
 refine aL ?_;refine k6 _ (kx ?_);refine aa λ_ k28=>?_;refine yw 0 0 rfl rfl ?_;simp only[bu];refine zR2 (h:=k28 _ (kx ?_));refine aA ?_;refine⟨by first|exact .inl rfl|exact .inr rfl,_,rfl,?_⟩;simp only[zP,ad,J]
 first
 |rfl
 |(rw[nu ω];done)
 |(rw[rU ω hk3];done)
 |skip
theorem NL (a b:List Int):aY Tryz.prog 87 [.one (.list Θ a),.one (.list Θ b),.one (.pfn 47 [])] (.one (.bool (decide (a=b)))):=by
 refine zQ 11 Tryz.func87 λC hP hN hB=>?_;have hX:KX [0,1,2,5]:=⟨trivial⟩
 refine zT2 ?_;refine aa λK2 k2=>am hP hN rfl ?_
 iterate 3 refine zS3 ?_
 refine zC9 (ak (qT a b)) ?_
 iterate 2 refine zS3 ?_
 refine ah (k2 _ (kx ?_));refine aA ?_;refine zZn ?_;rw[O2]
 all_goals rfl
section
open Go.RowKit
theorem Nw (x:Int)(w:World):Calls Tryz.prog 129 #[.int .i64 x] w λe w'=>e= .returned (.bool false)∧w'=w:=by
 go_enter Tryz.func129,Tryz.ntmps129
 go_wp2
 go_ret
 exact⟨η,rfl⟩
theorem Bm (x y:Int)(w:World):Calls Tryz.prog 83 #[.int .i64 x,.int .i64 y] w λe w'=>e= .returned (.int .i64 (gR x y))∧w'=w:=by
 go_enter Tryz.func83,Tryz.ntmps83
 go_wp2_with (go_at_call 129;refine(Nw _ _).mono ?_;rintro e w' ⟨rfl,hw⟩;rw[hw])
 all_goals(go_ret;refine⟨?_,rfl⟩;unfold gR;(repeat' split)<;>first|rfl|(exfalso;omega))
theorem yI (w:World)(o:Obj):(w.alloc o).heap[w.heap.size]? =some o:=Array.getElem?_push_size
def WCS (w:World)(A:Option Addr)(xs:List Int):Prop:=0<xs.length→∃ b o,A=some ⟨b,o,none⟩∧∀ j,j<xs.length→w.cell? ⟨b,o+j,none⟩=some (.int .i64 (xs.getD j 0))
theorem JO (A1 A2:Option Addr)(c d:Nat)(xs ys:List Int)(w:World)(hb1:xs.length≤9223372036854775807)(hb2:ys.length≤9223372036854775807)(hc1:WCS w A1 xs)(hc2:WCS w A2 ys):
 Calls Tryz.prog 84 #[.slice A1 xs.length c,.slice A2 ys.length d] w λe w'=>e= .returned (.int .i64 (dj xs ys))∧w'=w:=by
 generalize hn:xs.length=n at*
 generalize hm:ys.length=m at*
 go_enter Tryz.func84,Tryz.ntmps84
 go_wp2
 go_loopg [11] n (λg s11 wr=>∃ k:Nat,k≤n∧n-k≤g∧s11= .int .i64 k∧wr=w∧k≤m∧∀ j,j<k→xs.getD j 0=ys.getD j 0)
 case atStart=>exact⟨0,Nat.zero_le _,ω,rfl,rfl,Nat.zero_le _,λj hj=>absurd hj (Nat.not_lt_zero _)⟩
 case round=>
  obtain⟨k,hk,hg,rfl,rfl,hkm,heq⟩:=hrel
  by_cases hlt:k<n
  ·obtain⟨b1,o1,rfl,hd1⟩:=hc1 ω
   have g1:wr.cell? ⟨b1,o1+k,none⟩=some (.int .i64 (xs.getD k 0)):=hd1 k ω
   by_cases hlt2:k<m
   ·obtain⟨b2,o2,rfl,hd2⟩:=hc2 ω
    have g2:wr.cell? ⟨b2,o2+k,none⟩=some (.int .i64 (ys.getD k 0)):=hd2 k ω;have A:Aside (∀ j,j<k→xs.getD j 0=ys.getD j 0):=heq;have HN:Aside (xs.length=n∧ys.length=m):=⟨hn,hm⟩
    clear heq hc1 hc2 hd1 hd2 hn hm
    generalize hxk:xs.getD k 0=x at g1
    generalize hyk:ys.getD k 0=y at g2
    have B:Aside (xs.getD k 0=x∧ys.getD k 0=y):=⟨hxk,hyk⟩
    clear hxk hyk
    by_cases hxy:gR x y=0
    ·go_wp2_with (go_at_call 83;refine(Bm _ _ _).mono ?_;rintro e w' ⟨rfl,hw⟩;rw[hw])
     go_roundg (n-(k+1))
     case measure=>omega
     case rel=>
      refine⟨k+1,ω,ω,by go_num,rfl,ω,λj hj=>?_⟩
      by_cases e:j=k
      ·subst e
       rw[B.out.1,B.out.2];unfold gR at hxy;split at hxy
       ·cases hxy
       ·split at hxy
        ·cases hxy
        ·omega
      ·exact A.out j ω
    ·go_wp2_with (go_at_call 83;refine(Bm _ _ _).mono ?_;rintro e w' ⟨rfl,hw⟩;rw[hw])
     go_ret
     refine⟨?_,rfl⟩;have h1:=HN.out;rw[nz A.out ω ω (by rw[B.out.1,B.out.2];exact hxy),B.out.1,B.out.2]
     rfl
   ·clear hc2 hd1
    go_wp2
    go_ret
    refine⟨?_,rfl⟩;rw[kj (λq hq=>heq q ω) ω]
    rfl
  ·have:k=n:=by omega
   subst this;clear hc1 hc2
   go_wp2
   ·go_ret
    refine⟨?_,rfl⟩;rw[gh (λq hq=>heq q ω) ω,if_pos ω]
    rfl
   ·go_ret
    refine⟨?_,rfl⟩;rw[gh (λq hq=>heq q ω) ω,if_neg ω]
    rfl
theorem P7 (A1 A2:Option Addr)(c d:Nat)(xs ys:List Int)(w:World)(hb1:xs.length≤9223372036854775807)(hb2:ys.length≤9223372036854775807)(hc1:WCS w A1 xs)(hc2:WCS w A2 ys):
 Calls Tryz.prog 47 #[.slice A1 xs.length c,.slice A2 ys.length d] w λe w'=>e= .returned (.int .i64 (dj xs ys))∧w'=w:=by
 have h1:=JO A1 A2 c d xs ys w hb1 hb2 hc1 hc2;clear hc1 hc2
 go_enter Tryz.func47,Tryz.ntmps47
 go_wp2_with (go_at_call 84;refine h1.mono ?_;rintro e w' ⟨rfl,hw⟩;rw[hw])
 go_ret
 exact⟨rfl,rfl⟩
theorem Vh (b o c:Nat)(x y:Int)(w:World)(h1:w.cell? ⟨b,o,none⟩=some (.int .i64 x))(h2:w.cell? ⟨b,o+1,none⟩=some (.int .i64 y)):
 Calls Tryz.prog 82 #[.slice (some ⟨b,o,none⟩) 2 c] w λe w'=>e= .returned (.int .i64 (orI x y))∧w'=w:=by
 go_enter Tryz.func82,Tryz.ntmps82
 go_wp2
 go_loopg [8] 2 (λg s8 wr=>∃ k:Nat,k≤2∧2-k≤g∧s8= .int .i64 k∧wr=w∧(1≤k→x=0)∧(2≤k→y=0))
 case atStart=>exact⟨0,Nat.zero_le _,ω,rfl,rfl,λh=>absurd h ω,λh=>absurd h ω⟩
 case round=>
  obtain⟨k,hk,hg,rfl,rfl,hx,hy⟩:=hrel;have A:Aside ((1≤k→x=0)∧(2≤k→y=0)):=⟨hx,hy⟩
  clear hx hy
  by_cases hk0:k=0
  ·subst hk0
   by_cases hx0:x=0
   ·go_wp2
    go_roundg 1
    case measure=>omega
    case rel=>exact⟨1,ω,ω,by go_num,rfl,λ_=>hx0,λh=>absurd h ω⟩
   ·go_wp2
    go_ret
    refine⟨?_,rfl⟩;unfold orI;rw[if_pos hx0]
    rfl
  ·by_cases hk1:k=1
   ·subst hk1
    by_cases hy0:y=0
    ·go_wp2
     go_roundg 0
     case measure=>omega
     case rel=>exact⟨2,ω,ω,by go_num,rfl,λ_=>A.out.1 ω,λ_=>hy0⟩
    ·go_wp2
     go_ret
     refine⟨?_,rfl⟩;unfold orI;rw[if_neg (by rw[A.out.1 ω];simp)]
     rfl
   ·have:k=2:=by omega
    subst this
    go_wp2
    go_ret
    refine⟨?_,rfl⟩;unfold orI;rw[if_neg (by rw[A.out.1 ω];simp),A.out.2 ω]
    rfl
theorem U5 (A1 A2:Option Addr)(c d:Nat)(xs ys:List Int)(w:World)(hb1:xs.length≤9223372036854775807)(hb2:ys.length≤9223372036854775807)(hc1:WCS w A1 xs)(hc2:WCS w A2 ys):
 Calls Tryz.prog 45 #[.slice A1 xs.length c,.slice A2 ys.length d] w λe w'=>e= .returned (.int .i64 (cJ xs ys))∧∃ os,w'=Go.Sort.grow w os:=by
 have h1:=JO A1 A2 c d xs ys w hb1 hb2 hc1 hc2;clear hc1 hc2
 go_enter Tryz.func45,Tryz.ntmps45
 go_wp2_with (first
  |(go_at_call 83;refine(Bm _ _ _).mono ?_;rintro e w' ⟨rfl,hw⟩;rw[hw])
  |(go_at_call 84;refine h1.mono ?_;rintro e w' ⟨rfl,hw⟩;rw[hw])
  |(go_at_call 82;refine(Vh w.heap.size 0 2 (gR xs.length ys.length) (dj xs ys) _ ((ee (yI _ _) 0).trans rfl) ((ee (yI _ _) 1).trans rfl)).mono ?_;rintro e w' ⟨rfl,hw⟩;rw[hw]))
 go_ret
 exact⟨by rw[← IY];rfl,_,Go.Sort.alloc_eq_grow _ _⟩
end
section
open Go.RowKit Go.Sort Go.Proofs
structure ORDC (cf:List Int→List Int→Int):Prop where
 self:∀ a,cf a a=0
 zero:∀ a b,cf a b=0→a=b
 neg:∀ a b,cf b a= -cf a b
 trans:∀ a b c,cf a b<0→cf b c<0→cf a c<0
theorem Kr:ORDC cJ:=⟨mf,λ_ _=>mR,rF,λ_ _ _=>gA⟩
theorem zy:ORDC dj:=⟨λa=>by rw[ew,m5],λa b h=>by rw[ew] at h;exact lO h,λa b=>by rw[ew,ew,qH a b],λa b c h k=>by
 rw[ew] at h k⊢;have h1:=lF a b;have h2:=lF b c;have h3:=mj (a:=a) (b:=b) (c:=c) ω ω;omega⟩
theorem ORDC.swo {cf:List Int→List Int→Int}(h:ORDC cf):SWO (λx y=>decide (cf x y<0)) where
 irrefl x:=by simp[h.self]
 trans x y z h1 h2:=by simp only[decide_eq_true_eq] at*;exact h.trans x y z h1 h2
 ntrans x y z h1 h2:=by
  simp only[decide_eq_false_iff_not] at*;intro h3;have e:=h.neg x y
  by_cases h0:cf x y=0
  ·have:=h.zero x y h0;subst this;exact h2 h3
  ·exact h2 (h.trans y x z ω h3)
theorem ORDC.anti {cf:List Int→List Int→Int}(h:ORDC cf):∀ x y,decide (cf x y<0)=false→decide (cf y x<0)=false→x=y:=λx y h1 h2=>by
 simp only[decide_eq_false_iff_not] at*;have e:=h.neg x y;exact h.zero x y ω
section
variable {α:Type} [Inhabited α] {enc:α→Value}
theorem lG {w:World}{g:Nat}{cur:Array Value}{e:TypeId}{ss:List α}(hb:w.heap[g]? =some (.cells cur e (0,0)))(ht:cur.toList.take ss.length=ss.map enc):Holds enc w g 0 ss.toArray:=by
 intro j hj;have hj':j<ss.length:=by simpa using hj
 refine⟨?_,by simp[World.frozen?,hb]⟩;have h1:(cur.toList.take ss.length)[j]? =(ss.map enc)[j]?:=by rw[ht]
 rw[List.getElem?_take_of_lt hj'] at h1;simp only[World.cell?,hb,Nat.zero_add];simp only[Option.isSome_none,Bool.false_eq_true,if_false];rw[← Array.getElem?_toList,h1];simp[hj']
theorem pm {w:World}{g n:Nat}{os:Array Obj}{cur:Array Value}{e:TypeId}{fr:Nat×Nat}(d:Array α)(hb:w.heap[g]? =some (.cells cur e fr)):
 (grow (putRow enc (Sort.ahead w n) g 0 d) os).heap[g]? =some (.cells (putCells enc 0 d cur) e fr):=by
 have hg:g<w.heap.size:=(Array.getElem?_eq_some_iff.1 hb).1;rw[heap_grow_old _ _ (by simpa using hg)];simp[putRow,mapBlock,Sort.ahead,Array.getElem?_modify,hb,onCells]
theorem eM {w:World}{g n:Nat}{os:Array Obj}(d:Array α){k:Nat}(hk:k<w.heap.size)(hne:k≠g):(grow (putRow enc (Sort.ahead w n) g 0 d) os).heap[k]? =w.heap[k]?:=by
 rw[heap_grow_old _ _ (by simpa using hk)];simp[putRow,mapBlock,Sort.ahead,Array.getElem?_modify,Ne.symm hne]
theorem lS {w:World}{g n:Nat}{os:Array Obj}(d:Array α):w.grownBy (grow (putRow enc (Sort.ahead w n) g 0 d) os) (some g):=by
 refine⟨rfl,rfl,rfl,η,λk hk hne=>?_⟩;exact eM d hk (λe=>hne (by rw[e]))
theorem mY (cur:Array Value)(ts:List α)(h:ts.length≤cur.size):(putCells enc 0 ts.toArray cur).toList.take ts.length=ts.map enc:=by
 apply List.ext_getElem?;intro j
 by_cases hj:j<ts.length
 ·rw[List.getElem?_take_of_lt hj,Array.getElem?_toList]
  simp[putCells,hj,show j<cur.size by omega]
 ·rw[List.getElem?_take_eq_none ω,List.getElem?_eq_none (by simp;omega)]
theorem rL {w:World}{base g cap n:Nat}{e:TypeId}{os:Array Obj}{cur:Array Value}{m:Nat}{ts:List α}(hl:ts.length=m)(hbase:base≤g)(hb:w.heap[g]? =some (.cells cur e (0,0)))
 (h1:m≤cap) (h2:cap≤maxLen) (h3:cur.size=cap*1):
 (grow (putRow enc (Sort.ahead w n) g 0 ts.toArray) os).ownsRow base e 1 (.slice (some ⟨g,0,none⟩) m cap) m (ts.map enc):=
 ⟨by simp[hl],.inr ⟨g,cap,_,rfl,hbase,pm _ hb,h1,h2,by simp[putCells,h3],by rw[Nat.mul_one,← hl];exact mY cur ts ω⟩⟩
end
end
section
open Go.RowKit Go.Sort Go.Proofs
def OR (P:Program)(f:FuncId):Prop:=j5 P f∧∀ (α:Type) (_:Inhabited α) (enc:α→Value) (h1:OneCell enc) (cf:α→α→Int) (hO:SWO (ltOf cf)) (g:Nat) (blk off cap:Nat) (d:Array α) (w:World)
    (eg:∀ args w,(callFunc g args).run P w= .ok (.enter g args) w) (hcmp:CmpLays1 P g #[] enc cf blk off d.size w) (hH:Holds enc w blk off d) (hblk:blk<w.heap.size) (hsz:d.size<4611686018427387904),
    Calls P f #[.slice (some ⟨blk,off,none⟩) d.size cap,.func (.func g) #[] #[]] w λe w'=>
     e= .returned (.tuple #[])∧∃ d' n os,PermIn 0 d.size d d'∧SortedIn (ltOf cf) 0 d.size d'∧w'=sortWorld enc w blk off n d' os
theorem lY {av:Nat→Prop}{w w':World}{xs:List Int}{v:Value}(h:Dat av w Γ xs [v])(hb:∀ b,b<w.heap.size→¬av b→w'.heap[b]? =w.heap[b]?):
 ∃ A c,v= .slice A xs.length c∧xs.length≤maxLen∧WCS w' A xs:=by
 simp only[Dat] at h;obtain⟨A,c,e,h1,⟨h2,_⟩,h3⟩:=h;simp only[List.cons.injEq,and_true] at e;refine⟨A,c,e,ω,λh0=>?_⟩;obtain⟨b,o,eA,hav,hlt,hi⟩:=h3 h0;refine⟨b,o,eA,λj hj=>?_⟩;obtain⟨cs,q1,q2,q3⟩:=hi j hj;simp only[Ty.dflt] at q3;have q4:=q2 0 δ;rw[q3] at q4;rw[World.cell?_of_block (hb b hlt hav)]
 simpa [Ty.size] using q4
theorem tU {β:Type}(a:Array β){n:Nat}(h:a.size≤n):a.extract 0 n=a:=by
 apply Array.ext';rw[Array.toList_extract,List.extract_eq_take_drop,List.drop_zero];exact List.take_of_length_le (by simpa using h)
theorem tH {f g:FuncId}{cf:List Int→List Int→Int}(hs:OR Tryz.prog f)(ho:ORDC cf)(eg:∀ args w,(callFunc g args).run Tryz.prog w= .ok (.enter g args) w)
 (hcmp:∀ (A1 A2:Option Addr) (c d:Nat) (xs ys:List Int) (w:World),xs.length≤9223372036854775807→ys.length≤9223372036854775807→WCS w A1 xs→WCS w A2 ys→
   Calls Tryz.prog g #[.slice A1 xs.length c,.slice A2 ys.length d] w λe w'=>e= .returned (.int .i64 (cf xs ys))∧∃ os,w'=grow w os)
 {L0:List AO} {k ver:Nat} {e:TypeId} {xs:List (List Int)} (hL:L0[k]? =some (.row Γ e ver xs)) (h0:0<xs.length) (h1:xs.length<4611686018427387904):
 cS Tryz.prog L0 f [.one (.row k ver),.one (.fn g [])] {av:=.tup [],upd:=[(k,.row Γ e ver (dp cf xs))],fp:=[k]}:=by
 refine⟨hs.1,λC L σ w vs hP hi ha hfp hlen=>?_⟩;have hob:L[k]? =some (.row Γ e ver xs):=by rw[hfp k η];exact hL
 cases vs with
 |nil=>exact ha.elim
 |cons v vs=>
 cases vs with
 |nil=>exact ha.2.elim
 |cons v2 vs=>
 cases vs with
 |cons _ _=>exact ha.2.2.elim
 |nil=>
 obtain⟨hv,hv2,_⟩:=ha;obtain⟨ob,q1,q2,q3⟩:=hv.2;rw[hob] at q1;cases q1;obtain⟨_,hvs⟩:=q3 rfl rfl;obtain⟨vs2,hv2',hv2n⟩:=hv2.2;have:vs2=[]:=hv2n.none;subst this;obtain⟨flat,hown0,hp,hd⟩:=hi.ob k _ hob;have hfl:=hown0.1;have hsz:(Ty.list (.int IntKind.i64)).size=1:=rfl;rw[hsz] at hfl hd;rcases hown0.2 with⟨hh,hz⟩|⟨gb,cap,cur,hvg,hbase,hg,hn,hcap,hcs,htk⟩
 ·omega
 rw[hsz,Nat.mul_one] at htk;rw[hsz] at hcs;have hfl':flat.length=xs.length:=ω;have hD:∀ i,i<xs.length→Dat (avd C L σ) w Γ (xs.getD i []) [flat.getD i undef]:=λi hil=>by
  have h2:=hd i hil;rw[Nat.mul_one,List.drop_eq_getElem_cons ω] at h2;have e2:flat.getD i undef=flat[i]:=by simp[List.getD,show i<flat.length by omega]
  rw[e2];exact h2
 let α:={p:Value×List Int // Dat (avd C L σ) w Γ p.2 [p.1]}
 let enc:α→Value:=λp=>p.1.1
 let wd:α→List Int:=λp=>p.1.2
 let ps:List α:=List.ofFn λi:Fin xs.length=>(⟨(flat.getD i undef,xs.getD i []),hD i i.2⟩:α)
 have hpl:ps.length=xs.length:=by simp[ps]
 have hpe:ps.map enc=flat:=by
  refine List.ext_getElem (by simp[hpl,hfl']) λi h2 h3=>?_;simp[ps,enc,List.getD,h3]
 have hpw:ps.map wd=xs:=by
  refine List.ext_getElem (by simp[hpl]) λi h2 h3=>?_;simp[ps,wd,List.getD,h3]
 have hinh:Inhabited α:=⟨⟨(flat.getD 0 undef,xs.getD 0 []),hD 0 h0⟩⟩
 have hlt:gb<w.heap.size:=(Array.getElem?_eq_some_iff.1 hg).1;have hown:own L σ k gb:=⟨_,hob,rfl,by rw[hvg];rfl⟩
 let cf2:α→α→Int:=λp q=>cf (wd p) (wd q)
 have hO:SWO (ltOf cf2):=⟨λx=>ho.swo.irrefl (wd x),λx y z=>ho.swo.trans (wd x) (wd y) (wd z),λx y z=>ho.swo.ntrans (wd x) (wd y) (wd z)⟩
 have hC:CmpLays1 Tryz.prog g #[] enc cf2 gb 0 ps.toArray.size w:=by
  intro m os dk hdk x y;have hb:∀ b,b<w.heap.size→¬avd C L σ b→(sortWorld enc w gb 0 m dk os).heap[b]? =w.heap[b]?:=λb hb ha=>eM dk hb (λe=>ha (.inr ⟨k,by rw[e];exact hown⟩));obtain⟨A1,c1,e1,l1,w1⟩:=lY x.2 hb;obtain⟨A2,c2,e2,l2,w2⟩:=lY y.2 hb;have hm:maxLen≤9223372036854775807:=δ;have h3:=hcmp A1 A2 c1 c2 _ _ (sortWorld enc w gb 0 m dk os) ω ω w1 w2;have e3:(#[enc x,enc y]++ #[]:Array Value)= #[.slice A1 (wd x).length c1,.slice A2 (wd y).length c2]:=by
   show #[enc x,enc y]++ #[]=_;rw[Array.append_empty];show #[x.1.1,y.1.1]=_;rw[e1,e2]
  rw[e3];exact h3.mono λen w' ⟨h4,os',h5⟩=>⟨h4,0,os',h5⟩
 have hH:Holds enc w gb 0 ps.toArray:=lG hg (by rw[hpe,hpl,← hfl',← htk];simp[hfl']);have hcall:=hs.2 α hinh enc (λp=>(by
  obtain⟨A,c,e1,_⟩:=lY p.2 (λ_ _ _=>rfl);show _;have:enc p= .slice A p.1.2.length c:=e1;rw[this];rfl)) cf2 hO g gb 0 cap ps.toArray w eg hC hH hlt (by simpa [hpl] using h1)
 have hsz2:ps.toArray.size=xs.length:=by simp[hpl]
 rw[hsz2] at hcall;rw[hvs,hvg,hv2'];refine hcall.mono λen w' hh=>?_;obtain⟨e1,d',n,os,hperm,hsort,e2⟩:=hh;refine⟨.tuple #[],e1,?_⟩;subst e2;obtain⟨p1,p2,p3⟩:=hperm;have hd'l:d'.toList.length=xs.length:=by simp[p1,hsz2]
 have hws:d'.toList.map wd=dp cf xs:=by
  have hu:=sorted_unique_holds (lt:=λx y:List Int=>decide (cf x y<0)) ho.swo ho.anti (ps.toArray.map wd) (d'.map wd) ⟨by simp[p1],λi hi2=>by
   rcases hi2 with hi2|hi2
   ·omega
   ·have a1:¬i<(d'.map wd).size:=by simp[p1] at*;omega
    have a2:¬i<(ps.toArray.map wd).size:=by simp at*;omega
    rw[getElem!_neg (d'.map wd) i a1,getElem!_neg (ps.toArray.map wd) i a2],by
   have p4:=p3.map wd;have z1:d'.toList.length=xs.length:=hd'l;have z2:(d'.map wd).extract 0 (ps.toArray.map wd).size=d'.map wd:=tU _ (by simp[p1]);have z3:(ps.toArray.map wd).extract 0 (ps.toArray.map wd).size=ps.toArray.map wd:=tU _ (Υ _);have z4:d'.extract 0 xs.length=d':=tU _ (by rw[p1,hsz2];exact Υ _);have z5:ps.toArray.extract 0 xs.length=ps.toArray:=tU _ (by rw[hsz2];exact Υ _);rw[z4,z5] at p4;rw[z2,z3]
   simpa using p4⟩ (λi j h2 h3 h4=>by
   have h5:=hsort i j h2 h3 (by have h9:j<(ps.toArray.map wd).size:=h4;rw[Array.size_map,hsz2] at h9;rw[← hsz2] at h9;rwa[hsz2] at h9);have hj:j<d'.size:=by simp[p1,hsz2] at*;omega
   have hi3:i<d'.size:=ω;have a1:(d'.map wd)[j]! =wd d'[j]!:=by
    rw[getElem!_pos (d'.map wd) j (by simpa using hj),getElem!_pos d' j hj];simp
   have a2:(d'.map wd)[i]! =wd d'[i]!:=by
    rw[getElem!_pos (d'.map wd) i (by simpa using hi3),getElem!_pos d' i hi3];simp
   rw[a1,a2];exact h5)
  have e4:(ps.toArray.map wd).toList=xs:=by simp[hpw]
  rw[e4] at hu
  simpa [dp] using hu
 have hgb:=lS (enc:=enc) (w:=w) (g:=gb) (n:=n) (os:=os) d';obtain⟨g1,g2,g3,g4,g5⟩:=hgb;have hsl:(dp cf xs).length=xs.length:=List.length_mergeSort _;refine cI (σ':=σ) hi hob g4 g1 g2 g3 (λb hb hno=>g5 b hb (λe=>hno ((Option.some.inj e)▸hown))) (λ_ _=>rfl) ⟨Υ _,λ_ _=>⟨rfl,rfl,rfl,_,rfl⟩⟩
  (λ_ j hj=>.inl ⟨_,hob,rfl,hj⟩) (λhp hav=>?_) (λ_ _=>⟨[],rfl,trivial⟩)
 refine⟨d'.toList.map enc,?_,δ,λi hi2=>?_⟩
 ·rw[hvg,hsl]
  have:=rL (enc:=enc) (w:=w) (base:=0) (n:=n) (e:=e) (os:=os) (ts:=d'.toList) hd'l (Nat.zero_le _) hg hn hcap hcs;rw[Array.toArray_toList] at this;exact this
 ·have hi3:i<d'.toList.length:=by rw[hsl] at hi2;omega
  show Dat _ _ Γ _ (((List.map enc d'.toList).drop (i*1)).take 1);rw[Nat.mul_one,List.drop_eq_getElem_cons (by simpa using hi3)];have e5:(dp cf xs).getD i []=wd d'.toList[i]:=by
   rw[← hws];have hi4:i<d'.size:=by simpa using hi3
   simp[List.getD,hi4]
  show Dat _ _ Γ ((dp cf xs).getD i []) [_];rw[e5];have h6:=d'.toList[i].2;have h7:=Dat.keep (av':=avd C (L.set k (.row Γ e ver (dp cf xs))) σ) (w':=sortWorld enc w gb 0 n d' os) g4 (λb hb ha=>eM d' hb (λe=>ha (.inr ⟨k,by rw[e];exact hown⟩))) hav h6
  simpa [enc,wd] using h7
end
open Go.Shelf in
theorem laF {a:Option Go.Func}{b c:Go.Func}(h:a=some b)(k:b=c:=by kernel_rfl):a=some c:=h.trans (congrArg some k)
theorem laG {P:Go.Program}{f:Nat}{b B:Go.Func}(h:P.funcs[f]? =some b)(d:(b.name == "runtime.NumGoroutine")=false:=by decide)(e:b={B with name:=b.name}:=by kernel_rfl):Go.Proofs.Bears P f B:=⟨b.name,d,h.trans (congrArg some e)⟩
def Tryz.sortWw_ren:Go.Shelf.Ren:=⟨fun|6=>44|15=>81|14=>80|28=>127|29=>128|20=>119|21=>120|22=>121|23=>122|24=>123|25=>124|26=>125|27=>126|46=>153|47=>154|48=>155|49=>156|50=>157|57=>181|n=>n,fun|22=>22|24=>26|25=>76|3=>3|39=>127|0=>0|53=>186|55=>188|4=>4|46=>180|45=>179|50=>55|5=>5|9=>9|66=>222|70=>226|76=>253|77=>133|n=>n,fun|n=>n⟩
open Go.Proofs.Tryz in
theorem Tryz.sortWw:Go.Proofs.SlLaysF.n6 Tryz.prog Tryz.sortWw_ren:=⟨by kernel_rfl,laG func44,laG func80,laF func81,laG func119,laG func120,laG func121,laG func122,laG func123,laG func124,laG func125,laG func126,laF func127,laF func128,laG func153,laF func154,laF func155,laG func156,laG func157,laG func181,underlying0,isAgg0,sizeOf0,zeroValue0,underlying3,isAgg3,sizeOf3,zeroValue3,underlying4,isAgg4,sizeOf4,zeroValue4,underlying5,isAgg5,sizeOf5,zeroValue5,underlying9,isAgg9,sizeOf9,zeroValue9,underlying22,isAgg22,sizeOf22,zeroValue22,isAgg26,sizeOf26,underlying76,isAgg76,sizeOf76,zeroValue76,underlying127,isAgg127,sizeOf127,zeroValue127,underlying179,isAgg179,sizeOf179,zeroValue179,underlying180,isAgg180,sizeOf180,zeroValue180,underlying55,isAgg55,sizeOf55,zeroValue55,underlying186,isAgg186,sizeOf186,zeroValue186,underlying188,isAgg188,sizeOf188,zeroValue188,underlying222,isAgg222,sizeOf222,zeroValue222,underlying226,isAgg226,sizeOf226,zeroValue226,underlying253,isAgg253,sizeOf253,zeroValue253,underlying133,isAgg133,sizeOf133,zeroValue133⟩
theorem xl:OR Tryz.prog 44:=⟨⟨Tryz.f44,Tryz.func44,ζ,ζ⟩,λα hi enc h1 cf hO g blk off cap d w eg hcmp hH hblk hsz=>@Go.Proofs.Any.slices_SortFunc _ _ α hi Tryz.sortWw enc h1 cf hO g #[] blk off cap d w eg hcmp hH hblk hsz⟩
theorem G9 {L0:List AO}{k ver:Nat}{e:TypeId}{xs:List (List Int)}(hL:L0[k]? =some (.row Γ e ver xs))(h0:0<xs.length)(h1:xs.length<4611686018427387904):
 cS Tryz.prog L0 44 [.one (.row k ver),.one (.fn 45 [])] {av:=.tup [],upd:=[(k,.row Γ e ver (dp cJ xs))],fp:=[k]}:=
 tH xl Kr (enters_of Tryz.func45 ζ rfl) (λA1 A2 c d xs ys w hb1 hb2 hc1 hc2=>U5 A1 A2 c d xs ys w hb1 hb2 hc1 hc2) hL h0 h1
theorem Fr {L0:List AO}{k ver:Nat}{e:TypeId}{xs:List (List Int)}(hL:L0[k]? =some (.row Γ e ver xs))(h0:0<xs.length)(h1:xs.length<4611686018427387904):
 cS Tryz.prog L0 44 [.one (.row k ver),.one (.fn 47 [])] {av:=.tup [],upd:=[(k,.row Γ e ver (dp dj xs))],fp:=[k]}:=
 tH xl zy (enters_of Tryz.func47 ζ rfl) (λA1 A2 c d xs ys w hb1 hb2 hc1 hc2=>(P7 A1 A2 c d xs ys w hb1 hb2 hc1 hc2).mono λe w' h=>⟨h.1,#[],by rw[h.2];exact(Go.Sort.grow_empty _).symm⟩) hL h0 h1
theorem P0:aY Tryz.prog 128 [.one (.int .u64 0)] (.one (.int .i64 0)):=by
 refine zQ 25 Tryz.func128 λC hP hN hB=>?_;have hX:KX [0,2,4,8,14]:=⟨trivial⟩
 refine yn ?_;refine aa λ_ k2=>?_;refine yn ?_;refine cB (λhc4=>?_) (λhc4=>?_)
 ·exact zX hc4
 refine au (k2 _ (kx ?_));refine aa λ_ k5=>?_;refine yn ?_;refine cB (λhc7=>?_) (λhc7=>?_)
 ·exact zX hc7
 refine au (k5 _ (kx ?_));refine aa λ_ k8=>?_;refine yn ?_;refine cB (λhc10=>?_) (λhc10=>?_)
 ·exact zX hc10
 refine au (k8 _ (kx ?_));refine aa λK11 k11=>am hP hN rfl ?_
 iterate 2 refine tB ?_
 (refine aw rfl λ_ k0=>?_;simp only[zE,op1,ev,lkp,cR,bP,eJ,gV,bZ,cT,acs,gT,cZ,gk,gW,fH,iz,reduceCtorEq,ad,J,ae,aj,af,ag,Tryz.td188,Tryz.td3,Tryz.td5,Tryz.td9];(repeat refine And.intro (by first|omega|assumption|exact rfl|exact⟨δ,δ⟩|decide) ?_);(try refine .inl ?_);apply k0;clear k0;simp only[zP,J])
 refine tB ?_
 (refine aw rfl λ_ k0=>?_;simp only[zE,op1,ev,lkp,cR,bP,eJ,gV,bZ,cT,acs,gT,cZ,gk,gW,fH,iz,reduceCtorEq,ad,J,ae,aj,af,ag,Tryz.td188,Tryz.td3,Tryz.td5,Tryz.td9];(repeat refine And.intro (by first|omega|assumption|exact rfl|exact⟨δ,δ⟩|decide) ?_);(try refine .inl ?_);apply k0;clear k0;simp only[zP,J])
 iterate 2 refine tB ?_
 refine ah (k11 _ (kx ?_));refine aA ?_;refine zZn ?_
 rfl
theorem LO:aY Tryz.prog 81 [.one (.int .u64 0)] (.one (.int .i64 0)):=by
 refine zQ 8 Tryz.func81 λC hP hN hB=>?_;have hX:KX [0,2]:=⟨trivial⟩
 refine yn ?_;refine aa λ_ k2=>?_;refine cB (λhc3=>?_) (λhc3=>?_)
 ·exact zX hc3
 refine au (k2 _ (kx ?_));refine aa λK4 k4=>am hP hN rfl ?_;refine tB ?_;refine zC9 (ak P0) ?_;refine tB ?_;refine ah (k4 _ (kx ?_));refine aA ?_;refine zZn ?_
 rfl
theorem QC (g:Nat):aY Tryz.prog 119 [.one (.list Γ []),.one (.int .i64 0),.one (.int .i64 0),.one (.fn g [])] (.tup []):=by
 refine zQ 53 Tryz.func119 λC hP hN hB=>?_;have hX:KX [0,1,2,3,8,14]:=⟨trivial⟩
 refine zT2 ?_;refine ay ?_;refine aM (λn2 s2=>n2=1∧s2={env:=[(0,.one (.list Γ [])),(1,.one (.int .i64 0)),(2,.one (.int .i64 0)),(3,.one (.fn g [])),(8,.one (.int .i64 1))],L:=[]}) ?_ ?_
 ·exact⟨_,_,ar [0,1,2,3,8],rfl,rfl⟩
 rintro n2 s2 ⟨rfl,rfl⟩;refine aa λ_ k3=>?_;refine zT2 ?_;refine cB (λhc5=>?_) (λhc5=>?_)
 ·exact zX hc5
 refine aL ?_;refine zZn ?_
 rfl
theorem SC (g:Nat):aY Tryz.prog 80 [.one (.list Γ []),.one (.int .i64 0),.one (.int .i64 0),.one (.int .i64 0),.one (.fn g [])] (.tup []):=by
 refine zQ 148 Tryz.func80 λC hP hN hB=>?_;have hX:KX [0,1,2,3,4,10,11,12,25]:=⟨trivial⟩
 refine zT2 ?_;refine zT2 ?_;refine ay ?_;refine aM (λn3 s3=>n3=1∧s3={env:=[(0,.one (.list Γ [])),(1,.one (.int .i64 0)),(2,.one (.int .i64 0)),(3,.one (.int .i64 0)),(4,.one (.fn g [])),(10,.one (.bool true)),(11,.one (.bool true))],L:=[]}) ?_ ?_
 ·exact⟨_,_,ar [0,1,2,3,4,10,11],rfl,rfl⟩
 rintro n3 s3 ⟨rfl,rfl⟩;refine ay ?_;refine zT2 ?_;refine aa λ_ k5=>?_;refine zT2 ?_;refine cB (λhc7=>?_) (λhc7=>?_)
 ·refine aa λK8 k8=>am hP hN rfl ?_
  iterate 4 refine zS3 ?_
  refine zC9 (ak (QC g)) ?_;refine ah (k8 _ (kx ?_));refine aA ?_;refine zZn ?_
  rfl
 ·exact zX hc7
theorem wT (g:Nat):aY Tryz.prog 44 [.one (.list Γ []),.one (.fn g [])] (.tup []):=by
 refine zQ 14 Tryz.func44 λC hP hN hB=>?_;have hX:KX [0,1,4]:=⟨trivial⟩
 refine yn ?_;refine am hP hN rfl ?_
 iterate 3 refine tB ?_
 (refine aw rfl λ_ k0=>?_;simp only[zE,op1,ev,lkp,cR,bP,eJ,reduceCtorEq,ad,J,ae,aj,af,ag,Tryz.el22,Tryz.td127,Tryz.td22,Tryz.td3];(repeat refine And.intro (by first|omega|assumption|exact rfl|exact⟨δ,δ⟩|decide) ?_);(try refine .inl ?_);apply k0;clear k0;simp only[zP,J])
 refine zC9 (ak LO) ?_;refine tB ?_;refine zC9 (ak (SC g)) ?_;refine ah ?_;refine zZn ?_
 rfl
theorem D5 {L0:List AO}{k ver:Nat}{e:TypeId}{xs:List (List Int)}(hL:L0[k]? =some (.row Γ e ver xs))(h1:xs.length<4611686018427387904):
 cS Tryz.prog L0 44 [.one (.row k ver),.one (.fn 45 [])] {av:=.tup [],upd:=[(k,.row Γ e ver (dp cJ xs))],fp:=[k]}:=by
 rcases Nat.eq_zero_or_pos xs.length with h0|h0
 ·have:xs=[]:=List.eq_nil_of_length_eq_zero h0
  subst this;refine wR (fp:=[k]) ?_ (by rw[hL];simp[dp]) η;exact jv (args:=[.one (.row k ver),.one (.fn 45 [])]) (by simp[fzV,fz1,fzC,hL]) rfl (wT 45) rfl
 ·exact G9 hL h0 h1
theorem O3 {L0:List AO}{k ver:Nat}{e:TypeId}{xs:List (List Int)}(hL:L0[k]? =some (.row Γ e ver xs))(h1:xs.length<4611686018427387904):
 cS Tryz.prog L0 44 [.one (.row k ver),.one (.fn 47 [])] {av:=.tup [],upd:=[(k,.row Γ e ver (dp dj xs))],fp:=[k]}:=by
 rcases Nat.eq_zero_or_pos xs.length with h0|h0
 ·have:xs=[]:=List.eq_nil_of_length_eq_zero h0
  subst this;refine wR (fp:=[k]) ?_ (by rw[hL];simp[dp]) η;exact jv (args:=[.one (.row k ver),.one (.fn 47 [])]) (by simp[fzV,fz1,fzC,hL]) rfl (wT 47) rfl
 ·exact Fr hL h0 h1
theorem Pe (ws:List (List Int))(h1:ws.length≤1000000)(h2:∀ w,w∈ws→w.length≤1000000):aY Tryz.prog 46 [.one (.list Γ ws),.one (.fn 47 [])] (.one (.list Γ (fG ws))):=by
 refine zQ 30 Tryz.func46 λC hP hN hB=>?_;have hX:KX [0,1,3,4,5,6,7,16,17,18,19]:=⟨trivial⟩
 have hsl:=j9 dj ws;have hdl:=o9 (dp dj ws);refine zT2 ?_;refine aa λ_ k2=>?_;refine uj 0 47 [] rfl ?_;simp only[aJ,aV,shF,if_true,zS,if_false,eq_self,ad,reduceCtorEq,Nat.one_ne_zero,Nat.zero_ne_one];refine dO (n:=0) (L1:=[]) rfl rfl (by rw[hB];decide) rfl rfl ?_;refine am hP hN rfl ?_;refine zS3 ?_;refine zC9 (gy (x4 ws ω)) ?_;refine zS3 ?_;refine ah (k2 _ (kx ?_));refine aa λK3 k3=>am hP hN rfl ?_
 iterate 2 refine zS3 ?_
 refine zC9 (O3 (k:=0) (ver:=0) (xs:=ws) rfl ω) ?_;refine ah (k3 _ (kx ?_));refine aa λK4 k4=>am hP hN rfl ?_;refine zS3 ?_
 (refine aw rfl λ_ k0=>?_;simp only[zE,op1,ev,lkp,cR,bP,fv,iJ,nD,reduceCtorEq,ad,J,ae,aj,af,ag,Tryz.el22,Tryz.td22,Tryz.td78];(repeat refine an ?_);(try refine .inl ?_);apply k0;clear k0;simp only[zP,J])
 refine zC9 (HY 87 [.pfn 47 []] 0 (dp dj ws) ω rfl (λi j _ _=>NL _ _)) ?_;refine zS3 ?_;refine ah (k4 _ (kx ?_));refine aa λ_ k5=>?_;refine zT2 ?_;refine ay ?_;refine aM (λn7 s7=>∃ (k:Nat),(k≤(dg (dp dj ws)).length)∧n7=(dg (dp dj ws)).length-k∧s7={env:=[(4,.one .nils),(5,.one (.row 0 1)),(16,.one (.row 0 1)),(17,.one (.int .i64 ((dg (dp dj ws)).length:Int))),(18,.one (.int .i64 (k:Int)))],L:=[.row Γ 26 1 (dg (dp dj ws))]}) ?_ ?_
 ·exact⟨_,_,ar [4,5,16,17,18],0,Nat.zero_le _,rfl,rfl⟩
 rintro n7 s7 ⟨k,hk,rfl,rfl⟩;refine zT2 ?_;refine aa λ_ k9=>?_;refine cB (λhc10=>?_) (λhc10=>?_)
 ·refine au ?_
  refine k9 _ (kx ?_);refine aa λ_ k11=>?_;refine ay ?_;refine JE ?_;have hwl:=h2 _ (gP.1 (lI (dp dj ws) _ (dn (show k<(dg (dp dj ws)).length by omega))));refine am hP hN rfl ?_
  iterate 3 refine Jg ?_
  refine aw rfl λ_ k0=>?_;refine bo (h:=ak (fz ((dg (dp dj ws)).getD k []) ω)) rfl rfl (by first|exact rfl|(simp only[ev,zP,ad,J];exact rfl)) (by simp only[zV,acs,reduceCtorEq,ad,J,ae,aj,af,ag,az,Ty.dflt]) ?_;apply k0;clear k0;simp only[zP,J]
  iterate 2 refine Jg ?_
  refine ah (k11 _ (kx ?_));refine zR2 (h:=?_);refine⟨_,_,?_,ar [4,5,16,17,18],k+1,ω,rfl,?_⟩
  ·omega
  ·rw[yV ω];rfl
 refine aL ?_;refine k5 _ (kx ?_);refine aa λ_ k13=>?_;refine cA 0 rfl ?_;simp only[aJ,aV,zS,ad,ZW,reduceCtorEq];refine zR2 (h:=k13 _ (kx ?_));refine aA ?_;refine zZn ?_
 rfl
theorem Mt (a b:List Int):aY Tryz.prog 87 [.one (.list Θ a),.one (.list Θ b),.one (.pfn 45 [])] (.one (.bool (decide (a=b)))):=by
 refine zQ 11 Tryz.func87 λC hP hN hB=>?_;have hX:KX [0,1,2,5]:=⟨trivial⟩
 refine zT2 ?_;refine aa λK2 k2=>am hP hN rfl ?_
 iterate 3 refine zS3 ?_
 refine zC9 (ak (zN a b)) ?_
 iterate 2 refine zS3 ?_
 refine ah (k2 _ (kx ?_));refine aA ?_;refine zZn ?_;rw[Mw]
 all_goals rfl
end Go.Proofs.YtiedpcchhicifaaGreatDoor
