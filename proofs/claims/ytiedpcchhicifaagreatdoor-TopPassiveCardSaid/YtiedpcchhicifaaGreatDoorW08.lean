/- Part of the proof. -/
import Derived.Test.YtiedpcchhicifaaGreatDoorW07
set_option linter.unusedSimpArgs false
set_option linter.unusedVariables false
set_option maxRecDepth 100000
set_option maxHeartbeats 4000000
open Nat renaming le_refl→Υ
namespace Go.Proofs.YtiedpcchhicifaaGreatDoor
open Go Go.AV
open Nat renaming reduceEqDiff→ad,reduceAdd→J,reduceLeDiff→ae,reduceLT→aj,reduceMul→af,reduceSub→ag
open List renaming set_cons_zero→bu,set_cons_succ→bV,getD_cons_zero→aI,length_append→aq,map_cons→aJ,cons_append→aG,map_nil→aV,length_cons→ax,nil_append→aC,take_succ_cons→cE,length_nil→aF,length_map→aE,length_replicate→aB,take_length→aP,mem_cons_self→ba,mem_cons_of_mem→aQ
open Int renaming toNat_natCast→az
theorem PM (inp:Int)(T:List TRC)(hT:TRV inp T)(hl:T.length≤10000)(hwl:∀ k,k<T.length→(T.getD k aT).1.length≤1000000)(hv:aY Tryz.prog 55 [.agg [.int .i64 inp,.list Ξ T]] (.one (.int .i64 0))):aY Tryz.prog 26 [.agg [.int .i64 inp,.list Ξ T]] (.tup [(dD inp T).av,.one (.int .i64 (dY inp T))]):=by
 refine zQ 105 Tryz.func26 λC hP hN hB=>?_;have hX:KX [0,1,2,3,4,5,6,8,9,10,11,12,17,29,30,31,32,36,37,38,39,50,53]:=⟨trivial⟩
 have hi1:=hT.i1;have hi2:=hT.i2;refine zT5 ?_;refine aa λ_ k2=>?_;refine aa λK3 k3=>am hP hN rfl ?_;refine zS6 ?_;refine zC8 (ak hv) ?_;refine zS6 ?_;refine ah (k3 _ (kx ?_));refine zT5 ?_;refine cB (λhc5=>?_) (λhc5=>?_)
 ·exact zX hc5
 refine au (k2 _ (kx ?_));refine aa λ_ k6=>?_;refine du ?_;simp only[aG,List.append_assoc,aC];refine du ?_;simp only[aG,List.append_assoc,aC];refine du ?_;simp only[aG,List.append_assoc,aC];refine du ?_;simp only[aG,List.append_assoc,aC];refine du ?_;simp only[aG,List.append_assoc,aC];refine du ?_;simp only[aG,List.append_assoc,aC];refine bz hP hN Tryz.mixed rfl ?_
 iterate 2 refine zS6 ?_
 refine zC8 (fh (k:=6) rfl (ll inp ω ω)) ?_;refine d4 (λC9 hC9=>.inl ⟨rfl,dy (t:=.list (.int .i64)) (k:=3) (v9:=0) rfl rfl (by rw[hC9];exact Tryz.td22) rfl (by rw[hC9];exact Tryz.td26) rfl rfl δ δ rfl⟩) ?_;simp only[zP,J]
 iterate 2 refine zS6 ?_
 refine zC8 (fh (k:=7) rfl (ll inp ω ω)) ?_;refine d4 (λC9 hC9=>.inl ⟨rfl,dy (t:=.list (.int .i64)) (k:=4) (v9:=0) rfl rfl (by rw[hC9];exact Tryz.td22) rfl (by rw[hC9];exact Tryz.td26) rfl rfl δ δ rfl⟩) ?_;simp only[zP,J]
 iterate 2 refine zS6 ?_
 refine ah ?_;refine⟨ζ,?_⟩;refine k6 _ (kx ?_);refine aa λ_ k7=>?_;refine zT5 ?_;refine ay ?_;refine aM (λn9 s9=>∃ (i:Nat) (q:TST),(i≤T.length)∧(trR inp.toNat T i=some q)∧n9=T.length-i∧s9={env:=[(1,.one (.ptr 0 0 0 0)),(2,.one (.ptr 1 0 0 0)),(3,.one (.int .i64 0)),(5,.one (.rwc 3 q.nx.length)),(6,.one (.rwc 4 q.nx.length)),(29,.one (.list Ξ T)),(30,.one (.int .i64 (T.length:Int))),(31,.one (.int .i64 (i:Int)))],L:=.vars 34 [.int .i64 inp,.list Ξ T]:: .vars 38 [.int .i64 0,.int .i64 0,.nils,.nils]:: .dead (q.nx.length-1):: .rowc 26 1 q.nx.length (frN 1 q.nx.length):: .rowc 26 1 q.nx.length (frQ 1 q.nx.length):: .dead (q.nx.length-1)::frX 3 1 q.nx q.ot []}) ?_ ?_
 ·exact⟨_,_,ar [1,2,3,5,6,29,30,31],0,⟨[unk inp.toNat],[unk inp.toNat],0⟩,Nat.zero_le _,rfl,rfl,rfl⟩
 rintro n9 s9 ⟨i,q,hi0,hq0,rfl,rfl⟩;refine zT5 ?_;refine aa λ_ k11=>?_;refine cB (λhc12=>?_) (λhc12=>?_)
 ·refine au ?_
  refine k11 _ (kx ?_);refine aa λ_ k13=>?_;refine ay ?_;refine aa λ_ k14=>?_;have hqw:=hT.all i hi0 hq0;have hqo:=hqw.ol;have g7a:(frX 3 1 q.nx q.ot []).length=2*q.nx.length:=ny hqo;have g7b:∀ x:AO,(frX 3 1 q.nx q.ot [x])[(2*q.nx.length)]? =some x:=λx=>fR hqo rfl 0;have g7c:∀ x y:AO,(frX 3 1 q.nx q.ot [x]).set (2*q.nx.length) y=frX 3 1 q.nx q.ot [y]:=λx y=>iI hqo rfl 0 y;refine am hP hN rfl ?_
  iterate 4 (refine aw rfl λ_ k0=>?_;simp only[zO,zT,acs,reduceCtorEq,ad,J,ae,aj,af,ag,Mly.av,ax,g7a,g7b,gt,az];(repeat refine an ?_);(try refine .inl ?_);apply k0;clear k0;simp only[zP,J,aG,iN,aC,g7c])
  refine ah (k14 _ (kx ?_));refine aa λ_ k15=>?_;have z0:(0=(2*q.nx.length+1+1+1+1+1+1))=False:=η;have z1:(1=(2*q.nx.length+1+1+1+1+1+1))=False:=η;refine gJ (2*q.nx.length+1+1+1+1+1+1) Ξ (g7b _) rfl ?_;simp only[aJ,aV,shV,z0,z1,if_true,zS,if_false,eq_self,ad,reduceCtorEq,Nat.one_ne_zero,Nat.zero_ne_one,g7c];refine dO (ver:=0) (n:=2*q.nx.length+6) (L1:=.vars 34 [.int .i64 inp,.list Ξ T]:: .vars 38 [.int .i64 0,.int .i64 0,.nils,.nils]:: .dead (q.nx.length-1):: .rowc 26 1 q.nx.length (frN 1 q.nx.length):: .rowc 26 1 q.nx.length (frQ 1 q.nx.length):: .dead (q.nx.length-1)::frX 3 1 q.nx q.ot []) (by simp[frX]) (by simp only[ax,g7a]) (by rw[hB];exact Nat.zero_le _) (by simp only[List.all_cons,List.all_nil,fQ,mu,bY,Bool.and_true,Bool.and_eq_true,decide_eq_true_eq,Bool.true_and];omega) (Oo rfl rfl (Υ _) rfl) ?_;refine zR5 (h:=k15 _ (kx ?_));refine zT5 ?_;refine ay ?_;refine aM (λn17 s17=>∃ (j:Nat) (q2:TST),(j≤(T.getD i aT).1.length)∧(trT inp.toNat (T.getD i aT) q j=some q2)∧n17=(T.getD i aT).1.length-j∧s17={env:=[(1,.one (.ptr 0 0 0 0)),(2,.one (.ptr 1 0 0 0)),(3,.one (.int .i64 0)),(5,.one (.rwc 3 q2.nx.length)),(6,.one (.rwc 4 q2.nx.length)),(8,.one (.pat Ξ ((T.getD i aT).1,((T.getD i aT).2.1,())) 0)),(9,.one (.int .i64 (q2.s:Int))),(29,.one (.list Ξ T)),(30,.one (.int .i64 (T.length:Int))),(31,.one (.int .i64 (i:Int))),(36,.one (.list Θ (T.getD i aT).1)),(37,.one (.int .i64 ((T.getD i aT).1.length:Int))),(38,.one (.int .i64 (j:Int)))],L:=.vars 34 [.int .i64 inp,.list Ξ T]:: .vars 38 [.int .i64 0,.int .i64 0,.nils,.nils]:: .dead (q2.nx.length-1):: .rowc 26 1 q2.nx.length (frN 1 q2.nx.length):: .rowc 26 1 q2.nx.length (frQ 1 q2.nx.length):: .dead (q2.nx.length-1)::frX 3 1 q2.nx q2.ot []}) ?_ ?_
  ·exact⟨_,_,ar [1,2,3,5,6,8,9,29,30,31,36,37,38],0,{q with s:=0},Nat.zero_le _,rfl,rfl,rfl⟩
  rintro n17 s17 ⟨j,q2,hj0,hqt,rfl,rfl⟩;refine zT5 ?_;refine aa λ_ k19=>?_;refine cB (λhc20=>?_) (λhc20=>?_)
  ·refine au ?_
   refine k19 _ (kx ?_);refine aa λ_ k21=>?_;refine ay ?_;refine lA ?_;refine aa λ_ k23=>?_;refine aa λ_ k24=>?_;have hw9:=hwl i ω;have hq2:=hT.tr (by omega:i<T.length) hqw j ω hqt;have hsl:=hq2.sl;have h2o:=hq2.ol;have hn1:=hq2.n1;have hn2:=hq2.n2;have hrs:=hq2.rl q2.s hsl;have hqs:=hq2.ql q2.s hsl;have hsy:=hT.sy i ω j ω;have hol:=hT.ol i ω;have hnr: -1≤foE q2.nx q2.s ((T.getD i aT).1.getD j 0).toNat∧foE q2.nx q2.s ((T.getD i aT).1.getD j 0).toNat<q2.nx.length:=hq2.nr q2.s ((T.getD i aT).1.getD j 0).toNat hsl ω;have k1:∀ XX:List AO,(frX 3 1 q2.nx q2.ot XX)[2*q2.s]? =some (.row Θ 3 1 (q2.nx.getD q2.s [])):=λXX=>qa h2o hsl;have k3:∀ XX:List AO,(frX 3 1 q2.nx q2.ot XX)[2*q2.s+1]? =some (.row Θ 3 1 (q2.ot.getD q2.s [])):=λXX=>w8 h2o hsl;have gN:(frN 1 q2.nx.length).getD q2.s .junk= .row (2*q2.s+1+1+1+1+1+1) 1:=nX hsl;have gO:(frQ 1 q2.nx.length).getD q2.s .junk= .row (2*q2.s+1+1+1+1+1+1+1) 1:=vx hsl;have glN:=lD 1 q2.nx.length;have glO:=qB 1 q2.nx.length;refine HC (And.intro k1 (And.intro gN glN)) (h:=k24 _ (kx ?_));refine cB (λhc25=>?_) (λhc25=>?_)
   ·have hun:foE q2.nx q2.s ((T.getD i aT).1.getD j 0).toNat= -1:=hc25
    refine aa λ_ k26=>?_;refine aa λK27 k27=>am hP hN rfl ?_
    iterate 3 (refine aw rfl λ_ k0=>?_;simp only[zO,zT,acs,reduceCtorEq,ad,J,ae,aj,af,ag,Mly.av,glN,Nat.div_one];(repeat refine an ?_);(try refine .inl ?_);apply k0;clear k0;simp only[zP,J])
    refine ah (k27 _ (kx ?_));refine cB (λhc28=>?_) (λhc28=>?_)
    ·have hlim:q2.nx.length=4096:=by have hq:=hc28;omega
     refine zT5 ?_;refine aA ?_;refine⟨nr,_,rfl,?_⟩;simp only[zF,zP,ad,J,Mly.av]
     first
     |(have hTO:lj inp T=some q:=hq0
       unfold dD dY;rw[hTO];exact VLE.of_eq rfl)
     |(have hTO:lj inp T=none:=by
        have e1:=(ji hqt).trans (DI hun hlim);have e2:=oo hq0;rw[rr e1 _ ω] at e2;exact sV e2 _ ω
       unfold dD dY;rw[hTO];exact bl ⟨dt ⟨.refl _,.refl _,aS rfl,aS rfl,trivial⟩,aD (.refl _),trivial⟩)
    have hlim:¬q2.nx.length=4096:=by have hq:=hc28;omega
    refine au (k26 _ (kx ?_));refine aa λ_ k30=>?_;have k5:∀ XX:List AO,(frX 3 1 q2.nx q2.ot XX).set (2*q2.s) (.row Θ 3 1 ((q2.nx.getD q2.s []).set ((T.getD i aT).1.getD j 0).toNat (q2.nx.length:Int)))=frX 3 1 (foS q2.nx q2.s ((T.getD i aT).1.getD j 0).toNat (q2.nx.length:Int)) q2.ot XX:=λXX=>AY h2o hsl;have k6:∀ XX:List AO,(frX 3 1 (foS q2.nx q2.s ((T.getD i aT).1.getD j 0).toNat (q2.nx.length:Int)) q2.ot XX)[2*q2.s+1]? =some (.row Θ 3 1 (q2.ot.getD q2.s [])):=λXX=>w8 (by rw[cM];exact h2o) (by rw[cM];exact hsl);have k7:∀ XX:List AO,(frX 3 1 (foS q2.nx q2.s ((T.getD i aT).1.getD j 0).toNat (q2.nx.length:Int)) q2.ot XX).set (2*q2.s+1) (.row Θ 3 1 ((q2.ot.getD q2.s []).set ((T.getD i aT).1.getD j 0).toNat ((T.getD i aT).2.1.getD j 0)))=frX 3 1 (foS q2.nx q2.s ((T.getD i aT).1.getD j 0).toNat (q2.nx.length:Int)) (foS q2.ot q2.s ((T.getD i aT).1.getD j 0).toNat ((T.getD i aT).2.1.getD j 0)) XX:=λXX=>Ib (by rw[cM];exact h2o) (by rw[cM];exact hsl);refine bz hP hN Tryz.mixed rfl ?_
    iterate 21 (refine aw rfl λ_ k0=>?_;simp only[zO,zT,acs,reduceCtorEq,ad,J,ae,aj,af,ag,Mly.av,k1,k3,k6,gN,gO,glN,glO,Nat.div_one,gt,az,Nat.mul_one,Nat.add_zero];(repeat refine an ?_);(try refine .inl ?_);apply k0;clear k0;simp only[zP,J,k5,k7])
    refine ah ?_;refine⟨by exact j7 (nS (a:=2*q2.s+6) (b:=2*q2.s+7) (c:=2*q2.s+8) ω ω ω ω ω ω) [([],[],0),([],[],0),([],[3],0),([],[3],0),([],[],0),([],[],0),([],[],0),([],[4],0),([],[4],0),([],[],0),([],[],0),([],[3],0),([],[],0),([],[],0),([],[],0),([],[],0),([],[],0),([],[6],0),([6],[6],0),([],[7],0),([7],[7],0)] ζ,?_⟩;refine k30 _ (kx ?_);refine du ?_;simp only[aG,List.append_assoc,aC];refine du ?_;simp only[aG,List.append_assoc,aC];simp only[iN,aC,aG];have h3o:(foS q2.ot q2.s ((T.getD i aT).1.getD j 0).toNat ((T.getD i aT).2.1.getD j 0)).length=(foS q2.nx q2.s ((T.getD i aT).1.getD j 0).toNat (q2.nx.length:Int)).length:=by rw[cM,cM];exact h2o
    have h3n:(foS q2.nx q2.s ((T.getD i aT).1.getD j 0).toNat (q2.nx.length:Int)).length=q2.nx.length:=cM _ _ _ _;have h16a:(frX 3 1 (foS q2.nx q2.s ((T.getD i aT).1.getD j 0).toNat (q2.nx.length:Int)) (foS q2.ot q2.s ((T.getD i aT).1.getD j 0).toNat ((T.getD i aT).2.1.getD j 0)) [.dead 0,.dead 0])[(2*q2.nx.length)]? =some (.dead 0):=fR h3o h3n 0;have h16c:(frX 3 1 (foS q2.nx q2.s ((T.getD i aT).1.getD j 0).toNat (q2.nx.length:Int)) (foS q2.ot q2.s ((T.getD i aT).1.getD j 0).toNat ((T.getD i aT).2.1.getD j 0)) [.dead 0,.dead 0]).set (2*q2.nx.length) (.row Θ 3 1 (unk inp.toNat))=frX 3 1 (foS q2.nx q2.s ((T.getD i aT).1.getD j 0).toNat (q2.nx.length:Int)) (foS q2.ot q2.s ((T.getD i aT).1.getD j 0).toNat ((T.getD i aT).2.1.getD j 0)) [.row Θ 3 1 (unk inp.toNat),.dead 0]:=iI h3o h3n 0 _;have h16b:(frX 3 1 (foS q2.nx q2.s ((T.getD i aT).1.getD j 0).toNat (q2.nx.length:Int)) (foS q2.ot q2.s ((T.getD i aT).1.getD j 0).toNat ((T.getD i aT).2.1.getD j 0)) [.row Θ 3 1 (unk inp.toNat),.dead 0])[(2*q2.nx.length+1)]? =some (.dead 0):=fR h3o h3n 1;have h16d:(frX 3 1 (foS q2.nx q2.s ((T.getD i aT).1.getD j 0).toNat (q2.nx.length:Int)) (foS q2.ot q2.s ((T.getD i aT).1.getD j 0).toNat ((T.getD i aT).2.1.getD j 0)) [.row Θ 3 1 (unk inp.toNat),.dead 0]).set (2*q2.nx.length+1) (.row Θ 3 1 (unk inp.toNat))=frX 3 1 (foS q2.nx q2.s ((T.getD i aT).1.getD j 0).toNat (q2.nx.length:Int)) (foS q2.ot q2.s ((T.getD i aT).1.getD j 0).toNat ((T.getD i aT).2.1.getD j 0)) [.row Θ 3 1 (unk inp.toNat),.row Θ 3 1 (unk inp.toNat)]:=iI h3o h3n 1 _;have h16e:=(zW 1 q2.nx.length).symm;have h16f:=(yz 1 q2.nx.length).symm;refine bz hP hN Tryz.mixed rfl ?_
    iterate 3 (refine aw rfl λ_ k0=>?_;simp only[zO,zT,acs,reduceCtorEq,ad,J,ae,aj,af,ag,Mly.av,h16a,h16b];(repeat refine an ?_);(try refine .inl ?_);apply k0;clear k0;simp only[zP,J,h16c,h16d,h16e,h16f])
    refine aw rfl λ_ k0=>?_;refine bo (h:=fh (k:=(2*q2.nx.length+1+1+1+1+1+1)) h16a (ll inp ω ω)) rfl rfl (by first|exact rfl|(simp only[ev,zP,ad,J];exact rfl)) (by simp only[zV,acs,reduceCtorEq,ad,J,ae,aj,af,ag,Mly.av,h16a,h16b]) ?_;apply k0;clear k0;simp only[zP,J,h16c,h16d,h16e,h16f];refine d4 (λC9 hC9=>.inl ⟨rfl,dy (t:=.list (.int .i64)) (k:=5) (v9:=q2.nx.length-1) rfl rfl (by rw[hC9];exact Tryz.td22) rfl (by rw[hC9];exact Tryz.td26) rfl rfl δ δ rfl⟩) ?_;simp only[zP,J,h16c,h16d,h16e,h16f]
    (refine aw rfl λ_ k0=>?_;simp only[zO,zT,acs,reduceCtorEq,ad,J,ae,aj,af,ag,Mly.av,h16a,h16b];refine⟨⟨q2.nx.length,1,⟨(by first|omega|(rw[glN];simp)|simp),(by first|rfl|simp),δ⟩,ω,ω⟩,k0 _ ?_⟩;clear k0;simp only[zP,J,h16c,h16d,h16e,h16f])
    iterate 3 (refine aw rfl λ_ k0=>?_;simp only[zO,zT,acs,reduceCtorEq,ad,J,ae,aj,af,ag,Mly.av,h16a,h16b];(repeat refine an ?_);(try refine .inl ?_);apply k0;clear k0;simp only[zP,J,h16c,h16d,h16e,h16f])
    refine aw rfl λ_ k0=>?_;refine bo (h:=fh (k:=(2*q2.nx.length+1+1+1+1+1+1+1)) h16b (ll inp ω ω)) rfl rfl (by first|exact rfl|(simp only[ev,zP,ad,J];exact rfl)) (by simp only[zV,acs,reduceCtorEq,ad,J,ae,aj,af,ag,Mly.av,h16a,h16b]) ?_;apply k0;clear k0;simp only[zP,J,h16c,h16d,h16e,h16f];refine d4 (λC9 hC9=>.inl ⟨rfl,dy (t:=.list (.int .i64)) (k:=2) (v9:=q2.nx.length-1) rfl rfl (by rw[hC9];exact Tryz.td22) rfl (by rw[hC9];exact Tryz.td26) rfl rfl δ δ rfl⟩) ?_;simp only[zP,J,h16c,h16d,h16e,h16f]
    (refine aw rfl λ_ k0=>?_;simp only[zO,zT,acs,reduceCtorEq,ad,J,ae,aj,af,ag,Mly.av,h16a,h16b];refine⟨⟨q2.nx.length,1,⟨(by first|omega|(rw[glO];simp)|simp),(by first|rfl|simp),δ⟩,ω,ω⟩,k0 _ ?_⟩;clear k0;simp only[zP,J,h16c,h16d,h16e,h16f])
    iterate 2 (refine aw rfl λ_ k0=>?_;simp only[zO,zT,acs,reduceCtorEq,ad,J,ae,aj,af,ag,Mly.av,h16a,h16b];(repeat refine an ?_);(try refine .inl ?_);apply k0;clear k0;simp only[zP,J,h16c,h16d,h16e,h16f])
    refine ah ?_;refine⟨by exact j7 (nS (a:=2*q2.nx.length+6) (b:=2*q2.nx.length+7) (c:=2*q2.nx.length+8) ω ω ω ω ω ω) [([],[],0),([],[0],0),([],[0],0),([6],[6],0),([5],[5],0),([3],[3,5],0),([],[],0),([],[0],0),([],[0],0),([7],[7],0),([2],[2],0),([4],[4,2],0),([],[],0),([],[],0)] ζ,?_⟩;refine k23 _ (kx ?_);refine iu 2 rfl ?_;simp only[bV,bu,AO.ver];refine iu 5 rfl ?_;simp only[bV,bu,AO.ver];have h17a:=vr (E:=3) (V:=1) (n:=(unk inp.toNat)) (o:=(unk inp.toNat)) (X:=[]) h3o;rw[h17a];have k8:∀ XX:List AO,(frX 3 1 ((foS q2.nx q2.s ((T.getD i aT).1.getD j 0).toNat (q2.nx.length:Int))++[(unk inp.toNat)]) ((foS q2.ot q2.s ((T.getD i aT).1.getD j 0).toNat ((T.getD i aT).2.1.getD j 0))++[(unk inp.toNat)]) XX)[2*q2.s]? =some (.row Θ 3 1 ((foS q2.nx q2.s ((T.getD i aT).1.getD j 0).toNat (q2.nx.length:Int)).getD q2.s [])):=λXX=>by rw[qa (by simp[cM,h2o]) (by simp[cM];omega),oL (by rw[cM];exact hsl)]
    have k9:((foS q2.nx q2.s ((T.getD i aT).1.getD j 0).toNat (q2.nx.length:Int)).getD q2.s []).getD ((T.getD i aT).1.getD j 0).toNat 0=(q2.nx.length:Int):=by have:=fU (l:=q2.nx) (x:=q2.s) (a:=((T.getD i aT).1.getD j 0).toNat) (v:=(q2.nx.length:Int)) (i:=q2.s) (b:=((T.getD i aT).1.getD j 0).toNat) hsl ω;rw[if_pos ⟨rfl,rfl⟩] at this;exact this
    have k10:((foS q2.nx q2.s ((T.getD i aT).1.getD j 0).toNat (q2.nx.length:Int)).getD q2.s []).length=inp.toNat:=by rw[nR];exact hrs
    have gN2:(frN 1 (q2.nx.length+1)).getD q2.s .junk= .row (2*q2.s+1+1+1+1+1+1) 1:=nX ω;have glN2:=lD 1 (q2.nx.length+1);refine HC (And.intro k8 (And.intro k9 (And.intro gN2 glN2))) (h:=k21 _ (kx ?_));refine zR5 (h:=?_)
    first
    |(refine⟨_,_,?_,ar [1,2,3,5,6,8,9,29,30,31,36,37,38],j+1,⟨(foS q2.nx q2.s ((T.getD i aT).1.getD j 0).toNat (q2.nx.length:Int))++[(unk inp.toNat)],(foS q2.ot q2.s ((T.getD i aT).1.getD j 0).toNat ((T.getD i aT).2.1.getD j 0))++[(unk inp.toNat)],q2.nx.length⟩,ω,(ji hqt).trans (wh hun hlim),rfl,?_⟩
      ·omega
      ·have e1:((foS q2.nx q2.s ((T.getD i aT).1.getD j 0).toNat (q2.nx.length:Int))++[(unk inp.toNat)]).length=q2.nx.length+1:=by simp[cM]
       have e2:q2.nx.length+1-1=q2.nx.length-1+1:=ω;show _=({env:=_,L:=_}:St);simp only[e1,e2];rfl)
    |(refine⟨_,_,?_,ar [1,2,3,5,6,8,9,29,30,31,36,37,38],j+1,{q2 with s:=(foE q2.nx q2.s ((T.getD i aT).1.getD j 0).toNat).toNat},ω,(ji hqt).trans (wm hun),rfl,?_⟩
      ·omega
      ·have e1:(((foE q2.nx q2.s ((T.getD i aT).1.getD j 0).toNat).toNat:Nat):Int)=foE q2.nx q2.s ((T.getD i aT).1.getD j 0).toNat:=by omega
       show _=({env:=_,L:=_}:St);simp only[e1];rfl)
   have hun:¬foE q2.nx q2.s ((T.getD i aT).1.getD j 0).toNat= -1:=hc25;refine au (k23 _ (kx ?_));have k8:=k1;have k9:True:=trivial;have gN2:=gN;have glN2:=glN;refine HC (And.intro k8 (And.intro k9 (And.intro gN2 glN2))) (h:=k21 _ (kx ?_));refine zR5 (h:=?_)
   first
   |(refine⟨_,_,?_,ar [1,2,3,5,6,8,9,29,30,31,36,37,38],j+1,⟨(foS q2.nx q2.s ((T.getD i aT).1.getD j 0).toNat (q2.nx.length:Int))++[(unk inp.toNat)],(foS q2.ot q2.s ((T.getD i aT).1.getD j 0).toNat ((T.getD i aT).2.1.getD j 0))++[(unk inp.toNat)],q2.nx.length⟩,ω,(ji hqt).trans (wh hun hlim),rfl,?_⟩
     ·omega
     ·have e1:((foS q2.nx q2.s ((T.getD i aT).1.getD j 0).toNat (q2.nx.length:Int))++[(unk inp.toNat)]).length=q2.nx.length+1:=by simp[cM]
      have e2:q2.nx.length+1-1=q2.nx.length-1+1:=ω;show _=({env:=_,L:=_}:St);simp only[e1,e2];rfl)
   |(refine⟨_,_,?_,ar [1,2,3,5,6,8,9,29,30,31,36,37,38],j+1,{q2 with s:=(foE q2.nx q2.s ((T.getD i aT).1.getD j 0).toNat).toNat},ω,(ji hqt).trans (wm hun),rfl,?_⟩
     ·omega
     ·have e1:(((foE q2.nx q2.s ((T.getD i aT).1.getD j 0).toNat).toNat:Nat):Int)=foE q2.nx q2.s ((T.getD i aT).1.getD j 0).toNat:=by omega
      show _=({env:=_,L:=_}:St);simp only[e1];rfl)
  refine aL ?_;refine k13 _ (kx ?_);refine zR5 (h:=?_);have hje:j=(T.getD i aT).1.length:=ω;subst hje;refine⟨_,_,?_,ar [1,2,3,5,6,29,30,31],i+1,q2,ω,(oo hq0).trans hqt,rfl,rfl⟩;omega
 refine aL ?_;refine k7 _ (kx ?_);refine aa λ_ k31=>?_;have hie:i=T.length:=ω;subst hie;have hqw:=hT.all _ (Υ _) hq0;have hqo:=hqw.ol;refine tZ rfl rfl hqo ?_;refine pz 5 3 Γ q.nx.length rfl rfl (jO _) (by rw[mh];exact(Nat.mul_one _).symm) ?_;simp only[zS,ax,aF,aG,aC,Nat.zero_add,J];refine pz 6 4 Γ q.nx.length rfl rfl (by rw[← hqo];exact jO _) (by rw[mh,hqo];exact(Nat.mul_one _).symm) ?_;simp only[zS,ax,aF,aG,aC,Nat.zero_add,J];refine cA 3 rfl ?_;simp only[aJ,aV,zS,ad,ZW,reduceCtorEq];refine cA 4 rfl ?_;simp only[aJ,aV,zS,ad,ZW,reduceCtorEq];have g20a:(List.replicate (2*q.nx.length) (AO.dead 1)++[]).length=2*q.nx.length:=η;have g20b:∀ x:AO,(List.replicate (2*q.nx.length) (AO.dead 1)++[x])[2*q.nx.length]? =some x:=λx=>ddX 0;have g20c:∀ x y:AO,(List.replicate (2*q.nx.length) (AO.dead 1)++[x]).set (2*q.nx.length) y=List.replicate (2*q.nx.length) (AO.dead 1)++[y]:=λx y=>ddS 0;refine am hP hN rfl ?_
 iterate 5 (refine aw rfl λ_ k0=>?_;simp only[zO,zT,acs,reduceCtorEq,ad,J,ae,aj,af,ag,Mly.av,ax,aB,g20a,g20b];(repeat refine an ?_);(try refine .inl ?_);apply k0;clear k0;simp only[zP,J,aG,List.append_assoc,aC,g20c])
 refine aw rfl λ_ k0=>?_;refine bo (h:=ak (show aY Tryz.prog 57 [.agg [.int .i64 inp,.int .i64 0,.list Γ q.nx,.list Γ q.ot]] _ from HS ⟨inp,0,q.nx,q.ot⟩ (hqw.pk hi1 hi2))) rfl rfl (by first|exact rfl|(simp only[ev,zP,ad,J];exact rfl)) (by simp only[zV,acs,reduceCtorEq,ad,J,ae,aj,af,ag,Mly.av,ax,aB,g20a,g20b]) ?_;apply k0;clear k0;simp only[zP,J,aG,List.append_assoc,aC,g20c]
 iterate 6 (refine aw rfl λ_ k0=>?_;simp only[zO,zT,acs,reduceCtorEq,ad,J,ae,aj,af,ag,Mly.av,ax,aB,g20a,g20b];(repeat refine an ?_);(try refine .inl ?_);apply k0;clear k0;simp only[zP,J,aG,List.append_assoc,aC,g20c])
 refine ah (k31 _ (kx ?_));refine aa λK32 k32=>am hP hN rfl ?_
 iterate 3 refine xq g20b ?_
 refine ah (k32 _ (kx ?_));refine aA ?_;refine⟨nr,_,rfl,?_⟩;simp only[zF,zP,ad,J,Mly.av]
 first
 |(have hTO:lj inp T=some q:=hq0
   unfold dD dY;rw[hTO];exact VLE.of_eq rfl)
 |(have hTO:lj inp T=none:=by
    have e1:=(ji hqt).trans (DI hun hlim);have e2:=oo hq0;rw[rr e1 _ ω] at e2;exact sV e2 _ ω
   unfold dD dY;rw[hTO];exact bl ⟨dt ⟨.refl _,.refl _,aS rfl,aS rfl,trivial⟩,aD (.refl _),trivial⟩)
theorem A8 (inp:Int)(T:List TRC)(hT:TRV inp T)(hl:T.length≤10000)(hwl:∀ k,k<T.length→(T.getD k aT).1.length≤1000000)(hv:aY Tryz.prog 55 [.agg [.int .i64 inp,.list Ξ T]] (.one (.int .i64 0))):aY Tryz.prog 9 [.agg [.int .i64 inp,.list Ξ T]] (.tup [(leP inp T).av,.one (.int .i64 (dY inp T))]):=by
 refine zQ 42 Tryz.func9 λC hP hN hB=>?_;have hX:KX [0,1,2,3,4,5,6,7,8,15,33]:=⟨trivial⟩
 refine zT5 ?_;refine aa λK2 k2=>am hP hN rfl ?_;refine zS6 ?_;refine zC8 (ak (PM inp T hT hl hwl hv)) ?_
 iterate 6 refine zS6 ?_
 refine ah (k2 _ (kx ?_));refine aa λ_ k3=>?_;refine zT5 ?_;refine cB (λhc5=>?_) (λhc5=>?_)
 ·have hbad:=hc5
  refine zT5 ?_;refine aA ?_;refine⟨nr,_,rfl,?_⟩;simp only[zF,zP,ad,J,Mly.av]
  first
  |(have e:leP inp T=p:=by unfold leP;rw[if_pos he,← hle,vz hno]
    rw[e,he];exact VLE.of_eq rfl)
  |(have e:leP inp T=zY:=if_neg ω
    rw[e];exact bl ⟨dt ⟨.refl _,.refl _,aS rfl,aS rfl,trivial⟩,aD (.refl _),trivial⟩)
 have he:dY inp T=0:=by have hq:=hc5;omega
 have hP0:=yE hT he;have hn1:=hP0.n1;have hn2:=hP0.n2;refine au (k3 _ (kx ?_));refine aa λK7 k7=>am hP hN rfl ?_
 iterate 3 refine zS6 ?_
 (refine aw rfl λ_ k0=>?_;simp only[zE,op1,ev,lkp,cR,bP,cq,dR,Nat.mul_one,bZ,cT,acs,Ty.dflt,zG,cK,cC,gm,ff,cY,dC,fa,Nat.div_one,cV,di,Ty.size,bq,dite_true,cH,reduceCtorEq,ad,J,ae,aj,af,ag,Tryz.el22,Tryz.el54,Tryz.st38,Tryz.td2,Tryz.td22,Tryz.td3,Tryz.td38,Tryz.td54,Mly.av];(repeat refine an ?_);(try refine .inl ?_);apply k0;clear k0;simp only[zP,J])
 refine zS6 ?_;refine ah (k7 _ (kx ?_));refine aa λ_ k8=>?_;have hst:(dD inp T).st=0:=by unfold dD;split<;>rfl
 rw[hst];refine am hP hN rfl ?_
 iterate 5 (refine aw rfl λ_ k0=>?_;simp only[zO,zT,acs,reduceCtorEq,ad,J,ae,aj,af,ag,Mly.av,aB];(repeat refine an ?_);(try refine .inl ?_);apply k0;clear k0;simp only[zP,J,Int.toNat_zero])
 refine ah (k8 _ (kx ?_));refine ay ?_;refine cA 3 rfl ?_;simp only[aJ,aV,zS,ad,ZW,reduceCtorEq];refine aM (λn9 s9=>∃ (p:Mly) (red:List Bool) (k:Nat),(PRK p)∧(red.length=p.nx.length)∧(leF (muL (dD inp T) (kZ (dD inp T))+1-k) p red=leF (muL (dD inp T) (kZ (dD inp T))+1) (dD inp T) (kZ (dD inp T)))∧(k+muL p red≤muL (dD inp T) (kZ (dD inp T)))∧n9=muL p red∧s9={env:=[(2,.one (.ptr 1 0 0 0)),(3,.one (.int .i64 0)),(4,.one (.ptr 2 0 0 0)),(6,.one (.list .bool red))],L:=[.vars 34 [.int .i64 inp,.list Ξ T],.vars 38 [.int .i64 0,.int .i64 0,.nils,.nils],.vars 38 [.int .i64 p.inp,.int .i64 p.st,.list Γ p.nx,.list Γ p.ot],.dead 0]}) ?_ ?_
 ·exact⟨_,_,ar [2,3,4,6],(dD inp T),kZ (dD inp T),0,hP0,by simp[kZ],rfl,ω,rfl,by rw[hst];rfl⟩
 rintro n9 s9 ⟨p,red,k,hp,hr,hle,hmu,rfl,rfl⟩;refine ay ?_;refine aa λ_ k10=>?_;have hfit:=Ej hp.pk hr red.length (Υ _);refine am hP hN rfl ?_
 iterate 2 refine zS6 ?_
 refine zC8 (ak (Mb p hp red hr)) ?_
 iterate 5 refine zS6 ?_
 refine ah (k10 _ (kx ?_));refine aa λ_ k11=>?_;refine zT5 ?_;refine cB (λhc13=>?_) (λhc13=>?_)
 ·have hno:¬blA p red red.length<(red.length:Int):=by have hq:=hc13;simpa using hq
  refine zT5 ?_;refine aA ?_;refine⟨nr,_,rfl,?_⟩;simp only[zF,zP,ad,J,Mly.av]
  first
  |(have e:leP inp T=p:=by unfold leP;rw[if_pos he,← hle,vz hno]
    rw[e,he];exact VLE.of_eq rfl)
  |(have e:leP inp T=zY:=if_neg ω
    rw[e];exact bl ⟨dt ⟨.refl _,.refl _,aS rfl,aS rfl,trivial⟩,aD (.refl _),trivial⟩)
 have hgo:blA p red red.length<(red.length:Int):=by have hq:=hc13;simpa using hq
 refine au (k11 _ (kx ?_));have hmk:=Iq hp hr (b:=blA p red red.length) ω (hfit.2 ω);refine am hP hN rfl ?_
 iterate 3 refine zS6 ?_
 refine zC8 (ak (QL p hp.pk red hr (blA p red red.length) ω)) ?_
 iterate 5 refine zS6 ?_
 refine ah ?_;refine⟨_,_,?_,ar [2,3,4,6],(meF p red (blA p red red.length)).1,(meF p red (blA p red red.length)).2,k+1,hmk.1,hmk.2.1,QQ hle ω hgo,ω,rfl,rfl⟩;exact hmk.2.2
theorem Gc (xs:List TRC)(h0:0<xs.length)(h1:xs.length≤1000000):gQ Tryz.prog 134 [.one (.list Ξ xs)] Ξ 86 (xs):=by
 refine dW Tryz.func134 rfl ζ (Nat.le_of_ble_eq_true rfl) rfl λC hP hN hB=>?_;have hX:KX [0,2,4]:=⟨trivial⟩
 replace hN:C.N=8:=hN;simp only[cm,J];refine zT2 ?_;refine aa λ_ k2=>?_;refine zT2 ?_;refine cB (λhc4=>?_) (λhc4=>?_)
 ·exact zX hc4
 refine au (k2 _ (kx ?_));refine aa λK5 k5=>am hP hN rfl ?_;refine zS4 ?_
 iterate 3 refine zS3 ?_
 refine ah (k5 _ (kx ?_));refine aA ?_;refine⟨by first|exact .inl rfl|exact .inr rfl,_,rfl,_,_,rfl,?_⟩
 rfl
section
open Go.RowKit Go.Sort Go.Proofs
theorem WCS.alloc {w:World}{A:Option Addr}{xs:List Int}(h:WCS w A xs)(o:Obj):WCS (w.alloc o) A xs:=λh0=>by
 obtain⟨b,p,e,h1⟩:=h h0;refine⟨b,p,e,λj hj=>?_⟩;have h2:=h1 j hj;rw[World.cell?_alloc_lt _ _ _ (World.block_lt_of_cell? w _ h2)];exact h2
theorem PT (A1 A2:Option Addr)(c d:Nat)(u1 u2:Value)(hu1:u1.oneCell'=true)(hu2:u2.oneCell'=true)(xs ys:List Int)(w:World)(hb1:xs.length≤9223372036854775807)(hb2:ys.length≤9223372036854775807)(hc1:WCS w A1 xs)(hc2:WCS w A2 ys):
 Calls Tryz.prog 136 #[.agg #[.slice A1 xs.length c,u1],.agg #[.slice A2 ys.length d,u2]] w λe w'=>e= .returned (.int .i64 (dj xs ys))∧∃ os,w'=Go.Sort.grow w os:=by
 have h1:=λo1 o2=>P7 A1 A2 c d xs ys ((w.alloc o1).alloc o2) hb1 hb2 ((hc1.alloc _).alloc _) ((hc2.alloc _).alloc _);clear hc1 hc2
 go_enter Tryz.func136,Tryz.ntmps136
 go_wp2_with (go_at_call 47;refine(h1 _ _).mono ?_;rintro e w' ⟨rfl,hw⟩;rw[hw])
 go_ret
 exact⟨rfl,_,by rw[Go.Sort.alloc_eq_grow,Go.Sort.alloc_eq_grow,Go.Sort.grow_grow]⟩
def MA (P:Program)(f:FuncId):Prop:=j5 P f∧∀ (α:Type) (_:Inhabited α) (enc:α→List Value) (hk:∀ x,(enc x).length=2) (h1:∀ x,∀ v∈enc x,v.oneCell'=true) (cf:α→α→Int) (hO:SWO (ltOf cf)) (g:Nat) (blk off cap:Nat) (d:Array α) (w:World)
    (eg:∀ args w,(callFunc g args).run P w= .ok (.enter g args) w) (hcmp:CmpLays P g #[] enc 2 cf blk off d.size w) (hH:HoldsK enc 2 w blk off d) (hblk:blk<w.heap.size) (hsz:d.size<4611686018427387904),
    Calls P f #[.slice (some ⟨blk,off,none⟩) d.size cap,.func (.func g) #[] #[]] w λe w'=>
     e= .returned (.tuple #[])∧∃ d' n os,PermIn 0 d.size d d'∧SortedIn (ltOf cf) 0 d.size d'∧w'=sortWorldK enc 2 w blk off n d' os
theorem BG {av:Nat→Prop}{w w':World}{t:TRC}{v:List Value}(h:Dat av w TRT t v)(hb:∀ b,b<w.heap.size→¬av b→w'.heap[b]? =w.heap[b]?):
 ∃ A c u,v=[.slice A t.1.length c,u]∧u.oneCell'=true∧t.1.length≤maxLen∧WCS w' A t.1:=by
 obtain⟨x,y,z⟩:=t;have h1:∃ c1 c2,v=c1++c2∧Dat av w Γ x c1∧∃ c3 c4,c2=c3++c4∧Dat av w Γ y c3∧c4=[]:=by
  simpa only[Dat] using h
 obtain⟨c1,c2,rfl,h1,c3,c4,rfl,h2,rfl⟩:=h1;have l1:=h1.length;have l2:=h2.length;obtain⟨v1,rfl⟩:=List.length_eq_one_iff.1 l1;obtain⟨v2,rfl⟩:=List.length_eq_one_iff.1 l2;obtain⟨A,c,e,q1,q2⟩:=lY h1 hb;obtain⟨A2,c2,e2,q3,q4⟩:=lY h2 hb;subst e e2;exact⟨A,c,_,rfl,rfl,q1,q2⟩
theorem F3 {α:Type}[Inhabited α]{enc:α→List Value}{flat:List Value}{ps:List α}(hl:flat.length=ps.length*2)(h:∀ i,i<ps.length→enc (ps[i]!)=(flat.drop (i*2)).take 2):(flatK enc 2 ps.toArray).toList=flat:=by
 refine List.ext_getElem (by simp[hl]) λt h1 h2=>?_;have hq:t / 2<ps.length:=ω;have h3:(flatK enc 2 ps.toArray)[t]! =(enc ps.toArray[t / 2]!)[t % 2]!:=get_flatK enc 2 ps.toArray t (by simpa using h1);have h4:ps.toArray[t / 2]! =ps[t / 2]!:=by simp[hq]
 rw[h4,h _ hq] at h3;rw[Array.getElem_toList,← getElem!_pos (flatK enc 2 ps.toArray) t (by simpa using h1),h3];have h5:t % 2<((flat.drop (t / 2*2)).take 2).length:=by simp;omega
 rw[getElem!_pos ((flat.drop (t / 2*2)).take 2) (t % 2) h5,List.getElem_take,List.getElem_drop]
 congr 1
 omega
theorem rP {w:World}{base g cap n:Nat}{e:TypeId}{os:Array Obj}{cur:Array Value}{m:Nat}{F:Array Value}(hl:F.size=m*2)(hbase:base≤g)(hb:w.heap[g]? =some (.cells cur e (0,0)))
 (h1:m≤cap) (h2:cap≤maxLen) (h3:cur.size=cap*2):
 (grow (putRow id (Sort.ahead w n) g 0 F) os).ownsRow base e 2 (.slice (some ⟨g,0,none⟩) m cap) m F.toList:=
 ⟨by simp[hl],.inr ⟨g,cap,_,rfl,hbase,pm _ hb,h1,h2,by simp[putCells,h3],by
   have:=mY (enc:=id) cur F.toList (by simp;omega);rw[Array.toArray_toList,List.map_id,Array.length_toList,hl] at this;exact this⟩⟩
theorem Ch {f g:FuncId}(hs:MA Tryz.prog f)(eg:∀ args w,(callFunc g args).run Tryz.prog w= .ok (.enter g args) w)
 (hcmp:∀ (A1 A2:Option Addr) (c d:Nat) (u1 u2:Value) (hu1:u1.oneCell'=true) (hu2:u2.oneCell'=true) (xs ys:List Int) (w:World),xs.length≤9223372036854775807→ys.length≤9223372036854775807→WCS w A1 xs→WCS w A2 ys→
   Calls Tryz.prog g #[.agg #[.slice A1 xs.length c,u1],.agg #[.slice A2 ys.length d,u2]] w λe w'=>e= .returned (.int .i64 (dj xs ys))∧∃ os,w'=grow w os)
 {L0:List AO} {k ver:Nat} {e:TypeId} {xs:List TRC} (hL:L0[k]? =some (.row TRT e ver xs)) (h0:0<xs.length) (h1:xs.length<4611686018427387904) (hnd:(xs.map Prod.fst).Nodup):
 cS Tryz.prog L0 f [.one (.row k ver),.one (.fn g [])] {av:=.tup [],upd:=[(k,.row TRT e ver (fw xs))],fp:=[k]}:=by
 have ho:=zy;refine⟨hs.1,λC L σ w vs hP hi ha hfp hlen=>?_⟩;have hob:L[k]? =some (.row TRT e ver xs):=by rw[hfp k η];exact hL
 cases vs with
 |nil=>exact ha.elim
 |cons v vs=>
 cases vs with
 |nil=>exact ha.2.elim
 |cons v2 vs=>
 cases vs with
 |cons _ _=>exact ha.2.2.elim
 |nil=>
 obtain⟨hv,hv2,_⟩:=ha;obtain⟨ob,q1,q2,q3⟩:=hv.2;rw[hob] at q1;cases q1;obtain⟨_,hvs⟩:=q3 rfl rfl;obtain⟨vs2,hv2',hv2n⟩:=hv2.2;have:vs2=[]:=hv2n.none;subst this;obtain⟨flat,hown0,hp,hd⟩:=hi.ob k _ hob;have hfl:=hown0.1;have hsz:TRT.size=2:=rfl;rw[hsz] at hfl hd;rcases hown0.2 with⟨hh,hz⟩|⟨gb,cap,cur,hvg,hbase,hg,hn,hcap,hcs,htk⟩
 ·omega
 rw[hsz] at htk;rw[hsz] at hcs;have hD:∀ i,i<xs.length→Dat (avd C L σ) w TRT (xs.getD i ([],([],()))) ((flat.drop (i*2)).take 2):=λi hil=>hd i hil
 let α:={p:List Value×TRC // Dat (avd C L σ) w TRT p.2 p.1}
 let enc:α→List Value:=λp=>p.1.1
 let wd:α→TRC:=λp=>p.1.2
 have hinh:Inhabited α:=⟨⟨((flat.drop (0*2)).take 2,xs.getD 0 ([],([],()))),hD 0 h0⟩⟩
 let ps:List α:=List.ofFn λi:Fin xs.length=>(⟨((flat.drop (i*2)).take 2,xs.getD i ([],([],()))),hD i i.2⟩:α)
 have hpl:ps.length=xs.length:=by simp[ps]
 have hpe:(flatK enc 2 ps.toArray).toList=flat:=F3 (by rw[hpl];exact hfl) λi h2=>by
  rw[getElem!_pos ps i h2];simp[ps,enc]
 have hpw:ps.map wd=xs:=by
  refine List.ext_getElem (by simp[hpl]) λi h2 h3=>?_;simp[ps,wd,List.getD,h3]
 have hlt:gb<w.heap.size:=(Array.getElem?_eq_some_iff.1 hg).1;have hown:own L σ k gb:=⟨_,hob,rfl,by rw[hvg];rfl⟩
 let cf2:α→α→Int:=λp q=>dj (wd p).1 (wd q).1
 have hO:SWO (ltOf cf2):=⟨λx=>ho.swo.irrefl (wd x).1,λx y z=>ho.swo.trans (wd x).1 (wd y).1 (wd z).1,λx y z=>ho.swo.ntrans (wd x).1 (wd y).1 (wd z).1⟩
 have hC:CmpLays Tryz.prog g #[] enc 2 cf2 gb 0 ps.toArray.size w:=by
  intro m os dk hdk x y;have hb:∀ b,b<w.heap.size→¬avd C L σ b→(sortWorldK enc 2 w gb 0 m dk os).heap[b]? =w.heap[b]?:=λb hb ha=>eM (enc:=id) (flatK enc 2 dk) hb (λe=>ha (.inr ⟨k,by rw[e];exact hown⟩));obtain⟨A1,c1,u1,e1,o1,l1,w1⟩:=BG x.2 hb;obtain⟨A2,c2,u2,e2,o2,l2,w2⟩:=BG y.2 hb;have hm:maxLen≤9223372036854775807:=δ;have h3:=hcmp A1 A2 c1 c2 u1 u2 o1 o2 _ _ (sortWorldK enc 2 w gb 0 m dk os) ω ω w1 w2;have e3:(#[.agg (enc x).toArray,.agg (enc y).toArray]++ #[]:Array Value)= #[.agg #[.slice A1 (wd x).1.length c1,u1],.agg #[.slice A2 (wd y).1.length c2,u2]]:=by
   rw[Array.append_empty];show(#[.agg x.1.1.toArray,.agg y.1.1.toArray]:Array Value)=_;rw[e1,e2]
  rw[e3];exact h3.mono λen w' ⟨h4,os',h5⟩=>⟨h4,0,os',h5⟩
 have hH:HoldsK enc 2 w gb 0 ps.toArray:=by
  have h9:=lG (enc:=id) (ss:=(flatK enc 2 ps.toArray).toList) hg (by rw[List.map_id,hpe,hfl];exact htk);rw[Array.toArray_toList] at h9;exact h9
 have hcall:=hs.2 α hinh enc (λp=>p.2.length) (λp v hv=>by
  obtain⟨A,c,u,e1,o1,_⟩:=BG p.2 (λ_ _ _=>rfl);have hv2:v∈p.1.1:=hv;rw[e1] at hv2;rcases List.mem_cons.1 hv2 with rfl|hv2
  ·rfl
  ·rw[List.mem_singleton] at hv2;subst hv2;exact o1) cf2 hO g gb 0 cap ps.toArray w eg hC hH hlt (by simpa [hpl] using h1)
 have hsz2:ps.toArray.size=xs.length:=by simp[hpl]
 rw[hsz2] at hcall;rw[hvs,hvg,hv2'];refine hcall.mono λen w' hh=>?_;obtain⟨e1,d',n,os,hperm,hsort,e2⟩:=hh;refine⟨.tuple #[],e1,?_⟩;subst e2;obtain⟨p1,p2,p3⟩:=hperm;have hd'l:d'.toList.length=xs.length:=by simp[p1,hsz2]
 have hperm2:d'.toList.Perm ps:=by
  have z4:d'.extract 0 xs.length=d':=tU _ (by rw[p1,hsz2];exact Υ _);have z5:ps.toArray.extract 0 xs.length=ps.toArray:=tU _ (by rw[hsz2];exact Υ _);rw[z4,z5] at p3
  simpa using p3
 have hws:(d'.toList.map wd).map Prod.fst=dp dj (xs.map Prod.fst):=by
  have hu:=sorted_unique_holds (lt:=λx y:List Int=>decide (dj x y<0)) ho.swo ho.anti (ps.toArray.map λp=>(wd p).1) (d'.map λp=>(wd p).1) ⟨by simp[p1],λi hi2=>by
   rcases hi2 with hi2|hi2
   ·omega
   ·have a1:¬i<(d'.map λp=>(wd p).1).size:=by simp[p1] at*;omega
    have a2:¬i<(ps.toArray.map λp=>(wd p).1).size:=by simp at*;omega
    rw[getElem!_neg (d'.map λp=>(wd p).1) i a1,getElem!_neg (ps.toArray.map λp=>(wd p).1) i a2],by
   have p4:=hperm2.map λp=>(wd p).1;have z2:(d'.map λp=>(wd p).1).extract 0 (ps.toArray.map λp=>(wd p).1).size=d'.map λp=>(wd p).1:=tU _ (by simp[p1]);have z3:(ps.toArray.map λp=>(wd p).1).extract 0 (ps.toArray.map λp=>(wd p).1).size=ps.toArray.map λp=>(wd p).1:=tU _ (Υ _);rw[z2,z3]
   simpa using p4⟩ (λi j h2 h3 h4=>by
   have h5:=hsort i j h2 h3 (by have h9:j<(ps.toArray.map λp=>(wd p).1).size:=h4;rw[Array.size_map,hsz2] at h9;rw[← hsz2] at h9;rwa[hsz2] at h9);have hj:j<d'.size:=by simp[p1,hsz2] at*;omega
   have hi3:i<d'.size:=ω;have a1:(d'.map λp=>(wd p).1)[j]! =(wd d'[j]!).1:=by
    rw[getElem!_pos (d'.map λp=>(wd p).1) j (by simpa using hj),getElem!_pos d' j hj];simp
   have a2:(d'.map λp=>(wd p).1)[i]! =(wd d'[i]!).1:=by
    rw[getElem!_pos (d'.map λp=>(wd p).1) i (by simpa using hi3),getElem!_pos d' i hi3];simp
   rw[a1,a2];exact h5)
  have e4:(ps.toArray.map λp=>(wd p).1).toList=xs.map Prod.fst:=by
   rw[← hpw];simp[Function.comp_def]
  rw[e4] at hu
  simpa [dp,Function.comp_def] using hu
 have hzs:d'.toList.map wd=fw xs:=OZ hnd (by rw[← hpw];exact hperm2.map wd) hws;have hgb:=lS (enc:=id) (w:=w) (g:=gb) (n:=n) (os:=os) (flatK enc 2 d');obtain⟨g1,g2,g3,g4,g5⟩:=hgb;have hsl:(fw xs).length=xs.length:=by rw[← hzs,aE,hd'l]
 refine cI (σ':=σ) hi hob g4 g1 g2 g3 (λb hb hno=>g5 b hb (λe=>hno ((Option.some.inj e)▸hown))) (λ_ _=>rfl) ⟨Υ _,λ_ _=>⟨rfl,rfl,rfl,_,rfl⟩⟩
  (λ_ j hj=>.inl ⟨_,hob,rfl,hj⟩) (λhp hav=>?_) (λ_ _=>⟨[],rfl,trivial⟩)
 have hF:(flatK enc 2 d').size=xs.length*2:=by rw[size_flatK,p1,hsz2]
 refine⟨(flatK enc 2 d').toList,?_,δ,λi hi2=>?_⟩
 ·rw[hvg,hsl]
  exact rP (w:=w) (base:=0) (n:=n) (e:=e) (os:=os) hF (Nat.zero_le _) hg hn hcap hcs
 ·have hi3:i<d'.toList.length:=by rw[hsl] at hi2;omega
  have hi4:i<d'.size:=by simpa using hi3
  have e5:(fw xs).getD i ([],([],()))=wd d'.toList[i]:=by
   rw[← hzs];simp[List.getD,hi4]
  have e6:((flatK enc 2 d').toList.drop (i*2)).take 2=enc d'.toList[i]:=by
   have hen:(enc d'.toList[i]).length=2:=d'.toList[i].2.length;refine List.ext_getElem (by rw[hen];simp;omega) λt t1 t2=>?_;have ht2:t<2:=ω;rw[List.getElem_take,List.getElem_drop,Array.getElem_toList,← getElem!_pos (flatK enc 2 d') (i*2+t) (by rw[size_flatK];omega),get_flatK enc 2 d' (i*2+t) ω];have q1:(i*2+t) / 2=i:=ω;have q2:(i*2+t) % 2=t:=ω;rw[q1,q2,getElem!_pos d' i hi4,← Array.getElem_toList hi4,getElem!_pos (enc d'.toList[i]) t t2]
  show Dat _ _ TRT ((fw xs).getD i ([],([],()))) (((flatK enc 2 d').toList.drop (i*2)).take 2);rw[e5,e6];exact Dat.keep (av':=avd C (L.set k (.row TRT e ver (fw xs))) σ) (w':=sortWorldK enc 2 w gb 0 n d' os) g4 (λb hb ha=>eM (enc:=id) (flatK enc 2 d') hb (λe=>ha (.inr ⟨k,by rw[e];exact hown⟩))) hav d'.toList[i].2
end
open Go.Shelf in
def Tryz.sortTt_ren:Go.Shelf.Ren:=⟨fun|6=>135|15=>81|14=>159|28=>127|29=>128|20=>183|21=>184|22=>185|23=>186|24=>187|25=>188|26=>189|27=>190|46=>213|47=>154|48=>155|49=>214|50=>215|57=>222|n=>n,fun|22=>32|24=>86|25=>136|3=>3|39=>127|0=>0|53=>186|55=>188|4=>4|46=>180|45=>179|50=>55|5=>5|9=>9|66=>222|70=>226|76=>253|77=>133|n=>n,fun|n=>n⟩
open Go.Proofs.Tryz in
theorem Tryz.sortTt:Go.Proofs.SlLaysF0.n6 Tryz.prog Tryz.sortTt_ren:=⟨by kernel_rfl,laG func135,laG func159,laF func81,laG func183,laG func184,laG func185,laG func186,laG func187,laG func188,laG func189,laG func190,laF func127,laF func128,laG func213,laF func154,laF func155,laG func214,laG func215,laG func222,underlying0,isAgg0,sizeOf0,zeroValue0,underlying3,isAgg3,sizeOf3,zeroValue3,underlying4,isAgg4,sizeOf4,zeroValue4,underlying5,isAgg5,sizeOf5,zeroValue5,underlying9,isAgg9,sizeOf9,zeroValue9,underlying32,isAgg32,sizeOf32,zeroValue32,underlying136,isAgg136,sizeOf136,zeroValue136,underlying127,isAgg127,sizeOf127,zeroValue127,underlying179,isAgg179,sizeOf179,zeroValue179,underlying180,isAgg180,sizeOf180,zeroValue180,underlying55,isAgg55,sizeOf55,zeroValue55,underlying186,isAgg186,sizeOf186,zeroValue186,underlying188,isAgg188,sizeOf188,zeroValue188,underlying222,isAgg222,sizeOf222,zeroValue222,underlying226,isAgg226,sizeOf226,zeroValue226,underlying253,isAgg253,sizeOf253,zeroValue253,underlying133,isAgg133,sizeOf133,zeroValue133⟩
theorem F5:MA Tryz.prog 135:=⟨⟨Tryz.f135,Tryz.func135,ζ,ζ⟩,λα hi enc hk h1 cf hO g blk off cap d w eg hcmp hH hblk hsz=>@Go.Proofs.AnyQ.slices_SortFunc _ _ α hi Tryz.sortTt 2 (λw=>mE Tryz.td86 w) (λw=>bT Tryz.td86 w) enc hk h1 cf hO g #[] blk off cap d w eg hcmp hH hblk hsz⟩
theorem G3 {L0:List AO}{k ver:Nat}{e:TypeId}{xs:List TRC}(hL:L0[k]? =some (.row TRT e ver xs))(h0:0<xs.length)(h1:xs.length<4611686018427387904)(hnd:(xs.map Prod.fst).Nodup):
 cS Tryz.prog L0 135 [.one (.row k ver),.one (.fn 136 [])] {av:=.tup [],upd:=[(k,.row TRT e ver (fw xs))],fp:=[k]}:=
 Ch F5 (enters_of Tryz.func136 ζ rfl) (λA1 A2 c d u1 u2 hu1 hu2 xs ys w hb1 hb2 hc1 hc2=>PT A1 A2 c d u1 u2 hu1 hu2 xs ys w hb1 hb2 hc1 hc2) hL h0 h1 hnd
theorem QB (T:List TRC)(hf:FIT T):aY Tryz.prog 100 [.one (.list Ξ T)] (.one (.bool true)):=by
 refine zQ 39 Tryz.func100 λC hP hN hB=>?_;have hX:KX [0,2,3,11,38]:=⟨trivial⟩
 have h0:=hf.pos;have h1:=hf.le;have hsl:=oE T;refine zT2 ?_;refine aa λK2 k2=>am hP hN rfl ?_;refine zS3 ?_;refine zC9 (gy (Gc T h0 ω)) ?_;refine zS3 ?_;refine ah (k2 _ (kx ?_));refine aa λK3 k3=>am hP hN rfl ?_;refine zS3 ?_;refine zC9 (G3 (k:=0) (ver:=0) (xs:=T) rfl h0 ω hf.nd) ?_;refine ah (k3 _ (kx ?_));refine aa λ_ k4=>?_;refine zT2 ?_;refine ay ?_;refine aM (λn6 s6=>∃ (k:Nat),(k+1≤T.length)∧n6=T.length-k∧s6={env:=[(0,.one (.row 0 0)),(2,.one (.bool false)),(3,.one (.int .i64 ((k+1:Nat):Int)))],L:=[.row Ξ 86 0 (fw T)]}) ?_ ?_
 ·exact⟨_,_,ar [0,2,3],0,ω,rfl,rfl⟩
 rintro n6 s6 ⟨k,hk,rfl,rfl⟩;refine aa λ_ k7=>?_;refine zT2 ?_;refine cB (λhc9=>?_) (λhc9=>?_)
 ·refine au ?_
  refine k7 _ (kx ?_);refine aa λ_ k10=>?_;refine ay ?_;refine aa λ_ k11=>?_;obtain⟨x1,x2,hgx⟩:∃ x1 x2,∀ d,(fw T).getD (k+1) d=(x1,(x2,())):=⟨_,_,iS ω⟩
  obtain⟨y1,y2,hgy⟩:∃ x1 x2,∀ d,(fw T).getD k d=(x1,(x2,())):=⟨_,_,iS ω⟩
  have hk1:((k+1:Nat):Int)-1=(k:Int):=ω;have hst:=hf.step ω (hgx _) (hgy _);refine bz hP hN Tryz.mixed rfl ?_
  iterate 11 refine pp (And.intro hk1 (And.intro hgx (And.intro hgy hst.2.1))) ?_
  refine aw rfl λ_ k0=>?_;refine bo (h:=ak (B1 x1 y1 ω ω)) rfl rfl (by first|exact rfl|(simp only[ev,zP,ad,J];exact rfl)) (by simp only[zV,acs,reduceCtorEq,ad,J,ae,aj,af,ag,gt,az,hk1,hgx,hgy,hst.2.1]) ?_;apply k0;clear k0;simp only[zP,J];refine pp (And.intro hk1 (And.intro hgx (And.intro hgy hst.2.1))) ?_;refine' zJ false 11 26 (λhg12=>?a12) ?b12 ?c12
  case a12=>
   have hq12:=hg12;(try simp only[zB,reduceCtorEq] at hg12);simp only[zE]
   iterate 9 refine yS (And.intro hk1 (And.intro hgx (And.intro hgy hst.2.1))) ?_
   refine db rfl λ_ k0=>?_;refine bo (h:=ak (pX (y1,(y2,())) (x1,(x2,())) (by show y1.length≤100000;omega) (by show x1.length≤100000;omega) (by show y2.length≤100000;omega) (by show x2.length≤100000;omega))) rfl rfl (by first|exact rfl|(simp only[ev,zP,ad,J];exact rfl)) (by simp only[zV,acs,reduceCtorEq,ad,J,ae,aj,af,ag,gt,az,hk1,hgx,hgy,hst.2.1]) ?_;apply k0;clear k0;simp only[zP,J];refine yS (And.intro hk1 (And.intro hgx (And.intro hgy hst.2.1))) ?_;refine pp (And.intro hk1 (And.intro hgx (And.intro hgy hst.2.1))) ?_;refine ah ?_;exact zK hq12
  case b12=>exact cF
  simp only[bh,aX];refine ah ?_;refine⟨ζ,?_⟩;refine k11 _ (kx ?_);refine cB (λhc13=>?_) (λhc13=>?_)
  ·exact zX hc13
  refine au (k10 _ (kx ?_));refine zR2 (h:=?_);refine⟨_,_,?_,ar [0,2,3],k+1,ω,rfl,rfl⟩;omega
 refine aL ?_;refine k4 _ (kx ?_);refine zT2 ?_;refine aA ?_;refine zZn ?_
 rfl
theorem yW (n:Int)(T:List TRC)(hn:1≤n∧n≤64)(hf:FIT T)(ho:OBI n T)(hne:∀ u,u∈T→¬u.1.length=0):aY Tryz.prog 55 [.agg [.int .i64 n,.list Ξ T]] (.one (.int .i64 0)):=by
 refine zQ 86 Tryz.func55 λC hP hN hB=>?_;have hX:KX [0,1,2,3,4,5,6,17,21,23,24,25,26,36,41,47,61,65]:=⟨trivial⟩
 have h0:=hf.pos;have h1:=hf.le;refine zT2 ?_;refine aa λ_ k2=>?_;refine aa λK3 k3=>am hP hN rfl ?_
 iterate 4 refine zS3 ?_
 refine' zJ false 3 13 (λhg4=>?a4) ?b4 ?c4
 case a4=>
  have hq4:=hg4;(try simp only[zB,reduceCtorEq] at hg4);simp only[zE]
  iterate 3 refine tE ?_
  refine zS3 ?_;refine ah ?_;exact zK hq4
 case b4=>exact cF
 simp only[bh,aX];refine ah (k3 _ (kx ?_));refine cB (λhc5=>?_) (λhc5=>?_)
 ·exact zX hc5
 refine au (k2 _ (kx ?_));refine aa λ_ k6=>?_;refine zT2 ?_;refine cB (λhc8=>?_) (λhc8=>?_)
 ·exact zX hc8
 refine au (k6 _ (kx ?_));refine aa λ_ k9=>?_;refine zT2 ?_;refine ay ?_;refine aM (λn11 s11=>∃ (k:Nat),(k≤T.length)∧n11=T.length-k∧s11={env:=[(1,.one (.ptr 0 0 0 0)),(2,.one (.int .i64 0)),(23,.one (.list Ξ T)),(24,.one (.int .i64 (T.length:Int))),(25,.one (.int .i64 (k:Int)))],L:=[.vars 34 [.int .i64 n,.list Ξ T]]}) ?_ ?_
 ·exact⟨_,_,ar [1,2,23,24,25],0,Nat.zero_le _,rfl,rfl⟩
 rintro n11 s11 ⟨k,hk,rfl,rfl⟩;refine zT2 ?_;refine aa λ_ k13=>?_;refine cB (λhc14=>?_) (λhc14=>?_)
 ·refine au ?_
  refine k13 _ (kx ?_);refine aa λ_ k15=>?_;refine ay ?_;refine aa λ_ k16=>?_;obtain⟨x1,x2,hgx⟩:∃ x1 x2,∀ d,T.getD k d=(x1,(x2,())):=⟨_,_,iS ω⟩
  have hmx:(x1,(x2,()))∈T:=by rw[← hgx aT];exact jk ω
  have hpx:=ho.pr _ hmx;have hwx:=Kf hpx;have hnx:=hne _ hmx;have hnx:¬x1.length=0:=hnx;refine zd hgx (h:=k16 _ (kx ?_));refine aa λ_ k17=>?_;refine aa λK18 k18=>am hP hN rfl ?_
  iterate 4 refine zS3 ?_
  refine zC9 (ak (eO x1 n)) ?_;refine zS3 ?_;refine ah (k18 _ (kx ?_));refine zT2 ?_;refine cB (λhc20=>?_) (λhc20=>?_)
  ·exact zX hc20
  refine au (k17 _ (kx ?_));refine aa λ_ k21=>?_;refine zT2 ?_;refine cB (λhc23=>?_) (λhc23=>?_)
  ·exact zX hc23
  refine au (k21 _ (kx ?_));refine aa λ_ k24=>?_;refine aa λK25 k25=>am hP hN rfl ?_
  iterate 3 refine zS3 ?_
  refine zC9 (ak (xD (x1,(x2,())) n)) ?_;refine zS3 ?_;refine ah (k25 _ (kx ?_));refine zT2 ?_;refine cB (λhc27=>?_) (λhc27=>?_)
  ·exact zX hc27
  refine au (k24 _ (kx ?_));refine aa λ_ k28=>?_;obtain⟨y1,y2,hgy⟩:∃ x1 x2,∀ d,T.getD (k-1) d=(x1,(x2,())):=⟨_,_,iS ω⟩
  have hk1:((k:Int)-1).toNat=k-1:=ω;have hor:0<k→cJ y1 x1<0:=λhk0=>by
   have:=oc ho.srt (show k-1<k by omega) (show k<T.length by omega);rw[hgx,hgy] at this;exact this
  refine bz hP hN Tryz.mixed rfl ?_
  iterate 3 refine pp (And.intro hk1 (And.intro hgx hgy)) ?_
  refine' zJ true 9 51 (λhg29=>?a29) ?b29 ?c29
  case a29=>
   have hq29:=hg29;(try simp only[zB,reduceCtorEq] at hg29);simp only[zE]
   iterate 7 refine yS (And.intro hk1 (And.intro hgx hgy)) ?_
   refine db rfl λ_ k0=>?_;refine bo (h:=ak (tl (y1,(y2,())) (x1,(x2,())))) rfl rfl (by first|exact rfl|(simp only[ev,zP,ad,J];exact rfl)) (by simp only[zV,acs,reduceCtorEq,ad,J,ae,aj,af,ag,gt,az,hk1,hgx,hgy]) ?_;apply k0;clear k0;simp only[zP,J];refine yS (And.intro hk1 (And.intro hgx hgy)) ?_;refine pp (And.intro hk1 (And.intro hgx hgy)) ?_;refine ah ?_;exact zK hq29
  case b29=>exact cF
  simp only[bh,aX];refine ah ?_;refine⟨ζ,?_⟩;refine k28 _ (kx ?_);refine cB (λhc30=>?_) (λhc30=>?_)
  ·exact zX hc30
  refine au (k15 _ (kx ?_));refine kp [1,2,23,24,25] ?_;refine eX (L1:=[_]) rfl (by rw[hB];exact Nat.zero_le _) rfl rfl ?_;refine zR2 (h:=?_);refine⟨_,_,?_,ar [1,2,23,24,25],k+1,ω,rfl,rfl⟩;omega
 refine aL ?_;refine k9 _ (kx ?_);refine aa λ_ k31=>?_;refine aa λK32 k32=>am hP hN rfl ?_
 iterate 2 refine zS3 ?_
 refine zC9 (ak (QB T hf)) ?_;refine ah (k32 _ (kx ?_));refine cB (λhc33=>?_) (λhc33=>?_)
 ·refine zT2 ?_
  refine aA ?_;refine zZn ?_
  rfl
 ·exact zX hc33
theorem vU (m:Mly)(ws:List (List Int))(h:OBF m ws):aY Tryz.prog 9 [.agg [.int .i64 m.mres.inp,.list Ξ (ofT m ws)]] (.tup [(leP m.mres.inp (ofT m ws)).av,.one (.int .i64 (dY m.mres.inp (ofT m ws)))]):=
 A8 m.mres.inp (ofT m ws) h.trv h.fit.le h.wl (yW m.mres.inp (ofT m ws) ⟨h.trv.i1,h.trv.i2⟩ h.fit h.ob h.ne)
theorem Ld (m:Mly)(hm:MOK m):aY Tryz.prog 72 [m.av,.one (.int .i64 m.st)] (.one (.list (.pair Θ (.pair Γ .unit)) (m.exR.map lh))):=by
 refine zQ 65 Tryz.func72 λC hP hN hB=>?_;have hX:KX [0,1,2,4,5,6,7,8,9,23,34,35,36,37,45]:=⟨trivial⟩
 have h1:=hm.s1;have h2:=hm.s2;have h3:=hm.n2;have hi1:=hm.i1;have hi2:=hm.i2;refine zT5 ?_;refine aa λK2 k2=>am hP hN rfl ?_
 iterate 3 refine zS6 ?_
 (refine aw rfl λ_ k0=>?_;simp only[zE,op1,ev,lkp,cR,bP,cq,dR,Nat.mul_one,bZ,cT,acs,Ty.dflt,zG,cK,cC,gm,ff,cY,dC,fa,Nat.div_one,cV,di,Ty.size,bq,dite_true,cH,reduceCtorEq,ad,J,ae,aj,af,ag,Tryz.el22,Tryz.el54,Tryz.st24,Tryz.td2,Tryz.td22,Tryz.td24,Tryz.td3,Tryz.td54,Mly.av];(repeat refine an ?_);(try refine .inl ?_);apply k0;clear k0;simp only[zP,J])
 refine zS6 ?_;refine ah (k2 _ (kx ?_));refine aa λ_ k3=>?_;have hsl:=sK m.nx.length [];refine am hP hN rfl ?_
 iterate 4 (refine aw rfl λ_ k0=>?_;simp only[zO,zT,acs,reduceCtorEq,ad,J,ae,aj,af,ag,Mly.av,aB];(repeat refine an ?_);(try refine .inl ?_);apply k0;clear k0;simp only[zP,J])
 refine ah (k3 _ (kx ?_));refine aa λK4 k4=>am hP hN rfl ?_
 iterate 2 refine zS6 ?_
 refine I6 ?_;refine zS6 ?_;refine ah (k4 _ (kx ?_));refine aa λ_ k5=>?_;refine zT5 ?_;refine ay ?_;refine aM (λn7 s7=>∃ (i:Nat) (l:List S2) (v:Nat),(WFX m l)∧(exF m (m.nx.length+1-i) i l=m.exR)∧(i≤l.length)∧n7=m.nx.length+1-i∧s7={env:=[(2,.one (.ptr 0 0 0 0)),(4,.one .nils),(5,.one (.row 1 0)),(6,.one (.row 2 v)),(7,.one (.int .i64 (i:Int)))],L:=[.vars 24 [.int .i64 m.inp,.int .i64 m.st,.list Γ m.nx,.list Γ m.ot],.row .bool 4 0 (fm m.nx.length (d9 l)),.row (.pair Θ (.pair Γ .unit)) 114 v (l.map lh)]}) ?_ ?_
 ·exact⟨_,_,ar [2,4,5,6,7],0,[(m.st,[])],0,qp hm,rfl,Nat.zero_le _,rfl,by rw[← GL hm.s1 hm.s2];rfl⟩
 rintro n7 s7 ⟨i,l,v,hwf,hxf,hil0,rfl,rfl⟩;refine aa λ_ k8=>?_;refine aa λK9 k9=>am hP hN rfl ?_
 iterate 4 refine Q3 ?_
 refine ah (k9 _ (kx ?_));refine cB (λhc10=>?_) (λhc10=>?_)
 ·refine au ?_
  refine k8 _ (kx ?_);refine aa λ_ k11=>?_;refine ay ?_;refine aa λ_ k12=>?_;have hil:i<l.length:=ω;have hx:=hwf.at_ hil;have hrl:=hm.rl (l.getD i eX0).1.toNat ω;have hgi:=si hil;have hbl:=hwf.le;refine bz hP hN Tryz.mixed rfl ?_
  iterate 11 refine J3 hgi ?_
  refine ah ?_;refine⟨ζ,?_⟩;refine k12 _ (kx ?_);refine ay ?_;refine aM (λn13 s13=>∃ (j:Nat) (v2:Nat),((j:Int)≤m.inp)∧(WFX m (ep m (l.getD i eX0) l j))∧n13=m.inp.toNat-j∧s13={env:=[(2,.one (.ptr 0 0 0 0)),(4,.one .nils),(5,.one (.row 1 0)),(6,.one (.row 2 v2)),(7,.one (.int .i64 (i:Int))),(34,.one (.list Θ (m.nx.getD (l.getD i eX0).1.toNat []))),(35,.one (.int .i64 ((m.nx.getD (l.getD i eX0).1.toNat []).length:Int))),(36,.one (.int .i64 (j:Int)))],L:=[.vars 24 [.int .i64 m.inp,.int .i64 m.st,.list Γ m.nx,.list Γ m.ot],.row .bool 4 0 (fm m.nx.length (d9 (ep m (l.getD i eX0) l j))),.row (.pair Θ (.pair Γ .unit)) 114 v2 ((ep m (l.getD i eX0) l j).map lh)]}) ?_ ?_
  ·exact⟨_,_,ar [2,4,5,6,7,34,35,36],0,v,ω,hwf,rfl,rfl⟩
  rintro n13 s13 ⟨j,v2,hj0,hwr,rfl,rfl⟩;refine zT5 ?_;refine aa λ_ k15=>?_;refine cB (λhc16=>?_) (λhc16=>?_)
  ·refine au ?_
   refine k15 _ (kx ?_);refine aa λ_ k17=>?_;refine ay ?_;refine aa λ_ k18=>?_;have hnr:=hm.nr (l.getD i eX0).1.toNat j ω ω;have hsl:=sK m.nx.length (d9 (ep m (l.getD i eX0) l j));have hge:=nT m (l.getD i eX0) l j;have hgj:∀ d,((ep m (l.getD i eX0) l j).map lh).getD i d=((l.getD i eX0).1,((l.getD i eX0).2,())):=λd=>by rw[si ω,Do m _ j hil]
   have hwl:=hwf.wl _ (BJ hil);have hbr:=hwr.le;refine Jq (h:=k18 _ (kx ?_));refine aa λK19 k19=>am hP hN rfl ?_
   iterate 5 refine Qi ?_
   refine ah (k19 _ (kx ?_));refine cB (λhc20=>?_) (λhc20=>?_)
   ·have hin1:((m.row (l.getD i eX0).1).getD j 0)∉d9 (ep m (l.getD i eX0) l j):=by have hq:=hc20;rw[xg ω ω] at hq;simpa using hq
    refine zT5 ?_;refine am hP hN rfl ?_
    iterate 10 refine J3 hgj ?_
    refine aw rfl λ_ k0=>?_;refine bo (h:=ak (dP [(l.getD i eX0).2,[(j:Int)]] (by have hq:=hwl;revert hq;simp;omega))) rfl rfl (by first|exact rfl|(simp only[ev,zP,ad,J];exact rfl)) (by simp only[zV,acs,reduceCtorEq,ad,J,ae,aj,af,ag,Mly.av,gt,az,hgj,aE]) ?_;apply k0;clear k0;simp only[zP,J]
    iterate 4 refine J3 hgj ?_
    refine ah (k17 _ (kx ?_));refine zR5 (h:=?_)
    first
    |(obtain⟨e1,e2⟩:=HM hin1 hnr.1 hnr.2
      refine⟨_,_,?_,ar [2,4,5,6,7,34,35,36],j+1,v2+1,ω,hwf.row hm hil (j+1) ω,rfl,?_⟩
      ·omega
      ·rw[e1,e2];rfl)
    |(have e3:=MD hin2
      refine⟨_,_,?_,ar [2,4,5,6,7,34,35,36],j+1,v2,ω,hwf.row hm hil (j+1) ω,rfl,?_⟩
      ·omega
      ·rw[e3];rfl)
   have hin2:((m.row (l.getD i eX0).1).getD j 0)∈d9 (ep m (l.getD i eX0) l j):=by have hq:=hc20;rw[xg ω ω] at hq;simpa using hq
   refine au (k17 _ (kx ?_));refine zR5 (h:=?_)
   first
   |(obtain⟨e1,e2⟩:=HM hin1 hnr.1 hnr.2
     refine⟨_,_,?_,ar [2,4,5,6,7,34,35,36],j+1,v2+1,ω,hwf.row hm hil (j+1) ω,rfl,?_⟩
     ·omega
     ·rw[e1,e2];rfl)
   |(have e3:=MD hin2
     refine⟨_,_,?_,ar [2,4,5,6,7,34,35,36],j+1,v2,ω,hwf.row hm hil (j+1) ω,rfl,?_⟩
     ·omega
     ·rw[e3];rfl)
  refine aL ?_;refine k11 _ (kx ?_);refine zR5 (h:=?_);have hil:i<l.length:=ω;have hbl:=hwf.le;have hge:=nT m (l.getD i eX0) l j;have hxe:j=m.inp.toNat:=ω;subst hxe;refine⟨_,_,?_,ar [2,4,5,6,7],i+1,ep m (l.getD i eX0) l m.inp.toNat,v2,hwr,?_,ω,rfl,rfl⟩
  ·omega
  ·rw[← hxf,show m.nx.length+1-i=(m.nx.length+1-(i+1))+1 by omega,Ah m _ _ _ hil]
 refine aL ?_;refine k5 _ (kx ?_);refine zT5 ?_;refine aA ?_;refine zZm ?_;have hle:=DG m (m.nx.length+1-i) i l ω;rw[hle] at hxf;rw[← hxf]
 all_goals rfl
theorem Hb (m:Mly):aY Tryz.prog 37 [m.av] (.tup [.one (.list Θ (DT m)),.one (.list Γ (cW m)),.one (.int .i64 (aK m))]):=by
 refine zQ 37 Tryz.func37 λC hP hN hB=>?_;have hX:KX [0,1,2,3,4,5,6,7,9,13,18,19,20,21]:=⟨trivial⟩
 refine zT5 ?_;refine aa λ_ k2=>?_;refine aa λK3 k3=>am hP hN rfl ?_;refine zS6 ?_;refine zC8 (ak (fu m)) ?_;refine zS6 ?_;refine ah (k3 _ (kx ?_));refine zT5 ?_;refine cB (λhc5=>?_) (λhc5=>?_)
 ·refine zT5 ?_
  refine aA ?_;refine⟨nr,_,rfl,?_⟩;simp only[zF,zP,ad,J,Mly.av]
  first
  |(have htk:m.exR.take k=m.exR:=by rw[show k=m.exR.length by omega,aP]
    rw[htk];unfold DT cW;rw[if_pos hv,if_pos hv,hv];exact VLE.of_eq rfl)
  |(unfold DT cW
    rw[if_neg ‹¬aK m=0›,if_neg ‹¬aK m=0›];exact bl ⟨aD (aS rfl),aD (aS rfl),aD (.refl _),trivial⟩)
 have hv:aK m=0:=ω;have hm:=fc hv;have hxl:=(qJ hm).le;have h3:=hm.n2;refine au (k2 _ (kx ?_));refine zT5 ?_;refine zT5 ?_;refine aa λ_ k9=>?_;refine aa λK10 k10=>am hP hN rfl ?_
 iterate 3 refine Q3 ?_
 refine aw rfl λ_ k0=>?_;refine bo (h:=ak (Ld m hm)) rfl rfl (by first|exact rfl|(simp only[ev,zP,ad,J];exact rfl)) (by simp only[zV,acs,reduceCtorEq,ad,J,ae,aj,af,ag,Mly.av,aE]) ?_;apply k0;clear k0;simp only[zP,J]
 iterate 2 refine Q3 ?_
 refine ah (k10 _ (kx ?_));refine ay ?_;refine eC 6 Θ 3 δ rfl ?_;simp only[ax,aF,aG,aC,Nat.zero_add,J];refine eC 7 Γ 26 δ rfl ?_;simp only[ax,aF,aG,aC,Nat.zero_add,J];refine aM (λn11 s11=>∃ (k:Nat) (v:Nat) (u:Nat),(k≤m.exR.length)∧n11=m.exR.length-k∧s11={env:=[(2,.one .nils),(3,.one .nils),(4,.one (.int .i64 0)),(6,.one (.row 1 v)),(7,.one (.row 2 u)),(18,.one (.list (.pair Θ (.pair Γ .unit)) (m.exR.map lh))),(19,.one (.int .i64 (m.exR.length:Int))),(20,.one (.int .i64 (k:Int)))],L:=[.vars 24 [.int .i64 m.inp,.int .i64 m.st,.list Γ m.nx,.list Γ m.ot],.row Θ 3 v (d9 (m.exR.take k)),.row Γ 26 u (qG (m.exR.take k))]}) ?_ ?_
 ·exact⟨_,_,ar [2,3,4,6,7,18,19,20],0,0,0,Nat.zero_le _,rfl,rfl⟩
 rintro n11 s11 ⟨k,v,u,hk,rfl,rfl⟩;refine zT5 ?_;refine aa λ_ k13=>?_;refine cB (λhc14=>?_) (λhc14=>?_)
 ·refine au ?_
  refine k13 _ (kx ?_);refine aa λ_ k15=>?_;refine ay ?_;refine aa λ_ k16=>?_;have hkl:k<m.exR.length:=ω;have hgk:=si hkl;have hfl:(d9 (m.exR.take k)).length=k:=by rw[jT,List.length_take];omega
  have hsl:(qG (m.exR.take k)).length=k:=by rw[z6,List.length_take];omega
  refine am hP hN rfl ?_
  iterate 4 refine J3 hgk ?_
  refine ah (k16 _ (kx ?_));refine zT5 ?_;refine zR5 (h:=k15 _ (kx ?_));refine fJ [2,3,4,6,7,18,19,20] ?_;simp only[dh,lkp,zE,reduceCtorEq,ad];refine jx (L1:=[_,_,_]) rfl hB rfl rfl ?_;refine zR5 (h:=?_);refine⟨_,_,?_,ar [2,3,4,6,7,18,19,20],k+1,v+1,u+1,ω,rfl,?_⟩
  ·omega
  ·rw[N6 hkl,O8 hkl];rfl
 refine aL ?_;refine k9 _ (kx ?_);refine zT5 ?_;refine aA ?_;refine⟨nr,_,rfl,?_⟩;simp only[zF,zP,ad,J,Mly.av]
 first
 |(have htk:m.exR.take k=m.exR:=by rw[show k=m.exR.length by omega,aP]
   rw[htk];unfold DT cW;rw[if_pos hv,if_pos hv,hv];exact VLE.of_eq rfl)
 |(unfold DT cW
   rw[if_neg ‹¬aK m=0›,if_neg ‹¬aK m=0›];exact bl ⟨aD (aS rfl),aD (aS rfl),aD (.refl _),trivial⟩)
theorem QK (m:Mly):aY Tryz.prog 17 [m.av] (.tup [.one (.list Γ (cW m)),.one (.int .i64 (aK m))]):=by
 refine zQ 15 Tryz.func17 λC hP hN hB=>?_;have hX:KX [0,1,2,3,5,6]:=⟨trivial⟩
 refine zT5 ?_;refine aa λK2 k2=>am hP hN rfl ?_;refine zS6 ?_;refine zC8 (ak (Hb m)) ?_
 iterate 7 refine zS6 ?_
 refine ah (k2 _ (kx ?_));refine zT5 ?_;refine aA ?_;refine zZm ?_
 rfl
theorem Sg (m:Mly):aY Tryz.prog 18 [m.av] (.tup [.one (.list Γ (ef m)),.one (.int .i64 (aK m))]):=by
 refine zQ 43 Tryz.func18 λC hP hN hB=>?_;have hX:KX [0,1,2,3,5,6,7,9,10,18,20,21,22,23,27,28,29]:=⟨trivial⟩
 refine zT5 ?_;refine aa λK2 k2=>am hP hN rfl ?_;refine zS6 ?_;refine zC8 (ak (Hb m)) ?_
 iterate 7 refine zS6 ?_
 refine ah (k2 _ (kx ?_));refine aa λ_ k3=>?_;refine zT5 ?_;refine cB (λhc5=>?_) (λhc5=>?_)
 ·refine zT5 ?_
  refine aA ?_;refine⟨nr,_,rfl,?_⟩;simp only[zF,zP,ad,J,Mly.av]
  first
  |(unfold ef;rw[if_pos hv,hv];exact VLE.of_eq rfl)
  |(unfold ef;rw[if_neg ‹¬aK m=0›];exact bl ⟨aD (aS rfl),aD (.refl _),trivial⟩)
 have hv:aK m=0:=ω;have hm:=fc hv;have h3:=hm.n2;have hi1:=hm.i1;have hi2:=hm.i2;have hal:=jY hm;refine au (k3 _ (kx ?_));refine zT5 ?_;refine aa λ_ k8=>?_;refine zT5 ?_;refine ay ?_;refine eC 7 Γ 26 δ rfl ?_;simp only[ax,aF,aG,aC,Nat.zero_add,J];refine aM (λn10 s10=>∃ (k:Nat) (v:Nat),(k≤(cW m).length)∧n10=(cW m).length-k∧s10={env:=[(1,.one (.ptr 0 0 0 0)),(2,.one .nils),(3,.one (.int .i64 0)),(7,.one (.row 1 v)),(20,.one (.list Γ (cW m))),(21,.one (.int .i64 ((cW m).length:Int))),(22,.one (.int .i64 (k:Int)))],L:=[.vars 24 [.int .i64 m.inp,.int .i64 m.st,.list Γ m.nx,.list Γ m.ot],.row Γ 26 v (trO ((cW m).take k) m.inp.toNat)]}) ?_ ?_
 ·exact⟨_,_,ar [1,2,3,7,20,21,22],0,0,Nat.zero_le _,rfl,rfl⟩
 rintro n10 s10 ⟨k,v,hk,rfl,rfl⟩;refine zT5 ?_;refine aa λ_ k12=>?_;refine cB (λhc13=>?_) (λhc13=>?_)
 ·refine au ?_
  refine k12 _ (kx ?_);refine aa λ_ k14=>?_;refine ay ?_;refine lA ?_;refine aa λ_ k16=>?_;have hwl:=nI hm (dn (show k<(cW m).length by omega));refine zR5 (h:=k16 _ (kx ?_));refine ay ?_;refine aM (λn17 s17=>∃ (j:Nat) (v2:Nat),((j:Int)≤m.inp)∧n17=m.inp.toNat-j∧s17={env:=[(1,.one (.ptr 0 0 0 0)),(2,.one .nils),(3,.one (.int .i64 0)),(7,.one (.row 1 v2)),(9,.one (.list Θ ((cW m).getD k []))),(20,.one (.list Γ (cW m))),(21,.one (.int .i64 ((cW m).length:Int))),(22,.one (.int .i64 (k:Int))),(27,.one (.int .i64 m.inp)),(28,.one (.int .i64 (j:Int)))],L:=[.vars 24 [.int .i64 m.inp,.int .i64 m.st,.list Γ m.nx,.list Γ m.ot],.row Γ 26 v2 (trO ((cW m).take k) m.inp.toNat++ko ((cW m).getD k []) j)]}) ?_ ?_
  ·exact⟨_,_,ar [1,2,3,7,9,20,21,22,27,28],0,v,ω,rfl,by rw[show ko ((cW m).getD k []) 0=[] from rfl,List.append_nil];rfl⟩
  rintro n17 s17 ⟨j,v2,hj,rfl,rfl⟩;refine zT5 ?_;refine aa λ_ k19=>?_;refine cB (λhc20=>?_) (λhc20=>?_)
  ·refine au ?_
   refine k19 _ (kx ?_);refine aa λ_ k21=>?_;refine ay ?_;refine zT5 ?_;have hl1:=qc m.inp.toNat ((cW m).take k);have hl2:=xi ((cW m).getD k []) j;have hl3:((cW m).take k).length*m.inp.toNat≤128*64:=Nat.mul_le_mul (by rw[List.length_take];omega) ω;have hl4:(trO ((cW m).take k) m.inp.toNat++ko ((cW m).getD k []) j).length≤100000:=by rw[aq];omega
   refine am hP hN rfl ?_
   iterate 5 refine zS6 ?_
   refine zC8 (ak (dP [(cW m).getD k [],[(j:Int)]] (by have hq:=hwl;revert hq;simp;omega))) ?_
   iterate 3 refine zS6 ?_
   refine ah (k21 _ (kx ?_));refine zR5 (h:=?_);refine⟨_,_,?_,ar [1,2,3,7,9,20,21,22,27,28],j+1,v2+1,ω,rfl,?_⟩
   ·omega
   ·rw[Dr,← List.append_assoc];rfl
  refine aL ?_;refine k14 _ (kx ?_);refine zR5 (h:=?_);have hje:j=m.inp.toNat:=ω;subst hje;refine⟨_,_,?_,ar [1,2,3,7,20,21,22],k+1,v2,ω,rfl,?_⟩
  ·omega
  ·rw[Ri ω];rfl
 refine aL ?_;refine k8 _ (kx ?_);refine aa λ_ k23=>?_;have htk:(cW m).take k=cW m:=by rw[show k=(cW m).length by omega,aP]
 rw[htk];refine cA 1 rfl ?_;simp only[aJ,aV,zS,ad,ZW,reduceCtorEq];refine am hP hN rfl ?_;refine zS6 ?_;refine zC8 (ak (iL (trO (cW m) m.inp.toNat) (by rw[qc];have hq:(cW m).length*m.inp.toNat≤128*64:=Nat.mul_le_mul ω ω;omega) (Rj hm))) ?_
 iterate 2 refine zS6 ?_
 refine ah (k23 _ (kx ?_));refine aA ?_;refine⟨nr,_,rfl,?_⟩;simp only[zF,zP,ad,J,Mly.av]
 first
 |(unfold ef;rw[if_pos hv,hv];exact VLE.of_eq rfl)
 |(unfold ef;rw[if_neg ‹¬aK m=0›];exact bl ⟨aD (aS rfl),aD (.refl _),trivial⟩)
theorem Tf (m:Mly):aY Tryz.prog 39 [m.av] (.one (.int .i64 (jg m))):=by
 refine zQ 12 Tryz.func39 λC hP hN hB=>?_;have hX:KX [0,1,2,3,7,11]:=⟨trivial⟩
 refine zT5 ?_;refine aa λ_ k2=>?_;refine aa λK3 k3=>am hP hN rfl ?_;refine zS6 ?_;refine zC8 (ak (fu m)) ?_;refine zS6 ?_;refine ah (k3 _ (kx ?_));refine zT5 ?_;refine cB (λhc5=>?_) (λhc5=>?_)
 ·refine zT5 ?_
  refine aA ?_;refine zZm ?_;refine congrArg (λn=>AV.one (AC.int IntKind.i64 n)) ?_;unfold jg
  symm
  first
  |(rw[if_pos ω];done)
  |(rw[if_neg ω,if_neg (by simp_all)];done)
  |(rw[if_neg ω,if_pos (by simp_all)];done)
 refine au (k2 _ (kx ?_));refine aa λ_ k7=>?_;refine aa λK8 k8=>am hP hN rfl ?_;refine zS6 ?_;refine zC8 (ak (A6 m)) ?_;refine zS6 ?_;refine ah (k8 _ (kx ?_));refine cB (λhc9=>?_) (λhc9=>?_)
 ·refine zT5 ?_
  refine aA ?_;refine zZm ?_;refine congrArg (λn=>AV.one (AC.int IntKind.i64 n)) ?_;unfold jg
  symm
  first
  |(rw[if_pos ω];done)
  |(rw[if_neg ω,if_neg (by simp_all)];done)
  |(rw[if_neg ω,if_pos (by simp_all)];done)
 refine au (k7 _ (kx ?_));refine zT5 ?_;refine aA ?_;refine zZm ?_;refine congrArg (λn=>AV.one (AC.int IntKind.i64 n)) ?_;unfold jg
 symm
 first
 |(rw[if_pos ω];done)
 |(rw[if_neg ω,if_neg (by simp_all)];done)
 |(rw[if_neg ω,if_pos (by simp_all)];done)
theorem Cg (m:Mly)(s:Int)(w:List Int)(hs:SOK m s)(hw:WOK w m.inp):aY Tryz.prog 77 [m.av,.one (.int .i64 s),.one (.list Θ w)] (.one (.list Θ (m.go s w).2)):=by
 refine zQ 40 Tryz.func77 λC hP hN hB=>?_;have hX:KX [0,1,2,3,6,7,9,13,14,15,16]:=⟨trivial⟩
 have hlen:=hw.len;refine zT5 ?_;refine aa λK2 k2=>am hP hN rfl ?_
 iterate 2 refine zS6 ?_
 (refine aw rfl λ_ k0=>?_;simp only[zE,op1,ev,lkp,cR,bP,cC,gm,ff,cY,dC,fa,Nat.div_one,cV,di,Ty.size,bq,dite_true,cH,Ty.dflt,reduceCtorEq,ad,J,ae,aj,af,ag,Tryz.el26,Tryz.td26,Tryz.td3,Mly.av];(repeat refine an ?_);(try refine .inl ?_);apply k0;clear k0;simp only[zP,J])
 refine zS6 ?_;refine ah (k2 _ (kx ?_));refine aa λ_ k3=>?_;refine zT5 ?_;refine ay ?_;refine aM (λn5 s5=>∃ (k:Nat) (v:Nat),(k≤w.length)∧n5=w.length-k∧s5={env:=[(1,.one (.int .i64 (m.go s (w.take k)).1)),(3,.one (.ptr 0 0 0 0)),(6,.one .nils),(7,.one (.row 1 v)),(13,.one (.list Θ w)),(14,.one (.int .i64 (w.length:Int))),(15,.one (.int .i64 (k:Int)))],L:=[.vars 24 [.int .i64 m.inp,.int .i64 m.st,.list Γ m.nx,.list Γ m.ot],.row Θ 3 v (m.go s (w.take k)).2]}) ?_ ?_
 ·exact⟨_,_,ar [1,3,6,7,13,14,15],0,0,Nat.zero_le _,rfl,rfl⟩
 rintro n5 s5 ⟨k,v,hk,rfl,rfl⟩;have hgo:=NK hs.ok hs.s0 hs.s1 hw k hk;have hlen:=hw.len;have hgl:=oD m s (w.take k);rw[List.length_take] at hgl;have h1:=hs.ok.rl (m.go s (w.take k)).1.toNat ω;have h2:=hs.ok.ql (m.go s (w.take k)).1.toNat ω;have h3:=hs.ok.ol;have hsy:=hw.sym k;refine zT5 ?_;refine aa λ_ k7=>?_;refine cB (λhc8=>?_) (λhc8=>?_)
 ·refine au ?_
  refine k7 _ (kx ?_);refine aa λ_ k9=>?_;refine ay ?_;refine zT5 ?_;refine zT5 ?_;refine zR5 (h:=k9 _ (kx ?_));refine zR5 (h:=?_);refine⟨_,_,?_,ar [1,3,6,7,13,14,15],k+1,v+1,ω,rfl,?_⟩
  ·omega
  ·rw[kG m s ω];rfl
 refine aL ?_;refine k3 _ (kx ?_);refine zT5 ?_;refine aA ?_;refine zZm ?_;have htk:w.take k=w:=by rw[show k=w.length by omega,aP]
 rw[htk];try simp
theorem R1 (m:Mly)(s t:Int)(w:List Int)(hs:SOK m s)(ht:SOK m t)(hw:WOK w m.inp):aY Tryz.prog 76 [.one (.list Θ w),.one (.pat (.pair Θ (.pair Θ (.pair (.list Γ) (.pair (.list Γ) .unit)))) (m.inp,(m.st,(m.nx,(m.ot,())))) 0),.one (.pat Θ s 0),.one (.pat Θ t 0)] (.one (.bool (nN m s t w))):=by
 refine zQ 16 Tryz.func76 λC hP hN hB=>?_;have hX:KX [0,1,2,3,5]:=⟨trivial⟩
 refine zT5 ?_;refine aa λ_ k2=>?_;refine bz hP hN Tryz.mixed rfl ?_
 iterate 3 refine zS6 ?_
 refine zC8 (ak (Cg m s w hs hw)) ?_
 iterate 3 refine zS6 ?_
 refine zC8 (ak (Cg m t w ht hw)) ?_;refine zC8 (ak (PH (m.go s w).2 (m.go t w).2)) ?_
 iterate 2 refine zS6 ?_
 refine ah ?_;refine⟨ζ,?_⟩;refine k2 _ (kx ?_);refine aA ?_;refine zZm ?_
 rfl
theorem Ps (ws:List (List Int))(f:Nat)(caps:List Cap)(p:List Int→Bool)(hcap:caps.all mO=true)(hf:∀ k,k<ws.length→aY Tryz.prog f (.one (.list Θ (ws.getD k []))::caps.map dG) (.one (.bool (p (ws.getD k []))))):aY Tryz.prog 75 [.one (.list Γ ws),.one (.fn f caps)] (.one (.bool (ws.any p))):=by
 refine jn Tryz.func75 rfl ζ (Nat.le_of_ble_eq_true rfl) (by simp only[List.all_cons,List.all_nil,iK,mP,gu,hcap,Bool.and_true]) λC hP hN hB=>?_;have hX:KX [0,1,4,6,7,8,9,10,15]:=⟨trivial⟩
 replace hN:C.N=17:=hN;simp only[cm,J];refine fT 0 rfl λhf0=>?_;simp only[lkp,if_true,if_false,reduceCtorEq,ad,eq_self,Nat.one_ne_zero,Nat.zero_ne_one,lc,kD,kd,Fit,and_true,implies_true,true_and] at hf0;refine zT2 ?_;refine aa λ_ k2=>?_;refine zT2 ?_;refine ay ?_;refine aM (λn4 s4=>∃ (k:Nat),(k≤ws.length)∧(∀ q:Nat,q<k→p (ws.getD q [])=false)∧n4=ws.length-k∧s4={env:=[(1,.one (.fn f caps)),(4,.one (.bool false)),(7,.one (.list Γ ws)),(8,.one (.int .i64 (ws.length:Int))),(9,.one (.int .i64 (k:Int)))],L:=[]}) ?_ ?_
 ·exact⟨_,_,ar [1,4,7,8,9],0,Nat.zero_le _,λi hi=>by omega,rfl,rfl⟩
 rintro n4 s4 ⟨k,hk,hq,rfl,rfl⟩;refine zT2 ?_;refine aa λ_ k6=>?_;refine cB (λhc7=>?_) (λhc7=>?_)
 ·refine au ?_
  refine k6 _ (kx ?_);refine aa λ_ k8=>?_;refine ay ?_;refine Ou ?_;refine aa λK10 k10=>am hP hN rfl ?_
  iterate 2 refine zS3 ?_
  refine zC9 (ak (hf k ω)) ?_;refine ah (k10 _ (kx ?_));refine cB (λhc11=>?_) (λhc11=>?_)
  ·have hp:=hc11
   refine zT2 ?_;refine aA ?_;refine zZn ?_;refine congrArg (λb=>AV.one (AC.bool b)) ?_
   symm
   first
   |exact xf (k:=k) ω (by simpa using hp)
   |exact zf λq hq2=>hq q ω
  have hp:=hc11;refine au (k8 _ (kx ?_));refine zR2 (h:=?_);refine⟨_,_,?_,ar [1,4,7,8,9],k+1,ω,λq hq2=>?_,rfl,rfl⟩
  ·omega
  ·by_cases e:q=k
   ·rw[e];simpa using hp
   ·exact hq q ω
 refine aL ?_;refine k2 _ (kx ?_);refine zT2 ?_;refine aA ?_;refine zZn ?_;refine congrArg (λb=>AV.one (AC.bool b)) ?_
 symm
 first
 |exact xf (k:=k) ω (by simpa using hp)
 |exact zf λq hq2=>hq q ω
theorem T9 (m:Mly)(ws:List (List Int))(s t:Int)(hs:SOK m s)(ht:SOK m t)(hw:∀ w,w∈ws→WOK w m.inp):aY Tryz.prog 40 [m.av,.one (.list Γ ws),.one (.int .i64 s),.one (.int .i64 t)] (.one (.bool (ws.any (nN m s t)))):=by
 refine zQ 12 Tryz.func40 λC hP hN hB=>?_;have hX:KX [0,1,2,3,4,6,7,8]:=⟨trivial⟩
 refine zT5 ?_;refine aa λ_ k2=>?_;refine gJ 0 (.pair Θ (.pair Θ (.pair (.list Γ) (.pair (.list Γ) .unit)))) rfl rfl ?_;simp only[aJ,aV,shV,if_true,zS,if_false,eq_self,ad,reduceCtorEq,Nat.one_ne_zero,Nat.zero_ne_one];refine gJ 1 Θ rfl rfl ?_;simp only[aJ,aV,shV,if_true,zS,if_false,eq_self,ad,reduceCtorEq,Nat.one_ne_zero,Nat.zero_ne_one];refine gJ 2 Θ rfl rfl ?_;simp only[aJ,aV,shV,if_true,zS,if_false,eq_self,ad,reduceCtorEq,Nat.one_ne_zero,Nat.zero_ne_one];refine am hP hN rfl ?_;refine zS6 ?_
 (refine aw rfl λ_ k0=>?_;simp only[zE,op1,ev,lkp,cR,bP,fv,iJ,nD,reduceCtorEq,ad,J,ae,aj,af,ag,Tryz.el22,Tryz.td118,Tryz.td22,Mly.av];(repeat refine an ?_);(try refine .inl ?_);apply k0;clear k0;simp only[zP,J])
 refine zC8 (ak (Ps ws 76 [.pat (.pair Θ (.pair Θ (.pair (.list Γ) (.pair (.list Γ) .unit)))) (m.inp,(m.st,(m.nx,(m.ot,())))),.pat Θ s,.pat Θ t] (nN m s t) rfl (λk hk=>R1 m s t (ws.getD k []) hs ht (hw _ (dn hk))))) ?_;refine zS6 ?_;refine ah (k2 _ (kx ?_));refine aA ?_;refine zZm ?_
 rfl
theorem UZ (m:Mly)(hn:m.nx.length≤12):aY Tryz.prog 19 [m.av] (.tup [.one (.list Γ (lp m)),.one (.int .i64 (jg m))]):=by
 refine zQ 54 Tryz.func19 λC hP hN hB=>?_;have hX:KX [0,1,2,3,4,5,6,7,8,10,14,18,19,20,28,35,45]:=⟨trivial⟩
 refine zT5 ?_;refine aa λ_ k2=>?_;refine aa λK3 k3=>am hP hN rfl ?_;refine zS6 ?_;refine zC8 (ak (Tf m)) ?_;refine zS6 ?_;refine ah (k3 _ (kx ?_));refine zT5 ?_;refine cB (λhc5=>?_) (λhc5=>?_)
 ·refine zT5 ?_
  refine aA ?_;refine⟨nr,_,rfl,?_⟩;simp only[zF,zP,ad,J,Mly.av]
  first
  |(unfold lp;rw[if_pos hv,hv];exact VLE.of_eq rfl)
  |(unfold lp;rw[if_neg ‹¬jg m=0›];exact bl ⟨aD (aS rfl),aD (.refl _),trivial⟩)
 have hv:jg m=0:=ω;have hm:=Oa hv;have hca:=jw.all hm hn m.nx.length (Υ _);refine au (k2 _ (kx ?_));refine zT5 ?_;refine aa λ_ k8=>?_;refine zT5 ?_;refine ay ?_;refine eC 5 Γ 26 δ rfl ?_;simp only[ax,aF,aG,aC,Nat.zero_add,J];refine aM (λn10 s10=>∃ (k:Nat) (v:Nat),(k≤m.nx.length)∧n10=m.nx.length-k∧s10={env:=[(1,.one (.ptr 0 0 0 0)),(2,.one .nils),(3,.one (.int .i64 0)),(5,.one (.row 1 v)),(18,.one (.int .i64 (m.nx.length:Int))),(19,.one (.int .i64 (k:Int)))],L:=[.vars 24 [.int .i64 m.inp,.int .i64 m.st,.list Γ m.nx,.list Γ m.ot],.row Γ 26 v (csS m k)]}) ?_ ?_
 ·exact⟨_,_,ar [1,2,3,5,18,19],0,0,Nat.zero_le _,rfl,rfl⟩
 rintro n10 s10 ⟨k,v,hk,rfl,rfl⟩;refine zT5 ?_;refine aa λ_ k12=>?_;refine cB (λhc13=>?_) (λhc13=>?_)
 ·refine au ?_
  refine k12 _ (kx ?_);refine aa λ_ k14=>?_;refine ay ?_;refine zT5 ?_;refine zT5 ?_;refine ay ?_;refine aM (λn17 s17=>∃ (j:Nat) (v2:Nat),(k+1+j≤m.nx.length)∧n17=m.nx.length-(k+1+j)∧s17={env:=[(1,.one (.ptr 0 0 0 0)),(2,.one .nils),(3,.one (.int .i64 0)),(5,.one (.row 1 v2)),(6,.one (.int .i64 (k:Int))),(7,.one (.int .i64 ((k+1+j:Nat):Int))),(18,.one (.int .i64 (m.nx.length:Int))),(19,.one (.int .i64 (k:Int)))],L:=[.vars 24 [.int .i64 m.inp,.int .i64 m.st,.list Γ m.nx,.list Γ m.ot],.row Γ 26 v2 (csT m k j (csS m k))]}) ?_ ?_
  ·exact⟨_,_,ar [1,2,3,5,6,7,18,19],0,v,ω,rfl,rfl⟩
  rintro n17 s17 ⟨j,v2,hj,rfl,rfl⟩;refine aa λ_ k18=>?_;refine zT5 ?_;refine cB (λhc20=>?_) (λhc20=>?_)
  ·refine au ?_
   refine k18 _ (kx ?_);refine aa λ_ k21=>?_;refine ay ?_;refine aa λ_ k22=>?_;refine aa λ_ k23=>?_;have hjn:k+1+j<m.nx.length:=ω;have hsk:SOK m (k:Int):=⟨hm,ω,ω⟩
   have hst:SOK m ((k+1+j:Nat):Int):=⟨hm,ω,ω⟩
   have hch:=jw.rows (s:=k) hm hn (jw.all hm hn k ω) ω j ω;have hse:stE m (k:Int) ((k+1+j:Nat):Int)=0:=by unfold stE;rw[if_pos (ci hm),if_pos ⟨⟨ω,ω⟩,ω,ω⟩]
   have hcl:=hch.1;refine am hP hN rfl ?_
   iterate 4 refine zS6 ?_
   refine zC8 (jv (args:=[m.av,.one (.row 1 v2),.one (.int .i64 (k:Int)),.one (.int .i64 ((k+1+j:Nat):Int))]) (by simp[fzV,fz1,fzC,Mly.av]) rfl (T9 m (csT m k j (csS m k)) (k:Int) ((k+1+j:Nat):Int) hsk hst (λw hw=>(hch.2 w hw).1)) rfl) ?_;refine ah (k23 _ (kx ?_));refine cB (λhc24=>?_) (λhc24=>?_)
   ·have hsp:(csT m k j (csS m k)).any (nN m (k:Int) ((k+1+j:Nat):Int))=true:=hc24
    refine aL ?_;refine k21 _ (kx ?_);refine zR5 (h:=?_)
    first
    |(refine⟨_,_,?_,ar [1,2,3,5,6,7,18,19],j+1,v2+1,ω,rfl,?_⟩
      ·omega
      ·rw[show csT m k (j+1) (csS m k)=csT m k j (csS m k)++[(stW m (k:Int) ((k+1+j:Nat):Int)).getD []] from if_neg hsp];rfl)
    |(refine⟨_,_,?_,ar [1,2,3,5,6,7,18,19],j+1,v2,ω,rfl,?_⟩
      ·omega
      ·rw[show csT m k (j+1) (csS m k)=csT m k j (csS m k) from if_pos hsp];rfl)
   have hsp:¬(csT m k j (csS m k)).any (nN m (k:Int) ((k+1+j:Nat):Int))=true:=by have hq:=hc24;rw[hq];decide
   refine au (k22 _ (kx ?_));refine aa λK25 k25=>am hP hN rfl ?_
   iterate 3 refine zS6 ?_
   refine zC8 (ak (Pf m (k:Int) ((k+1+j:Nat):Int))) ?_
   iterate 7 refine zS6 ?_
   refine ah (k25 _ (kx ?_));refine aa λ_ k26=>?_;refine zT5 ?_;refine cB (λhc28=>?_) (λhc28=>?_)
   ·exact zX hc28
   refine au (k26 _ (kx ?_));refine zR5 (h:=k21 _ (kx ?_));refine zR5 (h:=?_)
   first
   |(refine⟨_,_,?_,ar [1,2,3,5,6,7,18,19],j+1,v2+1,ω,rfl,?_⟩
     ·omega
     ·rw[show csT m k (j+1) (csS m k)=csT m k j (csS m k)++[(stW m (k:Int) ((k+1+j:Nat):Int)).getD []] from if_neg hsp];rfl)
   |(refine⟨_,_,?_,ar [1,2,3,5,6,7,18,19],j+1,v2,ω,rfl,?_⟩
     ·omega
     ·rw[show csT m k (j+1) (csS m k)=csT m k j (csS m k) from if_pos hsp];rfl)
  refine aL ?_;refine k14 _ (kx ?_);refine zR5 (h:=?_);have hje:j=m.nx.length-(k+1):=ω;subst hje;refine⟨_,_,?_,ar [1,2,3,5,18,19],k+1,v2,ω,rfl,rfl⟩;omega
 refine aL ?_;refine k8 _ (kx ?_);refine aa λ_ k29=>?_;have hkn:k=m.nx.length:=ω;rw[hkn];refine cA 1 rfl ?_;simp only[aJ,aV,zS,ad,ZW,reduceCtorEq];refine am hP hN rfl ?_;refine zS6 ?_;refine zC8 (ak (iL (csS m m.nx.length) (by have:=hca.1;omega) (λw hw=>by have:=(hca.2 w hw).2;omega))) ?_
 iterate 2 refine zS6 ?_
 refine ah (k29 _ (kx ?_));refine aA ?_;refine⟨nr,_,rfl,?_⟩;simp only[zF,zP,ad,J,Mly.av]
 first
 |(unfold lp;rw[if_pos hv,hv];exact VLE.of_eq rfl)
 |(unfold lp;rw[if_neg ‹¬jg m=0›];exact bl ⟨aD (aS rfl),aD (.refl _),trivial⟩)
theorem QF:aY Tryz.prog 211 [.one (.int .i64 36)] (.one (.bool false)):=by
 refine zQ 8 Tryz.func211 λC hP hN hB=>?_;have hX:KX [0,2]:=⟨trivial⟩
 refine zT2 ?_;refine zT2 ?_;refine aA ?_;refine zZn ?_;refine congrArg (λb=>AV.one (AC.bool b)) ?_
 decide
theorem Pt (n v:Nat)(xs:List Int)(hn:n<1679616)(hx:xs.length≤1000000000):cS Tryz.prog [.row (.int .u8) 5 v xs] 180 [.one (.row 0 v),.one (.int .u64 (n:Int)),.one (.int .i64 36),.one (.bool false),.one (.bool true)] {av:=.tup [.one (.row 0 (v+1)),.one (.str [])],upd:=[(0,.row (.int .u8) 5 (v+1) (xs++d36 n))],new:=[.dead 0],fp:=[0]}:=by
 refine fl _ _ Tryz.func180 rfl ζ (Nat.le_of_ble_eq_true rfl) (by intro k hk;simp only[ax,aF,Nat.zero_add,J] at hk;simp only[List.mem_cons,List.not_mem_nil,or_false];omega) (λC hP hN hB=>?_);have hX:KX [0,1,2,3,4,10,11,12,13,17,18,28,30,34,68,89,94]:=⟨trivial⟩
 replace hB:C.bL.length=1:=by rw[hB];rfl
 replace hN:C.N=102:=hN;simp only[cm,J];refine vv ?_;refine aa λ_ k2=>?_;refine aa λK3 k3=>am hP hN rfl ?_
 iterate 3 refine qx ?_
 refine' zJ false 2 21 (λhg4=>?a4) ?b4 ?c4
 case a4=>
  have hq4:=hg4;(try simp only[zB,reduceCtorEq] at hg4);simp only[zE]
  iterate 2 (refine db rfl λ_ k0=>?_;simp only[zO,zT,acs,reduceCtorEq,ad,J,ae,aj,af,ag,d7,fV,fY];(repeat refine an ?_);(try refine .inl ?_);apply k0;clear k0;simp only[zP,J])
  refine qx ?_;refine ah ?_;exact zK hq4
 case b4=>exact cF
 simp only[bh,aX];refine qx ?_;refine' zJ false 2 25 (λhg5=>?a5) ?b5 ?c5
 case a5=>
  have hq5:=hg5;(try simp only[zB,reduceCtorEq] at hg5);simp only[zE]
  iterate 2 (refine db rfl λ_ k0=>?_;simp only[zO,zT,acs,reduceCtorEq,ad,J,ae,aj,af,ag,d7,fV,fY];(repeat refine an ?_);(try refine .inl ?_);apply k0;clear k0;simp only[zP,J])
  refine qx ?_;refine ah ?_;exact zK hq5
 case b5=>exact cF
 simp only[bh,aX];refine ah (k3 _ (kx ?_));refine cB (λhc6=>?_) (λhc6=>?_)
 ·exact zX hc6
 refine au (k2 _ (kx ?_));refine vv ?_;refine vv ?_;refine aa λ_ k9=>?_;refine vv ?_;refine cB (λhc11=>?_) (λhc11=>?_)
 ·exact zX hc11
 refine au (k9 _ (kx ?_));refine aa λ_ k12=>?_;refine aa λK13 k13=>am hP hN rfl ?_;refine qx ?_;refine aw rfl λ_ k0=>?_;refine bo (h:=ak QF) rfl rfl (by first|exact rfl|(simp only[ev,zP,ad,J];exact rfl)) (by simp only[zV,acs,reduceCtorEq,ad,J,ae,aj,af,ag,d7,fV,fY]) ?_;apply k0;clear k0;simp only[zP,J];refine ah (k13 _ (kx ?_));refine cB (λhc14=>?_) (λhc14=>?_)
 ·exact zX hc14
 refine aa λK15 k15=>am hP hN rfl ?_;refine qx ?_
 (refine aw rfl λ_ k0=>?_;simp only[zE,op1,ev,lkp,cR,bP,eJ,reduceCtorEq,ad,J,ae,aj,af,ag,Tryz.td188,Tryz.td3,d7,fV,fY];(repeat refine an ?_);(try refine .inl ?_);apply k0;clear k0;simp only[zP,J])
 refine qx ?_;refine ah (k15 _ (kx ?_));refine aa λ_ k16=>?_;refine ay ?_;refine aM (λn17 s17=>∃ (u:Nat) (j:Nat) (l:List Int),(BUF n u j l)∧n17=u+1∧s17={env:=[(0,.one (.row 0 v)),(1,.one (.int .u64 (u:Int))),(3,.one (.bool false)),(4,.one (.bool true)),(10,.one .nils),(11,.one (.str [])),(12,.one (.ptr 1 0 0 0)),(13,.one (.int .i64 (65-(j:Int)))),(17,.one (.int .u64 36))],L:=[.row (.int .u8) 5 v xs,.vars 276 (bcl l)]}) ?_ ?_
 ·exact⟨_,_,ar [0,1,3,4,10,11,12,13,17],n,0,List.replicate 65 0,Uk hn,rfl,rfl⟩
 rintro n17 s17 ⟨u,j,l,hbf,rfl,rfl⟩;refine aa λ_ k18=>?_;refine vv ?_;refine cB (λhc20=>?_) (λhc20=>?_)
 ·refine au ?_
  refine k18 _ (kx ?_);refine ay ?_;refine aa λ_ k21=>?_;have hbu:=AS hbf.b;have hbl:=hbf.len;have hu36:36≤u:=by omega
  have hq1:(u:Int).tdiv 36=((u / 36:Nat):Int):=by rw[Int.tdiv_eq_ediv_of_nonneg ω];omega
  refine MY (h:=k21 _ (kx ?_));refine aa λK22 k22=>am hP hN rfl ?_
  iterate 4 (refine aw rfl λ_ k0=>?_;simp only[zO,zT,acs,reduceCtorEq,ad,J,ae,aj,af,ag,d7,fV,fY,hq1];(repeat refine an ?_);(try refine .inl ?_);apply k0;clear k0;simp only[zP,J])
  refine ah (k22 _ (kx ?_));refine aa λ_ k23=>?_;have hix:((65:Int)-(j:Int)-1).toNat=64-j:=ω;have hsb:(u:Int)-((u / 36:Nat):Int)*36=((u % 36:Nat):Int):=ω;have hw:∀ c,cg (bcl l) (64-j) [.int .u8 c]=bcl (l.set (64-j) c):=λc=>vo ω c;refine am hP hN rfl ?_
  iterate 9 (refine aw rfl λ_ k0=>?_;simp only[zE,op1,ev,lkp,cR,bP,gT,cZ,gk,gW,fH,iz,gV,bZ,cT,acs,dq,zG,Ty.dflt,Ty.size,Nat.mul_one,ne_eq,not_false_eq_true,Int.natCast_one,Int.mul_one,fo,cG,bq,reduceCtorEq,ad,J,ae,aj,af,ag,Tryz.ea276,Tryz.sa276,Tryz.td188,Tryz.td276,Tryz.td3,Tryz.td5,Tryz.td9,d7,fV,fY,hix,hsb,hw,az];(repeat refine an ?_);(try refine .inl ?_);apply k0;clear k0;simp only[zP,J])
  refine ah (k23 _ (kx ?_));refine MY (h:=?_);refine⟨_,_,?_,ar [0,1,3,4,10,11,12,13,17],u / 36,j+1,l.set (64-j) (c36 (u % 36)),LN hbf hu36,rfl,?_⟩
  ·omega
  ·rw[show(65:Int)-(j:Int)-1=65-((j+1:Nat):Int) by omega];rfl
 refine aL ?_;refine k16 _ (kx ?_);refine aa λ_ k24=>?_;have hbu:=AS hbf.b;have hbl:=hbf.len;refine MY (h:=k24 _ (kx ?_));have hix:((65:Int)-(j:Int)-1).toNat=64-j:=ω;have hw:∀ c,cg (bcl l) (64-j) [.int .u8 c]=bcl (l.set (64-j) c):=λc=>vo ω c;refine am hP hN rfl ?_
 iterate 5 (refine aw rfl λ_ k0=>?_;simp only[zE,op1,ev,lkp,cR,bP,gV,bZ,cT,acs,dq,zG,Ty.dflt,Ty.size,Nat.mul_one,ne_eq,not_false_eq_true,Int.natCast_one,Int.mul_one,fo,cG,bq,reduceCtorEq,ad,J,ae,aj,af,ag,Tryz.ea276,Tryz.sa276,Tryz.td188,Tryz.td276,Tryz.td3,Tryz.td5,Tryz.td9,d7,fV,fY,hix,hw,az];(repeat refine an ?_);(try refine .inl ?_);apply k0;clear k0;simp only[zP,J])
 refine ah (k12 _ (kx ?_));refine aa λ_ k25=>?_;refine vv ?_;refine cB (λhc27=>?_) (λhc27=>?_)
 ·exact zX hc27
 refine au (k25 _ (kx ?_));refine aa λ_ k28=>?_;refine vv ?_;refine cB (λhc30=>?_) (λhc30=>?_)
 ·refine aa λ_ k31=>?_
  refine gJ 1 (nk .u8 (l.set (64-j) (c36 u)).length) rfl (show bq (nk .u8 (l.set (64-j) (c36 u)).length) (bcl (l.set (64-j) (c36 u)))=some (vV .u8 (l.set (64-j) (c36 u))) from wL _) ?_;simp only[aJ,aV,shV,if_true,zS,if_false,eq_self,ad,reduceCtorEq,Nat.one_ne_zero,Nat.zero_ne_one];have hix:((65:Int)-(j:Int)-1).toNat=64-j:=ω;have hl65:(l.set (64-j) (c36 u)).length=65:=by simpa using hbl
  have htk:List.drop (64-j) (List.take (l.set (64-j) (c36 u)).length (l.set (64-j) (c36 u)))=d36 n:=by rw[aP];exact(Kg hbf ω).symm
  have hdl:=yb (n:=n);refine am hP hN rfl ?_
  iterate 2 (refine aw rfl λ_ k0=>?_;simp only[zO,zT,acs,reduceCtorEq,ad,J,ae,aj,af,ag,d7,fV,fY,hix,htk];(repeat refine an ?_);(try refine .inl ?_);apply k0;clear k0;simp only[zP,J,hix,htk])
  (refine aw rfl λ_ k0=>?_;simp only[zE,op1,ev,lkp,cR,bP,eZ,bnd,Ty.size,reduceCtorEq,ad,J,ae,aj,af,ag,Tryz.ea276,Tryz.el123,Tryz.sa276,Tryz.td123,Tryz.td276,d7,fV,fY,hix,htk];refine⟨.u8,l.set (64-j) (c36 u),5,_,_,_,rfl,by rw[hl65],Tryz.td5,rfl,rfl,rfl,ω,k0 _ ?_⟩;clear k0;simp only[zP,J,hix,htk])
  iterate 2 (refine aw rfl λ_ k0=>?_;simp only[zO,zT,acs,reduceCtorEq,ad,J,ae,aj,af,ag,d7,fV,fY,hix,htk];(repeat refine an ?_);(try refine .inl ?_);apply k0;clear k0;simp only[zP,J,hix,htk])
  refine ah (k31 _ (kx ?_));refine aA ?_;refine⟨by first|exact .inl rfl|exact .inr rfl,_,rfl,?_⟩;simp only[zP,ad,J,d7,fV,fY]
  all_goals(first|exact⟨rfl,rfl⟩|rfl)
 ·exact zX hc30
theorem Ot (n v:Nat)(xs:List Int)(hn:n<1679616)(hx:xs.length≤1000000000):cS Tryz.prog [.row (.int .u8) 5 v xs] 152 [.one (.row 0 v),.one (.int .u64 (n:Int)),.one (.int .i64 36)] {av:=.one (.row 0 (v+1)),upd:=[(0,.row (.int .u8) 5 (v+1) (xs++d36 n))],new:=[.dead 0],fp:=[0]}:=by
 refine fl _ _ Tryz.func152 rfl ζ (Nat.le_of_ble_eq_true rfl) (by intro k hk;simp only[ax,aF,Nat.zero_add,J] at hk;simp only[List.mem_cons,List.not_mem_nil,or_false];omega) (λC hP hN hB=>?_);have hX:KX [0,1,2,6,10]:=⟨trivial⟩
 replace hB:C.bL.length=1:=by rw[hB];rfl
 replace hN:C.N=36:=hN;simp only[cm,J];refine zT2 ?_;refine aa λ_ k2=>?_;refine zT2 ?_;refine cB (λhc4=>?_) (λhc4=>?_)
 ·exact zX hc4
 refine au (k2 _ (kx ?_));refine aa λK5 k5=>am hP hN rfl ?_
 iterate 3 refine zS3 ?_
 refine zC9 (Pt n v xs hn hx) ?_
 iterate 4 refine zS3 ?_
 refine ah (k5 _ (kx ?_));refine zT2 ?_;refine aA ?_;refine⟨by first|exact .inl rfl|exact .inr rfl,_,rfl,?_⟩;simp only[zP,ad,J]
 all_goals(first|exact⟨rfl,rfl⟩|rfl)
theorem RU (n v:Nat)(xs:List Int)(hn:n<1679616)(hx:xs.length≤1000000000):cS Tryz.prog [.row (.int .u8) 5 v xs] 118 [.one (.row 0 v),.one (.int .i64 (n:Int)),.one (.int .i64 36)] {av:=.one (.row 0 (v+1)),upd:=[(0,.row (.int .u8) 5 (v+1) (xs++d36 n))],new:=[.dead 0],fp:=[0]}:=by
 refine fl _ _ Tryz.func118 rfl ζ (Nat.le_of_ble_eq_true rfl) (by intro k hk;simp only[ax,aF,Nat.zero_add,J] at hk;simp only[List.mem_cons,List.not_mem_nil,or_false];omega) (λC hP hN hB=>?_);have hX:KX [0,1,2,6,7,11]:=⟨trivial⟩
 replace hB:C.bL.length=1:=by rw[hB];rfl
 replace hN:C.N=21:=hN;simp only[cm,J];refine aa λK1 k1=>am hP hN rfl ?_;refine Ai ?_;refine ah (k1 _ (kx ?_));refine aa λK2 k2=>am hP hN rfl ?_;refine Ai ?_
 (refine aw rfl λ_ k0=>?_;simp only[zE,op1,ev,lkp,cR,bP,eJ,reduceCtorEq,ad,J,ae,aj,af,ag,Tryz.td188,Tryz.td2,d7];(repeat refine an ?_);(try refine .inl ?_);apply k0;clear k0;simp only[zP,J])
 refine Ai ?_;refine ah (k2 _ (kx ?_));refine aa λ_ k3=>?_;refine aa λK4 k4=>am hP hN rfl ?_
 iterate 2 refine Ai ?_
 refine ah (k4 _ (kx ?_));refine cB (λhc5=>?_) (λhc5=>?_)
 ·exact zX hc5
 refine au (k3 _ (kx ?_));refine aa λK6 k6=>am hP hN rfl ?_
 iterate 3 refine Ai ?_
 refine aw rfl λ_ k0=>?_;refine bo (h:=Ot n v xs hn hx) rfl rfl (by first|exact rfl|(simp only[ev,zP,ad,J];exact rfl)) (by simp only[zV,acs,reduceCtorEq,ad,J,ae,aj,af,ag,d7]) ?_;apply k0;clear k0;simp only[zP,J];refine Ai ?_;refine ah (k6 _ (kx ?_));refine aA ?_;refine⟨by first|exact .inl rfl|exact .inr rfl,_,rfl,?_⟩;simp only[zP,ad,J,d7]
 all_goals(first|exact⟨rfl,rfl⟩|rfl)
theorem ND (n v:Nat)(xs:List Int)(hn:n<1679616)(hx:xs.length≤1000000000):cS Tryz.prog [.row (.int .u8) 5 v xs] 79 [.one (.row 0 v),.one (.int .i64 (n:Int)),.one (.int .i64 36)] {av:=.one (.row 0 (v+1)),upd:=[(0,.row (.int .u8) 5 (v+1) (xs++d36 n))],new:=[.dead 0],fp:=[0]}:=by
 refine fl _ _ Tryz.func79 rfl ζ (Nat.le_of_ble_eq_true rfl) (by intro k hk;simp only[ax,aF,Nat.zero_add,J] at hk;simp only[List.mem_cons,List.not_mem_nil,or_false];omega) (λC hP hN hB=>?_);have hX:KX [0,1,2,6]:=⟨trivial⟩
 replace hB:C.bL.length=1:=by rw[hB];rfl
 replace hN:C.N=11:=hN;simp only[cm,J];refine zT2 ?_;refine aa λK2 k2=>am hP hN rfl ?_
 iterate 3 refine zS3 ?_
 refine zC9 (RU n v xs hn hx) ?_;refine zS3 ?_;refine ah (k2 _ (kx ?_));refine aA ?_;refine⟨by first|exact .inl rfl|exact .inr rfl,_,rfl,?_⟩;simp only[zP,ad,J]
 all_goals(first|exact⟨rfl,rfl⟩|rfl)
theorem ST (xs:List Int)(hx:KB xs)(hl:xs.length≤100000000):aY Tryz.prog 43 [.one (.list Θ xs)] (.one (.str (jG xs))):=by
 refine zQ 20 Tryz.func43 λC hP hN hB=>?_;have hX:KX [0,2,3,5,6,7,8,9]:=⟨trivial⟩
 refine zT2 ?_;refine zT2 ?_;refine aa λ_ k3=>?_;refine zT2 ?_;refine ay ?_;refine eC 3 (.int .u8) 5 δ rfl ?_;simp only[ax,aF,aG,aC,Nat.zero_add,J];refine aM (λn5 s5=>∃ (k:Nat) (v:Nat),(k≤xs.length)∧n5=xs.length-k∧s5={env:=[(2,.one (.str [])),(3,.one (.row 0 v)),(6,.one (.list Θ xs)),(7,.one (.int .i64 (xs.length:Int))),(8,.one (.int .i64 (k:Int)))],L:=[.row (.int .u8) 5 v (lx (xs.take k))]}) ?_ ?_
 ·exact⟨_,_,ar [2,3,6,7,8],0,0,Nat.zero_le _,rfl,rfl⟩
 rintro n5 s5 ⟨k,v,hk,rfl,rfl⟩;refine zT2 ?_;refine aa λ_ k7=>?_;refine cB (λhc8=>?_) (λhc8=>?_)
 ·refine au ?_
  refine k7 _ (kx ?_);refine aa λ_ k9=>?_;refine ay ?_;refine zT2 ?_;have hkl:=zx (xs.take k);rw[List.length_take] at hkl;have hxk:=hx _ (cP (w:=xs) (i:=k) ω);obtain⟨n,hn⟩:∃ n:Nat,xs.getD k 0=(n:Int):=⟨(xs.getD k 0).toNat,ω⟩
  rw[hn];have hn9:n<1679616:=ω;have hdl:=yb (n:=n);have hal:(lx (xs.take k)++d36 n).length=(lx (xs.take k)).length+(d36 n).length:=aq;refine am hP hN rfl ?_
  iterate 2 refine zS3 ?_
  refine zC9 (ND n v (lx (xs.take k)) hn9 ω) ?_
  iterate 3 refine zS3 ?_
  refine ah (k9 _ (kx ?_));refine dO (n:=1) (L1:=[_]) rfl rfl (by rw[hB];decide) rfl rfl ?_;refine zR2 (h:=?_);refine⟨_,_,?_,ar [2,3,6,7,8],k+1,v+1+1,ω,rfl,?_⟩
  ·omega
  ·rw[Fa ω hn];rfl
 refine aL ?_;refine k3 _ (kx ?_);refine aa λ_ k11=>?_;refine cA 0 rfl ?_;simp only[aJ,aV,zS,ad,ZW,reduceCtorEq];have hkw:k=xs.length:=ω;rw[hkw,aP];refine am hP hN rfl ?_;refine zS3 ?_
 (refine aw rfl λ_ k0=>?_;simp only[zE,op1,ev,lkp,cR,bP,eJ,reduceCtorEq,ad,J,ae,aj,af,ag,Tryz.el123,Tryz.td123,Tryz.td9];refine⟨⟨_,_,rfl,Tryz.td5,rfl⟩,k0 _ ?_⟩;clear k0;simp only[zP,J])
 refine zS3 ?_;refine ah (k11 _ (kx ?_));refine aA ?_;refine zZn ?_
 rfl
theorem Cm (ws:List (List Int)):aY Tryz.prog 42 [.one (.list Γ ws)] (.one (.int .i64 (nY ws:Int))):=by
 refine zQ 18 Tryz.func42 λC hP hN hB=>?_;have hX:KX [0,2,3,5,6,7,8,9]:=⟨trivial⟩
 refine fT 0 rfl λhf0=>?_;simp only[lkp,if_true,if_false,reduceCtorEq,ad,eq_self,Nat.one_ne_zero,Nat.zero_ne_one,lc,kD,kd,Fit,and_true,implies_true,true_and] at hf0;refine zT2 ?_;refine zT2 ?_;refine aa λ_ k3=>?_;refine zT2 ?_;refine ay ?_;refine aM (λn5 s5=>∃ (k:Nat),(k≤ws.length)∧n5=ws.length-k∧s5={env:=[(2,.one (.int .i64 0)),(3,.one (.int .i64 (nY (ws.take k):Int))),(6,.one (.list Γ ws)),(7,.one (.int .i64 (ws.length:Int))),(8,.one (.int .i64 (k:Int)))],L:=[]}) ?_ ?_
 ·exact⟨_,_,ar [2,3,6,7,8],0,Nat.zero_le _,rfl,rfl⟩
 rintro n5 s5 ⟨k,hk,rfl,rfl⟩;refine zT2 ?_;refine aa λ_ k7=>?_;refine cB (λhc8=>?_) (λhc8=>?_)
 ·refine au ?_
  refine k7 _ (kx ?_);refine aa λ_ k9=>?_;refine ay ?_;refine Ou ?_;refine zR2 (h:=k9 _ (kx ?_));refine zR2 (h:=?_);refine⟨_,_,?_,ar [2,3,6,7,8],k+1,ω,rfl,?_⟩
  ·omega
  ·rw[NZ ω,Tj];rfl
 refine aL ?_;refine k3 _ (kx ?_);refine zT2 ?_;refine aA ?_;refine zZn ?_;rw[show k=ws.length by omega,aP]
theorem Ey (wa wb:List (List Int))(ha0:0<wa.length)(hb0:0<wb.length)(ha1:wa.length≤10000)(hb1:wb.length≤10000)(hab:(wsS wa).length*(wsS wb).length≤9999)(hlon:nY wa+nY wb≤1024)(hka:∀ w,w∈wa→KB w)(hkb:∀ w,w∈wb→KB w):aY Tryz.prog 20 [.one (.list Γ wa),.one (.list Γ wb)] (.tup [.one (.list Γ (Ad wa wb)),.one (.int .i64 0)]):=by
 refine zQ 74 Tryz.func20 λC hP hN hB=>?_;have hX:KX [0,1,4,5,6,7,9,11,12,13,21,27,37,39,40,41,42,45,46,47,48,59,62]:=⟨trivial⟩
 have hAl:=fy wa;have hBl:=fy wb;refine aa λK1 k1=>am hP hN rfl ?_
 iterate 2 (refine aw rfl λ_ k0=>?_;simp only[zO,zT,acs,reduceCtorEq,ad,J,ae,aj,af,ag,bB,Option.map_some,AV.valOf,valOf,VK.ac];(repeat refine And.intro (by first|omega|assumption|exact hks|exact rfl) ?_);(try refine .inl ?_);apply k0;clear k0;simp only[zP,J])
 refine ah (k1 _ (kx ?_));refine aa λ_ k2=>?_;refine aa λK3 k3=>am hP hN rfl ?_
 iterate 4 (refine aw rfl λ_ k0=>?_;simp only[zO,zT,acs,reduceCtorEq,ad,J,ae,aj,af,ag,bB,Option.map_some,AV.valOf,valOf,VK.ac];(repeat refine And.intro (by first|omega|assumption|exact hks|exact rfl) ?_);(try refine .inl ?_);apply k0;clear k0;simp only[zP,J])
 refine' zJ false 3 17 (λhg4=>?a4) ?b4 ?c4
 case a4=>
  have hq4:=hg4;(try simp only[zB,reduceCtorEq] at hg4);simp only[zE]
  iterate 3 (refine db rfl λ_ k0=>?_;simp only[zO,zT,acs,reduceCtorEq,ad,J,ae,aj,af,ag,bB,Option.map_some,AV.valOf,valOf,VK.ac];(repeat refine And.intro (by first|omega|assumption|exact hks|exact rfl) ?_);(try refine .inl ?_);apply k0;clear k0;simp only[zP,J])
  (refine aw rfl λ_ k0=>?_;simp only[zO,zT,acs,reduceCtorEq,ad,J,ae,aj,af,ag,bB,Option.map_some,AV.valOf,valOf,VK.ac];(repeat refine And.intro (by first|omega|assumption|exact hks|exact rfl) ?_);(try refine .inl ?_);apply k0;clear k0;simp only[zP,J])
  refine ah ?_;exact zK hq4
 case b4=>exact cF
 simp only[bh,aX];refine ah (k3 _ (kx ?_));refine cB (λhc5=>?_) (λhc5=>?_)
 ·exact zX hc5
 refine au (k2 _ (kx ?_));refine aa λ_ k6=>?_;refine aa λK7 k7=>am hP hN rfl ?_
 (refine aw rfl λ_ k0=>?_;simp only[zO,zT,acs,reduceCtorEq,ad,J,ae,aj,af,ag,bB,Option.map_some,AV.valOf,valOf,VK.ac];(repeat refine And.intro (by first|omega|assumption|exact hks|exact rfl) ?_);(try refine .inl ?_);apply k0;clear k0;simp only[zP,J])
 refine wX ZW (ak (Cm wa)) ?_
 (refine aw rfl λ_ k0=>?_;simp only[zO,zT,acs,reduceCtorEq,ad,J,ae,aj,af,ag,bB,Option.map_some,AV.valOf,valOf,VK.ac];(repeat refine And.intro (by first|omega|assumption|exact hks|exact rfl) ?_);(try refine .inl ?_);apply k0;clear k0;simp only[zP,J])
 refine wX ZW (ak (Cm wb)) ?_
 iterate 2 (refine aw rfl λ_ k0=>?_;simp only[zO,zT,acs,reduceCtorEq,ad,J,ae,aj,af,ag,bB,Option.map_some,AV.valOf,valOf,VK.ac];(repeat refine And.intro (by first|omega|assumption|exact hks|exact rfl) ?_);(try refine .inl ?_);apply k0;clear k0;simp only[zP,J])
 refine ah (k7 _ (kx ?_));refine cB (λhc8=>?_) (λhc8=>?_)
 ·exact zX hc8
 refine au (k6 _ (kx ?_));refine aa λK9 k9=>am hP hN rfl ?_
 (refine aw rfl λ_ k0=>?_;simp only[zO,zT,acs,reduceCtorEq,ad,J,ae,aj,af,ag,bB,Option.map_some,AV.valOf,valOf,VK.ac];(repeat refine And.intro (by first|omega|assumption|exact hks|exact rfl) ?_);(try refine .inl ?_);apply k0;clear k0;simp only[zP,J])
 refine wX ZW (ak (iL wa ω (λw hw=>by have:=r8 hw;omega))) ?_
 (refine aw rfl λ_ k0=>?_;simp only[zO,zT,acs,reduceCtorEq,ad,J,ae,aj,af,ag,bB,Option.map_some,AV.valOf,valOf,VK.ac];(repeat refine And.intro (by first|omega|assumption|exact hks|exact rfl) ?_);(try refine .inl ?_);apply k0;clear k0;simp only[zP,J])
 refine wX ZW (ak (iL wb ω (λw hw=>by have:=r8 hw;omega))) ?_
 iterate 2 (refine aw rfl λ_ k0=>?_;simp only[zO,zT,acs,reduceCtorEq,ad,J,ae,aj,af,ag,bB,Option.map_some,AV.valOf,valOf,VK.ac];(repeat refine And.intro (by first|omega|assumption|exact hks|exact rfl) ?_);(try refine .inl ?_);apply k0;clear k0;simp only[zP,J])
 refine ah (k9 _ (kx ?_));refine aa λ_ k10=>?_;refine aa λ_ k11=>?_;have hmx:max ((wsS wa).length:Int) ((wsS wb).length:Int)≤10000:=ω;refine am hP hN rfl ?_
 iterate 6 (refine aw rfl λ_ k0=>?_;simp only[zO,zT,acs,reduceCtorEq,ad,J,ae,aj,af,ag,bB,Option.map_some,AV.valOf,valOf,VK.ac];(repeat refine And.intro (by first|omega|assumption|exact hks|exact rfl) ?_);(try refine .inl ?_);apply k0;clear k0;simp only[zP,J])
 refine ah (k11 _ (kx ?_));refine cB (λhc12=>?_) (λhc12=>?_)
 ·exact zX hc12
 refine au (k10 _ (kx ?_));refine aa λK13 k13=>am hP hN rfl ?_
 (refine aw rfl λ_ k0=>?_;simp only[zE,op1,ev,lkp,cR,bP,kC,reduceCtorEq,ad,J,ae,aj,af,ag,Tryz.mk73,bB,Option.map_some,AV.valOf,valOf,VK.ac];(repeat refine And.intro (by first|omega|assumption|exact hks|exact rfl) ?_);(try refine .inl ?_);apply k0;clear k0;simp only[zP,J])
 (refine aw rfl λ_ k0=>?_;simp only[zO,zT,acs,reduceCtorEq,ad,J,ae,aj,af,ag,bB,Option.map_some,AV.valOf,valOf,VK.ac];(repeat refine And.intro (by first|omega|assumption|exact hks|exact rfl) ?_);(try refine .inl ?_);apply k0;clear k0;simp only[zP,J])
 refine ah (k13 _ (kx ?_));refine aa λK14 k14=>am hP hN rfl ?_
 (refine aw rfl λ_ k0=>?_;simp only[zO,zT,acs,reduceCtorEq,ad,J,ae,aj,af,ag,bB,Option.map_some,AV.valOf,valOf,VK.ac];(repeat refine And.intro (by first|omega|assumption|exact hks|exact rfl) ?_);(try refine .inl ?_);apply k0;clear k0;simp only[zP,J])
 refine ah (k14 _ (kx ?_));refine aa λ_ k15=>?_;refine aa λ_ k16=>?_;refine eC 7 Γ 26 δ rfl ?_;simp only[ax,aF,aG,aC,Nat.zero_add,J];refine am hP hN rfl ?_
 iterate 3 (refine aw rfl λ_ k0=>?_;simp only[zO,zT,acs,reduceCtorEq,ad,J,ae,aj,af,ag,bB,Option.map_some,AV.valOf,valOf,VK.ac];(repeat refine And.intro (by first|omega|assumption|exact hks|exact rfl) ?_);(try refine .inl ?_);apply k0;clear k0;simp only[zP,J])
 refine ah (k16 _ (kx ?_));refine ay ?_;refine aM (λn17 s17=>∃ (x9 v:Nat),(x9≤(wsS wa).length)∧n17=(wsS wa).length-x9∧s17={env:=[(1,.one (.list Γ (wsS wb))),(4,.one .nils),(5,.one (.int .i64 0)),(6,.one (.mpv 0)),(7,.one (.row 1 v)),(39,.one (.list Γ (wsS wa))),(40,.one (.int .i64 ((wsS wa).length:Int))),(41,.one (.int .i64 (x9:Int)))],L:=[.mp 73 .bool (esP (pdA (wsS wa) (wsS wb) x9)),.row Γ 26 v (pdA (wsS wa) (wsS wb) x9)]}) ?_ ?_
 ·exact⟨_,_,ar [1,4,5,6,7,39,40,41],0,0,Nat.zero_le _,rfl,rfl⟩
 rintro n17 s17 ⟨x9,v,hx90,rfl,rfl⟩;refine aa λK18 k18=>am hP hN rfl ?_
 (refine aw rfl λ_ k0=>?_;simp only[zO,zT,acs,reduceCtorEq,ad,J,ae,aj,af,ag,bB,Option.map_some,AV.valOf,valOf,VK.ac];(repeat refine And.intro (by first|omega|assumption|exact hks|exact rfl) ?_);(try refine .inl ?_);apply k0;clear k0;simp only[zP,J])
 refine ah (k18 _ (kx ?_));refine aa λ_ k19=>?_;refine cB (λhc20=>?_) (λhc20=>?_)
 ·refine au ?_
  refine k19 _ (kx ?_);refine aa λ_ k21=>?_;refine ay ?_;refine aa λ_ k22=>?_;have hvm:((wsS wa).getD x9 [])∈wa:=ez.1 (dn ω);have hvl:=r8 hvm;refine am hP hN rfl ?_
  iterate 3 (refine aw rfl λ_ k0=>?_;simp only[zO,zT,acs,reduceCtorEq,ad,J,ae,aj,af,ag,bB,Option.map_some,AV.valOf,valOf,VK.ac,gt,az];(repeat refine And.intro (by first|omega|assumption|exact hks|exact rfl) ?_);(try refine .inl ?_);apply k0;clear k0;simp only[zP,J])
  refine ah (k22 _ (kx ?_));refine aa λK23 k23=>am hP hN rfl ?_
  iterate 3 (refine aw rfl λ_ k0=>?_;simp only[zO,zT,acs,reduceCtorEq,ad,J,ae,aj,af,ag,bB,Option.map_some,AV.valOf,valOf,VK.ac];(repeat refine And.intro (by first|omega|assumption|exact hks|exact rfl) ?_);(try refine .inl ?_);apply k0;clear k0;simp only[zP,J])
  refine ah (k23 _ (kx ?_));refine ay ?_;refine aM (λn24 s24=>∃ (j v2:Nat),(j≤(wsS wb).length)∧n24=(wsS wb).length-j∧s24={env:=[(1,.one (.list Γ (wsS wb))),(4,.one .nils),(5,.one (.int .i64 0)),(6,.one (.mpv 0)),(7,.one (.row 1 v2)),(9,.one (.list Θ ((wsS wa).getD x9 []))),(39,.one (.list Γ (wsS wa))),(40,.one (.int .i64 ((wsS wa).length:Int))),(41,.one (.int .i64 (x9:Int))),(45,.one (.list Γ (wsS wb))),(46,.one (.int .i64 ((wsS wb).length:Int))),(47,.one (.int .i64 (j:Int)))],L:=[.mp 73 .bool (esP (pdR ((wsS wa).getD x9 []) (wsS wb) j (pdA (wsS wa) (wsS wb) x9))),.row Γ 26 v2 (pdR ((wsS wa).getD x9 []) (wsS wb) j (pdA (wsS wa) (wsS wb) x9))]}) ?_ ?_
  ·exact⟨_,_,ar [1,4,5,6,7,9,39,40,41,45,46,47],0,v,Nat.zero_le _,rfl,rfl⟩
  rintro n24 s24 ⟨j,v2,hj0,rfl,rfl⟩;refine aa λK25 k25=>am hP hN rfl ?_
  (refine aw rfl λ_ k0=>?_;simp only[zO,zT,acs,reduceCtorEq,ad,J,ae,aj,af,ag,bB,Option.map_some,AV.valOf,valOf,VK.ac];(repeat refine And.intro (by first|omega|assumption|exact hks|exact rfl) ?_);(try refine .inl ?_);apply k0;clear k0;simp only[zP,J])
  refine ah (k25 _ (kx ?_));refine aa λ_ k26=>?_;refine cB (λhc27=>?_) (λhc27=>?_)
  ·refine au ?_
   refine k26 _ (kx ?_);refine aa λ_ k28=>?_;refine ay ?_;refine aa λK29 k29=>am hP hN rfl ?_
   iterate 3 (refine aw rfl λ_ k0=>?_;simp only[zO,zT,acs,reduceCtorEq,ad,J,ae,aj,af,ag,bB,Option.map_some,AV.valOf,valOf,VK.ac,gt,az];(repeat refine And.intro (by first|omega|assumption|exact hks|exact rfl) ?_);(try refine .inl ?_);apply k0;clear k0;simp only[zP,J])
   refine ah (k29 _ (kx ?_));refine aa λ_ k30=>?_;have hwm:((wsS wb).getD j [])∈wb:=ez.1 (dn ω);have hwl:=r8 hwm;have hfl:([((wsS wa).getD x9 []),((wsS wb).getD j [])]:List (List Int)).flatten=(pdX ((wsS wa).getD x9 []) ((wsS wb).getD j [])):=by simp[pdX]
   refine am hP hN rfl ?_
   iterate 3 (refine aw rfl λ_ k0=>?_;simp only[zO,zT,acs,reduceCtorEq,ad,J,ae,aj,af,ag,bB,Option.map_some,AV.valOf,valOf,VK.ac];(repeat refine And.intro (by first|omega|assumption|exact hks|exact rfl) ?_);(try refine .inl ?_);apply k0;clear k0;simp only[zP,J])
   refine wX ZW (ak (dP [((wsS wa).getD x9 []),((wsS wb).getD j [])] (by simp only[List.flatten_cons,List.flatten_nil,List.append_nil,aq];omega))) ?_
   (refine aw rfl λ_ k0=>?_;simp only[zO,zT,acs,reduceCtorEq,ad,J,ae,aj,af,ag,bB,Option.map_some,AV.valOf,valOf,VK.ac];(repeat refine And.intro (by first|omega|assumption|exact hks|exact rfl) ?_);(try refine .inl ?_);apply k0;clear k0;simp only[zP,J])
   refine ah (k30 _ (kx ?_));refine aa λ_ k31=>?_;rw[hfl];have hxl:(pdX ((wsS wa).getD x9 []) ((wsS wb).getD j [])).length≤100000000:=by unfold pdX;rw[aq];omega
   have hkx:KB (pdX ((wsS wa).getD x9 []) ((wsS wb).getD j [])):=λx hx=>(List.mem_append.1 hx).elim (hka _ hvm x) (hkb _ hwm x);have hks:(jG (pdX ((wsS wa).getD x9 []) ((wsS wb).getD j []))).length≤9223372036854775807:=by unfold jG;rw[aE];have:=zx (pdX ((wsS wa).getD x9 []) ((wsS wb).getD j []));omega
   have hkD:∀ w,w∈(pdR ((wsS wa).getD x9 []) (wsS wb) j (pdA (wsS wa) (wsS wb) x9))→KB w:=λw hw=>by
    rcases(vy _ ω).1 hw with h1|⟨u,h1,h2⟩
    ·obtain⟨v1,w1,h3,h4,h5⟩:=(wx _ ω).1 h1
     rw[h5];exact λx hx=>(List.mem_append.1 hx).elim (hka _ (ez.1 (List.mem_of_mem_take h3)) x) (hkb _ (ez.1 h4) x)
    ·rw[h2]
     exact λx hx=>(List.mem_append.1 hx).elim (hka _ hvm x) (hkb _ (ez.1 (List.mem_of_mem_take h1)) x)
   refine am hP hN rfl ?_
   (refine aw rfl λ_ k0=>?_;simp only[zO,zT,acs,reduceCtorEq,ad,J,ae,aj,af,ag,bB,Option.map_some,AV.valOf,valOf,VK.ac];(repeat refine And.intro (by first|omega|assumption|exact hks|exact rfl) ?_);(try refine .inl ?_);apply k0;clear k0;simp only[zP,J])
   refine wX ZW (ak (ST (pdX ((wsS wa).getD x9 []) ((wsS wb).getD j [])) hkx hxl)) ?_
   (refine aw rfl λ_ k0=>?_;simp only[zO,zT,acs,reduceCtorEq,ad,J,ae,aj,af,ag,bB,Option.map_some,AV.valOf,valOf,VK.ac];(repeat refine And.intro (by first|omega|assumption|exact hks|exact rfl) ?_);(try refine .inl ?_);apply k0;clear k0;simp only[zP,J])
   refine ah (k31 _ (kx ?_));refine aa λ_ k32=>?_;refine aa λK33 k33=>am hP hN rfl ?_
   iterate 2 (refine aw rfl λ_ k0=>?_;simp only[zO,zT,acs,reduceCtorEq,ad,J,ae,aj,af,ag,bB,Option.map_some,AV.valOf,valOf,VK.ac];(repeat refine And.intro (by first|omega|assumption|exact hks|exact rfl) ?_);(try refine .inl ?_);apply k0;clear k0;simp only[zP,J])
   (refine aw rfl λ_ k0=>?_;simp only[zE,op1,ev,lkp,cR,bP,lC,bB,VK.ac,reduceCtorEq,ad,J,ae,aj,af,ag,Tryz.mk73,Tryz.td4,Tryz.td9,bB,Option.map_some,AV.valOf,valOf,VK.ac];(repeat refine And.intro (by first|omega|assumption|exact hks|exact rfl) ?_);(try refine .inl ?_);apply k0;clear k0;simp only[zP,J])
   refine ah (k33 _ (kx ?_));refine cB (λhc34=>?_) (λhc34=>?_)
   ·have hin:(pdX ((wsS wa).getD x9 []) ((wsS wb).getD j []))∈(pdR ((wsS wa).getD x9 []) (wsS wb) j (pdA (wsS wa) (wsS wb) x9)):=by have hq:=hc34;revert hq;rw[p8 hkx hkD];split<;>simp_all
    refine aL ?_;refine k28 _ (kx ?_);refine am hP hN rfl ?_
    iterate 2 (refine aw rfl λ_ k0=>?_;simp only[zO,zT,acs,reduceCtorEq,ad,J,ae,aj,af,ag,bB,Option.map_some,AV.valOf,valOf,VK.ac];(repeat refine And.intro (by first|omega|assumption|exact hks|exact rfl) ?_);(try refine .inl ?_);apply k0;clear k0;simp only[zP,J])
    refine ah ?_
    first
    |(refine⟨_,_,?_,ar [1,4,5,6,7,9,39,40,41,45,46,47],j+1,v2,ω,rfl,?_⟩
      ·omega
      ·rw[jV ω,gU hin];rfl)
    |(refine⟨_,_,?_,ar [1,4,5,6,7,9,39,40,41,45,46,47],j+1,v2+1,ω,rfl,?_⟩
      ·omega
      ·rw[jV ω,hag];rfl)
   have hnin:(pdX ((wsS wa).getD x9 []) ((wsS wb).getD j []))∉(pdR ((wsS wa).getD x9 []) (wsS wb) j (pdA (wsS wa) (wsS wb) x9)):=by have hq:=hc34;revert hq;rw[p8 hkx hkD];split<;>simp_all
   refine au (k32 _ (kx ?_));refine aa λ_ k35=>?_;refine aa λ_ k36=>?_;have hDl:=uS (v:=((wsS wa).getD x9 [])) (B:=(wsS wb)) (D:=pdA (wsS wa) (wsS wb) x9) j ω;have hDl2:=oG (A:=(wsS wa)) (B:=(wsS wb)) x9 ω;have hDl3:(x9+1)*(wsS wb).length≤(wsS wa).length*(wsS wb).length:=Nat.mul_le_mul_right _ ω;rw[Nat.add_mul,Nat.one_mul] at hDl3;have hpe:=N9 hkx hkD hnin;have hag:=gg hnin;refine am hP hN rfl ?_
   iterate 3 (refine aw rfl λ_ k0=>?_;simp only[zO,zT,acs,reduceCtorEq,ad,J,ae,aj,af,ag,bB,Option.map_some,AV.valOf,valOf,VK.ac];(repeat refine And.intro (by first|omega|assumption|exact hks|exact rfl) ?_);(try refine .inl ?_);apply k0;clear k0;simp only[zP,J])
   refine ah (k36 _ (kx ?_));refine cB (λhc37=>?_) (λhc37=>?_)
   ·exfalso
    have hq:=hc37;have:=uS (v:=((wsS wa).getD x9 [])) (B:=(wsS wb)) (D:=pdA (wsS wa) (wsS wb) x9) j ω;have:=oG (A:=(wsS wa)) (B:=(wsS wb)) x9 ω;have:(x9+1)*(wsS wb).length≤(wsS wa).length*(wsS wb).length:=Nat.mul_le_mul_right _ ω;rw[Nat.add_mul,Nat.one_mul] at this;omega
   refine au (k35 _ (kx ?_));refine aa λK38 k38=>am hP hN rfl ?_
   iterate 2 (refine aw rfl λ_ k0=>?_;simp only[zO,zT,acs,reduceCtorEq,ad,J,ae,aj,af,ag,bB,Option.map_some,AV.valOf,valOf,VK.ac];(repeat refine And.intro (by first|omega|assumption|exact hks|exact rfl) ?_);(try refine .inl ?_);apply k0;clear k0;simp only[zP,J,hpe])
   (refine aw rfl λ_ k0=>?_;simp only[zE,op1,ev,lkp,cR,bP,fO,bB,valOf,reduceCtorEq,ad,J,ae,aj,af,ag,Tryz.mk73,Tryz.td9,bB,Option.map_some,AV.valOf,valOf,VK.ac];(repeat refine And.intro (by first|omega|assumption|exact hks|exact rfl) ?_);(try refine .inl ?_);apply k0;clear k0;simp only[zP,J,hpe])
   refine ah (k38 _ (kx ?_));refine am hP hN rfl ?_
   iterate 5 (refine aw rfl λ_ k0=>?_;simp only[zO,zT,acs,reduceCtorEq,ad,J,ae,aj,af,ag,bB,Option.map_some,AV.valOf,valOf,VK.ac];(repeat refine And.intro (by first|omega|assumption|exact hks|exact rfl) ?_);(try refine .inl ?_);apply k0;clear k0;simp only[zP,J])
   refine ah (k28 _ (kx ?_));refine am hP hN rfl ?_
   iterate 2 (refine aw rfl λ_ k0=>?_;simp only[zO,zT,acs,reduceCtorEq,ad,J,ae,aj,af,ag,bB,Option.map_some,AV.valOf,valOf,VK.ac];(repeat refine And.intro (by first|omega|assumption|exact hks|exact rfl) ?_);(try refine .inl ?_);apply k0;clear k0;simp only[zP,J])
   refine ah ?_
   first
   |(refine⟨_,_,?_,ar [1,4,5,6,7,9,39,40,41,45,46,47],j+1,v2,ω,rfl,?_⟩
     ·omega
     ·rw[jV ω,gU hin];rfl)
   |(refine⟨_,_,?_,ar [1,4,5,6,7,9,39,40,41,45,46,47],j+1,v2+1,ω,rfl,?_⟩
     ·omega
     ·rw[jV ω,hag];rfl)
  refine aL ?_;refine k21 _ (kx ?_);refine am hP hN rfl ?_
  iterate 2 (refine aw rfl λ_ k0=>?_;simp only[zO,zT,acs,reduceCtorEq,ad,J,ae,aj,af,ag,bB,Option.map_some,AV.valOf,valOf,VK.ac];(repeat refine And.intro (by first|omega|assumption|exact hks|exact rfl) ?_);(try refine .inl ?_);apply k0;clear k0;simp only[zP,J])
  refine ah ?_;have hje:j=(wsS wb).length:=ω;subst hje;refine⟨_,_,?_,ar [1,4,5,6,7,39,40,41],x9+1,v2,ω,rfl,?_⟩
  ·omega
  ·rw[rz ω];rfl
 refine aL ?_;refine k15 _ (kx ?_);refine aa λ_ k39=>?_;have hxe:x9=(wsS wa).length:=ω;subst hxe;refine am hP hN rfl ?_
 (refine aw rfl λ_ k0=>?_;simp only[zO,zT,acs,reduceCtorEq,ad,J,ae,aj,af,ag,bB,Option.map_some,AV.valOf,valOf,VK.ac];(repeat refine And.intro (by first|omega|assumption|exact hks|exact rfl) ?_);(try refine .inl ?_);apply k0;clear k0;simp only[zP,J])
 refine wX ZW (D5 (k:=1) (xs:=pdW (wsS wa) (wsS wb)) rfl (by have:=oG (A:=(wsS wa)) (B:=(wsS wb)) (wsS wa).length (Υ _);unfold pdW;omega)) ?_;refine ah (k39 _ (kx ?_));refine aa λ_ k40=>?_;refine cA 1 rfl ?_;simp only[aJ,aV,zS,ad,ZW,reduceCtorEq];refine am hP hN rfl ?_
 iterate 3 (refine aw rfl λ_ k0=>?_;simp only[zO,zT,acs,reduceCtorEq,ad,J,ae,aj,af,ag,bB,Option.map_some,AV.valOf,valOf,VK.ac];(repeat refine And.intro (by first|omega|assumption|exact hks|exact rfl) ?_);(try refine .inl ?_);apply k0;clear k0;simp only[zP,J])
 refine ah (k40 _ (kx ?_));refine aA ?_;refine⟨nr,_,rfl,?_⟩;simp only[zF,zP,ad,J,bB,Option.map_some,AV.valOf,valOf,VK.ac];refine VLE.of_eq ?_
 rfl
theorem Af (n:Mly)(h:SMO n)(E:List (List Int))(hE:E=eY n):aY Tryz.prog 20 [.one (.list Γ (gZ n)),.one (.list Γ E)] (.tup [.one (.list Γ (iW n)),.one (.int .i64 0)]):=by
 subst hE;obtain⟨a1,a2,a3⟩:=h.aOK;obtain⟨e1,e2,e3⟩:=h.endOK;have l1:nY (gZ n)≤6:=Ed λw hw=>(a3 w hw).2;have l2:nY (eY n)≤145:=Ed λw hw=>(e3 w hw).2;have h2:(wsS (gZ n)).length*(wsS (eY n)).length≤15*60:=Nat.mul_le_mul (Nat.le_trans (fy _) a2) (Nat.le_trans (fy _) e2);exact Ey (gZ n) (eY n) a1 e1 ω ω ω ω (λw hw=>(a3 w hw).1.kb h.i2) (λw hw=>(e3 w hw).1.kb h.i2)
theorem Nt (n:Int)(h0:0≤n)(h1:n≤1000000):gQ Tryz.prog 54 [.one .nils,.one (.int .i64 n)] Γ 26 (([]:List (List Int))):=by
 refine dW Tryz.func54 rfl ζ (Nat.le_of_ble_eq_true rfl) rfl λC hP hN hB=>?_;have hX:KX [0,1,4,6,16]:=⟨trivial⟩
 replace hN:C.N=27:=hN;simp only[cm,J];refine zT2 ?_;refine aa λ_ k2=>?_;refine zT2 ?_;refine cB (λhc4=>?_) (λhc4=>?_)
 ·exact zX hc4
 refine au (k2 _ (kx ?_));refine aa λ_ k5=>?_;refine zT2 ?_;refine zT2 ?_;refine cB (λhc8=>?_) (λhc8=>?_)
 ·refine am hP hN rfl ?_
  iterate 3 refine zS3 ?_
  (refine aw rfl λ_ k0=>?_;simp only[zE,op1,ev,lkp,cR,bP,cC,gm,ff,cY,dC,fa,Nat.div_one,cV,di,Ty.size,bq,dite_true,eZ,bnd,reduceCtorEq,ad,J,ae,aj,af,ag,Tryz.el22,Tryz.td22,Tryz.td3];(repeat refine an ?_);(try refine .inl ?_);apply k0;clear k0;simp only[zP,J])
  iterate 4 refine zS3 ?_
  (refine aw rfl λ_ k0=>?_;simp only[zE,op1,ev,lkp,cR,bP,cC,gm,ff,cY,dC,fa,Nat.div_one,cV,di,Ty.size,bq,dite_true,eZ,bnd,reduceCtorEq,ad,J,ae,aj,af,ag,Tryz.el22,Tryz.td22,Tryz.td3];(repeat refine an ?_);(try refine .inl ?_);apply k0;clear k0;simp only[zP,J])
  refine zS3 ?_;refine ah (k5 _ (kx ?_));refine aa λ_ k9=>?_
  first|(refine eC 0 Γ 26 δ rfl ?_;simp only[ax,aF,aG,aC,Nat.zero_add,J])|skip
  refine zR2 (h:=k9 _ (kx ?_));refine aA ?_;refine⟨by first|exact .inl rfl|exact .inr rfl,_,rfl,_,_,rfl,?_⟩
  first|rfl|simp
 refine au (k5 _ (kx ?_));refine aa λ_ k10=>?_
 first|(refine eC 0 Γ 26 δ rfl ?_;simp only[ax,aF,aG,aC,Nat.zero_add,J])|skip
 refine zR2 (h:=k10 _ (kx ?_));refine aA ?_;refine⟨by first|exact .inl rfl|exact .inr rfl,_,rfl,_,_,rfl,?_⟩
 first|rfl|simp
theorem GM (ls:List (List (List Int)))(hb:ls.flatten.length≤1000000):aY Tryz.prog 25 [.one (.list (.list Γ) ls)] (.one (.list Γ ls.flatten)):=by
 refine zQ 36 Tryz.func25 λC hP hN hB=>?_;have hX:KX [0,2,3,5,6,8,9,10,11,12,20,25,26,27,28]:=⟨trivial⟩
 refine fT 0 rfl λhf0=>?_;simp only[lkp,if_true,if_false,reduceCtorEq,ad,eq_self,Nat.one_ne_zero,Nat.zero_ne_one,lc,kD,kd,Fit,and_true,implies_true,true_and] at hf0;refine zT2 ?_;refine zT2 ?_;refine aa λ_ k3=>?_;refine zT2 ?_;refine ay ?_;refine aM (λn5 s5=>∃ (k:Nat),(k≤ls.length)∧n5=ls.length-k∧s5={env:=[(0,.one (.list (.list Γ) ls)),(3,.one (.int .i64 (((ls.take k).flatten.length:Nat):Int))),(9,.one (.list (.list Γ) ls)),(10,.one (.int .i64 (ls.length:Int))),(11,.one (.int .i64 (k:Int)))],L:=[]}) ?_ ?_
 ·exact⟨_,_,ar [0,3,9,10,11],0,Nat.zero_le _,rfl,rfl⟩
 rintro n5 s5 ⟨k,hk,rfl,rfl⟩;refine zT2 ?_;refine aa λ_ k7=>?_;refine cB (λhc8=>?_) (λhc8=>?_)
 ·refine au ?_
  refine k7 _ (kx ?_);refine aa λ_ k9=>?_;refine ay ?_;refine JE ?_;refine aa λ_ k11=>?_;have hfl:=sB ls (k+1);have hfe:(ls.take (k+1)).flatten.length=(ls.take k).flatten.length+(ls.getD k []).length:=by rw[sO (ls:=ls) ω,aq]
  refine zR2 (h:=k11 _ (kx ?_));refine zT2 ?_;refine cB (λhc13=>?_) (λhc13=>?_)
  ·exact zX hc13
  refine au (k9 _ (kx ?_));refine zR2 (h:=?_);refine⟨_,_,?_,ar [0,3,9,10,11],k+1,ω,rfl,?_⟩
  ·omega
  ·rw[hfe];simp only[Int.natCast_add];rfl
 refine aL ?_;refine k3 _ (kx ?_);refine aa λ_ k14=>?_;have hfl:=sB ls k;refine am hP hN rfl ?_;refine zS3 ?_;refine zC9 (gy (Nt (((ls.take k).flatten.length:Nat):Int) ω ω)) ?_;refine zS3 ?_;refine ah (k14 _ (kx ?_));refine aa λ_ k15=>?_;refine zT2 ?_;refine ay ?_;refine aM (λn17 s17=>∃ (k:Nat) (v:Nat),(k≤ls.length)∧n17=ls.length-k∧s17={env:=[(6,.one (.row 0 v)),(25,.one (.list (.list Γ) ls)),(26,.one (.int .i64 (ls.length:Int))),(27,.one (.int .i64 (k:Int)))],L:=[.row Γ 26 v (ls.take k).flatten]}) ?_ ?_
 ·exact⟨_,_,ar [6,25,26,27],0,0,Nat.zero_le _,rfl,rfl⟩
 rintro n17 s17 ⟨k,v,hk,rfl,rfl⟩;refine zT2 ?_;refine aa λ_ k19=>?_;refine cB (λhc20=>?_) (λhc20=>?_)
 ·refine au ?_
  refine k19 _ (kx ?_);refine aa λ_ k21=>?_;refine ay ?_;refine JE ?_;have hfl:=sB ls (k+1);have hfe:(ls.take (k+1)).flatten.length=(ls.take k).flatten.length+(ls.getD k []).length:=by rw[sO (ls:=ls) ω,aq]
  refine zR2 (h:=k21 _ (kx ?_));refine zR2 (h:=?_);refine⟨_,_,?_,ar [6,25,26,27],k+1,v+1,ω,rfl,?_⟩
  ·omega
  ·rw[sO (ls:=ls) ω];rfl
 refine aL ?_;refine k15 _ (kx ?_);refine zT2 ?_;refine aA ?_;refine zZn ?_;have htk:ls.take k=ls:=by rw[show k=ls.length by omega,aP]
 rw[htk]
theorem lZ (ls:List (List (List Int)))(hb:ls.flatten.length≤1000000)(hw:∀ w,w∈ls.flatten→w.length≤1000000):aY Tryz.prog 8 [.one (.list (.list Γ) ls)] (.one (.list Γ (wsS ls.flatten))):=by
 refine zQ 6 Tryz.func8 λC hP hN hB=>?_;have hX:KX [0,2]:=⟨trivial⟩
 refine zT2 ?_;refine aa λK2 k2=>am hP hN rfl ?_;refine zS3 ?_;refine zC9 (ak (GM ls hb)) ?_;refine zC9 (ak (iL ls.flatten hb hw)) ?_;refine zS3 ?_;refine ah (k2 _ (kx ?_));refine aA ?_;refine zZn ?_
 rfl
theorem Ct (n:Mly)(h:SMO n):aY Tryz.prog 8 [.one (.list (.list Γ) [cW n,ef n])] (.one (.list Γ (gZ n))):=by
 obtain⟨a1,a2,a3⟩:=h.aOK;have hal:=jY h.ok;have h5:=h.n5;have htl:(ef n).length≤5*2:=Nat.le_trans (jW h.ok) (Nat.mul_le_mul h.n5 (by have:=h.i2;omega));exact lZ [cW n,ef n] (by simp;omega) (λw hw=>by have hw2:=a3 w (by unfold gZ;exact ez.2 hw);omega)
theorem Dt (n:Mly)(h:SMO n):aY Tryz.prog 8 [.one (.list (.list Γ) [ef n,iW n])] (.one (.list Γ (kR n))):=by
 obtain⟨p1,p2⟩:=h.pOK;obtain⟨u1,u2⟩:=h.uOK;have htl:(ef n).length≤5*2:=Nat.le_trans (jW h.ok) (Nat.mul_le_mul h.n5 (by have:=h.i2;omega));exact lZ [ef n,iW n] (by simp;omega) (λw hw=>by have hw2:=u2 w (by unfold kR;exact ez.2 hw);omega)
theorem CK (m:Mly)(hv:aK m=0)(hs:SMO m.mres):aY Tryz.prog 6 [m.av] (.tup [.one (.list Γ (eh m.mres)),.one (.int .i64 0)]):=by
 refine zQ 62 Tryz.func6 λC hP hN hB=>?_;have hX:KX [0,1,2,3,4,5,7,9,11,13,14,18,42,55]:=⟨trivial⟩
 have h5:=hs.n5;have hv2:=ci hs.ok;have hck:=hs.ck;obtain⟨a1,a2,a3⟩:=hs.aOK;obtain⟨p1,p2⟩:=hs.pOK;obtain⟨u1,u2⟩:=hs.uOK;have hal:=jY hs.ok;have htl:(ef m.mres).length≤5*2:=Nat.le_trans (jW hs.ok) (Nat.mul_le_mul h5 (by have:=hs.i2;omega));refine zT5 ?_;refine aa λ_ k2=>?_;refine aa λK3 k3=>am hP hN rfl ?_;refine zS6 ?_;refine zC8 (ak (fu m)) ?_;refine zS6 ?_;refine ah (k3 _ (kx ?_));refine zT5 ?_;refine cB (λhc5=>?_) (λhc5=>?_)
 ·exact zX hc5
 refine au (k2 _ (kx ?_));refine aa λK6 k6=>am hP hN rfl ?_;refine zS6 ?_;refine zC8 (ak (sq m)) ?_
 iterate 6 refine zS6 ?_
 refine ah (k6 _ (kx ?_));refine aa λK7 k7=>am hP hN rfl ?_;refine zS6 ?_;refine zC8 (ak (QK m.mres)) ?_
 iterate 5 refine zS6 ?_
 refine ah (k7 _ (kx ?_));refine aa λK8 k8=>am hP hN rfl ?_;refine zS6 ?_;refine zC8 (ak (Sg m.mres)) ?_
 iterate 5 refine zS6 ?_
 refine ah (k8 _ (kx ?_));refine aa λK9 k9=>am hP hN rfl ?_;refine zS6 ?_;refine zC8 (ak (UZ m.mres ω)) ?_
 iterate 5 refine zS6 ?_
 refine ah (k9 _ (kx ?_));refine aa λ_ k10=>?_;refine zT5 ?_;refine cB (λhc12=>?_) (λhc12=>?_)
 ·have hEe:([[]]:List (List Int))=eY m.mres:=by unfold eY;rw[if_pos (by have:=hc12;omega)]
  refine zR5 (h:=k10 _ (kx ?_));refine aa λK13 k13=>am hP hN rfl ?_
  iterate 3 refine zS6 ?_
  refine zC8 (ak (Ct m.mres hs)) ?_;refine zS6 ?_;refine zC8 (ak (Af m.mres hs _ hEe)) ?_
  iterate 5 refine zS6 ?_
  refine ah (k13 _ (kx ?_));refine aa λ_ k14=>?_;refine zT5 ?_;refine cB (λhc16=>?_) (λhc16=>?_)
  ·exact zX hc16
  refine au (k14 _ (kx ?_));refine aa λK17 k17=>am hP hN rfl ?_
  iterate 3 refine zS6 ?_
  refine zC8 (ak (Dt m.mres hs)) ?_;refine zC8 (ak (oA (kR m.mres) ω (λw hw=>by have:=u2 w hw;omega))) ?_
  iterate 2 refine zS6 ?_
  refine ah (k17 _ (kx ?_));refine aA ?_;refine zZm ?_
  rfl
 have hEe:lp m.mres=eY m.mres:=by unfold eY;rw[if_neg (by have:=hc12;omega)]
 refine au (k10 _ (kx ?_));refine aa λK18 k18=>am hP hN rfl ?_
 iterate 3 refine zS6 ?_
 refine zC8 (ak (Ct m.mres hs)) ?_;refine zS6 ?_;refine zC8 (ak (Af m.mres hs _ hEe)) ?_
 iterate 5 refine zS6 ?_
 refine ah (k18 _ (kx ?_));refine aa λ_ k19=>?_;refine zT5 ?_;refine cB (λhc21=>?_) (λhc21=>?_)
 ·exact zX hc21
 refine au (k19 _ (kx ?_));refine aa λK22 k22=>am hP hN rfl ?_
 iterate 3 refine zS6 ?_
 refine zC8 (ak (Dt m.mres hs)) ?_;refine zC8 (ak (oA (kR m.mres) ω (λw hw=>by have:=u2 w hw;omega))) ?_
 iterate 2 refine zS6 ?_
 refine ah (k22 _ (kx ?_));refine aA ?_;refine zZm ?_
 rfl
theorem GE (m:Mly)(ws:List (List Int)):aY Tryz.prog 22 [m.av,.one (.list Γ ws)] (.tup [.one (.list Ξ (trL m ws)),.one (.int .i64 (trE m ws))]):=by
 refine zQ 50 Tryz.func22 λC hP hN hB=>?_;have hX:KX [0,1,2,4,5,6,7,9,10,11,15,19,20,21,22,23,31]:=⟨trivial⟩
 refine zT5 ?_;refine aa λ_ k2=>?_;refine aa λK3 k3=>am hP hN rfl ?_;refine zS6 ?_;refine zC8 (ak (fu m)) ?_;refine zS6 ?_;refine ah (k3 _ (kx ?_));refine zT5 ?_;refine cB (λhc5=>?_) (λhc5=>?_)
 ·refine zT5 ?_
  refine aA ?_;refine⟨nr,_,rfl,?_⟩;simp only[zF,zP,ad,J,Mly.av]
  first
  |(have hE:=At (ws:=ws) ‹¬aK m=0›
    rw[fW (by rw[hE];assumption),hE];exact bl ⟨aD (aS rfl),aD (.refl _),trivial⟩)
  |(have hE:=AT (ws:=ws) hv ω
    rw[fW (by rw[hE];decide),hE];exact bl ⟨aD (aS rfl),aD (.refl _),trivial⟩)
  |(have hE:=B3 hv hnl (k:=k) ω hq (by assumption)
    rw[fW (by rw[hE];assumption),hE];exact bl ⟨aD (aS rfl),aD (.refl _),trivial⟩)
  |(have hE:=qi hv hnl (λi hi=>hq i ω)
    have htk:ws.take k=ws:=by rw[show k=ws.length by omega,aP]
    rw[oM hE,hE,htk];exact VLE.of_eq rfl)
 have hv:aK m=0:=ω;have hm:=fc hv;refine au (k2 _ (kx ?_));refine aa λ_ k7=>?_;refine zT5 ?_;refine cB (λhc9=>?_) (λhc9=>?_)
 ·refine zT5 ?_
  refine aA ?_;refine⟨nr,_,rfl,?_⟩;simp only[zF,zP,ad,J,Mly.av]
  first
  |(have hE:=At (ws:=ws) ‹¬aK m=0›
    rw[fW (by rw[hE];assumption),hE];exact bl ⟨aD (aS rfl),aD (.refl _),trivial⟩)
  |(have hE:=AT (ws:=ws) hv ω
    rw[fW (by rw[hE];decide),hE];exact bl ⟨aD (aS rfl),aD (.refl _),trivial⟩)
  |(have hE:=B3 hv hnl (k:=k) ω hq (by assumption)
    rw[fW (by rw[hE];assumption),hE];exact bl ⟨aD (aS rfl),aD (.refl _),trivial⟩)
  |(have hE:=qi hv hnl (λi hi=>hq i ω)
    have htk:ws.take k=ws:=by rw[show k=ws.length by omega,aP]
    rw[oM hE,hE,htk];exact VLE.of_eq rfl)
 have hnl:¬10000<ws.length:=ω;refine au (k7 _ (kx ?_));refine zT5 ?_;refine aa λ_ k12=>?_;refine zT5 ?_;refine ay ?_;refine eC 7 Ξ 86 δ rfl ?_;simp only[ax,aF,aG,aC,Nat.zero_add,J];refine aM (λn14 s14=>∃ (k:Nat) (v:Nat),(k≤ws.length)∧(∀ i,i<k→bQ (ws.getD i []) m.inp=0)∧n14=ws.length-k∧s14={env:=[(2,.one (.ptr 0 0 0 0)),(7,.one (.row 1 v)),(20,.one (.list Γ ws)),(21,.one (.int .i64 (ws.length:Int))),(22,.one (.int .i64 (k:Int)))],L:=[.vars 24 [.int .i64 m.inp,.int .i64 m.st,.list Γ m.nx,.list Γ m.ot],.row Ξ 86 v ((ws.take k).map (trX m))]}) ?_ ?_
 ·exact⟨_,_,ar [2,7,20,21,22],0,0,Nat.zero_le _,λi hi=>by omega,rfl,rfl⟩
 rintro n14 s14 ⟨k,v,hk,hq,rfl,rfl⟩;refine zT5 ?_;refine aa λ_ k16=>?_;refine cB (λhc17=>?_) (λhc17=>?_)
 ·refine au ?_
  refine k16 _ (kx ?_);refine aa λ_ k18=>?_;refine ay ?_;refine zT5 ?_;refine aa λ_ k20=>?_;refine aa λK21 k21=>am hP hN rfl ?_
  iterate 3 refine zS6 ?_
  refine zC8 (ak (eO (ws.getD k []) m.inp)) ?_;refine zS6 ?_;refine ah (k21 _ (kx ?_));refine zT5 ?_;refine cB (λhc23=>?_) (λhc23=>?_)
  ·refine zT5 ?_
   refine aA ?_;refine⟨nr,_,rfl,?_⟩;simp only[zF,zP,ad,J,Mly.av]
   first
   |(have hE:=At (ws:=ws) ‹¬aK m=0›
     rw[fW (by rw[hE];assumption),hE];exact bl ⟨aD (aS rfl),aD (.refl _),trivial⟩)
   |(have hE:=AT (ws:=ws) hv ω
     rw[fW (by rw[hE];decide),hE];exact bl ⟨aD (aS rfl),aD (.refl _),trivial⟩)
   |(have hE:=B3 hv hnl (k:=k) ω hq (by assumption)
     rw[fW (by rw[hE];assumption),hE];exact bl ⟨aD (aS rfl),aD (.refl _),trivial⟩)
   |(have hE:=qi hv hnl (λi hi=>hq i ω)
     have htk:ws.take k=ws:=by rw[show k=ws.length by omega,aP]
     rw[oM hE,hE,htk];exact VLE.of_eq rfl)
  have hwz:bQ (ws.getD k []) m.inp=0:=ω;have hwk:=me hwz;refine au (k20 _ (kx ?_));refine zT5 ?_;refine am hP hN rfl ?_
  iterate 2 refine JV ?_
  refine aw rfl λ_ k0=>?_;refine bo (h:=ak (fz (ws.getD k []) (by have:=hwk.len;omega))) rfl rfl (by first|exact rfl|(simp only[ev,zP,ad,J];exact rfl)) (by simp only[zV,acs,reduceCtorEq,ad,J,ae,aj,af,ag,Mly.av,aE,List.length_take]) ?_;apply k0;clear k0;simp only[zP,J]
  iterate 2 refine JV ?_
  refine aw rfl λ_ k0=>?_;refine bo (h:=Mu m m.st (ws.getD k []) ⟨hm,hm.s1,hm.s2⟩ hwk _ 2 rfl) rfl rfl (by first|exact rfl|(simp only[ev,zP,ad,J];exact rfl)) (by simp only[zV,acs,reduceCtorEq,ad,J,ae,aj,af,ag,Mly.av,aE,List.length_take]) ?_;apply k0;clear k0;simp only[zP,J]
  iterate 4 refine JV ?_
  refine ah (k18 _ (kx ?_));refine fJ [2,7,20,21,22] ?_;simp only[dh,lkp,zE,reduceCtorEq,ad];refine jx (L1:=[_,_]) rfl hB rfl rfl ?_;refine zR5 (h:=?_);refine⟨_,_,?_,ar [2,7,20,21,22],k+1,v+1,ω,λq hq2=>?_,rfl,?_⟩
  ·omega
  ·by_cases e:q=k
   ·rw[e];exact hwz
   ·exact hq q ω
  ·rw[uA (trX m) ω];rfl
 refine aL ?_;refine k12 _ (kx ?_);refine zT5 ?_;refine aA ?_;refine⟨nr,_,rfl,?_⟩;simp only[zF,zP,ad,J,Mly.av]
 first
 |(have hE:=At (ws:=ws) ‹¬aK m=0›
   rw[fW (by rw[hE];assumption),hE];exact bl ⟨aD (aS rfl),aD (.refl _),trivial⟩)
 |(have hE:=AT (ws:=ws) hv ω
   rw[fW (by rw[hE];decide),hE];exact bl ⟨aD (aS rfl),aD (.refl _),trivial⟩)
 |(have hE:=B3 hv hnl (k:=k) ω hq (by assumption)
   rw[fW (by rw[hE];assumption),hE];exact bl ⟨aD (aS rfl),aD (.refl _),trivial⟩)
 |(have hE:=qi hv hnl (λi hi=>hq i ω)
   have htk:ws.take k=ws:=by rw[show k=ws.length by omega,aP]
   rw[oM hE,hE,htk];exact VLE.of_eq rfl)
theorem MN (m:Mly)(ws:List (List Int))(hl:ws.length≤9000):aY Tryz.prog 7 [m.av,.one (.list Γ ws)] (.tup [.agg [.int .i64 (ofI m ws),.list Ξ (ofT m ws)],.one (.int .i64 (ofE m ws))]):=by
 refine zQ 32 Tryz.func7 λC hP hN hB=>?_;have hX:KX [0,1,2,4,5,6,7,8,16,28]:=⟨trivial⟩
 refine zT5 ?_;refine aa λK2 k2=>am hP hN rfl ?_
 iterate 2 refine zS6 ?_
 refine zC8 (ak (GE m ws)) ?_
 iterate 5 refine zS6 ?_
 refine ah (k2 _ (kx ?_));refine aa λ_ k3=>?_;refine zT5 ?_;refine cB (λhc5=>?_) (λhc5=>?_)
 ·refine zT5 ?_
  refine aA ?_;refine⟨nr,_,rfl,?_⟩;simp only[zF,zP,ad,J,Mly.av]
  first
  |(have he:ofE m ws=0:=by unfold ofE;rw[if_neg ω];assumption
    unfold ofI ofT;rw[if_pos he,if_pos he,he];exact VLE.of_eq rfl)
  |(have he:ofE m ws=trE m ws:=by unfold ofE;rw[if_pos ω]
    have hn:¬ofE m ws=0:=ω;unfold ofI ofT;rw[if_neg hn,if_neg hn,he];exact bl ⟨dt ⟨.refl _,aS rfl,trivial⟩,aD (.refl _),trivial⟩)
  |(have he:ofE m ws=oa m.inp [] (trL m ws):=by unfold ofE;rw[if_neg ω]
    have hn:¬ofE m ws=0:=ω;unfold ofI ofT;rw[if_neg hn,if_neg hn,he];exact bl ⟨dt ⟨.refl _,aS rfl,trivial⟩,aD (.refl _),trivial⟩)
 have ht0:trE m ws=0:=ω;refine au (k3 _ (kx ?_));refine aa λK7 k7=>am hP hN rfl ?_
 iterate 4 refine zS6 ?_
 refine zC8 (ak (Fs (args:=[.agg [.int .i64 m.inp,.nils],.one (.list Ξ (trL m ws))]) (args':=[.agg [.int .i64 m.inp,.list Ξ ([]:List TRC)],.one (.list Ξ (trL m ws))]) ⟨Om ⟨.refl _,aS rfl,trivial⟩,VLE.of_eq rfl,trivial⟩ (J9 m.inp [] (trL m ws) List.Pairwise.nil (λu hu=>by cases hu) (by have:=Tg m ws;simp;omega)))) ?_
 iterate 6 refine zS6 ?_
 refine ah (k7 _ (kx ?_));refine aa λ_ k8=>?_;refine zT5 ?_;refine cB (λhc10=>?_) (λhc10=>?_)
 ·refine zT5 ?_
  refine aA ?_;refine⟨nr,_,rfl,?_⟩;simp only[zF,zP,ad,J,Mly.av]
  first
  |(have he:ofE m ws=0:=by unfold ofE;rw[if_neg ω];assumption
    unfold ofI ofT;rw[if_pos he,if_pos he,he];exact VLE.of_eq rfl)
  |(have he:ofE m ws=trE m ws:=by unfold ofE;rw[if_pos ω]
    have hn:¬ofE m ws=0:=ω;unfold ofI ofT;rw[if_neg hn,if_neg hn,he];exact bl ⟨dt ⟨.refl _,aS rfl,trivial⟩,aD (.refl _),trivial⟩)
  |(have he:ofE m ws=oa m.inp [] (trL m ws):=by unfold ofE;rw[if_neg ω]
    have hn:¬ofE m ws=0:=ω;unfold ofI ofT;rw[if_neg hn,if_neg hn,he];exact bl ⟨dt ⟨.refl _,aS rfl,trivial⟩,aD (.refl _),trivial⟩)
 refine au (k8 _ (kx ?_));refine zT5 ?_;refine aA ?_;refine⟨nr,_,rfl,?_⟩;simp only[zF,zP,ad,J,Mly.av]
 first
 |(have he:ofE m ws=0:=by unfold ofE;rw[if_neg ω];assumption
   unfold ofI ofT;rw[if_pos he,if_pos he,he];exact VLE.of_eq rfl)
 |(have he:ofE m ws=trE m ws:=by unfold ofE;rw[if_pos ω]
   have hn:¬ofE m ws=0:=ω;unfold ofI ofT;rw[if_neg hn,if_neg hn,he];exact bl ⟨dt ⟨.refl _,aS rfl,trivial⟩,aD (.refl _),trivial⟩)
 |(have he:ofE m ws=oa m.inp [] (trL m ws):=by unfold ofE;rw[if_neg ω]
   have hn:¬ofE m ws=0:=ω;unfold ofI ofT;rw[if_neg hn,if_neg hn,he];exact bl ⟨dt ⟨.refl _,aS rfl,trivial⟩,aD (.refl _),trivial⟩)
theorem je:aY Tryz.prog 4 [] (.one (.bool true)):=by
 refine zQ 52 Tryz.func4 λC hP hN hB=>?_;have hX:KX [0,1,2,3,4,5,6,7,8]:=⟨trivial⟩
 have hl128:=GH.2.1;have hsame:=Km;refine zT5 ?_;refine aa λK2 k2=>am hP hN rfl ?_;refine zC8 (ak jP) ?_;refine zC8 (ak (CK br sf sG)) ?_
 iterate 5 refine zS6 ?_
 refine ah (k2 _ (kx ?_));refine aa λK3 k3=>am hP hN rfl ?_;refine zC8 (ak jP) ?_;refine zS6 ?_;refine zC8 (ak (MN br (eh br.mres) (by have:=sH.1;omega))) ?_
 iterate 6 refine zS6 ?_
 refine ah (k3 _ (kx ?_));refine aa λ_ k4=>?_;simp only[D7.inp];refine am hP hN rfl ?_;refine zS6 ?_;refine zC8 (ak (vU br (eh br.mres) D7)) ?_
 iterate 6 refine zS6 ?_
 refine ah (k4 _ (kx ?_));refine aa λK5 k5=>am hP hN rfl ?_;refine zS6 ?_;refine zC8 (ak (Er (leP br.mres.inp (ofT br (eh br.mres))) GH.1)) ?_
 iterate 6 refine zS6 ?_
 refine ah (k5 _ (kx ?_));refine aa λ_ k6=>?_;simp only[if_pos hl128];refine bz hP hN Tryz.mixed rfl ?_
 iterate 3 refine zS6 ?_
 refine' zJ true 2 32 (λhg7=>?a7) ?b7 ?c7
 case a7=>
  have hq7:=hg7;(try simp only[zB,reduceCtorEq] at hg7);simp only[zE]
  iterate 2 refine zD7 ?_
  refine zS6 ?_;refine ah ?_;exact zK hq7
 case b7=>exact cF
 simp only[bh,aX];refine zS6 ?_;refine' zJ true 2 36 (λhg8=>?a8) ?b8 ?c8
 case a8=>
  have hq8:=hg8;(try simp only[zB,reduceCtorEq] at hg8);simp only[zE]
  iterate 2 refine zD7 ?_
  refine zS6 ?_;refine ah ?_;exact zK hq8
 case b8=>exact cF
 simp only[bh,aX];refine zS6 ?_;refine' zJ true 2 40 (λhg9=>?a9) ?b9 ?c9
 case a9=>
  have hq9:=hg9;(try simp only[zB,reduceCtorEq] at hg9);simp only[zE]
  iterate 2 refine zD7 ?_
  refine zS6 ?_;refine ah ?_;exact zK hq9
 case b9=>exact cF
 simp only[bh,aX];refine zS6 ?_;refine' zJ true 3 44 (λhg10=>?a10) ?b10 ?c10
 case a10=>
  have hq10:=hg10;(try simp only[zB,reduceCtorEq] at hg10);simp only[zE];refine zD7 ?_;refine db rfl λ_ k0=>?_;refine bo (h:=ak jP) rfl rfl (by first|exact rfl|(simp only[ev,zP,ad,J];exact rfl)) (by simp only[zV,acs,reduceCtorEq,ad,J,ae,aj,af,ag,Mly.av]) ?_;apply k0;clear k0;simp only[zP,J];refine db rfl λ_ k0=>?_;refine bo (h:=ak (uN (coM (leP br.mres.inp (ofT br (eh br.mres))) 0) br)) rfl rfl (by first|exact rfl|(simp only[ev,zP,ad,J];exact rfl)) (by simp only[zV,acs,reduceCtorEq,ad,J,ae,aj,af,ag,Mly.av]) ?_;apply k0;clear k0;simp only[zP,J];refine zS6 ?_;refine ah ?_;exact zK hq10
 case b10=>exact cF
 simp only[bh,aX];refine zS6 ?_;refine' zJ true 1 49 (λhg11=>?a11) ?b11 ?c11
 case a11=>
  have hq11:=hg11;(try simp only[zB,reduceCtorEq] at hg11);simp only[zE];refine db rfl λ_ k0=>?_;refine bo (h:=ak Ly) rfl rfl (by first|exact rfl|(simp only[ev,zP,ad,J];exact rfl)) (by simp only[zV,acs,reduceCtorEq,ad,J,ae,aj,af,ag,Mly.av]) ?_;apply k0;clear k0;simp only[zP,J];refine zS6 ?_;refine ah ?_;exact zK hq11
 case b11=>exact cF
 simp only[bh,aX];refine zS6 ?_;refine ah ?_;refine⟨ζ,?_⟩;refine k6 _ (kx ?_);refine aA ?_;refine zZm ?_;rw[uU,MM,hsame]
 all_goals rfl
theorem P6 (m:Mly)(l:List (List Int))(hs:SMO m.mres)(hl:l.length≤20)(hw:∀ w,w∈l→w.length≤20):aY Tryz.prog 8 [.one (.list (.list Γ) [eh m.mres,l])] (.one (.list Γ (uni m l))):=
 lZ [eh m.mres,l] (by have:=(JB hs hl).1;omega) (Qm hs hw)
theorem UK (m:Mly)(l:List (List Int)):aY Tryz.prog 3 [m.av,.one (.list Γ l)] (.one (.bool true)):=by
 refine zQ 97 Tryz.func3 λC hP hN hB=>?_;have hX:KX [0,1,2,4,5,6,7,8,9,10,11,12,26,31,39,47,68,76]:=⟨trivial⟩
 refine zT5 ?_;refine aa λ_ k2=>?_;refine aa λK3 k3=>am hP hN rfl ?_
 iterate 5 refine zS6 ?_
 refine' zJ false 3 17 (λhg4=>?a4) ?b4 ?c4
 case a4=>
  have hq4:=hg4;(try simp only[zB,reduceCtorEq] at hg4);simp only[zE]
  iterate 3 refine zD7 ?_
  refine zS6 ?_;refine ah ?_;exact zK hq4
 case b4=>exact cF
 simp only[bh,aX];refine zS6 ?_;refine' zJ false 3 22 (λhg5=>?a5) ?b5 ?c5
 case a5=>
  have hq5:=hg5;(try simp only[zB,reduceCtorEq] at hg5);simp only[zE]
  iterate 3 refine zD7 ?_
  refine zS6 ?_;refine ah ?_;exact zK hq5
 case b5=>exact cF
 simp only[bh,aX];refine ah (k3 _ (kx ?_));refine cB (λhc6=>?_) (λhc6=>?_)
 ·refine aa λK7 k7=>am hP hN rfl ?_
  refine zC8 (ak je) ?_;refine zS6 ?_;refine ah (k7 _ (kx ?_));refine aA ?_;refine zZm ?_
  first
  |rfl
  |(have h11:dY m.mres.inp (ofT m (uni m l))=11:=by have:=jZ m.mres.inp (ofT m (uni m l));omega
    rw[h11];rfl)
  |(rw[hls.2.2];rfl)
 have hcc:=hc6;refine au (k2 _ (kx ?_));refine aa λ_ k8=>?_;refine zT5 ?_;refine ay ?_;refine aM (λn10 s10=>∃ (k:Nat),(k≤l.length)∧(∀ q:Nat,q<k→(l.getD q []).length≤20)∧n10=l.length-k∧s10={env:=[(1,.one (.list Γ l)),(2,.one (.ptr 0 0 0 0)),(4,.one (.bool false)),(5,.one (.int .i64 (k:Int)))],L:=[.vars 24 [.int .i64 m.inp,.int .i64 m.st,.list Γ m.nx,.list Γ m.ot]]}) ?_ ?_
 ·exact⟨_,_,ar [1,2,4,5],0,Nat.zero_le _,λq hq=>by omega,rfl,rfl⟩
 rintro n10 s10 ⟨k,hk,hall,rfl,rfl⟩;refine aa λ_ k11=>?_;refine lA ?_;refine cB (λhc13=>?_) (λhc13=>?_)
 ·refine au ?_
  refine k11 _ (kx ?_);refine aa λ_ k14=>?_;refine ay ?_;refine lA ?_;refine cB (λhc16=>?_) (λhc16=>?_)
  ·refine aa λK17 k17=>am hP hN rfl ?_
   refine zC8 (ak je) ?_;refine zS6 ?_;refine ah (k17 _ (kx ?_));refine aA ?_;refine zZm ?_
   first
   |rfl
   |(have h11:dY m.mres.inp (ofT m (uni m l))=11:=by have:=jZ m.mres.inp (ofT m (uni m l));omega
     rw[h11];rfl)
   |(rw[hls.2.2];rfl)
  have hwk:=hc16;refine au (k14 _ (kx ?_));refine zR5 (h:=?_);refine⟨_,_,?_,ar [1,2,4,5],k+1,ω,λq hq2=>?_,rfl,rfl⟩
  ·omega
  ·by_cases e:q=k
   ·rw[e];omega
   ·exact hall q ω
 refine aL ?_;refine k8 _ (kx ?_);refine aa λ_ k18=>?_;have hw:∀ w,w∈l→w.length≤20:=λw hwm=>by
  obtain⟨q,hq,rfl⟩:=List.getElem_of_mem hwm;have:=hall q ω
  simpa [List.getD,hq] using this
 refine am hP hN rfl ?_;refine zS6 ?_;refine zC8 (ak (sq m)) ?_
 iterate 6 refine zS6 ?_
 refine ah (k18 _ (kx ?_));refine aa λ_ k19=>?_;refine zT5 ?_;refine cB (λhc21=>?_) (λhc21=>?_)
 ·refine aa λK22 k22=>am hP hN rfl ?_
  refine zC8 (ak je) ?_;refine zS6 ?_;refine ah (k22 _ (kx ?_));refine aA ?_;refine zZm ?_
  first
  |rfl
  |(have h11:dY m.mres.inp (ofT m (uni m l))=11:=by have:=jZ m.mres.inp (ofT m (uni m l));omega
    rw[h11];rfl)
  |(rw[hls.2.2];rfl)
 have hv:aK m=0:=by have:=hc21;omega
 have hs:SMO m.mres:=QG hv ω ω;have hu:=JB hs (l:=l) ω;refine au (k19 _ (kx ?_));refine aa λK23 k23=>am hP hN rfl ?_;refine zS6 ?_;refine zC8 (ak (CK m hv hs)) ?_
 iterate 5 refine zS6 ?_
 refine ah (k23 _ (kx ?_));refine aa λ_ k24=>?_;refine du ?_;simp only[aG,List.append_assoc,aC];refine bz hP hN Tryz.mixed rfl ?_
 iterate 4 refine zS6 ?_
 refine zC8 (ak (P6 m l hs ω hw)) ?_;refine zC8 (ak (MN m (uni m l) (by have:=hu.2.1;omega))) ?_
 iterate 3 refine zS6 ?_
 (refine aw rfl λ_ k0=>?_;simp only[zO,zT,acs,reduceCtorEq,ad,J,ae,aj,af,ag,Mly.av];refine Or.inr (Or.inl ⟨2,?_,(.pair Θ (.pair (.list Ξ) .unit)),(0,([],())),?_⟩);(exact rfl);(repeat refine And.intro (by first|rfl|decide) ?_);refine k0 _ ?_;clear k0;simp only[zP,J])
 iterate 2 refine zS6 ?_
 refine ah ?_;refine⟨ζ,?_⟩;refine k24 _ (kx ?_);refine aa λ_ k25=>?_;refine aa λK26 k26=>am hP hN rfl ?_
 iterate 3 refine zS6 ?_
 refine' zJ false 2 65 (λhg27=>?a27) ?b27 ?c27
 case a27=>
  have hq27:=hg27;(try simp only[zB,reduceCtorEq] at hg27);simp only[zE]
  iterate 2 refine zD7 ?_
  refine zS6 ?_;refine ah ?_;exact zK hq27
 case b27=>exact cF
 simp only[bh,aX];refine ah (k26 _ (kx ?_));refine cB (λhc28=>?_) (λhc28=>?_)
 ·refine aa λK29 k29=>am hP hN rfl ?_
  refine zC8 (ak je) ?_;refine zS6 ?_;refine ah (k29 _ (kx ?_));refine aA ?_;refine zZm ?_
  first
  |rfl
  |(have h11:dY m.mres.inp (ofT m (uni m l))=11:=by have:=jZ m.mres.inp (ofT m (uni m l));omega
    rw[h11];rfl)
  |(rw[hls.2.2];rfl)
 have hof:ofE m (uni m l)=0:=by have hq:=hc28;simpa using hq
 have hob:OBF m (uni m l):=AG hv hs (by have:=hu.2.1;omega) hu.2.2 hof;refine au (k25 _ (kx ?_));refine aa λ_ k30=>?_;simp only[hob.inp];refine am hP hN rfl ?_
 (refine aw rfl λ_ k0=>?_;simp only[zO,zT,acs,reduceCtorEq,ad,J,ae,aj,af,ag,Mly.av,aI];(repeat refine an ?_);(try refine .inl ?_);apply k0;clear k0;simp only[zP,J])
 refine aw rfl λ_ k0=>?_;refine bo (h:=ak (vU m (uni m l) hob)) rfl rfl (by first|exact rfl|(simp only[ev,zP,ad,J];exact rfl)) (by simp only[zV,acs,reduceCtorEq,ad,J,ae,aj,af,ag,Mly.av,aI]) ?_;apply k0;clear k0;simp only[zP,J]
 iterate 6 (refine aw rfl λ_ k0=>?_;simp only[zO,zT,acs,reduceCtorEq,ad,J,ae,aj,af,ag,Mly.av,aI];(repeat refine an ?_);(try refine .inl ?_);apply k0;clear k0;simp only[zP,J])
 refine ah (k30 _ (kx ?_));refine aa λ_ k31=>?_;refine zT5 ?_;refine cB (λhc33=>?_) (λhc33=>?_)
 ·have hte:¬dY m.mres.inp (ofT m (uni m l))=0:=hc33
  refine aa λK34 k34=>am hP hN rfl ?_
  iterate 3 refine zS6 ?_
  refine' zJ true 1 79 (λhg35=>?a35) ?b35 ?c35
  case a35=>
   have hq35:=hg35;(try simp only[zB,reduceCtorEq] at hg35);simp only[zE];refine db rfl λ_ k0=>?_;refine bo (h:=ak je) rfl rfl (by first|exact rfl|(simp only[ev,zP,ad,J];exact rfl)) (by simp only[zV,acs,reduceCtorEq,ad,J,ae,aj,af,ag,Mly.av]) ?_;apply k0;clear k0;simp only[zP,J];refine zS6 ?_;refine ah ?_;exact zK hq35
  case b35=>exact cF
  simp only[bh,aX];refine zS6 ?_;refine ah (k34 _ (kx ?_));refine aA ?_;refine zZm ?_
  first
  |rfl
  |(have h11:dY m.mres.inp (ofT m (uni m l))=11:=by have:=jZ m.mres.inp (ofT m (uni m l));omega
    rw[h11];rfl)
  |(rw[hls.2.2];rfl)
 have hte:dY m.mres.inp (ofT m (uni m l))=0:=by have hq:=hc33;simpa using hq
 have hls:=ud hv hs (by have:=hu.2.1;omega) hu.2.2 hof hte;refine au (k31 _ (kx ?_));refine aa λK36 k36=>am hP hN rfl ?_;refine zS6 ?_;refine zC8 (ak (Er (leP m.mres.inp (ofT m (uni m l))) hls.1)) ?_
 iterate 6 refine zS6 ?_
 refine ah (k36 _ (kx ?_));refine aa λ_ k37=>?_;simp only[if_pos hls.2.1];refine am hP hN rfl ?_
 iterate 3 refine zS6 ?_
 refine' zJ true 3 89 (λhg38=>?a38) ?b38 ?c38
 case a38=>
  have hq38:=hg38;(try simp only[zB,reduceCtorEq] at hg38);simp only[zE]
  iterate 2 refine zD7 ?_
  refine db rfl λ_ k0=>?_;refine bo (h:=ak (uN (coM (leP m.mres.inp (ofT m (uni m l))) 0) m.mres)) rfl rfl (by first|exact rfl|(simp only[ev,zP,ad,J];exact rfl)) (by simp only[zV,acs,reduceCtorEq,ad,J,ae,aj,af,ag,Mly.av]) ?_;apply k0;clear k0;simp only[zP,J];refine zS6 ?_;refine ah ?_;exact zK hq38
 case b38=>exact cF
 simp only[bh,aX];refine zS6 ?_;refine' zJ true 1 94 (λhg39=>?a39) ?b39 ?c39
 case a39=>
  have hq39:=hg39;(try simp only[zB,reduceCtorEq] at hg39);simp only[zE];refine db rfl λ_ k0=>?_;refine bo (h:=ak je) rfl rfl (by first|exact rfl|(simp only[ev,zP,ad,J];exact rfl)) (by simp only[zV,acs,reduceCtorEq,ad,J,ae,aj,af,ag,Mly.av]) ?_;apply k0;clear k0;simp only[zP,J];refine zS6 ?_;refine ah ?_;exact zK hq39
 case b39=>exact cF
 simp only[bh,aX];refine zS6 ?_;refine ah (k37 _ (kx ?_));refine aA ?_;refine zZm ?_
 first
 |rfl
 |(have h11:dY m.mres.inp (ofT m (uni m l))=11:=by have:=jZ m.mres.inp (ofT m (uni m l));omega
   rw[h11];rfl)
 |(rw[hls.2.2];rfl)
end Go.Proofs.YtiedpcchhicifaaGreatDoor
