/- Part of the proof. -/
import Derived.Test.YtiedpcchhicifaaGreatDoorTz
import Derived.Deep.Draws
import Derived.Deep.LoopGhost
import Derived.Ground.SlsfProg
import Derived.Laws.CopyOwn
import Derived.Laws.CopyRow
import Derived.Lib.Bytealg
import Derived.Lib.IndexMore
import Derived.Lib.ItoaNum
import Derived.Lib.Join
import Derived.Maps.AppendAt
import Derived.Shelf.Lay
import Derived.Shelf.SlSortCmp.Kit1
import Derived.Shelf.SlSortCmp.QuietGrown
import Derived.Shelf.SlSortCmp.Whole1
import Derived.Shelf.SlSortCmp.WholeK
import Derived.Shelf.Spec.SlicesInsertGrow
import Derived.Sort.Grow
import Derived.Sort.LotA
import Derived.Sort.OwnSortedInts
set_option linter.unusedSimpArgs false
set_option linter.unusedVariables false
open List renaming getElem?_eq_some_iff→Δ
open Nat renaming le_refl→Υ
namespace Go.AV
theorem zB:(∀ (p:Prop) [Decidable p],(decide p=true)=p)∧(∀ (p:Prop) [Decidable p],(decide p=false)=¬p)∧((!true)=false)∧((!false)=true)∧(∀ b:Bool,(¬(b=true))=(b=false))∧(∀ b:Bool,(¬(b=false))=(b=true))∧(∀ a b:Bool,((!a)=b)=(a= !b))∧(∀ a b:Int,¬a<b↔b≤a)∧(∀ a b:Int,¬a≤b↔b<a)∧((true=false)=False)∧((false=true)=False)∧(∀ {α:Sort 1} (a b:α),(a≠b)=¬(a=b))∧(∀ (p:Prop) [Decidable p],¬¬p↔p)∧(∀ b:Bool,((!b)=true)=(b=false))∧(∀ {α:Type} [BEq α] [LawfulBEq α] {a b:α},(a != b)=true↔a≠b)∧(∀ a b:Bool,((a||b)=true)=(a=true∨b=true))∧(∀ a b:Bool,((a&&b)=true)=(a=true∧b=true))∧(∀ a b:Bool,((a||b)=false)=(a=false∧b=false))∧(∀ a b:Bool,((a&&b)=false)=(a=false∨b=false)):=
 ⟨λp _=>decide_eq_true_eq,λp _=>by simp,rfl,rfl,η,η,δ,λa b=>Int.not_lt,λa b=>Int.not_le,η,η,λ_ _=>rfl,λp _=>Decidable.not_not,η,bne_iff_ne,η,η,η,η⟩
theorem zS {α:Type}:(∀ (a b:α) (l:List α),(a::l).set 0 b=b::l)∧∀ (a b:α) (n:Nat) (l:List α),(a::l).set (n+1) b=a::l.set n b:=⟨λ_ _ _=>rfl,λ_ _ _ _=>rfl⟩
end Go.AV
set_option maxRecDepth 100000
set_option maxHeartbeats 4000000
namespace Go.AV
open Nat renaming reduceEqDiff→ad,reduceAdd→J,reduceLeDiff→ae,reduceLT→aj,reduceMul→af,reduceSub→ag
open List renaming set_cons_zero→bu,set_cons_succ→bV,getD_cons_zero→aI,length_append→aq,map_cons→aJ,cons_append→aG,map_nil→aV,length_cons→ax,nil_append→aC,take_succ_cons→cE,length_nil→aF,length_map→aE,length_replicate→aB,take_length→aP,mem_cons_self→ba,mem_cons_of_mem→aQ
open Int renaming toNat_natCast→az
theorem an {a b:Prop}(h:b)(ha:a:=by first|omega|assumption|exact rfl):a∧b:=⟨ha,h⟩
theorem cF {a b:Tr}(h:TLE a b:=by exact JR (by first|rfl|(simp[HL];done)|decide)):TLE a b:=h
theorem zV:type_of% (And.intro @zE (And.intro @zG (And.intro @op1.eq_1 (And.intro @ev.eq_1 (And.intro @ev.eq_2 (And.intro @ev.eq_3 (And.intro @ev.eq_4 (And.intro @lkp.eq_1 (And.intro @lkp.eq_2 (And.intro @cR.eq_1 (And.intro @bP.eq_1 (And.intro @bP.eq_2 (And.intro @bP.eq_3 (And.intro @bP.eq_4 (And.intro @bP.eq_5 (And.intro @bP.eq_6 (And.intro @bP.eq_7 (And.intro @bP.eq_8 (And.intro @cG.eq_1 (And.intro @cG.eq_2 (And.intro @cG.eq_3 (And.intro @dG.eq_1 (And.intro @dG.eq_2 (And.intro @dG.eq_3 (And.intro @mv1.eq_1 (And.intro @mv1.eq_2 (And.intro @mvC.eq_1 (And.intro @mvC.eq_2 (And.intro @Ty.dflt.eq_1 (And.intro @Ty.dflt.eq_2 (And.intro @Ty.dflt.eq_3 (And.intro @Ty.dflt.eq_4 (And.intro @Ty.dflt.eq_5 @Ty.dflt.eq_6))))))))))))))))))))))))))))))))):=
 And.intro @zE (And.intro @zG (And.intro @op1.eq_1 (And.intro @ev.eq_1 (And.intro @ev.eq_2 (And.intro @ev.eq_3 (And.intro @ev.eq_4 (And.intro @lkp.eq_1 (And.intro @lkp.eq_2 (And.intro @cR.eq_1 (And.intro @bP.eq_1 (And.intro @bP.eq_2 (And.intro @bP.eq_3 (And.intro @bP.eq_4 (And.intro @bP.eq_5 (And.intro @bP.eq_6 (And.intro @bP.eq_7 (And.intro @bP.eq_8 (And.intro @cG.eq_1 (And.intro @cG.eq_2 (And.intro @cG.eq_3 (And.intro @dG.eq_1 (And.intro @dG.eq_2 (And.intro @dG.eq_3 (And.intro @mv1.eq_1 (And.intro @mv1.eq_2 (And.intro @mvC.eq_1 (And.intro @mvC.eq_2 (And.intro @Ty.dflt.eq_1 (And.intro @Ty.dflt.eq_2 (And.intro @Ty.dflt.eq_3 (And.intro @Ty.dflt.eq_4 (And.intro @Ty.dflt.eq_5 @Ty.dflt.eq_6))))))))))))))))))))))))))))))))
theorem zO:type_of% (And.intro @zE (And.intro @zG (And.intro @gW (And.intro @Nat.mul_one (And.intro @Nat.div_one (And.intro @ne_eq.{1} (And.intro @not_false_eq_true (And.intro @Int.natCast_one (And.intro @Int.mul_one (And.intro @dite_true.{1} (And.intro @op1.eq_1 (And.intro @ev.eq_1 (And.intro @ev.eq_2 (And.intro @ev.eq_3 (And.intro @ev.eq_4 (And.intro @lkp.eq_1 (And.intro @lkp.eq_2 (And.intro @cR.eq_1 (And.intro @bP.eq_1 (And.intro @bP.eq_2 (And.intro @bP.eq_3 (And.intro @bP.eq_4 (And.intro @bP.eq_5 (And.intro @bP.eq_6 (And.intro @bP.eq_7 (And.intro @bP.eq_8 (And.intro @mG.eq_1 (And.intro @kH.eq_1 (And.intro @sd.eq_1 (And.intro @cG.eq_1 (And.intro @cG.eq_2 (And.intro @cG.eq_3 (And.intro @kn.eq_1 (And.intro @cu.eq_1 (And.intro @cu.eq_2 (And.intro @cg.eq_1 (And.intro @gd.eq_1 (And.intro @eF.eq_1 (And.intro @eF.eq_2 (And.intro @rep.eq_1 (And.intro @rep.eq_2 (And.intro @bq.eq_1 (And.intro @bq.eq_2 (And.intro @bq.eq_3 (And.intro @bq.eq_4 (And.intro @bq.eq_5 (And.intro @bq.eq_6 (And.intro @bq.eq_7 (And.intro @bq.eq_8 (And.intro @bq.eq_9 (And.intro @bq.eq_10 (And.intro @bq.eq_11 (And.intro @bq.eq_12 (And.intro @Ty.size.eq_1 (And.intro @Ty.size.eq_2 (And.intro @Ty.size.eq_3 (And.intro @dR.eq_1 (And.intro @bZ.eq_1 (And.intro @cT.eq_1 (And.intro @cT.eq_2 (And.intro @cT.eq_3 (And.intro @Ty.dflt.eq_1 (And.intro @Ty.dflt.eq_2 (And.intro @Ty.dflt.eq_3 (And.intro @Ty.dflt.eq_4 (And.intro @Ty.dflt.eq_5 (And.intro @Ty.dflt.eq_6 (And.intro @cK.eq_1 (And.intro @fo.eq_1 (And.intro @pN.eq_1 (And.intro @gT.eq_1 (And.intro @cZ.eq_1 (And.intro @cZ.eq_2 (And.intro @cZ.eq_3 (And.intro @cZ.eq_4 (And.intro @cZ.eq_5 (And.intro @cZ.eq_6 (And.intro @cZ.eq_7 (And.intro @cZ.eq_8 (And.intro @cZ.eq_9 (And.intro @cZ.eq_10 (And.intro @cZ.eq_11 (And.intro @cZ.eq_12 (And.intro @cZ.eq_13 (And.intro @cZ.eq_14 (And.intro @gk.eq_1 (And.intro @gk.eq_2 (And.intro @gk.eq_3 (And.intro @gk.eq_4 (And.intro @fH.eq_1 (And.intro @fH.eq_2 (And.intro @fH.eq_3 (And.intro @iz.eq_1 (And.intro @iz.eq_2 (And.intro @iz.eq_3 (And.intro @iz.eq_4 (And.intro @tD.eq_1 (And.intro @tD.eq_2 (And.intro @gG.eq_1 (And.intro @cq.eq_1 (And.intro @ki.eq_1 (And.intro @dq.eq_1 (And.intro @gV.eq_1 (And.intro @cC.eq_1 (And.intro @gm.eq_1 (And.intro @ff.eq_1 (And.intro @cY.eq_1 (And.intro @cY.eq_2 (And.intro @cY.eq_3 (And.intro @cY.eq_4 (And.intro @cY.eq_5 (And.intro @cY.eq_6 (And.intro @cY.eq_7 (And.intro @dC.eq_1 (And.intro @dC.eq_2 (And.intro @dC.eq_3 (And.intro @dC.eq_4 (And.intro @fa.eq_1 (And.intro @fa.eq_2 (And.intro @fa.eq_3 (And.intro @cV.eq_1 (And.intro @di.eq_1 (And.intro @di.eq_2 (And.intro @di.eq_3 (And.intro @di.eq_4 (And.intro @dG.eq_1 (And.intro @dG.eq_2 (And.intro @dG.eq_3 (And.intro @mv1.eq_1 (And.intro @mv1.eq_2 (And.intro @mvC.eq_1 @mvC.eq_2))))))))))))))))))))))))))))))))))))))))))))))))))))))))))))))))))))))))))))))))))))))))))))))))))))))))))))))))))))))))))))))))))):=
 And.intro @zE (And.intro @zG (And.intro @gW (And.intro @Nat.mul_one (And.intro @Nat.div_one (And.intro @ne_eq.{1} (And.intro @not_false_eq_true (And.intro @Int.natCast_one (And.intro @Int.mul_one (And.intro @dite_true.{1} (And.intro @op1.eq_1 (And.intro @ev.eq_1 (And.intro @ev.eq_2 (And.intro @ev.eq_3 (And.intro @ev.eq_4 (And.intro @lkp.eq_1 (And.intro @lkp.eq_2 (And.intro @cR.eq_1 (And.intro @bP.eq_1 (And.intro @bP.eq_2 (And.intro @bP.eq_3 (And.intro @bP.eq_4 (And.intro @bP.eq_5 (And.intro @bP.eq_6 (And.intro @bP.eq_7 (And.intro @bP.eq_8 (And.intro @mG.eq_1 (And.intro @kH.eq_1 (And.intro @sd.eq_1 (And.intro @cG.eq_1 (And.intro @cG.eq_2 (And.intro @cG.eq_3 (And.intro @kn.eq_1 (And.intro @cu.eq_1 (And.intro @cu.eq_2 (And.intro @cg.eq_1 (And.intro @gd.eq_1 (And.intro @eF.eq_1 (And.intro @eF.eq_2 (And.intro @rep.eq_1 (And.intro @rep.eq_2 (And.intro @bq.eq_1 (And.intro @bq.eq_2 (And.intro @bq.eq_3 (And.intro @bq.eq_4 (And.intro @bq.eq_5 (And.intro @bq.eq_6 (And.intro @bq.eq_7 (And.intro @bq.eq_8 (And.intro @bq.eq_9 (And.intro @bq.eq_10 (And.intro @bq.eq_11 (And.intro @bq.eq_12 (And.intro @Ty.size.eq_1 (And.intro @Ty.size.eq_2 (And.intro @Ty.size.eq_3 (And.intro @dR.eq_1 (And.intro @bZ.eq_1 (And.intro @cT.eq_1 (And.intro @cT.eq_2 (And.intro @cT.eq_3 (And.intro @Ty.dflt.eq_1 (And.intro @Ty.dflt.eq_2 (And.intro @Ty.dflt.eq_3 (And.intro @Ty.dflt.eq_4 (And.intro @Ty.dflt.eq_5 (And.intro @Ty.dflt.eq_6 (And.intro @cK.eq_1 (And.intro @fo.eq_1 (And.intro @pN.eq_1 (And.intro @gT.eq_1 (And.intro @cZ.eq_1 (And.intro @cZ.eq_2 (And.intro @cZ.eq_3 (And.intro @cZ.eq_4 (And.intro @cZ.eq_5 (And.intro @cZ.eq_6 (And.intro @cZ.eq_7 (And.intro @cZ.eq_8 (And.intro @cZ.eq_9 (And.intro @cZ.eq_10 (And.intro @cZ.eq_11 (And.intro @cZ.eq_12 (And.intro @cZ.eq_13 (And.intro @cZ.eq_14 (And.intro @gk.eq_1 (And.intro @gk.eq_2 (And.intro @gk.eq_3 (And.intro @gk.eq_4 (And.intro @fH.eq_1 (And.intro @fH.eq_2 (And.intro @fH.eq_3 (And.intro @iz.eq_1 (And.intro @iz.eq_2 (And.intro @iz.eq_3 (And.intro @iz.eq_4 (And.intro @tD.eq_1 (And.intro @tD.eq_2 (And.intro @gG.eq_1 (And.intro @cq.eq_1 (And.intro @ki.eq_1 (And.intro @dq.eq_1 (And.intro @gV.eq_1 (And.intro @cC.eq_1 (And.intro @gm.eq_1 (And.intro @ff.eq_1 (And.intro @cY.eq_1 (And.intro @cY.eq_2 (And.intro @cY.eq_3 (And.intro @cY.eq_4 (And.intro @cY.eq_5 (And.intro @cY.eq_6 (And.intro @cY.eq_7 (And.intro @dC.eq_1 (And.intro @dC.eq_2 (And.intro @dC.eq_3 (And.intro @dC.eq_4 (And.intro @fa.eq_1 (And.intro @fa.eq_2 (And.intro @fa.eq_3 (And.intro @cV.eq_1 (And.intro @di.eq_1 (And.intro @di.eq_2 (And.intro @di.eq_3 (And.intro @di.eq_4 (And.intro @dG.eq_1 (And.intro @dG.eq_2 (And.intro @dG.eq_3 (And.intro @mv1.eq_1 (And.intro @mv1.eq_2 (And.intro @mvC.eq_1 @mvC.eq_2))))))))))))))))))))))))))))))))))))))))))))))))))))))))))))))))))))))))))))))))))))))))))))))))))))))))))))))))))))))))))))))))))
theorem zP:type_of% (And.intro @zE (And.intro @bu.{0} (And.intro @bV.{0} (And.intro @put.eq_1 (And.intro @app.eq_1 (And.intro @cD.eq_1 (And.intro @cD.eq_2 (And.intro @cQ.eq_1 (And.intro @dh.eq_1 (And.intro @dh.eq_2 (And.intro @cm.eq_1 (And.intro @cm.eq_2 (And.intro @lkp.eq_1 @lkp.eq_2))))))))))))):=
 And.intro @zE (And.intro @bu.{0} (And.intro @bV.{0} (And.intro @put.eq_1 (And.intro @app.eq_1 (And.intro @cD.eq_1 (And.intro @cD.eq_2 (And.intro @cQ.eq_1 (And.intro @dh.eq_1 (And.intro @dh.eq_2 (And.intro @cm.eq_1 (And.intro @cm.eq_2 (And.intro @lkp.eq_1 @lkp.eq_2))))))))))))
theorem zF:type_of% (And.intro @aJ.{0,0} (And.intro @aV.{0,0} (And.intro @fzV.eq_1 (And.intro @fzV.eq_2 (And.intro @fz1.eq_1 (And.intro @fz1.eq_2 (And.intro @fz1.eq_3 (And.intro @fzC.eq_1 (And.intro @fzC.eq_2 (And.intro @fzC.eq_3 (And.intro @fzC.eq_4 (And.intro @fzC.eq_5 (And.intro @fzC.eq_6 @fzC.eq_7))))))))))))):=
 And.intro @aJ.{0,0} (And.intro @aV.{0,0} (And.intro @fzV.eq_1 (And.intro @fzV.eq_2 (And.intro @fz1.eq_1 (And.intro @fz1.eq_2 (And.intro @fz1.eq_3 (And.intro @fzC.eq_1 (And.intro @fzC.eq_2 (And.intro @fzC.eq_3 (And.intro @fzC.eq_4 (And.intro @fzC.eq_5 (And.intro @fzC.eq_6 @fzC.eq_7))))))))))))
theorem kp {C:Ctx}{Q:Go.Exit→St→Prop}{c:Go.Code}{e0 e:Env}{L0:List AO}(ks:List Nat)(h:AWP C c Q {env:=e,L:=L0})(he:dh e0 ks=e:=by(simp only[zP,ad,J];exact rfl)):AWP C c Q {env:=e0,L:=L0}:=fJ ks (by rw[he];exact h)
theorem cd {C:Ctx}{Q:Go.Exit→St→Prop}{c:Operand}{x y:Go.Code}{b:Bool}{e0:Env}{L0:List AO}(ht:b=true→AWP C x Q {env:=e0,L:=L0})(hf:b=false→AWP C y Q {env:=e0,L:=L0})(hc:ev e0 c= .one (.bool b):=by(simp only[ev,zP,ad,J];exact rfl)):AWP C (.cond c x y) Q {env:=e0,L:=L0}:=ox hc ht hf
theorem nr {e:Go.Exit}(h:e= .normal∨e= .ret:=by first|exact .inl rfl|exact .inr rfl):e= .normal∨e= .ret:=h
def Mly.sigP (m:Mly)(cl:List Int)(a s:Nat):List Int:=(List.range 128).map λi=>
 if i<a then(m.ot.getD s []).getD i 0 else if 64≤i∧i<64+a then cl.getD ((m.nx.getD s []).getD (i-64) 0).toNat 0 else 0
def Mly.sig (m:Mly)(cl:List Int)(s:Nat):List Int:=m.sigP cl m.inp.toNat s
def Mly.nextL (m:Mly)(cl:List Int):List Int:=(List.range m.nx.length).map λs=>(pos (et (m.sig cl) m.nx.length) (m.sig cl s):Int)
def Mly.nextN (m:Mly)(cl:List Int):Int:=(et (m.sig cl) m.nx.length).length
def Mly.cls (m:Mly):Nat→List Int
 |0=>List.replicate m.nx.length 0
 |i+1=>m.nextL (m.cls i)
def Mly.cnt (m:Mly):Nat→Int
 |0=>1
 |i+1=>m.nextN (m.cls i)
def Mly.stopF (m:Mly):Nat→Nat→Nat
 |0,i=>i
 |f+1,i=>if m.cnt (i+1)=m.cnt i then i else m.stopF f (i+1)
def mT (m:Mly)(k:Int):Nat:=(min (max k 0) (m.nx.length:Int)).toNat
def Mly.refC (m:Mly)(k:Int):List Int:=m.cls (m.stopF (mT m k) 0)
def Mly.refK (m:Mly)(k:Int):Int:=m.stopF (mT m k) 0
theorem eW (m:Mly)(cl:List Int)(a s:Nat):(m.sigP cl a s).length=128:=by simp[Mly.sigP]
theorem Ft (m:Mly)(cl:List Int)(s:Nat):List.replicate 128 (0:Int)=m.sigP cl 0 s:=by
 apply List.ext_getElem
 ·simp[Mly.sigP]
 ·intro i h1 h2
  simp only[Mly.sigP,List.getElem_replicate,List.getElem_map,List.getElem_range];rw[if_neg ω,if_neg ω]
theorem Lo (m:Mly)(cl:List Int){a:Nat}(s:Nat)(h:a<64):
 ((m.sigP cl a s).set a ((m.ot.getD s []).getD a 0)).set (64+a) (cl.getD ((m.nx.getD s []).getD a 0).toNat 0)=m.sigP cl (a+1) s:=by
 apply List.ext_getElem
 ·simp[Mly.sigP]
 ·intro i h1 h2
  simp only[Mly.sigP,List.getElem_set,List.getElem_map,List.getElem_range]
  by_cases e1:64+a=i
  ·subst e1
   rw[if_pos rfl,if_neg ω,if_pos ω,show 64+a-64=a by omega]
  ·rw[if_neg e1]
   by_cases e2:a=i
   ·subst e2;rw[if_pos rfl,if_pos ω]
   ·rw[if_neg e2]
    by_cases e3:i<a
    ·rw[if_pos e3,if_pos ω]
    ·rw[if_neg e3,if_neg (by omega:¬i<a+1)]
     by_cases e4:64≤i∧i<64+a
     ·rw[if_pos e4,if_pos ω]
     ·rw[if_neg e4,if_neg ω]
theorem uL {m:Mly}(hm:MOK m){cl:List Int}{s t:Nat}:m.sig cl s=m.sig cl t↔
 ∀ a:Nat,(a:Int)<m.inp→(m.ot.getD s []).getD a 0=(m.ot.getD t []).getD a 0∧cl.getD ((m.nx.getD s []).getD a 0).toNat 0=cl.getD ((m.nx.getD t []).getD a 0).toNat 0:=by
 have h2:=hm.i2;unfold Mly.sig Mly.sigP
 constructor
 ·intro h a ha
  have h1:=congrArg (λl=>l.getD a 0) h;have h3:=congrArg (λl=>l.getD (64+a) 0) h;have e1:a<128:=ω;have e2:64+a<128:=ω;simp only[wG _ _ e1] at h1;simp only[wG _ _ e2] at h3;rw[if_pos ω,if_pos ω] at h1;rw[if_neg (show ¬(64+a<m.inp.toNat) by omega),if_neg (show ¬(64+a<m.inp.toNat) by omega),if_pos (show 64≤64+a∧64+a<64+m.inp.toNat by omega),if_pos (show 64≤64+a∧64+a<64+m.inp.toNat by omega),show 64+a-64=a by omega] at h3;exact⟨h1,h3⟩
 ·intro h
  refine List.map_congr_left λi hi=>?_
  by_cases e1:i<m.inp.toNat
  ·rw[if_pos e1,if_pos e1];exact(h i ω).1
  ·rw[if_neg e1,if_neg e1]
   by_cases e2:64≤i∧i<64+m.inp.toNat
   ·rw[if_pos e2,if_pos e2];exact(h (i-64) ω).2
   ·rw[if_neg e2,if_neg e2]
theorem Gz (m:Mly)(cl:List Int):(m.nextL cl).length=m.nx.length:=by simp[Mly.nextL]
theorem wW (m:Mly):∀ i,(m.cls i).length=m.nx.length
 |0=>by simp[Mly.cls]
 |i+1=>Gz _ _
theorem oZ {m:Mly}{cl:List Int}{s:Nat}(h:s<m.nx.length):(m.nextL cl).getD s 0=(pos (et (m.sig cl) m.nx.length) (m.sig cl s):Int):=by
 simp[Mly.nextL,List.getD,h]
theorem Fj {m:Mly}{cl:List Int}{s:Nat}(h:s<m.nx.length):0≤(m.nextL cl).getD s 0∧(m.nextL cl).getD s 0<m.nx.length:=by
 rw[oZ h];have h1:=l5 (ka (f:=m.sig cl) (k:=m.nx.length).2 ⟨s,h,rfl⟩);have h2:=vO (m.sig cl) m.nx.length;omega
theorem lX {m:Mly}{cl:List Int}{s t:Nat}(hs:s<m.nx.length)(ht:t<m.nx.length):(m.nextL cl).getD s 0=(m.nextL cl).getD t 0↔m.sig cl s=m.sig cl t:=by
 rw[oZ hs,oZ ht]
 constructor
 ·intro h
  exact NH (ka.2 ⟨s,hs,rfl⟩) (ka.2 ⟨t,ht,rfl⟩) ω
 ·intro h;rw[h]
theorem Dz {m:Mly}(hm:MOK m):∀ i s,s<m.nx.length→0≤(m.cls i).getD s 0∧(m.cls i).getD s 0<m.nx.length
 |0,s,h=>by
  have:(m.cls 0).getD s 0=0:=by simp[Mly.cls,List.getD,h]
  rw[this];have:=hm.n1;omega
 |i+1,s,h=>Fj h
theorem sk {m:Mly}(hm:MOK m):∀ i s t,s<m.nx.length→t<m.nx.length→(m.cls (i+1)).getD s 0=(m.cls (i+1)).getD t 0→(m.cls i).getD s 0=(m.cls i).getD t 0
 |0,s,t,hs,ht,_=>by simp[Mly.cls,List.getD,hs,ht]
 |i+1,s,t,hs,ht,h=>by
  have h1:=(lX (cl:=m.cls (i+1)) hs ht).1 h;rw[uL hm] at h1;refine(lX hs ht).2 ((uL hm).2 λa ha=>⟨(h1 a ha).1,?_⟩);have n1:=hm.nr s a hs ha;have n2:=hm.nr t a ht ha;exact sk hm i _ _ ω ω (h1 a ha).2
def dI (f:Nat→Int)(n:Nat):List Nat:=(List.range n).filter λs=>decide (∀ t,t<s→f t≠f s)
theorem qA {α:Type}[DecidableEq α](g:Nat→α)(f:Nat→Int):∀ n,(∀ s t,s<n→t<n→(f s=f t↔g s=g t))→(et g n).length=(dI f n).length
 |0,_=>rfl
 |n+1,h=>by
  have ih:=qA g f n λs t hs ht=>h s t ω ω;rw[f8];unfold dI;rw[List.range_succ,List.filter_append,aq];have e0:(dI f n).length=((List.range n).filter λs=>decide (∀ t,t<s→f t≠f s)).length:=rfl;rw[← e0,← ih]
  by_cases hm:g n∈et g n
  ·rw[gU hm]
   obtain⟨i,hi,e⟩:=ka.1 hm;have:¬(∀ t,t<n→f t≠f n):=λhh=>hh i hi ((h i n ω ω).2 e);simp[this]
  ·rw[gg hm]
   have:∀ t,t<n→f t≠f n:=λt ht e=>hm (ka.2 ⟨t,ht,(h t n ω ω).1 e⟩);rw[List.filter_cons,if_pos (by simpa using this)];simp
theorem jA {m:Mly}(hm:MOK m):∀ i,m.cnt i=((dI (λs=>(m.cls i).getD s 0) m.nx.length).length:Int)
 |0=>by
  have h1:=hm.n1;have:dI (λs=>(m.cls 0).getD s 0) m.nx.length=[0]:=by
   obtain⟨n,hn⟩:∃ n,m.nx.length=n+1:=⟨m.nx.length-1,ω⟩
   unfold dI;rw[hn,List.range_succ_eq_map,List.filter_cons];have hz:∀ s,s<n+1→(m.cls 0).getD s 0=0:=λs hs=>by simp[Mly.cls,List.getD,hn,hs]
   rw[if_pos η];have:(List.map Nat.succ (List.range n)).filter (λs=>decide (∀ t,t<s→(m.cls 0).getD t 0≠(m.cls 0).getD s 0))=[]:=by
    rw[List.filter_eq_nil_iff];intro s hs;obtain⟨k,hk,rfl⟩:=List.mem_map.1 hs;simp only[decide_eq_true_eq];intro hh;have hk':k<n:=by simpa using hk
    exact hh 0 ω (by rw[hz 0 ω,hz (k+1) ω])
   rw[this]
  rw[this];rfl
 |i+1=>by
  show((et (m.sig (m.cls i)) m.nx.length).length:Int)=_;rw[qA (m.sig (m.cls i)) (λs=>(m.cls (i+1)).getD s 0)];intro s t hs ht;exact lX hs ht
theorem pe (f:Nat→Int)(n:Nat):(dI f n).Nodup:=List.Pairwise.filter _ List.nodup_range
theorem tG {f g:Nat→Int}{n:Nat}(h:∀ s t,s<n→t<n→g s=g t→f s=f t):∀ x,x∈dI f n→x∈dI g n:=by
 intro x hx;simp only[dI,List.mem_filter,List.mem_range,decide_eq_true_eq] at hx⊢;exact⟨hx.1,λt ht e=>hx.2 t ht (h t x ω hx.1 e)⟩
theorem wo (f:Nat→Int)(n:Nat):∀ s,s<n→∃ r,r∈dI f n∧f r=f s:=by
 intro s
 induction s using Nat.strongRecOn with
 |_ s ih=>
  intro hs
  by_cases h:∀ t,t<s→f t≠f s
  ·exact⟨s,by simp only[dI,List.mem_filter,List.mem_range,decide_eq_true_eq];exact⟨hs,h⟩,rfl⟩
  ·obtain⟨t,ht⟩:=Classical.not_forall.1 h
   rw[Classical.not_imp,Classical.not_not] at ht;obtain⟨r,hr,e⟩:=ih t ht.1 ω;exact⟨r,hr,e.trans ht.2⟩
theorem CM {f g:Nat→Int}{n:Nat}(h:∀ s t,s<n→t<n→g s=g t→f s=f t)(hc:(dI g n).length=(dI f n).length):∀ s t,s<n→t<n→f s=f t→g s=g t:=by
 intro s t hs ht e;have hback:∀ x,x∈dI g n→x∈dI f n:=by
  intro x hx
  by_cases hm:x∈dI f n
  ·exact hm
  ·exfalso
   have:=ku (x::dI f n) (dI g n) (List.nodup_cons.2 ⟨hm,pe f n⟩) (λy hy=>by
    rcases List.mem_cons.1 hy with rfl|hy
    ·exact hx
    ·exact tG h y hy)
   simp only[ax] at this;omega
 obtain⟨r,hr,e1⟩:=wo g n s hs;obtain⟨q,hq,e2⟩:=wo g n t ht;have hr':=hback r hr;have hq':=hback q hq;have hrl:r<n:=by simp only[dI,List.mem_filter,List.mem_range] at hr;exact hr.1
 have hql:q<n:=by simp only[dI,List.mem_filter,List.mem_range] at hq;exact hq.1
 have e3:f r=f q:=(h r s hrl hs e1).trans (e.trans (h q t hql ht e2).symm);have:r=q:=by
  simp only[dI,List.mem_filter,List.mem_range,decide_eq_true_eq] at hr' hq';rcases Nat.lt_trichotomy r q with hlt|heq|hgt
  ·exact absurd e3 (hq'.2 r hlt)
  ·exact heq
  ·exact absurd e3.symm (hr'.2 q hgt)
 rw[← e1,← e2,this]
theorem kS {m:Mly}:∀ f i,(∃ j,i≤j∧m.stopF f i=j∧j<i+f∧m.cnt (j+1)=m.cnt j∧∀ k,i≤k→k<j→m.cnt (k+1)≠m.cnt k)∨(m.stopF f i=i+f∧∀ k,i≤k→k<i+f→m.cnt (k+1)≠m.cnt k)
 |0,i=>.inr ⟨rfl,λk h1 h2=>by omega⟩
 |f+1,i=>by
  simp only[Mly.stopF]
  by_cases h:m.cnt (i+1)=m.cnt i
  ·rw[if_pos h]
   exact .inl ⟨i,Υ _,rfl,ω,h,λk h1 h2=>by omega⟩
  ·rw[if_neg h]
   rcases kS (m:=m) f (i+1) with⟨j,h1,h2,h3,h4,h5⟩|⟨h1,h2⟩
   ·refine .inl ⟨j,ω,h2,ω,h4,λk k1 k2=>?_⟩
    by_cases e:k=i
    ·subst e;exact h
    ·exact h5 k ω k2
   ·refine .inr ⟨by rw[h1];omega,λk k1 k2=>?_⟩
    by_cases e:k=i
    ·subst e;exact h
    ·exact h2 k ω ω
theorem L9 {m:Mly}(hm:MOK m)(i:Nat):m.cnt i≤m.cnt (i+1):=by
 rw[jA hm,jA hm];have:=ku (dI (λs=>(m.cls i).getD s 0) m.nx.length) (dI (λs=>(m.cls (i+1)).getD s 0) m.nx.length) (pe _ _) (tG (sk hm i));omega
theorem SP {m:Mly}(hm:MOK m)(i:Nat):m.cnt i≤m.nx.length:=by
 rw[jA hm];have:(dI (λs=>(m.cls i).getD s 0) m.nx.length).length≤(List.range m.nx.length).length:=List.length_filter_le _ _;rw[List.length_range] at this;omega
def Mly.eqc (m:Mly):List Int:=m.refC 128
structure STAB (m:Mly)(c:List Int):Prop where
 len:c.length=m.nx.length
 rng:∀ s,s<m.nx.length→0≤c.getD s 0∧c.getD s 0<m.nx.length
 step:∀ s t:Nat,s<m.nx.length→t<m.nx.length→c.getD s 0=c.getD t 0→∀ a:Nat,(a:Int)<m.inp→
  (m.ot.getD s []).getD a 0=(m.ot.getD t []).getD a 0∧c.getD ((m.nx.getD s []).getD a 0).toNat 0=c.getD ((m.nx.getD t []).getD a 0).toNat 0
theorem sM {m:Mly}(hm:MOK m):∃ j,m.eqc=m.cls j∧j<m.nx.length∧m.cnt (j+1)=m.cnt j:=by
 have hN:mT m 128=m.nx.length:=by unfold mT;have:=hm.n2;omega
 have hn1:=hm.n1;unfold Mly.eqc Mly.refC;rw[hN];rcases kS (m:=m) m.nx.length 0 with⟨j,h1,h2,h3,h4,_⟩|⟨h1,h2⟩
 ·exact⟨j,by rw[h2],ω,h4⟩
 ·exfalso
  have key:∀ k,k≤m.nx.length→(k:Int)+1≤m.cnt k:=by
   intro k
   induction k with
   |zero=>intro _;show(0:Int)+1≤1;decide
   |succ k ih=>
    intro hk;have:=ih ω;have h3:=L9 hm k;have h4:=h2 k ω ω;omega
  have:=key m.nx.length (Υ _);have:=SP hm m.nx.length;omega
theorem gM {m:Mly}(hm:MOK m):STAB m m.eqc:=by
 obtain⟨j,h1,h2,h3⟩:=sM hm;rw[h1];refine⟨wW m j,Dz hm j,λs t hs ht e=>?_⟩;rw[jA hm,jA hm] at h3;have:=CM (sk hm j) ω s t hs ht e;exact(uL hm).1 ((lX hs ht).1 this)
def EQV (m:Mly)(s t:Int):Prop:=∀ w:List Int,(∀ i:Nat,i<w.length→0≤w.getD i 0∧w.getD i 0<m.inp)→(m.go s w).2=(m.go t w).2
theorem fq (m:Mly)(s a:Int)(w:List Int):m.go s (a::w)=((m.go (m.nxt s a) w).1,m.out s a::(m.go (m.nxt s a) w).2):=by
 have:=y3 m s [a] w;simp only[aG,aC] at this;rw[this];have h1:m.go s [a]=(m.nxt s a,[m.out s a]):=rfl;rw[h1];rfl
theorem mQ {w:List Int}{a n:Int}(h:∀ i:Nat,i<(a::w).length→0≤(a::w).getD i 0∧(a::w).getD i 0<n):(0≤a∧a<n)∧∀ i:Nat,i<w.length→0≤w.getD i 0∧w.getD i 0<n:=
 ⟨h 0 η,λi hi=>by have:=h (i+1) (by simpa using hi);simpa [List.getD] using this⟩
theorem zR {m:Mly}(hm:MOK m){c:List Int}(hc:STAB m c):∀ (w:List Int) (s t:Int),0≤s→s<m.nx.length→0≤t→t<m.nx.length→c.getD s.toNat 0=c.getD t.toNat 0→
 (∀ i:Nat,i<w.length→0≤w.getD i 0∧w.getD i 0<m.inp)→(m.go s w).2=(m.go t w).2
 |[],_,_,_,_,_,_,_,_=>rfl
 |a::w,s,t,s0,s1,t0,t1,e,hw=>by
  obtain⟨ha,hw'⟩:=mQ hw;rw[fq,fq];have h1:=hc.step s.toNat t.toNat ω ω e a.toNat ω;have n1:=hm.nr s.toNat a.toNat ω ω;have n2:=hm.nr t.toNat a.toNat ω ω;have h2:=zR hm hc w (m.nxt s a) (m.nxt t a) n1.1 n1.2 n2.1 n2.2 h1.2 hw';show m.out s a::_=m.out t a::_;rw[h2]
  congr 1
  exact h1.1
theorem Lh {m:Mly}{s t a:Int}(h:EQV m s t)(ha:0≤a∧a<m.inp):m.out s a=m.out t a∧EQV m (m.nxt s a) (m.nxt t a):=by
 constructor
 ·have:=h [a] (λi hi=>by simp at hi;subst hi;exact ha)
  have h1:(m.go s [a]).2=[m.out s a]:=rfl;have h2:(m.go t [a]).2=[m.out t a]:=rfl;rw[h1,h2] at this
  simpa using this
 ·intro w hw
  have:=h (a::w) (λi hi=>by
   cases i with
   |zero=>exact ha
   |succ i=>have:=hw i (by simpa using hi);simpa [List.getD] using this)
  rw[fq,fq] at this;exact(List.cons.inj this).2
theorem CW {m:Mly}(hm:MOK m):∀ (i:Nat) (s t:Nat),s<m.nx.length→t<m.nx.length→EQV m s t→(m.cls i).getD s 0=(m.cls i).getD t 0
 |0,s,t,hs,ht,_=>by simp[Mly.cls,List.getD,hs,ht]
 |i+1,s,t,hs,ht,h=>by
  refine(lX hs ht).2 ((uL hm).2 λa ha=>?_);obtain⟨h1,h2⟩:=Lh h (a:=(a:Int)) ⟨ω,ha⟩;refine⟨by simpa [Mly.out] using h1,?_⟩;have n1:=hm.nr s a hs ha;have n2:=hm.nr t a ht ha;refine CW hm i _ _ ω ω ?_;have e1:m.nxt (s:Int) (a:Int)=(((m.nx.getD s []).getD a 0).toNat:Int):=by show(m.nx.getD s []).getD a 0=_;omega
  have e2:m.nxt (t:Int) (a:Int)=(((m.nx.getD t []).getD a 0).toNat:Int):=by show(m.nx.getD t []).getD a 0=_;omega
  rw[e1,e2] at h2;exact h2
theorem xY {m:Mly}(hm:MOK m){s t:Int}(s0:0≤s)(s1:s<m.nx.length)(t0:0≤t)(t1:t<m.nx.length):m.eqc.getD s.toNat 0=m.eqc.getD t.toNat 0↔EQV m s t:=by
 constructor
 ·intro h w hw
  exact zR hm (gM hm) w s t s0 s1 t0 t1 h hw
 ·intro h
  obtain⟨j,h1,_⟩:=sM hm;rw[h1];exact CW hm j s.toNat t.toNat ω ω (by rw[Int.toNat_of_nonneg s0,Int.toNat_of_nonneg t0];exact h)
theorem fP (m:Mly)(cl:List Int)(a s:Nat):(m.sigP cl a s).take 128=m.sigP cl a s:=List.take_of_length_le (by rw[eW];exact Υ _)
theorem KE {m:Mly}(hm:MOK m){cl:List Int}(hr:∀ s,s<m.nx.length→0≤cl.getD s 0∧cl.getD s 0<m.nx.length){a s:Nat}(hs:s<m.nx.length)(ha:(a:Int)≤m.inp):l6 (.arr 128) (.arr (m.sigP cl a s)):=by
 refine⟨eW m cl a s,λx hx=>?_⟩;obtain⟨i,hi,rfl⟩:=List.mem_map.1 hx;have h2:=hm.n2;split
 ·have:=hm.or s i hs ω;omega
 ·split
  ·have h1:=hm.nr s (i-64) hs ω
   have:=hr ((m.nx.getD s []).getD (i-64) 0).toNat ω;omega
  ·omega
theorem sF {m:Mly}{cl:List Int}{k:Nat}(hk:k<m.nx.length)(h:m.sig cl k∈et (m.sig cl) k):pos (et (m.sig cl) m.nx.length) (m.sig cl k)=pos (et (m.sig cl) k) (m.sig cl k):=by
 rw[sR (m.sig cl) (i:=k) (k:=k+1) ω _ ω,f8,gU h]
theorem tm {m:Mly}{cl:List Int}{k:Nat}(hk:k<m.nx.length)(h:m.sig cl k∉et (m.sig cl) k):pos (et (m.sig cl) m.nx.length) (m.sig cl k)=(et (m.sig cl) k).length:=by
 rw[sR (m.sig cl) (i:=k) (k:=k+1) ω _ ω,f8,gg h,rD h]
theorem za {m:Mly}{N j:Nat}(hj:j<N)(h:m.cnt (j+1)=m.cnt j)(hq:∀ q,q<j→m.cnt (q+1)≠m.cnt q):m.stopF N 0=j:=by
 rcases kS (m:=m) N 0 with⟨i,h1,h2,h3,h4,h5⟩|⟨h1,h2⟩
 ·rw[h2]
  rcases Nat.lt_trichotomy i j with hlt|heq|hgt
  ·exact absurd h4 (hq i hlt)
  ·exact heq
  ·exact absurd h (h5 j ω hgt)
 ·exact absurd h (h2 j ω ω)
theorem vM {m:Mly}{N:Nat}(hq:∀ q,q<N→m.cnt (q+1)≠m.cnt q):m.stopF N 0=N:=by
 rcases kS (m:=m) N 0 with⟨i,h1,h2,h3,h4,h5⟩|⟨h1,h2⟩
 ·exact absurd h4 (hq i ω)
 ·omega
abbrev S3:=Int×Int×List Int
def Ix (e:S3):(Int×Int×Unit)×List Int×Unit:=((e.1,(e.2.1,())),(e.2.2,()))
def inS (l:List S3)(p q:Int):Bool:=l.any λf=>decide (f.1=p)&&decide (f.2.1=q)
def stS (a b:Mly)(e:S3)(l:List S3)(x:Nat):List S3:=if inS l (a.nxt e.1 x) (b.nxt e.2.1 x)=true then l else l++[(a.nxt e.1 x,b.nxt e.2.1 x,e.2.2++[(x:Int)])]
def jy (a b:Mly)(e:S3)(x:Nat):Bool:=!decide (a.out e.1 x=b.out e.2.1 x)
def dZ (a b:Mly)(e:S3)(l:List S3)(x:Nat):List S3:=(List.range x).foldl (stS a b e) l
def eS0:S3:=(0,0,[])
def srS (a b:Mly):Nat→Nat→List S3→Option (List Int)
 |0,_,_=>none
 |f+1,i,l=>if i<l.length then
   match(List.range a.inp.toNat).find? (jy a b (l.getD i eS0)) with
   |some x=>some ((l.getD i eS0).2.2++[(x:Int)])
   |none=>srS a b f (i+1) (dZ a b (l.getD i eS0) l a.inp.toNat)
  else none
def fuS (a b:Mly):Nat:=a.nx.length*b.nx.length+1
def seS (a b:Mly)(s t:Int):Option (List Int):=srS a b (fuS a b) 0 [(s,t,[])]
theorem lT {l:List S3}{p q:Int}:inS l p q=true↔∃ e,e∈l∧e.1=p∧e.2.1=q:=by
 simp[inS,List.any_eq_true]
theorem gB (a b:Mly)(e:S3)(l:List S3)(x:Nat):dZ a b e l (x+1)=stS a b e (dZ a b e l x) x:=by
 unfold dZ;rw[List.range_succ,List.foldl_append];rfl
theorem DL (a b:Mly)(e:S3)(l:List S3)(x:Nat):∃ k,stS a b e l x=l++k:=by
 unfold stS;split
 ·exact⟨[],η⟩
 ·exact⟨_,rfl⟩
theorem oW (a b:Mly)(e:S3)(l:List S3):∀ x,∃ k,dZ a b e l x=l++k
 |0=>⟨[],by simp[dZ]⟩
 |x+1=>by
  obtain⟨k1,h1⟩:=oW a b e l x;obtain⟨k2,h2⟩:=DL a b e (dZ a b e l x) x;exact⟨k1++k2,by rw[gB,h2,h1,List.append_assoc]⟩
theorem wu (a b:Mly)(e:S3){l:List S3}(x:Nat){i:Nat}(h:i<l.length):(dZ a b e l x).getD i eS0=l.getD i eS0:=by
 obtain⟨k,hk⟩:=oW a b e l x;rw[hk];simp[List.getD,List.getElem?_append_left h]
theorem wF (a b:Mly)(e:S3)(l:List S3)(x:Nat):l.length≤(dZ a b e l x).length:=by
 obtain⟨k,hk⟩:=oW a b e l x;rw[hk];simp
structure WFS (a b:Mly)(l:List S3):Prop where
 rng:∀ e,e∈l→(0≤e.1∧e.1<a.nx.length)∧0≤e.2.1∧e.2.1<b.nx.length
 len:∀ e,e∈l→e.2.2.length≤l.length
 nd:(l.map λe=>e.1*(b.nx.length:Int)+e.2.1).Nodup
theorem WFS.at_ {a b:Mly}{l:List S3}(h:WFS a b l){i:Nat}(hi:i<l.length):(0≤(l.getD i eS0).1∧(l.getD i eS0).1<a.nx.length)∧0≤(l.getD i eS0).2.1∧(l.getD i eS0).2.1<b.nx.length:=by
 refine h.rng _ ?_;simp[List.getD,hi]
theorem WFS.wl {a b:Mly}{l:List S3}(h:WFS a b l){i:Nat}(hi:i<l.length):(l.getD i eS0).2.2.length≤l.length:=by
 refine h.len _ ?_;simp[List.getD,hi]
theorem DQ {p q n m:Int}(hp:0≤p∧p<n)(hq:0≤q∧q<m):0≤p*m+q∧p*m+q<n*m:=by
 have h1:0≤p*m:=Int.mul_nonneg hp.1 ω;have h2:(p+1)*m≤n*m:=Int.mul_le_mul_of_nonneg_right ω ω;rw[Int.add_mul,Int.one_mul] at h2;omega
theorem yZ {p q p' q' m:Int}(hq:0≤q∧q<m)(hq':0≤q'∧q'<m)(e:p*m+q=p'*m+q'):p=p'∧q=q':=by
 have h1:(p*m+q) / m=p:=by rw[Int.add_comm,Int.add_mul_ediv_right _ _ ω,Int.ediv_eq_zero_of_lt hq.1 hq.2];omega
 have h2:(p'*m+q') / m=p':=by rw[Int.add_comm,Int.add_mul_ediv_right _ _ ω,Int.ediv_eq_zero_of_lt hq'.1 hq'.2];omega
 have:p=p':=by rw[← h1,← h2,e]
 subst this;exact⟨rfl,ω⟩
theorem WFS.le {a b:Mly}{l:List S3}(h:WFS a b l):l.length≤a.nx.length*b.nx.length:=by
 have:=gz (a.nx.length*b.nx.length) _ h.nd (λx hx=>by
  obtain⟨e,he,rfl⟩:=List.mem_map.1 hx;have hr:=h.rng e he;have:=DQ hr.1 hr.2;rw[Int.natCast_mul];exact this)
 simpa using this
theorem WFS.big {a b:Mly}(ha:MOK a)(hb:MOK b){l:List S3}(h:WFS a b l):l.length≤16384:=by
 have h1:=h.le;have h2:a.nx.length*b.nx.length≤128*128:=Nat.mul_le_mul ha.n2 hb.n2;omega
theorem WFS.step {a b:Mly}(ha:MOK a)(hb:MOK b)(hi:a.inp=b.inp){l:List S3}(h:WFS a b l){e:S3}(he:(0≤e.1∧e.1<a.nx.length)∧0≤e.2.1∧e.2.1<b.nx.length)(hw:e.2.2.length≤l.length){x:Nat}(hx:(x:Int)<a.inp):WFS a b (stS a b e l x):=by
 unfold stS;split
 ·exact h
 ·rename_i hn
  have n1:=ha.nr e.1.toNat x ω hx;have n2:=hb.nr e.2.1.toNat x ω ω;have n1':0≤a.nxt e.1 x∧a.nxt e.1 x<a.nx.length:=by simpa [Mly.nxt] using n1
  have n2':0≤b.nxt e.2.1 x∧b.nxt e.2.1 x<b.nx.length:=by simpa [Mly.nxt] using n2
  refine⟨λf hf=>?_,λf hf=>?_,?_⟩
  ·rcases List.mem_append.1 hf with hf|hf
   ·exact h.rng f hf
   ·simp at hf;subst hf;exact⟨n1',n2'⟩
  ·simp only[aq,ax,aF]
   rcases List.mem_append.1 hf with hf|hf
   ·have:=h.len f hf;omega
   ·simp at hf;subst hf;simp;omega
  ·rw[List.map_append,List.nodup_append]
   refine⟨h.nd,η,λu hu v hv=>?_⟩;simp at hv;subst hv;intro e';obtain⟨f,hf,rfl⟩:=List.mem_map.1 hu;have hr:=h.rng f hf;obtain⟨e1,e2⟩:=yZ hr.2 n2' e';exact hn (lT.2 ⟨f,hf,e1,e2⟩)
theorem WFS.row {a b:Mly}(ha:MOK a)(hb:MOK b)(hi:a.inp=b.inp){l:List S3}(h:WFS a b l){i:Nat}(hil:i<l.length):∀ x:Nat,(x:Int)≤a.inp→WFS a b (dZ a b (l.getD i eS0) l x)
 |0,_=>by simpa [dZ] using h
 |x+1,hx=>by
  rw[gB];have h1:=WFS.row ha hb hi h hil x ω;have h2:=wF a b (l.getD i eS0) l x;have h3:=h.wl hil;exact h1.step ha hb hi (h.at_ hil) ω ω
theorem xd {a b:Mly}{s t:Int}(hs:0≤s∧s<a.nx.length)(ht:0≤t∧t<b.nx.length):WFS a b [(s,t,[])]:=
 ⟨λe he=>by simp at he;subst he;exact⟨hs,ht⟩,λe he=>by simp at he;subst he;simp,η⟩
theorem Fk {p:Nat→Bool}{n:Nat}(h:∀ x,x<n→p x=false):(List.range n).find? p=none:=by
 rw[List.find?_eq_none];intro x hx;have:=h x (by simpa using hx);simp[this]
theorem Fm {p:Nat→Bool}{n x:Nat}(hx:x<n)(hp:p x=true)(h:∀ y,y<x→p y=false):(List.range n).find? p=some x:=by
 rw[List.find?_eq_some_iff_getElem];refine⟨hp,x,by simpa using hx,η,λj hj=>?_⟩;simp[h j hj]
theorem E5 (a b:Mly)(f i:Nat)(l:List S3)(h:l.length≤i):srS a b f i l=none:=by
 cases f with
 |zero=>rfl
 |succ f=>simp only[srS];rw[if_neg ω]
theorem Kt {a b:Mly}{f i:Nat}{l:List S3}(h:i<l.length)(hd:∀ x,x<a.inp.toNat→jy a b (l.getD i eS0) x=false):srS a b (f+1) i l=srS a b f (i+1) (dZ a b (l.getD i eS0) l a.inp.toNat):=by
 simp only[srS];rw[if_pos h,Fk hd]
theorem wC {a b:Mly}{f i x:Nat}{l:List S3}(h:i<l.length)(hx:x<a.inp.toNat)(hp:jy a b (l.getD i eS0) x=true)(hd:∀ y,y<x→jy a b (l.getD i eS0) y=false):srS a b (f+1) i l=some ((l.getD i eS0).2.2++[(x:Int)]):=by
 simp only[srS];rw[if_pos h,Fm hx hp hd]
def EQ2 (a b:Mly)(s t:Int):Prop:=∀ w:List Int,(∀ i:Nat,i<w.length→0≤w.getD i 0∧w.getD i 0<a.inp)→(a.go s w).2=(b.go t w).2
structure TRS (a b:Mly)(s t:Int)(e:S3):Prop where
 sy:∀ i:Nat,i<e.2.2.length→0≤e.2.2.getD i 0∧e.2.2.getD i 0<a.inp
 l:(a.go s e.2.2).1=e.1
 r:(b.go t e.2.2).1=e.2.1
 o:(a.go s e.2.2).2=(b.go t e.2.2).2
theorem zD {w:List Int}{x n:Int}(h:∀ i:Nat,i<w.length→0≤w.getD i 0∧w.getD i 0<n)(hx:0≤x∧x<n):∀ i:Nat,i<(w++[x]).length→0≤(w++[x]).getD i 0∧(w++[x]).getD i 0<n:=by
 intro i hi
 by_cases e:i<w.length
 ·have:=h i e
  simpa [List.getD,List.getElem?_append_left e] using this
 ·have:i=w.length:=by simp at hi;omega
  subst this
  simpa [List.getD] using hx
theorem TRS.next {a b:Mly}{s t:Int}{e:S3}(h:TRS a b s t e){x:Nat}(hx:(x:Int)<a.inp)(hd:jy a b e x=false):TRS a b s t (a.nxt e.1 x,b.nxt e.2.1 x,e.2.2++[(x:Int)]):=by
 have ho:a.out e.1 x=b.out e.2.1 x:=by simpa [jy] using hd
 refine⟨zD h.sy ⟨ω,hx⟩,?_,?_,?_⟩
 ·show(a.go s (e.2.2++[(x:Int)])).1=_
  rw[ip,h.l]
 ·show(b.go t (e.2.2++[(x:Int)])).1=_
  rw[ip,h.r]
 ·show(a.go s (e.2.2++[(x:Int)])).2=(b.go t (e.2.2++[(x:Int)])).2
  rw[ip,ip,h.l,h.r,h.o,ho]
theorem rO {a b:Mly}{s t:Int}{e:S3}{l:List S3}(hl:∀ f,f∈l→TRS a b s t f)(he:TRS a b s t e):∀ x:Nat,(x:Int)≤a.inp→(∀ y,y<x→jy a b e y=false)→∀ f,f∈dZ a b e l x→TRS a b s t f
 |0,_,_,f,hf=>hl f (by simpa [dZ] using hf)
 |x+1,hx,hd,f,hf=>by
  rw[gB] at hf;unfold stS at hf;split at hf
  ·exact rO hl he x ω (λy hy=>hd y ω) f hf
  ·rcases List.mem_append.1 hf with hf|hf
   ·exact rO hl he x ω (λy hy=>hd y ω) f hf
   ·simp at hf;subst hf
    exact he.next ω (hd x ω)
theorem pR {a b:Mly}{s t:Int}:∀ (f i:Nat) (l:List S3),(∀ e,e∈l→TRS a b s t e)→∀ w,srS a b f i l=some w→(∀ i:Nat,i<w.length→0≤w.getD i 0∧w.getD i 0<a.inp)∧(a.go s w).2≠(b.go t w).2∧w≠[]
 |0,_,_,_,w,h=>by cases h
 |f+1,i,l,hl,w,h=>by
  simp only[srS] at h;split at h
  ·rename_i hi
   have he:TRS a b s t (l.getD i eS0):=hl _ (by simp[List.getD,hi]);split at h
   ·rename_i x hx
    simp only[Option.some.injEq] at h;subst h;have h1:=List.find?_some hx;have h2:x<a.inp.toNat:=by simpa using List.mem_of_find?_eq_some hx
    refine⟨zD he.sy ⟨ω,ω⟩,?_,η⟩;rw[ip,ip,he.l,he.r,he.o];intro hh;have:=(List.append_cancel_left hh)
    simp at this;simp[jy,this] at h1
   ·rename_i hx
    have hd:∀ y,y<a.inp.toNat→jy a b (l.getD i eS0) y=false:=λy hy=>by
     have:=List.find?_eq_none.1 hx y (by simpa using hy)
     simpa using this
    by_cases hin:0≤a.inp
    ·exact pR f (i+1) _ (rO hl he a.inp.toNat ω hd) w h
    ·have:dZ a b (l.getD i eS0) l a.inp.toNat=l:=by rw[show a.inp.toNat=0 by omega];rfl
     rw[this] at h;exact pR f (i+1) l hl w h
  ·cases h
theorem NY (a b:Mly)(s t:Int):∀ e,e∈[((s,t,[]):S3)]→TRS a b s t e:=λe he=>by
 simp at he;subst he;exact⟨λi hi=>by simp at hi,rfl,rfl,rfl⟩
theorem wS {a b:Mly}{s t:Int}{w:List Int}(h:seS a b s t=some w):(∀ i:Nat,i<w.length→0≤w.getD i 0∧w.getD i 0<a.inp)∧(a.go s w).2≠(b.go t w).2∧w≠[]:=pR _ _ _ (NY a b s t) w h
def CLS (a b:Mly)(i:Nat)(l:List S3):Prop:=∀ j,j<i→j<l.length→∀ x:Nat,(x:Int)<a.inp→jy a b (l.getD j eS0) x=false∧inS l (a.nxt (l.getD j eS0).1 x) (b.nxt (l.getD j eS0).2.1 x)=true
theorem CJ {l k:List S3}{p q:Int}(h:inS l p q=true):inS (l++k) p q=true:=by
 obtain⟨e,he,h1,h2⟩:=lT.1 h;exact lT.2 ⟨e,by simp[he],h1,h2⟩
theorem Dp {a b:Mly}{e:S3}{l:List S3}:∀ (x y:Nat),y<x→inS (dZ a b e l x) (a.nxt e.1 y) (b.nxt e.2.1 y)=true
 |0,y,h=>by omega
 |x+1,y,h=>by
  rw[gB]
  by_cases hy:y=x
  ·subst hy
   unfold stS;split
   ·rename_i hin;exact hin
   ·exact lT.2 ⟨_,List.mem_append_right _ (by simp;rfl),rfl,rfl⟩
  ·obtain⟨k,hk⟩:=DL a b e (dZ a b e l x) x
   rw[hk];exact CJ (Dp x y ω)
theorem zU {a b:Mly}(ha:MOK a)(hb:MOK b)(hi:a.inp=b.inp):∀ (f i:Nat) (l:List S3),WFS a b l→a.nx.length*b.nx.length<f+i→CLS a b i l→srS a b f i l=none→∃ L,(∃ k,L=l++k)∧CLS a b L.length L
 |0,i,l,hl,hf,hc,_=>by
  have:=hl.le;exact⟨l,⟨[],η⟩,λj hj hj2=>hc j ω hj2⟩
 |f+1,i,l,hl,hf,hc,h=>by
  simp only[srS] at h;split at h
  ·rename_i hil
   split at h
   ·cases h
   ·rename_i hx
    have hd:∀ y,y<a.inp.toNat→jy a b (l.getD i eS0) y=false:=λy hy=>by
     have:=List.find?_eq_none.1 hx y (by simpa using hy)
     simpa using this
    have hi1:=ha.i1;obtain⟨k,hk⟩:=oW a b (l.getD i eS0) l a.inp.toNat;obtain⟨L,⟨k2,hk2⟩,hL⟩:=zU ha hb hi f (i+1) _ (hl.row ha hb hi hil a.inp.toNat ω) ω (λj hj hjl x hx=>by
     by_cases e:j=i
     ·subst e
      rw[wu a b _ _ hil];exact⟨hd x ω,Dp a.inp.toNat x ω⟩
     ·have hjl2:j<l.length:=by omega
      rw[wu a b _ _ hjl2];have:=hc j ω hjl2 x hx;refine⟨this.1,?_⟩;rw[hk];exact CJ this.2) h
    exact⟨L,⟨k++k2,by rw[hk2,hk,List.append_assoc]⟩,hL⟩
  ·rename_i hil
   exact⟨l,⟨[],η⟩,λj hj hj2=>hc j ω hj2⟩
theorem EG {a b:Mly}{L:List S3}(hL:CLS a b L.length L):∀ (w:List Int) (j:Nat),j<L.length→(∀ i:Nat,i<w.length→0≤w.getD i 0∧w.getD i 0<a.inp)→(a.go (L.getD j eS0).1 w).2=(b.go (L.getD j eS0).2.1 w).2
 |[],_,_,_=>rfl
 |x::w,j,hj,hw=>by
  obtain⟨hx,hw'⟩:=mQ hw;rw[fq,fq];have h1:=hL j hj hj x.toNat ω;rw[Int.toNat_of_nonneg hx.1] at h1;have ho:a.out (L.getD j eS0).1 x=b.out (L.getD j eS0).2.1 x:=by
   have:=h1.1;simp only[jy,Int.toNat_of_nonneg hx.1] at this
   simpa using this
  obtain⟨f,hf,e1,e2⟩:=lT.1 h1.2;obtain⟨q,hq⟩:=List.getElem?_of_mem hf;have hql:=(Δ.1 hq).1;have hqd:L.getD q eS0=f:=by simp[List.getD,hq]
  have ih:=EG hL w q hql hw';rw[hqd,e1,e2] at ih;show _::_=_::_;rw[ho,ih]
theorem KN {a b:Mly}(ha:MOK a)(hb:MOK b)(hi:a.inp=b.inp){s t:Int}(hs:0≤s∧s<a.nx.length)(ht:0≤t∧t<b.nx.length)(h:seS a b s t=none):EQ2 a b s t:=by
 obtain⟨L,⟨k,hk⟩,hL⟩:=zU ha hb hi (fuS a b) 0 _ (xd hs ht) (by unfold fuS;omega) (λj hj=>by omega) h;intro w hw;have:=EG hL w 0 (by rw[hk];simp) hw;rw[hk] at this;exact this
theorem zk {l:List Int}{t x:Int}:x∈cw l t↔x∈l∨x=t:=by
 unfold cw;split
 ·rename_i h
  constructor
  ·exact .inl
  ·rintro(h1|rfl)
   ·exact h1
   ·exact h
 ·simp
theorem kq {r:List Int}:∀ {l:List Int} {x:Int},x∈r.foldl cw l↔x∈l∨x∈r:=by
 induction r with
 |nil=>intro l x;simp
 |cons t r ih=>intro l x;simp only[List.foldl_cons,ih,zk,List.mem_cons];exact or_assoc
theorem t9 (l:List Int)(t:Int):∃ k,cw l t=l++k:=by
 unfold cw;split
 ·exact⟨[],η⟩
 ·exact⟨[t],rfl⟩
theorem xK (r:List Int):∀ l:List Int,∃ k,r.foldl cw l=l++k:=by
 induction r with
 |nil=>intro l;exact⟨[],η⟩
 |cons t r ih=>
  intro l;obtain⟨k1,h1⟩:=t9 l t;obtain⟨k2,h2⟩:=ih (cw l t);exact⟨k1++k2,by simp only[List.foldl_cons];rw[h2,h1,List.append_assoc]⟩
theorem oT (m:Mly):∀ (f i:Nat) (l:List Int),∃ k,m.rf f i l=l++k
 |0,i,l=>⟨[],by simp[Mly.rf]⟩
 |f+1,i,l=>by
  simp only[Mly.rf];split
  ·obtain⟨k1,h1⟩:=xK (m.row (l.getD i 0)) l
   obtain⟨k2,h2⟩:=oT m f (i+1) ((m.row (l.getD i 0)).foldl cw l);exact⟨k1++k2,by rw[h2,h1,List.append_assoc]⟩
  ·exact⟨[],η⟩
theorem zM {l k:List Int}{i:Nat}(h:i<l.length):(l++k).getD i 0=l.getD i 0:=by
 simp[List.getD,List.getElem?_append_left h]
theorem xz {m:Mly}(hm:MOK m):∀ (f i:Nat) (l:List Int),RSet m.nx.length l→m.nx.length≤f+i→(∀ j,j<i→j<l.length→∀ x,x∈m.row (l.getD j 0)→x∈l)→
 ∀ j,j<(m.rf f i l).length→∀ x,x∈m.row ((m.rf f i l).getD j 0)→x∈m.rf f i l
 |0,i,l,hl,hf,hc=>by
  have:=hl.len;intro j hj;simp only[Mly.rf] at*;exact hc j ω hj
 |f+1,i,l,hl,hf,hc=>by
  simp only[Mly.rf];split
  ·rename_i hi
   have hr:=hl.at_ hi;refine xz hm f (i+1) _ (hl.fold (row_rng hm hr.1 hr.2)) ω λj hj hjl x hx=>?_;obtain⟨k,hk⟩:=xK (m.row (l.getD i 0)) l;rw[kq]
   by_cases e:j=i
   ·subst e
    rw[hk,zM hi] at hx;exact .inr hx
   ·have hjl2:j<l.length:=by omega
    rw[hk,zM hjl2] at hx;exact .inl (hc j ω hjl2 x hx)
  ·rename_i hi
   intro j hj;exact hc j ω hj
theorem jj {m:Mly}(hm:MOK m){s:Int}(hs:s∈m.reach){x:Int}(hx:x∈m.row s):x∈m.reach:=by
 rw[eV (ci hm)] at hs⊢;obtain⟨j,hj⟩:=List.getElem?_of_mem hs;have hjl:=(Δ.1 hj).1;have e:(m.rf (m.nx.length+1) 0 [m.st]).getD j 0=s:=by simp[List.getD,hj]
 exact xz hm _ _ _ (jd hm) ω (λj hj=>by omega) j hjl x (by rw[e];exact hx)
theorem oO {m:Mly}(hm:MOK m):∃ k,m.reach=m.st::k:=by
 rw[eV (ci hm)];obtain⟨k,hk⟩:=oT m (m.nx.length+1) 0 [m.st];exact⟨k,by rw[hk];rfl⟩
theorem wV {m:Mly}(hm:MOK m):∀ (f i:Nat) (l:List Int),RSet m.nx.length l→m.nx.length≤f+i→∀ g,f≤g→m.rf g i l=m.rf f i l
 |0,i,l,hl,hf,g,hg=>by
  have:=hl.len;rw[i4 m g i l ω,i4 m 0 i l ω]
 |f+1,i,l,hl,hf,g,hg=>by
  obtain⟨g,rfl⟩:∃ g',g=g'+1:=⟨g-1,ω⟩
  simp only[Mly.rf];split
  ·rename_i hi
   have hr:=hl.at_ hi;exact wV hm f (i+1) _ (hl.fold (row_rng hm hr.1 hr.2)) ω g ω
  ·rfl
theorem y6 {xs:List Int}{i:Nat}(h:i<xs.length)(v:Int):(xs.set i v).getD i 0=v:=by simp[List.getD,h]
theorem BO {xs:List Int}{i j:Nat}(h:i≠j)(v:Int):(xs.set i v).getD j 0=xs.getD j 0:=by simp[List.getD,List.getElem?_set_ne h]
theorem tA {l:List Int}(h:l.Nodup){i j:Nat}(hi:i<l.length)(hj:j<l.length)(e:l.getD i 0=l.getD j 0):i=j:=by
 simp[List.getD,hi,hj] at e;exact(List.getElem_inj h).1 e
theorem Em {n:Nat}{l:List Int}(h:RSet n l):∀ k,k≤l.length→∀ i,i<k→(tX n l k).getD (l.getD i 0).toNat 0=i
 |0,_,i,hi=>by omega
 |k+1,hk,i,hi=>by
  simp only[tX];have hk1:=h.at_ (i:=k) ω
  by_cases e:i=k
  ·subst e
   exact y6 (by rw[om];omega) _
  ·have hi1:=h.at_ (i:=i) ω
   rw[BO]
   ·exact Em h k ω i ω
   ·intro e2
    have:=tA h.nd (i:=k) (j:=i) ω ω ω;omega
def Mly.ix (m:Mly)(s:Int):Int:=m.num.getD s.toNat 0
theorem rB {m:Mly}(hm:MOK m){i:Nat}(hi:i<m.reach.length):m.ix (m.reach.getD i 0)=i:=Em (gx hm) _ (Υ _) i hi
theorem IJ {l:List Int}{s:Int}(h:s∈l):∃ i,i<l.length∧l.getD i 0=s:=by
 obtain⟨i,hi⟩:=List.getElem?_of_mem h;exact⟨i,(Δ.1 hi).1,by simp[List.getD,hi]⟩
theorem qk {m:Mly}(hm:MOK m){s:Int}(hs:s∈m.reach):0≤m.ix s∧m.ix s<m.reach.length:=by
 obtain⟨i,hi,rfl⟩:=IJ hs;rw[rB hm hi];omega
theorem x3 {m:Mly}(hm:MOK m){s:Int}(hs:s∈m.reach):m.reach.getD (m.ix s).toNat 0=s:=by
 obtain⟨i,hi,rfl⟩:=IJ hs;rw[rB hm hi];simp
theorem Jo {m:Mly}(hm:MOK m){s t:Int}(hs:s∈m.reach)(ht:t∈m.reach)(e:m.ix s=m.ix t):s=t:=by
 rw[← x3 hm hs,← x3 hm ht,e]
theorem SO {m:Mly}(hm:MOK m):m.reach.map m.ix=(List.range m.reach.length).map (fun(i:Nat)=>(i:Int)):=by
 apply List.ext_getElem
 ·simp
 ·intro i h1 h2
  simp only[aE] at h1;have:=rB hm h1;simp[List.getD,h1] at this;simp[this]
def Mly.T (m:Mly):Mly:=⟨m.inp,0,m.tnx,m.tot⟩
theorem xZ (m:Mly):m.T.nx.length=m.reach.length:=by simp[Mly.T,Mly.tnx]
theorem vi {m:Mly}(hm:MOK m):1≤m.reach.length:=by
 obtain⟨k,hk⟩:=oO hm;rw[hk];simp
theorem gf {α β:Type}(f:α→β){l:List α}{i:Nat}(d:α)(e:β)(h:i<l.length):(l.map f).getD i e=f (l.getD i d):=by simp[List.getD,h]
theorem BC {m:Mly}{i:Nat}(hi:i<m.reach.length):m.T.nx.getD i []=(m.row (m.reach.getD i 0)).map m.ix:=by
 show m.tnx.getD i []=_;unfold Mly.tnx;rw[gf _ 0 _ hi];rfl
theorem GD {m:Mly}{i:Nat}(hi:i<m.reach.length):m.T.ot.getD i []=m.ot.getD (m.reach.getD i 0).toNat []:=by
 show m.tot.getD i []=_;unfold Mly.tot;rw[gf _ 0 _ hi]
theorem Ap {m:Mly}(hm:MOK m):MOK m.T:=by
 have hR:=gx hm;have hl:=hR.len;have hp:=vi hm;have hT:=xZ m;have hn2:=hm.n2;have htl:m.T.ot.length=m.reach.length:=by simp[Mly.T,Mly.tot]
 refine⟨hm.i1,hm.i2,ω,ω,Int.le_refl 0,by show(0:Int)<_;omega,ω,λs hs=>?_,λs hs=>?_,λs a hs ha=>?_,λs a hs ha=>?_⟩
 ·rw[BC ω]
  have:=hR.at_ (i:=s) ω;have h1:=hm.rl (m.reach.getD s 0).toNat ω;rw[aE];exact h1
 ·rw[GD ω]
  have:=hR.at_ (i:=s) ω;exact hm.ql (m.reach.getD s 0).toNat ω
 ·have h0:=hR.at_ (i:=s) ω
  have h1:((m.row (m.reach.getD s 0)).length:Int)=m.inp:=hm.rl (m.reach.getD s 0).toNat ω;have ha':(a:Int)<m.inp:=ha;rw[BC ω,gf m.ix 0 0 ω];have hmem:=jj hm (s:=m.reach.getD s 0) (cP ω) (x:=(m.row (m.reach.getD s 0)).getD a 0) (cP ω);have:=qk hm hmem;omega
 ·rw[GD ω]
  have:=hR.at_ (i:=s) ω;exact hm.or (m.reach.getD s 0).toNat a ω ha
theorem xy {f:Int→Int}{R:List Int}(hf:∀ x y,x∈R→y∈R→f x=f y→x=y):∀ (r l:List Int),(∀ x,x∈r→x∈R)→(∀ x,x∈l→x∈R)→(r.map f).foldl cw (l.map f)=(r.foldl cw l).map f
 |[],l,_,_=>rfl
 |t::r,l,hr,hl=>by
  simp only[aJ,List.foldl_cons];have ht:=hr t η;have e:cw (l.map f) (f t)=(cw l t).map f:=by
   by_cases h:t∈l
   ·rw[gF h,gF (List.mem_map.2 ⟨t,h,rfl⟩)]
   ·rw[fg h,fg,List.map_append]
    ·rfl
    ·intro hh
     obtain⟨x,hx,e⟩:=List.mem_map.1 hh;exact h (hf x t (hl x hx) ht e▸hx)
  rw[e];exact xy hf r (cw l t) (λx hx=>hr x (by simp[hx])) (λx hx=>by
   rcases zk.1 hx with h|rfl
   ·exact hl x h
   ·exact ht)
theorem Ia {m:Mly}(hm:MOK m):∀ (f i:Nat) (l:List Int),(∀ x,x∈l→x∈m.reach)→m.T.rf f i (l.map m.ix)=(m.rf f i l).map m.ix
 |0,i,l,_=>rfl
 |f+1,i,l,hl=>by
  simp only[Mly.rf,aE];split
  ·rename_i hi
   have hx:=hl (l.getD i 0) (cP hi);have e:m.T.row ((l.map m.ix).getD i 0)=(m.row (l.getD i 0)).map m.ix:=by
    rw[gf m.ix 0 0 hi];have h1:=qk hm hx;show m.T.nx.getD (m.ix (l.getD i 0)).toNat []=_;rw[BC ω,x3 hm hx]
   rw[e,xy (R:=m.reach) (λx y hx hy e=>Jo hm hx hy e) _ _ (λx hx'=>jj hm hx hx') hl];exact Ia hm f (i+1) _ (λx hx'=>by
    rcases kq.1 hx' with h|h
    ·exact hl x h
    ·exact jj hm hx h)
  ·rfl
theorem Og {m:Mly}(hm:MOK m):m.ix m.st=0:=by
 obtain⟨k,hk⟩:=oO hm;have:=rB hm (i:=0) (vi hm);rw[hk] at this;exact this
theorem Mk {m:Mly}(hm:MOK m):m.T.reach=(List.range m.reach.length).map (fun(i:Nat)=>(i:Int)):=by
 rw[eV (ci (Ap hm)),← SO hm,xZ];have e:([m.T.st]:List Int)=[m.st].map m.ix:=by simp[Mly.T,Og hm]
 rw[e,Ia hm _ _ _ (λx hx=>by
  obtain⟨k,hk⟩:=oO hm;simp at hx;subst hx;rw[hk];simp)]
 congr 1
 rw[eV (ci hm)];have hl:=(gx hm).len;have h1:=(Ap hm)
 -- both have enough fuel
 rw[← eV (ci hm)];have key:∀ (f i:Nat) (l:List Int),(∀ x,x∈m.rf f i l→x∈m.reach)→RSet m.nx.length l→m.nx.length≤f+i→∀ g,m.reach.length≤g+i→m.rf g i l=m.rf f i l:=by
  intro f
  induction f with
  |zero=>
   intro i l _ hl hf g hg;have:=hl.len;rw[i4 m g i l ω,i4 m 0 i l ω]
  |succ f ih=>
   intro i l hsub hl hf g hg
   by_cases hi:i<l.length
   ·cases g with
    |zero=>
     -- i<l.length≤reach.length≤i
     exfalso;obtain⟨k,hk⟩:=oT m (f+1) i l;have h2:l.length≤m.reach.length:=by
      have hnd:l.Nodup:=hl.nd;have hsub2:∀ x,x∈l→x∈m.reach:=λx hx=>hsub x (by rw[hk];simp[hx]);exact ku l m.reach hnd hsub2
     omega
    |succ g=>
     rw[jo m g i l hi,jo m f i l hi];have hr:=hl.at_ hi;refine ih (i+1) _ (λx hx=>hsub x (by rw[jo m f i l hi];exact hx)) (hl.fold (row_rng hm hr.1 hr.2)) ω g ω
   ·rw[i4 m g i l ω,i4 m (f+1) i l ω]
 rw[key (m.nx.length+1) 0 [m.st] (λx hx=>by rw[eV (ci hm)];exact hx) (jd hm) ω (m.reach.length+1) ω];exact(eV (ci hm)).symm
theorem Jb {m:Mly}(h:aK m=0):m.trim=m.T:=vl h
theorem Cx {m:Mly}(hm:MOK m){s:Int}(hs:s∈m.reach):∀ (w:List Int),(∀ i:Nat,i<w.length→0≤w.getD i 0∧w.getD i 0<m.inp)→
 (m.go s w).1∈m.reach∧(m.T.go (m.ix s) w).1=m.ix (m.go s w).1∧(m.T.go (m.ix s) w).2=(m.go s w).2:=by
 intro w hw;have key:∀ k,k≤w.length→(m.go s (w.take k)).1∈m.reach∧(m.T.go (m.ix s) (w.take k)).1=m.ix (m.go s (w.take k)).1∧(m.T.go (m.ix s) (w.take k)).2=(m.go s (w.take k)).2:=by
  intro k
  induction k with
  |zero=>intro _;exact⟨by simpa [AH] using hs,rfl,rfl⟩
  |succ k ih=>
   intro hk;obtain⟨h1,h2,h3⟩:=ih ω;have ha:=hw k ω;rw[kG m s ω,kG m.T _ ω,h2,h3];have hx:=qk hm h1;have hR:=(gx hm).rng _ h1;have hrl:((m.row (m.go s (w.take k)).1).length:Int)=m.inp:=hm.rl _ ω;have e1:m.T.nxt (m.ix (m.go s (w.take k)).1) (w.getD k 0)=m.ix (m.nxt (m.go s (w.take k)).1 (w.getD k 0)):=by
    show(m.T.nx.getD _ []).getD _ 0=_;rw[BC ω,x3 hm h1,gf m.ix 0 0 ω];rfl
   have e2:m.T.out (m.ix (m.go s (w.take k)).1) (w.getD k 0)=m.out (m.go s (w.take k)).1 (w.getD k 0):=by
    show(m.T.ot.getD _ []).getD _ 0=_;rw[GD ω,x3 hm h1];rfl
   refine⟨jj hm h1 (cP ω),e1,?_⟩;show _++[_]=_++[_];rw[e2]
 have:=key w.length (Υ _);rwa[aP] at this
theorem p6 {l:List Int}{i:Nat}(h:i<l.length):l.getD i 0=l[i]:=by simp[List.getD,h]
def rgI (n:Nat):List Int:=(List.range n).map fun(i:Nat)=>(i:Int)
theorem fK (n:Nat):(rgI n).length=n:=by simp[rgI]
theorem oq {n i:Nat}(h:i<n):(rgI n).getD i 0=(i:Int):=by simp[rgI,List.getD,h]
theorem kr {n:Nat}{x:Int}:x∈rgI n↔0≤x∧x<n:=by
 unfold rgI;rw[List.mem_map]
 constructor
 ·rintro⟨i,hi,rfl⟩
  have:=List.mem_range.1 hi;omega
 ·intro h
  exact⟨x.toNat,List.mem_range.2 ω,ω⟩
theorem zj (n:Nat):rgI (n+1)=rgI n++[(n:Int)]:=by simp[rgI,List.range_succ]
theorem we {n:Nat}{l k:List Int}(h:l++k=rgI n):l=rgI l.length:=by
 have hl:l.length≤n:=by have:=congrArg List.length h;rw[aq,fK] at this;omega
 refine List.ext_getElem (by rw[fK]) λi h1 h2=>?_;have e1:(l++k).getD i 0=l.getD i 0:=by simp[List.getD,List.getElem?_append_left h1]
 rw[h,oq ω] at e1;have e2:l.getD i 0=l[i]:=by simp[List.getD,h1]
 have e3:(rgI l.length).getD i 0=(rgI l.length)[i]:=by simp[List.getD,h2]
 rw[← e2,← e3,← e1,oq h1]
structure CAN (x:Mly):Prop where
 ok:MOK x
 st:x.st=0
 rc:x.reach=rgI x.nx.length
 ds:∀ i j:Int,0≤i→i<x.nx.length→0≤j→j<x.nx.length→EQV x i j→i=j
theorem O0 {x y:Mly}{s t:Int}(h:EQ2 x y s t){a:Nat}(ha:(a:Int)<x.inp):x.out s a=y.out t a:=by
 have:=h [(a:Int)] λi hi=>by
  have:i=0:=by simpa using hi
  subst this;simp[List.getD];omega
 rw[fq,fq] at this
 injection this
theorem Ew {x y:Mly}{s t:Int}(h:EQ2 x y s t){a:Nat}(ha:(a:Int)<x.inp):EQ2 x y (x.nxt s a) (y.nxt t a):=λw hw=>by
 have:=h ((a:Int)::w) λi hi=>by
  cases i with
  |zero=>simp[List.getD];omega
  |succ i=>have:=hw i (by simpa using hi);simpa [List.getD] using this
 rw[fq,fq] at this
 injection this
theorem Lb {x y:Mly}(hi:x.inp=y.inp){s t u:Int}(h:EQ2 x y s u)(g:EQ2 x y t u):EQV x s t:=λw hw=>(h w hw).trans (g w hw).symm
theorem xQ {x y:Mly}(hi:x.inp=y.inp){s t u:Int}(h:EQ2 x y s t)(g:EQ2 x y s u):EQV y t u:=λw hw=>(h w (by rw[hi];exact hw)).symm.trans (g w (by rw[hi];exact hw))
structure LCK (x y:Mly)(l:List Int):Prop where
 eq:∀ j,j∈l→EQ2 x y j j
 bx:∀ j,j∈l→0≤j∧j<x.nx.length
 by_:∀ j,j∈l→0≤j∧j<y.nx.length
theorem L4 {x y:Mly}(hx:CAN x)(hy:CAN y)(hi:x.inp=y.inp){l:List Int}(h:LCK x y l){u v:Int}(hu:0≤u∧u<x.nx.length)(hv:0≤v∧v<y.nx.length)(he:EQ2 x y u v)
 (px:∃ k,cw l u++k=x.reach) (py:∃ k,cw l v++k=y.reach):cw l u=cw l v∧LCK x y (cw l u):=by
 by_cases a:u∈l
 ·have h1:=h.by_ u a
  have h2:=hy.ds u v h1.1 h1.2 hv.1 hv.2 (xQ hi (h.eq u a) he);subst h2;rw[gF a];exact⟨rfl,h⟩
 ·by_cases b:v∈l
  ·have h1:=h.bx v b
   have h2:=hx.ds v u h1.1 h1.2 hu.1 hu.2 (Lb hi (h.eq v b) he);subst h2;exact absurd b a
  ·obtain⟨k1,e1⟩:=px
   obtain⟨k2,e2⟩:=py;rw[fg a,hx.rc] at e1;rw[fg b,hy.rc] at e2;have f1:=we e1;have f2:=we e2;have:l++[u]=l++[v]:=by
    rw[f1,f2,aq,aq];rfl
   have huv:u=v:=by
    have:=List.append_cancel_left this
    simpa using this
   subst huv;refine⟨rfl,?_⟩;rw[fg a];refine⟨λj hj=>?_,λj hj=>?_,λj hj=>?_⟩<;>(rcases List.mem_append.1 hj with hj|hj)
   ·exact h.eq j hj
   ·have:j=u:=by simpa using hj
    subst this;exact he
   ·exact h.bx j hj
   ·have:j=u:=by simpa using hj
    subst this;exact hu
   ·exact h.by_ j hj
   ·have:j=u:=by simpa using hj
    subst this;exact hv
theorem zh {x y:Mly}(hx:CAN x)(hy:CAN y)(hi:x.inp=y.inp){l:List Int}(h:LCK x y l){i:Int}(hl:i∈l):∀ a:Nat,(a:Int)≤x.inp→
 (∃ k,((x.row i).take a).foldl cw l++k=x.reach)→(∃ k,((y.row i).take a).foldl cw l++k=y.reach)→
 ((x.row i).take a).foldl cw l=((y.row i).take a).foldl cw l∧LCK x y (((x.row i).take a).foldl cw l)
 |0,_,_,_=>⟨rfl,h⟩
 |a+1,ha,px,py=>by
  have bx:=h.bx i hl;have by1:=h.by_ i hl;have rx:((x.row i).length:Int)=x.inp:=hx.ok.rl i.toNat ω;have ry:((y.row i).length:Int)=y.inp:=hy.ok.rl i.toNat ω;rw[iZ ω] at px⊢;rw[iZ ω] at py⊢;have px0:∃ k,((x.row i).take a).foldl cw l++k=x.reach:=by
   obtain⟨k,e⟩:=px;obtain⟨k2,e2⟩:=t9 (((x.row i).take a).foldl cw l) ((x.row i).getD a 0);exact⟨k2++k,by rw[← List.append_assoc,← e2,e]⟩
  have py0:∃ k,((y.row i).take a).foldl cw l++k=y.reach:=by
   obtain⟨k,e⟩:=py;obtain⟨k2,e2⟩:=t9 (((y.row i).take a).foldl cw l) ((y.row i).getD a 0);exact⟨k2++k,by rw[← List.append_assoc,← e2,e]⟩
  obtain⟨e1,h1⟩:=zh hx hy hi h hl a ω px0 py0;rw[← e1] at py⊢;exact L4 hx hy hi h1 (hx.ok.nr i.toNat a ω ω) (hy.ok.nr i.toNat a ω ω) (Ew (h.eq i hl) ω) px py
theorem H1 {x y:Mly}(hx:CAN x)(hy:CAN y)(hi:x.inp=y.inp):∀ (f i:Nat) (l:List Int),LCK x y l→x.rf f i l=x.reach→y.rf f i l=y.reach→x.reach=y.reach∧LCK x y x.reach
 |0,i,l,h,ex,ey=>⟨ex.symm.trans ey,by rw[← ex];exact h⟩
 |f+1,i,l,h,ex,ey=>by
  by_cases hil:i<l.length
  ·rw[jo x f i l hil] at ex
   rw[jo y f i l hil] at ey;have hm:l.getD i 0∈l:=cP hil;have bx:=h.bx _ hm;have by1:=h.by_ _ hm;have rx:((x.row (l.getD i 0)).length:Int)=x.inp:=hx.ok.rl (l.getD i 0).toNat ω;have ry:((y.row (l.getD i 0)).length:Int)=y.inp:=hy.ok.rl (l.getD i 0).toNat ω;have hi1:=hx.ok.i1;have tx:(x.row (l.getD i 0)).take x.inp.toNat=x.row (l.getD i 0):=List.take_of_length_le ω;have ty:(y.row (l.getD i 0)).take x.inp.toNat=y.row (l.getD i 0):=List.take_of_length_le ω;have px:∃ k,((x.row (l.getD i 0)).take x.inp.toNat).foldl cw l++k=x.reach:=by
    rw[tx];obtain⟨k,e⟩:=oT x f (i+1) ((x.row (l.getD i 0)).foldl cw l);exact⟨k,by rw[← e,ex]⟩
   have py:∃ k,((y.row (l.getD i 0)).take x.inp.toNat).foldl cw l++k=y.reach:=by
    rw[ty];obtain⟨k,e⟩:=oT y f (i+1) ((y.row (l.getD i 0)).foldl cw l);exact⟨k,by rw[← e,ey]⟩
   obtain⟨e1,h1⟩:=zh hx hy hi h hm x.inp.toNat ω px py;rw[tx,ty] at e1;rw[tx] at h1;rw[← e1] at ey;exact H1 hx hy hi f (i+1) _ h1 ex ey
  ·rw[i4 x _ _ _ ω] at ex
   rw[i4 y _ _ _ ω] at ey;exact⟨ex.symm.trans ey,by rw[← ex];exact h⟩
theorem Rd {x y:Mly}(hx:CAN x)(hy:CAN y)(hi:x.inp=y.inp)(h:EQ2 x y 0 0):x.nx=y.nx∧x.ot=y.ot:=by
 have hn1:=hx.ok.n1;have hn2:=hy.ok.n1;have ex:x.rf (x.nx.length+y.nx.length+1) 0 [0]=x.reach:=by
  rw[eV (ci hx.ok),hx.st];have:=wV hx.ok (x.nx.length+1) 0 [0] (by have:=jd hx.ok;rwa[hx.st] at this) ω (x.nx.length+y.nx.length+1) ω;exact this
 have ey:y.rf (x.nx.length+y.nx.length+1) 0 [0]=y.reach:=by
  rw[eV (ci hy.ok),hy.st];have:=wV hy.ok (y.nx.length+1) 0 [0] (by have:=jd hy.ok;rwa[hy.st] at this) ω (x.nx.length+y.nx.length+1) ω;exact this
 have h0:LCK x y [0]:=⟨λj hj=>(by have:j=0:=by simpa using hj
                                  subst this;exact h),λj hj=>(by have:j=0:=by simpa using hj
                                                                 subst this;omega),λj hj=>(by have:j=0:=by simpa using hj
                                                                                              subst this;omega)⟩
 obtain⟨e,hl⟩:=H1 hx hy hi _ 0 [0] h0 ex ey;have hlen:x.nx.length=y.nx.length:=by
  have:=congrArg List.length e;rwa[hx.rc,hy.rc,fK,fK] at this
 have hq:∀ j:Nat,j<x.nx.length→EQ2 x y j j:=λj hj=>hl.eq j (by rw[hx.rc];exact kr.2 ⟨ω,ω⟩);have hox:=hx.ok.ol;have hoy:=hy.ok.ol;have hi1:=hx.ok.i1
 constructor
 ·refine List.ext_getElem hlen λj h1 h2=>?_
  have r1:=hx.ok.rl j h1;have r2:=hy.ok.rl j h2;have g1:x.nx.getD j []=x.nx[j]:=by simp[List.getD,h1]
  have g2:y.nx.getD j []=y.nx[j]:=by simp[List.getD,h2]
  rw[← g1,← g2];refine List.ext_getElem ω λa a1 a2=>?_;have n1:=hx.ok.nr j a h1 ω;have n2:=hy.ok.nr j a h2 ω;have q1:=Ew (hq j h1) (a:=a) ω;have m1:x.nxt j a=(x.nx.getD j []).getD a 0:=rfl;have m2:y.nxt j a=(y.nx.getD j []).getD a 0:=rfl;rw[m1,m2] at q1;have q2:=hq ((x.nx.getD j []).getD a 0).toNat ω;rw[Int.toNat_of_nonneg n1.1] at q2;have:=hy.ds _ _ n1.1 ω n2.1 n2.2 (xQ hi q2 q1);rw[← p6 a1,← p6 a2];exact this
 ·refine List.ext_getElem ω λj h1 h2=>?_
  have r1:=hx.ok.ql j ω;have r2:=hy.ok.ql j ω;have g1:x.ot.getD j []=x.ot[j]:=by simp[List.getD,h1]
  have g2:y.ot.getD j []=y.ot[j]:=by simp[List.getD,h2]
  rw[← g1,← g2];refine List.ext_getElem ω λa a1 a2=>?_;have q1:=O0 (hq j ω) (a:=a) ω;have m1:x.out j a=(x.ot.getD j []).getD a 0:=rfl;have m2:y.out j a=(y.ot.getD j []).getD a 0:=rfl;rw[m1,m2] at q1;rw[← p6 a1,← p6 a2];exact q1
abbrev PP:=Int×Int
abbrev SYS:=PP→Nat→PP×Int
def d0:PP:=(0,0)
def bL (F:SYS)(p:PP)(l:List PP)(x:Nat):List PP:=(List.range x).foldl (λl y=>gp l (F p y).1) l
def bN (F:SYS)(p:PP)(l:List PP)(x:Nat):List Int:=(List.range x).map λy=>(pos (bL F p l y) (F p y).1:Int)
def bO (F:SYS)(p:PP)(x:Nat):List Int:=(List.range x).map λy=>(F p y).2
def bX (F:SYS)(p:PP)(l:List PP)(y:Nat):Bool:=decide (128<(bL F p l (y+1)).length)||decide (1048576<(F p y).2)
abbrev BST:=List PP×(List (List Int)×List (List Int))
def bA (F:SYS)(n i:Nat)(s:BST):BST:=(bL F (s.1.getD i d0) s.1 n,s.2.1++[bN F (s.1.getD i d0) s.1 n],s.2.2++[bO F (s.1.getD i d0) n])
def bF (F:SYS)(n:Nat):Nat→Nat→BST→Option BST
 |0,_,_=>none
 |f+1,i,s=>if i<s.1.length then if(List.range n).any (bX F (s.1.getD i d0) s.1)=true then none else bF F n f (i+1) (bA F n i s) else some s
def bR (F:SYS)(n:Nat)(p0:PP):Option BST:=bF F n 130 0 ([p0],[],[])
theorem nE (F:SYS)(p:PP)(l:List PP)(x:Nat):bL F p l (x+1)=gp (bL F p l x) (F p x).1:=by
 unfold bL;rw[List.range_succ,List.foldl_append];rfl
theorem yX {α:Type}[DecidableEq α](l:List α)(x:α):∃ k,gp l x=l++k:=GI [x] l
theorem qV (F:SYS)(p:PP)(l:List PP):∀ x,∃ k,bL F p l x=l++k
 |0=>⟨[],by simp[bL]⟩
 |x+1=>by
  obtain⟨k,e⟩:=qV F p l x;obtain⟨k',e'⟩:=yX (bL F p l x) (F p x).1;exact⟨k++k',by rw[nE,e',e,List.append_assoc]⟩
theorem vu (F:SYS)(p:PP)(l:List PP)(x:Nat):∀ d,∃ k,bL F p l (x+d)=bL F p l x++k
 |0=>⟨[],η⟩
 |d+1=>by
  obtain⟨k,e⟩:=vu F p l x d;obtain⟨k',e'⟩:=yX (bL F p l (x+d)) (F p (x+d)).1;exact⟨k++k',by rw[← Nat.add_assoc,nE,e',e,List.append_assoc]⟩
theorem LT (F:SYS)(p:PP)(l:List PP)(x:Nat):l.length≤(bL F p l x).length:=by
 obtain⟨k,e⟩:=qV F p l x;rw[e,aq];omega
theorem xn (F:SYS)(p:PP){l:List PP}(x:Nat){i:Nat}(h:i<l.length):(bL F p l x).getD i d0=l.getD i d0:=by
 obtain⟨k,e⟩:=qV F p l x;rw[e];simp[List.getD,List.getElem?_append_left h]
theorem Oy (F:SYS)(p:PP)(l:List PP){x y:Nat}(h:y<x):(F p y).1∈bL F p l x:=by
 obtain⟨k,e⟩:=vu F p l (y+1) (x-(y+1));rw[show x=y+1+(x-(y+1)) by omega,e,List.mem_append,nE,rq];exact .inl (.inr rfl)
theorem zC (F:SYS)(p:PP){l:List PP}(h:l.Nodup):∀ x,(bL F p l x).Nodup
 |0=>by simpa [bL] using h
 |x+1=>by rw[nE];exact CC (zC F p h x) _
theorem Ny {α:Type}[DecidableEq α](l:List α)(x:α):pos (gp l x) x=pos l x:=by
 by_cases h:x∈l
 ·rw[gU h]
 ·rw[gg h,rD h,Dx h]
theorem SK (F:SYS)(p:PP)(l:List PP){x y:Nat}(h:y<x):pos (bL F p l x) (F p y).1=pos (bL F p l y) (F p y).1:=by
 obtain⟨k,e⟩:=vu F p l (y+1) (x-(y+1));rw[show x=y+1+(x-(y+1)) by omega,e,jr _ (Oy F p l (Nat.lt_succ_self y)),nE,Ny]
structure BOK (F:SYS)(n:Nat)(p0:PP)(i:Nat)(s:BST):Prop where
 nd:s.1.Nodup
 le:s.1.length≤128
 nl:s.2.1.length=i
 ol:s.2.2.length=i
 il:i≤s.1.length
 hd:s.1.getD 0 d0=p0
 h0:0<s.1.length
 nx:∀ j,j<i→s.2.1.getD j []=(List.range n).map λx=>(pos s.1 (F (s.1.getD j d0) x).1:Int)
 ot:∀ j,j<i→s.2.2.getD j []=(List.range n).map λx=>(F (s.1.getD j d0) x).2
 cl:∀ j x,j<i→x<n→(F (s.1.getD j d0) x).1∈s.1
 bd:∀ j x,j<i→x<n→(F (s.1.getD j d0) x).2≤1048576
theorem dS {α:Type}{l:List α}{y d:α}{i:Nat}(h:i<l.length):(l++[y]).getD i d=l.getD i d:=by simp[List.getD,List.getElem?_append_left h]
theorem ge {α:Type}{l:List α}{y d:α}{i:Nat}(h:i=l.length):(l++[y]).getD i d=y:=by subst h;simp[List.getD]
theorem M7 {F:SYS}{p:PP}{l:List PP}{n:Nat}(h:(List.range n).any (bX F p l)=false){y:Nat}(hy:y<n):(bL F p l (y+1)).length≤128∧(F p y).2≤1048576:=by
 rw[List.any_eq_false] at h;have:=h y (by simpa using hy);simp only[bX,Bool.not_eq_true,Bool.or_eq_false_iff,decide_eq_false_iff_not] at this;omega
theorem UD {F:SYS}{p:PP}{l:List PP}{n:Nat}(hl:l.length≤128)(h:(List.range n).any (bX F p l)=false):(bL F p l n).length≤128:=by
 cases n with
 |zero=>simpa [bL] using hl
 |succ n=>exact(M7 h (Nat.lt_succ_self n)).1
theorem BOK.step {F:SYS}{n:Nat}{p0:PP}{i:Nat}{s:BST}(h:BOK F n p0 i s)(hi:i<s.1.length)(hb:(List.range n).any (bX F (s.1.getD i d0) s.1)=false):BOK F n p0 (i+1) (bA F n i s) where
 nd:=zC F _ h.nd n
 le:=UD h.le hb
 nl:=by simp[bA,h.nl]
 ol:=by simp[bA,h.ol]
 il:=Nat.le_trans hi (LT F _ s.1 n)
 hd:=by simp only[bA];rw[xn F _ n h.h0];exact h.hd
 h0:=Nat.lt_of_lt_of_le h.h0 (LT F _ s.1 n)
 nx:=λj hj=>by
  simp only[bA];rw[xn F _ n (show j<s.1.length by omega)]
  by_cases e:j=i
  ·rw[ge (by rw[h.nl,e]),e]
   exact List.map_congr_left λx hx=>by rw[SK F _ s.1 (List.mem_range.1 hx)]
  ·have hji:j<i:=by omega
   rw[dS (by rw[h.nl];exact hji),h.nx j hji];refine List.map_congr_left λx hx=>?_;obtain⟨k,ek⟩:=qV F (s.1.getD i d0) s.1 n;rw[ek,jr _ (h.cl j x hji (List.mem_range.1 hx))]
 ot:=λj hj=>by
  simp only[bA];rw[xn F _ n (show j<s.1.length by omega)]
  by_cases e:j=i
  ·rw[ge (by rw[h.ol,e]),e];rfl
  ·rw[dS (by rw[h.ol];omega),h.ot j ω]
 cl:=λj x hj hx=>by
  simp only[bA];rw[xn F _ n (show j<s.1.length by omega)]
  by_cases e:j=i
  ·rw[e];exact Oy F _ s.1 hx
  ·obtain⟨k,ek⟩:=qV F (s.1.getD i d0) s.1 n
   rw[ek,List.mem_append];exact .inl (h.cl j x ω hx)
 bd:=λj x hj hx=>by
  simp only[bA];rw[xn F _ n (show j<s.1.length by omega)]
  by_cases e:j=i
  ·rw[e];exact(M7 hb hx).2
  ·exact h.bd j x ω hx
section
variable {F:SYS} {n:Nat} {p0:PP} {s:BST} (h:bR F n p0=some s)
include h
end
def Um (xs:List Int):List Int:=xs.mergeSort λx y=>decide (x≤y)
def tY (xs:List Int):List Int:=Lib.compact (Um xs)
theorem oF {l:List Int}(hn:l.Nodup){i:Nat}(h:i<l.length):pos l (l.getD i 0)=i:=by
 have hm:=cP h;have h1:=l5 hm;have h2:=m8 hm;have h3:l[i]? =some (l.getD i 0):=by simp[List.getD,h]
 exact(List.getElem?_inj h1 hn).1 (h2.trans h3.symm)
def trE (m:Mly)(ws:List (List Int)):Int:=if ¬aK m=0 then aK m else if 10000<ws.length then 11 else dK (λi=>bQ (ws.getD i []) m.inp) ws.length
abbrev TRC:=List Int×(List Int×Unit)
def trX (m:Mly)(w:List Int):TRC:=(w,((m.go m.st w).2,()))
def trL (m:Mly)(ws:List (List Int)):List TRC:=if trE m ws=0 then ws.map (trX m) else []
theorem At {m:Mly}{ws:List (List Int)}(h:¬aK m=0):trE m ws=aK m:=if_pos h
theorem AT {m:Mly}{ws:List (List Int)}(h:aK m=0)(h2:10000<ws.length):trE m ws=11:=by unfold trE;rw[if_neg (λk=>k h),if_pos h2]
theorem B3 {m:Mly}{ws:List (List Int)}(h:aK m=0)(h2:¬10000<ws.length){k:Nat}(hk:k<ws.length)(h3:∀ i,i<k→bQ (ws.getD i []) m.inp=0)(h4:¬bQ (ws.getD k []) m.inp=0):trE m ws=bQ (ws.getD k []) m.inp:=by
 unfold trE;rw[if_neg (λk=>k h),if_neg h2];exact bC h3 hk h4
theorem qi {m:Mly}{ws:List (List Int)}(h:aK m=0)(h2:¬10000<ws.length)(h3:∀ i,i<ws.length→bQ (ws.getD i []) m.inp=0):trE m ws=0:=by
 unfold trE;rw[if_neg (λk=>k h),if_neg h2];exact bH h3
theorem fW {m:Mly}{ws:List (List Int)}(h:¬trE m ws=0):trL m ws=[]:=if_neg h
theorem oM {m:Mly}{ws:List (List Int)}(h:trE m ws=0):trL m ws=ws.map (trX m):=if_pos h
theorem uq {l:List Int}(f:Int→Int){j:Nat}(h:j<l.length):(l.take (j+1)).map f=(l.take j).map f++[f (l.getD j 0)]:=by
 rw[dx h,List.map_append];rfl
theorem uA {β:Type}(f:List Int→β){l:List (List Int)}{j:Nat}(h:j<l.length):(l.take (j+1)).map f=(l.take j).map f++[f (l.getD j [])]:=by
 rw[List.map_take,List.map_take];exact kK f [] h
def aT:TRC:=([],([],()))
theorem iS {xs:List TRC}{k:Nat}(h:k<xs.length)(d:TRC):xs.getD k d=((xs.getD k aT).1,((xs.getD k aT).2.1,())):=by simp[List.getD,h]
theorem DZ:∀ (xs:List Int) (a:Int),a≤xs.foldl max a∧∀ x,x∈xs→x≤xs.foldl max a
 |[],a=>⟨Int.le_refl a,λx h=>by cases h⟩
 |y::xs,a=>by
  rw[List.foldl_cons];obtain⟨h1,h2⟩:=DZ xs (max a y);refine⟨ω,λx hx=>?_⟩;rcases List.mem_cons.1 hx with e|h
  ·omega
  ·exact h2 x h
def gr (m:Mly):Int:=m.ot.flatten.foldl max 0
theorem Of {m:Mly}(hm:MOK m){s a:Int}(hs:0≤s∧s<m.nx.length)(ha:0≤a∧a<m.inp):m.out s a∈m.ot.flatten:=by
 have hol:=hm.ol;have h1:s.toNat<m.ot.length:=ω;have h2:=hm.ql s.toNat ω;rw[List.mem_flatten];refine⟨m.ot.getD s.toNat [],by simp[List.getD,h1],cP ω⟩
theorem HO {m:Mly}(hm:MOK m){s a:Int}(hs:0≤s∧s<m.nx.length)(ha:0≤a∧a<m.inp):0≤m.out s a∧m.out s a≤gr m:=by
 refine⟨?_,(DZ _ _).2 _ (Of hm hs ha)⟩;exact(hm.or s.toNat a.toNat ω ω).1
theorem iH {m:Mly}(hm:MOK m){s a:Int}(hs:0≤s∧s<m.nx.length)(ha:0≤a∧a<m.inp):0≤m.nxt s a∧m.nxt s a<m.nx.length:=hm.nr s.toNat a.toNat ω ω
def FP (a b:Mly):SYS:=λp x=>((a.nxt p.1 x,b.nxt p.2 x),a.out p.1 x*(1+gr b)+b.out p.2 x)
def FL (a b:Mly):SYS:=λp x=>if(x:Int)<a.inp then((a.nxt p.1 x,p.2),a.out p.1 x) else((p.1,b.nxt p.2 (x-a.inp)),b.out p.2 (x-a.inp)+(1+gr a))
def FC (a b:Mly):SYS:=λp x=>((a.nxt p.1 x,b.nxt p.2 (a.out p.1 x)),b.out p.2 (a.out p.1 x))
def FR (m:Mly)(is:List Int):SYS:=λp x=>((m.nxt p.1 (is.getD x 0),0),m.out p.1 (is.getD x 0))
def FM (m:Mly)(os:List Int):SYS:=λp x=>((m.nxt p.1 x,0),os.getD (m.out p.1 x).toNat 0)
def IP (a b:Mly)(p:PP):Prop:=(0≤p.1∧p.1<a.nx.length)∧0≤p.2∧p.2<b.nx.length
def IS (m:Mly)(p:PP):Prop:=(0≤p.1∧p.1<m.nx.length)∧p.2=0
theorem IP.st {a b:Mly}(ha:MOK a)(hb:MOK b):IP a b (a.st,b.st):=⟨⟨ha.s1,ha.s2⟩,hb.s1,hb.s2⟩
theorem IS.st {m:Mly}(hm:MOK m):IS m (m.st,0):=⟨⟨hm.s1,hm.s2⟩,rfl⟩
theorem FP.keep {a b:Mly}(ha:MOK a)(hb:MOK b)(hi:a.inp=b.inp):∀ q,IP a b q→∀ x,x<a.inp.toNat→IP a b (FP a b q x).1:=λq hq x hx=>
 ⟨iH ha hq.1 ⟨ω,ω⟩,iH hb hq.2 ⟨ω,ω⟩⟩
theorem FL.keep {a b:Mly}(ha:MOK a)(hb:MOK b):∀ q,IP a b q→∀ x,x<(a.inp+b.inp).toNat→IP a b (FL a b q x).1:=λq hq x hx=>by
 unfold FL;split
 ·exact⟨iH ha hq.1 ⟨ω,ω⟩,hq.2⟩
 ·exact⟨hq.1,iH hb hq.2 ⟨ω,ω⟩⟩
theorem FC.keep {a b:Mly}(ha:MOK a)(hb:MOK b)(hg:gr a<b.inp):∀ q,IP a b q→∀ x,x<a.inp.toNat→IP a b (FC a b q x).1:=λq hq x hx=>by
 have h1:=HO ha hq.1 (a:=(x:Int)) ⟨ω,ω⟩;exact⟨iH ha hq.1 ⟨ω,ω⟩,iH hb hq.2 ⟨ω,ω⟩⟩
theorem FR.keep {m:Mly}(hm:MOK m){is:List Int}(hi:∀ i,i<is.length→0≤is.getD i 0∧is.getD i 0<m.inp):∀ q,IS m q→∀ x,x<is.length→IS m (FR m is q x).1:=λq hq x hx=>
 ⟨iH hm hq.1 (hi x hx),rfl⟩
theorem FM.keep {m:Mly}(hm:MOK m)(os:List Int):∀ q,IS m q→∀ x,x<m.inp.toNat→IS m (FM m os q x).1:=λq hq x hx=>
 ⟨iH hm hq.1 ⟨ω,ω⟩,rfl⟩
structure SNG (X:Mly)(F:SYS):Prop where
 st:∀ s x:Nat,s<X.nx.length→(x:Int)<X.inp→F ((s:Int),0) x=((X.nxt s x,0),X.out s x)
theorem SNG.at_ {X:Mly}{F:SYS}(h:SNG X F){q:PP}(hq:IS X q){x:Nat}(hx:(x:Int)<X.inp):F q x=((X.nxt q.1 x,0),X.out q.1 x):=by
 obtain⟨q1,q2⟩:=q;obtain⟨h1,h2⟩:=hq;simp only at h1 h2;subst h2;have:=h.st q1.toNat x ω hx;rw[Int.toNat_of_nonneg h1.1] at this;exact this
abbrev Bs:=List UInt8
def bt (s:Bs)(k:Nat):Int:=((s.getD k 0).toNat:Int)
def okI (c:Int):Prop:=(97≤c∧c≤122)∨(65≤c∧c≤90)∨(48≤c∧c≤57)∨c=95∨c=45∨c=46
instance (c:Int):Decidable (okI c):=by unfold okI;exact inferInstance
def Gv (s:Bs):Bool:=s.all (λb=>decide (okI (b.toNat:Int)))&&decide (1≤s.length)&&decide (s.length≤32)
def nmE (xs:List Bs)(i:Nat):Int:=if Gv (xs.getD i [])=false then 9 else if xs.getD i []∈xs.take i then 7 else 0
def alE (xs:List Bs):Int:=if xs.length=0 then 19 else if 64<xs.length then 3 else dK (nmE xs) xs.length
structure AOK (xs:List Bs):Prop where
 n0:1≤xs.length
 n1:xs.length≤64
 nm:∀ k,k<xs.length→Gv (xs.getD k [])=true
 nw:∀ k,k<xs.length→xs.getD k []∉xs.take k
theorem xO {xs:List Bs}{k:Nat}(h:k<xs.length):xs.getD k []∈xs:=by simp[List.getD,h]
theorem Vv {xs:List Bs}{x:Bs}:x∈xs↔∃ j,j<xs.length∧xs.getD j []=x:=by
 constructor
 ·intro h
  obtain⟨j,hj⟩:=List.getElem?_of_mem h;exact⟨j,(Δ.1 hj).1,by simp[List.getD,hj]⟩
 ·rintro⟨j,hj,e⟩;rw[← e];exact xO hj
theorem F8 {xs:List Bs}{i k:Nat}(hi:i<k):(xs.take k).getD i []=xs.getD i []:=by simp[List.getD,List.getElem?_take,hi]
theorem Dy {q:Bs}:∀ {l:List Bs} {k:Nat},k<pos l q→l.getD k []≠q
 |[],k,h=>by simp[pos] at h
 |y::l,k,h=>by
  simp only[pos] at h;split at h
  ·omega
  ·rename_i e
   cases k with
   |zero=>simpa [List.getD] using e
   |succ k=>
    have:=Dy (q:=q) (l:=l) (k:=k) ω
    simpa [List.getD] using this
theorem Nh {l:List Bs}{q:Bs}(h:q∈l):l.getD (pos l q) []=q:=by rw[List.getD,m8 h];rfl
theorem Vt {l:List Bs}{q:Bs}{k:Nat}(hq:∀ j,j<k→l.getD j []≠q)(hk:k<l.length)(h:l.getD k []=q):pos l q=k∧q∈l:=by
 have hm:q∈l:=by rw[← h];exact xO hk
 refine⟨?_,hm⟩;rcases Nat.lt_trichotomy k (pos l q) with h2|h2|h2
 ·exact absurd h (Dy h2)
 ·exact h2.symm
 ·exact absurd (Nh hm) (hq _ h2)
theorem AOK.pos {xs:List Bs}(h:AOK xs){k:Nat}(hk:k<xs.length):pos xs (xs.getD k [])=k:=
 (Vt (λj hj e=>h.nw k hk (by rw[Vv];exact⟨j,by rw[List.length_take];omega,by rw[F8 hj,e]⟩)) hk rfl).1
def Dm (s:Bs):Nat→List Bs×Nat
 |0=>([],0)
 |k+1=>if bt s k=32 then((Dm s k).1++[(s.take k).drop (Dm s k).2],k+1) else Dm s k
def spl (s:Bs):List Bs:=(Dm s s.length).1++[s.drop (Dm s s.length).2]
def aU (s:Bs):List Bs:=if s=[] then [] else spl s
def cmn:List Int→List Int→Nat
 |x::a,y::b=>if x=y then cmn a b+1 else 0
 |_,_=>0
theorem jK:∀ {k:Nat} {a b:List Int},(∀ q,q<k→a.getD q 0=b.getD q 0)→k≤a.length→k≤b.length→¬(k<a.length∧k<b.length∧a.getD k 0=b.getD k 0)→cmn a b=k
 |0,[],_,_,_,_,_=>by simp[cmn]
 |0,_::_,[],_,_,_,_=>by simp[cmn]
 |0,x::a,y::b,_,_,_,h=>by
  have:x≠y:=λe=>h ⟨η,η,by simpa [List.getD] using e⟩;simp[cmn,this]
 |k+1,[],_,_,h,_,_=>by simp at h
 |k+1,_::_,[],_,_,h,_=>by simp at h
 |k+1,x::a,y::b,hq,h1,h2,h=>by
  have e:x=y:=by simpa [List.getD] using hq 0 ω
  simp only[cmn,if_pos e]
  congr 1
  refine jK (λq hq2=>?_) (by simpa using h1) (by simpa using h2) λh3=>h ⟨by simpa using h3.1,by simpa using h3.2.1,by simpa [List.getD] using h3.2.2⟩
  simpa [List.getD] using hq (q+1) ω
theorem Aj:∀ a:List Int,cmn a a=a.length
 |[]=>rfl
 |x::a=>by simp[cmn,Aj a]
def cN (cl:List Int):Nat→Int
 |0=>0
 |k+1=>max (cN cl k) (cl.getD k 0+1)
def iV (cl:List Int)(k:Nat):Bool:=decide (cl.getD k 0<0)||decide (cN cl k<cl.getD k 0)
def nB (cl:List Int):Int:=if cl.length<1∨64<cl.length then 2 else if(List.range cl.length).any (iV cl)=true then 1 else 0
def JY (cl:List Int):Int:=if nB cl=0 then cN cl cl.length else 0
theorem qL {cl:List Int}{k:Nat}(h1:0≤cl.getD k 0)(h2:cl.getD k 0≤cN cl k):iV cl k=false:=by
 unfold iV;rw[decide_eq_false ω,decide_eq_false ω];rfl
theorem Mp {cl:List Int}(h:¬(cl.length<1∨64<cl.length))(hb:∀ k,k<cl.length→iV cl k=false):nB cl=0:=by
 unfold nB;rw[if_neg h,if_neg];intro hh;obtain⟨k,hk,hc⟩:=List.any_eq_true.1 hh;rw[hb k (by simpa using hk)] at hc
 cases hc
def zZ (m:Mly)(cl:List Int):Int:=if aK m≠0 then aK m else if nB cl≠0 then nB cl else if(cl.length:Int)=m.inp then 0 else 15
structure COK (m:Mly)(cl:List Int):Prop where
 ok:MOK m
 ce:nB cl=0
 len:(cl.length:Int)=m.inp
theorem Qp {m:Mly}{cl:List Int}(h:zZ m cl=0):COK m cl:=by
 unfold zZ at h;split at h
 ·contradiction
 ·rename_i h1
  split at h
  ·contradiction
  ·rename_i h2
   split at h
   ·rename_i h3;exact⟨fc (Decidable.not_not.1 h1),Decidable.not_not.1 h2,h3⟩
   ·omega
abbrev S2:=Int×List Int
def eX0:S2:=(0,[])
def d9 (l:List S2):List Int:=l.map (·.1)
def qG (l:List S2):List (List Int):=l.map (·.2)
def stX (m:Mly)(e:S2)(l:List S2)(x:Nat):List S2:=if(m.row e.1).getD x 0∈d9 l then l else l++[((m.row e.1).getD x 0,e.2++[(x:Int)])]
def ep (m:Mly)(e:S2)(l:List S2)(x:Nat):List S2:=(List.range x).foldl (stX m e) l
def exF (m:Mly):Nat→Nat→List S2→List S2
 |0,_,l=>l
 |f+1,i,l=>if i<l.length then exF m f (i+1) (ep m (l.getD i eX0) l m.inp.toNat) else l
def Mly.exR (m:Mly):List S2:=exF m (m.nx.length+1) 0 [(m.st,[])]
theorem ig (m:Mly)(e:S2)(l:List S2)(x:Nat):ep m e l (x+1)=stX m e (ep m e l x) x:=by
 unfold ep;rw[List.range_succ,List.foldl_append];rfl
theorem M3 (m:Mly)(e:S2)(l:List S2)(x:Nat):∃ k,stX m e l x=l++k:=by
 unfold stX;split
 ·exact⟨[],η⟩
 ·exact⟨_,rfl⟩
theorem oJ (m:Mly)(e:S2)(l:List S2):∀ x,∃ k,ep m e l x=l++k
 |0=>⟨[],by simp[ep]⟩
 |x+1=>by
  obtain⟨k1,h1⟩:=oJ m e l x;obtain⟨k2,h2⟩:=M3 m e (ep m e l x) x;exact⟨k1++k2,by rw[ig,h2,h1,List.append_assoc]⟩
theorem Do (m:Mly)(e:S2){l:List S2}(x:Nat){i:Nat}(h:i<l.length):(ep m e l x).getD i eX0=l.getD i eX0:=by
 obtain⟨k,hk⟩:=oJ m e l x;rw[hk];simp[List.getD,List.getElem?_append_left h]
theorem nT (m:Mly)(e:S2)(l:List S2)(x:Nat):l.length≤(ep m e l x).length:=by
 obtain⟨k,hk⟩:=oJ m e l x;rw[hk];simp
theorem D8 (m:Mly):∀ (f i:Nat) (l:List S2),∃ k,exF m f i l=l++k
 |0,i,l=>⟨[],by simp[exF]⟩
 |f+1,i,l=>by
  simp only[exF];split
  ·obtain⟨k1,h1⟩:=oJ m (l.getD i eX0) l m.inp.toNat
   obtain⟨k2,h2⟩:=D8 m f (i+1) (ep m (l.getD i eX0) l m.inp.toNat);exact⟨k1++k2,by rw[h2,h1,List.append_assoc]⟩
  ·exact⟨[],η⟩
theorem DG (m:Mly)(f i:Nat)(l:List S2)(h:l.length≤i):exF m f i l=l:=by
 cases f with
 |zero=>rfl
 |succ f=>simp only[exF];rw[if_neg ω]
theorem Ah (m:Mly)(f i:Nat)(l:List S2)(h:i<l.length):exF m (f+1) i l=exF m f (i+1) (ep m (l.getD i eX0) l m.inp.toNat):=by
 simp only[exF];rw[if_pos h]
structure WFX (m:Mly)(l:List S2):Prop where
 rs:RSet m.nx.length (d9 l)
 wl:∀ e,e∈l→e.2.length≤l.length
theorem jT (l:List S2):(d9 l).length=l.length:=by simp[d9]
theorem z6 (l:List S2):(qG l).length=l.length:=by simp[qG]
theorem qn {l:List S2}{i:Nat}(h:i<l.length):(d9 l).getD i 0=(l.getD i eX0).1:=by simp[d9,List.getD,h]
theorem WFX.le {m:Mly}{l:List S2}(h:WFX m l):l.length≤m.nx.length:=by have:=h.rs.len;rwa[jT] at this
theorem WFX.at_ {m:Mly}{l:List S2}(h:WFX m l){i:Nat}(hi:i<l.length):0≤(l.getD i eX0).1∧(l.getD i eX0).1<m.nx.length:=by
 rw[← qn hi];exact h.rs.at_ (by rw[jT];exact hi)
theorem BJ {l:List S2}{i:Nat}(h:i<l.length):l.getD i eX0∈l:=by simp[List.getD,h]
theorem WFX.step {m:Mly}(hm:MOK m){l:List S2}(h:WFX m l){e:S2}(he:0≤e.1∧e.1<m.nx.length)(hw:e.2.length≤l.length){x:Nat}(hx:(x:Int)<m.inp):WFX m (stX m e l x):=by
 unfold stX;split
 ·exact h
 ·rename_i hn
  have n1:=hm.nr e.1.toNat x ω hx;refine⟨?_,λf hf=>?_⟩
  ·have e1:d9 (l++[((m.row e.1).getD x 0,e.2++[(x:Int)])])=cw (d9 l) ((m.row e.1).getD x 0):=by rw[fg hn];simp[d9]
   rw[e1];exact h.rs.add n1.1 n1.2
  ·simp only[aq,ax,aF]
   rcases List.mem_append.1 hf with hf|hf
   ·have:=h.wl f hf;omega
   ·simp at hf;subst hf;simp;omega
theorem WFX.row {m:Mly}(hm:MOK m){l:List S2}(h:WFX m l){i:Nat}(hil:i<l.length):∀ x:Nat,(x:Int)≤m.inp→WFX m (ep m (l.getD i eX0) l x)
 |0,_=>by simpa [ep] using h
 |x+1,hx=>by
  rw[ig];have h1:=WFX.row hm h hil x ω;have h2:=nT m (l.getD i eX0) l x;have h3:=h.wl _ (BJ hil);exact h1.step hm (h.at_ hil) ω ω
theorem qp {m:Mly}(hm:MOK m):WFX m [(m.st,[])]:=⟨jd hm,λe he=>by simp at he;subst he;simp⟩
theorem Dv {m:Mly}(hm:MOK m):∀ (f i:Nat) (l:List S2),WFX m l→WFX m (exF m f i l)
 |0,_,_,h=>h
 |f+1,i,l,h=>by
  simp only[exF];split
  ·rename_i hi
   have hi1:=hm.i1;exact Dv hm f (i+1) _ (h.row hm hi m.inp.toNat ω)
  ·exact h
theorem qJ {m:Mly}(hm:MOK m):WFX m m.exR:=Dv hm _ _ _ (qp hm)
theorem Et (m:Mly)(e:S2)(l:List S2):∀ x,x≤(m.row e.1).length→d9 (ep m e l x)=((m.row e.1).take x).foldl cw (d9 l)
 |0,_=>by simp[ep]
 |x+1,hx=>by
  rw[ig,dx ω,List.foldl_append,← Et m e l x ω];simp only[List.foldl_cons,List.foldl_nil];unfold stX
  by_cases hh:(m.row e.1).getD x 0∈d9 (ep m e l x)
  ·rw[if_pos hh,gF hh]
  ·rw[if_neg hh,fg hh];simp[d9]
theorem Cd {m:Mly}(hm:MOK m):∀ (f i:Nat) (l:List S2),WFX m l→d9 (exF m f i l)=m.rf f i (d9 l)
 |0,_,_,_=>rfl
 |f+1,i,l,h=>by
  simp only[exF,Mly.rf,jT];split
  ·rename_i hi
   have hi1:=hm.i1;have hr:=h.at_ hi;have hl:((m.row (l.getD i eX0).1).length:Int)=m.inp:=hm.rl (l.getD i eX0).1.toNat ω;rw[Cd hm f (i+1) _ (h.row hm hi m.inp.toNat ω),Et m _ _ _ ω,qn hi,List.take_of_length_le ω]
  ·rfl
theorem xM {m:Mly}(hm:MOK m):d9 m.exR=m.reach:=by
 rw[eV (ci hm)];exact Cd hm _ _ _ (qp hm)
def vQ (m:Mly)(s:Int)(c d:Nat):Bool:=decide (m.out s c=m.out s d)&&decide (m.eqc.getD (m.nxt s c).toNat 0=m.eqc.getD (m.nxt s d).toNat 0)
def IU (m:Mly)(cl:List Int)(s:Int)(c d:Nat):Bool:=decide (cl.getD c 0=cl.getD d 0)&& !vQ m s c d
def Ig (m:Mly)(cl:List Int)(s:Int)(c:Nat):Option Nat:=(List.range cl.length).find? λd=>decide (c<d)&&IU m cl s c d
def MG (m:Mly)(cl:List Int)(s:Int):Option (Nat×Nat):=(List.range cl.length).findSome? λc=>(Ig m cl s c).map λd=>(c,d)
def JI (m:Mly)(cl:List Int):Option (Nat×Nat×Nat):=(List.range m.exR.length).findSome? λi=>(MG m cl (m.exR.getD i eX0).1).map λp=>(i,p.1,p.2)
theorem JP {m:Mly}{e:S2}{l:List S2}{x:Nat}(h:(m.row e.1).getD x 0∈d9 l):stX m e l x=l:=by unfold stX;rw[if_pos h]
def f3 (r:Option (Nat×Nat×Nat)):Int×Int×Int:=match r with|some p=>(p.1,p.2.1,p.2.2)|none=>(0,0,0)
def eK (p:Int→Bool)(xs:List Int):Int:=match xs.findIdx? p with|some i=>(i:Int)|none=>-1
theorem Cl {p:Int→Bool}{xs:List Int}{k:Nat}(hk:k<xs.length)(h:∀ q,q<k→p (xs.getD q 0)=false)(hp:p (xs.getD k 0)=true):eK p xs=k:=by
 unfold eK;have:xs.findIdx? p=some k:=by
  rw[List.findIdx?_eq_some_iff_getElem];refine⟨hk,?_,λj hj=>?_⟩
  ·simpa [List.getD,List.getElem?_eq_getElem hk] using hp
  ·have:=h j hj
   simpa [List.getD,List.getElem?_eq_getElem (Nat.lt_trans hj hk)] using this
 rw[this]
theorem kw {p:Int→Bool}{xs:List Int}(h:∀ q,q<xs.length→p (xs.getD q 0)=false):eK p xs= -1:=by
 unfold eK;have:xs.findIdx? p=none:=by
  rw[List.findIdx?_eq_none_iff];intro a ha;obtain⟨i,hi⟩:=List.getElem?_of_mem ha;have:=h i (Δ.1 hi).1
  simpa [List.getD,hi] using this
 rw[this]
theorem Ma (p:Int→Bool)(xs:List Int): -1≤eK p xs∧eK p xs<xs.length:=by
 unfold eK
 cases h:xs.findIdx? p with
 |none=>simp;omega
 |some i=>
  have:=(List.findIdx?_eq_some_iff_getElem.1 h).1;simp;omega
def nmS (T:Nat→Nat→Bool):Nat→List Int×List Int
 |0=>([],[])
 |c+1=>if eK (λd=>T d.toNat c) (nmS T c).2<0 then((nmS T c).1++[((nmS T c).2.length:Int)],(nmS T c).2++[(c:Int)])
  else((nmS T c).1++[eK (λd=>T d.toNat c) (nmS T c).2],(nmS T c).2)
theorem rk {T:Nat→Nat→Bool}{c:Nat}(h:eK (λd=>T d.toNat c) (nmS T c).2<0):nmS T (c+1)=((nmS T c).1++[((nmS T c).2.length:Int)],(nmS T c).2++[(c:Int)]):=by
 show(if _ then _ else _)=_;rw[if_pos h]
theorem qr {T:Nat→Nat→Bool}{c:Nat}(h:¬eK (λd=>T d.toNat c) (nmS T c).2<0):nmS T (c+1)=((nmS T c).1++[eK (λd=>T d.toNat c) (nmS T c).2],(nmS T c).2):=by
 show(if _ then _ else _)=_;rw[if_neg h]
theorem lQ (T:Nat→Nat→Bool):∀ c,(nmS T c).1.length=c∧(nmS T c).2.length≤c∧∀ x,x∈(nmS T c).2→0≤x∧x<c
 |0=>⟨rfl,Υ _,λx h=>by cases h⟩
 |c+1=>by
  obtain⟨h1,h2,h3⟩:=lQ T c
  by_cases h:eK (λd=>T d.toNat c) (nmS T c).2<0
  ·rw[rk h]
   refine⟨by rw[aq,h1];rfl,by rw[aq];exact Nat.add_le_add_right h2 1,λx hx=>?_⟩;rcases List.mem_append.1 hx with hx|hx
   ·have:=h3 x hx;omega
   ·have hxc:x=(c:Int):=by simpa using hx
    omega
  ·rw[qr h]
   refine⟨by rw[aq,h1];rfl,Nat.le_succ_of_le h2,λx hx=>?_⟩;have:=h3 x hx;omega
def lJ (m:Mly)(c d:Nat):Bool:=!decide (0≤eK (λs=>!vQ m s c d) (d9 m.exR))
structure EQT (T:Nat→Nat→Bool)(n:Nat):Prop where
 rf:∀ a,a<n→T a a=true
 sy:∀ a b,a<n→b<n→T a b=true→T b a=true
 tr:∀ a b c,a<n→b<n→c<n→T a b=true→T b c=true→T a c=true
structure NMP (T:Nat→Nat→Bool)(c:Nat):Prop where
 at_:∀ q,q<c→0≤(nmS T c).1.getD q 0∧(nmS T c).1.getD q 0<(nmS T c).2.length∧T ((nmS T c).2.getD ((nmS T c).1.getD q 0).toNat 0).toNat q=true
 ap:∀ x y,x<y→y<(nmS T c).2.length→T ((nmS T c).2.getD x 0).toNat ((nmS T c).2.getD y 0).toNat=false
theorem gH {xs ys:List Int}{i:Nat}(h:i<xs.length):(xs++ys).getD i 0=xs.getD i 0:=by simp[List.getD,List.getElem?_append_left h]
theorem iA {xs:List Int}{x:Int}{i:Nat}(h:i=xs.length):(xs++[x]).getD i 0=x:=by subst h;simp[List.getD]
theorem Ky {p:Int→Bool}{xs:List Int}(h:0≤eK p xs):eK p xs<xs.length∧p (xs.getD (eK p xs).toNat 0)=true∧∀ q,q<(eK p xs).toNat→p (xs.getD q 0)=false:=by
 unfold eK at h⊢
 cases hf:xs.findIdx? p with
 |none=>rw[hf] at h;simp at h
 |some k=>
  obtain⟨h1,h2,h3⟩:=List.findIdx?_eq_some_iff_getElem.1 hf;refine⟨by simpa using h1,by simpa [List.getD,h1] using h2,λq hq=>?_⟩;have hq':q<k:=by simpa using hq
  have:=h3 q hq'
  simpa [List.getD,Nat.lt_trans hq' h1] using this
theorem x5 {p:Int→Bool}{xs:List Int}(h:eK p xs<0):∀ q,q<xs.length→p (xs.getD q 0)=false:=by
 intro q hq;unfold eK at h
 cases hf:xs.findIdx? p with
 |some k=>rw[hf] at h;simp at h;omega
 |none=>
  have:=List.findIdx?_eq_none_iff.1 hf (xs.getD q 0) (cP hq)
  simpa using this
theorem nmp {T:Nat→Nat→Bool}{n:Nat}(hT:EQT T n):∀ c,c≤n→NMP T c
 |0,_=>⟨λq h=>by omega,λx y _ h=>by simp[nmS] at h⟩
 |c+1,hc=>by
  have ih:=nmp hT c ω;obtain⟨r1,r2,r3⟩:=lQ T c
  by_cases h:eK (λd=>T d.toNat c) (nmS T c).2<0
  ·have hm:=x5 h
   rw[show NMP T (c+1)=NMP T (c+1) from rfl];refine⟨λq hq=>?_,λx y hxy hy=>?_⟩
   ·rw[rk h]
    simp only[aq,ax,aF]
    by_cases e:q=c
    ·rw[e,iA r1.symm,iA ω]
     exact⟨ω,ω,by simpa using hT.rf c ω⟩
    ·have:=ih.at_ q ω
     rw[gH ω,gH ω];exact⟨this.1,ω,this.2.2⟩
   ·rw[rk h] at hy⊢
    simp only[aq,ax,aF] at hy
    by_cases e:y=(nmS T c).2.length
    ·rw[iA e,gH ω]
     simpa using hm x ω
    ·rw[gH ω,gH ω]
     exact ih.ap x y hxy ω
  ·have hh:=Ky (p:=λd=>T d.toNat c) (xs:=(nmS T c).2) ω
   refine⟨λq hq=>?_,λx y hxy hy=>?_⟩
   ·rw[qr h]
    dsimp only
    by_cases e:q=c
    ·rw[e,iA r1.symm]
     exact⟨ω,hh.1,hh.2.1⟩
    ·rw[gH ω]
     exact ih.at_ q ω
   ·rw[qr h] at hy⊢
    exact ih.ap x y hxy hy
theorem qK {xs:List Int}{x:Int}:∀ {k:Nat},k≤xs.length→cN (xs++[x]) k=cN xs k
 |0,_=>rfl
 |k+1,h=>by
  simp only[cN];rw[qK (k:=k) ω,gH ω]
theorem NJ (T:Nat→Nat→Bool):∀ c,cN (nmS T c).1 c=(nmS T c).2.length∧∀ k,k<c→iV (nmS T c).1 k=false
 |0=>⟨rfl,λk h=>by omega⟩
 |c+1=>by
  obtain⟨i1,i2⟩:=NJ T c;obtain⟨r1,r2,r3⟩:=lQ T c;have key:∀ x:Int,0≤x→x≤(nmS T c).2.length→∀ k,k<c+1→iV ((nmS T c).1++[x]) k=false:=by
   intro x h0 h1 k hk
   by_cases e:k=c
   ·subst e
    refine qL (by rw[iA r1.symm];exact h0) (by rw[iA r1.symm,qK ω,i1];exact h1)
   ·have:=i2 k ω
    unfold iV at this⊢;rw[gH ω,qK ω];exact this
  by_cases h:eK (λd=>T d.toNat c) (nmS T c).2<0
  ·rw[rk h]
   refine⟨?_,key _ ω ω⟩;simp only[cN,aq,ax,aF];rw[qK ω,iA r1.symm,i1];omega
  ·have hb:=Ma (λd=>T d.toNat c) (nmS T c).2
   rw[qr h];refine⟨?_,key _ ω ω⟩;simp only[cN];rw[qK ω,iA r1.symm,i1];omega
theorem Rx (T:Nat→Nat→Bool){n:Nat}(h1:1≤n)(h2:n≤64):nB (nmS T n).1=0∧JY (nmS T n).1=(nmS T n).2.length:=by
 obtain⟨r1,_,_⟩:=lQ T n;obtain⟨i1,i2⟩:=NJ T n;have h0:nB (nmS T n).1=0:=Mp ω λk hk=>i2 k ω;refine⟨h0,?_⟩;unfold JY;rw[if_pos h0,r1,i1]
theorem j6 {m:Mly}{c d:Nat}:lJ m c d=true↔∀ k,k<(d9 m.exR).length→vQ m ((d9 m.exR).getD k 0) c d=true:=by
 unfold lJ
 constructor
 ·intro h k hk
  have h1:eK (λs=>!vQ m s c d) (d9 m.exR)<0:=by
   have:¬0≤eK (λs=>!vQ m s c d) (d9 m.exR):=by simpa using h
   omega
  simpa using x5 h1 k hk
 ·intro h
  rw[kw λq hq=>by rw[h q hq];rfl];rfl
theorem lw {m:Mly}{s:Int}{c d:Nat}:vQ m s c d=true↔m.out s c=m.out s d∧m.eqc.getD (m.nxt s c).toNat 0=m.eqc.getD (m.nxt s d).toNat 0:=by simp only[vQ,Bool.and_eq_true,decide_eq_true_eq]
theorem LL (m:Mly)(n:Nat):EQT (lJ m) n where
 rf a _:=j6.2 λk _=>lw.2 ⟨rfl,rfl⟩
 sy a b _ _ h:=j6.2 λk hk=>by have:=lw.1 (j6.1 h k hk);exact lw.2 ⟨this.1.symm,this.2.symm⟩
 tr a b c _ _ _ h g:=j6.2 λk hk=>by
  have h1:=lw.1 (j6.1 h k hk);have h2:=lw.1 (j6.1 g k hk);exact lw.2 ⟨h1.1.trans h2.1,h1.2.trans h2.2⟩
structure Dfa where
 inp:Int
 st:Int
 nx:List (List Int)
 acc:List Bool
def Dfa.av (d:Dfa):AV:=.agg [.int .i64 d.inp,.int .i64 d.st,.list Γ d.nx,.list .bool d.acc]
def Dfa.row (d:Dfa)(s:Int):List Int:=d.nx.getD s.toNat []
def Dfa.dl (d:Dfa)(s a:Int):Int:=(d.row s).getD a.toNat 0
def Dfa.ac (d:Dfa)(s:Int):Bool:=d.acc.getD s.toNat false
def Dfa.run (d:Dfa)(s:Int)(w:List Int):Int:=w.foldl (λs a=>d.dl s a) s
def pB (n:Int)(t:Int):Bool:=decide (t<0)||decide (n≤t)
def Dfa.cb (d:Dfa)(s a:Nat):Prop:=(d.row s).getD a 0<0∨(d.nx.length:Int)≤(d.row s).getD a 0
def JU (d:Dfa)(s:Nat):Int:=if ¬((d.row s).length:Int)=d.inp then 1 else if 0≤eK (pB d.nx.length) (d.row s) then 2 else 0
def HQ (d:Dfa):Int:=if d.inp<1∨1024<d.inp then 2 else if d.nx.length=0 then 19 else if 128<d.nx.length then 11 else if d.st<0∨(d.nx.length:Int)≤d.st then 2 else if ¬d.acc.length=d.nx.length then 1 else dK (JU d) d.nx.length
theorem QZ {d:Dfa}{s:Nat}(h:((d.row s).length:Int)=d.inp)(h2:¬0≤eK (pB d.nx.length) (d.row s)):JU d s=0:=by unfold JU;rw[if_neg (λk=>k h),if_neg h2]
theorem Qy {n t:Int}:pB n t=true↔t<0∨n≤t:=by unfold pB;simp
theorem Un {n t:Int}:pB n t=false↔¬(t<0∨n≤t):=by rw[← Qy];simp
theorem FB {d:Dfa}{s:Nat}(h:((d.row s).length:Int)=d.inp)(hq:∀ a:Nat,(a:Int)<d.inp→¬d.cb s a):JU d s=0:=by
 refine QZ h ?_;rw[kw λq hq2=>Un.2 (hq q ω)];omega
structure DOK (d:Dfa):Prop where
 i1:1≤d.inp
 i2:d.inp≤1024
 n1:1≤d.nx.length
 n2:d.nx.length≤128
 s1:0≤d.st
 s2:d.st<d.nx.length
 al:d.acc.length=d.nx.length
 rl:∀ s:Nat,s<d.nx.length→((d.row s).length:Int)=d.inp
 cl:∀ s a:Nat,s<d.nx.length→(a:Int)<d.inp→0≤(d.row s).getD a 0∧(d.row s).getD a 0<d.nx.length
theorem DOK.dl {d:Dfa}(h:DOK d){s a:Int}(hs:0≤s∧s<d.nx.length)(ha:0≤a∧a<d.inp):0≤d.dl s a∧d.dl s a<d.nx.length:=by
 have:=h.cl s.toNat a.toNat ω ω;unfold Dfa.dl;have e:d.row (s.toNat:Int)=d.row s:=by unfold Dfa.row;rw[az]
 rw[e] at this;exact this
theorem DOK.valid {d:Dfa}(h:DOK d):HQ d=0:=by
 have a1:=h.i1;have a2:=h.i2;have a3:=h.n1;have a4:=h.n2;have a5:=h.s1;have a6:=h.s2;have a7:=h.al;unfold HQ;rw[if_neg ω,if_neg ω,if_neg ω,if_neg ω,if_neg ω];exact bH λs hs=>FB (h.rl s hs) λa ha hb=>by
  have:=h.cl s a hs ha;unfold Dfa.cb at hb;omega
def Dfa.co (d:Dfa):Dfa:=⟨d.inp,d.st,d.nx,d.acc.map (!·)⟩
theorem Dd {α:Type}(dv:α){l:List α}{k:Nat}(h:k<l.length):l.take (k+1)=l.take k++[l.getD k dv]:=by
 rw[List.take_add_one,List.getElem?_eq_getElem h];simp[List.getD,h]
def dj (a b:List Int):Int:=if cmn a b=a.length∧cmn a b=b.length then 0 else if cmn a b=a.length∨(cmn a b<b.length∧a.getD (cmn a b) 0<b.getD (cmn a b) 0) then-1 else 1
def cJ (a b:List Int):Int:=if a.length<b.length then-1 else if b.length<a.length then 1 else dj a b
theorem BZ:∀ a b:List Int,cmn a b≤a.length∧cmn a b≤b.length
 |[],_=>by simp[cmn]
 |_::_,[]=>by simp[cmn]
 |x::a,y::b=>by
  have:=BZ a b;simp only[cmn];split
  ·simp only[ax];omega
  ·simp
def clB (m:Mly)(a s t:Int):Bool:=decide (m.out s a=m.out t a)&&decide (m.nxt s a=m.nxt t a)
def unS (m:Mly)(l:List Int)(a:Int)(i:Nat):Bool:=(List.range i).any λk=>(List.range k).any λj=>clB m a (l.getD k 0) (l.getD j 0)
def smO (m:Mly)(l:List Int)(a:Int)(i:Nat):Bool:=(List.range i).all λk=>decide (m.out (l.getD k 0) a=m.out (l.getD 0 0) a)
def vN (m:Mly)(l:List Int)(a:Int):List Int:=l.map λs=>m.nxt s a
def rp (m:Mly)(l:List Int):Prop:=∀ s∈l,0≤s∧s<m.nx.length
theorem d7 (n:Int):inK .u64 n↔0≤n∧n≤18446744073709551615:=by
 simp[inK,IntKind.min,IntKind.max,IntKind.signed,IntKind.bits]
def PF:List UInt8:=[48,49,50,51,52,53,54,55,56,57,97,98,99,100,101,102,103,104,105,106,107,108,109,110,111,112,113,114,115,116,117,118,119,120,121,122]
def c36 (n:Nat):Int:=((PF.getD n 0).toNat:Int)
def kg:Nat→Nat→List Int
 |0,n=>[c36 n]
 |f+1,n=>if n<36 then [c36 n] else kg f (n / 36)++[c36 (n % 36)]
def d36 (n:Nat):List Int:=kg 3 n
theorem ww {f n:Nat}(h:36≤n):kg (f+1) n=kg f (n / 36)++[c36 (n % 36)]:=by simp only[kg];rw[if_neg ω]
theorem wO {f n:Nat}(h:n<36):kg f n=[c36 n]:=by
 cases f with
 |zero=>rfl
 |succ f=>simp only[kg];rw[if_pos h]
def bcl (l:List Int):List AC:=l.map (AC.int .u8)
theorem fV (l:List Int):(bcl l).length=l.length:=by simp[bcl]
theorem fY (n:Nat)(z:Int):List.replicate n (AC.int .u8 z)=bcl (List.replicate n z):=by simp[bcl]
theorem vo {l:List Int}{off:Nat}(h:off<l.length)(v:Int):cg (bcl l) off [.int .u8 v]=bcl (l.set off v):=by
 unfold cg bcl;rw[List.set_eq_take_append_cons_drop,if_pos h];simp[List.map_take,List.map_drop]
theorem BV {l:List Int}{i j:Nat}(h:i<j)(v:Int):(l.set i v).drop j=l.drop j:=by
 rw[List.drop_set];rw[if_pos h]
theorem qw {l:List Int}{i:Nat}(h:i<l.length)(v:Int):(l.set i v).drop i=v::l.drop (i+1):=by
 rw[List.drop_eq_getElem_cons (by simpa using h)];rw[List.getElem_set_self,BV ω]
def B36 (j u:Nat):Prop:=(j=0∧u<1679616)∨(j=1∧u<46656)∨(j=2∧u<1296)∨(j=3∧u<36)
theorem KA {j u:Nat}(h:B36 j u)(hu:36≤u):B36 (j+1) (u / 36)∧j≤2:=by unfold B36 at*;omega
theorem AS {j u:Nat}(h:B36 j u):j≤3∧u<1679616:=by unfold B36 at h;omega
structure BUF (n u j:Nat)(l:List Int):Prop where
 b:B36 j u
 len:l.length=65
 eq:d36 n=kg (3-j) u++l.drop (65-j)
theorem LN {n u j:Nat}{l:List Int}(h:BUF n u j l)(hu:36≤u):BUF n (u / 36) (j+1) (l.set (64-j) (c36 (u % 36))):=by
 obtain⟨b1,b2⟩:=KA h.b hu;have hl:=h.len;refine⟨b1,by simpa using hl,?_⟩;have e:=h.eq;rw[show 3-j=(3-(j+1))+1 by omega,ww hu,List.append_assoc] at e;rw[e,show 65-(j+1)=64-j by omega,qw ω,show 64-j+1=65-j by omega];rfl
theorem Kg {n u j:Nat}{l:List Int}(h:BUF n u j l)(hu:u<36):d36 n=(l.set (64-j) (c36 u)).drop (64-j):=by
 have hl:=h.len;have hb:=AS h.b;rw[h.eq,wO hu,qw ω,show 64-j+1=65-j by omega];rfl
theorem Uk {n:Nat}(h:n<1679616):BUF n n 0 (List.replicate 65 0):=⟨.inl ⟨rfl,h⟩,η,by simp[d36]⟩
theorem yb {n:Nat}:(d36 n).length≤4:=by
 have key:∀ f n,(kg f n).length≤f+1:=λf=>by
  induction f with
  |zero=>intro n;simp[kg]
  |succ f ih=>
   intro n;simp only[kg];split
   ·simp
   ·rw[aq];have:=ih (n / 36);simp;omega
 exact key 3 n
def gB8 (n:Int):UInt8:=UInt8.ofNat n.toNat
def kI (x:Int):List Int:=d36 x.toNat++[32]
def lx (xs:List Int):List Int:=xs.flatMap kI
def jG (xs:List Int):List UInt8:=(lx xs).map λn=>UInt8.ofNat n.toNat
def KB (xs:List Int):Prop:=∀ x∈xs,0≤x∧x<1679616
theorem Fa {xs:List Int}{k n:Nat}(h:k<xs.length)(hn:xs.getD k 0=(n:Int)):lx (xs.take (k+1))=(lx (xs.take k)++d36 n)++[32]:=by
 unfold lx;rw[Dd 0 h,List.flatMap_append,List.flatMap_singleton,hn];unfold kI;rw[az,List.append_assoc]
theorem zx (xs:List Int):(lx xs).length≤5*xs.length:=by
 unfold lx
 induction xs with
 |nil=>simp
 |cons x xs ih=>
  rw[List.flatMap_cons,aq,ax];unfold kI at ih⊢;rw[aq];have:=yb (n:=x.toNat);simp only[ax,aF];omega
def dvB (c:UInt8):Nat:=PF.findIdx (· == c)
def Bu (l:List UInt8):Nat:=l.foldl (λa c=>a*36+dvB c) 0
theorem EO (d:Nat)(h:d<36):dvB (gB8 (c36 d))=d∧gB8 (c36 d)≠32:=by
 have key:∀ d:Fin 36,dvB (gB8 (c36 d.val))=d.val∧gB8 (c36 d.val)≠32:=δ;exact key ⟨d,h⟩
theorem lP:∀ (f n:Nat),n<36^(f+1)→Bu ((kg f n).map gB8)=n∧∀ c∈(kg f n).map gB8,c≠32
 |0,n,h=>by
  have:=EO n (by simpa using h);refine⟨by simp[kg,Bu,this.1],λc hc=>?_⟩;simp only[kg,aJ,aV,List.mem_singleton] at hc;rw[hc];exact this.2
 |f+1,n,h=>by
  by_cases e:n<36
  ·rw[wO e]
   have:=EO n e;refine⟨by simp[Bu,this.1],λc hc=>?_⟩;simp only[aJ,aV,List.mem_singleton] at hc;rw[hc];exact this.2
  ·rw[ww ω]
   obtain⟨i1,i2⟩:=lP f (n / 36) (by rw[Nat.pow_succ] at h;omega);have:=EO (n % 36) ω;refine⟨?_,λc hc=>?_⟩
   ·unfold Bu at i1⊢
    rw[List.map_append,List.foldl_append,i1];simp only[aJ,aV,List.foldl_cons,List.foldl_nil,this.1];omega
   ·rw[List.map_append,List.mem_append] at hc
    rcases hc with hc|hc
    ·exact i2 c hc
    ·simp only[aJ,aV,List.mem_singleton] at hc
     rw[hc];exact this.2
theorem NN {a b:Nat}(ha:a<1679616)(hb:b<1679616)(h:(d36 a).map gB8=(d36 b).map gB8):a=b:=by
 have e1:=(lP 3 a (by simpa using ha)).1;have e2:=(lP 3 b (by simpa using hb)).1;unfold d36 at h;rw[← e1,← e2,h]
theorem zi:∀ {u v a b:List UInt8},(∀ c∈u,c≠32)→(∀ c∈v,c≠32)→u++32::a=v++32::b→u=v∧a=b
 |[],[],_,_,_,_,h=>⟨rfl,(List.cons.inj h).2⟩
 |[],y::_,_,_,_,h2,h=>absurd (List.cons.inj h).1.symm (h2 y (ba ..))
 |x::_,[],_,_,h1,_,h=>absurd (List.cons.inj h).1 (h1 x (ba ..))
 |x::u,y::v,a,b,h1,h2,h=>by
  obtain⟨e1,e2⟩:=List.cons.inj h;obtain⟨i1,i2⟩:=zi (λc hc=>h1 c (aQ _ hc)) (λc hc=>h2 c (aQ _ hc)) e2;exact⟨by rw[e1,i1],i2⟩
theorem mn (x:Int)(xs:List Int):jG (x::xs)=(d36 x.toNat).map gB8++32::jG xs:=by
 unfold jG lx;rw[List.flatMap_cons,List.map_append];unfold kI;rw[List.map_append,List.append_assoc];rfl
theorem zb:∀ {xs ys:List Int},KB xs→KB ys→jG xs=jG ys→xs=ys
 |[],[],_,_,_=>rfl
 |[],y::ys,_,_,h=>by
  rw[mn] at h;have:=congrArg List.length h;simp[jG,lx] at this
 |x::xs,[],_,_,h=>by
  rw[mn] at h;have:=congrArg List.length h;simp[jG,lx] at this
 |x::xs,y::ys,hx,hy,h=>by
  have hx0:=hx x (ba ..);have hy0:=hy y (ba ..);rw[mn,mn] at h;obtain⟨e1,e2⟩:=zi (lP 3 x.toNat (by simp;omega)).2 (lP 3 y.toNat (by simp;omega)).2 h;have e3:=NN ω ω e1;rw[show x=y by omega,zb (λz hz=>hx z (aQ _ hz)) (λz hz=>hy z (aQ _ hz)) e2]
end Go.AV
