/- Contracts of functions of this seat, each out of a walk through its code, and plain facts on what they compute. Conditions: those that each theorem names. -/
import Derived.Test.YtoahhklogohehaaTz
import Derived.Lib.ItoaNum
import Derived.Lib.Join
import Derived.LoopIn
import Derived.LoopNIn
import Derived.OwnWalkIn
import Derived.RangeFuncBox
import Derived.RangeFuncCalls
import Derived.RangeFuncFrom
import Derived.RangeFuncLeaves
import Derived.RangeFuncNested
import Derived.Shelf.Abstract
import Derived.Shelf.Lay
import Derived.Shelf.RegionOpen
import Derived.Shelf.Slices.CompactI
import Derived.Shelf.Sort.Plain
import Derived.TacticsInMore
import Derived.WalkKit
set_option linter.unusedSimpArgs false
set_option linter.unusedVariables false
namespace Go.AV
theorem zB : (∀ (p : Prop) [Decidable p], (decide p = true) = p) ∧ (∀ (p : Prop) [Decidable p], (decide p = false) = ¬p) ∧ ((!true) = false) ∧ ((!false) = true) ∧ (∀ b : Bool, (¬(b = true)) = (b = false)) ∧ (∀ b : Bool, (¬(b = false)) = (b = true)) ∧ (∀ a b : Bool, ((!a) = b) = (a = !b)) ∧ (∀ a b : Int, ¬a < b ↔ b ≤ a) ∧ (∀ a b : Int, ¬a ≤ b ↔ b < a) ∧ ((true = false) = False) ∧ ((false = true) = False) ∧ (∀ {α : Sort 1} (a b : α), (a ≠ b) = ¬(a = b)) ∧ (∀ (p : Prop) [Decidable p], ¬¬p ↔ p) ∧ (∀ b : Bool, ((!b) = true) = (b = false)) ∧ (∀ {α : Type} [BEq α] [LawfulBEq α] {a b : α}, (a != b) = true ↔ a ≠ b) ∧ (∀ a b : Bool, ((a || b) = true) = (a = true ∨ b = true)) ∧ (∀ a b : Bool, ((a && b) = true) = (a = true ∧ b = true)) ∧ (∀ a b : Bool, ((a || b) = false) = (a = false ∧ b = false)) ∧ (∀ a b : Bool, ((a && b) = false) = (a = false ∨ b = false)) :=
  ⟨fun p _ => decide_eq_true_eq, fun p _ => by simp, rfl, rfl, by simp, by simp, by decide, fun a b => Int.not_lt, fun a b => Int.not_le, by simp, by simp, fun _ _ => rfl, fun p _ => Decidable.not_not, by simp, bne_iff_ne, by simp, by simp, by simp, by simp⟩
theorem zS {α : Type} : (∀ (a b : α) (l : List α), (a :: l).set 0 b = b :: l) ∧ ∀ (a b : α) (n : Nat) (l : List α), (a :: l).set (n + 1) b = a :: l.set n b := ⟨fun _ _ _ => rfl, fun _ _ _ _ => rfl⟩
end Go.AV
set_option maxRecDepth 100000
namespace Go.AV
open Nat renaming reduceEqDiff → aa, reduceAdd → V, reduceLeDiff → ad, reduceLT → ag, reduceMul → af, reduceSub → ae
open List renaming set_cons_zero → cT, set_cons_succ → cC, getD_cons_zero → ar, length_append → aq, map_cons → aJ, cons_append → aH, map_nil → bg, length_cons → au, nil_append → aZ, take_succ_cons → dQ, length_nil → aC, length_map → aD, length_replicate → bp, take_length → aE, mem_cons_self → aO, mem_cons_of_mem → aL
open Int renaming toNat_natCast → ah
/-plain-/
theorem an {a b : Prop} (h : b) (ha : a := by first | omega | assumption | exact rfl) : a ∧ b := ⟨ha, h⟩
theorem cJ {a b : Tr} (h : TLE a b := by exact wG (by first | rfl | (simp [wX]; done) | decide)) : TLE a b := h
theorem zV : type_of% (And.intro @zE (And.intro @zG (And.intro @op1.eq_1 (And.intro @ev.eq_1 (And.intro @ev.eq_2 (And.intro @ev.eq_3 (And.intro @ev.eq_4 (And.intro @lkp.eq_1 (And.intro @lkp.eq_2 (And.intro @d6.eq_1 (And.intro @bP.eq_1 (And.intro @bP.eq_2 (And.intro @bP.eq_3 (And.intro @bP.eq_4 (And.intro @bP.eq_5 (And.intro @bP.eq_6 (And.intro @bP.eq_7 (And.intro @bP.eq_8 (And.intro @cf.eq_1 (And.intro @cf.eq_2 (And.intro @cf.eq_3 (And.intro @et.eq_1 (And.intro @et.eq_2 (And.intro @et.eq_3 (And.intro @mv1.eq_1 (And.intro @mv1.eq_2 (And.intro @mvC.eq_1 (And.intro @mvC.eq_2 (And.intro @Ty.dflt.eq_1 (And.intro @Ty.dflt.eq_2 (And.intro @Ty.dflt.eq_3 (And.intro @Ty.dflt.eq_4 (And.intro @Ty.dflt.eq_5 @Ty.dflt.eq_6))))))))))))))))))))))))))))))))) :=
  And.intro @zE (And.intro @zG (And.intro @op1.eq_1 (And.intro @ev.eq_1 (And.intro @ev.eq_2 (And.intro @ev.eq_3 (And.intro @ev.eq_4 (And.intro @lkp.eq_1 (And.intro @lkp.eq_2 (And.intro @d6.eq_1 (And.intro @bP.eq_1 (And.intro @bP.eq_2 (And.intro @bP.eq_3 (And.intro @bP.eq_4 (And.intro @bP.eq_5 (And.intro @bP.eq_6 (And.intro @bP.eq_7 (And.intro @bP.eq_8 (And.intro @cf.eq_1 (And.intro @cf.eq_2 (And.intro @cf.eq_3 (And.intro @et.eq_1 (And.intro @et.eq_2 (And.intro @et.eq_3 (And.intro @mv1.eq_1 (And.intro @mv1.eq_2 (And.intro @mvC.eq_1 (And.intro @mvC.eq_2 (And.intro @Ty.dflt.eq_1 (And.intro @Ty.dflt.eq_2 (And.intro @Ty.dflt.eq_3 (And.intro @Ty.dflt.eq_4 (And.intro @Ty.dflt.eq_5 @Ty.dflt.eq_6))))))))))))))))))))))))))))))))
theorem zO : type_of% (And.intro @zE (And.intro @zG (And.intro @iw (And.intro @Nat.mul_one (And.intro @Nat.div_one (And.intro @ne_eq.{1} (And.intro @not_false_eq_true (And.intro @Int.natCast_one (And.intro @Int.mul_one (And.intro @dite_true.{1} (And.intro @op1.eq_1 (And.intro @ev.eq_1 (And.intro @ev.eq_2 (And.intro @ev.eq_3 (And.intro @ev.eq_4 (And.intro @lkp.eq_1 (And.intro @lkp.eq_2 (And.intro @d6.eq_1 (And.intro @bP.eq_1 (And.intro @bP.eq_2 (And.intro @bP.eq_3 (And.intro @bP.eq_4 (And.intro @bP.eq_5 (And.intro @bP.eq_6 (And.intro @bP.eq_7 (And.intro @bP.eq_8 (And.intro @ma.eq_1 (And.intro @mF.eq_1 (And.intro @sR.eq_1 (And.intro @cf.eq_1 (And.intro @cf.eq_2 (And.intro @cf.eq_3 (And.intro @gZ.eq_1 (And.intro @cm.eq_1 (And.intro @cm.eq_2 (And.intro @bY.eq_1 (And.intro @dp.eq_1 (And.intro @dA.eq_1 (And.intro @dA.eq_2 (And.intro @rep.eq_1 (And.intro @rep.eq_2 (And.intro @bq.eq_1 (And.intro @bq.eq_2 (And.intro @bq.eq_3 (And.intro @bq.eq_4 (And.intro @bq.eq_5 (And.intro @bq.eq_6 (And.intro @bq.eq_7 (And.intro @bq.eq_8 (And.intro @bq.eq_9 (And.intro @bq.eq_10 (And.intro @bq.eq_11 (And.intro @bq.eq_12 (And.intro @Ty.size.eq_1 (And.intro @Ty.size.eq_2 (And.intro @Ty.size.eq_3 (And.intro @d8.eq_1 (And.intro @bQ.eq_1 (And.intro @cI.eq_1 (And.intro @cI.eq_2 (And.intro @cI.eq_3 (And.intro @Ty.dflt.eq_1 (And.intro @Ty.dflt.eq_2 (And.intro @Ty.dflt.eq_3 (And.intro @Ty.dflt.eq_4 (And.intro @Ty.dflt.eq_5 (And.intro @Ty.dflt.eq_6 (And.intro @bV.eq_1 (And.intro @dM.eq_1 (And.intro @iT.eq_1 (And.intro @jp.eq_1 (And.intro @da.eq_1 (And.intro @da.eq_2 (And.intro @da.eq_3 (And.intro @da.eq_4 (And.intro @da.eq_5 (And.intro @da.eq_6 (And.intro @da.eq_7 (And.intro @da.eq_8 (And.intro @da.eq_9 (And.intro @da.eq_10 (And.intro @da.eq_11 (And.intro @da.eq_12 (And.intro @da.eq_13 (And.intro @da.eq_14 (And.intro @fQ.eq_1 (And.intro @fQ.eq_2 (And.intro @fQ.eq_3 (And.intro @fQ.eq_4 (And.intro @fo.eq_1 (And.intro @fo.eq_2 (And.intro @fo.eq_3 (And.intro @gV.eq_1 (And.intro @gV.eq_2 (And.intro @gV.eq_3 (And.intro @gV.eq_4 (And.intro @rK.eq_1 (And.intro @rK.eq_2 (And.intro @iu.eq_1 (And.intro @bG.eq_1 (And.intro @kr.eq_1 (And.intro @ci.eq_1 (And.intro @mw.eq_1 (And.intro @cj.eq_1 (And.intro @eT.eq_1 (And.intro @eg.eq_1 (And.intro @cM.eq_1 (And.intro @cM.eq_2 (And.intro @cM.eq_3 (And.intro @cM.eq_4 (And.intro @cM.eq_5 (And.intro @cM.eq_6 (And.intro @cM.eq_7 (And.intro @db.eq_1 (And.intro @db.eq_2 (And.intro @db.eq_3 (And.intro @db.eq_4 (And.intro @eC.eq_1 (And.intro @eC.eq_2 (And.intro @eC.eq_3 (And.intro @cL.eq_1 (And.intro @df.eq_1 (And.intro @df.eq_2 (And.intro @df.eq_3 (And.intro @df.eq_4 (And.intro @et.eq_1 (And.intro @et.eq_2 (And.intro @et.eq_3 (And.intro @mv1.eq_1 (And.intro @mv1.eq_2 (And.intro @mvC.eq_1 @mvC.eq_2))))))))))))))))))))))))))))))))))))))))))))))))))))))))))))))))))))))))))))))))))))))))))))))))))))))))))))))))))))))))))))))))))) :=
  And.intro @zE (And.intro @zG (And.intro @iw (And.intro @Nat.mul_one (And.intro @Nat.div_one (And.intro @ne_eq.{1} (And.intro @not_false_eq_true (And.intro @Int.natCast_one (And.intro @Int.mul_one (And.intro @dite_true.{1} (And.intro @op1.eq_1 (And.intro @ev.eq_1 (And.intro @ev.eq_2 (And.intro @ev.eq_3 (And.intro @ev.eq_4 (And.intro @lkp.eq_1 (And.intro @lkp.eq_2 (And.intro @d6.eq_1 (And.intro @bP.eq_1 (And.intro @bP.eq_2 (And.intro @bP.eq_3 (And.intro @bP.eq_4 (And.intro @bP.eq_5 (And.intro @bP.eq_6 (And.intro @bP.eq_7 (And.intro @bP.eq_8 (And.intro @ma.eq_1 (And.intro @mF.eq_1 (And.intro @sR.eq_1 (And.intro @cf.eq_1 (And.intro @cf.eq_2 (And.intro @cf.eq_3 (And.intro @gZ.eq_1 (And.intro @cm.eq_1 (And.intro @cm.eq_2 (And.intro @bY.eq_1 (And.intro @dp.eq_1 (And.intro @dA.eq_1 (And.intro @dA.eq_2 (And.intro @rep.eq_1 (And.intro @rep.eq_2 (And.intro @bq.eq_1 (And.intro @bq.eq_2 (And.intro @bq.eq_3 (And.intro @bq.eq_4 (And.intro @bq.eq_5 (And.intro @bq.eq_6 (And.intro @bq.eq_7 (And.intro @bq.eq_8 (And.intro @bq.eq_9 (And.intro @bq.eq_10 (And.intro @bq.eq_11 (And.intro @bq.eq_12 (And.intro @Ty.size.eq_1 (And.intro @Ty.size.eq_2 (And.intro @Ty.size.eq_3 (And.intro @d8.eq_1 (And.intro @bQ.eq_1 (And.intro @cI.eq_1 (And.intro @cI.eq_2 (And.intro @cI.eq_3 (And.intro @Ty.dflt.eq_1 (And.intro @Ty.dflt.eq_2 (And.intro @Ty.dflt.eq_3 (And.intro @Ty.dflt.eq_4 (And.intro @Ty.dflt.eq_5 (And.intro @Ty.dflt.eq_6 (And.intro @bV.eq_1 (And.intro @dM.eq_1 (And.intro @iT.eq_1 (And.intro @jp.eq_1 (And.intro @da.eq_1 (And.intro @da.eq_2 (And.intro @da.eq_3 (And.intro @da.eq_4 (And.intro @da.eq_5 (And.intro @da.eq_6 (And.intro @da.eq_7 (And.intro @da.eq_8 (And.intro @da.eq_9 (And.intro @da.eq_10 (And.intro @da.eq_11 (And.intro @da.eq_12 (And.intro @da.eq_13 (And.intro @da.eq_14 (And.intro @fQ.eq_1 (And.intro @fQ.eq_2 (And.intro @fQ.eq_3 (And.intro @fQ.eq_4 (And.intro @fo.eq_1 (And.intro @fo.eq_2 (And.intro @fo.eq_3 (And.intro @gV.eq_1 (And.intro @gV.eq_2 (And.intro @gV.eq_3 (And.intro @gV.eq_4 (And.intro @rK.eq_1 (And.intro @rK.eq_2 (And.intro @iu.eq_1 (And.intro @bG.eq_1 (And.intro @kr.eq_1 (And.intro @ci.eq_1 (And.intro @mw.eq_1 (And.intro @cj.eq_1 (And.intro @eT.eq_1 (And.intro @eg.eq_1 (And.intro @cM.eq_1 (And.intro @cM.eq_2 (And.intro @cM.eq_3 (And.intro @cM.eq_4 (And.intro @cM.eq_5 (And.intro @cM.eq_6 (And.intro @cM.eq_7 (And.intro @db.eq_1 (And.intro @db.eq_2 (And.intro @db.eq_3 (And.intro @db.eq_4 (And.intro @eC.eq_1 (And.intro @eC.eq_2 (And.intro @eC.eq_3 (And.intro @cL.eq_1 (And.intro @df.eq_1 (And.intro @df.eq_2 (And.intro @df.eq_3 (And.intro @df.eq_4 (And.intro @et.eq_1 (And.intro @et.eq_2 (And.intro @et.eq_3 (And.intro @mv1.eq_1 (And.intro @mv1.eq_2 (And.intro @mvC.eq_1 @mvC.eq_2))))))))))))))))))))))))))))))))))))))))))))))))))))))))))))))))))))))))))))))))))))))))))))))))))))))))))))))))))))))))))))))))))
theorem zP : type_of% (And.intro @zE (And.intro @cT.{0} (And.intro @cC.{0} (And.intro @put.eq_1 (And.intro @app.eq_1 (And.intro @bH.eq_1 (And.intro @bH.eq_2 (And.intro @hM.eq_1 (And.intro @bZ.eq_1 (And.intro @bZ.eq_2 (And.intro @bc.eq_1 (And.intro @bc.eq_2 (And.intro @lkp.eq_1 @lkp.eq_2))))))))))))) :=
  And.intro @zE (And.intro @cT.{0} (And.intro @cC.{0} (And.intro @put.eq_1 (And.intro @app.eq_1 (And.intro @bH.eq_1 (And.intro @bH.eq_2 (And.intro @hM.eq_1 (And.intro @bZ.eq_1 (And.intro @bZ.eq_2 (And.intro @bc.eq_1 (And.intro @bc.eq_2 (And.intro @lkp.eq_1 @lkp.eq_2))))))))))))
theorem zF : type_of% (And.intro @aJ.{0,0} (And.intro @bg.{0,0} (And.intro @fzV.eq_1 (And.intro @fzV.eq_2 (And.intro @fz1.eq_1 (And.intro @fz1.eq_2 (And.intro @fz1.eq_3 (And.intro @fzC.eq_1 (And.intro @fzC.eq_2 (And.intro @fzC.eq_3 (And.intro @fzC.eq_4 (And.intro @fzC.eq_5 @fzC.eq_6)))))))))))) :=
  And.intro @aJ.{0,0} (And.intro @bg.{0,0} (And.intro @fzV.eq_1 (And.intro @fzV.eq_2 (And.intro @fz1.eq_1 (And.intro @fz1.eq_2 (And.intro @fz1.eq_3 (And.intro @fzC.eq_1 (And.intro @fzC.eq_2 (And.intro @fzC.eq_3 (And.intro @fzC.eq_4 (And.intro @fzC.eq_5 @fzC.eq_6)))))))))))
theorem kp {C : Ctx} {Q : Go.Exit → St → Prop} {c : Go.Code} {e0 e : Env} {L0 : List AO} (ks : List Nat) (h : AWP C c Q { env := e, L := L0 }) (he : bZ e0 ks = e := by (simp only [zP, aa, V]; exact rfl)) : AWP C c Q { env := e0, L := L0 } := cE ks (by rw [he]; exact h)
theorem cd {C : Ctx} {Q : Go.Exit → St → Prop} {c : Operand} {x y : Go.Code} {b : Bool} {e0 : Env} {L0 : List AO} (ht : b = true → AWP C x Q { env := e0, L := L0 }) (hf : b = false → AWP C y Q { env := e0, L := L0 }) (hc : ev e0 c = .one (.bool b) := by (simp only [ev, zP, aa, V]; exact rfl)) : AWP C (.cond c x y) Q { env := e0, L := L0 } := yv hc ht hf
theorem nr {e : Go.Exit} (h : e = .normal ∨ e = .ret := by first | exact .inl rfl | exact .inr rfl) : e = .normal ∨ e = .ret := h
/-plain-/
def Mly.sigP (m : Mly) (cl : List Int) (a s : Nat) : List Int := (List.range 128).map fun i =>
  if i < a then (m.ot.getD s []).getD i 0 else if 64 ≤ i ∧ i < 64 + a then cl.getD ((m.nx.getD s []).getD (i - 64) 0).toNat 0 else 0
def Mly.sig (m : Mly) (cl : List Int) (s : Nat) : List Int := m.sigP cl m.inp.toNat s
def Mly.nextL (m : Mly) (cl : List Int) : List Int := (List.range m.nx.length).map fun s => (pos (dh (m.sig cl) m.nx.length) (m.sig cl s) : Int)
def Mly.nextN (m : Mly) (cl : List Int) : Int := (dh (m.sig cl) m.nx.length).length
def Mly.cls (m : Mly) : Nat → List Int
  | 0 => List.replicate m.nx.length 0
  | i + 1 => m.nextL (m.cls i)
def Mly.cnt (m : Mly) : Nat → Int
  | 0 => 1
  | i + 1 => m.nextN (m.cls i)
def Mly.stopF (m : Mly) : Nat → Nat → Nat
  | 0, i => i
  | f + 1, i => if m.cnt (i + 1) = m.cnt i then i else m.stopF f (i + 1)
def jM (m : Mly) (k : Int) : Nat := (min (max k 0) (m.nx.length : Int)).toNat
def Mly.refC (m : Mly) (k : Int) : List Int := m.cls (m.stopF (jM m k) 0)
def Mly.refK (m : Mly) (k : Int) : Int := m.stopF (jM m k) 0
theorem bJ (m : Mly) (cl : List Int) (a s : Nat) : (m.sigP cl a s).length = 128 := by simp [Mly.sigP]
theorem wi (m : Mly) (cl : List Int) (s : Nat) : List.replicate 128 (0 : Int) = m.sigP cl 0 s := by
  apply List.ext_getElem
  · simp [Mly.sigP]
  · intro i h1 h2
    simp only [Mly.sigP, List.getElem_replicate, List.getElem_map, List.getElem_range]
    rw [if_neg (by omega), if_neg (by omega)]
theorem yt (m : Mly) (cl : List Int) {a : Nat} (s : Nat) (h : a < 64) :
    ((m.sigP cl a s).set a ((m.ot.getD s []).getD a 0)).set (64 + a) (cl.getD ((m.nx.getD s []).getD a 0).toNat 0) = m.sigP cl (a + 1) s := by
  apply List.ext_getElem
  · simp [Mly.sigP]
  · intro i h1 h2
    simp only [Mly.sigP, List.getElem_set, List.getElem_map, List.getElem_range]
    by_cases e1 : 64 + a = i
    · subst e1
      rw [if_pos rfl, if_neg (by omega), if_pos (by omega), show 64 + a - 64 = a by omega]
    · rw [if_neg e1]
      by_cases e2 : a = i
      · subst e2; rw [if_pos rfl, if_pos (by omega)]
      · rw [if_neg e2]
        by_cases e3 : i < a
        · rw [if_pos e3, if_pos (by omega)]
        · rw [if_neg e3, if_neg (by omega : ¬ i < a + 1)]
          by_cases e4 : 64 ≤ i ∧ i < 64 + a
          · rw [if_pos e4, if_pos (by omega)]
          · rw [if_neg e4, if_neg (by omega)]
theorem kO {m : Mly} (hm : MOK m) {cl : List Int} {s t : Nat} : m.sig cl s = m.sig cl t ↔
    ∀ a : Nat, (a : Int) < m.inp → (m.ot.getD s []).getD a 0 = (m.ot.getD t []).getD a 0 ∧ cl.getD ((m.nx.getD s []).getD a 0).toNat 0 = cl.getD ((m.nx.getD t []).getD a 0).toNat 0 := by
  have h2 := hm.i2
  unfold Mly.sig Mly.sigP
  constructor
  · intro h a ha
    have h1 := congrArg (fun l => l.getD a 0) h
    have h3 := congrArg (fun l => l.getD (64 + a) 0) h
    have e1 : a < 128 := by omega
    have e2 : 64 + a < 128 := by omega
    simp only [uG _ _ e1] at h1
    simp only [uG _ _ e2] at h3
    rw [if_pos (by omega), if_pos (by omega)] at h1
    rw [if_neg (show ¬ (64 + a < m.inp.toNat) by omega), if_neg (show ¬ (64 + a < m.inp.toNat) by omega), if_pos (show 64 ≤ 64 + a ∧ 64 + a < 64 + m.inp.toNat by omega), if_pos (show 64 ≤ 64 + a ∧ 64 + a < 64 + m.inp.toNat by omega), show 64 + a - 64 = a by omega] at h3
    exact ⟨h1, h3⟩
  · intro h
    refine List.map_congr_left fun i hi => ?_
    by_cases e1 : i < m.inp.toNat
    · rw [if_pos e1, if_pos e1]; exact (h i (by omega)).1
    · rw [if_neg e1, if_neg e1]
      by_cases e2 : 64 ≤ i ∧ i < 64 + m.inp.toNat
      · rw [if_pos e2, if_pos e2]; exact (h (i - 64) (by omega)).2
      · rw [if_neg e2, if_neg e2]
theorem qr (m : Mly) (cl : List Int) : (m.nextL cl).length = m.nx.length := by simp [Mly.nextL]
theorem jZ (m : Mly) : ∀ i, (m.cls i).length = m.nx.length
  | 0 => by simp [Mly.cls]
  | i + 1 => qr _ _
theorem jb {m : Mly} {cl : List Int} {s : Nat} (h : s < m.nx.length) : (m.nextL cl).getD s 0 = (pos (dh (m.sig cl) m.nx.length) (m.sig cl s) : Int) := by
  simp [Mly.nextL, List.getD, h]
theorem jr {m : Mly} {cl : List Int} {s : Nat} (h : s < m.nx.length) : 0 ≤ (m.nextL cl).getD s 0 ∧ (m.nextL cl).getD s 0 < m.nx.length := by
  rw [jb h]
  have h1 := i8 (g0 (f := m.sig cl) (k := m.nx.length).2 ⟨s, h, rfl⟩)
  have h2 := m7 (m.sig cl) m.nx.length
  omega
theorem gE {m : Mly} {cl : List Int} {s t : Nat} (hs : s < m.nx.length) (ht : t < m.nx.length) : (m.nextL cl).getD s 0 = (m.nextL cl).getD t 0 ↔ m.sig cl s = m.sig cl t := by
  rw [jb hs, jb ht]
  constructor
  · intro h
    exact yT (g0.2 ⟨s, hs, rfl⟩) (g0.2 ⟨t, ht, rfl⟩) (by omega)
  · intro h; rw [h]
theorem oU {m : Mly} (hm : MOK m) : ∀ i s, s < m.nx.length → 0 ≤ (m.cls i).getD s 0 ∧ (m.cls i).getD s 0 < m.nx.length
  | 0, s, h => by
    have : (m.cls 0).getD s 0 = 0 := by simp [Mly.cls, List.getD, h]
    rw [this]; have := hm.n1; omega
  | i + 1, s, h => jr h
theorem j4 {m : Mly} (hm : MOK m) : ∀ i s t, s < m.nx.length → t < m.nx.length → (m.cls (i + 1)).getD s 0 = (m.cls (i + 1)).getD t 0 → (m.cls i).getD s 0 = (m.cls i).getD t 0
  | 0, s, t, hs, ht, _ => by simp [Mly.cls, List.getD, hs, ht]
  | i + 1, s, t, hs, ht, h => by
    have h1 := (gE (cl := m.cls (i + 1)) hs ht).1 h
    rw [kO hm] at h1
    refine (gE hs ht).2 ((kO hm).2 fun a ha => ⟨(h1 a ha).1, ?_⟩)
    have n1 := hm.nr s a hs ha
    have n2 := hm.nr t a ht ha
    exact j4 hm i _ _ (by omega) (by omega) (h1 a ha).2

def dr (f : Nat → Int) (n : Nat) : List Nat := (List.range n).filter fun s => decide (∀ t, t < s → f t ≠ f s)
theorem mm {α : Type} [DecidableEq α] (g : Nat → α) (f : Nat → Int) : ∀ n, (∀ s t, s < n → t < n → (f s = f t ↔ g s = g t)) → (dh g n).length = (dr f n).length
  | 0, _ => rfl
  | n + 1, h => by
    have ih := mm g f n fun s t hs ht => h s t (by omega) (by omega)
    rw [dH]
    unfold dr
    rw [List.range_succ, List.filter_append, aq]
    have e0 : (dr f n).length = ((List.range n).filter fun s => decide (∀ t, t < s → f t ≠ f s)).length := rfl
    rw [← e0, ← ih]
    by_cases hm : g n ∈ dh g n
    · rw [gg hm]
      obtain ⟨i, hi, e⟩ := g0.1 hm
      have : ¬ (∀ t, t < n → f t ≠ f n) := fun hh => hh i hi ((h i n (by omega) (by omega)).2 e)
      simp [this]
    · rw [fu hm]
      have : ∀ t, t < n → f t ≠ f n := fun t ht e => hm (g0.2 ⟨t, ht, (h t n (by omega) (by omega)).1 e⟩)
      rw [List.filter_cons, if_pos (by simpa using this)]
      simp
theorem gS {m : Mly} (hm : MOK m) : ∀ i, m.cnt i = ((dr (fun s => (m.cls i).getD s 0) m.nx.length).length : Int)
  | 0 => by
    have h1 := hm.n1
    have : dr (fun s => (m.cls 0).getD s 0) m.nx.length = [0] := by
      obtain ⟨n, hn⟩ : ∃ n, m.nx.length = n + 1 := ⟨m.nx.length - 1, by omega⟩
      unfold dr
      rw [hn, List.range_succ_eq_map, List.filter_cons]
      have hz : ∀ s, s < n + 1 → (m.cls 0).getD s 0 = 0 := fun s hs => by simp [Mly.cls, List.getD, hn, hs]
      rw [if_pos (by simp)]
      have : (List.map Nat.succ (List.range n)).filter (fun s => decide (∀ t, t < s → (m.cls 0).getD t 0 ≠ (m.cls 0).getD s 0)) = [] := by
        rw [List.filter_eq_nil_iff]
        intro s hs
        obtain ⟨k, hk, rfl⟩ := List.mem_map.1 hs
        simp only [decide_eq_true_eq]
        intro hh
        have hk' : k < n := by simpa using hk
        exact hh 0 (by omega) (by rw [hz 0 (by omega), hz (k + 1) (by omega)])
      rw [this]
    rw [this]; rfl
  | i + 1 => by
    show ((dh (m.sig (m.cls i)) m.nx.length).length : Int) = _
    rw [mm (m.sig (m.cls i)) (fun s => (m.cls (i + 1)).getD s 0)]
    intro s t hs ht
    exact gE hs ht
theorem lp (f : Nat → Int) (n : Nat) : (dr f n).Nodup := List.Pairwise.filter _ List.nodup_range
theorem nX {f g : Nat → Int} {n : Nat} (h : ∀ s t, s < n → t < n → g s = g t → f s = f t) : ∀ x, x ∈ dr f n → x ∈ dr g n := by
  intro x hx
  simp only [dr, List.mem_filter, List.mem_range, decide_eq_true_eq] at hx ⊢
  exact ⟨hx.1, fun t ht e => hx.2 t ht (h t x (by omega) hx.1 e)⟩
theorem pP (f : Nat → Int) (n : Nat) : ∀ s, s < n → ∃ r, r ∈ dr f n ∧ f r = f s := by
  intro s
  induction s using Nat.strongRecOn with
  | _ s ih =>
    intro hs
    by_cases h : ∀ t, t < s → f t ≠ f s
    · exact ⟨s, by simp only [dr, List.mem_filter, List.mem_range, decide_eq_true_eq]; exact ⟨hs, h⟩, rfl⟩
    · obtain ⟨t, ht⟩ := Classical.not_forall.1 h
      rw [Classical.not_imp, Classical.not_not] at ht
      obtain ⟨r, hr, e⟩ := ih t ht.1 (by omega)
      exact ⟨r, hr, e.trans ht.2⟩
theorem v5 {f g : Nat → Int} {n : Nat} (h : ∀ s t, s < n → t < n → g s = g t → f s = f t) (hc : (dr g n).length = (dr f n).length) : ∀ s t, s < n → t < n → f s = f t → g s = g t := by
  intro s t hs ht e
  have hback : ∀ x, x ∈ dr g n → x ∈ dr f n := by
    intro x hx
    by_cases hm : x ∈ dr f n
    · exact hm
    · exfalso
      have := eF (x :: dr f n) (dr g n) (List.nodup_cons.2 ⟨hm, lp f n⟩) (fun y hy => by
        rcases List.mem_cons.1 hy with rfl | hy
        · exact hx
        · exact nX h y hy)
      simp only [au] at this
      omega
  obtain ⟨r, hr, e1⟩ := pP g n s hs
  obtain ⟨q, hq, e2⟩ := pP g n t ht
  have hr' := hback r hr
  have hq' := hback q hq
  have hrl : r < n := by simp only [dr, List.mem_filter, List.mem_range] at hr; exact hr.1
  have hql : q < n := by simp only [dr, List.mem_filter, List.mem_range] at hq; exact hq.1
  have e3 : f r = f q := (h r s hrl hs e1).trans (e.trans (h q t hql ht e2).symm)
  have : r = q := by
    simp only [dr, List.mem_filter, List.mem_range, decide_eq_true_eq] at hr' hq'
    rcases Nat.lt_trichotomy r q with hlt | heq | hgt
    · exact absurd e3 (hq'.2 r hlt)
    · exact heq
    · exact absurd e3.symm (hr'.2 q hgt)
  rw [← e1, ← e2, this]

theorem iL {m : Mly} : ∀ f i, (∃ j, i ≤ j ∧ m.stopF f i = j ∧ j < i + f ∧ m.cnt (j + 1) = m.cnt j ∧ ∀ k, i ≤ k → k < j → m.cnt (k + 1) ≠ m.cnt k) ∨ (m.stopF f i = i + f ∧ ∀ k, i ≤ k → k < i + f → m.cnt (k + 1) ≠ m.cnt k)
  | 0, i => .inr ⟨rfl, fun k h1 h2 => by omega⟩
  | f + 1, i => by
    simp only [Mly.stopF]
    by_cases h : m.cnt (i + 1) = m.cnt i
    · rw [if_pos h]
      exact .inl ⟨i, Nat.le_refl _, rfl, by omega, h, fun k h1 h2 => by omega⟩
    · rw [if_neg h]
      rcases iL (m := m) f (i + 1) with ⟨j, h1, h2, h3, h4, h5⟩ | ⟨h1, h2⟩
      · refine .inl ⟨j, by omega, h2, by omega, h4, fun k k1 k2 => ?_⟩
        by_cases e : k = i
        · subst e; exact h
        · exact h5 k (by omega) k2
      · refine .inr ⟨by rw [h1]; omega, fun k k1 k2 => ?_⟩
        by_cases e : k = i
        · subst e; exact h
        · exact h2 k (by omega) (by omega)
theorem yq {m : Mly} (hm : MOK m) (i : Nat) : m.cnt i ≤ m.cnt (i + 1) := by
  rw [gS hm, gS hm]
  have := eF (dr (fun s => (m.cls i).getD s 0) m.nx.length) (dr (fun s => (m.cls (i + 1)).getD s 0) m.nx.length) (lp _ _) (nX (j4 hm i))
  omega
theorem AQ {m : Mly} (hm : MOK m) (i : Nat) : m.cnt i ≤ m.nx.length := by
  rw [gS hm]
  have : (dr (fun s => (m.cls i).getD s 0) m.nx.length).length ≤ (List.range m.nx.length).length := List.length_filter_le _ _
  rw [List.length_range] at this; omega

def Mly.eqc (m : Mly) : List Int := m.refC 128
structure STAB (m : Mly) (c : List Int) : Prop where
  len : c.length = m.nx.length
  rng : ∀ s, s < m.nx.length → 0 ≤ c.getD s 0 ∧ c.getD s 0 < m.nx.length
  step : ∀ s t : Nat, s < m.nx.length → t < m.nx.length → c.getD s 0 = c.getD t 0 → ∀ a : Nat, (a : Int) < m.inp →
    (m.ot.getD s []).getD a 0 = (m.ot.getD t []).getD a 0 ∧ c.getD ((m.nx.getD s []).getD a 0).toNat 0 = c.getD ((m.nx.getD t []).getD a 0).toNat 0
theorem kD {m : Mly} (hm : MOK m) : ∃ j, m.eqc = m.cls j ∧ j < m.nx.length ∧ m.cnt (j + 1) = m.cnt j := by
  have hN : jM m 128 = m.nx.length := by unfold jM; have := hm.n2; omega
  have hn1 := hm.n1
  unfold Mly.eqc Mly.refC
  rw [hN]
  rcases iL (m := m) m.nx.length 0 with ⟨j, h1, h2, h3, h4, _⟩ | ⟨h1, h2⟩
  · exact ⟨j, by rw [h2], by omega, h4⟩
  · exfalso
    have key : ∀ k, k ≤ m.nx.length → (k : Int) + 1 ≤ m.cnt k := by
      intro k
      induction k with
      | zero => intro _; show (0 : Int) + 1 ≤ 1; decide
      | succ k ih =>
        intro hk
        have := ih (by omega)
        have h3 := yq hm k
        have h4 := h2 k (by omega) (by omega)
        omega
    have := key m.nx.length (Nat.le_refl _)
    have := AQ hm m.nx.length
    omega
theorem fw {m : Mly} (hm : MOK m) : STAB m m.eqc := by
  obtain ⟨j, h1, h2, h3⟩ := kD hm
  rw [h1]
  refine ⟨jZ m j, oU hm j, fun s t hs ht e => ?_⟩
  rw [gS hm, gS hm] at h3
  have := v5 (j4 hm j) (by omega) s t hs ht e
  exact (kO hm).1 ((gE hs ht).1 this)

def EQV (m : Mly) (s t : Int) : Prop := ∀ w : List Int, (∀ i : Nat, i < w.length → 0 ≤ w.getD i 0 ∧ w.getD i 0 < m.inp) → (m.go s w).2 = (m.go t w).2
theorem fH (m : Mly) (s a : Int) (w : List Int) : m.go s (a :: w) = ((m.go (m.nxt s a) w).1, m.out s a :: (m.go (m.nxt s a) w).2) := by
  have := vY m s [a] w
  simp only [aH, aZ] at this
  rw [this]
  have h1 : m.go s [a] = (m.nxt s a, [m.out s a]) := rfl
  rw [h1]; rfl
theorem qp {w : List Int} {a n : Int} (h : ∀ i : Nat, i < (a :: w).length → 0 ≤ (a :: w).getD i 0 ∧ (a :: w).getD i 0 < n) : (0 ≤ a ∧ a < n) ∧ ∀ i : Nat, i < w.length → 0 ≤ w.getD i 0 ∧ w.getD i 0 < n :=
  ⟨h 0 (by simp), fun i hi => by have := h (i + 1) (by simpa using hi); simpa [List.getD] using this⟩
theorem sK {m : Mly} (hm : MOK m) {c : List Int} (hc : STAB m c) : ∀ (w : List Int) (s t : Int), 0 ≤ s → s < m.nx.length → 0 ≤ t → t < m.nx.length → c.getD s.toNat 0 = c.getD t.toNat 0 →
    (∀ i : Nat, i < w.length → 0 ≤ w.getD i 0 ∧ w.getD i 0 < m.inp) → (m.go s w).2 = (m.go t w).2
  | [], _, _, _, _, _, _, _, _ => rfl
  | a :: w, s, t, s0, s1, t0, t1, e, hw => by
    obtain ⟨ha, hw'⟩ := qp hw
    rw [fH, fH]
    have h1 := hc.step s.toNat t.toNat (by omega) (by omega) e a.toNat (by omega)
    have n1 := hm.nr s.toNat a.toNat (by omega) (by omega)
    have n2 := hm.nr t.toNat a.toNat (by omega) (by omega)
    have h2 := sK hm hc w (m.nxt s a) (m.nxt t a) n1.1 n1.2 n2.1 n2.2 h1.2 hw'
    show m.out s a :: _ = m.out t a :: _
    rw [h2]
    congr 1
    exact h1.1
theorem xW {m : Mly} {s t a : Int} (h : EQV m s t) (ha : 0 ≤ a ∧ a < m.inp) : m.out s a = m.out t a ∧ EQV m (m.nxt s a) (m.nxt t a) := by
  constructor
  · have := h [a] (fun i hi => by simp at hi; subst hi; exact ha)
    have h1 : (m.go s [a]).2 = [m.out s a] := rfl
    have h2 : (m.go t [a]).2 = [m.out t a] := rfl
    rw [h1, h2] at this
    simpa using this
  · intro w hw
    have := h (a :: w) (fun i hi => by
      cases i with
      | zero => exact ha
      | succ i => have := hw i (by simpa using hi); simpa [List.getD] using this)
    rw [fH, fH] at this
    exact (List.cons.inj this).2
theorem qF {m : Mly} (hm : MOK m) : ∀ (i : Nat) (s t : Nat), s < m.nx.length → t < m.nx.length → EQV m s t → (m.cls i).getD s 0 = (m.cls i).getD t 0
  | 0, s, t, hs, ht, _ => by simp [Mly.cls, List.getD, hs, ht]
  | i + 1, s, t, hs, ht, h => by
    refine (gE hs ht).2 ((kO hm).2 fun a ha => ?_)
    obtain ⟨h1, h2⟩ := xW h (a := (a : Int)) ⟨by omega, ha⟩
    refine ⟨by simpa [Mly.out] using h1, ?_⟩
    have n1 := hm.nr s a hs ha
    have n2 := hm.nr t a ht ha
    refine qF hm i _ _ (by omega) (by omega) ?_
    have e1 : m.nxt (s : Int) (a : Int) = (((m.nx.getD s []).getD a 0).toNat : Int) := by show (m.nx.getD s []).getD a 0 = _; omega
    have e2 : m.nxt (t : Int) (a : Int) = (((m.nx.getD t []).getD a 0).toNat : Int) := by show (m.nx.getD t []).getD a 0 = _; omega
    rw [e1, e2] at h2
    exact h2
theorem mb {m : Mly} (hm : MOK m) {s t : Int} (s0 : 0 ≤ s) (s1 : s < m.nx.length) (t0 : 0 ≤ t) (t1 : t < m.nx.length) : m.eqc.getD s.toNat 0 = m.eqc.getD t.toNat 0 ↔ EQV m s t := by
  constructor
  · intro h w hw
    exact sK hm (fw hm) w s t s0 s1 t0 t1 h hw
  · intro h
    obtain ⟨j, h1, _⟩ := kD hm
    rw [h1]
    exact qF hm j s.toNat t.toNat (by omega) (by omega) (by rw [Int.toNat_of_nonneg s0, Int.toNat_of_nonneg t0]; exact h)

theorem bI (m : Mly) (cl : List Int) (a s : Nat) : (m.sigP cl a s).take 128 = m.sigP cl a s := List.take_of_length_le (by rw [bJ]; exact Nat.le_refl _)
theorem xR {m : Mly} (hm : MOK m) {cl : List Int} (hr : ∀ s, s < m.nx.length → 0 ≤ cl.getD s 0 ∧ cl.getD s 0 < m.nx.length) {a s : Nat} (hs : s < m.nx.length) (ha : (a : Int) ≤ m.inp) : iO (.arr 128) (.arr (m.sigP cl a s)) := by
  refine ⟨bJ m cl a s, fun x hx => ?_⟩
  obtain ⟨i, hi, rfl⟩ := List.mem_map.1 hx
  have h2 := hm.n2
  split
  · have := hm.or s i hs (by omega); omega
  · split
    · have h1 := hm.nr s (i - 64) hs (by omega)
      have := hr ((m.nx.getD s []).getD (i - 64) 0).toNat (by omega)
      omega
    · omega
theorem ny {m : Mly} {cl : List Int} {k : Nat} (hk : k < m.nx.length) (h : m.sig cl k ∈ dh (m.sig cl) k) : pos (dh (m.sig cl) m.nx.length) (m.sig cl k) = pos (dh (m.sig cl) k) (m.sig cl k) := by
  rw [nq (m.sig cl) (i := k) (k := k + 1) (by omega) _ (by omega), dH, gg h]
theorem kF {m : Mly} {cl : List Int} {k : Nat} (hk : k < m.nx.length) (h : m.sig cl k ∉ dh (m.sig cl) k) : pos (dh (m.sig cl) m.nx.length) (m.sig cl k) = (dh (m.sig cl) k).length := by
  rw [nq (m.sig cl) (i := k) (k := k + 1) (by omega) _ (by omega), dH, fu h, sC h]
theorem rq {m : Mly} {N j : Nat} (hj : j < N) (h : m.cnt (j + 1) = m.cnt j) (hq : ∀ q, q < j → m.cnt (q + 1) ≠ m.cnt q) : m.stopF N 0 = j := by
  rcases iL (m := m) N 0 with ⟨i, h1, h2, h3, h4, h5⟩ | ⟨h1, h2⟩
  · rw [h2]
    rcases Nat.lt_trichotomy i j with hlt | heq | hgt
    · exact absurd h4 (hq i hlt)
    · exact heq
    · exact absurd h (h5 j (by omega) hgt)
  · exact absurd h (h2 j (by omega) (by omega))
theorem qd {m : Mly} {N : Nat} (hq : ∀ q, q < N → m.cnt (q + 1) ≠ m.cnt q) : m.stopF N 0 = N := by
  rcases iL (m := m) N 0 with ⟨i, h1, h2, h3, h4, h5⟩ | ⟨h1, h2⟩
  · exact absurd h4 (hq i (by omega))
  · omega
/-plain-/
abbrev S3 := Int × Int × List Int
def inS (l : List S3) (p q : Int) : Bool := l.any fun f => decide (f.1 = p) && decide (f.2.1 = q)
def stS (a b : Mly) (e : S3) (l : List S3) (x : Nat) : List S3 := if inS l (a.nxt e.1 x) (b.nxt e.2.1 x) = true then l else l ++ [(a.nxt e.1 x, b.nxt e.2.1 x, e.2.2 ++ [(x : Int)])]
def lU (a b : Mly) (e : S3) (l : List S3) (x : Nat) : List S3 := (List.range x).foldl (stS a b e) l
def eS0 : S3 := (0, 0, [])
theorem zJ {l : List S3} {p q : Int} : inS l p q = true ↔ ∃ e, e ∈ l ∧ e.1 = p ∧ e.2.1 = q := by
  simp [inS, List.any_eq_true]
theorem pS (a b : Mly) (e : S3) (l : List S3) (x : Nat) : lU a b e l (x + 1) = stS a b e (lU a b e l x) x := by
  unfold lU; rw [List.range_succ, List.foldl_append]; rfl
theorem Af (a b : Mly) (e : S3) (l : List S3) (x : Nat) : ∃ k, stS a b e l x = l ++ k := by
  unfold stS
  split
  · exact ⟨[], by simp⟩
  · exact ⟨_, rfl⟩
theorem sq (a b : Mly) (e : S3) (l : List S3) : ∀ x, ∃ k, lU a b e l x = l ++ k
  | 0 => ⟨[], by simp [lU]⟩
  | x + 1 => by
    obtain ⟨k1, h1⟩ := sq a b e l x
    obtain ⟨k2, h2⟩ := Af a b e (lU a b e l x) x
    exact ⟨k1 ++ k2, by rw [pS, h2, h1, List.append_assoc]⟩
theorem A6 (a b : Mly) (e : S3) (l : List S3) (x : Nat) : l.length ≤ (lU a b e l x).length := by
  obtain ⟨k, hk⟩ := sq a b e l x
  rw [hk]; simp

structure WFS (a b : Mly) (l : List S3) : Prop where
  rng : ∀ e, e ∈ l → (0 ≤ e.1 ∧ e.1 < a.nx.length) ∧ 0 ≤ e.2.1 ∧ e.2.1 < b.nx.length
  len : ∀ e, e ∈ l → e.2.2.length ≤ l.length
  nd : (l.map fun e => e.1 * (b.nx.length : Int) + e.2.1).Nodup
theorem WFS.at_ {a b : Mly} {l : List S3} (h : WFS a b l) {i : Nat} (hi : i < l.length) : (0 ≤ (l.getD i eS0).1 ∧ (l.getD i eS0).1 < a.nx.length) ∧ 0 ≤ (l.getD i eS0).2.1 ∧ (l.getD i eS0).2.1 < b.nx.length := by
  refine h.rng _ ?_
  simp [List.getD, hi]
theorem WFS.wl {a b : Mly} {l : List S3} (h : WFS a b l) {i : Nat} (hi : i < l.length) : (l.getD i eS0).2.2.length ≤ l.length := by
  refine h.len _ ?_
  simp [List.getD, hi]
theorem uM {p q n m : Int} (hp : 0 ≤ p ∧ p < n) (hq : 0 ≤ q ∧ q < m) : 0 ≤ p * m + q ∧ p * m + q < n * m := by
  have h1 : 0 ≤ p * m := Int.mul_nonneg hp.1 (by omega)
  have h2 : (p + 1) * m ≤ n * m := Int.mul_le_mul_of_nonneg_right (by omega) (by omega)
  rw [Int.add_mul, Int.one_mul] at h2
  omega
theorem sd {p q p' q' m : Int} (hq : 0 ≤ q ∧ q < m) (hq' : 0 ≤ q' ∧ q' < m) (e : p * m + q = p' * m + q') : p = p' ∧ q = q' := by
  have h1 : (p * m + q) / m = p := by rw [Int.add_comm, Int.add_mul_ediv_right _ _ (by omega), Int.ediv_eq_zero_of_lt hq.1 hq.2]; omega
  have h2 : (p' * m + q') / m = p' := by rw [Int.add_comm, Int.add_mul_ediv_right _ _ (by omega), Int.ediv_eq_zero_of_lt hq'.1 hq'.2]; omega
  have : p = p' := by rw [← h1, ← h2, e]
  subst this
  exact ⟨rfl, by omega⟩
theorem WFS.le {a b : Mly} {l : List S3} (h : WFS a b l) : l.length ≤ a.nx.length * b.nx.length := by
  have := fm (a.nx.length * b.nx.length) _ h.nd (fun x hx => by
    obtain ⟨e, he, rfl⟩ := List.mem_map.1 hx
    have hr := h.rng e he
    have := uM hr.1 hr.2
    rw [Int.natCast_mul]; exact this)
  simpa using this
theorem WFS.step {a b : Mly} (ha : MOK a) (hb : MOK b) (hi : a.inp = b.inp) {l : List S3} (h : WFS a b l) {e : S3} (he : (0 ≤ e.1 ∧ e.1 < a.nx.length) ∧ 0 ≤ e.2.1 ∧ e.2.1 < b.nx.length) (hw : e.2.2.length ≤ l.length) {x : Nat} (hx : (x : Int) < a.inp) : WFS a b (stS a b e l x) := by
  unfold stS
  split
  · exact h
  · rename_i hn
    have n1 := ha.nr e.1.toNat x (by omega) hx
    have n2 := hb.nr e.2.1.toNat x (by omega) (by omega)
    have n1' : 0 ≤ a.nxt e.1 x ∧ a.nxt e.1 x < a.nx.length := by simpa [Mly.nxt] using n1
    have n2' : 0 ≤ b.nxt e.2.1 x ∧ b.nxt e.2.1 x < b.nx.length := by simpa [Mly.nxt] using n2
    refine ⟨fun f hf => ?_, fun f hf => ?_, ?_⟩
    · rcases List.mem_append.1 hf with hf | hf
      · exact h.rng f hf
      · simp at hf; subst hf; exact ⟨n1', n2'⟩
    · simp only [aq, au, aC]
      rcases List.mem_append.1 hf with hf | hf
      · have := h.len f hf; omega
      · simp at hf; subst hf; simp; omega
    · rw [List.map_append, List.nodup_append]
      refine ⟨h.nd, by simp, fun u hu v hv => ?_⟩
      simp at hv; subst hv
      intro e'
      obtain ⟨f, hf, rfl⟩ := List.mem_map.1 hu
      have hr := h.rng f hf
      obtain ⟨e1, e2⟩ := sd hr.2 n2' e'
      exact hn (zJ.2 ⟨f, hf, e1, e2⟩)
theorem WFS.row {a b : Mly} (ha : MOK a) (hb : MOK b) (hi : a.inp = b.inp) {l : List S3} (h : WFS a b l) {i : Nat} (hil : i < l.length) : ∀ x : Nat, (x : Int) ≤ a.inp → WFS a b (lU a b (l.getD i eS0) l x)
  | 0, _ => by simpa [lU] using h
  | x + 1, hx => by
    rw [pS]
    have h1 := WFS.row ha hb hi h hil x (by omega)
    have h2 := A6 a b (l.getD i eS0) l x
    have h3 := h.wl hil
    exact h1.step ha hb hi (h.at_ hil) (by omega) (by omega)
def EQ2 (a b : Mly) (s t : Int) : Prop := ∀ w : List Int, (∀ i : Nat, i < w.length → 0 ≤ w.getD i 0 ∧ w.getD i 0 < a.inp) → (a.go s w).2 = (b.go t w).2
structure TRS (a b : Mly) (s t : Int) (e : S3) : Prop where
  sy : ∀ i : Nat, i < e.2.2.length → 0 ≤ e.2.2.getD i 0 ∧ e.2.2.getD i 0 < a.inp
  l : (a.go s e.2.2).1 = e.1
  r : (b.go t e.2.2).1 = e.2.1
  o : (a.go s e.2.2).2 = (b.go t e.2.2).2
/-plain-/
theorem rG {l : List Int} {t x : Int} : x ∈ cg l t ↔ x ∈ l ∨ x = t := by
  unfold cg
  split
  · rename_i h
    constructor
    · exact .inl
    · rintro (h1 | rfl)
      · exact h1
      · exact h
  · simp
theorem gH {r : List Int} : ∀ {l : List Int} {x : Int}, x ∈ r.foldl cg l ↔ x ∈ l ∨ x ∈ r := by
  induction r with
  | nil => intro l x; simp
  | cons t r ih => intro l x; simp only [List.foldl_cons, ih, rG, List.mem_cons]; exact or_assoc
theorem mI (l : List Int) (t : Int) : ∃ k, cg l t = l ++ k := by
  unfold cg
  split
  · exact ⟨[], by simp⟩
  · exact ⟨[t], rfl⟩
theorem pD (r : List Int) : ∀ l : List Int, ∃ k, r.foldl cg l = l ++ k := by
  induction r with
  | nil => intro l; exact ⟨[], by simp⟩
  | cons t r ih =>
    intro l
    obtain ⟨k1, h1⟩ := mI l t
    obtain ⟨k2, h2⟩ := ih (cg l t)
    exact ⟨k1 ++ k2, by simp only [List.foldl_cons]; rw [h2, h1, List.append_assoc]⟩
theorem kM (m : Mly) : ∀ (f i : Nat) (l : List Int), ∃ k, m.rf f i l = l ++ k
  | 0, i, l => ⟨[], by simp [Mly.rf]⟩
  | f + 1, i, l => by
    simp only [Mly.rf]
    split
    · obtain ⟨k1, h1⟩ := pD (m.row (l.getD i 0)) l
      obtain ⟨k2, h2⟩ := kM m f (i + 1) ((m.row (l.getD i 0)).foldl cg l)
      exact ⟨k1 ++ k2, by rw [h2, h1, List.append_assoc]⟩
    · exact ⟨[], by simp⟩
theorem sA {l k : List Int} {i : Nat} (h : i < l.length) : (l ++ k).getD i 0 = l.getD i 0 := by
  simp [List.getD, List.getElem?_append_left h]

theorem oY {m : Mly} (hm : MOK m) : ∀ (f i : Nat) (l : List Int), RSet m.nx.length l → m.nx.length ≤ f + i → (∀ j, j < i → j < l.length → ∀ x, x ∈ m.row (l.getD j 0) → x ∈ l) →
    ∀ j, j < (m.rf f i l).length → ∀ x, x ∈ m.row ((m.rf f i l).getD j 0) → x ∈ m.rf f i l
  | 0, i, l, hl, hf, hc => by
    have := hl.len
    intro j hj
    simp only [Mly.rf] at *
    exact hc j (by omega) hj
  | f + 1, i, l, hl, hf, hc => by
    simp only [Mly.rf]
    split
    · rename_i hi
      have hr := hl.at_ hi
      refine oY hm f (i + 1) _ (hl.fold (gX hm hr.1 hr.2)) (by omega) fun j hj hjl x hx => ?_
      obtain ⟨k, hk⟩ := pD (m.row (l.getD i 0)) l
      rw [gH]
      by_cases e : j = i
      · subst e
        rw [hk, sA hi] at hx
        exact .inr hx
      · have hjl2 : j < l.length := by omega
        rw [hk, sA hjl2] at hx
        exact .inl (hc j (by omega) hjl2 x hx)
    · rename_i hi
      intro j hj
      exact hc j (by omega) hj
theorem fI {m : Mly} (hm : MOK m) {s : Int} (hs : s ∈ m.reach) {x : Int} (hx : x ∈ m.row s) : x ∈ m.reach := by
  rw [dY (dI hm)] at hs ⊢
  obtain ⟨j, hj⟩ := List.getElem?_of_mem hs
  have hjl := (List.getElem?_eq_some_iff.1 hj).1
  have e : (m.rf (m.nx.length + 1) 0 [m.st]).getD j 0 = s := by simp [List.getD, hj]
  exact oY hm _ _ _ (i9 hm) (by omega) (fun j hj => by omega) j hjl x (by rw [e]; exact hx)
theorem jc {m : Mly} (hm : MOK m) : ∃ k, m.reach = m.st :: k := by
  rw [dY (dI hm)]
  obtain ⟨k, hk⟩ := kM m (m.nx.length + 1) 0 [m.st]
  exact ⟨k, by rw [hk]; rfl⟩

theorem oR {m : Mly} (hm : MOK m) : ∀ (f i : Nat) (l : List Int), RSet m.nx.length l → m.nx.length ≤ f + i → ∀ g, f ≤ g → m.rf g i l = m.rf f i l
  | 0, i, l, hl, hf, g, hg => by
    have := hl.len
    rw [fL m g i l (by omega), fL m 0 i l (by omega)]
  | f + 1, i, l, hl, hf, g, hg => by
    obtain ⟨g, rfl⟩ : ∃ g', g = g' + 1 := ⟨g - 1, by omega⟩
    simp only [Mly.rf]
    split
    · rename_i hi
      have hr := hl.at_ hi
      exact oR hm f (i + 1) _ (hl.fold (gX hm hr.1 hr.2)) (by omega) g (by omega)
    · rfl

theorem qi {xs : List Int} {i : Nat} (h : i < xs.length) (v : Int) : (xs.set i v).getD i 0 = v := by simp [List.getD, h]
theorem tn {xs : List Int} {i j : Nat} (h : i ≠ j) (v : Int) : (xs.set i v).getD j 0 = xs.getD j 0 := by simp [List.getD, List.getElem?_set_ne h]
theorem iI {l : List Int} (h : l.Nodup) {i j : Nat} (hi : i < l.length) (hj : j < l.length) (e : l.getD i 0 = l.getD j 0) : i = j := by
  simp [List.getD, hi, hj] at e
  exact (List.getElem_inj h).1 e
theorem vu {n : Nat} {l : List Int} (h : RSet n l) : ∀ k, k ≤ l.length → ∀ i, i < k → (nY n l k).getD (l.getD i 0).toNat 0 = i
  | 0, _, i, hi => by omega
  | k + 1, hk, i, hi => by
    simp only [nY]
    have hk1 := h.at_ (i := k) (by omega)
    by_cases e : i = k
    · subst e
      exact qi (by rw [kH]; omega) _
    · have hi1 := h.at_ (i := i) (by omega)
      rw [tn]
      · exact vu h k (by omega) i (by omega)
      · intro e2
        have := iI h.nd (i := k) (j := i) (by omega) (by omega) (by omega)
        omega
def Mly.ix (m : Mly) (s : Int) : Int := m.num.getD s.toNat 0
theorem na {m : Mly} (hm : MOK m) {i : Nat} (hi : i < m.reach.length) : m.ix (m.reach.getD i 0) = i := vu (fX hm) _ (Nat.le_refl _) i hi
theorem gq {l : List Int} {s : Int} (h : s ∈ l) : ∃ i, i < l.length ∧ l.getD i 0 = s := by
  obtain ⟨i, hi⟩ := List.getElem?_of_mem h
  exact ⟨i, (List.getElem?_eq_some_iff.1 hi).1, by simp [List.getD, hi]⟩
theorem mn {m : Mly} (hm : MOK m) {s : Int} (hs : s ∈ m.reach) : 0 ≤ m.ix s ∧ m.ix s < m.reach.length := by
  obtain ⟨i, hi, rfl⟩ := gq hs
  rw [na hm hi]; omega
theorem oT {m : Mly} (hm : MOK m) {s : Int} (hs : s ∈ m.reach) : m.reach.getD (m.ix s).toNat 0 = s := by
  obtain ⟨i, hi, rfl⟩ := gq hs
  rw [na hm hi]; simp
theorem x6 {m : Mly} (hm : MOK m) {s t : Int} (hs : s ∈ m.reach) (ht : t ∈ m.reach) (e : m.ix s = m.ix t) : s = t := by
  rw [← oT hm hs, ← oT hm ht, e]
theorem Ba {m : Mly} (hm : MOK m) : m.reach.map m.ix = (List.range m.reach.length).map (fun (i : Nat) => (i : Int)) := by
  apply List.ext_getElem
  · simp
  · intro i h1 h2
    simp only [aD] at h1
    have := na hm h1
    simp [List.getD, h1] at this
    simp [this]

def Mly.T (m : Mly) : Mly := ⟨m.inp, 0, m.tnx, m.tot⟩
theorem tm (m : Mly) : m.T.nx.length = m.reach.length := by simp [Mly.T, Mly.tnx]
theorem qq {m : Mly} (hm : MOK m) : 1 ≤ m.reach.length := by
  obtain ⟨k, hk⟩ := jc hm
  rw [hk]; simp
theorem eW {α β : Type} (f : α → β) {l : List α} {i : Nat} (d : α) (e : β) (h : i < l.length) : (l.map f).getD i e = f (l.getD i d) := by simp [List.getD, h]
theorem sW {m : Mly} {i : Nat} (hi : i < m.reach.length) : m.T.nx.getD i [] = (m.row (m.reach.getD i 0)).map m.ix := by
  show m.tnx.getD i [] = _
  unfold Mly.tnx
  rw [eW _ 0 _ hi]; rfl
theorem wn {m : Mly} {i : Nat} (hi : i < m.reach.length) : m.T.ot.getD i [] = m.ot.getD (m.reach.getD i 0).toNat [] := by
  show m.tot.getD i [] = _
  unfold Mly.tot
  rw [eW _ 0 _ hi]
theorem rJ {m : Mly} (hm : MOK m) : MOK m.T := by
  have hR := fX hm
  have hl := hR.len
  have hp := qq hm
  have hT := tm m
  have hn2 := hm.n2
  have htl : m.T.ot.length = m.reach.length := by simp [Mly.T, Mly.tot]
  refine ⟨hm.i1, hm.i2, by omega, by omega, Int.le_refl 0, by show (0 : Int) < _; omega, by omega, fun s hs => ?_, fun s hs => ?_, fun s a hs ha => ?_, fun s a hs ha => ?_⟩
  · rw [sW (by omega)]
    have := hR.at_ (i := s) (by omega)
    have h1 := hm.rl (m.reach.getD s 0).toNat (by omega)
    rw [aD]; exact h1
  · rw [wn (by omega)]
    have := hR.at_ (i := s) (by omega)
    exact hm.ql (m.reach.getD s 0).toNat (by omega)
  · have h0 := hR.at_ (i := s) (by omega)
    have h1 : ((m.row (m.reach.getD s 0)).length : Int) = m.inp := hm.rl (m.reach.getD s 0).toNat (by omega)
    have ha' : (a : Int) < m.inp := ha
    rw [sW (by omega), eW m.ix 0 0 (by omega)]
    have hmem := fI hm (s := m.reach.getD s 0) (bh (by omega)) (x := (m.row (m.reach.getD s 0)).getD a 0) (bh (by omega))
    have := mn hm hmem
    omega
  · rw [wn (by omega)]
    have := hR.at_ (i := s) (by omega)
    exact hm.or (m.reach.getD s 0).toNat a (by omega) ha
theorem pL {f : Int → Int} {R : List Int} (hf : ∀ x y, x ∈ R → y ∈ R → f x = f y → x = y) : ∀ (r l : List Int), (∀ x, x ∈ r → x ∈ R) → (∀ x, x ∈ l → x ∈ R) → (r.map f).foldl cg (l.map f) = (r.foldl cg l).map f
  | [], l, _, _ => rfl
  | t :: r, l, hr, hl => by
    simp only [aJ, List.foldl_cons]
    have ht := hr t (by simp)
    have e : cg (l.map f) (f t) = (cg l t).map f := by
      by_cases h : t ∈ l
      · rw [gm h, gm (List.mem_map.2 ⟨t, h, rfl⟩)]
      · rw [eV h, eV, List.map_append]
        · rfl
        · intro hh
          obtain ⟨x, hx, e⟩ := List.mem_map.1 hh
          exact h (hf x t (hl x hx) ht e ▸ hx)
    rw [e]
    exact pL hf r (cg l t) (fun x hx => hr x (by simp [hx])) (fun x hx => by
      rcases rG.1 hx with h | rfl
      · exact hl x h
      · exact ht)
theorem wL {m : Mly} (hm : MOK m) : ∀ (f i : Nat) (l : List Int), (∀ x, x ∈ l → x ∈ m.reach) → m.T.rf f i (l.map m.ix) = (m.rf f i l).map m.ix
  | 0, i, l, _ => rfl
  | f + 1, i, l, hl => by
    simp only [Mly.rf, aD]
    split
    · rename_i hi
      have hx := hl (l.getD i 0) (bh hi)
      have e : m.T.row ((l.map m.ix).getD i 0) = (m.row (l.getD i 0)).map m.ix := by
        rw [eW m.ix 0 0 hi]
        have h1 := mn hm hx
        show m.T.nx.getD (m.ix (l.getD i 0)).toNat [] = _
        rw [sW (by omega), oT hm hx]
      rw [e, pL (R := m.reach) (fun x y hx hy e => x6 hm hx hy e) _ _ (fun x hx' => fI hm hx hx') hl]
      exact wL hm f (i + 1) _ (fun x hx' => by
        rcases gH.1 hx' with h | h
        · exact hl x h
        · exact fI hm hx h)
    · rfl
theorem zR {m : Mly} (hm : MOK m) : m.ix m.st = 0 := by
  obtain ⟨k, hk⟩ := jc hm
  have := na hm (i := 0) (qq hm)
  rw [hk] at this
  exact this
theorem z7 {m : Mly} (hm : MOK m) : m.T.reach = (List.range m.reach.length).map (fun (i : Nat) => (i : Int)) := by
  rw [dY (dI (rJ hm)), ← Ba hm, tm]
  have e : ([m.T.st] : List Int) = [m.st].map m.ix := by simp [Mly.T, zR hm]
  rw [e, wL hm _ _ _ (fun x hx => by
    obtain ⟨k, hk⟩ := jc hm
    simp at hx; subst hx; rw [hk]; simp)]
  congr 1
  rw [dY (dI hm)]
  have hl := (fX hm).len
  have h1 := (rJ hm)
  -- both have enough fuel
  rw [← dY (dI hm)]
  have key : ∀ (f i : Nat) (l : List Int), (∀ x, x ∈ m.rf f i l → x ∈ m.reach) → RSet m.nx.length l → m.nx.length ≤ f + i → ∀ g, m.reach.length ≤ g + i → m.rf g i l = m.rf f i l := by
    intro f
    induction f with
    | zero =>
      intro i l _ hl hf g hg
      have := hl.len
      rw [fL m g i l (by omega), fL m 0 i l (by omega)]
    | succ f ih =>
      intro i l hsub hl hf g hg
      by_cases hi : i < l.length
      · cases g with
        | zero =>
          -- i < l.length ≤ reach.length ≤ i
          exfalso
          obtain ⟨k, hk⟩ := kM m (f + 1) i l
          have h2 : l.length ≤ m.reach.length := by
            have hnd : l.Nodup := hl.nd
            have hsub2 : ∀ x, x ∈ l → x ∈ m.reach := fun x hx => hsub x (by rw [hk]; simp [hx])
            exact eF l m.reach hnd hsub2
          omega
        | succ g =>
          rw [gY m g i l hi, gY m f i l hi]
          have hr := hl.at_ hi
          refine ih (i + 1) _ (fun x hx => hsub x (by rw [gY m f i l hi]; exact hx)) (hl.fold (gX hm hr.1 hr.2)) (by omega) g (by omega)
      · rw [fL m g i l (by omega), fL m (f + 1) i l (by omega)]
  rw [key (m.nx.length + 1) 0 [m.st] (fun x hx => by rw [dY (dI hm)]; exact hx) (i9 hm) (by omega) (m.reach.length + 1) (by omega)]
  exact (dY (dI hm)).symm
theorem wW {m : Mly} (h : aR m = 0) : m.trim = m.T := qA h

theorem uQ {m : Mly} (hm : MOK m) {s : Int} (hs : s ∈ m.reach) : ∀ (w : List Int), (∀ i : Nat, i < w.length → 0 ≤ w.getD i 0 ∧ w.getD i 0 < m.inp) →
    (m.go s w).1 ∈ m.reach ∧ (m.T.go (m.ix s) w).1 = m.ix (m.go s w).1 ∧ (m.T.go (m.ix s) w).2 = (m.go s w).2 := by
  intro w hw
  have key : ∀ k, k ≤ w.length → (m.go s (w.take k)).1 ∈ m.reach ∧ (m.T.go (m.ix s) (w.take k)).1 = m.ix (m.go s (w.take k)).1 ∧ (m.T.go (m.ix s) (w.take k)).2 = (m.go s (w.take k)).2 := by
    intro k
    induction k with
    | zero => intro _; exact ⟨by simpa [AL] using hs, rfl, rfl⟩
    | succ k ih =>
      intro hk
      obtain ⟨h1, h2, h3⟩ := ih (by omega)
      have ha := hw k (by omega)
      rw [uB m s (by omega), uB m.T _ (by omega), h2, h3]
      have hx := mn hm h1
      have hR := (fX hm).rng _ h1
      have hrl : ((m.row (m.go s (w.take k)).1).length : Int) = m.inp := hm.rl _ (by omega)
      have e1 : m.T.nxt (m.ix (m.go s (w.take k)).1) (w.getD k 0) = m.ix (m.nxt (m.go s (w.take k)).1 (w.getD k 0)) := by
        show (m.T.nx.getD _ []).getD _ 0 = _
        rw [sW (by omega), oT hm h1, eW m.ix 0 0 (by omega)]; rfl
      have e2 : m.T.out (m.ix (m.go s (w.take k)).1) (w.getD k 0) = m.out (m.go s (w.take k)).1 (w.getD k 0) := by
        show (m.T.ot.getD _ []).getD _ 0 = _
        rw [wn (by omega), oT hm h1]; rfl
      refine ⟨fI hm h1 (bh (by omega)), e1, ?_⟩
      show _ ++ [_] = _ ++ [_]
      rw [e2]
  have := key w.length (Nat.le_refl _)
  rwa [aE] at this
/-plain-/
theorem kR {l : List Int} {i : Nat} (h : i < l.length) : l.getD i 0 = l[i] := by simp [List.getD, h]
def rgI (n : Nat) : List Int := (List.range n).map fun (i : Nat) => (i : Int)
theorem dk (n : Nat) : (rgI n).length = n := by simp [rgI]
theorem oz {n i : Nat} (h : i < n) : (rgI n).getD i 0 = (i : Int) := by simp [rgI, List.getD, h]
theorem ik {n : Nat} {x : Int} : x ∈ rgI n ↔ 0 ≤ x ∧ x < n := by
  unfold rgI
  rw [List.mem_map]
  constructor
  · rintro ⟨i, hi, rfl⟩
    have := List.mem_range.1 hi; omega
  · intro h
    exact ⟨x.toNat, List.mem_range.2 (by omega), by omega⟩
theorem sw (n : Nat) : rgI (n + 1) = rgI n ++ [(n : Int)] := by simp [rgI, List.range_succ]
theorem pg {n : Nat} {l k : List Int} (h : l ++ k = rgI n) : l = rgI l.length := by
  have hl : l.length ≤ n := by have := congrArg List.length h; rw [aq, dk] at this; omega
  refine List.ext_getElem (by rw [dk]) fun i h1 h2 => ?_
  have e1 : (l ++ k).getD i 0 = l.getD i 0 := by simp [List.getD, List.getElem?_append_left h1]
  rw [h, oz (by omega)] at e1
  have e2 : l.getD i 0 = l[i] := by simp [List.getD, h1]
  have e3 : (rgI l.length).getD i 0 = (rgI l.length)[i] := by simp [List.getD, h2]
  rw [← e2, ← e3, ← e1, oz h1]
structure CAN (x : Mly) : Prop where
  ok : MOK x
  st : x.st = 0
  rc : x.reach = rgI x.nx.length
  ds : ∀ i j : Int, 0 ≤ i → i < x.nx.length → 0 ≤ j → j < x.nx.length → EQV x i j → i = j
theorem Ac {x y : Mly} {s t : Int} (h : EQ2 x y s t) {a : Nat} (ha : (a : Int) < x.inp) : x.out s a = y.out t a := by
  have := h [(a : Int)] fun i hi => by
    have : i = 0 := by simpa using hi
    subst this; simp [List.getD]; omega
  rw [fH, fH] at this
  injection this
theorem uN {x y : Mly} {s t : Int} (h : EQ2 x y s t) {a : Nat} (ha : (a : Int) < x.inp) : EQ2 x y (x.nxt s a) (y.nxt t a) := fun w hw => by
  have := h ((a : Int) :: w) fun i hi => by
    cases i with
    | zero => simp [List.getD]; omega
    | succ i => have := hw i (by simpa using hi); simpa [List.getD] using this
  rw [fH, fH] at this
  injection this
theorem xP {x y : Mly} (hi : x.inp = y.inp) {s t u : Int} (h : EQ2 x y s u) (g : EQ2 x y t u) : EQV x s t := fun w hw => (h w hw).trans (g w hw).symm
theorem qs {x y : Mly} (hi : x.inp = y.inp) {s t u : Int} (h : EQ2 x y s t) (g : EQ2 x y s u) : EQV y t u := fun w hw => (h w (by rw [hi]; exact hw)).symm.trans (g w (by rw [hi]; exact hw))
structure LCK (x y : Mly) (l : List Int) : Prop where
  eq : ∀ j, j ∈ l → EQ2 x y j j
  bx : ∀ j, j ∈ l → 0 ≤ j ∧ j < x.nx.length
  by_ : ∀ j, j ∈ l → 0 ≤ j ∧ j < y.nx.length
theorem xr {x y : Mly} (hx : CAN x) (hy : CAN y) (hi : x.inp = y.inp) {l : List Int} (h : LCK x y l) {u v : Int} (hu : 0 ≤ u ∧ u < x.nx.length) (hv : 0 ≤ v ∧ v < y.nx.length) (he : EQ2 x y u v)
    (px : ∃ k, cg l u ++ k = x.reach) (py : ∃ k, cg l v ++ k = y.reach) : cg l u = cg l v ∧ LCK x y (cg l u) := by
  by_cases a : u ∈ l
  · have h1 := h.by_ u a
    have h2 := hy.ds u v h1.1 h1.2 hv.1 hv.2 (qs hi (h.eq u a) he)
    subst h2
    rw [gm a]; exact ⟨rfl, h⟩
  · by_cases b : v ∈ l
    · have h1 := h.bx v b
      have h2 := hx.ds v u h1.1 h1.2 hu.1 hu.2 (xP hi (h.eq v b) he)
      subst h2; exact absurd b a
    · obtain ⟨k1, e1⟩ := px
      obtain ⟨k2, e2⟩ := py
      rw [eV a, hx.rc] at e1
      rw [eV b, hy.rc] at e2
      have f1 := pg e1
      have f2 := pg e2
      have : l ++ [u] = l ++ [v] := by
        rw [f1, f2, aq, aq]; rfl
      have huv : u = v := by
        have := List.append_cancel_left this
        simpa using this
      subst huv
      refine ⟨rfl, ?_⟩
      rw [eV a]
      refine ⟨fun j hj => ?_, fun j hj => ?_, fun j hj => ?_⟩ <;> (rcases List.mem_append.1 hj with hj | hj)
      · exact h.eq j hj
      · have : j = u := by simpa using hj
        subst this; exact he
      · exact h.bx j hj
      · have : j = u := by simpa using hj
        subst this; exact hu
      · exact h.by_ j hj
      · have : j = u := by simpa using hj
        subst this; exact hv
theorem rk {x y : Mly} (hx : CAN x) (hy : CAN y) (hi : x.inp = y.inp) {l : List Int} (h : LCK x y l) {i : Int} (hl : i ∈ l) : ∀ a : Nat, (a : Int) ≤ x.inp →
    (∃ k, ((x.row i).take a).foldl cg l ++ k = x.reach) → (∃ k, ((y.row i).take a).foldl cg l ++ k = y.reach) →
    ((x.row i).take a).foldl cg l = ((y.row i).take a).foldl cg l ∧ LCK x y (((x.row i).take a).foldl cg l)
  | 0, _, _, _ => ⟨rfl, h⟩
  | a + 1, ha, px, py => by
    have bx := h.bx i hl; have by1 := h.by_ i hl
    have rx : ((x.row i).length : Int) = x.inp := hx.ok.rl i.toNat (by omega)
    have ry : ((y.row i).length : Int) = y.inp := hy.ok.rl i.toNat (by omega)
    rw [gG (by omega)] at px ⊢
    rw [gG (by omega)] at py ⊢
    have px0 : ∃ k, ((x.row i).take a).foldl cg l ++ k = x.reach := by
      obtain ⟨k, e⟩ := px; obtain ⟨k2, e2⟩ := mI (((x.row i).take a).foldl cg l) ((x.row i).getD a 0)
      exact ⟨k2 ++ k, by rw [← List.append_assoc, ← e2, e]⟩
    have py0 : ∃ k, ((y.row i).take a).foldl cg l ++ k = y.reach := by
      obtain ⟨k, e⟩ := py; obtain ⟨k2, e2⟩ := mI (((y.row i).take a).foldl cg l) ((y.row i).getD a 0)
      exact ⟨k2 ++ k, by rw [← List.append_assoc, ← e2, e]⟩
    obtain ⟨e1, h1⟩ := rk hx hy hi h hl a (by omega) px0 py0
    rw [← e1] at py ⊢
    exact xr hx hy hi h1 (hx.ok.nr i.toNat a (by omega) (by omega)) (hy.ok.nr i.toNat a (by omega) (by omega)) (uN (h.eq i hl) (by omega)) px py
theorem x9 {x y : Mly} (hx : CAN x) (hy : CAN y) (hi : x.inp = y.inp) : ∀ (f i : Nat) (l : List Int), LCK x y l → x.rf f i l = x.reach → y.rf f i l = y.reach → x.reach = y.reach ∧ LCK x y x.reach
  | 0, i, l, h, ex, ey => ⟨ex.symm.trans ey, by rw [← ex]; exact h⟩
  | f + 1, i, l, h, ex, ey => by
    by_cases hil : i < l.length
    · rw [gY x f i l hil] at ex
      rw [gY y f i l hil] at ey
      have hm : l.getD i 0 ∈ l := bh hil
      have bx := h.bx _ hm; have by1 := h.by_ _ hm
      have rx : ((x.row (l.getD i 0)).length : Int) = x.inp := hx.ok.rl (l.getD i 0).toNat (by omega)
      have ry : ((y.row (l.getD i 0)).length : Int) = y.inp := hy.ok.rl (l.getD i 0).toNat (by omega)
      have hi1 := hx.ok.i1
      have tx : (x.row (l.getD i 0)).take x.inp.toNat = x.row (l.getD i 0) := List.take_of_length_le (by omega)
      have ty : (y.row (l.getD i 0)).take x.inp.toNat = y.row (l.getD i 0) := List.take_of_length_le (by omega)
      have px : ∃ k, ((x.row (l.getD i 0)).take x.inp.toNat).foldl cg l ++ k = x.reach := by
        rw [tx]; obtain ⟨k, e⟩ := kM x f (i + 1) ((x.row (l.getD i 0)).foldl cg l); exact ⟨k, by rw [← e, ex]⟩
      have py : ∃ k, ((y.row (l.getD i 0)).take x.inp.toNat).foldl cg l ++ k = y.reach := by
        rw [ty]; obtain ⟨k, e⟩ := kM y f (i + 1) ((y.row (l.getD i 0)).foldl cg l); exact ⟨k, by rw [← e, ey]⟩
      obtain ⟨e1, h1⟩ := rk hx hy hi h hm x.inp.toNat (by omega) px py
      rw [tx, ty] at e1
      rw [tx] at h1
      rw [← e1] at ey
      exact x9 hx hy hi f (i + 1) _ h1 ex ey
    · rw [fL x _ _ _ (by omega)] at ex
      rw [fL y _ _ _ (by omega)] at ey
      exact ⟨ex.symm.trans ey, by rw [← ex]; exact h⟩
theorem AS {x y : Mly} (hx : CAN x) (hy : CAN y) (hi : x.inp = y.inp) (h : EQ2 x y 0 0) : x.nx = y.nx ∧ x.ot = y.ot := by
  have hn1 := hx.ok.n1; have hn2 := hy.ok.n1
  have ex : x.rf (x.nx.length + y.nx.length + 1) 0 [0] = x.reach := by
    rw [dY (dI hx.ok), hx.st]
    have := oR hx.ok (x.nx.length + 1) 0 [0] (by have := i9 hx.ok; rwa [hx.st] at this) (by omega) (x.nx.length + y.nx.length + 1) (by omega)
    exact this
  have ey : y.rf (x.nx.length + y.nx.length + 1) 0 [0] = y.reach := by
    rw [dY (dI hy.ok), hy.st]
    have := oR hy.ok (y.nx.length + 1) 0 [0] (by have := i9 hy.ok; rwa [hy.st] at this) (by omega) (x.nx.length + y.nx.length + 1) (by omega)
    exact this
  have h0 : LCK x y [0] := ⟨fun j hj => (by have : j = 0 := by simpa using hj
                                            subst this; exact h), fun j hj => (by have : j = 0 := by simpa using hj
                                                                                  subst this; omega), fun j hj => (by have : j = 0 := by simpa using hj
                                                                                                                      subst this; omega)⟩
  obtain ⟨e, hl⟩ := x9 hx hy hi _ 0 [0] h0 ex ey
  have hlen : x.nx.length = y.nx.length := by
    have := congrArg List.length e
    rwa [hx.rc, hy.rc, dk, dk] at this
  have hq : ∀ j : Nat, j < x.nx.length → EQ2 x y j j := fun j hj => hl.eq j (by rw [hx.rc]; exact ik.2 ⟨by omega, by omega⟩)
  have hox := hx.ok.ol; have hoy := hy.ok.ol
  have hi1 := hx.ok.i1
  constructor
  · refine List.ext_getElem hlen fun j h1 h2 => ?_
    have r1 := hx.ok.rl j h1; have r2 := hy.ok.rl j h2
    have g1 : x.nx.getD j [] = x.nx[j] := by simp [List.getD, h1]
    have g2 : y.nx.getD j [] = y.nx[j] := by simp [List.getD, h2]
    rw [← g1, ← g2]
    refine List.ext_getElem (by omega) fun a a1 a2 => ?_
    have n1 := hx.ok.nr j a h1 (by omega); have n2 := hy.ok.nr j a h2 (by omega)
    have q1 := uN (hq j h1) (a := a) (by omega)
    have m1 : x.nxt j a = (x.nx.getD j []).getD a 0 := rfl
    have m2 : y.nxt j a = (y.nx.getD j []).getD a 0 := rfl
    rw [m1, m2] at q1
    have q2 := hq ((x.nx.getD j []).getD a 0).toNat (by omega)
    rw [Int.toNat_of_nonneg n1.1] at q2
    have := hy.ds _ _ n1.1 (by omega) n2.1 n2.2 (qs hi q2 q1)
    rw [← kR a1, ← kR a2]; exact this
  · refine List.ext_getElem (by omega) fun j h1 h2 => ?_
    have r1 := hx.ok.ql j (by omega); have r2 := hy.ok.ql j (by omega)
    have g1 : x.ot.getD j [] = x.ot[j] := by simp [List.getD, h1]
    have g2 : y.ot.getD j [] = y.ot[j] := by simp [List.getD, h2]
    rw [← g1, ← g2]
    refine List.ext_getElem (by omega) fun a a1 a2 => ?_
    have q1 := Ac (hq j (by omega)) (a := a) (by omega)
    have m1 : x.out j a = (x.ot.getD j []).getD a 0 := rfl
    have m2 : y.out j a = (y.ot.getD j []).getD a 0 := rfl
    rw [m1, m2] at q1
    rw [← kR a1, ← kR a2]; exact q1
/-plain-/
theorem nT : ∀ {xs ys : List Int}, xs.Pairwise (· < ·) → ys.Pairwise (· < ·) → (∀ x, x ∈ xs ↔ x ∈ ys) → xs = ys
  | [], [], _, _, _ => rfl
  | [], y :: ys, _, _, h => by have := (h y).2 (by simp); simp at this
  | x :: xs, [], _, _, h => by have := (h x).1 (by simp); simp at this
  | x :: xs, y :: ys, hx, hy, h => by
    rw [List.pairwise_cons] at hx hy
    have e : x = y := by
      have h1 := (h x).1 (by simp)
      have h2 := (h y).2 (by simp)
      rw [List.mem_cons] at h1 h2
      rcases h1 with h1 | h1
      · exact h1
      · rcases h2 with h2 | h2
        · exact h2.symm
        · have a := hx.1 y h2; have b := hy.1 x h1; omega
    subst e
    rw [nT hx.2 hy.2 fun z => ?_]
    constructor
    · intro hz
      have := (h z).1 (aL _ hz)
      rw [List.mem_cons] at this
      rcases this with e | h3
      · have := hx.1 z hz; omega
      · exact h3
    · intro hz
      have := (h z).2 (aL _ hz)
      rw [List.mem_cons] at this
      rcases this with e | h3
      · have := hy.1 z hz; omega
      · exact h3
theorem kQ (xs : List Int) (j : Nat) : xs.toArray[j]! = xs.getD j 0 := by
  by_cases h : j < xs.length
  · rw [getElem!_pos _ _ (by simpa using h)]; simp [List.getD, h]
  · rw [getElem!_neg _ _ (by simpa using h)]; simp [List.getD, h]
theorem tW (xs : List Int) (hs : ∀ i j, i ≤ j → j < xs.length → xs.getD i 0 ≤ xs.getD j 0) : ∀ m, m ≤ xs.length →
    (Lib.compactUpTo xs.toArray m).Pairwise (· < ·) ∧ ∀ x, x ∈ Lib.compactUpTo xs.toArray m ↔ ∃ j, j < m ∧ xs.getD j 0 = x
  | 0, _ => by simp [Lib.compactUpTo]
  | m + 1, hm => by
    obtain ⟨h1, h2⟩ := tW xs hs m (by omega)
    rw [Lib.compactUpTo_succ]
    cases hk : Lib.keeps xs.toArray m with
    | true =>
      simp only [if_true]
      have hb : m = 0 ∨ xs.getD m 0 ≠ xs.getD (m - 1) 0 := by
        have := of_decide_eq_true hk
        rwa [kQ, kQ] at this
      refine ⟨?_, fun x => ?_⟩
      · rw [List.pairwise_append]
        refine ⟨h1, by simp, fun a ha b hb2 => ?_⟩
        obtain ⟨j, hj, e⟩ := (h2 a).1 ha
        rw [List.mem_singleton, kQ] at hb2
        rw [hb2, ← e]
        have q1 := hs j (m - 1) (by omega) (by omega)
        have q2 := hs (m - 1) m (by omega) (by omega)
        omega
      · rw [List.mem_append, h2, List.mem_singleton, kQ]
        constructor
        · rintro (⟨j, hj, e⟩ | e)
          · exact ⟨j, by omega, e⟩
          · exact ⟨m, by omega, e.symm⟩
        · rintro ⟨j, hj, e⟩
          by_cases hjm : j = m
          · exact .inr (by rw [← e, hjm])
          · exact .inl ⟨j, by omega, e⟩
    | false =>
      simp only [Bool.false_eq_true, if_false, List.append_nil]
      have hb : m ≠ 0 ∧ xs.getD m 0 = xs.getD (m - 1) 0 := by
        have := of_decide_eq_false hk
        rw [kQ, kQ] at this
        refine ⟨fun e => this (.inl e), ?_⟩
        false_or_by_contra
        rename_i hh
        exact this (.inr hh)
      refine ⟨h1, fun x => ?_⟩
      rw [h2]
      constructor
      · rintro ⟨j, hj, e⟩; exact ⟨j, by omega, e⟩
      · rintro ⟨j, hj, e⟩
        by_cases hjm : j = m
        · exact ⟨m - 1, by omega, by rw [← e, hjm, hb.2]⟩
        · exact ⟨j, by omega, e⟩
theorem kJ {xs : List Int} {x : Int} : x ∈ xs ↔ ∃ j, j < xs.length ∧ xs.getD j 0 = x := by
  constructor
  · intro h
    obtain ⟨j, hj⟩ := List.getElem?_of_mem h
    exact ⟨j, (List.getElem?_eq_some_iff.1 hj).1, by simp [List.getD, hj]⟩
  · rintro ⟨j, hj, e⟩; rw [← e]; exact bh hj
def i6 (xs : List Int) : List Int := xs.mergeSort fun x y => decide (x ≤ y)
theorem xA (xs : List Int) : ∀ i j, i ≤ j → j < (i6 xs).length → (i6 xs).getD i 0 ≤ (i6 xs).getD j 0 := by
  intro i j hij hj
  by_cases e : i = j
  · rw [e]; omega
  · have hp : (i6 xs).Pairwise (fun x y => decide (x ≤ y) = true) := List.pairwise_mergeSort (le := fun x y => decide (x ≤ y)) (fun a b c h1 h2 => by simp at *; omega) (fun a b => by simp; omega) xs
    have := List.pairwise_iff_getElem.1 hp i j (by omega) hj (by omega)
    simp [List.getD, hj, show i < (i6 xs).length by omega]
    simpa using this
theorem wt {xs : List Int} {x : Int} : x ∈ i6 xs ↔ x ∈ xs := List.mem_mergeSort
theorem ij (xs : List Int) : (i6 xs).length = xs.length := List.length_mergeSort _
def aA (xs : List Int) : List Int := Lib.compact (i6 xs)
theorem du (xs : List Int) : (aA xs).Pairwise (· < ·) ∧ ∀ x, x ∈ aA xs ↔ x ∈ xs := by
  obtain ⟨h1, h2⟩ := tW (i6 xs) (xA xs) _ (Nat.le_refl _)
  refine ⟨h1, fun x => ?_⟩
  rw [aA, Lib.compact, h2, ← kJ, wt]
theorem jH {xs : List Int} : (Lib.compact xs).length ≤ xs.length := by
  unfold Lib.compact Lib.compactUpTo
  rw [aD]
  exact Nat.le_trans (List.length_filter_le _ _) (by simp)
theorem eX (xs : List Int) : (aA xs).length ≤ xs.length := by rw [← ij xs]; exact jH
def jO (l : List Int) (n : Int) : List Int := if n ∈ l then l else l.filter (fun x => decide (x < n)) ++ n :: l.filter (fun x => decide (n < x))
theorem y2 {l : List Int} {n x : Int} : x ∈ jO l n ↔ x ∈ l ∨ x = n := by
  unfold jO
  split
  · rename_i h
    constructor
    · exact .inl
    · rintro (h1 | h1)
      · exact h1
      · rw [h1]; exact h
  · simp only [List.mem_append, List.mem_filter, List.mem_cons, decide_eq_true_eq]
    constructor
    · rintro (h1 | h1 | h1)
      · exact .inl h1.1
      · exact .inr h1
      · exact .inl h1.1
    · rintro (h1 | h1)
      · by_cases e : x = n
        · exact .inr (.inl e)
        · by_cases e2 : x < n
          · exact .inl ⟨h1, e2⟩
          · exact .inr (.inr ⟨h1, by omega⟩)
      · exact .inr (.inl h1)
theorem sZ {l : List Int} {n : Int} (h : l.Pairwise (· < ·)) : (jO l n).Pairwise (· < ·) := by
  unfold jO
  split
  · exact h
  · rw [List.pairwise_append]
    refine ⟨h.filter _, ?_, fun a ha b hb => ?_⟩
    · rw [List.pairwise_cons]
      refine ⟨fun a ha => by simpa using (List.mem_filter.1 ha).2, h.filter _⟩
    · have h1 : a < n := by simpa using (List.mem_filter.1 ha).2
      rw [List.mem_cons] at hb
      rcases hb with hb | hb
      · omega
      · have : n < b := by simpa using (List.mem_filter.1 hb).2
        omega
theorem tN (r : List Int) : ∀ {l : List Int}, l.Pairwise (· < ·) → (r.foldl jO l).Pairwise (· < ·) := by
  induction r with
  | nil => intro l h; exact h
  | cons a r ih => intro l h; exact ih (sZ h)
theorem ya (r : List Int) : ∀ {l : List Int} {x : Int}, x ∈ r.foldl jO l ↔ x ∈ l ∨ x ∈ r := by
  induction r with
  | nil => intro l x; simp
  | cons a r ih => intro l x; rw [List.foldl_cons, ih, y2, List.mem_cons, or_assoc]
theorem mT (xs : List Int) : xs.foldl jO [] = aA xs :=
  nT (tN xs (by simp)) (du xs).1 fun x => by rw [ya, (du xs).2]; simp
theorem ov {l : List Int} (f : Int → Int) {j : Nat} (h : j < l.length) : (l.take (j + 1)).map f = (l.take j).map f ++ [f (l.getD j 0)] := by
  rw [cY h, List.map_append]; rfl
/-plain-/
theorem eP (n : Int) : inK .u8 n ↔ 0 ≤ n ∧ n ≤ 255 := by
  simp [inK, IntKind.min, IntKind.max, IntKind.signed, IntKind.bits]
def gB (xs : List Int) : List UInt8 := xs.map fun n => UInt8.ofNat n.toNat
def l7 (xs : List Int) : Prop := ∀ x ∈ xs, 0 ≤ x ∧ x < 256
theorem rT : ∀ {xs ys : List Int}, l7 xs → l7 ys → gB xs = gB ys → xs = ys
  | [], [], _, _, _ => rfl
  | [], _ :: _, _, _, h => by cases h
  | _ :: _, [], _, _, h => by cases h
  | x :: xs, y :: ys, hx, hy, h => by
    have hx0 := hx x (aO ..)
    have hy0 := hy y (aO ..)
    simp only [gB, aJ, List.cons.injEq] at h
    have h1 := congrArg UInt8.toNat h.1
    simp only [UInt8.toNat_ofNat'] at h1
    have e : x = y := by omega
    rw [e, rT (fun z hz => hx z (aL _ hz)) (fun z hz => hy z (aL _ hz)) h.2]
def clB (m : Mly) (a s t : Int) : Bool := decide (m.out s a = m.out t a) && decide (m.nxt s a = m.nxt t a)
def unS (m : Mly) (l : List Int) (a : Int) (i : Nat) : Bool := (List.range i).any fun k => (List.range k).any fun j => clB m a (l.getD k 0) (l.getD j 0)
def smO (m : Mly) (l : List Int) (a : Int) (i : Nat) : Bool := (List.range i).all fun k => decide (m.out (l.getD k 0) a = m.out (l.getD 0 0) a)
def cr (m : Mly) (l : List Int) (a : Int) : List Int := l.map fun s => m.nxt s a
def cO (m : Mly) (l : List Int) : Prop := ∀ s ∈ l, 0 ≤ s ∧ s < m.nx.length
theorem lV {m : Mly} {l : List Int} {a : Int} {i : Nat} (h : ∀ k j, k < i → j < k → clB m a (l.getD k 0) (l.getD j 0) = false) : unS m l a i = false := by
  unfold unS
  rw [List.any_eq_false]
  intro k hk
  rw [Bool.not_eq_true, List.any_eq_false]
  intro j hj
  rw [h k j (List.mem_range.1 hk) (List.mem_range.1 hj)]; simp
theorem uH {m : Mly} {l : List Int} {a : Int} {i k j : Nat} (hk : k < i) (hj : j < k) (h : clB m a (l.getD k 0) (l.getD j 0) = true) : unS m l a i = true :=
  List.any_eq_true.2 ⟨k, List.mem_range.2 hk, List.any_eq_true.2 ⟨j, List.mem_range.2 hj, h⟩⟩
theorem xI (m : Mly) (l : List Int) (a : Int) (i : Nat) : smO m l a (i + 1) = (smO m l a i && decide (m.out (l.getD i 0) a = m.out (l.getD 0 0) a)) := by
  unfold smO; rw [List.range_succ, List.all_append]; simp
theorem nR {m : Mly} {l : List Int} {a : Int} {k : Nat} (h : k < l.length) : cr m (l.take (k + 1)) a = cr m (l.take k) a ++ [m.nxt (l.getD k 0) a] := by
  unfold cr; rw [cY h, List.map_append]; rfl
/-plain-/
def cN (cl : List Int) : Nat → Int
  | 0 => 0
  | k + 1 => max (cN cl k) (cl.getD k 0 + 1)
def iH (cl : List Int) (k : Nat) : Bool := decide (cl.getD k 0 < 0) || decide (cN cl k < cl.getD k 0)
def sM (cl : List Int) : Int := if cl.length < 1 ∨ 64 < cl.length then 2 else if (List.range cl.length).any (iH cl) = true then 1 else 0
def Be (cl : List Int) : Int := if sM cl = 0 then cN cl cl.length else 0
theorem p5 {cl : List Int} {k : Nat} (h1 : 0 ≤ cl.getD k 0) (h2 : cl.getD k 0 ≤ cN cl k) : iH cl k = false := by
  unfold iH; rw [decide_eq_false (by omega), decide_eq_false (by omega)]; rfl
def Bd (m : Mly) (cl : List Int) : Int := if aR m ≠ 0 then aR m else if sM cl ≠ 0 then sM cl else if (cl.length : Int) = m.inp then 0 else 15
structure COK (m : Mly) (cl : List Int) : Prop where
  ok : MOK m
  ce : sM cl = 0
  len : (cl.length : Int) = m.inp
abbrev S2 := Int × List Int
def eX0 : S2 := (0, [])
def li (l : List S2) : List Int := l.map (·.1)
def stX (m : Mly) (e : S2) (l : List S2) (x : Nat) : List S2 := if (m.row e.1).getD x 0 ∈ li l then l else l ++ [((m.row e.1).getD x 0, e.2 ++ [(x : Int)])]
def kX (m : Mly) (e : S2) (l : List S2) (x : Nat) : List S2 := (List.range x).foldl (stX m e) l
def exF (m : Mly) : Nat → Nat → List S2 → List S2
  | 0, _, l => l
  | f + 1, i, l => if i < l.length then exF m f (i + 1) (kX m (l.getD i eX0) l m.inp.toNat) else l
def Mly.exR (m : Mly) : List S2 := exF m (m.nx.length + 1) 0 [(m.st, [])]
theorem pN (m : Mly) (e : S2) (l : List S2) (x : Nat) : kX m e l (x + 1) = stX m e (kX m e l x) x := by
  unfold kX; rw [List.range_succ, List.foldl_append]; rfl
theorem yH (m : Mly) (e : S2) (l : List S2) (x : Nat) : ∃ k, stX m e l x = l ++ k := by
  unfold stX
  split
  · exact ⟨[], by simp⟩
  · exact ⟨_, rfl⟩
theorem qU (m : Mly) (e : S2) (l : List S2) : ∀ x, ∃ k, kX m e l x = l ++ k
  | 0 => ⟨[], by simp [kX]⟩
  | x + 1 => by
    obtain ⟨k1, h1⟩ := qU m e l x
    obtain ⟨k2, h2⟩ := yH m e (kX m e l x) x
    exact ⟨k1 ++ k2, by rw [pN, h2, h1, List.append_assoc]⟩
theorem A0 (m : Mly) (e : S2) (l : List S2) (x : Nat) : l.length ≤ (kX m e l x).length := by
  obtain ⟨k, hk⟩ := qU m e l x
  rw [hk]; simp
structure WFX (m : Mly) (l : List S2) : Prop where
  rs : RSet m.nx.length (li l)
  wl : ∀ e, e ∈ l → e.2.length ≤ l.length
theorem rL (l : List S2) : (li l).length = l.length := by simp [li]
theorem zv {l : List S2} {i : Nat} (h : i < l.length) : (li l).getD i 0 = (l.getD i eX0).1 := by simp [li, List.getD, h]
theorem WFX.le {m : Mly} {l : List S2} (h : WFX m l) : l.length ≤ m.nx.length := by have := h.rs.len; rwa [rL] at this
theorem WFX.at_ {m : Mly} {l : List S2} (h : WFX m l) {i : Nat} (hi : i < l.length) : 0 ≤ (l.getD i eX0).1 ∧ (l.getD i eX0).1 < m.nx.length := by
  rw [← zv hi]; exact h.rs.at_ (by rw [rL]; exact hi)
theorem Bl {l : List S2} {i : Nat} (h : i < l.length) : l.getD i eX0 ∈ l := by simp [List.getD, h]
theorem WFX.step {m : Mly} (hm : MOK m) {l : List S2} (h : WFX m l) {e : S2} (he : 0 ≤ e.1 ∧ e.1 < m.nx.length) (hw : e.2.length ≤ l.length) {x : Nat} (hx : (x : Int) < m.inp) : WFX m (stX m e l x) := by
  unfold stX
  split
  · exact h
  · rename_i hn
    have n1 := hm.nr e.1.toNat x (by omega) hx
    refine ⟨?_, fun f hf => ?_⟩
    · have e1 : li (l ++ [((m.row e.1).getD x 0, e.2 ++ [(x : Int)])]) = cg (li l) ((m.row e.1).getD x 0) := by rw [eV hn]; simp [li]
      rw [e1]
      exact h.rs.add n1.1 n1.2
    · simp only [aq, au, aC]
      rcases List.mem_append.1 hf with hf | hf
      · have := h.wl f hf; omega
      · simp at hf; subst hf; simp; omega
theorem WFX.row {m : Mly} (hm : MOK m) {l : List S2} (h : WFX m l) {i : Nat} (hil : i < l.length) : ∀ x : Nat, (x : Int) ≤ m.inp → WFX m (kX m (l.getD i eX0) l x)
  | 0, _ => by simpa [kX] using h
  | x + 1, hx => by
    rw [pN]
    have h1 := WFX.row hm h hil x (by omega)
    have h2 := A0 m (l.getD i eX0) l x
    have h3 := h.wl _ (Bl hil)
    exact h1.step hm (h.at_ hil) (by omega) (by omega)
def Bf (m : Mly) (s : Int) (c d : Nat) : Bool := decide (m.out s c = m.out s d) && decide (m.eqc.getD (m.nxt s c).toNat 0 = m.eqc.getD (m.nxt s d).toNat 0)
def BZ (m : Mly) (cl : List Int) (s : Int) (c d : Nat) : Bool := decide (cl.getD c 0 = cl.getD d 0) && !Bf m s c d
def BY (m : Mly) (cl : List Int) (s : Int) (c : Nat) : Option Nat := (List.range cl.length).find? fun d => decide (c < d) && BZ m cl s c d
def BJ (m : Mly) (cl : List Int) (s : Int) : Option (Nat × Nat) := (List.range cl.length).findSome? fun c => (BY m cl s c).map fun d => (c, d)
def BQ (m : Mly) (cl : List Int) : Option (Nat × Nat × Nat) := (List.range m.exR.length).findSome? fun i => (BJ m cl (m.exR.getD i eX0).1).map fun p => (i, p.1, p.2)
def f3 (r : Option (Nat × Nat × Nat)) : Int × Int × Int := match r with | some p => (p.1, p.2.1, p.2.2) | none => (0, 0, 0)

def yS (p : Int → Bool) (xs : List Int) : Int := match xs.findIdx? p with | some i => (i : Int) | none => -1
def nmS (T : Nat → Nat → Bool) : Nat → List Int × List Int
  | 0 => ([], [])
  | c + 1 => if yS (fun d => T d.toNat c) (nmS T c).2 < 0 then ((nmS T c).1 ++ [((nmS T c).2.length : Int)], (nmS T c).2 ++ [(c : Int)])
    else ((nmS T c).1 ++ [yS (fun d => T d.toNat c) (nmS T c).2], (nmS T c).2)
def xp (m : Mly) (c d : Nat) : Bool := !decide (0 ≤ yS (fun s => !Bf m s c d) (li m.exR))
/-plain-/
structure EQT (T : Nat → Nat → Bool) (n : Nat) : Prop where
  rf : ∀ a, a < n → T a a = true
  sy : ∀ a b, a < n → b < n → T a b = true → T b a = true
  tr : ∀ a b c, a < n → b < n → c < n → T a b = true → T b c = true → T a c = true
structure NMP (T : Nat → Nat → Bool) (c : Nat) : Prop where
  at_ : ∀ q, q < c → 0 ≤ (nmS T c).1.getD q 0 ∧ (nmS T c).1.getD q 0 < (nmS T c).2.length ∧ T ((nmS T c).2.getD ((nmS T c).1.getD q 0).toNat 0).toNat q = true
  ap : ∀ x y, x < y → y < (nmS T c).2.length → T ((nmS T c).2.getD x 0).toNat ((nmS T c).2.getD y 0).toNat = false
/-plain-/
structure Dfa where
  inp : Int
  st : Int
  nx : List (List Int)
  acc : List Bool
def Dfa.av (d : Dfa) : AV := .agg [.int .i64 d.inp, .int .i64 d.st, .list (.list (.int .i64)) d.nx, .list .bool d.acc]
def Dfa.row (d : Dfa) (s : Int) : List Int := d.nx.getD s.toNat []
def Dfa.dl (d : Dfa) (s a : Int) : Int := (d.row s).getD a.toNat 0
def Dfa.ac (d : Dfa) (s : Int) : Bool := d.acc.getD s.toNat false
def Dfa.run (d : Dfa) (s : Int) (w : List Int) : Int := w.foldl (fun s a => d.dl s a) s
structure DOK (d : Dfa) : Prop where
  i1 : 1 ≤ d.inp
  i2 : d.inp ≤ 1024
  n1 : 1 ≤ d.nx.length
  n2 : d.nx.length ≤ 128
  s1 : 0 ≤ d.st
  s2 : d.st < d.nx.length
  al : d.acc.length = d.nx.length
  rl : ∀ s : Nat, s < d.nx.length → ((d.row s).length : Int) = d.inp
  cl : ∀ s a : Nat, s < d.nx.length → (a : Int) < d.inp → 0 ≤ (d.row s).getD a 0 ∧ (d.row s).getD a 0 < d.nx.length
theorem DOK.dl {d : Dfa} (h : DOK d) {s a : Int} (hs : 0 ≤ s ∧ s < d.nx.length) (ha : 0 ≤ a ∧ a < d.inp) : 0 ≤ d.dl s a ∧ d.dl s a < d.nx.length := by
  have := h.cl s.toNat a.toNat (by omega) (by omega)
  unfold Dfa.dl
  have e : d.row (s.toNat : Int) = d.row s := by unfold Dfa.row; rw [ah]
  rw [e] at this; exact this
def Dfa.co (d : Dfa) : Dfa := ⟨d.inp, d.st, d.nx, d.acc.map (!·)⟩
/-plain-/
theorem d4 (n : Int) : inK .u64 n ↔ 0 ≤ n ∧ n ≤ 18446744073709551615 := by
  simp [inK, IntKind.min, IntKind.max, IntKind.signed, IntKind.bits]
def BD : List UInt8 := [48, 49, 50, 51, 52, 53, 54, 55, 56, 57, 97, 98, 99, 100, 101, 102, 103, 104, 105, 106, 107, 108, 109, 110, 111, 112, 113, 114, 115, 116, 117, 118, 119, 120, 121, 122]
def c36 (n : Nat) : Int := ((BD.getD n 0).toNat : Int)
def zY : Nat → Nat → List Int
  | 0, n => [c36 n]
  | f + 1, n => if n < 36 then [c36 n] else zY f (n / 36) ++ [c36 (n % 36)]
def d36 (n : Nat) : List Int := zY 3 n
def B36 (j u : Nat) : Prop := (j = 0 ∧ u < 1679616) ∨ (j = 1 ∧ u < 46656) ∨ (j = 2 ∧ u < 1296) ∨ (j = 3 ∧ u < 36)
structure BUF (n u j : Nat) (l : List Int) : Prop where
  b : B36 j u
  len : l.length = 65
  eq : d36 n = zY (3 - j) u ++ l.drop (65 - j)
/-plain-/
/-plain-/
structure Mpr where
  inp : Int
  ab : Int
  st : Int
  nx : List (List Int)
  sy : List (List Int)
def Mpr.av (p : Mpr) : AV := .agg [.int .i64 p.inp, .int .i64 p.ab, .int .i64 p.st, .list (.list (.int .i64)) p.nx, .list (.list (.int .i64)) p.sy]
def Mpr.bad (p : Mpr) (s c : Nat) : Prop := (p.nx.getD s []).getD c 0 < 0 ∨ (p.nx.length : Int) ≤ (p.nx.getD s []).getD c 0 ∨ (p.sy.getD s []).getD c 0 < 0 ∨ p.ab ≤ (p.sy.getD s []).getD c 0
instance (p : Mpr) (s c : Nat) : Decidable (p.bad s c) := by unfold Mpr.bad; infer_instance
structure POK (p : Mpr) : Prop where
  i1 : 1 ≤ p.inp
  i2 : p.inp ≤ 64
  b1 : 1 ≤ p.ab
  b2 : p.ab ≤ 64
  n1 : 1 ≤ p.nx.length
  n2 : p.nx.length ≤ 128
  s1 : 0 ≤ p.st
  s2 : p.st < p.nx.length
  sl : p.sy.length = p.nx.length
  rl : ∀ s : Nat, s < p.nx.length → ((p.nx.getD s []).length : Int) = p.inp
  ql : ∀ s : Nat, s < p.nx.length → ((p.sy.getD s []).length : Int) = p.inp
  cl : ∀ s c : Nat, s < p.nx.length → (c : Int) < p.inp → 0 ≤ (p.nx.getD s []).getD c 0 ∧ (p.nx.getD s []).getD c 0 < p.nx.length
  yl : ∀ s c : Nat, s < p.nx.length → (c : Int) < p.inp → 0 ≤ (p.sy.getD s []).getD c 0 ∧ (p.sy.getD s []).getD c 0 < p.ab
def Mpr.tx (p : Mpr) (s c : Int) : Int := (p.nx.getD s.toNat []).getD c.toNat 0
def Mpr.sx (p : Mpr) (s c : Int) : Int := (p.sy.getD s.toNat []).getD c.toNat 0
theorem POK.tx {p : Mpr} (h : POK p) {s c : Int} (hs : 0 ≤ s ∧ s < p.nx.length) (hc : 0 ≤ c ∧ c < p.inp) : 0 ≤ p.tx s c ∧ p.tx s c < p.nx.length := h.cl s.toNat c.toNat (by omega) (by omega)
theorem POK.sx {p : Mpr} (h : POK p) {s c : Int} (hs : 0 ≤ s ∧ s < p.nx.length) (hc : 0 ≤ c ∧ c < p.inp) : 0 ≤ p.sx s c ∧ p.sx s c < p.ab := h.yl s.toNat c.toNat (by omega) (by omega)
def Mpr.im (p : Mpr) : Int → List Int → List Int
  | _, [] => []
  | s, c :: w => p.sx s c :: p.im (p.tx s c) w
/-plain-/
abbrev SS := List Int × List Int
def ss0 : SS := ([], [])
def dS : List SS → List Int → Nat
  | [], _ => 0
  | s :: S, x => if s.1 = x then 0 else dS S x + 1
theorem ul : ∀ (S : List SS) (x : List Int), dS S x ≤ S.length
  | [], _ => Nat.le_refl _
  | s :: S, x => by
    simp only [dS]
    split
    · exact Nat.zero_le _
    · have := ul S x; simp; omega
structure SB (m : Mly) (p : Mpr) (xs : List Int) : Prop where
  ord : xs.Pairwise (· < ·)
  pos : 0 < xs.length
  rng : ∀ x ∈ xs, 0 ≤ x ∧ x < p.nx.length * m.nx.length
theorem nN : ∀ {xs : List Int} {a b : Int}, xs.Pairwise (· < ·) → (∀ x ∈ xs, a ≤ x ∧ x < b) → (xs.length : Int) ≤ b - a ∨ xs = []
  | [], _, _, _, _ => .inr rfl
  | x :: xs, a, b, h, hr => .inl (by
    obtain ⟨h1, h2⟩ := List.pairwise_cons.1 h
    have hx := hr x (aO ..)
    rcases nN (a := x + 1) (b := b) h2 (fun y hy => ⟨by have := h1 y hy; omega, (hr y (aL _ hy)).2⟩) with e | e
    · simp only [au]; omega
    · rw [e]; simp only [au, aC]; omega)
theorem SB.len {m : Mly} {p : Mpr} {xs : List Int} (h : SB m p xs) (hm : MOK m) (hp : POK p) : xs.length ≤ 16384 := by
  have h8 : (p.nx.length : Int) * m.nx.length ≤ 128 * 128 := Int.mul_le_mul (by have := hp.n2; omega) (by have := hm.n2; omega) (by omega) (by omega)
  rcases nN h.ord h.rng with e | e
  · omega
  · rw [e]; simp
theorem vO {xs : List Int} (h : 0 < xs.length) : 0 < (aA xs).length := by
  match xs, h with
  | x :: xs, _ => exact List.length_pos_of_mem (((du (x :: xs)).2 x).2 (aO ..))
def p6 (s : SS) : List Int × (List Int × Unit) := (s.1, (s.2, ()))
structure Mres where
  my : Mly
  w : List Int
  a : Int
  b : Int
  f : Bool
  e : Int
structure MS where
  S : List SS
  N : List (List Int)
  O : List (List Int)
  nr : List Int
  os : List Int
structure SVM (m : Mly) (p : Mpr) (k : Nat) (S : List SS) : Prop where
  sb : ∀ s ∈ S, SB m p s.1
  wl : ∀ s ∈ S, s.2.length ≤ k
  le : S.length ≤ 128
theorem SVM.at_ {m : Mly} {p : Mpr} {k i : Nat} {S : List SS} (h : SVM m p k S) (hi : i < S.length) : SB m p (S.getD i ss0).1 ∧ (S.getD i ss0).2.length ≤ k := by
  have : S.getD i ss0 ∈ S := by simp [List.getD, hi]
  exact ⟨h.sb _ this, h.wl _ this⟩
def Mres.av (r : Mres) : AV := .tup [r.my.av, .agg [.list (.int .i64) r.w, .int .i64 r.a, .int .i64 r.b], .one (.bool r.f), .one (.int .i64 r.e)]
theorem AI {S : List SS} {k : Nat} (h : k < S.length) (d : List Int × (List Int × Unit)) : (List.map p6 S).getD k d = ((S.getD k ss0).1, ((S.getD k ss0).2, ())) := by
  simp [List.getD, h, p6]
theorem rU {l : List Int} {x : Int} (h : x ∈ l) : jO l x = l := if_pos h
theorem xQ : aA [] = [] := List.eq_nil_of_length_eq_zero (by have := eX []; simp only [aC] at this; omega)
theorem jo (l : List Int) (x : Int) : aA (l ++ [x]) = jO (aA l) x := by
  rw [← mT, ← mT, List.foldl_append]; rfl
def mS2 (S : List SS) : List (List Int) := S.map Prod.snd
theorem bz (S : List SS) : (mS2 S).length = S.length := aD ..
theorem At {S : List SS} {k : Nat} (h : k < S.length) (d : List Int) : (mS2 S).getD k d = (S.getD k ss0).2 := by
  unfold mS2; simp [List.getD, h]
theorem mW (S : List SS) (s : SS) : mS2 (S ++ [s]) = mS2 S ++ [s.2] := by unfold mS2; rw [List.map_append]; rfl
/-plain-/
structure F12 where
  Q : List SS
  res : Option (Option (List Int))
def dN (Q : List SS) (i a : Nat) : List Int := (Q.getD i ss0).2 ++ [(a : Int)]
def eD (m : Mly) (Q : List SS) (i a : Nat) : List Int := cr m (Q.getD i ss0).1 a
def dn (m : Mly) (i : Nat) (t : F12) (a : Nat) : F12 :=
  match t.res with
  | some _ => t
  | none =>
    if unS m (t.Q.getD i ss0).1 a (t.Q.getD i ss0).1.length = true then t
    else if smO m (t.Q.getD i ss0).1 a (t.Q.getD i ss0).1.length = false then ⟨t.Q, some (some (dN t.Q i a))⟩
    else if dS t.Q (eD m t.Q i a) < t.Q.length then t
    else if 4096 ≤ t.Q.length then ⟨t.Q, some none⟩
    else ⟨t.Q ++ [(eD m t.Q i a, dN t.Q i a)], none⟩
def jz (m : Mly) (i : Nat) (t : F12) : F12 := (List.range m.inp.toNat).foldl (dn m i) t
def fO (m : Mly) : Nat → Nat → F12 → F12
  | 0, _, t => t
  | f + 1, i, t => if t.res.isSome = true then t else if i < t.Q.length then fO m f (i + 1) (jz m i t) else t
def lc (m : Mly) (l : List Int) : Option (Option (List Int)) := (fO m 4097 0 ⟨[(l, [])], none⟩).res
def fdW (m : Mly) (l : List Int) : Option (List Int) := (lc m l).getD none
theorem rD {m : Mly} {i : Nat} {t : F12} {r : Option (List Int)} (h : t.res = some r) : ∀ (xs : List Nat), xs.foldl (dn m i) t = t
  | [] => rfl
  | a :: xs => by
    have e : dn m i t a = t := by unfold dn; rw [h]
    rw [List.foldl_cons, e]; exact rD h xs
theorem w4 {m : Mly} {i a : Nat} {t0 t : F12} {r : Option (List Int)} (ha : a < m.inp.toNat) (h : (List.range a).foldl (dn m i) t0 = t) (h2 : (dn m i t a).res = some r) : jz m i t0 = dn m i t a := by
  unfold jz
  have e : List.range m.inp.toNat = List.range (a + 1) ++ (List.range (m.inp.toNat - (a + 1))).map ((a + 1) + ·) := by rw [← List.range_add]; congr 1; omega
  rw [e, List.foldl_append, List.range_succ, List.foldl_append, h]
  exact rD h2 _
theorem sh {m : Mly} {t : F12} {r : Option (List Int)} (h : t.res = some r) : ∀ f i, fO m f i t = t
  | 0, _ => rfl
  | f + 1, i => by
    show (if _ then _ else _) = _
    rw [if_pos (by rw [h]; rfl)]
theorem pF {m : Mly} {f i : Nat} {t : F12} (h : t.res = none) (hi : i < t.Q.length) : fO m (f + 1) i t = fO m f (i + 1) (jz m i t) := by
  show (if _ then _ else _) = _
  rw [if_neg (by rw [h]; decide), if_pos hi]
theorem tZ {m : Mly} {f i : Nat} {t : F12} (hi : ¬ i < t.Q.length) : fO m f i t = t := by
  cases f with
  | zero => rfl
  | succ f =>
    show (if _ then _ else _) = _
    by_cases e : t.res.isSome = true
    · rw [if_pos e]
    · rw [if_neg e, if_neg hi]
structure FQ (m : Mly) (n : Nat) (Q : List SS) : Prop where
  st : ∀ s ∈ Q, cO m s.1
  ln : ∀ s ∈ Q, s.1.length = n
  wl : ∀ i, i < Q.length → (Q.getD i ss0).2.length ≤ i
  le : Q.length ≤ 4096
theorem oA {m : Mly} (hm : MOK m) {l : List Int} {a : Int} (ha : 0 ≤ a ∧ a < m.inp) (h : cO m l) : cO m (cr m l a) ∧ (cr m l a).length = l.length := by
  refine ⟨fun s hs => ?_, by unfold cr; simp⟩
  unfold cr at hs
  obtain ⟨x, hx, rfl⟩ := List.mem_map.1 hs
  exact hm.nr x.toNat a.toNat (by have := h x hx; omega) (by omega)
theorem FQ.at_ {m : Mly} {n : Nat} {Q : List SS} (h : FQ m n Q) {i : Nat} (hi : i < Q.length) : cO m (Q.getD i ss0).1 ∧ (Q.getD i ss0).1.length = n ∧ (Q.getD i ss0).2.length ≤ i := by
  have : Q.getD i ss0 ∈ Q := by simp [List.getD, hi]
  exact ⟨h.st _ this, h.ln _ this, h.wl i hi⟩
theorem FQ.snoc {m : Mly} {n : Nat} {Q : List SS} (h : FQ m n Q) {x w : List Int} (h1 : cO m x) (h2 : x.length = n) (h3 : w.length ≤ Q.length) (h4 : Q.length < 4096) : FQ m n (Q ++ [(x, w)]) := by
  refine ⟨fun s hs => ?_, fun s hs => ?_, fun i hi => ?_, by rw [aq]; simp only [au, aC]; omega⟩
  · rcases List.mem_append.1 hs with q | q
    · exact h.st s q
    · rw [List.mem_singleton] at q; rw [q]; exact h1
  · rcases List.mem_append.1 hs with q | q
    · exact h.ln s q
    · rw [List.mem_singleton] at q; rw [q]; exact h2
  · rw [aq] at hi
    simp only [au, aC] at hi
    by_cases e : i < Q.length
    · have e2 : (Q ++ [(x, w)]).getD i ss0 = Q.getD i ss0 := by simp [List.getD, List.getElem?_append_left e]
      rw [e2]; exact h.wl i e
    · have e3 : i = Q.length := by omega
      have e2 : (Q ++ [(x, w)]).getD i ss0 = (x, w) := by rw [e3]; simp [List.getD]
      rw [e2]; show w.length ≤ i; omega
theorem FQ.one {m : Mly} {l : List Int} (h : cO m l) : FQ m l.length [(l, [])] := by
  refine ⟨fun s hs => ?_, fun s hs => ?_, fun i hi => ?_, by simp⟩
  · rw [List.mem_singleton] at hs; rw [hs]; exact h
  · rw [List.mem_singleton] at hs; rw [hs]
  · have : i = 0 := by simpa using hi
    subst this; exact Nat.le_refl _
theorem vS {m : Mly} {i a : Nat} {Q : List SS} (h : unS m (Q.getD i ss0).1 a (Q.getD i ss0).1.length = true) : dn m i ⟨Q, none⟩ a = ⟨Q, none⟩ := by
  unfold dn; simp only; rw [if_pos h]
theorem t9 {m : Mly} {i a : Nat} {Q : List SS} (h : unS m (Q.getD i ss0).1 a (Q.getD i ss0).1.length = false) (h2 : smO m (Q.getD i ss0).1 a (Q.getD i ss0).1.length = false) : dn m i ⟨Q, none⟩ a = ⟨Q, some (some (dN Q i a))⟩ := by
  unfold dn; simp only; rw [if_neg (by rw [h]; decide), if_pos h2]
theorem sY {m : Mly} {i a : Nat} {Q : List SS} (h : unS m (Q.getD i ss0).1 a (Q.getD i ss0).1.length = false) (h2 : smO m (Q.getD i ss0).1 a (Q.getD i ss0).1.length = true) (h3 : dS Q (eD m Q i a) < Q.length) : dn m i ⟨Q, none⟩ a = ⟨Q, none⟩ := by
  unfold dn; simp only; rw [if_neg (by rw [h]; decide), if_neg (by rw [h2]; decide), if_pos h3]
theorem tH {m : Mly} {i a : Nat} {Q : List SS} (h : unS m (Q.getD i ss0).1 a (Q.getD i ss0).1.length = false) (h2 : smO m (Q.getD i ss0).1 a (Q.getD i ss0).1.length = true) (h3 : ¬ dS Q (eD m Q i a) < Q.length) (h4 : 4096 ≤ Q.length) : dn m i ⟨Q, none⟩ a = ⟨Q, some none⟩ := by
  unfold dn; simp only; rw [if_neg (by rw [h]; decide), if_neg (by rw [h2]; decide), if_neg h3, if_pos h4]
theorem tc {m : Mly} {i a : Nat} {Q : List SS} (h : unS m (Q.getD i ss0).1 a (Q.getD i ss0).1.length = false) (h2 : smO m (Q.getD i ss0).1 a (Q.getD i ss0).1.length = true) (h3 : ¬ dS Q (eD m Q i a) < Q.length) (h4 : ¬ 4096 ≤ Q.length) : dn m i ⟨Q, none⟩ a = ⟨Q ++ [(eD m Q i a, dN Q i a)], none⟩ := by
  unfold dn; simp only; rw [if_neg (by rw [h]; decide), if_neg (by rw [h2]; decide), if_neg h3, if_neg h4]
/-plain-/
def esB (Q : List SS) : List (KV × Int) := Q.map fun s => (KV.str (gB s.1), (1 : Int))
theorem xF (Q : List SS) (s : SS) : esB (Q ++ [s]) = esB Q ++ [(KV.str (gB s.1), (1 : Int))] := by unfold esB; rw [List.map_append]; rfl
theorem fh {m : Mly} {l : List Int} (hm : MOK m) (h : cO m l) : l7 l := fun x hx => by have := h x hx; have := hm.n2; omega
theorem lB {x : List Int} (hx : l7 x) : ∀ {Q : List SS}, (∀ s ∈ Q, l7 s.1) → dU (esB Q) (.str (gB x)) = if dS Q x < Q.length then some 1 else none
  | [], _ => rfl
  | s :: Q, h => by
    by_cases e : s.1 = x
    · have p1 : dS (s :: Q) x = 0 := if_pos e
      rw [p1, if_pos (by simp)]
      show (if KV.str (gB s.1) = KV.str (gB x) then some 1 else _) = _
      rw [if_pos (by rw [e])]
    · have p1 : dS (s :: Q) x = dS Q x + 1 := if_neg e
      rw [p1]
      show (if KV.str (gB s.1) = KV.str (gB x) then some 1 else dU (esB Q) (.str (gB x))) = _
      rw [if_neg (fun k => e (rT (h s (aO ..)) hx (KV.str.inj k))), lB hx fun t ht => h t (aL _ ht)]
      by_cases e2 : dS Q x < Q.length
      · rw [if_pos e2, if_pos (by simp; omega)]
      · rw [if_neg e2, if_neg (by simp; omega)]
theorem xB {x : List Int} {Q : List SS} (hx : l7 x) (h : ∀ s ∈ Q, l7 s.1) : (dU (esB Q) (.str (gB x))).getD 0 = if dS Q x < Q.length then 1 else 0 := by
  rw [lB hx h]; split <;> rfl
theorem qw {x w : List Int} {Q : List SS} (hx : l7 x) (h : ∀ s ∈ Q, l7 s.1) (hn : ¬ dS Q x < Q.length) : gR (esB Q) (.str (gB x)) 1 = esB (Q ++ [(x, w)]) := by
  unfold gR
  rw [lB hx h, if_neg hn, xF]; rfl
theorem eQ {m : Mly} {i a : Nat} {t u : F12} (h : (List.range a).foldl (dn m i) t = u) : (List.range (a + 1)).foldl (dn m i) t = dn m i u a := by
  rw [List.range_succ, List.foldl_append, h]; rfl
theorem ox {m : Mly} {l : List Int} {k a : Nat} {Q Q2 : List SS} {r : Option (List Int)} (hrun : (fO m (4097 - k) k ⟨Q, none⟩).res = lc m l) (hk : k < Q.length) (hle : Q.length ≤ 4096) (ha : a < m.inp.toNat) (hf : (List.range a).foldl (dn m k) ⟨Q, none⟩ = ⟨Q2, none⟩) (hr : (dn m k ⟨Q2, none⟩ a).res = some r) : fdW m l = r := by
  unfold fdW
  rw [← hrun, show 4097 - k = (4096 - k) + 1 by omega, pF rfl hk, w4 ha hf hr, sh hr, hr]; rfl
theorem yM {m : Mly} {l : List Int} {k : Nat} {Q : List SS} (hrun : (fO m (4097 - k) k ⟨Q, none⟩).res = lc m l) (hk : ¬ k < Q.length) : fdW m l = none := by
  unfold fdW
  rw [← hrun, tZ hk]; rfl
theorem x7 {m : Mly} {l : List Int} {k : Nat} {Q Q2 : List SS} (hrun : (fO m (4097 - k) k ⟨Q, none⟩).res = lc m l) (hk : k < Q.length) (hle : Q.length ≤ 4096) (hf : (List.range m.inp.toNat).foldl (dn m k) ⟨Q, none⟩ = ⟨Q2, none⟩) : (fO m (4097 - (k + 1)) (k + 1) ⟨Q2, none⟩).res = lc m l := by
  rw [← hrun, show 4097 - k = (4097 - (k + 1)) + 1 by omega, pF rfl hk]
  unfold jz; rw [hf]
/-plain-/
theorem ww {U : List Int} {o : Int} {j : Nat} (h : U.Pairwise (· < ·)) (hj : j ≤ U.length) (h1 : ∀ q, q < j → U.getD q 0 < o) (h2 : j < U.length → o < U.getD j 0) : jO U o = U.take j ++ [o] ++ U.drop j := by
  have a1 : ∀ x ∈ U.take j, x < o := fun x hx => by
    obtain ⟨q, hq⟩ := List.getElem?_of_mem hx
    obtain ⟨q1, q2⟩ := List.getElem?_eq_some_iff.1 hq
    rw [List.length_take] at q1
    have := h1 q (by omega)
    rw [List.getElem_take] at q2
    rw [← q2]
    simpa [List.getD, show q < U.length by omega] using this
  have a2 : ∀ x ∈ U.drop j, o < x := fun x hx => by
    obtain ⟨q, hq⟩ := List.getElem?_of_mem hx
    obtain ⟨q1, q2⟩ := List.getElem?_eq_some_iff.1 hq
    rw [List.length_drop] at q1
    rw [List.getElem_drop] at q2
    have h3 := h2 (by omega)
    have h4 : U.getD j 0 = U[j]'(by omega) := by simp [List.getD, show j < U.length by omega]
    rw [h4] at h3
    by_cases e : q = 0
    · subst e; rw [← q2]; exact h3
    · have := List.pairwise_iff_getElem.1 h j (j + q) (by omega) (by omega) (by omega)
      rw [← q2]; omega
  have hno : o ∉ U := fun hx => by
    rw [← List.take_append_drop j U, List.mem_append] at hx
    rcases hx with hx | hx
    · have := a1 o hx; omega
    · have := a2 o hx; omega
  have e : ∀ P : Int → Bool, U.filter P = (U.take j).filter P ++ (U.drop j).filter P := fun P => by rw [← List.filter_append, List.take_append_drop]
  unfold jO
  rw [if_neg hno, e, e]
  rw [List.filter_eq_self.2 (fun x hx => by simpa using a1 x hx), List.filter_eq_nil_iff.2 (fun x hx => by have := a2 x hx; simp; omega), List.filter_eq_nil_iff.2 (fun x hx => by have := a1 x hx; simp; omega), List.filter_eq_self.2 (fun x hx => by simpa using a2 x hx)]
  simp
def ouL (m : Mly) (l : List Int) (a : Int) : List Int := l.map fun s => m.out s a
theorem ic {m : Mly} {l : List Int} {a : Int} {k : Nat} (h : k < l.length) : ouL m (l.take (k + 1)) a = ouL m (l.take k) a ++ [m.out (l.getD k 0) a] := by
  unfold ouL; rw [cY h, List.map_append]; rfl
/-plain-/
def pkL (l at_ : List Int) : List Int := at_.map fun x => l.getD x.toNat 0
theorem yn {l w : List Int} {k : Nat} (h : k < w.length) : pkL l (w.take (k + 1)) = pkL l (w.take k) ++ [l.getD (w.getD k 0).toNat 0] := by
  unfold pkL; rw [cY h, List.map_append]; rfl
def ptL (m : Mly) (l : List Int) (a o : Int) (k : Nat) : List Int := ((List.range k).filter fun (q : Nat) => decide (m.out (l.getD q 0) a = o)).map fun (q : Nat) => (q : Int)
theorem lT {m : Mly} {l : List Int} {a o : Int} {k : Nat} (h : m.out (l.getD k 0) a = o) : ptL m l a o (k + 1) = ptL m l a o k ++ [(k : Int)] := by
  unfold ptL; rw [List.range_succ, List.filter_append, List.filter_cons_of_pos (by simpa using h), List.map_append]; rfl
theorem oH {m : Mly} {l : List Int} {a o : Int} {k : Nat} (h : ¬ m.out (l.getD k 0) a = o) : ptL m l a o (k + 1) = ptL m l a o k := by
  unfold ptL; rw [List.range_succ, List.filter_append, List.filter_cons_of_neg (by simpa using h), List.filter_nil, List.append_nil]
theorem km (m : Mly) (l : List Int) (a o : Int) (k : Nat) : (ptL m l a o k).length ≤ k := by
  unfold ptL; rw [aD]; exact Nat.le_trans (List.length_filter_le _ _) (by simp)
/-plain-/
theorem lN {xs : List Int} {o : Int} (h : o ∈ xs) : xs.getD (pos xs o) 0 = o := by rw [List.getD, j9 h]; rfl
def wU (x : Int) : Bool := !decide (x = x)
theorem oO (x : Int) : wU x = false := by simp [wU]
theorem Am {xs : List Int} (h : xs.Pairwise (· < ·)) {o : Int} {k : Nat} (ho : o ∈ xs) (h1 : ∀ q, q < k → xs.getD q 0 < o) (h2 : ∀ q, k ≤ q → q < xs.length → o ≤ xs.getD q 0) : k = pos xs o ∧ xs.getD k 0 = o ∧ k < xs.length := by
  have hp := i8 ho
  have hg : xs.getD (pos xs o) 0 = o := by rw [List.getD, j9 ho]; rfl
  have hk : ¬ pos xs o < k := fun hh => by have := h1 _ hh; omega
  have hk2 : k < xs.length := by omega
  have e : xs.getD k 0 = o := by
    have h3 := h2 k (Nat.le_refl _) hk2
    by_cases e : k = pos xs o
    · rw [e]; exact hg
    · have := List.pairwise_iff_getElem.1 h k (pos xs o) hk2 hp (by omega)
      have a1 : xs.getD k 0 = xs[k] := by simp [List.getD, hk2]
      have a2 : xs.getD (pos xs o) 0 = xs[pos xs o] := by simp [List.getD, hp]
      omega
  refine ⟨?_, e, hk2⟩
  by_cases e2 : k = pos xs o
  · exact e2
  · have := List.pairwise_iff_getElem.1 h k (pos xs o) hk2 hp (by omega)
    have a1 : xs.getD k 0 = xs[k] := by simp [List.getD, hk2]
    have a2 : xs.getD (pos xs o) 0 = xs[pos xs o] := by simp [List.getD, hp]
    omega
theorem qB {xs : List Int} (h : xs.Pairwise (· < ·)) {o : Int} {h9 : Nat} (hh : h9 < xs.length) (hv : xs.getD h9 0 < o) : ∀ q, q < h9 + 1 → xs.getD q 0 < o := fun q hq => by
  by_cases e : q = h9
  · rw [e]; exact hv
  · have := List.pairwise_iff_getElem.1 h q h9 (by omega) hh (by omega)
    have a1 : xs.getD h9 0 = xs[h9] := by simp [List.getD, hh]
    have a2 : xs.getD q 0 = xs[q] := by simp [List.getD, show q < xs.length by omega]
    omega
theorem oS {xs : List Int} (h : xs.Pairwise (· < ·)) {o : Int} {h9 : Nat} (hh : h9 < xs.length) (hv : ¬ xs.getD h9 0 < o) : ∀ q, h9 ≤ q → q < xs.length → o ≤ xs.getD q 0 := fun q hq hl => by
  by_cases e : q = h9
  · rw [e]; omega
  · have := List.pairwise_iff_getElem.1 h h9 q hh hl (by omega)
    have a1 : xs.getD h9 0 = xs[h9] := by simp [List.getD, hh]
    have a2 : xs.getD q 0 = xs[q] := by simp [List.getD, hl]
    omega
/-plain-/
def bU (m : Mly) (ini cur : List Int) (a : Int) (i : Nat) (o : Int) : List Int := pkL ini (ptL m cur a o i)
def bE (m : Mly) (cur : List Int) (a : Int) (i : Nat) (o : Int) : List Int := cr m (pkL cur (ptL m cur a o i)) a
def ef (m : Mly) (ini cur : List Int) (a : Int) (i : Nat) (ks : List Int) : List (List Int) := ks.flatMap fun o => [bU m ini cur a i o, bE m cur a i o]
theorem ee (m : Mly) (ini cur : List Int) (a : Int) (i : Nat) (o : Int) (ks : List Int) : ef m ini cur a i (o :: ks) = bU m ini cur a i o :: bE m cur a i o :: ef m ini cur a i ks := rfl
theorem np (m : Mly) (ini cur : List Int) (a : Int) (i : Nat) : ∀ ks : List Int, (ef m ini cur a i ks).length = 2 * ks.length
  | [] => rfl
  | o :: ks => by rw [ee]; simp only [au, np m ini cur a i ks]; omega
theorem xm (m : Mly) (ini cur : List Int) (a : Int) : ∀ ks : List Int, ef m ini cur a 0 ks = List.replicate (2 * ks.length) []
  | [] => rfl
  | o :: ks => by
    rw [ee, xm m ini cur a ks, au, show 2 * (ks.length + 1) = 2 * ks.length + 1 + 1 by omega, List.replicate_succ, List.replicate_succ]
    rfl
theorem qb {m : Mly} {ini cur : List Int} {a : Int} {i : Nat} : ∀ {ks : List Int} {k : Nat}, k < ks.length → (ef m ini cur a i ks).getD (2 * k) [] = bU m ini cur a i (ks.getD k 0)
  | o :: ks, 0, _ => rfl
  | o :: ks, k + 1, h => by
    rw [ee, show 2 * (k + 1) = 2 * k + 1 + 1 by omega]
    have := qb (m := m) (ini := ini) (cur := cur) (a := a) (i := i) (ks := ks) (k := k) (by simpa using h)
    simpa [List.getD] using this
  | [], _, h => by simp at h
theorem qy {m : Mly} {ini cur : List Int} {a : Int} {i : Nat} : ∀ {ks : List Int} {k : Nat}, k < ks.length → (ef m ini cur a i ks).getD (2 * k + 1) [] = bE m cur a i (ks.getD k 0)
  | o :: ks, 0, _ => rfl
  | o :: ks, k + 1, h => by
    rw [ee, show 2 * (k + 1) + 1 = 2 * k + 1 + 1 + 1 by omega]
    have := qy (m := m) (ini := ini) (cur := cur) (a := a) (i := i) (ks := ks) (k := k) (by simpa using h)
    simpa [List.getD] using this
  | [], _, h => by simp at h
theorem uV {m : Mly} {ini cur : List Int} {a o : Int} {i : Nat} (h : ¬ m.out (cur.getD i 0) a = o) : bU m ini cur a (i + 1) o = bU m ini cur a i o ∧ bE m cur a (i + 1) o = bE m cur a i o := by
  unfold bU bE; rw [oH h]; exact ⟨rfl, rfl⟩
theorem AA {m : Mly} {ini cur : List Int} {a o : Int} {i : Nat} (h : m.out (cur.getD i 0) a = o) : bU m ini cur a (i + 1) o = bU m ini cur a i o ++ [ini.getD i 0] ∧ bE m cur a (i + 1) o = bE m cur a i o ++ [m.nxt (cur.getD i 0) a] := by
  unfold bU bE cr pkL; rw [lT h]; simp
theorem mB {m : Mly} {ini cur : List Int} {a : Int} {i : Nat} : ∀ {ks : List Int}, (∀ o ∈ ks, ¬ m.out (cur.getD i 0) a = o) → ef m ini cur a (i + 1) ks = ef m ini cur a i ks
  | [], _ => rfl
  | o :: ks, h => by
    have := uV (ini := ini) (h o (aO ..))
    rw [ee, ee, this.1, this.2, mB fun o ho => h o (aL _ ho)]
theorem pe {m : Mly} {ini cur : List Int} {a : Int} {i : Nat} : ∀ {ks : List Int} {k : Nat}, ks.Pairwise (· < ·) → k < ks.length → m.out (cur.getD i 0) a = ks.getD k 0 →
    ef m ini cur a (i + 1) ks = ((ef m ini cur a i ks).set (2 * k) (bU m ini cur a i (ks.getD k 0) ++ [ini.getD i 0])).set (2 * k + 1) (bE m cur a i (ks.getD k 0) ++ [m.nxt (cur.getD i 0) a])
  | o :: ks, 0, hp, _, he => by
    have he2 : m.out (cur.getD i 0) a = o := he
    have hg := AA (ini := ini) he2
    rw [ee, ee, hg.1, hg.2, mB fun o' ho' e => by have := (List.pairwise_cons.1 hp).1 o' ho'; omega]
    rfl
  | o :: ks, k + 1, hp, hk, he => by
    have hk2 : k < ks.length := by simpa using hk
    have he2 : m.out (cur.getD i 0) a = ks.getD k 0 := by simpa [List.getD] using he
    have hlt := (List.pairwise_cons.1 hp).1 _ (bh hk2)
    have hg := uV (m := m) (ini := ini) (cur := cur) (a := a) (o := o) (i := i) (by omega)
    have hc : (o :: ks).getD (k + 1) 0 = ks.getD k 0 := by simp [List.getD]
    rw [ee, ee, hg.1, hg.2, pe (List.pairwise_cons.1 hp).2 hk2 he2, hc, show 2 * (k + 1) = 2 * k + 1 + 1 by omega]
    rfl
  | [], _, _, h, _ => by simp at h
theorem wa {F : List (List Int)} {i j : Nat} {y : List Int} (h : i ≠ j) : (F.set i y).getD j [] = F.getD j [] := by
  rw [List.getD, List.getD, List.getElem?_set_ne h]
abbrev Bg := List Int × (List Int × Unit)
def mD (m : Mly) (ini cur : List Int) (a : Int) (ks : List Int) : List Bg := ks.map fun o => (bU m ini cur a cur.length o, (bE m cur a cur.length o, ()))
theorem rn (m : Mly) (ini cur : List Int) (a : Int) : ∀ ks : List Int, (ef m ini cur a cur.length ks).map (fun l => AC.list (.int .i64) l) = (mD m ini cur a ks).flatMap (acs (.pair (.list (.int .i64)) (.pair (.list (.int .i64)) .unit)))
  | [] => rfl
  | o :: ks => by rw [ee, aJ, aJ, rn m ini cur a ks]; rfl
theorem qg : ∀ n : Nat, rep [AC.nils, AC.nils] n = List.replicate (2 * n) .nils
  | 0 => rfl
  | n + 1 => by
    show [AC.nils, AC.nils] ++ rep [AC.nils, AC.nils] n = _
    rw [qg n, show 2 * (n + 1) = 2 * n + 1 + 1 by omega, List.replicate_succ, List.replicate_succ]; rfl
theorem qC4 {F : List (List Int)} {i : Nat} (h : i < F.length) : (cu 4 F).getD i .junk = .row (i + 1 + 1 + 1 + 1) (F.getD i []).length := by
  rw [tK h, Nat.add_comm]
theorem qW4 {F : List (List Int)} {i : Nat} {ys : List Int} (h : i < F.length) : bY (cu 4 F) i [.row (i + 1 + 1 + 1 + 1) ys.length] = cu 4 (F.set i ys) := by
  rw [← qL h, Nat.add_comm 4 i]
theorem AU {m : Mly} {ini cur : List Int} {a o : Int} {i : Nat} : (bU m ini cur a i o).length ≤ i := by
  unfold bU pkL; rw [aD]; exact km m cur a o i
theorem js {m : Mly} {cur : List Int} {a o : Int} {i : Nat} : (bE m cur a i o).length ≤ i := by
  unfold bE cr pkL; rw [aD, aD]; exact km m cur a o i
/-plain-/
abbrev dD := Int × (Int × Unit)
abbrev aX := List Int × (Int × (List dD × Unit))
abbrev kdT : Ty := .pair (.int .i64) (.pair (.int .i64) .unit)
abbrev ndT : Ty := .pair (.list (.int .i64)) (.pair (.int .i64) (.pair (.list (.pair (.int .i64) (.pair (.int .i64) .unit))) .unit))
def dR (m : Mly) (ini cur w : List Int) : List Int := if w.length = 0 ∧ 1 < ini.length then (fdW m cur).getD [] else w
def dm (n : Nat) (rec : List Int → List Int → Nat → List aX) (m : Mly) (ini cur : List Int) (a : Int) (t : List aX × List dD) (o : Int) : List aX × List dD :=
  if 4096 < n + 1 + t.1.length then t else (t.1 ++ rec (bU m ini cur a cur.length o) (bE m cur a cur.length o) (n + 1 + t.1.length), t.2 ++ [(o, ((n + 1 + t.1.length : Nat) : Int), ())])
def cq (m : Mly) : Nat → List Int → List Int → List Int → Nat → List aX
  | 0, _, _, _, _ => []
  | f + 1, ini, cur, w, n => if 4096 < n + 1 then [(ini, -1, [], ())] else
    match dR m ini cur w with
    | [] => [(ini, -1, [], ())]
    | a :: w2 => (ini, a, ((aA (ouL m cur a)).foldl (dm n (fun i c k => cq m f i c w2 k) m ini cur a) ([], [])).2, ()) :: ((aA (ouL m cur a)).foldl (dm n (fun i c k => cq m f i c w2 k) m ini cur a) ([], [])).1
theorem dZ {m : Mly} {f n : Nat} {ini cur w : List Int} (h : 4096 < n + 1) : cq m (f + 1) ini cur w n = [(ini, -1, [], ())] := by
  rw [cq, if_pos h]
theorem ew {m : Mly} {f n : Nat} {ini cur w : List Int} (h : ¬ 4096 < n + 1) (h2 : dR m ini cur w = []) : cq m (f + 1) ini cur w n = [(ini, -1, [], ())] := by
  rw [cq, if_neg h, h2]
theorem d7 {m : Mly} {f n : Nat} {ini cur w w2 : List Int} {a : Int} (h : ¬ 4096 < n + 1) (h2 : dR m ini cur w = a :: w2) :
    cq m (f + 1) ini cur w n = (ini, a, ((aA (ouL m cur a)).foldl (dm n (fun i c k => cq m f i c w2 k) m ini cur a) ([], [])).2, ()) :: ((aA (ouL m cur a)).foldl (dm n (fun i c k => cq m f i c w2 k) m ini cur a) ([], [])).1 := by
  rw [cq, if_neg h, h2]
theorem qS {n : Nat} {rec : List Int → List Int → Nat → List aX} {m : Mly} {ini cur : List Int} {a : Int} {t : List aX × List dD} (h : 4096 < n + 1 + t.1.length) : ∀ ks : List Int, ks.foldl (dm n rec m ini cur a) t = t
  | [] => rfl
  | o :: ks => by
    have e : dm n rec m ini cur a t o = t := if_pos h
    rw [List.foldl_cons, e]; exact qS h ks
theorem fU {n : Nat} {rec : List Int → List Int → Nat → List aX} {m : Mly} {ini cur : List Int} {a : Int} {ks : List Int} {i : Nat} {t : List aX × List dD} (h : (ks.take i).foldl (dm n rec m ini cur a) ([], []) = t) (h2 : 4096 < n + 1 + t.1.length) : ks.foldl (dm n rec m ini cur a) ([], []) = t := by
  have e : ks = ks.take i ++ ks.drop i := (List.take_append_drop i ks).symm
  rw [e, List.foldl_append, h]; exact qS h2 _
theorem nt {n : Nat} {rec : List Int → List Int → Nat → List aX} {m : Mly} {ini cur : List Int} {a : Int} {ks : List Int} {i : Nat} {D : List aX} {K : List dD} (hi : i < ks.length) (h : (ks.take i).foldl (dm n rec m ini cur a) ([], []) = (D, K)) (h2 : ¬ 4096 < n + 1 + D.length) :
    (ks.take (i + 1)).foldl (dm n rec m ini cur a) ([], []) = (D ++ rec (bU m ini cur a cur.length (ks.getD i 0)) (bE m cur a cur.length (ks.getD i 0)) (n + 1 + D.length), K ++ [(ks.getD i 0, ((n + 1 + D.length : Nat) : Int), ())]) := by
  rw [cY hi, List.foldl_append, h]
  show dm n rec m ini cur a (D, K) _ = _
  exact if_neg h2
def dy (m : Mly) (w : List Int) : Prop := ∀ x ∈ w, 0 ≤ x ∧ x < m.inp
structure FW (m : Mly) (t : F12) : Prop where
  q : ∀ s ∈ t.Q, dy m s.2
  r : ∀ w, t.res = some (some w) → dy m w ∧ w ≠ []
theorem vn {m : Mly} {Q : List SS} {i a : Nat} (h : ∀ s ∈ Q, dy m s.2) (ha : a < m.inp.toNat) : dy m (dN Q i a) := by
  unfold dN
  intro x hx
  rcases List.mem_append.1 hx with q | q
  · by_cases e : i < Q.length
    · exact h (Q.getD i ss0) (by simp [List.getD, e]) x q
    · have e2 : Q.getD i ss0 = ss0 := by simp [List.getD, List.getElem?_eq_none (show Q.length ≤ i by omega)]
      rw [e2] at q; cases q
  · rw [List.mem_singleton] at q; omega
theorem BE {m : Mly} {t : F12} {i a : Nat} (h : FW m t) (ha : a < m.inp.toNat) : FW m (dn m i t a) := by
  unfold dn
  split
  · exact h
  · rename_i hr
    split
    · exact h
    · split
      · refine ⟨h.q, fun w hw => ?_⟩
        simp only [Option.some.injEq] at hw
        subst hw
        exact ⟨vn h.q ha, by unfold dN; simp⟩
      · split
        · exact h
        · split
          · exact ⟨h.q, fun w hw => by simp at hw⟩
          · refine ⟨fun s hs => ?_, fun w hw => by simp at hw⟩
            rcases List.mem_append.1 hs with q | q
            · exact h.q s q
            · rw [List.mem_singleton] at q; rw [q]; exact vn h.q ha
theorem tS {m : Mly} {i : Nat} : ∀ (xs : List Nat) {t : F12}, FW m t → (∀ a ∈ xs, a < m.inp.toNat) → FW m (xs.foldl (dn m i) t)
  | [], _, h, _ => h
  | a :: xs, t, h, hx => tS xs (BE h (hx a (aO ..))) fun b hb => hx b (aL _ hb)
theorem zo {m : Mly} : ∀ (f i : Nat) {t : F12}, FW m t → FW m (fO m f i t)
  | 0, _, _, h => h
  | f + 1, i, t, h => by
    show FW m (if _ then _ else _)
    split
    · exact h
    · split
      · exact zo f (i + 1) (tS _ h fun a ha => List.mem_range.1 ha)
      · exact h
theorem pm (m : Mly) (l : List Int) : dy m ((fdW m l).getD []) ∧ ((fdW m l).getD [] = [] → fdW m l = none) := by
  have h := zo (m := m) 4097 0 (t := ⟨[(l, [])], none⟩) ⟨fun s hs => (by rw [List.mem_singleton] at hs; rw [hs]; intro x hx; exact absurd hx (by simp)), fun w hw => (by simp at hw)⟩
  unfold fdW lc
  cases hr : (fO m 4097 0 ⟨[(l, [])], none⟩).res with
  | none => exact ⟨fun x hx => by simp at hx, fun _ => rfl⟩
  | some r =>
    cases r with
    | none => exact ⟨fun x hx => by simp at hx, fun _ => rfl⟩
    | some w =>
      obtain ⟨h1, h2⟩ := h.r w hr
      exact ⟨h1, fun e => absurd e h2⟩
theorem oy {m : Mly} {ini cur w : List Int} (h : dy m w) : dy m (dR m ini cur w) := by
  unfold dR; split
  · exact (pm m cur).1
  · exact h
theorem jX {m : Mly} {cur : List Int} {a o x : Int} {i : Nat} : x ∈ ptL m cur a o i ↔ ∃ q : Nat, q < i ∧ m.out (cur.getD q 0) a = o ∧ (q : Int) = x := by
  unfold ptL
  simp only [List.mem_map, List.mem_filter, List.mem_range, decide_eq_true_eq]
  constructor
  · rintro ⟨q, ⟨h1, h2⟩, h3⟩; exact ⟨q, h1, h2, h3⟩
  · rintro ⟨q, h1, h2, h3⟩; exact ⟨q, ⟨h1, h2⟩, h3⟩
theorem jL {m : Mly} {cur : List Int} {a o : Int} (h : o ∈ aA (ouL m cur a)) : 0 < (bE m cur a cur.length o).length := by
  have h1 := ((du (ouL m cur a)).2 o).1 h
  unfold ouL at h1
  obtain ⟨s, hs, rfl⟩ := List.mem_map.1 h1
  obtain ⟨q, hq, rfl⟩ := kJ.1 hs
  unfold bE cr pkL
  rw [aD, aD]
  exact List.length_pos_of_mem (jX.2 ⟨q, hq, rfl, rfl⟩)
theorem gJ (m : Mly) (ini cur : List Int) (a o : Int) (i : Nat) : (bU m ini cur a i o).length = (bE m cur a i o).length := by
  unfold bU bE cr pkL; simp
theorem lL {m : Mly} (hm : MOK m) {cur : List Int} {a o : Int} (ha : 0 ≤ a ∧ a < m.inp) (h : cO m cur) : cO m (bE m cur a cur.length o) := by
  unfold bE
  refine (oA hm ha ?_).1
  intro s hs
  unfold pkL at hs
  obtain ⟨x, hx, rfl⟩ := List.mem_map.1 hs
  obtain ⟨q, hq, _, rfl⟩ := jX.1 hx
  rw [ah]
  exact h _ (bh hq)
theorem wS {n : Nat} {rec : List Int → List Int → Nat → List aX} {m : Mly} {ini cur : List Int} {a : Int} (hr : ∀ i c k, k ≤ 4096 → k + (rec i c k).length ≤ 4097) : ∀ (ks : List Int) {t : List aX × List dD}, n + 1 + t.1.length ≤ 4097 → n + 1 + (ks.foldl (dm n rec m ini cur a) t).1.length ≤ 4097
  | [], _, h => h
  | o :: ks, t, h => by
    rw [List.foldl_cons]
    refine wS hr ks ?_
    unfold dm
    split
    · exact h
    · have := hr (bU m ini cur a cur.length o) (bE m cur a cur.length o) (n + 1 + t.1.length) (by omega)
      simp only [aq]; omega
theorem m6 (m : Mly) : ∀ (f : Nat) (ini cur w : List Int) (n : Nat), n ≤ 4096 → n + (cq m f ini cur w n).length ≤ 4097
  | 0, _, _, _, n, h => by simp only [cq, aC]; omega
  | f + 1, ini, cur, w, n, h => by
    by_cases e : 4096 < n + 1
    · rw [dZ e]; simp only [au, aC]; omega
    · cases hw : dR m ini cur w with
      | nil => rw [ew e hw]; simp only [au, aC]; omega
      | cons a w2 =>
        rw [d7 e hw, au]
        have := wS (n := n) (rec := fun i c k => cq m f i c w2 k) (m := m) (ini := ini) (cur := cur) (a := a) (fun i c k hk => m6 m f i c w2 k hk) (aA (ouL m cur a)) (t := ([], [])) (by simp only [aC]; omega)
        omega
theorem tw {m : Mly} {ini cur : List Int} {a : Int} {ks : List Int} {i : Nat} (h : i < ks.length) (d : Bg) : (mD m ini cur a ks).getD i d = (bU m ini cur a cur.length (ks.getD i 0), (bE m cur a cur.length (ks.getD i 0), ())) := by
  unfold mD; simp [List.getD, h]
theorem aN (m : Mly) (ini cur : List Int) (a : Int) (ks : List Int) : (mD m ini cur a ks).length = ks.length := aD ..
def ndC (D : List aX) : List AC := D.flatMap (acs ndT)
theorem iZ (x : aX) (D : List aX) : ndC (x :: D) = .list (.int .i64) x.1 :: .int .i64 x.2.1 :: .list kdT x.2.2.1 :: ndC D := rfl
theorem cG (D E : List aX) : ndC (D ++ E) = ndC D ++ ndC E := List.flatMap_append
theorem aF : ∀ D : List aX, (ndC D).length = D.length * 3
  | [] => rfl
  | x :: D => by rw [iZ]; simp only [au, aF D]; omega
def dc (fl : List Value) : List AC := fl.map .exact
theorem aw (fl : List Value) : (dc fl).length = fl.length := aD ..
theorem bm (n : Nat) : ∀ fl : List Value, (dc fl).all (bt n) = true
  | [] => rfl
  | v :: fl => by
    show (bt n (.exact v) && (dc fl).all (bt n)) = true
    rw [bm n fl]; rfl
theorem ca (n : Nat) : ∀ D : List aX, (ndC D).all (bt n) = true
  | [] => rfl
  | x :: D => by
    rw [iZ]
    show (true && (true && (true && (ndC D).all (bt n)))) = true
    rw [ca n D]; rfl
theorem lO {k v : Nat} {t : Ty} {xs : List t.den} : ∀ fl : List Value, (dc fl).map (frC k v t xs) = dc fl
  | [] => rfl
  | x :: fl => by
    show frC k v t xs (.exact x) :: (dc fl).map (frC k v t xs) = _
    rw [lO fl]; rfl
theorem qu {k v : Nat} {t : Ty} {xs : List t.den} : ∀ D : List aX, (ndC D).map (frC k v t xs) = ndC D
  | [] => rfl
  | x :: D => by rw [iZ, aJ, aJ, aJ, qu D]; rfl
theorem sO {X : List AC} {k : Nat} {x y z c : AC} {D : List AC} (h : X.length = k) : bY (X ++ x :: y :: z :: D) (k + 1) [c] = X ++ x :: c :: z :: D := by
  subst h
  unfold bY
  rw [List.take_append, List.take_of_length_le (by omega), List.drop_append, List.drop_eq_nil_of_le (by simp; omega)]
  simp [show X.length + 1 - X.length = 1 by omega, show X.length + 1 + 1 - X.length = 2 by omega]
theorem sS {X : List AC} {k : Nat} {x y z c : AC} {D : List AC} (h : X.length = k) : bY (X ++ x :: y :: z :: D) (k + 2) [c] = X ++ x :: y :: c :: D := by
  subst h
  unfold bY
  rw [List.take_append, List.take_of_length_le (by omega), List.drop_append, List.drop_eq_nil_of_le (by simp; omega)]
  simp [show X.length + 2 - X.length = 2 by omega, show X.length + 2 + 1 - X.length = 3 by omega]
theorem tD {X : List AC} {k : Nat} {x y z d : AC} {D : List AC} (h : X.length = k) : (X ++ x :: y :: z :: D).getD (k + 2) d = z := by
  subst h; simp [List.getD]
theorem wA {X : List AC} {k : Nat} {x y z : AC} {D : List AC} (h : X.length = k) : (X ++ x :: y :: z :: D)[k + 2]? = some z := by
  subst h; simp
theorem vG {X : List AC} {k : Nat} {x y z c : AC} {D : List AC} (h : X.length = k) : (X ++ x :: y :: z :: D).set (k + 2) c = X ++ x :: y :: c :: D := by
  subst h; rw [List.set_append_right _ _ (by omega)]; simp
theorem fr3 {fl : List Value} {v : Nat} {ini : List Int} {a : Int} {K : List dD} {D : List aX} : (dc fl ++ .list (.int .i64) ini :: .int .i64 a :: .row 3 v :: ndC D).map (frC 3 v kdT K) = dc fl ++ ndC ((ini, a, K, ()) :: D) := by
  rw [List.map_append, lO, aJ, aJ, aJ, qu, iZ]
  simp only [frC, and_self, if_true]
end Go.AV
