/- Contracts of functions of this seat, each out of a walk through its code, and plain facts on what they compute. Conditions: those that each theorem names. -/
import Derived.Test.YtoahhklogohehaaTz
import Derived.Lib.ItoaNum
import Derived.Lib.Join
import Derived.LoopIn
import Derived.LoopNIn
import Derived.OwnWalkIn
import Derived.RangeFuncBox
import Derived.RangeFuncCalls
import Derived.RangeFuncFrom
import Derived.RangeFuncLeaves
import Derived.RangeFuncNested
import Derived.Shelf.Abstract
import Derived.Shelf.Lay
import Derived.Shelf.RegionOpen
import Derived.Shelf.Slices.CompactI
import Derived.Shelf.Sort.Plain
import Derived.TacticsInMore
import Derived.WalkKit
set_option linter.unusedSimpArgs false
set_option linter.unusedVariables false
namespace Go.AV
theorem zB : (∀ (p : Prop) [Decidable p], (decide p = true) = p) ∧ (∀ (p : Prop) [Decidable p], (decide p = false) = ¬p) ∧ ((!true) = false) ∧ ((!false) = true) ∧ (∀ b : Bool, (¬(b = true)) = (b = false)) ∧ (∀ b : Bool, (¬(b = false)) = (b = true)) ∧ (∀ a b : Bool, ((!a) = b) = (a = !b)) ∧ (∀ a b : Int, ¬a < b ↔ b ≤ a) ∧ (∀ a b : Int, ¬a ≤ b ↔ b < a) ∧ ((true = false) = False) ∧ ((false = true) = False) ∧ (∀ {α : Sort 1} (a b : α), (a ≠ b) = ¬(a = b)) ∧ (∀ (p : Prop) [Decidable p], ¬¬p ↔ p) ∧ (∀ b : Bool, ((!b) = true) = (b = false)) ∧ (∀ {α : Type} [BEq α] [LawfulBEq α] {a b : α}, (a != b) = true ↔ a ≠ b) ∧ (∀ a b : Bool, ((a || b) = true) = (a = true ∨ b = true)) ∧ (∀ a b : Bool, ((a && b) = true) = (a = true ∧ b = true)) ∧ (∀ a b : Bool, ((a || b) = false) = (a = false ∧ b = false)) ∧ (∀ a b : Bool, ((a && b) = false) = (a = false ∨ b = false)) :=
  ⟨fun p _ => decide_eq_true_eq, fun p _ => by simp, rfl, rfl, by simp, by simp, by decide, fun a b => Int.not_lt, fun a b => Int.not_le, by simp, by simp, fun _ _ => rfl, fun p _ => Decidable.not_not, by simp, bne_iff_ne, by simp, by simp, by simp, by simp⟩
theorem zS {α : Type} : (∀ (a b : α) (l : List α), (a :: l).set 0 b = b :: l) ∧ ∀ (a b : α) (n : Nat) (l : List α), (a :: l).set (n + 1) b = a :: l.set n b := ⟨fun _ _ _ => rfl, fun _ _ _ _ => rfl⟩
end Go.AV
set_option maxRecDepth 100000
namespace Go.AV
open Nat renaming reduceEqDiff → aa, reduceAdd → V, reduceLeDiff → ad, reduceLT → ag, reduceMul → af, reduceSub → ae
open List renaming set_cons_zero → cK, set_cons_succ → cF, getD_cons_zero → au, length_append → ar, map_cons → aJ, cons_append → aN, map_nil → bz, length_cons → ax, nil_append → b6, take_succ_cons → d6, length_nil → aI, length_map → aw, length_replicate → aB, take_length → aO, mem_cons_self → aV, mem_cons_of_mem → aM
open Int renaming toNat_natCast → ai
/-plain-/
theorem an {a b : Prop} (h : b) (ha : a := by first | omega | assumption | exact rfl) : a ∧ b := ⟨ha, h⟩
theorem cD {a b : Tr} (h : TLE a b := by exact xP (by first | rfl | (simp [xh]; done) | decide)) : TLE a b := h
theorem zV : type_of% (And.intro @zE (And.intro @zG (And.intro @op1.eq_1 (And.intro @ev.eq_1 (And.intro @ev.eq_2 (And.intro @ev.eq_3 (And.intro @ev.eq_4 (And.intro @lkp.eq_1 (And.intro @lkp.eq_2 (And.intro @d7.eq_1 (And.intro @ca.eq_1 (And.intro @ca.eq_2 (And.intro @ca.eq_3 (And.intro @ca.eq_4 (And.intro @ca.eq_5 (And.intro @ca.eq_6 (And.intro @ca.eq_7 (And.intro @ca.eq_8 (And.intro @cr.eq_1 (And.intro @cr.eq_2 (And.intro @cr.eq_3 (And.intro @eF.eq_1 (And.intro @eF.eq_2 (And.intro @eF.eq_3 (And.intro @mv1.eq_1 (And.intro @mv1.eq_2 (And.intro @mvC.eq_1 (And.intro @mvC.eq_2 (And.intro @Ty.dflt.eq_1 (And.intro @Ty.dflt.eq_2 (And.intro @Ty.dflt.eq_3 (And.intro @Ty.dflt.eq_4 (And.intro @Ty.dflt.eq_5 @Ty.dflt.eq_6))))))))))))))))))))))))))))))))) :=
  And.intro @zE (And.intro @zG (And.intro @op1.eq_1 (And.intro @ev.eq_1 (And.intro @ev.eq_2 (And.intro @ev.eq_3 (And.intro @ev.eq_4 (And.intro @lkp.eq_1 (And.intro @lkp.eq_2 (And.intro @d7.eq_1 (And.intro @ca.eq_1 (And.intro @ca.eq_2 (And.intro @ca.eq_3 (And.intro @ca.eq_4 (And.intro @ca.eq_5 (And.intro @ca.eq_6 (And.intro @ca.eq_7 (And.intro @ca.eq_8 (And.intro @cr.eq_1 (And.intro @cr.eq_2 (And.intro @cr.eq_3 (And.intro @eF.eq_1 (And.intro @eF.eq_2 (And.intro @eF.eq_3 (And.intro @mv1.eq_1 (And.intro @mv1.eq_2 (And.intro @mvC.eq_1 (And.intro @mvC.eq_2 (And.intro @Ty.dflt.eq_1 (And.intro @Ty.dflt.eq_2 (And.intro @Ty.dflt.eq_3 (And.intro @Ty.dflt.eq_4 (And.intro @Ty.dflt.eq_5 @Ty.dflt.eq_6))))))))))))))))))))))))))))))))
theorem zO : type_of% (And.intro @zE (And.intro @zG (And.intro @iF (And.intro @Nat.mul_one (And.intro @Nat.div_one (And.intro @ne_eq.{1} (And.intro @not_false_eq_true (And.intro @Int.natCast_one (And.intro @Int.mul_one (And.intro @dite_true.{1} (And.intro @op1.eq_1 (And.intro @ev.eq_1 (And.intro @ev.eq_2 (And.intro @ev.eq_3 (And.intro @ev.eq_4 (And.intro @lkp.eq_1 (And.intro @lkp.eq_2 (And.intro @d7.eq_1 (And.intro @ca.eq_1 (And.intro @ca.eq_2 (And.intro @ca.eq_3 (And.intro @ca.eq_4 (And.intro @ca.eq_5 (And.intro @ca.eq_6 (And.intro @ca.eq_7 (And.intro @ca.eq_8 (And.intro @mH.eq_1 (And.intro @mM.eq_1 (And.intro @tK.eq_1 (And.intro @cr.eq_1 (And.intro @cr.eq_2 (And.intro @cr.eq_3 (And.intro @jc.eq_1 (And.intro @cC.eq_1 (And.intro @cC.eq_2 (And.intro @bY.eq_1 (And.intro @dS.eq_1 (And.intro @dL.eq_1 (And.intro @dL.eq_2 (And.intro @rep.eq_1 (And.intro @rep.eq_2 (And.intro @bC.eq_1 (And.intro @bC.eq_2 (And.intro @bC.eq_3 (And.intro @bC.eq_4 (And.intro @bC.eq_5 (And.intro @bC.eq_6 (And.intro @bC.eq_7 (And.intro @bC.eq_8 (And.intro @bC.eq_9 (And.intro @bC.eq_10 (And.intro @bC.eq_11 (And.intro @bC.eq_12 (And.intro @Ty.size.eq_1 (And.intro @Ty.size.eq_2 (And.intro @Ty.size.eq_3 (And.intro @df.eq_1 (And.intro @ci.eq_1 (And.intro @cT.eq_1 (And.intro @cT.eq_2 (And.intro @cT.eq_3 (And.intro @Ty.dflt.eq_1 (And.intro @Ty.dflt.eq_2 (And.intro @Ty.dflt.eq_3 (And.intro @Ty.dflt.eq_4 (And.intro @Ty.dflt.eq_5 (And.intro @Ty.dflt.eq_6 (And.intro @cm.eq_1 (And.intro @ep.eq_1 (And.intro @iW.eq_1 (And.intro @jv.eq_1 (And.intro @d9.eq_1 (And.intro @d9.eq_2 (And.intro @d9.eq_3 (And.intro @d9.eq_4 (And.intro @d9.eq_5 (And.intro @d9.eq_6 (And.intro @d9.eq_7 (And.intro @d9.eq_8 (And.intro @d9.eq_9 (And.intro @d9.eq_10 (And.intro @d9.eq_11 (And.intro @d9.eq_12 (And.intro @d9.eq_13 (And.intro @d9.eq_14 (And.intro @ge.eq_1 (And.intro @ge.eq_2 (And.intro @ge.eq_3 (And.intro @ge.eq_4 (And.intro @fC.eq_1 (And.intro @fC.eq_2 (And.intro @fC.eq_3 (And.intro @i8.eq_1 (And.intro @i8.eq_2 (And.intro @i8.eq_3 (And.intro @i8.eq_4 (And.intro @sN.eq_1 (And.intro @sN.eq_2 (And.intro @ir.eq_1 (And.intro @bZ.eq_1 (And.intro @kF.eq_1 (And.intro @cG.eq_1 (And.intro @m3.eq_1 (And.intro @cq.eq_1 (And.intro @fb.eq_1 (And.intro @eB.eq_1 (And.intro @cP.eq_1 (And.intro @cP.eq_2 (And.intro @cP.eq_3 (And.intro @cP.eq_4 (And.intro @cP.eq_5 (And.intro @cP.eq_6 (And.intro @cP.eq_7 (And.intro @db.eq_1 (And.intro @db.eq_2 (And.intro @db.eq_3 (And.intro @db.eq_4 (And.intro @eH.eq_1 (And.intro @eH.eq_2 (And.intro @eH.eq_3 (And.intro @cM.eq_1 (And.intro @dg.eq_1 (And.intro @dg.eq_2 (And.intro @dg.eq_3 (And.intro @dg.eq_4 (And.intro @eF.eq_1 (And.intro @eF.eq_2 (And.intro @eF.eq_3 (And.intro @mv1.eq_1 (And.intro @mv1.eq_2 (And.intro @mvC.eq_1 @mvC.eq_2))))))))))))))))))))))))))))))))))))))))))))))))))))))))))))))))))))))))))))))))))))))))))))))))))))))))))))))))))))))))))))))))))) :=
  And.intro @zE (And.intro @zG (And.intro @iF (And.intro @Nat.mul_one (And.intro @Nat.div_one (And.intro @ne_eq.{1} (And.intro @not_false_eq_true (And.intro @Int.natCast_one (And.intro @Int.mul_one (And.intro @dite_true.{1} (And.intro @op1.eq_1 (And.intro @ev.eq_1 (And.intro @ev.eq_2 (And.intro @ev.eq_3 (And.intro @ev.eq_4 (And.intro @lkp.eq_1 (And.intro @lkp.eq_2 (And.intro @d7.eq_1 (And.intro @ca.eq_1 (And.intro @ca.eq_2 (And.intro @ca.eq_3 (And.intro @ca.eq_4 (And.intro @ca.eq_5 (And.intro @ca.eq_6 (And.intro @ca.eq_7 (And.intro @ca.eq_8 (And.intro @mH.eq_1 (And.intro @mM.eq_1 (And.intro @tK.eq_1 (And.intro @cr.eq_1 (And.intro @cr.eq_2 (And.intro @cr.eq_3 (And.intro @jc.eq_1 (And.intro @cC.eq_1 (And.intro @cC.eq_2 (And.intro @bY.eq_1 (And.intro @dS.eq_1 (And.intro @dL.eq_1 (And.intro @dL.eq_2 (And.intro @rep.eq_1 (And.intro @rep.eq_2 (And.intro @bC.eq_1 (And.intro @bC.eq_2 (And.intro @bC.eq_3 (And.intro @bC.eq_4 (And.intro @bC.eq_5 (And.intro @bC.eq_6 (And.intro @bC.eq_7 (And.intro @bC.eq_8 (And.intro @bC.eq_9 (And.intro @bC.eq_10 (And.intro @bC.eq_11 (And.intro @bC.eq_12 (And.intro @Ty.size.eq_1 (And.intro @Ty.size.eq_2 (And.intro @Ty.size.eq_3 (And.intro @df.eq_1 (And.intro @ci.eq_1 (And.intro @cT.eq_1 (And.intro @cT.eq_2 (And.intro @cT.eq_3 (And.intro @Ty.dflt.eq_1 (And.intro @Ty.dflt.eq_2 (And.intro @Ty.dflt.eq_3 (And.intro @Ty.dflt.eq_4 (And.intro @Ty.dflt.eq_5 (And.intro @Ty.dflt.eq_6 (And.intro @cm.eq_1 (And.intro @ep.eq_1 (And.intro @iW.eq_1 (And.intro @jv.eq_1 (And.intro @d9.eq_1 (And.intro @d9.eq_2 (And.intro @d9.eq_3 (And.intro @d9.eq_4 (And.intro @d9.eq_5 (And.intro @d9.eq_6 (And.intro @d9.eq_7 (And.intro @d9.eq_8 (And.intro @d9.eq_9 (And.intro @d9.eq_10 (And.intro @d9.eq_11 (And.intro @d9.eq_12 (And.intro @d9.eq_13 (And.intro @d9.eq_14 (And.intro @ge.eq_1 (And.intro @ge.eq_2 (And.intro @ge.eq_3 (And.intro @ge.eq_4 (And.intro @fC.eq_1 (And.intro @fC.eq_2 (And.intro @fC.eq_3 (And.intro @i8.eq_1 (And.intro @i8.eq_2 (And.intro @i8.eq_3 (And.intro @i8.eq_4 (And.intro @sN.eq_1 (And.intro @sN.eq_2 (And.intro @ir.eq_1 (And.intro @bZ.eq_1 (And.intro @kF.eq_1 (And.intro @cG.eq_1 (And.intro @m3.eq_1 (And.intro @cq.eq_1 (And.intro @fb.eq_1 (And.intro @eB.eq_1 (And.intro @cP.eq_1 (And.intro @cP.eq_2 (And.intro @cP.eq_3 (And.intro @cP.eq_4 (And.intro @cP.eq_5 (And.intro @cP.eq_6 (And.intro @cP.eq_7 (And.intro @db.eq_1 (And.intro @db.eq_2 (And.intro @db.eq_3 (And.intro @db.eq_4 (And.intro @eH.eq_1 (And.intro @eH.eq_2 (And.intro @eH.eq_3 (And.intro @cM.eq_1 (And.intro @dg.eq_1 (And.intro @dg.eq_2 (And.intro @dg.eq_3 (And.intro @dg.eq_4 (And.intro @eF.eq_1 (And.intro @eF.eq_2 (And.intro @eF.eq_3 (And.intro @mv1.eq_1 (And.intro @mv1.eq_2 (And.intro @mvC.eq_1 @mvC.eq_2))))))))))))))))))))))))))))))))))))))))))))))))))))))))))))))))))))))))))))))))))))))))))))))))))))))))))))))))))))))))))))))))))
theorem zP : type_of% (And.intro @zE (And.intro @cK.{0} (And.intro @cF.{0} (And.intro @put.eq_1 (And.intro @app.eq_1 (And.intro @cf.eq_1 (And.intro @cf.eq_2 (And.intro @hS.eq_1 (And.intro @cJ.eq_1 (And.intro @cJ.eq_2 (And.intro @bc.eq_1 (And.intro @bc.eq_2 (And.intro @lkp.eq_1 @lkp.eq_2))))))))))))) :=
  And.intro @zE (And.intro @cK.{0} (And.intro @cF.{0} (And.intro @put.eq_1 (And.intro @app.eq_1 (And.intro @cf.eq_1 (And.intro @cf.eq_2 (And.intro @hS.eq_1 (And.intro @cJ.eq_1 (And.intro @cJ.eq_2 (And.intro @bc.eq_1 (And.intro @bc.eq_2 (And.intro @lkp.eq_1 @lkp.eq_2))))))))))))
theorem zF : type_of% (And.intro @aJ.{0,0} (And.intro @bz.{0,0} (And.intro @fzV.eq_1 (And.intro @fzV.eq_2 (And.intro @fz1.eq_1 (And.intro @fz1.eq_2 (And.intro @fz1.eq_3 (And.intro @fzC.eq_1 (And.intro @fzC.eq_2 (And.intro @fzC.eq_3 (And.intro @fzC.eq_4 (And.intro @fzC.eq_5 @fzC.eq_6)))))))))))) :=
  And.intro @aJ.{0,0} (And.intro @bz.{0,0} (And.intro @fzV.eq_1 (And.intro @fzV.eq_2 (And.intro @fz1.eq_1 (And.intro @fz1.eq_2 (And.intro @fz1.eq_3 (And.intro @fzC.eq_1 (And.intro @fzC.eq_2 (And.intro @fzC.eq_3 (And.intro @fzC.eq_4 (And.intro @fzC.eq_5 @fzC.eq_6)))))))))))
theorem kp {C : Ctx} {Q : Go.Exit → St → Prop} {c : Go.Code} {e0 e : Env} {L0 : List AO} (ks : List Nat) (h : AWP C c Q { env := e, L := L0 }) (he : cJ e0 ks = e := by (simp only [zP, aa, V]; exact rfl)) : AWP C c Q { env := e0, L := L0 } := dh ks (by rw [he]; exact h)
theorem cd {C : Ctx} {Q : Go.Exit → St → Prop} {c : Operand} {x y : Go.Code} {b : Bool} {e0 : Env} {L0 : List AO} (ht : b = true → AWP C x Q { env := e0, L := L0 }) (hf : b = false → AWP C y Q { env := e0, L := L0 }) (hc : ev e0 c = .one (.bool b) := by (simp only [ev, zP, aa, V]; exact rfl)) : AWP C (.cond c x y) Q { env := e0, L := L0 } := yB hc ht hf
theorem nr {e : Go.Exit} (h : e = .normal ∨ e = .ret := by first | exact .inl rfl | exact .inr rfl) : e = .normal ∨ e = .ret := h
/-plain-/
theorem rW {l : List Int} {t x : Int} : x ∈ cp l t ↔ x ∈ l ∨ x = t := by
  unfold cp
  split
  · rename_i h
    constructor
    · exact .inl
    · rintro (h1 | rfl)
      · exact h1
      · exact h
  · simp
theorem gM {r : List Int} : ∀ {l : List Int} {x : Int}, x ∈ r.foldl cp l ↔ x ∈ l ∨ x ∈ r := by
  induction r with
  | nil => intro l x; simp
  | cons t r ih => intro l x; simp only [List.foldl_cons, ih, rW, List.mem_cons]; exact or_assoc
theorem nB (l : List Int) (t : Int) : ∃ k, cp l t = l ++ k := by
  unfold cp
  split
  · exact ⟨[], by simp⟩
  · exact ⟨[t], rfl⟩
theorem qS (r : List Int) : ∀ l : List Int, ∃ k, r.foldl cp l = l ++ k := by
  induction r with
  | nil => intro l; exact ⟨[], by simp⟩
  | cons t r ih =>
    intro l
    obtain ⟨k1, h1⟩ := nB l t
    obtain ⟨k2, h2⟩ := ih (cp l t)
    exact ⟨k1 ++ k2, by simp only [List.foldl_cons]; rw [h2, h1, List.append_assoc]⟩
theorem kP (m : Mly) : ∀ (f i : Nat) (l : List Int), ∃ k, m.rf f i l = l ++ k
  | 0, i, l => ⟨[], by simp [Mly.rf]⟩
  | f + 1, i, l => by
    simp only [Mly.rf]
    split
    · obtain ⟨k1, h1⟩ := qS (m.row (l.getD i 0)) l
      obtain ⟨k2, h2⟩ := kP m f (i + 1) ((m.row (l.getD i 0)).foldl cp l)
      exact ⟨k1 ++ k2, by rw [h2, h1, List.append_assoc]⟩
    · exact ⟨[], by simp⟩
theorem sB {l k : List Int} {i : Nat} (h : i < l.length) : (l ++ k).getD i 0 = l.getD i 0 := by
  simp [List.getD, List.getElem?_append_left h]

theorem qZ {m : Mly} (hm : MOK m) : ∀ (f i : Nat) (l : List Int), RSet m.nx.length l → m.nx.length ≤ f + i → (∀ j, j < i → j < l.length → ∀ x, x ∈ m.row (l.getD j 0) → x ∈ l) →
    ∀ j, j < (m.rf f i l).length → ∀ x, x ∈ m.row ((m.rf f i l).getD j 0) → x ∈ m.rf f i l
  | 0, i, l, hl, hf, hc => by
    have := hl.len
    intro j hj
    simp only [Mly.rf] at *
    exact hc j (by omega) hj
  | f + 1, i, l, hl, hf, hc => by
    simp only [Mly.rf]
    split
    · rename_i hi
      have hr := hl.at_ hi
      refine qZ hm f (i + 1) _ (hl.fold (gV hm hr.1 hr.2)) (by omega) fun j hj hjl x hx => ?_
      obtain ⟨k, hk⟩ := qS (m.row (l.getD i 0)) l
      rw [gM]
      by_cases e : j = i
      · subst e
        rw [hk, sB hi] at hx
        exact .inr hx
      · have hjl2 : j < l.length := by omega
        rw [hk, sB hjl2] at hx
        exact .inl (hc j (by omega) hjl2 x hx)
    · rename_i hi
      intro j hj
      exact hc j (by omega) hj
theorem fQ {m : Mly} (hm : MOK m) {s : Int} (hs : s ∈ m.reach) {x : Int} (hx : x ∈ m.row s) : x ∈ m.reach := by
  rw [eh (dv hm)] at hs ⊢
  obtain ⟨j, hj⟩ := List.getElem?_of_mem hs
  have hjl := (List.getElem?_eq_some_iff.1 hj).1
  have e : (m.rf (m.nx.length + 1) 0 [m.st]).getD j 0 = s := by simp [List.getD, hj]
  exact qZ hm _ _ _ (ip hm) (by omega) (fun j hj => by omega) j hjl x (by rw [e]; exact hx)
theorem jn {m : Mly} (hm : MOK m) : ∃ k, m.reach = m.st :: k := by
  rw [eh (dv hm)]
  obtain ⟨k, hk⟩ := kP m (m.nx.length + 1) 0 [m.st]
  exact ⟨k, by rw [hk]; rfl⟩

theorem qv {m : Mly} (hm : MOK m) : ∀ (f i : Nat) (l : List Int), RSet m.nx.length l → m.nx.length ≤ f + i → ∀ g, f ≤ g → m.rf g i l = m.rf f i l
  | 0, i, l, hl, hf, g, hg => by
    have := hl.len
    rw [fT m g i l (by omega), fT m 0 i l (by omega)]
  | f + 1, i, l, hl, hf, g, hg => by
    obtain ⟨g, rfl⟩ : ∃ g', g = g' + 1 := ⟨g - 1, by omega⟩
    simp only [Mly.rf]
    split
    · rename_i hi
      have hr := hl.at_ hi
      exact qv hm f (i + 1) _ (hl.fold (gV hm hr.1 hr.2)) (by omega) g (by omega)
    · rfl

theorem pr {xs : List Int} {i : Nat} (h : i < xs.length) (v : Int) : (xs.set i v).getD i 0 = v := by simp [List.getD, h]
theorem tN {xs : List Int} {i j : Nat} (h : i ≠ j) (v : Int) : (xs.set i v).getD j 0 = xs.getD j 0 := by simp [List.getD, List.getElem?_set_ne h]
theorem gT {l : List Int} (h : l.Nodup) {i j : Nat} (hi : i < l.length) (hj : j < l.length) (e : l.getD i 0 = l.getD j 0) : i = j := by
  simp [List.getD, hi, hj] at e
  exact (List.getElem_inj h).1 e
theorem uM {n : Nat} {l : List Int} (h : RSet n l) : ∀ k, k ≤ l.length → ∀ i, i < k → (nT n l k).getD (l.getD i 0).toNat 0 = i
  | 0, _, i, hi => by omega
  | k + 1, hk, i, hi => by
    simp only [nT]
    have hk1 := h.at_ (i := k) (by omega)
    by_cases e : i = k
    · subst e
      exact pr (by rw [kZ]; omega) _
    · have hi1 := h.at_ (i := i) (by omega)
      rw [tN]
      · exact uM h k (by omega) i (by omega)
      · intro e2
        have := gT h.nd (i := k) (j := i) (by omega) (by omega) (by omega)
        omega
def Mly.ix (m : Mly) (s : Int) : Int := m.num.getD s.toNat 0
theorem nD {m : Mly} (hm : MOK m) {i : Nat} (hi : i < m.reach.length) : m.ix (m.reach.getD i 0) = i := uM (gk hm) _ (Nat.le_refl _) i hi
theorem fW {l : List Int} {s : Int} (h : s ∈ l) : ∃ i, i < l.length ∧ l.getD i 0 = s := by
  obtain ⟨i, hi⟩ := List.getElem?_of_mem h
  exact ⟨i, (List.getElem?_eq_some_iff.1 hi).1, by simp [List.getD, hi]⟩
theorem ma {m : Mly} (hm : MOK m) {s : Int} (hs : s ∈ m.reach) : 0 ≤ m.ix s ∧ m.ix s < m.reach.length := by
  obtain ⟨i, hi, rfl⟩ := fW hs
  rw [nD hm hi]; omega
theorem qB {m : Mly} (hm : MOK m) {s : Int} (hs : s ∈ m.reach) : m.reach.getD (m.ix s).toNat 0 = s := by
  obtain ⟨i, hi, rfl⟩ := fW hs
  rw [nD hm hi]; simp
theorem xQ {m : Mly} (hm : MOK m) {s t : Int} (hs : s ∈ m.reach) (ht : t ∈ m.reach) (e : m.ix s = m.ix t) : s = t := by
  rw [← qB hm hs, ← qB hm ht, e]
theorem BE {m : Mly} (hm : MOK m) : m.reach.map m.ix = (List.range m.reach.length).map (fun (i : Nat) => (i : Int)) := by
  apply List.ext_getElem
  · simp
  · intro i h1 h2
    simp only [aw] at h1
    have := nD hm h1
    simp [List.getD, h1] at this
    simp [this]

def Mly.T (m : Mly) : Mly := ⟨m.inp, 0, m.tnx, m.tot⟩
theorem tz (m : Mly) : m.T.nx.length = m.reach.length := by simp [Mly.T, Mly.tnx]
theorem qe {m : Mly} (hm : MOK m) : 1 ≤ m.reach.length := by
  obtain ⟨k, hk⟩ := jn hm
  rw [hk]; simp
theorem fg {α β : Type} (f : α → β) {l : List α} {i : Nat} (d : α) (e : β) (h : i < l.length) : (l.map f).getD i e = f (l.getD i d) := by simp [List.getD, h]
theorem tF {m : Mly} {i : Nat} (hi : i < m.reach.length) : m.T.nx.getD i [] = (m.row (m.reach.getD i 0)).map m.ix := by
  show m.tnx.getD i [] = _
  unfold Mly.tnx
  rw [fg _ 0 _ hi]; rfl
theorem wE {m : Mly} {i : Nat} (hi : i < m.reach.length) : m.T.ot.getD i [] = m.ot.getD (m.reach.getD i 0).toNat [] := by
  show m.tot.getD i [] = _
  unfold Mly.tot
  rw [fg _ 0 _ hi]
theorem rG {m : Mly} (hm : MOK m) : MOK m.T := by
  have hR := gk hm
  have hl := hR.len
  have hp := qe hm
  have hT := tz m
  have hn2 := hm.n2
  have htl : m.T.ot.length = m.reach.length := by simp [Mly.T, Mly.tot]
  refine ⟨hm.i1, hm.i2, by omega, by omega, Int.le_refl 0, by show (0 : Int) < _; omega, by omega, fun s hs => ?_, fun s hs => ?_, fun s a hs ha => ?_, fun s a hs ha => ?_⟩
  · rw [tF (by omega)]
    have := hR.at_ (i := s) (by omega)
    have h1 := hm.rl (m.reach.getD s 0).toNat (by omega)
    rw [aw]; exact h1
  · rw [wE (by omega)]
    have := hR.at_ (i := s) (by omega)
    exact hm.ql (m.reach.getD s 0).toNat (by omega)
  · have h0 := hR.at_ (i := s) (by omega)
    have h1 : ((m.row (m.reach.getD s 0)).length : Int) = m.inp := hm.rl (m.reach.getD s 0).toNat (by omega)
    have ha' : (a : Int) < m.inp := ha
    rw [tF (by omega), fg m.ix 0 0 (by omega)]
    have hmem := fQ hm (s := m.reach.getD s 0) (br (by omega)) (x := (m.row (m.reach.getD s 0)).getD a 0) (br (by omega))
    have := ma hm hmem
    omega
  · rw [wE (by omega)]
    have := hR.at_ (i := s) (by omega)
    exact hm.or (m.reach.getD s 0).toNat a (by omega) ha
theorem qf {f : Int → Int} {R : List Int} (hf : ∀ x y, x ∈ R → y ∈ R → f x = f y → x = y) : ∀ (r l : List Int), (∀ x, x ∈ r → x ∈ R) → (∀ x, x ∈ l → x ∈ R) → (r.map f).foldl cp (l.map f) = (r.foldl cp l).map f
  | [], l, _, _ => rfl
  | t :: r, l, hr, hl => by
    simp only [aJ, List.foldl_cons]
    have ht := hr t (by simp)
    have e : cp (l.map f) (f t) = (cp l t).map f := by
      by_cases h : t ∈ l
      · rw [gA h, gA (List.mem_map.2 ⟨t, h, rfl⟩)]
      · rw [fe h, fe, List.map_append]
        · rfl
        · intro hh
          obtain ⟨x, hx, e⟩ := List.mem_map.1 hh
          exact h (hf x t (hl x hx) ht e ▸ hx)
    rw [e]
    exact qf hf r (cp l t) (fun x hx => hr x (by simp [hx])) (fun x hx => by
      rcases rW.1 hx with h | rfl
      · exact hl x h
      · exact ht)
theorem x7 {m : Mly} (hm : MOK m) : ∀ (f i : Nat) (l : List Int), (∀ x, x ∈ l → x ∈ m.reach) → m.T.rf f i (l.map m.ix) = (m.rf f i l).map m.ix
  | 0, i, l, _ => rfl
  | f + 1, i, l, hl => by
    simp only [Mly.rf, aw]
    split
    · rename_i hi
      have hx := hl (l.getD i 0) (br hi)
      have e : m.T.row ((l.map m.ix).getD i 0) = (m.row (l.getD i 0)).map m.ix := by
        rw [fg m.ix 0 0 hi]
        have h1 := ma hm hx
        show m.T.nx.getD (m.ix (l.getD i 0)).toNat [] = _
        rw [tF (by omega), qB hm hx]
      rw [e, qf (R := m.reach) (fun x y hx hy e => xQ hm hx hy e) _ _ (fun x hx' => fQ hm hx hx') hl]
      exact x7 hm f (i + 1) _ (fun x hx' => by
        rcases gM.1 hx' with h | h
        · exact hl x h
        · exact fQ hm hx h)
    · rfl
theorem AM {m : Mly} (hm : MOK m) : m.ix m.st = 0 := by
  obtain ⟨k, hk⟩ := jn hm
  have := nD hm (i := 0) (qe hm)
  rw [hk] at this
  exact this
theorem zU {m : Mly} (hm : MOK m) : m.T.reach = (List.range m.reach.length).map (fun (i : Nat) => (i : Int)) := by
  rw [eh (dv (rG hm)), ← BE hm, tz]
  have e : ([m.T.st] : List Int) = [m.st].map m.ix := by simp [Mly.T, AM hm]
  rw [e, x7 hm _ _ _ (fun x hx => by
    obtain ⟨k, hk⟩ := jn hm
    simp at hx; subst hx; rw [hk]; simp)]
  congr 1
  rw [eh (dv hm)]
  have hl := (gk hm).len
  have h1 := (rG hm)
  -- both have enough fuel
  rw [← eh (dv hm)]
  have key : ∀ (f i : Nat) (l : List Int), (∀ x, x ∈ m.rf f i l → x ∈ m.reach) → RSet m.nx.length l → m.nx.length ≤ f + i → ∀ g, m.reach.length ≤ g + i → m.rf g i l = m.rf f i l := by
    intro f
    induction f with
    | zero =>
      intro i l _ hl hf g hg
      have := hl.len
      rw [fT m g i l (by omega), fT m 0 i l (by omega)]
    | succ f ih =>
      intro i l hsub hl hf g hg
      by_cases hi : i < l.length
      · cases g with
        | zero =>
          -- i < l.length ≤ reach.length ≤ i
          exfalso
          obtain ⟨k, hk⟩ := kP m (f + 1) i l
          have h2 : l.length ≤ m.reach.length := by
            have hnd : l.Nodup := hl.nd
            have hsub2 : ∀ x, x ∈ l → x ∈ m.reach := fun x hx => hsub x (by rw [hk]; simp [hx])
            exact eM l m.reach hnd hsub2
          omega
        | succ g =>
          rw [gW m g i l hi, gW m f i l hi]
          have hr := hl.at_ hi
          refine ih (i + 1) _ (fun x hx => hsub x (by rw [gW m f i l hi]; exact hx)) (hl.fold (gV hm hr.1 hr.2)) (by omega) g (by omega)
      · rw [fT m g i l (by omega), fT m (f + 1) i l (by omega)]
  rw [key (m.nx.length + 1) 0 [m.st] (fun x hx => by rw [eh (dv hm)]; exact hx) (ip hm) (by omega) (m.reach.length + 1) (by omega)]
  exact (eh (dv hm)).symm
theorem x3 {m : Mly} (h : aL m = 0) : m.trim = m.T := pw h

theorem um {m : Mly} (hm : MOK m) {s : Int} (hs : s ∈ m.reach) : ∀ (w : List Int), (∀ i : Nat, i < w.length → 0 ≤ w.getD i 0 ∧ w.getD i 0 < m.inp) →
    (m.go s w).1 ∈ m.reach ∧ (m.T.go (m.ix s) w).1 = m.ix (m.go s w).1 ∧ (m.T.go (m.ix s) w).2 = (m.go s w).2 := by
  intro w hw
  have key : ∀ k, k ≤ w.length → (m.go s (w.take k)).1 ∈ m.reach ∧ (m.T.go (m.ix s) (w.take k)).1 = m.ix (m.go s (w.take k)).1 ∧ (m.T.go (m.ix s) (w.take k)).2 = (m.go s (w.take k)).2 := by
    intro k
    induction k with
    | zero => intro _; exact ⟨by simpa [tn] using hs, rfl, rfl⟩
    | succ k ih =>
      intro hk
      obtain ⟨h1, h2, h3⟩ := ih (by omega)
      have ha := hw k (by omega)
      rw [mr m s (by omega), mr m.T _ (by omega), h2, h3]
      have hx := ma hm h1
      have hR := (gk hm).rng _ h1
      have hrl : ((m.row (m.go s (w.take k)).1).length : Int) = m.inp := hm.rl _ (by omega)
      have e1 : m.T.nxt (m.ix (m.go s (w.take k)).1) (w.getD k 0) = m.ix (m.nxt (m.go s (w.take k)).1 (w.getD k 0)) := by
        show (m.T.nx.getD _ []).getD _ 0 = _
        rw [tF (by omega), qB hm h1, fg m.ix 0 0 (by omega)]; rfl
      have e2 : m.T.out (m.ix (m.go s (w.take k)).1) (w.getD k 0) = m.out (m.go s (w.take k)).1 (w.getD k 0) := by
        show (m.T.ot.getD _ []).getD _ 0 = _
        rw [wE (by omega), qB hm h1]; rfl
      refine ⟨fQ hm h1 (br (by omega)), e1, ?_⟩
      show _ ++ [_] = _ ++ [_]
      rw [e2]
  have := key w.length (Nat.le_refl _)
  rwa [aO] at this
/-plain-/
theorem oo : ∀ {xs ys : List Int}, xs.Pairwise (· < ·) → ys.Pairwise (· < ·) → (∀ x, x ∈ xs ↔ x ∈ ys) → xs = ys
  | [], [], _, _, _ => rfl
  | [], y :: ys, _, _, h => by have := (h y).2 (by simp); simp at this
  | x :: xs, [], _, _, h => by have := (h x).1 (by simp); simp at this
  | x :: xs, y :: ys, hx, hy, h => by
    rw [List.pairwise_cons] at hx hy
    have e : x = y := by
      have h1 := (h x).1 (by simp)
      have h2 := (h y).2 (by simp)
      rw [List.mem_cons] at h1 h2
      rcases h1 with h1 | h1
      · exact h1
      · rcases h2 with h2 | h2
        · exact h2.symm
        · have a := hx.1 y h2; have b := hy.1 x h1; omega
    subst e
    rw [oo hx.2 hy.2 fun z => ?_]
    constructor
    · intro hz
      have := (h z).1 (aM _ hz)
      rw [List.mem_cons] at this
      rcases this with e | h3
      · have := hx.1 z hz; omega
      · exact h3
    · intro hz
      have := (h z).2 (aM _ hz)
      rw [List.mem_cons] at this
      rcases this with e | h3
      · have := hy.1 z hz; omega
      · exact h3
theorem kO (xs : List Int) (j : Nat) : xs.toArray[j]! = xs.getD j 0 := by
  by_cases h : j < xs.length
  · rw [getElem!_pos _ _ (by simpa using h)]; simp [List.getD, h]
  · rw [getElem!_neg _ _ (by simpa using h)]; simp [List.getD, h]
theorem vo (xs : List Int) (hs : ∀ i j, i ≤ j → j < xs.length → xs.getD i 0 ≤ xs.getD j 0) : ∀ m, m ≤ xs.length →
    (Lib.compactUpTo xs.toArray m).Pairwise (· < ·) ∧ ∀ x, x ∈ Lib.compactUpTo xs.toArray m ↔ ∃ j, j < m ∧ xs.getD j 0 = x
  | 0, _ => by simp [Lib.compactUpTo]
  | m + 1, hm => by
    obtain ⟨h1, h2⟩ := vo xs hs m (by omega)
    rw [Lib.compactUpTo_succ]
    cases hk : Lib.keeps xs.toArray m with
    | true =>
      simp only [if_true]
      have hb : m = 0 ∨ xs.getD m 0 ≠ xs.getD (m - 1) 0 := by
        have := of_decide_eq_true hk
        rwa [kO, kO] at this
      refine ⟨?_, fun x => ?_⟩
      · rw [List.pairwise_append]
        refine ⟨h1, by simp, fun a ha b hb2 => ?_⟩
        obtain ⟨j, hj, e⟩ := (h2 a).1 ha
        rw [List.mem_singleton, kO] at hb2
        rw [hb2, ← e]
        have q1 := hs j (m - 1) (by omega) (by omega)
        have q2 := hs (m - 1) m (by omega) (by omega)
        omega
      · rw [List.mem_append, h2, List.mem_singleton, kO]
        constructor
        · rintro (⟨j, hj, e⟩ | e)
          · exact ⟨j, by omega, e⟩
          · exact ⟨m, by omega, e.symm⟩
        · rintro ⟨j, hj, e⟩
          by_cases hjm : j = m
          · exact .inr (by rw [← e, hjm])
          · exact .inl ⟨j, by omega, e⟩
    | false =>
      simp only [Bool.false_eq_true, if_false, List.append_nil]
      have hb : m ≠ 0 ∧ xs.getD m 0 = xs.getD (m - 1) 0 := by
        have := of_decide_eq_false hk
        rw [kO, kO] at this
        refine ⟨fun e => this (.inl e), ?_⟩
        false_or_by_contra
        rename_i hh
        exact this (.inr hh)
      refine ⟨h1, fun x => ?_⟩
      rw [h2]
      constructor
      · rintro ⟨j, hj, e⟩; exact ⟨j, by omega, e⟩
      · rintro ⟨j, hj, e⟩
        by_cases hjm : j = m
        · exact ⟨m - 1, by omega, by rw [← e, hjm, hb.2]⟩
        · exact ⟨j, by omega, e⟩
theorem nQ {xs : List Int} {x : Int} : x ∈ xs ↔ ∃ j, j < xs.length ∧ xs.getD j 0 = x := by
  constructor
  · intro h
    obtain ⟨j, hj⟩ := List.getElem?_of_mem h
    exact ⟨j, (List.getElem?_eq_some_iff.1 hj).1, by simp [List.getD, hj]⟩
  · rintro ⟨j, hj, e⟩; rw [← e]; exact br hj
def i9 (xs : List Int) : List Int := xs.mergeSort fun x y => decide (x ≤ y)
theorem xY (xs : List Int) : ∀ i j, i ≤ j → j < (i9 xs).length → (i9 xs).getD i 0 ≤ (i9 xs).getD j 0 := by
  intro i j hij hj
  by_cases e : i = j
  · rw [e]; omega
  · have hp : (i9 xs).Pairwise (fun x y => decide (x ≤ y) = true) := List.pairwise_mergeSort (le := fun x y => decide (x ≤ y)) (fun a b c h1 h2 => by simp at *; omega) (fun a b => by simp; omega) xs
    have := List.pairwise_iff_getElem.1 hp i j (by omega) hj (by omega)
    simp [List.getD, hj, show i < (i9 xs).length by omega]
    simpa using this
theorem wq {xs : List Int} {x : Int} : x ∈ i9 xs ↔ x ∈ xs := List.mem_mergeSort
theorem iG (xs : List Int) : (i9 xs).length = xs.length := List.length_mergeSort _
def aG (xs : List Int) : List Int := Lib.compact (i9 xs)
theorem dC (xs : List Int) : (aG xs).Pairwise (· < ·) ∧ ∀ x, x ∈ aG xs ↔ x ∈ xs := by
  obtain ⟨h1, h2⟩ := vo (i9 xs) (xY xs) _ (Nat.le_refl _)
  refine ⟨h1, fun x => ?_⟩
  rw [aG, Lib.compact, h2, ← nQ, wq]
theorem jt {xs : List Int} : (Lib.compact xs).length ≤ xs.length := by
  unfold Lib.compact Lib.compactUpTo
  rw [aw]
  exact Nat.le_trans (List.length_filter_le _ _) (by simp)
theorem iq (xs : List Int) : (aG xs).length ≤ xs.length := by rw [← iG xs]; exact jt
def o5 (l : List Int) (n : Int) : List Int := if n ∈ l then l else l.filter (fun x => decide (x < n)) ++ n :: l.filter (fun x => decide (n < x))
theorem yc {l : List Int} {n x : Int} : x ∈ o5 l n ↔ x ∈ l ∨ x = n := by
  unfold o5
  split
  · rename_i h
    constructor
    · exact .inl
    · rintro (h1 | h1)
      · exact h1
      · rw [h1]; exact h
  · simp only [List.mem_append, List.mem_filter, List.mem_cons, decide_eq_true_eq]
    constructor
    · rintro (h1 | h1 | h1)
      · exact .inl h1.1
      · exact .inr h1
      · exact .inl h1.1
    · rintro (h1 | h1)
      · by_cases e : x = n
        · exact .inr (.inl e)
        · by_cases e2 : x < n
          · exact .inl ⟨h1, e2⟩
          · exact .inr (.inr ⟨h1, by omega⟩)
      · exact .inr (.inl h1)
theorem tk {l : List Int} {n : Int} (h : l.Pairwise (· < ·)) : (o5 l n).Pairwise (· < ·) := by
  unfold o5
  split
  · exact h
  · rw [List.pairwise_append]
    refine ⟨h.filter _, ?_, fun a ha b hb => ?_⟩
    · rw [List.pairwise_cons]
      refine ⟨fun a ha => by simpa using (List.mem_filter.1 ha).2, h.filter _⟩
    · have h1 : a < n := by simpa using (List.mem_filter.1 ha).2
      rw [List.mem_cons] at hb
      rcases hb with hb | hb
      · omega
      · have : n < b := by simpa using (List.mem_filter.1 hb).2
        omega
theorem tp (r : List Int) : ∀ {l : List Int}, l.Pairwise (· < ·) → (r.foldl o5 l).Pairwise (· < ·) := by
  induction r with
  | nil => intro l h; exact h
  | cons a r ih => intro l h; exact ih (tk h)
theorem xZ (r : List Int) : ∀ {l : List Int} {x : Int}, x ∈ r.foldl o5 l ↔ x ∈ l ∨ x ∈ r := by
  induction r with
  | nil => intro l x; simp
  | cons a r ih => intro l x; rw [List.foldl_cons, ih, yc, List.mem_cons, or_assoc]
theorem yR (xs : List Int) : xs.foldl o5 [] = aG xs :=
  oo (tp xs (by simp)) (dC xs).1 fun x => by rw [xZ, (dC xs).2]; simp
theorem oK {l : List Int} (f : Int → Int) {j : Nat} (h : j < l.length) : (l.take (j + 1)).map f = (l.take j).map f ++ [f (l.getD j 0)] := by
  rw [dc h, List.map_append]; rfl
/-plain-/
theorem f0 (n : Int) : inK .u8 n ↔ 0 ≤ n ∧ n ≤ 255 := by
  simp [inK, IntKind.min, IntKind.max, IntKind.signed, IntKind.bits]
def gG (xs : List Int) : List UInt8 := xs.map fun n => UInt8.ofNat n.toNat
def lB (xs : List Int) : Prop := ∀ x ∈ xs, 0 ≤ x ∧ x < 256
theorem rq : ∀ {xs ys : List Int}, lB xs → lB ys → gG xs = gG ys → xs = ys
  | [], [], _, _, _ => rfl
  | [], _ :: _, _, _, h => by cases h
  | _ :: _, [], _, _, h => by cases h
  | x :: xs, y :: ys, hx, hy, h => by
    have hx0 := hx x (aV ..)
    have hy0 := hy y (aV ..)
    simp only [gG, aJ, List.cons.injEq] at h
    have h1 := congrArg UInt8.toNat h.1
    simp only [UInt8.toNat_ofNat'] at h1
    have e : x = y := by omega
    rw [e, rq (fun z hz => hx z (aM _ hz)) (fun z hz => hy z (aM _ hz)) h.2]
def clB (m : Mly) (a s t : Int) : Bool := decide (m.out s a = m.out t a) && decide (m.nxt s a = m.nxt t a)
def unS (m : Mly) (l : List Int) (a : Int) (i : Nat) : Bool := (List.range i).any fun k => (List.range k).any fun j => clB m a (l.getD k 0) (l.getD j 0)
def smO (m : Mly) (l : List Int) (a : Int) (i : Nat) : Bool := (List.range i).all fun k => decide (m.out (l.getD k 0) a = m.out (l.getD 0 0) a)
def cO (m : Mly) (l : List Int) (a : Int) : List Int := l.map fun s => m.nxt s a
def dm (m : Mly) (l : List Int) : Prop := ∀ s ∈ l, 0 ≤ s ∧ s < m.nx.length
theorem BT {m : Mly} {l : List Int} {a : Int} {i : Nat} (h : ∀ k j, k < i → j < k → clB m a (l.getD k 0) (l.getD j 0) = false) : unS m l a i = false := by
  unfold unS
  rw [List.any_eq_false]
  intro k hk
  rw [Bool.not_eq_true, List.any_eq_false]
  intro j hj
  rw [h k j (List.mem_range.1 hk) (List.mem_range.1 hj)]; simp
theorem zz {m : Mly} {l : List Int} {a : Int} {i k j : Nat} (hk : k < i) (hj : j < k) (h : clB m a (l.getD k 0) (l.getD j 0) = true) : unS m l a i = true :=
  List.any_eq_true.2 ⟨k, List.mem_range.2 hk, List.any_eq_true.2 ⟨j, List.mem_range.2 hj, h⟩⟩
theorem yF (m : Mly) (l : List Int) (a : Int) (i : Nat) : smO m l a (i + 1) = (smO m l a i && decide (m.out (l.getD i 0) a = m.out (l.getD 0 0) a)) := by
  unfold smO; rw [List.range_succ, List.all_append]; simp
theorem vT {m : Mly} {l : List Int} {a : Int} {k : Nat} (h : k < l.length) : cO m (l.take (k + 1)) a = cO m (l.take k) a ++ [m.nxt (l.getD k 0) a] := by
  unfold cO; rw [dc h, List.map_append]; rfl
/-plain-/
def Mly.sigP (m : Mly) (cl : List Int) (a s : Nat) : List Int := (List.range 128).map fun i =>
  if i < a then (m.ot.getD s []).getD i 0 else if 64 ≤ i ∧ i < 64 + a then cl.getD ((m.nx.getD s []).getD (i - 64) 0).toNat 0 else 0
def Mly.sig (m : Mly) (cl : List Int) (s : Nat) : List Int := m.sigP cl m.inp.toNat s
def Mly.nextL (m : Mly) (cl : List Int) : List Int := (List.range m.nx.length).map fun s => (pos (dj (m.sig cl) m.nx.length) (m.sig cl s) : Int)
def Mly.nextN (m : Mly) (cl : List Int) : Int := (dj (m.sig cl) m.nx.length).length
def Mly.cls (m : Mly) : Nat → List Int
  | 0 => List.replicate m.nx.length 0
  | i + 1 => m.nextL (m.cls i)
def Mly.cnt (m : Mly) : Nat → Int
  | 0 => 1
  | i + 1 => m.nextN (m.cls i)
def Mly.stopF (m : Mly) : Nat → Nat → Nat
  | 0, i => i
  | f + 1, i => if m.cnt (i + 1) = m.cnt i then i else m.stopF f (i + 1)
def jW (m : Mly) (k : Int) : Nat := (min (max k 0) (m.nx.length : Int)).toNat
def Mly.refC (m : Mly) (k : Int) : List Int := m.cls (m.stopF (jW m k) 0)
def Mly.refK (m : Mly) (k : Int) : Int := m.stopF (jW m k) 0
theorem bS (m : Mly) (cl : List Int) (a s : Nat) : (m.sigP cl a s).length = 128 := by simp [Mly.sigP]
theorem wx (m : Mly) (cl : List Int) (s : Nat) : List.replicate 128 (0 : Int) = m.sigP cl 0 s := by
  apply List.ext_getElem
  · simp [Mly.sigP]
  · intro i h1 h2
    simp only [Mly.sigP, List.getElem_replicate, List.getElem_map, List.getElem_range]
    rw [if_neg (by omega), if_neg (by omega)]
theorem yb (m : Mly) (cl : List Int) {a : Nat} (s : Nat) (h : a < 64) :
    ((m.sigP cl a s).set a ((m.ot.getD s []).getD a 0)).set (64 + a) (cl.getD ((m.nx.getD s []).getD a 0).toNat 0) = m.sigP cl (a + 1) s := by
  apply List.ext_getElem
  · simp [Mly.sigP]
  · intro i h1 h2
    simp only [Mly.sigP, List.getElem_set, List.getElem_map, List.getElem_range]
    by_cases e1 : 64 + a = i
    · subst e1
      rw [if_pos rfl, if_neg (by omega), if_pos (by omega), show 64 + a - 64 = a by omega]
    · rw [if_neg e1]
      by_cases e2 : a = i
      · subst e2; rw [if_pos rfl, if_pos (by omega)]
      · rw [if_neg e2]
        by_cases e3 : i < a
        · rw [if_pos e3, if_pos (by omega)]
        · rw [if_neg e3, if_neg (by omega : ¬ i < a + 1)]
          by_cases e4 : 64 ≤ i ∧ i < 64 + a
          · rw [if_pos e4, if_pos (by omega)]
          · rw [if_neg e4, if_neg (by omega)]
theorem kY {m : Mly} (hm : MOK m) {cl : List Int} {s t : Nat} : m.sig cl s = m.sig cl t ↔
    ∀ a : Nat, (a : Int) < m.inp → (m.ot.getD s []).getD a 0 = (m.ot.getD t []).getD a 0 ∧ cl.getD ((m.nx.getD s []).getD a 0).toNat 0 = cl.getD ((m.nx.getD t []).getD a 0).toNat 0 := by
  have h2 := hm.i2
  unfold Mly.sig Mly.sigP
  constructor
  · intro h a ha
    have h1 := congrArg (fun l => l.getD a 0) h
    have h3 := congrArg (fun l => l.getD (64 + a) 0) h
    have e1 : a < 128 := by omega
    have e2 : 64 + a < 128 := by omega
    simp only [pj _ _ e1] at h1
    simp only [pj _ _ e2] at h3
    rw [if_pos (by omega), if_pos (by omega)] at h1
    rw [if_neg (show ¬ (64 + a < m.inp.toNat) by omega), if_neg (show ¬ (64 + a < m.inp.toNat) by omega), if_pos (show 64 ≤ 64 + a ∧ 64 + a < 64 + m.inp.toNat by omega), if_pos (show 64 ≤ 64 + a ∧ 64 + a < 64 + m.inp.toNat by omega), show 64 + a - 64 = a by omega] at h3
    exact ⟨h1, h3⟩
  · intro h
    refine List.map_congr_left fun i hi => ?_
    by_cases e1 : i < m.inp.toNat
    · rw [if_pos e1, if_pos e1]; exact (h i (by omega)).1
    · rw [if_neg e1, if_neg e1]
      by_cases e2 : 64 ≤ i ∧ i < 64 + m.inp.toNat
      · rw [if_pos e2, if_pos e2]; exact (h (i - 64) (by omega)).2
      · rw [if_neg e2, if_neg e2]
theorem qs (m : Mly) (cl : List Int) : (m.nextL cl).length = m.nx.length := by simp [Mly.nextL]
theorem kB (m : Mly) : ∀ i, (m.cls i).length = m.nx.length
  | 0 => by simp [Mly.cls]
  | i + 1 => qs _ _
theorem jb {m : Mly} {cl : List Int} {s : Nat} (h : s < m.nx.length) : (m.nextL cl).getD s 0 = (pos (dj (m.sig cl) m.nx.length) (m.sig cl s) : Int) := by
  simp [Mly.nextL, List.getD, h]
theorem jx {m : Mly} {cl : List Int} {s : Nat} (h : s < m.nx.length) : 0 ≤ (m.nextL cl).getD s 0 ∧ (m.nextL cl).getD s 0 < m.nx.length := by
  rw [jb h]
  have h1 := gS (gl (f := m.sig cl) (k := m.nx.length).2 ⟨s, h, rfl⟩)
  have h2 := m4 (m.sig cl) m.nx.length
  omega
theorem gP {m : Mly} {cl : List Int} {s t : Nat} (hs : s < m.nx.length) (ht : t < m.nx.length) : (m.nextL cl).getD s 0 = (m.nextL cl).getD t 0 ↔ m.sig cl s = m.sig cl t := by
  rw [jb hs, jb ht]
  constructor
  · intro h
    exact Ar (gl.2 ⟨s, hs, rfl⟩) (gl.2 ⟨t, ht, rfl⟩) (by omega)
  · intro h; rw [h]
theorem pu {m : Mly} (hm : MOK m) : ∀ i s, s < m.nx.length → 0 ≤ (m.cls i).getD s 0 ∧ (m.cls i).getD s 0 < m.nx.length
  | 0, s, h => by
    have : (m.cls 0).getD s 0 = 0 := by simp [Mly.cls, List.getD, h]
    rw [this]; have := hm.n1; omega
  | i + 1, s, h => jx h
theorem jf {m : Mly} (hm : MOK m) : ∀ i s t, s < m.nx.length → t < m.nx.length → (m.cls (i + 1)).getD s 0 = (m.cls (i + 1)).getD t 0 → (m.cls i).getD s 0 = (m.cls i).getD t 0
  | 0, s, t, hs, ht, _ => by simp [Mly.cls, List.getD, hs, ht]
  | i + 1, s, t, hs, ht, h => by
    have h1 := (gP (cl := m.cls (i + 1)) hs ht).1 h
    rw [kY hm] at h1
    refine (gP hs ht).2 ((kY hm).2 fun a ha => ⟨(h1 a ha).1, ?_⟩)
    have n1 := hm.nr s a hs ha
    have n2 := hm.nr t a ht ha
    exact jf hm i _ _ (by omega) (by omega) (h1 a ha).2

def du (f : Nat → Int) (n : Nat) : List Nat := (List.range n).filter fun s => decide (∀ t, t < s → f t ≠ f s)
theorem mU {α : Type} [DecidableEq α] (g : Nat → α) (f : Nat → Int) : ∀ n, (∀ s t, s < n → t < n → (f s = f t ↔ g s = g t)) → (dj g n).length = (du f n).length
  | 0, _ => rfl
  | n + 1, h => by
    have ih := mU g f n fun s t hs ht => h s t (by omega) (by omega)
    rw [dO]
    unfold du
    rw [List.range_succ, List.filter_append, ar]
    have e0 : (du f n).length = ((List.range n).filter fun s => decide (∀ t, t < s → f t ≠ f s)).length := rfl
    rw [← e0, ← ih]
    by_cases hm : g n ∈ dj g n
    · rw [gB hm]
      obtain ⟨i, hi, e⟩ := gl.1 hm
      have : ¬ (∀ t, t < n → f t ≠ f n) := fun hh => hh i hi ((h i n (by omega) (by omega)).2 e)
      simp [this]
    · rw [fG hm]
      have : ∀ t, t < n → f t ≠ f n := fun t ht e => hm (gl.2 ⟨t, ht, (h t n (by omega) (by omega)).1 e⟩)
      rw [List.filter_cons, if_pos (by simpa using this)]
      simp
theorem i7 {m : Mly} (hm : MOK m) : ∀ i, m.cnt i = ((du (fun s => (m.cls i).getD s 0) m.nx.length).length : Int)
  | 0 => by
    have h1 := hm.n1
    have : du (fun s => (m.cls 0).getD s 0) m.nx.length = [0] := by
      obtain ⟨n, hn⟩ : ∃ n, m.nx.length = n + 1 := ⟨m.nx.length - 1, by omega⟩
      unfold du
      rw [hn, List.range_succ_eq_map, List.filter_cons]
      have hz : ∀ s, s < n + 1 → (m.cls 0).getD s 0 = 0 := fun s hs => by simp [Mly.cls, List.getD, hn, hs]
      rw [if_pos (by simp)]
      have : (List.map Nat.succ (List.range n)).filter (fun s => decide (∀ t, t < s → (m.cls 0).getD t 0 ≠ (m.cls 0).getD s 0)) = [] := by
        rw [List.filter_eq_nil_iff]
        intro s hs
        obtain ⟨k, hk, rfl⟩ := List.mem_map.1 hs
        simp only [decide_eq_true_eq]
        intro hh
        have hk' : k < n := by simpa using hk
        exact hh 0 (by omega) (by rw [hz 0 (by omega), hz (k + 1) (by omega)])
      rw [this]
    rw [this]; rfl
  | i + 1 => by
    show ((dj (m.sig (m.cls i)) m.nx.length).length : Int) = _
    rw [mU (m.sig (m.cls i)) (fun s => (m.cls (i + 1)).getD s 0)]
    intro s t hs ht
    exact gP hs ht
theorem lr (f : Nat → Int) (n : Nat) : (du f n).Nodup := List.Pairwise.filter _ List.nodup_range
theorem od {f g : Nat → Int} {n : Nat} (h : ∀ s t, s < n → t < n → g s = g t → f s = f t) : ∀ x, x ∈ du f n → x ∈ du g n := by
  intro x hx
  simp only [du, List.mem_filter, List.mem_range, decide_eq_true_eq] at hx ⊢
  exact ⟨hx.1, fun t ht e => hx.2 t ht (h t x (by omega) hx.1 e)⟩
theorem pF (f : Nat → Int) (n : Nat) : ∀ s, s < n → ∃ r, r ∈ du f n ∧ f r = f s := by
  intro s
  induction s using Nat.strongRecOn with
  | _ s ih =>
    intro hs
    by_cases h : ∀ t, t < s → f t ≠ f s
    · exact ⟨s, by simp only [du, List.mem_filter, List.mem_range, decide_eq_true_eq]; exact ⟨hs, h⟩, rfl⟩
    · obtain ⟨t, ht⟩ := Classical.not_forall.1 h
      rw [Classical.not_imp, Classical.not_not] at ht
      obtain ⟨r, hr, e⟩ := ih t ht.1 (by omega)
      exact ⟨r, hr, e.trans ht.2⟩
theorem vr {f g : Nat → Int} {n : Nat} (h : ∀ s t, s < n → t < n → g s = g t → f s = f t) (hc : (du g n).length = (du f n).length) : ∀ s t, s < n → t < n → f s = f t → g s = g t := by
  intro s t hs ht e
  have hback : ∀ x, x ∈ du g n → x ∈ du f n := by
    intro x hx
    by_cases hm : x ∈ du f n
    · exact hm
    · exfalso
      have := eM (x :: du f n) (du g n) (List.nodup_cons.2 ⟨hm, lr f n⟩) (fun y hy => by
        rcases List.mem_cons.1 hy with rfl | hy
        · exact hx
        · exact od h y hy)
      simp only [ax] at this
      omega
  obtain ⟨r, hr, e1⟩ := pF g n s hs
  obtain ⟨q, hq, e2⟩ := pF g n t ht
  have hr' := hback r hr
  have hq' := hback q hq
  have hrl : r < n := by simp only [du, List.mem_filter, List.mem_range] at hr; exact hr.1
  have hql : q < n := by simp only [du, List.mem_filter, List.mem_range] at hq; exact hq.1
  have e3 : f r = f q := (h r s hrl hs e1).trans (e.trans (h q t hql ht e2).symm)
  have : r = q := by
    simp only [du, List.mem_filter, List.mem_range, decide_eq_true_eq] at hr' hq'
    rcases Nat.lt_trichotomy r q with hlt | heq | hgt
    · exact absurd e3 (hq'.2 r hlt)
    · exact heq
    · exact absurd e3.symm (hr'.2 q hgt)
  rw [← e1, ← e2, this]

theorem iU {m : Mly} : ∀ f i, (∃ j, i ≤ j ∧ m.stopF f i = j ∧ j < i + f ∧ m.cnt (j + 1) = m.cnt j ∧ ∀ k, i ≤ k → k < j → m.cnt (k + 1) ≠ m.cnt k) ∨ (m.stopF f i = i + f ∧ ∀ k, i ≤ k → k < i + f → m.cnt (k + 1) ≠ m.cnt k)
  | 0, i => .inr ⟨rfl, fun k h1 h2 => by omega⟩
  | f + 1, i => by
    simp only [Mly.stopF]
    by_cases h : m.cnt (i + 1) = m.cnt i
    · rw [if_pos h]
      exact .inl ⟨i, Nat.le_refl _, rfl, by omega, h, fun k h1 h2 => by omega⟩
    · rw [if_neg h]
      rcases iU (m := m) f (i + 1) with ⟨j, h1, h2, h3, h4, h5⟩ | ⟨h1, h2⟩
      · refine .inl ⟨j, by omega, h2, by omega, h4, fun k k1 k2 => ?_⟩
        by_cases e : k = i
        · subst e; exact h
        · exact h5 k (by omega) k2
      · refine .inr ⟨by rw [h1]; omega, fun k k1 k2 => ?_⟩
        by_cases e : k = i
        · subst e; exact h
        · exact h2 k (by omega) (by omega)
theorem yV {m : Mly} (hm : MOK m) (i : Nat) : m.cnt i ≤ m.cnt (i + 1) := by
  rw [i7 hm, i7 hm]
  have := eM (du (fun s => (m.cls i).getD s 0) m.nx.length) (du (fun s => (m.cls (i + 1)).getD s 0) m.nx.length) (lr _ _) (od (jf hm i))
  omega
theorem B5 {m : Mly} (hm : MOK m) (i : Nat) : m.cnt i ≤ m.nx.length := by
  rw [i7 hm]
  have : (du (fun s => (m.cls i).getD s 0) m.nx.length).length ≤ (List.range m.nx.length).length := List.length_filter_le _ _
  rw [List.length_range] at this; omega

def Mly.eqc (m : Mly) : List Int := m.refC 128
structure STAB (m : Mly) (c : List Int) : Prop where
  len : c.length = m.nx.length
  rng : ∀ s, s < m.nx.length → 0 ≤ c.getD s 0 ∧ c.getD s 0 < m.nx.length
  step : ∀ s t : Nat, s < m.nx.length → t < m.nx.length → c.getD s 0 = c.getD t 0 → ∀ a : Nat, (a : Int) < m.inp →
    (m.ot.getD s []).getD a 0 = (m.ot.getD t []).getD a 0 ∧ c.getD ((m.nx.getD s []).getD a 0).toNat 0 = c.getD ((m.nx.getD t []).getD a 0).toNat 0
theorem l7 {m : Mly} (hm : MOK m) : ∃ j, m.eqc = m.cls j ∧ j < m.nx.length ∧ m.cnt (j + 1) = m.cnt j := by
  have hN : jW m 128 = m.nx.length := by unfold jW; have := hm.n2; omega
  have hn1 := hm.n1
  unfold Mly.eqc Mly.refC
  rw [hN]
  rcases iU (m := m) m.nx.length 0 with ⟨j, h1, h2, h3, h4, _⟩ | ⟨h1, h2⟩
  · exact ⟨j, by rw [h2], by omega, h4⟩
  · exfalso
    have key : ∀ k, k ≤ m.nx.length → (k : Int) + 1 ≤ m.cnt k := by
      intro k
      induction k with
      | zero => intro _; show (0 : Int) + 1 ≤ 1; decide
      | succ k ih =>
        intro hk
        have := ih (by omega)
        have h3 := yV hm k
        have h4 := h2 k (by omega) (by omega)
        omega
    have := key m.nx.length (Nat.le_refl _)
    have := B5 hm m.nx.length
    omega
theorem fF {m : Mly} (hm : MOK m) : STAB m m.eqc := by
  obtain ⟨j, h1, h2, h3⟩ := l7 hm
  rw [h1]
  refine ⟨kB m j, pu hm j, fun s t hs ht e => ?_⟩
  rw [i7 hm, i7 hm] at h3
  have := vr (jf hm j) (by omega) s t hs ht e
  exact (kY hm).1 ((gP hs ht).1 this)

def EQV (m : Mly) (s t : Int) : Prop := ∀ w : List Int, (∀ i : Nat, i < w.length → 0 ≤ w.getD i 0 ∧ w.getD i 0 < m.inp) → (m.go s w).2 = (m.go t w).2
theorem dr (m : Mly) (s a : Int) (w : List Int) : m.go s (a :: w) = ((m.go (m.nxt s a) w).1, m.out s a :: (m.go (m.nxt s a) w).2) := by
  have := wI m s [a] w
  simp only [aN, b6] at this
  rw [this]
  have h1 : m.go s [a] = (m.nxt s a, [m.out s a]) := rfl
  rw [h1]; rfl
theorem jR {w : List Int} {a n : Int} (h : ∀ i : Nat, i < (a :: w).length → 0 ≤ (a :: w).getD i 0 ∧ (a :: w).getD i 0 < n) : (0 ≤ a ∧ a < n) ∧ ∀ i : Nat, i < w.length → 0 ≤ w.getD i 0 ∧ w.getD i 0 < n :=
  ⟨h 0 (by simp), fun i hi => by have := h (i + 1) (by simpa using hi); simpa [List.getD] using this⟩
theorem sk {m : Mly} (hm : MOK m) {c : List Int} (hc : STAB m c) : ∀ (w : List Int) (s t : Int), 0 ≤ s → s < m.nx.length → 0 ≤ t → t < m.nx.length → c.getD s.toNat 0 = c.getD t.toNat 0 →
    (∀ i : Nat, i < w.length → 0 ≤ w.getD i 0 ∧ w.getD i 0 < m.inp) → (m.go s w).2 = (m.go t w).2
  | [], _, _, _, _, _, _, _, _ => rfl
  | a :: w, s, t, s0, s1, t0, t1, e, hw => by
    obtain ⟨ha, hw'⟩ := jR hw
    rw [dr, dr]
    have h1 := hc.step s.toNat t.toNat (by omega) (by omega) e a.toNat (by omega)
    have n1 := hm.nr s.toNat a.toNat (by omega) (by omega)
    have n2 := hm.nr t.toNat a.toNat (by omega) (by omega)
    have h2 := sk hm hc w (m.nxt s a) (m.nxt t a) n1.1 n1.2 n2.1 n2.2 h1.2 hw'
    show m.out s a :: _ = m.out t a :: _
    rw [h2]
    congr 1
    exact h1.1
theorem y2 {m : Mly} {s t a : Int} (h : EQV m s t) (ha : 0 ≤ a ∧ a < m.inp) : m.out s a = m.out t a ∧ EQV m (m.nxt s a) (m.nxt t a) := by
  constructor
  · have := h [a] (fun i hi => by simp at hi; subst hi; exact ha)
    have h1 : (m.go s [a]).2 = [m.out s a] := rfl
    have h2 : (m.go t [a]).2 = [m.out t a] := rfl
    rw [h1, h2] at this
    simpa using this
  · intro w hw
    have := h (a :: w) (fun i hi => by
      cases i with
      | zero => exact ha
      | succ i => have := hw i (by simpa using hi); simpa [List.getD] using this)
    rw [dr, dr] at this
    exact (List.cons.inj this).2
theorem pb {m : Mly} (hm : MOK m) : ∀ (i : Nat) (s t : Nat), s < m.nx.length → t < m.nx.length → EQV m s t → (m.cls i).getD s 0 = (m.cls i).getD t 0
  | 0, s, t, hs, ht, _ => by simp [Mly.cls, List.getD, hs, ht]
  | i + 1, s, t, hs, ht, h => by
    refine (gP hs ht).2 ((kY hm).2 fun a ha => ?_)
    obtain ⟨h1, h2⟩ := y2 h (a := (a : Int)) ⟨by omega, ha⟩
    refine ⟨by simpa [Mly.out] using h1, ?_⟩
    have n1 := hm.nr s a hs ha
    have n2 := hm.nr t a ht ha
    refine pb hm i _ _ (by omega) (by omega) ?_
    have e1 : m.nxt (s : Int) (a : Int) = (((m.nx.getD s []).getD a 0).toNat : Int) := by show (m.nx.getD s []).getD a 0 = _; omega
    have e2 : m.nxt (t : Int) (a : Int) = (((m.nx.getD t []).getD a 0).toNat : Int) := by show (m.nx.getD t []).getD a 0 = _; omega
    rw [e1, e2] at h2
    exact h2
theorem mJ {m : Mly} (hm : MOK m) {s t : Int} (s0 : 0 ≤ s) (s1 : s < m.nx.length) (t0 : 0 ≤ t) (t1 : t < m.nx.length) : m.eqc.getD s.toNat 0 = m.eqc.getD t.toNat 0 ↔ EQV m s t := by
  constructor
  · intro h w hw
    exact sk hm (fF hm) w s t s0 s1 t0 t1 h hw
  · intro h
    obtain ⟨j, h1, _⟩ := l7 hm
    rw [h1]
    exact pb hm j s.toNat t.toNat (by omega) (by omega) (by rw [Int.toNat_of_nonneg s0, Int.toNat_of_nonneg t0]; exact h)

theorem bQ (m : Mly) (cl : List Int) (a s : Nat) : (m.sigP cl a s).take 128 = m.sigP cl a s := List.take_of_length_le (by rw [bS]; exact Nat.le_refl _)
theorem yy {m : Mly} (hm : MOK m) {cl : List Int} (hr : ∀ s, s < m.nx.length → 0 ≤ cl.getD s 0 ∧ cl.getD s 0 < m.nx.length) {a s : Nat} (hs : s < m.nx.length) (ha : (a : Int) ≤ m.inp) : iQ (.arr 128) (.arr (m.sigP cl a s)) := by
  refine ⟨bS m cl a s, fun x hx => ?_⟩
  obtain ⟨i, hi, rfl⟩ := List.mem_map.1 hx
  have h2 := hm.n2
  split
  · have := hm.or s i hs (by omega); omega
  · split
    · have h1 := hm.nr s (i - 64) hs (by omega)
      have := hr ((m.nx.getD s []).getD (i - 64) 0).toNat (by omega)
      omega
    · omega
theorem nc {m : Mly} {cl : List Int} {k : Nat} (hk : k < m.nx.length) (h : m.sig cl k ∈ dj (m.sig cl) k) : pos (dj (m.sig cl) m.nx.length) (m.sig cl k) = pos (dj (m.sig cl) k) (m.sig cl k) := by
  rw [nL (m.sig cl) (i := k) (k := k + 1) (by omega) _ (by omega), dO, gB h]
theorem kK {m : Mly} {cl : List Int} {k : Nat} (hk : k < m.nx.length) (h : m.sig cl k ∉ dj (m.sig cl) k) : pos (dj (m.sig cl) m.nx.length) (m.sig cl k) = (dj (m.sig cl) k).length := by
  rw [nL (m.sig cl) (i := k) (k := k + 1) (by omega) _ (by omega), dO, fG h, rV h]
theorem rS {m : Mly} {N j : Nat} (hj : j < N) (h : m.cnt (j + 1) = m.cnt j) (hq : ∀ q, q < j → m.cnt (q + 1) ≠ m.cnt q) : m.stopF N 0 = j := by
  rcases iU (m := m) N 0 with ⟨i, h1, h2, h3, h4, h5⟩ | ⟨h1, h2⟩
  · rw [h2]
    rcases Nat.lt_trichotomy i j with hlt | heq | hgt
    · exact absurd h4 (hq i hlt)
    · exact heq
    · exact absurd h (h5 j (by omega) hgt)
  · exact absurd h (h2 j (by omega) (by omega))
theorem pl {m : Mly} {N : Nat} (hq : ∀ q, q < N → m.cnt (q + 1) ≠ m.cnt q) : m.stopF N 0 = N := by
  rcases iU (m := m) N 0 with ⟨i, h1, h2, h3, h4, h5⟩ | ⟨h1, h2⟩
  · exact absurd h4 (hq i (by omega))
  · omega
/-plain-/
abbrev S3 := Int × Int × List Int
def xN (e : S3) : (Int × Int × Unit) × List Int × Unit := ((e.1, (e.2.1, ())), (e.2.2, ()))
def inS (l : List S3) (p q : Int) : Bool := l.any fun f => decide (f.1 = p) && decide (f.2.1 = q)
def stS (a b : Mly) (e : S3) (l : List S3) (x : Nat) : List S3 := if inS l (a.nxt e.1 x) (b.nxt e.2.1 x) = true then l else l ++ [(a.nxt e.1 x, b.nxt e.2.1 x, e.2.2 ++ [(x : Int)])]
def gX (a b : Mly) (e : S3) (x : Nat) : Bool := !decide (a.out e.1 x = b.out e.2.1 x)
def dI (a b : Mly) (e : S3) (l : List S3) (x : Nat) : List S3 := (List.range x).foldl (stS a b e) l
def eS0 : S3 := (0, 0, [])
def srS (a b : Mly) : Nat → Nat → List S3 → Option (List Int)
  | 0, _, _ => none
  | f + 1, i, l => if i < l.length then
      match (List.range a.inp.toNat).find? (gX a b (l.getD i eS0)) with
      | some x => some ((l.getD i eS0).2.2 ++ [(x : Int)])
      | none => srS a b f (i + 1) (dI a b (l.getD i eS0) l a.inp.toNat)
    else none
def fuS (a b : Mly) : Nat := a.nx.length * b.nx.length + 1
def seS (a b : Mly) (s t : Int) : Option (List Int) := srS a b (fuS a b) 0 [(s, t, [])]
theorem j5 {l : List S3} {p q : Int} : inS l p q = true ↔ ∃ e, e ∈ l ∧ e.1 = p ∧ e.2.1 = q := by
  simp [inS, List.any_eq_true]
theorem fB (a b : Mly) (e : S3) (l : List S3) (x : Nat) : dI a b e l (x + 1) = stS a b e (dI a b e l x) x := by
  unfold dI; rw [List.range_succ, List.foldl_append]; rfl
theorem vx (a b : Mly) (e : S3) (l : List S3) (x : Nat) : ∃ k, stS a b e l x = l ++ k := by
  unfold stS
  split
  · exact ⟨[], by simp⟩
  · exact ⟨_, rfl⟩
theorem kV (a b : Mly) (e : S3) (l : List S3) : ∀ x, ∃ k, dI a b e l x = l ++ k
  | 0 => ⟨[], by simp [dI]⟩
  | x + 1 => by
    obtain ⟨k1, h1⟩ := kV a b e l x
    obtain ⟨k2, h2⟩ := vx a b e (dI a b e l x) x
    exact ⟨k1 ++ k2, by rw [fB, h2, h1, List.append_assoc]⟩
theorem qM (a b : Mly) (e : S3) {l : List S3} (x : Nat) {i : Nat} (h : i < l.length) : (dI a b e l x).getD i eS0 = l.getD i eS0 := by
  obtain ⟨k, hk⟩ := kV a b e l x
  rw [hk]; simp [List.getD, List.getElem?_append_left h]
theorem r7 (a b : Mly) (e : S3) (l : List S3) (x : Nat) : l.length ≤ (dI a b e l x).length := by
  obtain ⟨k, hk⟩ := kV a b e l x
  rw [hk]; simp

structure WFS (a b : Mly) (l : List S3) : Prop where
  rng : ∀ e, e ∈ l → (0 ≤ e.1 ∧ e.1 < a.nx.length) ∧ 0 ≤ e.2.1 ∧ e.2.1 < b.nx.length
  len : ∀ e, e ∈ l → e.2.2.length ≤ l.length
  nd : (l.map fun e => e.1 * (b.nx.length : Int) + e.2.1).Nodup
theorem WFS.at_ {a b : Mly} {l : List S3} (h : WFS a b l) {i : Nat} (hi : i < l.length) : (0 ≤ (l.getD i eS0).1 ∧ (l.getD i eS0).1 < a.nx.length) ∧ 0 ≤ (l.getD i eS0).2.1 ∧ (l.getD i eS0).2.1 < b.nx.length := by
  refine h.rng _ ?_
  simp [List.getD, hi]
theorem WFS.wl {a b : Mly} {l : List S3} (h : WFS a b l) {i : Nat} (hi : i < l.length) : (l.getD i eS0).2.2.length ≤ l.length := by
  refine h.len _ ?_
  simp [List.getD, hi]
theorem uj {p q n m : Int} (hp : 0 ≤ p ∧ p < n) (hq : 0 ≤ q ∧ q < m) : 0 ≤ p * m + q ∧ p * m + q < n * m := by
  have h1 : 0 ≤ p * m := Int.mul_nonneg hp.1 (by omega)
  have h2 : (p + 1) * m ≤ n * m := Int.mul_le_mul_of_nonneg_right (by omega) (by omega)
  rw [Int.add_mul, Int.one_mul] at h2
  omega
theorem rO {p q p' q' m : Int} (hq : 0 ≤ q ∧ q < m) (hq' : 0 ≤ q' ∧ q' < m) (e : p * m + q = p' * m + q') : p = p' ∧ q = q' := by
  have h1 : (p * m + q) / m = p := by rw [Int.add_comm, Int.add_mul_ediv_right _ _ (by omega), Int.ediv_eq_zero_of_lt hq.1 hq.2]; omega
  have h2 : (p' * m + q') / m = p' := by rw [Int.add_comm, Int.add_mul_ediv_right _ _ (by omega), Int.ediv_eq_zero_of_lt hq'.1 hq'.2]; omega
  have : p = p' := by rw [← h1, ← h2, e]
  subst this
  exact ⟨rfl, by omega⟩
theorem WFS.le {a b : Mly} {l : List S3} (h : WFS a b l) : l.length ≤ a.nx.length * b.nx.length := by
  have := eV (a.nx.length * b.nx.length) _ h.nd (fun x hx => by
    obtain ⟨e, he, rfl⟩ := List.mem_map.1 hx
    have hr := h.rng e he
    have := uj hr.1 hr.2
    rw [Int.natCast_mul]; exact this)
  simpa using this
theorem WFS.big {a b : Mly} (ha : MOK a) (hb : MOK b) {l : List S3} (h : WFS a b l) : l.length ≤ 16384 := by
  have h1 := h.le
  have h2 : a.nx.length * b.nx.length ≤ 128 * 128 := Nat.mul_le_mul ha.n2 hb.n2
  omega
theorem WFS.step {a b : Mly} (ha : MOK a) (hb : MOK b) (hi : a.inp = b.inp) {l : List S3} (h : WFS a b l) {e : S3} (he : (0 ≤ e.1 ∧ e.1 < a.nx.length) ∧ 0 ≤ e.2.1 ∧ e.2.1 < b.nx.length) (hw : e.2.2.length ≤ l.length) {x : Nat} (hx : (x : Int) < a.inp) : WFS a b (stS a b e l x) := by
  unfold stS
  split
  · exact h
  · rename_i hn
    have n1 := ha.nr e.1.toNat x (by omega) hx
    have n2 := hb.nr e.2.1.toNat x (by omega) (by omega)
    have n1' : 0 ≤ a.nxt e.1 x ∧ a.nxt e.1 x < a.nx.length := by simpa [Mly.nxt] using n1
    have n2' : 0 ≤ b.nxt e.2.1 x ∧ b.nxt e.2.1 x < b.nx.length := by simpa [Mly.nxt] using n2
    refine ⟨fun f hf => ?_, fun f hf => ?_, ?_⟩
    · rcases List.mem_append.1 hf with hf | hf
      · exact h.rng f hf
      · simp at hf; subst hf; exact ⟨n1', n2'⟩
    · simp only [ar, ax, aI]
      rcases List.mem_append.1 hf with hf | hf
      · have := h.len f hf; omega
      · simp at hf; subst hf; simp; omega
    · rw [List.map_append, List.nodup_append]
      refine ⟨h.nd, by simp, fun u hu v hv => ?_⟩
      simp at hv; subst hv
      intro e'
      obtain ⟨f, hf, rfl⟩ := List.mem_map.1 hu
      have hr := h.rng f hf
      obtain ⟨e1, e2⟩ := rO hr.2 n2' e'
      exact hn (j5.2 ⟨f, hf, e1, e2⟩)
theorem WFS.row {a b : Mly} (ha : MOK a) (hb : MOK b) (hi : a.inp = b.inp) {l : List S3} (h : WFS a b l) {i : Nat} (hil : i < l.length) : ∀ x : Nat, (x : Int) ≤ a.inp → WFS a b (dI a b (l.getD i eS0) l x)
  | 0, _ => by simpa [dI] using h
  | x + 1, hx => by
    rw [fB]
    have h1 := WFS.row ha hb hi h hil x (by omega)
    have h2 := r7 a b (l.getD i eS0) l x
    have h3 := h.wl hil
    exact h1.step ha hb hi (h.at_ hil) (by omega) (by omega)
theorem vz {a b : Mly} {s t : Int} (hs : 0 ≤ s ∧ s < a.nx.length) (ht : 0 ≤ t ∧ t < b.nx.length) : WFS a b [(s, t, [])] :=
  ⟨fun e he => by simp at he; subst he; exact ⟨hs, ht⟩, fun e he => by simp at he; subst he; simp, by simp⟩
theorem wW {p : Nat → Bool} {n : Nat} (h : ∀ x, x < n → p x = false) : (List.range n).find? p = none := by
  rw [List.find?_eq_none]
  intro x hx
  have := h x (by simpa using hx)
  simp [this]
theorem wD {p : Nat → Bool} {n x : Nat} (hx : x < n) (hp : p x = true) (h : ∀ y, y < x → p y = false) : (List.range n).find? p = some x := by
  rw [List.find?_eq_some_iff_getElem]
  refine ⟨hp, x, by simpa using hx, by simp, fun j hj => ?_⟩
  simp [h j hj]
theorem uS (a b : Mly) (f i : Nat) (l : List S3) (h : l.length ≤ i) : srS a b f i l = none := by
  cases f with
  | zero => rfl
  | succ f => simp only [srS]; rw [if_neg (by omega)]
theorem ym {a b : Mly} {f i : Nat} {l : List S3} (h : i < l.length) (hd : ∀ x, x < a.inp.toNat → gX a b (l.getD i eS0) x = false) : srS a b (f + 1) i l = srS a b f (i + 1) (dI a b (l.getD i eS0) l a.inp.toNat) := by
  simp only [srS]; rw [if_pos h, wW hd]
theorem pO {a b : Mly} {f i x : Nat} {l : List S3} (h : i < l.length) (hx : x < a.inp.toNat) (hp : gX a b (l.getD i eS0) x = true) (hd : ∀ y, y < x → gX a b (l.getD i eS0) y = false) : srS a b (f + 1) i l = some ((l.getD i eS0).2.2 ++ [(x : Int)]) := by
  simp only [srS]; rw [if_pos h, wD hx hp hd]

def EQ2 (a b : Mly) (s t : Int) : Prop := ∀ w : List Int, (∀ i : Nat, i < w.length → 0 ≤ w.getD i 0 ∧ w.getD i 0 < a.inp) → (a.go s w).2 = (b.go t w).2
structure TRS (a b : Mly) (s t : Int) (e : S3) : Prop where
  sy : ∀ i : Nat, i < e.2.2.length → 0 ≤ e.2.2.getD i 0 ∧ e.2.2.getD i 0 < a.inp
  l : (a.go s e.2.2).1 = e.1
  r : (b.go t e.2.2).1 = e.2.1
  o : (a.go s e.2.2).2 = (b.go t e.2.2).2
theorem sO {w : List Int} {x n : Int} (h : ∀ i : Nat, i < w.length → 0 ≤ w.getD i 0 ∧ w.getD i 0 < n) (hx : 0 ≤ x ∧ x < n) : ∀ i : Nat, i < (w ++ [x]).length → 0 ≤ (w ++ [x]).getD i 0 ∧ (w ++ [x]).getD i 0 < n := by
  intro i hi
  by_cases e : i < w.length
  · have := h i e
    simpa [List.getD, List.getElem?_append_left e] using this
  · have : i = w.length := by simp at hi; omega
    subst this
    simpa [List.getD] using hx
theorem TRS.next {a b : Mly} {s t : Int} {e : S3} (h : TRS a b s t e) {x : Nat} (hx : (x : Int) < a.inp) (hd : gX a b e x = false) : TRS a b s t (a.nxt e.1 x, b.nxt e.2.1 x, e.2.2 ++ [(x : Int)]) := by
  have ho : a.out e.1 x = b.out e.2.1 x := by simpa [gX] using hd
  refine ⟨sO h.sy ⟨by omega, hx⟩, ?_, ?_, ?_⟩
  · show (a.go s (e.2.2 ++ [(x : Int)])).1 = _
    rw [gc, h.l]
  · show (b.go t (e.2.2 ++ [(x : Int)])).1 = _
    rw [gc, h.r]
  · show (a.go s (e.2.2 ++ [(x : Int)])).2 = (b.go t (e.2.2 ++ [(x : Int)])).2
    rw [gc, gc, h.l, h.r, h.o, ho]
theorem nA {a b : Mly} {s t : Int} {e : S3} {l : List S3} (hl : ∀ f, f ∈ l → TRS a b s t f) (he : TRS a b s t e) : ∀ x : Nat, (x : Int) ≤ a.inp → (∀ y, y < x → gX a b e y = false) → ∀ f, f ∈ dI a b e l x → TRS a b s t f
  | 0, _, _, f, hf => hl f (by simpa [dI] using hf)
  | x + 1, hx, hd, f, hf => by
    rw [fB] at hf
    unfold stS at hf
    split at hf
    · exact nA hl he x (by omega) (fun y hy => hd y (by omega)) f hf
    · rcases List.mem_append.1 hf with hf | hf
      · exact nA hl he x (by omega) (fun y hy => hd y (by omega)) f hf
      · simp at hf; subst hf
        exact he.next (by omega) (hd x (by omega))
theorem lW {a b : Mly} {s t : Int} : ∀ (f i : Nat) (l : List S3), (∀ e, e ∈ l → TRS a b s t e) → ∀ w, srS a b f i l = some w → (∀ i : Nat, i < w.length → 0 ≤ w.getD i 0 ∧ w.getD i 0 < a.inp) ∧ (a.go s w).2 ≠ (b.go t w).2 ∧ w ≠ []
  | 0, _, _, _, w, h => by cases h
  | f + 1, i, l, hl, w, h => by
    simp only [srS] at h
    split at h
    · rename_i hi
      have he : TRS a b s t (l.getD i eS0) := hl _ (by simp [List.getD, hi])
      split at h
      · rename_i x hx
        simp only [Option.some.injEq] at h; subst h
        have h1 := List.find?_some hx
        have h2 : x < a.inp.toNat := by simpa using List.mem_of_find?_eq_some hx
        refine ⟨sO he.sy ⟨by omega, by omega⟩, ?_, by simp⟩
        rw [gc, gc, he.l, he.r, he.o]
        intro hh
        have := (List.append_cancel_left hh)
        simp at this
        simp [gX, this] at h1
      · rename_i hx
        have hd : ∀ y, y < a.inp.toNat → gX a b (l.getD i eS0) y = false := fun y hy => by
          have := List.find?_eq_none.1 hx y (by simpa using hy)
          simpa using this
        by_cases hin : 0 ≤ a.inp
        · exact lW f (i + 1) _ (nA hl he a.inp.toNat (by omega) hd) w h
        · have : dI a b (l.getD i eS0) l a.inp.toNat = l := by rw [show a.inp.toNat = 0 by omega]; rfl
          rw [this] at h
          exact lW f (i + 1) l hl w h
    · cases h
theorem AU (a b : Mly) (s t : Int) : ∀ e, e ∈ [((s, t, []) : S3)] → TRS a b s t e := fun e he => by
  simp at he; subst he
  exact ⟨fun i hi => by simp at hi, rfl, rfl, rfl⟩
theorem qQ {a b : Mly} {s t : Int} {w : List Int} (h : seS a b s t = some w) : (∀ i : Nat, i < w.length → 0 ≤ w.getD i 0 ∧ w.getD i 0 < a.inp) ∧ (a.go s w).2 ≠ (b.go t w).2 ∧ w ≠ [] := lW _ _ _ (AU a b s t) w h
def CLS (a b : Mly) (i : Nat) (l : List S3) : Prop := ∀ j, j < i → j < l.length → ∀ x : Nat, (x : Int) < a.inp → gX a b (l.getD j eS0) x = false ∧ inS l (a.nxt (l.getD j eS0).1 x) (b.nxt (l.getD j eS0).2.1 x) = true
theorem uo {l k : List S3} {p q : Int} (h : inS l p q = true) : inS (l ++ k) p q = true := by
  obtain ⟨e, he, h1, h2⟩ := j5.1 h
  exact j5.2 ⟨e, by simp [he], h1, h2⟩
theorem uO {a b : Mly} {e : S3} {l : List S3} : ∀ (x y : Nat), y < x → inS (dI a b e l x) (a.nxt e.1 y) (b.nxt e.2.1 y) = true
  | 0, y, h => by omega
  | x + 1, y, h => by
    rw [fB]
    by_cases hy : y = x
    · subst hy
      unfold stS
      split
      · rename_i hin; exact hin
      · exact j5.2 ⟨_, List.mem_append_right _ (by simp; rfl), rfl, rfl⟩
    · obtain ⟨k, hk⟩ := vx a b e (dI a b e l x) x
      rw [hk]
      exact uo (uO x y (by omega))
theorem rQ {a b : Mly} (ha : MOK a) (hb : MOK b) (hi : a.inp = b.inp) : ∀ (f i : Nat) (l : List S3), WFS a b l → a.nx.length * b.nx.length < f + i → CLS a b i l → srS a b f i l = none → ∃ L, (∃ k, L = l ++ k) ∧ CLS a b L.length L
  | 0, i, l, hl, hf, hc, _ => by
    have := hl.le
    exact ⟨l, ⟨[], by simp⟩, fun j hj hj2 => hc j (by omega) hj2⟩
  | f + 1, i, l, hl, hf, hc, h => by
    simp only [srS] at h
    split at h
    · rename_i hil
      split at h
      · cases h
      · rename_i hx
        have hd : ∀ y, y < a.inp.toNat → gX a b (l.getD i eS0) y = false := fun y hy => by
          have := List.find?_eq_none.1 hx y (by simpa using hy)
          simpa using this
        have hi1 := ha.i1
        obtain ⟨k, hk⟩ := kV a b (l.getD i eS0) l a.inp.toNat
        obtain ⟨L, ⟨k2, hk2⟩, hL⟩ := rQ ha hb hi f (i + 1) _ (hl.row ha hb hi hil a.inp.toNat (by omega)) (by omega) (fun j hj hjl x hx => by
          by_cases e : j = i
          · subst e
            rw [qM a b _ _ hil]
            exact ⟨hd x (by omega), uO a.inp.toNat x (by omega)⟩
          · have hjl2 : j < l.length := by omega
            rw [qM a b _ _ hjl2]
            have := hc j (by omega) hjl2 x hx
            refine ⟨this.1, ?_⟩
            rw [hk]; exact uo this.2) h
        exact ⟨L, ⟨k ++ k2, by rw [hk2, hk, List.append_assoc]⟩, hL⟩
    · rename_i hil
      exact ⟨l, ⟨[], by simp⟩, fun j hj hj2 => hc j (by omega) hj2⟩
theorem vU {a b : Mly} {L : List S3} (hL : CLS a b L.length L) : ∀ (w : List Int) (j : Nat), j < L.length → (∀ i : Nat, i < w.length → 0 ≤ w.getD i 0 ∧ w.getD i 0 < a.inp) → (a.go (L.getD j eS0).1 w).2 = (b.go (L.getD j eS0).2.1 w).2
  | [], _, _, _ => rfl
  | x :: w, j, hj, hw => by
    obtain ⟨hx, hw'⟩ := jR hw
    rw [dr, dr]
    have h1 := hL j hj hj x.toNat (by omega)
    rw [Int.toNat_of_nonneg hx.1] at h1
    have ho : a.out (L.getD j eS0).1 x = b.out (L.getD j eS0).2.1 x := by
      have := h1.1
      simp only [gX, Int.toNat_of_nonneg hx.1] at this
      simpa using this
    obtain ⟨f, hf, e1, e2⟩ := j5.1 h1.2
    obtain ⟨q, hq⟩ := List.getElem?_of_mem hf
    have hql := (List.getElem?_eq_some_iff.1 hq).1
    have hqd : L.getD q eS0 = f := by simp [List.getD, hq]
    have ih := vU hL w q hql hw'
    rw [hqd, e1, e2] at ih
    show _ :: _ = _ :: _
    rw [ho, ih]
theorem y9 {a b : Mly} (ha : MOK a) (hb : MOK b) (hi : a.inp = b.inp) {s t : Int} (hs : 0 ≤ s ∧ s < a.nx.length) (ht : 0 ≤ t ∧ t < b.nx.length) (h : seS a b s t = none) : EQ2 a b s t := by
  obtain ⟨L, ⟨k, hk⟩, hL⟩ := rQ ha hb hi (fuS a b) 0 _ (vz hs ht) (by unfold fuS; omega) (fun j hj => by omega) h
  intro w hw
  have := vU hL w 0 (by rw [hk]; simp) hw
  rw [hk] at this
  exact this
theorem z6 {a b : Mly} (ha : MOK a) (hb : MOK b) (hi : a.inp = b.inp) {s t : Int} (hs : 0 ≤ s ∧ s < a.nx.length) (ht : 0 ≤ t ∧ t < b.nx.length) : seS a b s t = none ↔ EQ2 a b s t := by
  refine ⟨y9 ha hb hi hs ht, fun h => ?_⟩
  cases hw : seS a b s t with
  | none => rfl
  | some w => exact absurd (h w (qQ hw).1) (qQ hw).2.1

/-plain-/
def cN (cl : List Int) : Nat → Int
  | 0 => 0
  | k + 1 => max (cN cl k) (cl.getD k 0 + 1)
def iV (cl : List Int) (k : Nat) : Bool := decide (cl.getD k 0 < 0) || decide (cN cl k < cl.getD k 0)
def sA (cl : List Int) : Int := if cl.length < 1 ∨ 64 < cl.length then 2 else if (List.range cl.length).any (iV cl) = true then 1 else 0
def C5 (cl : List Int) : Int := if sA cl = 0 then cN cl cl.length else 0
theorem pd {cl : List Int} {k : Nat} (h1 : 0 ≤ cl.getD k 0) (h2 : cl.getD k 0 ≤ cN cl k) : iV cl k = false := by
  unfold iV; rw [decide_eq_false (by omega), decide_eq_false (by omega)]; rfl
def Cb (m : Mly) (cl : List Int) : Int := if aL m ≠ 0 then aL m else if sA cl ≠ 0 then sA cl else if (cl.length : Int) = m.inp then 0 else 15
structure COK (m : Mly) (cl : List Int) : Prop where
  ok : MOK m
  ce : sA cl = 0
  len : (cl.length : Int) = m.inp
abbrev S2 := Int × List Int
def eX0 : S2 := (0, [])
def lj (l : List S2) : List Int := l.map (·.1)
def stX (m : Mly) (e : S2) (l : List S2) (x : Nat) : List S2 := if (m.row e.1).getD x 0 ∈ lj l then l else l ++ [((m.row e.1).getD x 0, e.2 ++ [(x : Int)])]
def li (m : Mly) (e : S2) (l : List S2) (x : Nat) : List S2 := (List.range x).foldl (stX m e) l
def exF (m : Mly) : Nat → Nat → List S2 → List S2
  | 0, _, l => l
  | f + 1, i, l => if i < l.length then exF m f (i + 1) (li m (l.getD i eX0) l m.inp.toNat) else l
def Mly.exR (m : Mly) : List S2 := exF m (m.nx.length + 1) 0 [(m.st, [])]
theorem pB (m : Mly) (e : S2) (l : List S2) (x : Nat) : li m e l (x + 1) = stX m e (li m e l x) x := by
  unfold li; rw [List.range_succ, List.foldl_append]; rfl
theorem zJ (m : Mly) (e : S2) (l : List S2) (x : Nat) : ∃ k, stX m e l x = l ++ k := by
  unfold stX
  split
  · exact ⟨[], by simp⟩
  · exact ⟨_, rfl⟩
theorem rX (m : Mly) (e : S2) (l : List S2) : ∀ x, ∃ k, li m e l x = l ++ k
  | 0 => ⟨[], by simp [li]⟩
  | x + 1 => by
    obtain ⟨k1, h1⟩ := rX m e l x
    obtain ⟨k2, h2⟩ := zJ m e (li m e l x) x
    exact ⟨k1 ++ k2, by rw [pB, h2, h1, List.append_assoc]⟩
theorem Ap (m : Mly) (e : S2) (l : List S2) (x : Nat) : l.length ≤ (li m e l x).length := by
  obtain ⟨k, hk⟩ := rX m e l x
  rw [hk]; simp
structure WFX (m : Mly) (l : List S2) : Prop where
  rs : RSet m.nx.length (lj l)
  wl : ∀ e, e ∈ l → e.2.length ≤ l.length
theorem t8 (l : List S2) : (lj l).length = l.length := by simp [lj]
theorem AT {l : List S2} {i : Nat} (h : i < l.length) : (lj l).getD i 0 = (l.getD i eX0).1 := by simp [lj, List.getD, h]
theorem WFX.le {m : Mly} {l : List S2} (h : WFX m l) : l.length ≤ m.nx.length := by have := h.rs.len; rwa [t8] at this
theorem WFX.at_ {m : Mly} {l : List S2} (h : WFX m l) {i : Nat} (hi : i < l.length) : 0 ≤ (l.getD i eX0).1 ∧ (l.getD i eX0).1 < m.nx.length := by
  rw [← AT hi]; exact h.rs.at_ (by rw [t8]; exact hi)
theorem CC {l : List S2} {i : Nat} (h : i < l.length) : l.getD i eX0 ∈ l := by simp [List.getD, h]
theorem WFX.step {m : Mly} (hm : MOK m) {l : List S2} (h : WFX m l) {e : S2} (he : 0 ≤ e.1 ∧ e.1 < m.nx.length) (hw : e.2.length ≤ l.length) {x : Nat} (hx : (x : Int) < m.inp) : WFX m (stX m e l x) := by
  unfold stX
  split
  · exact h
  · rename_i hn
    have n1 := hm.nr e.1.toNat x (by omega) hx
    refine ⟨?_, fun f hf => ?_⟩
    · have e1 : lj (l ++ [((m.row e.1).getD x 0, e.2 ++ [(x : Int)])]) = cp (lj l) ((m.row e.1).getD x 0) := by rw [fe hn]; simp [lj]
      rw [e1]
      exact h.rs.add n1.1 n1.2
    · simp only [ar, ax, aI]
      rcases List.mem_append.1 hf with hf | hf
      · have := h.wl f hf; omega
      · simp at hf; subst hf; simp; omega
theorem WFX.row {m : Mly} (hm : MOK m) {l : List S2} (h : WFX m l) {i : Nat} (hil : i < l.length) : ∀ x : Nat, (x : Int) ≤ m.inp → WFX m (li m (l.getD i eX0) l x)
  | 0, _ => by simpa [li] using h
  | x + 1, hx => by
    rw [pB]
    have h1 := WFX.row hm h hil x (by omega)
    have h2 := Ap m (l.getD i eX0) l x
    have h3 := h.wl _ (CC hil)
    exact h1.step hm (h.at_ hil) (by omega) (by omega)
def C9 (m : Mly) (s : Int) (c d : Nat) : Bool := decide (m.out s c = m.out s d) && decide (m.eqc.getD (m.nxt s c).toNat 0 = m.eqc.getD (m.nxt s d).toNat 0)
def CO (m : Mly) (cl : List Int) (s : Int) (c d : Nat) : Bool := decide (cl.getD c 0 = cl.getD d 0) && !C9 m s c d
def CR (m : Mly) (cl : List Int) (s : Int) (c : Nat) : Option Nat := (List.range cl.length).find? fun d => decide (c < d) && CO m cl s c d
def CM (m : Mly) (cl : List Int) (s : Int) : Option (Nat × Nat) := (List.range cl.length).findSome? fun c => (CR m cl s c).map fun d => (c, d)
def CS (m : Mly) (cl : List Int) : Option (Nat × Nat × Nat) := (List.range m.exR.length).findSome? fun i => (CM m cl (m.exR.getD i eX0).1).map fun p => (i, p.1, p.2)
def f3 (r : Option (Nat × Nat × Nat)) : Int × Int × Int := match r with | some p => (p.1, p.2.1, p.2.2) | none => (0, 0, 0)

def Ag (p : Int → Bool) (xs : List Int) : Int := match xs.findIdx? p with | some i => (i : Int) | none => -1
def nmS (T : Nat → Nat → Bool) : Nat → List Int × List Int
  | 0 => ([], [])
  | c + 1 => if Ag (fun d => T d.toNat c) (nmS T c).2 < 0 then ((nmS T c).1 ++ [((nmS T c).2.length : Int)], (nmS T c).2 ++ [(c : Int)])
    else ((nmS T c).1 ++ [Ag (fun d => T d.toNat c) (nmS T c).2], (nmS T c).2)
def xo (m : Mly) (c d : Nat) : Bool := !decide (0 ≤ Ag (fun s => !C9 m s c d) (lj m.exR))
/-plain-/
structure EQT (T : Nat → Nat → Bool) (n : Nat) : Prop where
  rf : ∀ a, a < n → T a a = true
  sy : ∀ a b, a < n → b < n → T a b = true → T b a = true
  tr : ∀ a b c, a < n → b < n → c < n → T a b = true → T b c = true → T a c = true
structure NMP (T : Nat → Nat → Bool) (c : Nat) : Prop where
  at_ : ∀ q, q < c → 0 ≤ (nmS T c).1.getD q 0 ∧ (nmS T c).1.getD q 0 < (nmS T c).2.length ∧ T ((nmS T c).2.getD ((nmS T c).1.getD q 0).toNat 0).toNat q = true
  ap : ∀ x y, x < y → y < (nmS T c).2.length → T ((nmS T c).2.getD x 0).toNat ((nmS T c).2.getD y 0).toNat = false
/-plain-/
structure Dfa where
  inp : Int
  st : Int
  nx : List (List Int)
  acc : List Bool
def Dfa.av (d : Dfa) : AV := .agg [.int .i64 d.inp, .int .i64 d.st, .list (.list (.int .i64)) d.nx, .list .bool d.acc]
def Dfa.row (d : Dfa) (s : Int) : List Int := d.nx.getD s.toNat []
def Dfa.dl (d : Dfa) (s a : Int) : Int := (d.row s).getD a.toNat 0
def Dfa.ac (d : Dfa) (s : Int) : Bool := d.acc.getD s.toNat false
def Dfa.run (d : Dfa) (s : Int) (w : List Int) : Int := w.foldl (fun s a => d.dl s a) s
structure DOK (d : Dfa) : Prop where
  i1 : 1 ≤ d.inp
  i2 : d.inp ≤ 1024
  n1 : 1 ≤ d.nx.length
  n2 : d.nx.length ≤ 128
  s1 : 0 ≤ d.st
  s2 : d.st < d.nx.length
  al : d.acc.length = d.nx.length
  rl : ∀ s : Nat, s < d.nx.length → ((d.row s).length : Int) = d.inp
  cl : ∀ s a : Nat, s < d.nx.length → (a : Int) < d.inp → 0 ≤ (d.row s).getD a 0 ∧ (d.row s).getD a 0 < d.nx.length
theorem DOK.dl {d : Dfa} (h : DOK d) {s a : Int} (hs : 0 ≤ s ∧ s < d.nx.length) (ha : 0 ≤ a ∧ a < d.inp) : 0 ≤ d.dl s a ∧ d.dl s a < d.nx.length := by
  have := h.cl s.toNat a.toNat (by omega) (by omega)
  unfold Dfa.dl
  have e : d.row (s.toNat : Int) = d.row s := by unfold Dfa.row; rw [ai]
  rw [e] at this; exact this
def Dfa.co (d : Dfa) : Dfa := ⟨d.inp, d.st, d.nx, d.acc.map (!·)⟩
/-plain-/
theorem d5 (n : Int) : inK .u64 n ↔ 0 ≤ n ∧ n ≤ 18446744073709551615 := by
  simp [inK, IntKind.min, IntKind.max, IntKind.signed, IntKind.bits]
def CB : List UInt8 := [48, 49, 50, 51, 52, 53, 54, 55, 56, 57, 97, 98, 99, 100, 101, 102, 103, 104, 105, 106, 107, 108, 109, 110, 111, 112, 113, 114, 115, 116, 117, 118, 119, 120, 121, 122]
def c36 (n : Nat) : Int := ((CB.getD n 0).toNat : Int)
def z5 : Nat → Nat → List Int
  | 0, n => [c36 n]
  | f + 1, n => if n < 36 then [c36 n] else z5 f (n / 36) ++ [c36 (n % 36)]
def d36 (n : Nat) : List Int := z5 3 n
def B36 (j u : Nat) : Prop := (j = 0 ∧ u < 1679616) ∨ (j = 1 ∧ u < 46656) ∨ (j = 2 ∧ u < 1296) ∨ (j = 3 ∧ u < 36)
structure BUF (n u j : Nat) (l : List Int) : Prop where
  b : B36 j u
  len : l.length = 65
  eq : d36 n = z5 (3 - j) u ++ l.drop (65 - j)
/-plain-/
/-plain-/
structure Mpr where
  inp : Int
  ab : Int
  st : Int
  nx : List (List Int)
  sy : List (List Int)
def Mpr.av (p : Mpr) : AV := .agg [.int .i64 p.inp, .int .i64 p.ab, .int .i64 p.st, .list (.list (.int .i64)) p.nx, .list (.list (.int .i64)) p.sy]
def Mpr.bad (p : Mpr) (s c : Nat) : Prop := (p.nx.getD s []).getD c 0 < 0 ∨ (p.nx.length : Int) ≤ (p.nx.getD s []).getD c 0 ∨ (p.sy.getD s []).getD c 0 < 0 ∨ p.ab ≤ (p.sy.getD s []).getD c 0
instance (p : Mpr) (s c : Nat) : Decidable (p.bad s c) := by unfold Mpr.bad; infer_instance
structure POK (p : Mpr) : Prop where
  i1 : 1 ≤ p.inp
  i2 : p.inp ≤ 64
  b1 : 1 ≤ p.ab
  b2 : p.ab ≤ 64
  n1 : 1 ≤ p.nx.length
  n2 : p.nx.length ≤ 128
  s1 : 0 ≤ p.st
  s2 : p.st < p.nx.length
  sl : p.sy.length = p.nx.length
  rl : ∀ s : Nat, s < p.nx.length → ((p.nx.getD s []).length : Int) = p.inp
  ql : ∀ s : Nat, s < p.nx.length → ((p.sy.getD s []).length : Int) = p.inp
  cl : ∀ s c : Nat, s < p.nx.length → (c : Int) < p.inp → 0 ≤ (p.nx.getD s []).getD c 0 ∧ (p.nx.getD s []).getD c 0 < p.nx.length
  yl : ∀ s c : Nat, s < p.nx.length → (c : Int) < p.inp → 0 ≤ (p.sy.getD s []).getD c 0 ∧ (p.sy.getD s []).getD c 0 < p.ab
def Mpr.tx (p : Mpr) (s c : Int) : Int := (p.nx.getD s.toNat []).getD c.toNat 0
def Mpr.sx (p : Mpr) (s c : Int) : Int := (p.sy.getD s.toNat []).getD c.toNat 0
theorem POK.tx {p : Mpr} (h : POK p) {s c : Int} (hs : 0 ≤ s ∧ s < p.nx.length) (hc : 0 ≤ c ∧ c < p.inp) : 0 ≤ p.tx s c ∧ p.tx s c < p.nx.length := h.cl s.toNat c.toNat (by omega) (by omega)
theorem POK.sx {p : Mpr} (h : POK p) {s c : Int} (hs : 0 ≤ s ∧ s < p.nx.length) (hc : 0 ≤ c ∧ c < p.inp) : 0 ≤ p.sx s c ∧ p.sx s c < p.ab := h.yl s.toNat c.toNat (by omega) (by omega)
def Mpr.im (p : Mpr) : Int → List Int → List Int
  | _, [] => []
  | s, c :: w => p.sx s c :: p.im (p.tx s c) w
/-plain-/
abbrev SS := List Int × List Int
def ss0 : SS := ([], [])
def ez : List SS → List Int → Nat
  | [], _ => 0
  | s :: S, x => if s.1 = x then 0 else ez S x + 1
theorem vW : ∀ (S : List SS) (x : List Int), ez S x ≤ S.length
  | [], _ => Nat.le_refl _
  | s :: S, x => by
    simp only [ez]
    split
    · exact Nat.zero_le _
    · have := vW S x; simp; omega
structure SB (m : Mly) (p : Mpr) (xs : List Int) : Prop where
  ord : xs.Pairwise (· < ·)
  pos : 0 < xs.length
  rng : ∀ x ∈ xs, 0 ≤ x ∧ x < p.nx.length * m.nx.length
theorem oe : ∀ {xs : List Int} {a b : Int}, xs.Pairwise (· < ·) → (∀ x ∈ xs, a ≤ x ∧ x < b) → (xs.length : Int) ≤ b - a ∨ xs = []
  | [], _, _, _, _ => .inr rfl
  | x :: xs, a, b, h, hr => .inl (by
    obtain ⟨h1, h2⟩ := List.pairwise_cons.1 h
    have hx := hr x (aV ..)
    rcases oe (a := x + 1) (b := b) h2 (fun y hy => ⟨by have := h1 y hy; omega, (hr y (aM _ hy)).2⟩) with e | e
    · simp only [ax]; omega
    · rw [e]; simp only [ax, aI]; omega)
theorem SB.len {m : Mly} {p : Mpr} {xs : List Int} (h : SB m p xs) (hm : MOK m) (hp : POK p) : xs.length ≤ 16384 := by
  have h8 : (p.nx.length : Int) * m.nx.length ≤ 128 * 128 := Int.mul_le_mul (by have := hp.n2; omega) (by have := hm.n2; omega) (by omega) (by omega)
  rcases oe h.ord h.rng with e | e
  · omega
  · rw [e]; simp
theorem wd {xs : List Int} (h : 0 < xs.length) : 0 < (aG xs).length := by
  match xs, h with
  | x :: xs, _ => exact List.length_pos_of_mem (((dC (x :: xs)).2 x).2 (aV ..))
def pP (s : SS) : List Int × (List Int × Unit) := (s.1, (s.2, ()))
structure Mres where
  my : Mly
  w : List Int
  a : Int
  b : Int
  f : Bool
  e : Int
structure MS where
  S : List SS
  N : List (List Int)
  O : List (List Int)
  nr : List Int
  os : List Int
structure SVM (m : Mly) (p : Mpr) (k : Nat) (S : List SS) : Prop where
  sb : ∀ s ∈ S, SB m p s.1
  wl : ∀ s ∈ S, s.2.length ≤ k
  le : S.length ≤ 128
theorem SVM.at_ {m : Mly} {p : Mpr} {k i : Nat} {S : List SS} (h : SVM m p k S) (hi : i < S.length) : SB m p (S.getD i ss0).1 ∧ (S.getD i ss0).2.length ≤ k := by
  have : S.getD i ss0 ∈ S := by simp [List.getD, hi]
  exact ⟨h.sb _ this, h.wl _ this⟩
def Mres.av (r : Mres) : AV := .tup [r.my.av, .agg [.list (.int .i64) r.w, .int .i64 r.a, .int .i64 r.b], .one (.bool r.f), .one (.int .i64 r.e)]
theorem Bg {S : List SS} {k : Nat} (h : k < S.length) (d : List Int × (List Int × Unit)) : (List.map pP S).getD k d = ((S.getD k ss0).1, ((S.getD k ss0).2, ())) := by
  simp [List.getD, h, pP]
/-plain-/
structure F12 where
  Q : List SS
  res : Option (Option (List Int))
def eI (Q : List SS) (i a : Nat) : List Int := (Q.getD i ss0).2 ++ [(a : Int)]
def fM (m : Mly) (Q : List SS) (i a : Nat) : List Int := cO m (Q.getD i ss0).1 a
def dx (m : Mly) (i : Nat) (t : F12) (a : Nat) : F12 :=
  match t.res with
  | some _ => t
  | none =>
    if unS m (t.Q.getD i ss0).1 a (t.Q.getD i ss0).1.length = true then t
    else if smO m (t.Q.getD i ss0).1 a (t.Q.getD i ss0).1.length = false then ⟨t.Q, some (some (eI t.Q i a))⟩
    else if ez t.Q (fM m t.Q i a) < t.Q.length then t
    else if 4096 ≤ t.Q.length then ⟨t.Q, some none⟩
    else ⟨t.Q ++ [(fM m t.Q i a, eI t.Q i a)], none⟩
def jI (m : Mly) (i : Nat) (t : F12) : F12 := (List.range m.inp.toNat).foldl (dx m i) t
def gD (m : Mly) : Nat → Nat → F12 → F12
  | 0, _, t => t
  | f + 1, i, t => if t.res.isSome = true then t else if i < t.Q.length then gD m f (i + 1) (jI m i t) else t
def m5 (m : Mly) (l : List Int) : Option (Option (List Int)) := (gD m 4097 0 ⟨[(l, [])], none⟩).res
def fdW (m : Mly) (l : List Int) : Option (List Int) := (m5 m l).getD none
theorem rU {m : Mly} {i : Nat} {t : F12} {r : Option (List Int)} (h : t.res = some r) : ∀ (xs : List Nat), xs.foldl (dx m i) t = t
  | [] => rfl
  | a :: xs => by
    have e : dx m i t a = t := by unfold dx; rw [h]
    rw [List.foldl_cons, e]; exact rU h xs
theorem wV {m : Mly} {i a : Nat} {t0 t : F12} {r : Option (List Int)} (ha : a < m.inp.toNat) (h : (List.range a).foldl (dx m i) t0 = t) (h2 : (dx m i t a).res = some r) : jI m i t0 = dx m i t a := by
  unfold jI
  have e : List.range m.inp.toNat = List.range (a + 1) ++ (List.range (m.inp.toNat - (a + 1))).map ((a + 1) + ·) := by rw [← List.range_add]; congr 1; omega
  rw [e, List.foldl_append, List.range_succ, List.foldl_append, h]
  exact rU h2 _
theorem sW {m : Mly} {t : F12} {r : Option (List Int)} (h : t.res = some r) : ∀ f i, gD m f i t = t
  | 0, _ => rfl
  | f + 1, i => by
    show (if _ then _ else _) = _
    rw [if_pos (by rw [h]; rfl)]
theorem qR {m : Mly} {f i : Nat} {t : F12} (h : t.res = none) (hi : i < t.Q.length) : gD m (f + 1) i t = gD m f (i + 1) (jI m i t) := by
  show (if _ then _ else _) = _
  rw [if_neg (by rw [h]; decide), if_pos hi]
theorem vZ {m : Mly} {f i : Nat} {t : F12} (hi : ¬ i < t.Q.length) : gD m f i t = t := by
  cases f with
  | zero => rfl
  | succ f =>
    show (if _ then _ else _) = _
    by_cases e : t.res.isSome = true
    · rw [if_pos e]
    · rw [if_neg e, if_neg hi]
structure FQ (m : Mly) (n : Nat) (Q : List SS) : Prop where
  st : ∀ s ∈ Q, dm m s.1
  ln : ∀ s ∈ Q, s.1.length = n
  wl : ∀ i, i < Q.length → (Q.getD i ss0).2.length ≤ i
  le : Q.length ≤ 4096
theorem tA {m : Mly} (hm : MOK m) {l : List Int} {a : Int} (ha : 0 ≤ a ∧ a < m.inp) (h : dm m l) : dm m (cO m l a) ∧ (cO m l a).length = l.length := by
  refine ⟨fun s hs => ?_, by unfold cO; simp⟩
  unfold cO at hs
  obtain ⟨x, hx, rfl⟩ := List.mem_map.1 hs
  exact hm.nr x.toNat a.toNat (by have := h x hx; omega) (by omega)
theorem FQ.at_ {m : Mly} {n : Nat} {Q : List SS} (h : FQ m n Q) {i : Nat} (hi : i < Q.length) : dm m (Q.getD i ss0).1 ∧ (Q.getD i ss0).1.length = n ∧ (Q.getD i ss0).2.length ≤ i := by
  have : Q.getD i ss0 ∈ Q := by simp [List.getD, hi]
  exact ⟨h.st _ this, h.ln _ this, h.wl i hi⟩
theorem FQ.snoc {m : Mly} {n : Nat} {Q : List SS} (h : FQ m n Q) {x w : List Int} (h1 : dm m x) (h2 : x.length = n) (h3 : w.length ≤ Q.length) (h4 : Q.length < 4096) : FQ m n (Q ++ [(x, w)]) := by
  refine ⟨fun s hs => ?_, fun s hs => ?_, fun i hi => ?_, by rw [ar]; simp only [ax, aI]; omega⟩
  · rcases List.mem_append.1 hs with q | q
    · exact h.st s q
    · rw [List.mem_singleton] at q; rw [q]; exact h1
  · rcases List.mem_append.1 hs with q | q
    · exact h.ln s q
    · rw [List.mem_singleton] at q; rw [q]; exact h2
  · rw [ar] at hi
    simp only [ax, aI] at hi
    by_cases e : i < Q.length
    · have e2 : (Q ++ [(x, w)]).getD i ss0 = Q.getD i ss0 := by simp [List.getD, List.getElem?_append_left e]
      rw [e2]; exact h.wl i e
    · have e3 : i = Q.length := by omega
      have e2 : (Q ++ [(x, w)]).getD i ss0 = (x, w) := by rw [e3]; simp [List.getD]
      rw [e2]; show w.length ≤ i; omega
theorem FQ.one {m : Mly} {l : List Int} (h : dm m l) : FQ m l.length [(l, [])] := by
  refine ⟨fun s hs => ?_, fun s hs => ?_, fun i hi => ?_, by simp⟩
  · rw [List.mem_singleton] at hs; rw [hs]; exact h
  · rw [List.mem_singleton] at hs; rw [hs]
  · have : i = 0 := by simpa using hi
    subst this; exact Nat.le_refl _
theorem zx {m : Mly} {i a : Nat} {Q : List SS} (h : unS m (Q.getD i ss0).1 a (Q.getD i ss0).1.length = true) : dx m i ⟨Q, none⟩ a = ⟨Q, none⟩ := by
  unfold dx; simp only; rw [if_pos h]
theorem xl {m : Mly} {i a : Nat} {Q : List SS} (h : unS m (Q.getD i ss0).1 a (Q.getD i ss0).1.length = false) (h2 : smO m (Q.getD i ss0).1 a (Q.getD i ss0).1.length = false) : dx m i ⟨Q, none⟩ a = ⟨Q, some (some (eI Q i a))⟩ := by
  unfold dx; simp only; rw [if_neg (by rw [h]; decide), if_pos h2]
theorem xc {m : Mly} {i a : Nat} {Q : List SS} (h : unS m (Q.getD i ss0).1 a (Q.getD i ss0).1.length = false) (h2 : smO m (Q.getD i ss0).1 a (Q.getD i ss0).1.length = true) (h3 : ez Q (fM m Q i a) < Q.length) : dx m i ⟨Q, none⟩ a = ⟨Q, none⟩ := by
  unfold dx; simp only; rw [if_neg (by rw [h]; decide), if_neg (by rw [h2]; decide), if_pos h3]
theorem xf {m : Mly} {i a : Nat} {Q : List SS} (h : unS m (Q.getD i ss0).1 a (Q.getD i ss0).1.length = false) (h2 : smO m (Q.getD i ss0).1 a (Q.getD i ss0).1.length = true) (h3 : ¬ ez Q (fM m Q i a) < Q.length) (h4 : 4096 ≤ Q.length) : dx m i ⟨Q, none⟩ a = ⟨Q, some none⟩ := by
  unfold dx; simp only; rw [if_neg (by rw [h]; decide), if_neg (by rw [h2]; decide), if_neg h3, if_pos h4]
theorem x4 {m : Mly} {i a : Nat} {Q : List SS} (h : unS m (Q.getD i ss0).1 a (Q.getD i ss0).1.length = false) (h2 : smO m (Q.getD i ss0).1 a (Q.getD i ss0).1.length = true) (h3 : ¬ ez Q (fM m Q i a) < Q.length) (h4 : ¬ 4096 ≤ Q.length) : dx m i ⟨Q, none⟩ a = ⟨Q ++ [(fM m Q i a, eI Q i a)], none⟩ := by
  unfold dx; simp only; rw [if_neg (by rw [h]; decide), if_neg (by rw [h2]; decide), if_neg h3, if_neg h4]
/-plain-/
def esB (Q : List SS) : List (KV × Int) := Q.map fun s => (KV.str (gG s.1), (1 : Int))
theorem yo (Q : List SS) (s : SS) : esB (Q ++ [s]) = esB Q ++ [(KV.str (gG s.1), (1 : Int))] := by unfold esB; rw [List.map_append]; rfl
theorem fx {m : Mly} {l : List Int} (hm : MOK m) (h : dm m l) : lB l := fun x hx => by have := h x hx; have := hm.n2; omega
theorem lV {x : List Int} (hx : lB x) : ∀ {Q : List SS}, (∀ s ∈ Q, lB s.1) → dY (esB Q) (.str (gG x)) = if ez Q x < Q.length then some 1 else none
  | [], _ => rfl
  | s :: Q, h => by
    by_cases e : s.1 = x
    · have p1 : ez (s :: Q) x = 0 := if_pos e
      rw [p1, if_pos (by simp)]
      show (if KV.str (gG s.1) = KV.str (gG x) then some 1 else _) = _
      rw [if_pos (by rw [e])]
    · have p1 : ez (s :: Q) x = ez Q x + 1 := if_neg e
      rw [p1]
      show (if KV.str (gG s.1) = KV.str (gG x) then some 1 else dY (esB Q) (.str (gG x))) = _
      rw [if_neg (fun k => e (rq (h s (aV ..)) hx (KV.str.inj k))), lV hx fun t ht => h t (aM _ ht)]
      by_cases e2 : ez Q x < Q.length
      · rw [if_pos e2, if_pos (by simp; omega)]
      · rw [if_neg e2, if_neg (by simp; omega)]
theorem yE {x : List Int} {Q : List SS} (hx : lB x) (h : ∀ s ∈ Q, lB s.1) : (dY (esB Q) (.str (gG x))).getD 0 = if ez Q x < Q.length then 1 else 0 := by
  rw [lV hx h]; split <;> rfl
theorem qd {x w : List Int} {Q : List SS} (hx : lB x) (h : ∀ s ∈ Q, lB s.1) (hn : ¬ ez Q x < Q.length) : gU (esB Q) (.str (gG x)) 1 = esB (Q ++ [(x, w)]) := by
  unfold gU
  rw [lV hx h, if_neg hn, yo]; rfl
theorem jk {m : Mly} {i a : Nat} {t u : F12} (h : (List.range a).foldl (dx m i) t = u) : (List.range (a + 1)).foldl (dx m i) t = dx m i u a := by
  rw [List.range_succ, List.foldl_append, h]; rfl
theorem xO {m : Mly} {l : List Int} {k a : Nat} {Q Q2 : List SS} {r : Option (List Int)} (hrun : (gD m (4097 - k) k ⟨Q, none⟩).res = m5 m l) (hk : k < Q.length) (hle : Q.length ≤ 4096) (ha : a < m.inp.toNat) (hf : (List.range a).foldl (dx m k) ⟨Q, none⟩ = ⟨Q2, none⟩) (hr : (dx m k ⟨Q2, none⟩ a).res = some r) : fdW m l = r := by
  unfold fdW
  rw [← hrun, show 4097 - k = (4096 - k) + 1 by omega, qR rfl hk, wV ha hf hr, sW hr, hr]; rfl
theorem Cj {m : Mly} {l : List Int} {k : Nat} {Q : List SS} (hrun : (gD m (4097 - k) k ⟨Q, none⟩).res = m5 m l) (hk : ¬ k < Q.length) : fdW m l = none := by
  unfold fdW
  rw [← hrun, vZ hk]; rfl
theorem B3 {m : Mly} {l : List Int} {k : Nat} {Q Q2 : List SS} (hrun : (gD m (4097 - k) k ⟨Q, none⟩).res = m5 m l) (hk : k < Q.length) (hle : Q.length ≤ 4096) (hf : (List.range m.inp.toNat).foldl (dx m k) ⟨Q, none⟩ = ⟨Q2, none⟩) : (gD m (4097 - (k + 1)) (k + 1) ⟨Q2, none⟩).res = m5 m l := by
  rw [← hrun, show 4097 - k = (4097 - (k + 1)) + 1 by omega, qR rfl hk]
  unfold jI; rw [hf]
/-plain-/
def ouL (m : Mly) (l : List Int) (a : Int) : List Int := l.map fun s => m.out s a
theorem sV {m : Mly} {l : List Int} {a : Int} {k : Nat} (h : k < l.length) : ouL m (l.take (k + 1)) a = ouL m (l.take k) a ++ [m.out (l.getD k 0) a] := by
  unfold ouL; rw [dc h, List.map_append]; rfl
/-plain-/
def pkL (l at_ : List Int) : List Int := at_.map fun x => l.getD x.toNat 0
def ptL (m : Mly) (l : List Int) (a o : Int) (k : Nat) : List Int := ((List.range k).filter fun (q : Nat) => decide (m.out (l.getD q 0) a = o)).map fun (q : Nat) => (q : Int)
theorem vf {m : Mly} {l : List Int} {a o : Int} {k : Nat} (h : m.out (l.getD k 0) a = o) : ptL m l a o (k + 1) = ptL m l a o k ++ [(k : Int)] := by
  unfold ptL; rw [List.range_succ, List.filter_append, List.filter_cons_of_pos (by simpa using h), List.map_append]; rfl
theorem xj {m : Mly} {l : List Int} {a o : Int} {k : Nat} (h : ¬ m.out (l.getD k 0) a = o) : ptL m l a o (k + 1) = ptL m l a o k := by
  unfold ptL; rw [List.range_succ, List.filter_append, List.filter_cons_of_neg (by simpa using h), List.filter_nil, List.append_nil]
theorem uR (m : Mly) (l : List Int) (a o : Int) (k : Nat) : (ptL m l a o k).length ≤ k := by
  unfold ptL; rw [aw]; exact Nat.le_trans (List.length_filter_le _ _) (by simp)
/-plain-/
theorem jO {xs : List Int} {o : Int} (h : o ∈ xs) : xs.getD (pos xs o) 0 = o := by rw [List.getD, jl h]; rfl
def xL (x : Int) : Bool := !decide (x = x)
theorem p5 (x : Int) : xL x = false := by simp [xL]
theorem BM {xs : List Int} (h : xs.Pairwise (· < ·)) {o : Int} {k : Nat} (ho : o ∈ xs) (h1 : ∀ q, q < k → xs.getD q 0 < o) (h2 : ∀ q, k ≤ q → q < xs.length → o ≤ xs.getD q 0) : k = pos xs o ∧ xs.getD k 0 = o ∧ k < xs.length := by
  have hp := gS ho
  have hg : xs.getD (pos xs o) 0 = o := by rw [List.getD, jl ho]; rfl
  have hk : ¬ pos xs o < k := fun hh => by have := h1 _ hh; omega
  have hk2 : k < xs.length := by omega
  have e : xs.getD k 0 = o := by
    have h3 := h2 k (Nat.le_refl _) hk2
    by_cases e : k = pos xs o
    · rw [e]; exact hg
    · have := List.pairwise_iff_getElem.1 h k (pos xs o) hk2 hp (by omega)
      have a1 : xs.getD k 0 = xs[k] := by simp [List.getD, hk2]
      have a2 : xs.getD (pos xs o) 0 = xs[pos xs o] := by simp [List.getD, hp]
      omega
  refine ⟨?_, e, hk2⟩
  by_cases e2 : k = pos xs o
  · exact e2
  · have := List.pairwise_iff_getElem.1 h k (pos xs o) hk2 hp (by omega)
    have a1 : xs.getD k 0 = xs[k] := by simp [List.getD, hk2]
    have a2 : xs.getD (pos xs o) 0 = xs[pos xs o] := by simp [List.getD, hp]
    omega
theorem qX {xs : List Int} (h : xs.Pairwise (· < ·)) {o : Int} {h9 : Nat} (hh : h9 < xs.length) (hv : xs.getD h9 0 < o) : ∀ q, q < h9 + 1 → xs.getD q 0 < o := fun q hq => by
  by_cases e : q = h9
  · rw [e]; exact hv
  · have := List.pairwise_iff_getElem.1 h q h9 (by omega) hh (by omega)
    have a1 : xs.getD h9 0 = xs[h9] := by simp [List.getD, hh]
    have a2 : xs.getD q 0 = xs[q] := by simp [List.getD, show q < xs.length by omega]
    omega
theorem pa {xs : List Int} (h : xs.Pairwise (· < ·)) {o : Int} {h9 : Nat} (hh : h9 < xs.length) (hv : ¬ xs.getD h9 0 < o) : ∀ q, h9 ≤ q → q < xs.length → o ≤ xs.getD q 0 := fun q hq hl => by
  by_cases e : q = h9
  · rw [e]; omega
  · have := List.pairwise_iff_getElem.1 h h9 q hh hl (by omega)
    have a1 : xs.getD h9 0 = xs[h9] := by simp [List.getD, hh]
    have a2 : xs.getD q 0 = xs[q] := by simp [List.getD, hl]
    omega
/-plain-/
def cw (m : Mly) (ini cur : List Int) (a : Int) (i : Nat) (o : Int) : List Int := pkL ini (ptL m cur a o i)
def bV (m : Mly) (cur : List Int) (a : Int) (i : Nat) (o : Int) : List Int := cO m (pkL cur (ptL m cur a o i)) a
def ew (m : Mly) (ini cur : List Int) (a : Int) (i : Nat) (ks : List Int) : List (List Int) := ks.flatMap fun o => [cw m ini cur a i o, bV m cur a i o]
theorem er (m : Mly) (ini cur : List Int) (a : Int) (i : Nat) (o : Int) (ks : List Int) : ew m ini cur a i (o :: ks) = cw m ini cur a i o :: bV m cur a i o :: ew m ini cur a i ks := rfl
theorem mX (m : Mly) (ini cur : List Int) (a : Int) (i : Nat) : ∀ ks : List Int, (ew m ini cur a i ks).length = 2 * ks.length
  | [] => rfl
  | o :: ks => by rw [er]; simp only [ax, mX m ini cur a i ks]; omega
theorem xv (m : Mly) (ini cur : List Int) (a : Int) : ∀ ks : List Int, ew m ini cur a 0 ks = List.replicate (2 * ks.length) []
  | [] => rfl
  | o :: ks => by
    rw [er, xv m ini cur a ks, ax, show 2 * (ks.length + 1) = 2 * ks.length + 1 + 1 by omega, List.replicate_succ, List.replicate_succ]
    rfl
theorem pI {m : Mly} {ini cur : List Int} {a : Int} {i : Nat} : ∀ {ks : List Int} {k : Nat}, k < ks.length → (ew m ini cur a i ks).getD (2 * k) [] = cw m ini cur a i (ks.getD k 0)
  | o :: ks, 0, _ => rfl
  | o :: ks, k + 1, h => by
    rw [er, show 2 * (k + 1) = 2 * k + 1 + 1 by omega]
    have := pI (m := m) (ini := ini) (cur := cur) (a := a) (i := i) (ks := ks) (k := k) (by simpa using h)
    simpa [List.getD] using this
  | [], _, h => by simp at h
theorem qV {m : Mly} {ini cur : List Int} {a : Int} {i : Nat} : ∀ {ks : List Int} {k : Nat}, k < ks.length → (ew m ini cur a i ks).getD (2 * k + 1) [] = bV m cur a i (ks.getD k 0)
  | o :: ks, 0, _ => rfl
  | o :: ks, k + 1, h => by
    rw [er, show 2 * (k + 1) + 1 = 2 * k + 1 + 1 + 1 by omega]
    have := qV (m := m) (ini := ini) (cur := cur) (a := a) (i := i) (ks := ks) (k := k) (by simpa using h)
    simpa [List.getD] using this
  | [], _, h => by simp at h
theorem w4 {m : Mly} {ini cur : List Int} {a o : Int} {i : Nat} (h : ¬ m.out (cur.getD i 0) a = o) : cw m ini cur a (i + 1) o = cw m ini cur a i o ∧ bV m cur a (i + 1) o = bV m cur a i o := by
  unfold cw bV; rw [xj h]; exact ⟨rfl, rfl⟩
theorem BO {m : Mly} {ini cur : List Int} {a o : Int} {i : Nat} (h : m.out (cur.getD i 0) a = o) : cw m ini cur a (i + 1) o = cw m ini cur a i o ++ [ini.getD i 0] ∧ bV m cur a (i + 1) o = bV m cur a i o ++ [m.nxt (cur.getD i 0) a] := by
  unfold cw bV cO pkL; rw [vf h]; simp
theorem mw {m : Mly} {ini cur : List Int} {a : Int} {i : Nat} : ∀ {ks : List Int}, (∀ o ∈ ks, ¬ m.out (cur.getD i 0) a = o) → ew m ini cur a (i + 1) ks = ew m ini cur a i ks
  | [], _ => rfl
  | o :: ks, h => by
    have := w4 (ini := ini) (h o (aV ..))
    rw [er, er, this.1, this.2, mw fun o ho => h o (aM _ ho)]
theorem pZ {m : Mly} {ini cur : List Int} {a : Int} {i : Nat} : ∀ {ks : List Int} {k : Nat}, ks.Pairwise (· < ·) → k < ks.length → m.out (cur.getD i 0) a = ks.getD k 0 →
    ew m ini cur a (i + 1) ks = ((ew m ini cur a i ks).set (2 * k) (cw m ini cur a i (ks.getD k 0) ++ [ini.getD i 0])).set (2 * k + 1) (bV m cur a i (ks.getD k 0) ++ [m.nxt (cur.getD i 0) a])
  | o :: ks, 0, hp, _, he => by
    have he2 : m.out (cur.getD i 0) a = o := he
    have hg := BO (ini := ini) he2
    rw [er, er, hg.1, hg.2, mw fun o' ho' e => by have := (List.pairwise_cons.1 hp).1 o' ho'; omega]
    rfl
  | o :: ks, k + 1, hp, hk, he => by
    have hk2 : k < ks.length := by simpa using hk
    have he2 : m.out (cur.getD i 0) a = ks.getD k 0 := by simpa [List.getD] using he
    have hlt := (List.pairwise_cons.1 hp).1 _ (br hk2)
    have hg := w4 (m := m) (ini := ini) (cur := cur) (a := a) (o := o) (i := i) (by omega)
    have hc : (o :: ks).getD (k + 1) 0 = ks.getD k 0 := by simp [List.getD]
    rw [er, er, hg.1, hg.2, pZ (List.pairwise_cons.1 hp).2 hk2 he2, hc, show 2 * (k + 1) = 2 * k + 1 + 1 by omega]
    rfl
  | [], _, _, h, _ => by simp at h
theorem w8 {F : List (List Int)} {i j : Nat} {y : List Int} (h : i ≠ j) : (F.set i y).getD j [] = F.getD j [] := by
  rw [List.getD, List.getD, List.getElem?_set_ne h]
abbrev Ca := List Int × (List Int × Unit)
def mh (m : Mly) (ini cur : List Int) (a : Int) (ks : List Int) : List Ca := ks.map fun o => (cw m ini cur a cur.length o, (bV m cur a cur.length o, ()))
theorem sG (m : Mly) (ini cur : List Int) (a : Int) : ∀ ks : List Int, (ew m ini cur a cur.length ks).map (fun l => AC.list (.int .i64) l) = (mh m ini cur a ks).flatMap (acs (.pair (.list (.int .i64)) (.pair (.list (.int .i64)) .unit)))
  | [] => rfl
  | o :: ks => by rw [er, aJ, aJ, sG m ini cur a ks]; rfl
theorem qW : ∀ n : Nat, rep [AC.nils, AC.nils] n = List.replicate (2 * n) .nils
  | 0 => rfl
  | n + 1 => by
    show [AC.nils, AC.nils] ++ rep [AC.nils, AC.nils] n = _
    rw [qW n, show 2 * (n + 1) = 2 * n + 1 + 1 by omega, List.replicate_succ, List.replicate_succ]; rfl
theorem qC4 {F : List (List Int)} {i : Nat} (h : i < F.length) : (cv 4 F).getD i .junk = .row (i + 1 + 1 + 1 + 1) (F.getD i []).length := by
  rw [tq h, Nat.add_comm]
theorem qW4 {F : List (List Int)} {i : Nat} {ys : List Int} (h : i < F.length) : bY (cv 4 F) i [.row (i + 1 + 1 + 1 + 1) ys.length] = cv 4 (F.set i ys) := by
  rw [← rd h, Nat.add_comm 4 i]
theorem BJ {m : Mly} {ini cur : List Int} {a o : Int} {i : Nat} : (cw m ini cur a i o).length ≤ i := by
  unfold cw pkL; rw [aw]; exact uR m cur a o i
theorem mv {m : Mly} {cur : List Int} {a o : Int} {i : Nat} : (bV m cur a i o).length ≤ i := by
  unfold bV cO pkL; rw [aw, aw]; exact uR m cur a o i
/-plain-/
abbrev dX := Int × (Int × Unit)
abbrev bj := List Int × (Int × (List dX × Unit))
abbrev kdT : Ty := .pair (.int .i64) (.pair (.int .i64) .unit)
abbrev ndT : Ty := .pair (.list (.int .i64)) (.pair (.int .i64) (.pair (.list (.pair (.int .i64) (.pair (.int .i64) .unit))) .unit))
def gF (m : Mly) (ini cur w : List Int) : List Int := if w.length = 0 ∧ 1 < ini.length then (fdW m cur).getD [] else w
def dN (n : Nat) (rec : List Int → List Int → Nat → List bj) (m : Mly) (ini cur : List Int) (a : Int) (t : List bj × List dX) (o : Int) : List bj × List dX :=
  if 4096 < n + 1 + t.1.length then t else (t.1 ++ rec (cw m ini cur a cur.length o) (bV m cur a cur.length o) (n + 1 + t.1.length), t.2 ++ [(o, ((n + 1 + t.1.length : Nat) : Int), ())])
def cI (m : Mly) : Nat → List Int → List Int → List Int → Nat → List bj
  | 0, _, _, _, _ => []
  | f + 1, ini, cur, w, n => if 4096 < n + 1 then [(ini, -1, [], ())] else
    match gF m ini cur w with
    | [] => [(ini, -1, [], ())]
    | a :: w2 => (ini, a, ((aG (ouL m cur a)).foldl (dN n (fun i c k => cI m f i c w2 k) m ini cur a) ([], [])).2, ()) :: ((aG (ouL m cur a)).foldl (dN n (fun i c k => cI m f i c w2 k) m ini cur a) ([], [])).1
theorem eX {m : Mly} {f n : Nat} {ini cur w : List Int} (h : 4096 < n + 1) : cI m (f + 1) ini cur w n = [(ini, -1, [], ())] := by
  rw [cI, if_pos h]
theorem eS {m : Mly} {f n : Nat} {ini cur w : List Int} (h : ¬ 4096 < n + 1) (h2 : gF m ini cur w = []) : cI m (f + 1) ini cur w n = [(ini, -1, [], ())] := by
  rw [cI, if_neg h, h2]
theorem da {m : Mly} {f n : Nat} {ini cur w w2 : List Int} {a : Int} (h : ¬ 4096 < n + 1) (h2 : gF m ini cur w = a :: w2) :
    cI m (f + 1) ini cur w n = (ini, a, ((aG (ouL m cur a)).foldl (dN n (fun i c k => cI m f i c w2 k) m ini cur a) ([], [])).2, ()) :: ((aG (ouL m cur a)).foldl (dN n (fun i c k => cI m f i c w2 k) m ini cur a) ([], [])).1 := by
  rw [cI, if_neg h, h2]
theorem rZ {n : Nat} {rec : List Int → List Int → Nat → List bj} {m : Mly} {ini cur : List Int} {a : Int} {t : List bj × List dX} (h : 4096 < n + 1 + t.1.length) : ∀ ks : List Int, ks.foldl (dN n rec m ini cur a) t = t
  | [] => rfl
  | o :: ks => by
    have e : dN n rec m ini cur a t o = t := if_pos h
    rw [List.foldl_cons, e]; exact rZ h ks
theorem gg {n : Nat} {rec : List Int → List Int → Nat → List bj} {m : Mly} {ini cur : List Int} {a : Int} {ks : List Int} {i : Nat} {t : List bj × List dX} (h : (ks.take i).foldl (dN n rec m ini cur a) ([], []) = t) (h2 : 4096 < n + 1 + t.1.length) : ks.foldl (dN n rec m ini cur a) ([], []) = t := by
  have e : ks = ks.take i ++ ks.drop i := (List.take_append_drop i ks).symm
  rw [e, List.foldl_append, h]; exact rZ h2 _
theorem mW {n : Nat} {rec : List Int → List Int → Nat → List bj} {m : Mly} {ini cur : List Int} {a : Int} {ks : List Int} {i : Nat} {D : List bj} {K : List dX} (hi : i < ks.length) (h : (ks.take i).foldl (dN n rec m ini cur a) ([], []) = (D, K)) (h2 : ¬ 4096 < n + 1 + D.length) :
    (ks.take (i + 1)).foldl (dN n rec m ini cur a) ([], []) = (D ++ rec (cw m ini cur a cur.length (ks.getD i 0)) (bV m cur a cur.length (ks.getD i 0)) (n + 1 + D.length), K ++ [(ks.getD i 0, ((n + 1 + D.length : Nat) : Int), ())]) := by
  rw [dc hi, List.foldl_append, h]
  show dN n rec m ini cur a (D, K) _ = _
  exact if_neg h2
def dD (m : Mly) (w : List Int) : Prop := ∀ x ∈ w, 0 ≤ x ∧ x < m.inp
structure FW (m : Mly) (t : F12) : Prop where
  q : ∀ s ∈ t.Q, dD m s.2
  r : ∀ w, t.res = some (some w) → dD m w ∧ w ≠ []
theorem vi {m : Mly} {Q : List SS} {i a : Nat} (h : ∀ s ∈ Q, dD m s.2) (ha : a < m.inp.toNat) : dD m (eI Q i a) := by
  unfold eI
  intro x hx
  rcases List.mem_append.1 hx with q | q
  · by_cases e : i < Q.length
    · exact h (Q.getD i ss0) (by simp [List.getD, e]) x q
    · have e2 : Q.getD i ss0 = ss0 := by simp [List.getD, List.getElem?_eq_none (show Q.length ≤ i by omega)]
      rw [e2] at q; cases q
  · rw [List.mem_singleton] at q; omega
theorem Cw {m : Mly} {t : F12} {i a : Nat} (h : FW m t) (ha : a < m.inp.toNat) : FW m (dx m i t a) := by
  unfold dx
  split
  · exact h
  · rename_i hr
    split
    · exact h
    · split
      · refine ⟨h.q, fun w hw => ?_⟩
        simp only [Option.some.injEq] at hw
        subst hw
        exact ⟨vi h.q ha, by unfold eI; simp⟩
      · split
        · exact h
        · split
          · exact ⟨h.q, fun w hw => by simp at hw⟩
          · refine ⟨fun s hs => ?_, fun w hw => by simp at hw⟩
            rcases List.mem_append.1 hs with q | q
            · exact h.q s q
            · rw [List.mem_singleton] at q; rw [q]; exact vi h.q ha
theorem vI {m : Mly} {i : Nat} : ∀ (xs : List Nat) {t : F12}, FW m t → (∀ a ∈ xs, a < m.inp.toNat) → FW m (xs.foldl (dx m i) t)
  | [], _, h, _ => h
  | a :: xs, t, h, hx => vI xs (Cw h (hx a (aV ..))) fun b hb => hx b (aM _ hb)
theorem Aw {m : Mly} : ∀ (f i : Nat) {t : F12}, FW m t → FW m (gD m f i t)
  | 0, _, _, h => h
  | f + 1, i, t, h => by
    show FW m (if _ then _ else _)
    split
    · exact h
    · split
      · exact Aw f (i + 1) (vI _ h fun a ha => List.mem_range.1 ha)
      · exact h
theorem vd (m : Mly) (l : List Int) : dD m ((fdW m l).getD []) ∧ ((fdW m l).getD [] = [] → fdW m l = none) := by
  have h := Aw (m := m) 4097 0 (t := ⟨[(l, [])], none⟩) ⟨fun s hs => (by rw [List.mem_singleton] at hs; rw [hs]; intro x hx; exact absurd hx (by simp)), fun w hw => (by simp at hw)⟩
  unfold fdW m5
  cases hr : (gD m 4097 0 ⟨[(l, [])], none⟩).res with
  | none => exact ⟨fun x hx => by simp at hx, fun _ => rfl⟩
  | some r =>
    cases r with
    | none => exact ⟨fun x hx => by simp at hx, fun _ => rfl⟩
    | some w =>
      obtain ⟨h1, h2⟩ := h.r w hr
      exact ⟨h1, fun e => absurd e h2⟩
theorem xy {m : Mly} {ini cur w : List Int} (h : dD m w) : dD m (gF m ini cur w) := by
  unfold gF; split
  · exact (vd m cur).1
  · exact h
theorem mI {m : Mly} {cur : List Int} {a o x : Int} {i : Nat} : x ∈ ptL m cur a o i ↔ ∃ q : Nat, q < i ∧ m.out (cur.getD q 0) a = o ∧ (q : Int) = x := by
  unfold ptL
  simp only [List.mem_map, List.mem_filter, List.mem_range, decide_eq_true_eq]
  constructor
  · rintro ⟨q, ⟨h1, h2⟩, h3⟩; exact ⟨q, h1, h2, h3⟩
  · rintro ⟨q, h1, h2, h3⟩; exact ⟨q, ⟨h1, h2⟩, h3⟩
theorem mu {m : Mly} {cur : List Int} {a o : Int} (h : o ∈ aG (ouL m cur a)) : 0 < (bV m cur a cur.length o).length := by
  have h1 := ((dC (ouL m cur a)).2 o).1 h
  unfold ouL at h1
  obtain ⟨s, hs, rfl⟩ := List.mem_map.1 h1
  obtain ⟨q, hq, rfl⟩ := nQ.1 hs
  unfold bV cO pkL
  rw [aw, aw]
  exact List.length_pos_of_mem (mI.2 ⟨q, hq, rfl, rfl⟩)
theorem fA (m : Mly) (ini cur : List Int) (a o : Int) (i : Nat) : (cw m ini cur a i o).length = (bV m cur a i o).length := by
  unfold cw bV cO pkL; simp
theorem jA {m : Mly} (hm : MOK m) {cur : List Int} {a o : Int} (ha : 0 ≤ a ∧ a < m.inp) (h : dm m cur) : dm m (bV m cur a cur.length o) := by
  unfold bV
  refine (tA hm ha ?_).1
  intro s hs
  unfold pkL at hs
  obtain ⟨x, hx, rfl⟩ := List.mem_map.1 hs
  obtain ⟨q, hq, _, rfl⟩ := mI.1 hx
  rw [ai]
  exact h _ (br hq)
theorem xa {n : Nat} {rec : List Int → List Int → Nat → List bj} {m : Mly} {ini cur : List Int} {a : Int} (hr : ∀ i c k, k ≤ 4096 → k + (rec i c k).length ≤ 4097) : ∀ (ks : List Int) {t : List bj × List dX}, n + 1 + t.1.length ≤ 4097 → n + 1 + (ks.foldl (dN n rec m ini cur a) t).1.length ≤ 4097
  | [], _, h => h
  | o :: ks, t, h => by
    rw [List.foldl_cons]
    refine xa hr ks ?_
    unfold dN
    split
    · exact h
    · have := hr (cw m ini cur a cur.length o) (bV m cur a cur.length o) (n + 1 + t.1.length) (by omega)
      simp only [ar]; omega
theorem mF (m : Mly) : ∀ (f : Nat) (ini cur w : List Int) (n : Nat), n ≤ 4096 → n + (cI m f ini cur w n).length ≤ 4097
  | 0, _, _, _, n, h => by simp only [cI, aI]; omega
  | f + 1, ini, cur, w, n, h => by
    by_cases e : 4096 < n + 1
    · rw [eX e]; simp only [ax, aI]; omega
    · cases hw : gF m ini cur w with
      | nil => rw [eS e hw]; simp only [ax, aI]; omega
      | cons a w2 =>
        rw [da e hw, ax]
        have := xa (n := n) (rec := fun i c k => cI m f i c w2 k) (m := m) (ini := ini) (cur := cur) (a := a) (fun i c k hk => mF m f i c w2 k hk) (aG (ouL m cur a)) (t := ([], [])) (by simp only [aI]; omega)
        omega
theorem tU {m : Mly} {ini cur : List Int} {a : Int} {ks : List Int} {i : Nat} (h : i < ks.length) (d : Ca) : (mh m ini cur a ks).getD i d = (cw m ini cur a cur.length (ks.getD i 0), (bV m cur a cur.length (ks.getD i 0), ())) := by
  unfold mh; simp [List.getD, h]
theorem aP (m : Mly) (ini cur : List Int) (a : Int) (ks : List Int) : (mh m ini cur a ks).length = ks.length := aw ..
def ndC (D : List bj) : List AC := D.flatMap (acs ndT)
theorem kR (x : bj) (D : List bj) : ndC (x :: D) = .list (.int .i64) x.1 :: .int .i64 x.2.1 :: .list kdT x.2.2.1 :: ndC D := rfl
theorem i6 (D E : List bj) : ndC (D ++ E) = ndC D ++ ndC E := List.flatMap_append
theorem bm : ∀ D : List bj, (ndC D).length = D.length * 3
  | [] => rfl
  | x :: D => by rw [kR]; simp only [ax, bm D]; omega
def eR (fl : List Value) : List AC := fl.map .exact
theorem aU (fl : List Value) : (eR fl).length = fl.length := aw ..
theorem cQ (n : Nat) : ∀ fl : List Value, (eR fl).all (bM n) = true
  | [] => rfl
  | v :: fl => by
    show (bM n (.exact v) && (eR fl).all (bM n)) = true
    rw [cQ n fl]; rfl
theorem dP (n : Nat) : ∀ D : List bj, (ndC D).all (bM n) = true
  | [] => rfl
  | x :: D => by
    rw [kR]
    show (true && (true && (true && (ndC D).all (bM n)))) = true
    rw [dP n D]; rfl
theorem p9 {k v : Nat} {t : Ty} {xs : List t.den} : ∀ fl : List Value, (eR fl).map (frC k v t xs) = eR fl
  | [] => rfl
  | x :: fl => by
    show frC k v t xs (.exact x) :: (eR fl).map (frC k v t xs) = _
    rw [p9 fl]; rfl
theorem vl {k v : Nat} {t : Ty} {xs : List t.den} : ∀ D : List bj, (ndC D).map (frC k v t xs) = ndC D
  | [] => rfl
  | x :: D => by rw [kR, aJ, aJ, aJ, vl D]; rfl
theorem zL {X : List AC} {k : Nat} {x y z c : AC} {D : List AC} (h : X.length = k) : bY (X ++ x :: y :: z :: D) (k + 1) [c] = X ++ x :: c :: z :: D := by
  subst h
  unfold bY
  rw [List.take_append, List.take_of_length_le (by omega), List.drop_append, List.drop_eq_nil_of_le (by simp; omega)]
  simp [show X.length + 1 - X.length = 1 by omega, show X.length + 1 + 1 - X.length = 2 by omega]
theorem Aj {X : List AC} {k : Nat} {x y z c : AC} {D : List AC} (h : X.length = k) : bY (X ++ x :: y :: z :: D) (k + 2) [c] = X ++ x :: y :: c :: D := by
  subst h
  unfold bY
  rw [List.take_append, List.take_of_length_le (by omega), List.drop_append, List.drop_eq_nil_of_le (by simp; omega)]
  simp [show X.length + 2 - X.length = 2 by omega, show X.length + 2 + 1 - X.length = 3 by omega]
theorem z8 {X : List AC} {k : Nat} {x y z d : AC} {D : List AC} (h : X.length = k) : (X ++ x :: y :: z :: D).getD (k + 2) d = z := by
  subst h; simp [List.getD]
theorem Cg {X : List AC} {k : Nat} {x y z : AC} {D : List AC} (h : X.length = k) : (X ++ x :: y :: z :: D)[k + 2]? = some z := by
  subst h; simp
theorem Cc {X : List AC} {k : Nat} {x y z c : AC} {D : List AC} (h : X.length = k) : (X ++ x :: y :: z :: D).set (k + 2) c = X ++ x :: y :: c :: D := by
  subst h; rw [List.set_append_right _ _ (by omega)]; simp
theorem fr3 {fl : List Value} {v : Nat} {ini : List Int} {a : Int} {K : List dX} {D : List bj} : (eR fl ++ .list (.int .i64) ini :: .int .i64 a :: .row 3 v :: ndC D).map (frC 3 v kdT K) = eR fl ++ ndC ((ini, a, K, ()) :: D) := by
  rw [List.map_append, p9, aJ, aJ, aJ, vl, kR]
  simp only [frC, and_self, if_true]
/-plain-/
theorem og {xs : List Int} : (aG xs).length = xs.length ↔ xs.Nodup := by
  have hu := dC xs
  have hun : (aG xs).Nodup := hu.1.imp fun h e => by omega
  constructor
  · intro he
    by_cases hn : xs.Nodup
    · exact hn
    · exfalso
      have key : ∀ ys : List Int, ¬ ys.Nodup → ∃ zs : List Int, zs.length + 1 = ys.length ∧ ∀ x, x ∈ ys → x ∈ zs := by
        intro ys
        induction ys with
        | nil => intro h; exact absurd List.nodup_nil h
        | cons y ys ih =>
          intro h
          by_cases hy : y ∈ ys
          · exact ⟨ys, rfl, fun x hx => by rcases List.mem_cons.1 hx with rfl | hx <;> assumption⟩
          · have hny : ¬ ys.Nodup := fun h2 => h (List.nodup_cons.2 ⟨hy, h2⟩)
            obtain ⟨zs, h1, h2⟩ := ih hny
            exact ⟨y :: zs, by simp only [ax]; omega, fun x hx => by
              rcases List.mem_cons.1 hx with rfl | hx
              · exact aV ..
              · exact aM _ (h2 x hx)⟩
      obtain ⟨zs, h1, h2⟩ := key xs hn
      have := eM (aG xs) zs hun fun x hx => h2 x ((hu.2 x).1 hx)
      omega
  · intro hn
    have h1 := eM xs (aG xs) hn fun x hx => (hu.2 x).2 hx
    have h2 := iq xs
    omega
def nd0 : bj := ([], (0, ([], ())))
def kd0 : dX := (0, (0, ()))
def fD (m : Mly) (rec : Nat → List Int → List Int → Option Nat) (ini cur : List Int) (x : bj) (e : Option Nat) (i : Nat) : Option Nat :=
  match e with
  | none => none
  | some n => if (x.2.2.1.getD i kd0).1 = (aG (ouL m cur x.2.1)).getD i 0 ∧ (x.2.2.1.getD i kd0).2.1 = (n : Int) then
      rec n (cw m ini cur x.2.1 cur.length ((aG (ouL m cur x.2.1)).getD i 0)) (bV m cur x.2.1 cur.length ((aG (ouL m cur x.2.1)).getD i 0)) else none
def rtF (m : Mly) (T : List bj) : Nat → Nat → List Int → List Int → Option Nat
  | 0, _, _, _ => none
  | f + 1, p, ini, cur =>
    if p < T.length ∧ (T.getD p nd0).1 = ini ∧ cur.Nodup then
      (if (T.getD p nd0).2.1 = -1 then (if (T.getD p nd0).2.2.1.length = 0 then some (p + 1) else none) else
       if 0 ≤ (T.getD p nd0).2.1 ∧ (T.getD p nd0).2.1 < m.inp ∧ (aG (ouL m cur (T.getD p nd0).2.1)).length = (T.getD p nd0).2.2.1.length then
         (List.range (T.getD p nd0).2.2.1.length).foldl (fD m (rtF m T f) ini cur (T.getD p nd0)) (some (p + 1)) else none)
    else none
theorem jB {m : Mly} {rec : Nat → List Int → List Int → Option Nat} {ini cur : List Int} {x : bj} : ∀ is : List Nat, is.foldl (fD m rec ini cur x) none = none
  | [] => rfl
  | i :: is => jB is
theorem eT {m : Mly} {T : List bj} : ∀ {f p : Nat} {ini cur : List Int} {n : Nat}, rtF m T f p ini cur = some n → p < n ∧ n ≤ T.length
  | 0, _, _, _, _, h => by cases h
  | f + 1, p, ini, cur, n, h => by
    rw [rtF] at h
    split at h
    · rename_i h1
      split at h
      · split at h
        · simp only [Option.some.injEq] at h; omega
        · cases h
      · split at h
        · have key : ∀ (is : List Nat) (e : Nat), p < e ∧ e ≤ T.length → is.foldl (fD m (rtF m T f) ini cur (T.getD p nd0)) (some e) = some n → p < n ∧ n ≤ T.length := by
            intro is
            induction is with
            | nil => intro e he h2; simp only [List.foldl_nil, Option.some.injEq] at h2; omega
            | cons i is ih =>
              intro e he h2
              rw [List.foldl_cons] at h2
              unfold fD at h2
              simp only at h2
              split at h2
              · cases hr : rtF m T f e (cw m ini cur (T.getD p nd0).2.1 cur.length ((aG (ouL m cur (T.getD p nd0).2.1)).getD i 0)) (bV m cur (T.getD p nd0).2.1 cur.length ((aG (ouL m cur (T.getD p nd0).2.1)).getD i 0)) with
                | none =>
                  rw [hr] at h2
                  have := jB (m := m) (rec := rtF m T f) (ini := ini) (cur := cur) (x := T.getD p nd0) is
                  unfold fD at this
                  rw [this] at h2; cases h2
                | some e2 =>
                  rw [hr] at h2
                  have := eT hr
                  exact ih e2 ⟨by omega, by omega⟩ (by unfold fD; exact h2)
              · have := jB (m := m) (rec := rtF m T f) (ini := ini) (cur := cur) (x := T.getD p nd0) is
                unfold fD at this
                rw [this] at h2; cases h2
          exact key _ _ ⟨by omega, by omega⟩ h
        · cases h
    · cases h
theorem oX {m : Mly} {T : List bj} {f p : Nat} {ini cur : List Int} (h : ¬ (p < T.length ∧ (T.getD p nd0).1 = ini ∧ cur.Nodup)) : rtF m T (f + 1) p ini cur = none := by
  rw [rtF, if_neg h]
theorem dH {m : Mly} {T : List bj} {f p : Nat} {ini cur : List Int} (h : p < T.length ∧ (T.getD p nd0).1 = ini ∧ cur.Nodup) (h2 : (T.getD p nd0).2.1 = -1) : rtF m T (f + 1) p ini cur = if (T.getD p nd0).2.2.1.length = 0 then some (p + 1) else none := by
  rw [rtF, if_pos h, if_pos h2]
theorem pQ {m : Mly} {T : List bj} {f p : Nat} {ini cur : List Int} (h2 : ¬ (T.getD p nd0).2.1 = -1) (h3 : ¬ (0 ≤ (T.getD p nd0).2.1 ∧ (T.getD p nd0).2.1 < m.inp ∧ (aG (ouL m cur (T.getD p nd0).2.1)).length = (T.getD p nd0).2.2.1.length)) : rtF m T (f + 1) p ini cur = none := by
  by_cases h : p < T.length ∧ (T.getD p nd0).1 = ini ∧ cur.Nodup
  · rw [rtF, if_pos h, if_neg h2, if_neg h3]
  · exact oX h
theorem nz {m : Mly} {T : List bj} {f p : Nat} {ini cur : List Int} (h : p < T.length ∧ (T.getD p nd0).1 = ini ∧ cur.Nodup) (h2 : ¬ (T.getD p nd0).2.1 = -1) (h3 : 0 ≤ (T.getD p nd0).2.1 ∧ (T.getD p nd0).2.1 < m.inp ∧ (aG (ouL m cur (T.getD p nd0).2.1)).length = (T.getD p nd0).2.2.1.length) :
    rtF m T (f + 1) p ini cur = (List.range (T.getD p nd0).2.2.1.length).foldl (fD m (rtF m T f) ini cur (T.getD p nd0)) (some (p + 1)) := by
  rw [rtF, if_pos h, if_neg h2, if_pos h3]
theorem rY {m : Mly} {rec : Nat → List Int → List Int → Option Nat} {ini cur : List Int} {x : bj} {i n e : Nat} {s : Option Nat} (hi : i < n) (h : (List.range i).foldl (fD m rec ini cur x) s = some e) (h2 : fD m rec ini cur x (some e) i = none) : (List.range n).foldl (fD m rec ini cur x) s = none := by
  have e9 : List.range n = List.range (i + 1) ++ (List.range (n - (i + 1))).map ((i + 1) + ·) := by rw [← List.range_add]; congr 1; omega
  rw [e9, List.foldl_append, List.range_succ, List.foldl_append, h, List.foldl_cons, List.foldl_nil, h2]
  exact jB _
theorem pR {m : Mly} {rec : Nat → List Int → List Int → Option Nat} {ini cur : List Int} {x : bj} {i e : Nat} {s r : Option Nat} (h : (List.range i).foldl (fD m rec ini cur x) s = some e) (h2 : fD m rec ini cur x (some e) i = r) : (List.range (i + 1)).foldl (fD m rec ini cur x) s = r := by
  rw [List.range_succ, List.foldl_append, h, List.foldl_cons, List.foldl_nil, h2]
theorem kL {m : Mly} {rec : Nat → List Int → List Int → Option Nat} {ini cur : List Int} {x : bj} {e i : Nat} (h : (x.2.2.1.getD i kd0).1 = (aG (ouL m cur x.2.1)).getD i 0 ∧ (x.2.2.1.getD i kd0).2.1 = (e : Int)) :
    fD m rec ini cur x (some e) i = rec e (cw m ini cur x.2.1 cur.length ((aG (ouL m cur x.2.1)).getD i 0)) (bV m cur x.2.1 cur.length ((aG (ouL m cur x.2.1)).getD i 0)) := if_pos h
theorem qt {m : Mly} {rec : Nat → List Int → List Int → Option Nat} {ini cur : List Int} {x : bj} {e i : Nat} (h : ¬ ((x.2.2.1.getD i kd0).1 = (aG (ouL m cur x.2.1)).getD i 0 ∧ (x.2.2.1.getD i kd0).2.1 = (e : Int))) : fD m rec ini cur x (some e) i = none := if_neg h
/-plain-/
theorem aH : (([], (0, ([], ()))) : bj) = nd0 := rfl
theorem aQ : ((0, (0, ())) : dX) = kd0 := rfl
def rtP (m : Mly) (T : List bj) (f p : Nat) (ini cur : List Int) : Int :=
  match rtF m T f p ini cur with
  | some n => (n : Int)
  | none => if (p < T.length ∧ (T.getD p nd0).1 = ini ∧ cur.Nodup) ∧ (T.getD p nd0).2.1 = -1 then (p : Int) + 1 else 0
theorem dz {m : Mly} {T : List bj} {f p n : Nat} {ini cur : List Int} (h : rtF m T f p ini cur = some n) : rtP m T f p ini cur = (n : Int) := by unfold rtP; rw [h]
theorem jF {m : Mly} {T : List bj} {f p : Nat} {ini cur : List Int} (h : rtF m T f p ini cur = none) (h2 : ¬ ((p < T.length ∧ (T.getD p nd0).1 = ini ∧ cur.Nodup) ∧ (T.getD p nd0).2.1 = -1)) : rtP m T f p ini cur = 0 := by unfold rtP; rw [h]; exact if_neg h2
theorem gN {m : Mly} {T : List bj} {f p : Nat} {ini cur : List Int} (h : rtF m T f p ini cur = none) (h2 : (p < T.length ∧ (T.getD p nd0).1 = ini ∧ cur.Nodup) ∧ (T.getD p nd0).2.1 = -1) : rtP m T f p ini cur = (p : Int) + 1 := by unfold rtP; rw [h]; exact if_pos h2
structure TR12 (T : List bj) : Prop where
  len : T.length ≤ 4096
/-plain-/
theorem qJ {α β : Type} {f : α → β} {l : List α} {i : Nat} (d : α) (e : β) (h : i < l.length) : (l.map f).getD i e = f (l.getD i d) := by simp [List.getD, h]
def zc (m : Mly) (s t : Int) : Prop := aL m = 0 ∧ (0 ≤ s ∧ s < m.nx.length) ∧ 0 ≤ t ∧ t < m.nx.length
instance (m : Mly) (s t : Int) : Decidable (zc m s t) := by unfold zc; exact inferInstance
def stW (m : Mly) (s t : Int) : Option (List Int) := if aL m = 0 ∧ (0 ≤ s ∧ s < m.nx.length) ∧ 0 ≤ t ∧ t < m.nx.length then seS m m s t else none
def stE (m : Mly) (s t : Int) : Int := if aL m = 0 then if (0 ≤ s ∧ s < m.nx.length) ∧ 0 ≤ t ∧ t < m.nx.length then 0 else 2 else aL m
theorem wu {l : List S3} {i : Nat} (h : i < l.length) : l.getD i eS0 ∈ l := by simp [List.getD, h]
/-plain-/
theorem qz (w : List Int) (x : Int) : [w, [x]].flatten.length = w.length + 1 := by simp
/-plain-/
def snS (l : List S3) (m s : Nat) : List Bool := (List.range m).map fun (t : Nat) => inS l (s : Int) (t : Int)
theorem zn (l : List S3) (m s : Nat) : (snS l m s).length = m := by simp [snS]
theorem Br {l : List S3} {m : Nat} {p q : Int} (hp : 0 ≤ p) (hq : 0 ≤ q ∧ q < m) : (snS l m p.toNat).getD q.toNat false = inS l p q := by
  have : q.toNat < m := by omega
  unfold snS
  rw [pj _ _ this, Int.toNat_of_nonneg hp, Int.toNat_of_nonneg hq.1]
theorem ug {l : List S3} {m : Nat} {p q : Int} {w : List Int} (hp : 0 ≤ p) (hq : 0 ≤ q ∧ q < m) : snS (l ++ [(p, q, w)]) m p.toNat = (snS l m p.toNat).set q.toNat true := by
  apply List.ext_getElem
  · simp [snS]
  · intro i h1 h2
    simp only [snS, List.getElem_set, List.getElem_map, List.getElem_range, inS, List.any_append, List.any_cons, List.any_nil, Bool.or_false]
    by_cases e : q.toNat = i
    · rw [if_pos e]
      have : q = (i : Int) := by omega
      simp [this, Int.toNat_of_nonneg hp]
    · rw [if_neg e]
      have : ¬ q = (i : Int) := by omega
      simp [this]
theorem qn {l : List S3} {m j : Nat} {p q : Int} {w : List Int} (hp : 0 ≤ p) (hj : j ≠ p.toNat) : snS (l ++ [(p, q, w)]) m j = snS l m j := by
  unfold snS
  refine List.map_congr_left fun t _ => ?_
  have : ¬ p = (j : Int) := by omega
  simp [inS, List.any_append, this]
theorem uK (m s : Nat) : List.replicate m false = snS [] m s := by
  apply List.ext_getElem <;> simp [snS, inS]
/-plain-/
theorem tO {cs : List AC} {off : Nat} {c : AC} (h : off < cs.length) : bY cs off [c] = cs.set off c := by
  unfold bY
  rw [List.set_eq_take_append_cons_drop, if_pos h]
  simp
end Go.AV
