/- Contracts of functions of this seat, each out of a walk through its code, and plain facts on what they compute. Conditions: those that each theorem names. -/
import Derived.Test.YtmfkpljjhiglpaaGreatDoorTz
import Derived.Laws.CopyOwn
import Derived.Laws.CopyRow
import Derived.Laws.Tables
import Derived.Lib.Bytealg
import Derived.Lib.Hide
import Derived.Lib.ItoaNum
import Derived.Lib.Join
import Derived.LoopIn
import Derived.LoopNIn
import Derived.OwnWalkIn
import Derived.RangeFuncBox
import Derived.RangeFuncCalls
import Derived.RangeFuncFrom
import Derived.RangeFuncLeaves
import Derived.RangeFuncNested
import Derived.Shelf.Abstract
import Derived.Shelf.Bits.Mul64
import Derived.Shelf.Lay
import Derived.Shelf.RegionOpen
import Derived.Shelf.Slices.CompactI
import Derived.Shelf.Small.Strs
import Derived.Shelf.Sort.Plain
import Derived.Shelf.Spec.SlicesInsert
import Derived.Shelf.Strconv.Itoa3
import Derived.Shelf.Strings.Count
import Derived.Shelf.Strings.OnBuilder
import Derived.Shelf.Strings.Search3
import Derived.Shelf.Strings.SplitCore
import Derived.Sort.CutIn
import Derived.TacticsInMore
import Derived.WalkKit
set_option linter.unusedSimpArgs false
set_option linter.unusedVariables false
namespace Go.AV
theorem zB : (∀ (p : Prop) [Decidable p], (decide p = true) = p) ∧ (∀ (p : Prop) [Decidable p], (decide p = false) = ¬p) ∧ ((!true) = false) ∧ ((!false) = true) ∧ (∀ b : Bool, (¬(b = true)) = (b = false)) ∧ (∀ b : Bool, (¬(b = false)) = (b = true)) ∧ (∀ a b : Bool, ((!a) = b) = (a = !b)) ∧ (∀ a b : Int, ¬a < b ↔ b ≤ a) ∧ (∀ a b : Int, ¬a ≤ b ↔ b < a) ∧ ((true = false) = False) ∧ ((false = true) = False) ∧ (∀ {α : Sort 1} (a b : α), (a ≠ b) = ¬(a = b)) ∧ (∀ (p : Prop) [Decidable p], ¬¬p ↔ p) ∧ (∀ b : Bool, ((!b) = true) = (b = false)) ∧ (∀ {α : Type} [BEq α] [LawfulBEq α] {a b : α}, (a != b) = true ↔ a ≠ b) ∧ (∀ a b : Bool, ((a || b) = true) = (a = true ∨ b = true)) ∧ (∀ a b : Bool, ((a && b) = true) = (a = true ∧ b = true)) ∧ (∀ a b : Bool, ((a || b) = false) = (a = false ∧ b = false)) ∧ (∀ a b : Bool, ((a && b) = false) = (a = false ∨ b = false)) :=
  ⟨fun p _ => decide_eq_true_eq, fun p _ => by simp, rfl, rfl, by simp, by simp, by decide, fun a b => Int.not_lt, fun a b => Int.not_le, by simp, by simp, fun _ _ => rfl, fun p _ => Decidable.not_not, by simp, bne_iff_ne, by simp, by simp, by simp, by simp⟩
theorem zS {α : Type} : (∀ (a b : α) (l : List α), (a :: l).set 0 b = b :: l) ∧ ∀ (a b : α) (n : Nat) (l : List α), (a :: l).set (n + 1) b = a :: l.set n b := ⟨fun _ _ _ => rfl, fun _ _ _ _ => rfl⟩
end Go.AV
set_option maxRecDepth 100000
namespace Go.AV
open Nat renaming reduceEqDiff → V, reduceAdd → O, reduceLeDiff → Z, reduceLT → ad, reduceMul → ab, reduceSub → aa
open List renaming set_cons_zero → bK, set_cons_succ → ba, getD_cons_zero → cM, length_append → aq, map_cons → aS, cons_append → am, map_nil → bM, length_cons → ak, nil_append → ar, take_succ_cons → bY, length_nil → aw, length_map → c0, length_replicate → aL, take_length → aD, mem_cons_self → aT, mem_cons_of_mem → aI
open Int renaming toNat_natCast → aN
/-plain-/
theorem an {a b : Prop} (h : b) (ha : a := by first | omega | assumption | exact rfl) : a ∧ b := ⟨ha, h⟩
theorem bf {a b : Tr} (h : TLE a b := by exact su (by first | rfl | (simp [si]; done) | decide)) : TLE a b := h
theorem zV : type_of% (And.intro @zE (And.intro @zG (And.intro @op1.eq_1 (And.intro @ev.eq_1 (And.intro @ev.eq_2 (And.intro @ev.eq_3 (And.intro @ev.eq_4 (And.intro @lkp.eq_1 (And.intro @lkp.eq_2 (And.intro @db.eq_1 (And.intro @bB.eq_1 (And.intro @bB.eq_2 (And.intro @bB.eq_3 (And.intro @bB.eq_4 (And.intro @bB.eq_5 (And.intro @bB.eq_6 (And.intro @bB.eq_7 (And.intro @bB.eq_8 (And.intro @bp.eq_1 (And.intro @bp.eq_2 (And.intro @bp.eq_3 (And.intro @cK.eq_1 (And.intro @cK.eq_2 (And.intro @cK.eq_3 (And.intro @mv1.eq_1 (And.intro @mv1.eq_2 (And.intro @mvC.eq_1 (And.intro @mvC.eq_2 (And.intro @Ty.dflt.eq_1 (And.intro @Ty.dflt.eq_2 (And.intro @Ty.dflt.eq_3 (And.intro @Ty.dflt.eq_4 (And.intro @Ty.dflt.eq_5 @Ty.dflt.eq_6))))))))))))))))))))))))))))))))) :=
  And.intro @zE (And.intro @zG (And.intro @op1.eq_1 (And.intro @ev.eq_1 (And.intro @ev.eq_2 (And.intro @ev.eq_3 (And.intro @ev.eq_4 (And.intro @lkp.eq_1 (And.intro @lkp.eq_2 (And.intro @db.eq_1 (And.intro @bB.eq_1 (And.intro @bB.eq_2 (And.intro @bB.eq_3 (And.intro @bB.eq_4 (And.intro @bB.eq_5 (And.intro @bB.eq_6 (And.intro @bB.eq_7 (And.intro @bB.eq_8 (And.intro @bp.eq_1 (And.intro @bp.eq_2 (And.intro @bp.eq_3 (And.intro @cK.eq_1 (And.intro @cK.eq_2 (And.intro @cK.eq_3 (And.intro @mv1.eq_1 (And.intro @mv1.eq_2 (And.intro @mvC.eq_1 (And.intro @mvC.eq_2 (And.intro @Ty.dflt.eq_1 (And.intro @Ty.dflt.eq_2 (And.intro @Ty.dflt.eq_3 (And.intro @Ty.dflt.eq_4 (And.intro @Ty.dflt.eq_5 @Ty.dflt.eq_6))))))))))))))))))))))))))))))))
theorem zO : type_of% (And.intro @zE (And.intro @zG (And.intro @dU (And.intro @Nat.mul_one (And.intro @Nat.div_one (And.intro @ne_eq.{1} (And.intro @not_false_eq_true (And.intro @Int.natCast_one (And.intro @Int.mul_one (And.intro @dite_true.{1} (And.intro @op1.eq_1 (And.intro @ev.eq_1 (And.intro @ev.eq_2 (And.intro @ev.eq_3 (And.intro @ev.eq_4 (And.intro @lkp.eq_1 (And.intro @lkp.eq_2 (And.intro @db.eq_1 (And.intro @bB.eq_1 (And.intro @bB.eq_2 (And.intro @bB.eq_3 (And.intro @bB.eq_4 (And.intro @bB.eq_5 (And.intro @bB.eq_6 (And.intro @bB.eq_7 (And.intro @bB.eq_8 (And.intro @jG.eq_1 (And.intro @kc.eq_1 (And.intro @pr.eq_1 (And.intro @bp.eq_1 (And.intro @bp.eq_2 (And.intro @bp.eq_3 (And.intro @gq.eq_1 (And.intro @bj.eq_1 (And.intro @bj.eq_2 (And.intro @bc.eq_1 (And.intro @eH.eq_1 (And.intro @cJ.eq_1 (And.intro @cJ.eq_2 (And.intro @rep.eq_1 (And.intro @rep.eq_2 (And.intro @b0.eq_1 (And.intro @b0.eq_2 (And.intro @b0.eq_3 (And.intro @b0.eq_4 (And.intro @b0.eq_5 (And.intro @b0.eq_6 (And.intro @b0.eq_7 (And.intro @b0.eq_8 (And.intro @b0.eq_9 (And.intro @b0.eq_10 (And.intro @b0.eq_11 (And.intro @b0.eq_12 (And.intro @Ty.size.eq_1 (And.intro @Ty.size.eq_2 (And.intro @Ty.size.eq_3 (And.intro @iE.eq_1 (And.intro @ca.eq_1 (And.intro @dL.eq_1 (And.intro @dL.eq_2 (And.intro @dL.eq_3 (And.intro @Ty.dflt.eq_1 (And.intro @Ty.dflt.eq_2 (And.intro @Ty.dflt.eq_3 (And.intro @Ty.dflt.eq_4 (And.intro @Ty.dflt.eq_5 (And.intro @Ty.dflt.eq_6 (And.intro @cF.eq_1 (And.intro @d7.eq_1 (And.intro @fQ.eq_1 (And.intro @fh.eq_1 (And.intro @bI.eq_1 (And.intro @bI.eq_2 (And.intro @bI.eq_3 (And.intro @bI.eq_4 (And.intro @bI.eq_5 (And.intro @bI.eq_6 (And.intro @bI.eq_7 (And.intro @bI.eq_8 (And.intro @bI.eq_9 (And.intro @bI.eq_10 (And.intro @bI.eq_11 (And.intro @bI.eq_12 (And.intro @bI.eq_13 (And.intro @bI.eq_14 (And.intro @dx.eq_1 (And.intro @dx.eq_2 (And.intro @dx.eq_3 (And.intro @dx.eq_4 (And.intro @dd.eq_1 (And.intro @dd.eq_2 (And.intro @dd.eq_3 (And.intro @ef.eq_1 (And.intro @ef.eq_2 (And.intro @ef.eq_3 (And.intro @ef.eq_4 (And.intro @oV.eq_1 (And.intro @oV.eq_2 (And.intro @fo.eq_1 (And.intro @ci.eq_1 (And.intro @im.eq_1 (And.intro @cO.eq_1 (And.intro @jP.eq_1 (And.intro @cT.eq_1 (And.intro @j4.eq_1 (And.intro @iv.eq_1 (And.intro @cm.eq_1 (And.intro @cm.eq_2 (And.intro @cm.eq_3 (And.intro @cm.eq_4 (And.intro @cm.eq_5 (And.intro @cm.eq_6 (And.intro @cm.eq_7 (And.intro @cZ.eq_1 (And.intro @cZ.eq_2 (And.intro @cZ.eq_3 (And.intro @cZ.eq_4 (And.intro @fJ.eq_1 (And.intro @fJ.eq_2 (And.intro @fJ.eq_3 (And.intro @dC.eq_1 (And.intro @dh.eq_1 (And.intro @dh.eq_2 (And.intro @dh.eq_3 (And.intro @dh.eq_4 (And.intro @cK.eq_1 (And.intro @cK.eq_2 (And.intro @cK.eq_3 (And.intro @mv1.eq_1 (And.intro @mv1.eq_2 (And.intro @mvC.eq_1 @mvC.eq_2))))))))))))))))))))))))))))))))))))))))))))))))))))))))))))))))))))))))))))))))))))))))))))))))))))))))))))))))))))))))))))))))))) :=
  And.intro @zE (And.intro @zG (And.intro @dU (And.intro @Nat.mul_one (And.intro @Nat.div_one (And.intro @ne_eq.{1} (And.intro @not_false_eq_true (And.intro @Int.natCast_one (And.intro @Int.mul_one (And.intro @dite_true.{1} (And.intro @op1.eq_1 (And.intro @ev.eq_1 (And.intro @ev.eq_2 (And.intro @ev.eq_3 (And.intro @ev.eq_4 (And.intro @lkp.eq_1 (And.intro @lkp.eq_2 (And.intro @db.eq_1 (And.intro @bB.eq_1 (And.intro @bB.eq_2 (And.intro @bB.eq_3 (And.intro @bB.eq_4 (And.intro @bB.eq_5 (And.intro @bB.eq_6 (And.intro @bB.eq_7 (And.intro @bB.eq_8 (And.intro @jG.eq_1 (And.intro @kc.eq_1 (And.intro @pr.eq_1 (And.intro @bp.eq_1 (And.intro @bp.eq_2 (And.intro @bp.eq_3 (And.intro @gq.eq_1 (And.intro @bj.eq_1 (And.intro @bj.eq_2 (And.intro @bc.eq_1 (And.intro @eH.eq_1 (And.intro @cJ.eq_1 (And.intro @cJ.eq_2 (And.intro @rep.eq_1 (And.intro @rep.eq_2 (And.intro @b0.eq_1 (And.intro @b0.eq_2 (And.intro @b0.eq_3 (And.intro @b0.eq_4 (And.intro @b0.eq_5 (And.intro @b0.eq_6 (And.intro @b0.eq_7 (And.intro @b0.eq_8 (And.intro @b0.eq_9 (And.intro @b0.eq_10 (And.intro @b0.eq_11 (And.intro @b0.eq_12 (And.intro @Ty.size.eq_1 (And.intro @Ty.size.eq_2 (And.intro @Ty.size.eq_3 (And.intro @iE.eq_1 (And.intro @ca.eq_1 (And.intro @dL.eq_1 (And.intro @dL.eq_2 (And.intro @dL.eq_3 (And.intro @Ty.dflt.eq_1 (And.intro @Ty.dflt.eq_2 (And.intro @Ty.dflt.eq_3 (And.intro @Ty.dflt.eq_4 (And.intro @Ty.dflt.eq_5 (And.intro @Ty.dflt.eq_6 (And.intro @cF.eq_1 (And.intro @d7.eq_1 (And.intro @fQ.eq_1 (And.intro @fh.eq_1 (And.intro @bI.eq_1 (And.intro @bI.eq_2 (And.intro @bI.eq_3 (And.intro @bI.eq_4 (And.intro @bI.eq_5 (And.intro @bI.eq_6 (And.intro @bI.eq_7 (And.intro @bI.eq_8 (And.intro @bI.eq_9 (And.intro @bI.eq_10 (And.intro @bI.eq_11 (And.intro @bI.eq_12 (And.intro @bI.eq_13 (And.intro @bI.eq_14 (And.intro @dx.eq_1 (And.intro @dx.eq_2 (And.intro @dx.eq_3 (And.intro @dx.eq_4 (And.intro @dd.eq_1 (And.intro @dd.eq_2 (And.intro @dd.eq_3 (And.intro @ef.eq_1 (And.intro @ef.eq_2 (And.intro @ef.eq_3 (And.intro @ef.eq_4 (And.intro @oV.eq_1 (And.intro @oV.eq_2 (And.intro @fo.eq_1 (And.intro @ci.eq_1 (And.intro @im.eq_1 (And.intro @cO.eq_1 (And.intro @jP.eq_1 (And.intro @cT.eq_1 (And.intro @j4.eq_1 (And.intro @iv.eq_1 (And.intro @cm.eq_1 (And.intro @cm.eq_2 (And.intro @cm.eq_3 (And.intro @cm.eq_4 (And.intro @cm.eq_5 (And.intro @cm.eq_6 (And.intro @cm.eq_7 (And.intro @cZ.eq_1 (And.intro @cZ.eq_2 (And.intro @cZ.eq_3 (And.intro @cZ.eq_4 (And.intro @fJ.eq_1 (And.intro @fJ.eq_2 (And.intro @fJ.eq_3 (And.intro @dC.eq_1 (And.intro @dh.eq_1 (And.intro @dh.eq_2 (And.intro @dh.eq_3 (And.intro @dh.eq_4 (And.intro @cK.eq_1 (And.intro @cK.eq_2 (And.intro @cK.eq_3 (And.intro @mv1.eq_1 (And.intro @mv1.eq_2 (And.intro @mvC.eq_1 @mvC.eq_2))))))))))))))))))))))))))))))))))))))))))))))))))))))))))))))))))))))))))))))))))))))))))))))))))))))))))))))))))))))))))))))))))
theorem zP : type_of% (And.intro @zE (And.intro @bK.{0} (And.intro @ba.{0} (And.intro @put.eq_1 (And.intro @app.eq_1 (And.intro @bE.eq_1 (And.intro @bE.eq_2 (And.intro @eN.eq_1 (And.intro @dv.eq_1 (And.intro @dv.eq_2 (And.intro @aX.eq_1 (And.intro @aX.eq_2 (And.intro @lkp.eq_1 @lkp.eq_2))))))))))))) :=
  And.intro @zE (And.intro @bK.{0} (And.intro @ba.{0} (And.intro @put.eq_1 (And.intro @app.eq_1 (And.intro @bE.eq_1 (And.intro @bE.eq_2 (And.intro @eN.eq_1 (And.intro @dv.eq_1 (And.intro @dv.eq_2 (And.intro @aX.eq_1 (And.intro @aX.eq_2 (And.intro @lkp.eq_1 @lkp.eq_2))))))))))))
theorem zF : type_of% (And.intro @aS.{0,0} (And.intro @bM.{0,0} (And.intro @fzV.eq_1 (And.intro @fzV.eq_2 (And.intro @fz1.eq_1 (And.intro @fz1.eq_2 (And.intro @fz1.eq_3 (And.intro @fzC.eq_1 (And.intro @fzC.eq_2 (And.intro @fzC.eq_3 (And.intro @fzC.eq_4 (And.intro @fzC.eq_5 @fzC.eq_6)))))))))))) :=
  And.intro @aS.{0,0} (And.intro @bM.{0,0} (And.intro @fzV.eq_1 (And.intro @fzV.eq_2 (And.intro @fz1.eq_1 (And.intro @fz1.eq_2 (And.intro @fz1.eq_3 (And.intro @fzC.eq_1 (And.intro @fzC.eq_2 (And.intro @fzC.eq_3 (And.intro @fzC.eq_4 (And.intro @fzC.eq_5 @fzC.eq_6)))))))))))
theorem kp {C : Ctx} {Q : Go.Exit → St → Prop} {c : Go.Code} {e0 e : Env} {L0 : List AO} (ks : List Nat) (h : AWP C c Q { env := e, L := L0 }) (he : dv e0 ks = e := by (simp only [zP, V, O]; exact rfl)) : AWP C c Q { env := e0, L := L0 } := u0 ks (by rw [he]; exact h)
theorem cd {C : Ctx} {Q : Go.Exit → St → Prop} {c : Operand} {x y : Go.Code} {b : Bool} {e0 : Env} {L0 : List AO} (ht : b = true → AWP C x Q { env := e0, L := L0 }) (hf : b = false → AWP C y Q { env := e0, L := L0 }) (hc : ev e0 c = .one (.bool b) := by (simp only [ev, zP, V, O]; exact rfl)) : AWP C (.cond c x y) Q { env := e0, L := L0 } := tO hc ht hf
theorem nr {e : Go.Exit} (h : e = .normal ∨ e = .ret := by first | exact .inl rfl | exact .inr rfl) : e = .normal ∨ e = .ret := h
/-plain-/
def Mly.sigP (m : Mly) (cl : List Int) (a s : Nat) : List Int := (List.range 128).map fun i =>
  if i < a then (m.ot.getD s []).getD i 0 else if 64 ≤ i ∧ i < 64 + a then cl.getD ((m.nx.getD s []).getD (i - 64) 0).toNat 0 else 0
def Mly.sig (m : Mly) (cl : List Int) (s : Nat) : List Int := m.sigP cl m.inp.toNat s
def Mly.nextL (m : Mly) (cl : List Int) : List Int := (List.range m.nx.length).map fun s => (pos (vy (m.sig cl) m.nx.length) (m.sig cl s) : Int)
def Mly.cls (m : Mly) : Nat → List Int
  | 0 => List.replicate m.nx.length 0
  | i + 1 => m.nextL (m.cls i)
structure STAB (m : Mly) (c : List Int) : Prop where
  len : c.length = m.nx.length
  rng : ∀ s, s < m.nx.length → 0 ≤ c.getD s 0 ∧ c.getD s 0 < m.nx.length
  step : ∀ s t : Nat, s < m.nx.length → t < m.nx.length → c.getD s 0 = c.getD t 0 → ∀ a : Nat, (a : Int) < m.inp →
    (m.ot.getD s []).getD a 0 = (m.ot.getD t []).getD a 0 ∧ c.getD ((m.nx.getD s []).getD a 0).toNat 0 = c.getD ((m.nx.getD t []).getD a 0).toNat 0
def EQV (m : Mly) (s t : Int) : Prop := ∀ w : List Int, (∀ i : Nat, i < w.length → 0 ≤ w.getD i 0 ∧ w.getD i 0 < m.inp) → (m.go s w).2 = (m.go t w).2
/-plain-/
abbrev S3 := Int × Int × List Int
def inS (l : List S3) (p q : Int) : Bool := l.any fun f => decide (f.1 = p) && decide (f.2.1 = q)
def stS (a b : Mly) (e : S3) (l : List S3) (x : Nat) : List S3 := if inS l (a.nxt e.1 x) (b.nxt e.2.1 x) = true then l else l ++ [(a.nxt e.1 x, b.nxt e.2.1 x, e.2.2 ++ [(x : Int)])]
def jM (a b : Mly) (e : S3) (l : List S3) (x : Nat) : List S3 := (List.range x).foldl (stS a b e) l
def eS0 : S3 := (0, 0, [])
theorem uD {l : List S3} {p q : Int} : inS l p q = true ↔ ∃ e, e ∈ l ∧ e.1 = p ∧ e.2.1 = q := by
  simp [inS, List.any_eq_true]
theorem nq (a b : Mly) (e : S3) (l : List S3) (x : Nat) : jM a b e l (x + 1) = stS a b e (jM a b e l x) x := by
  unfold jM; rw [List.range_succ, List.foldl_append]; rfl
theorem va (a b : Mly) (e : S3) (l : List S3) (x : Nat) : ∃ k, stS a b e l x = l ++ k := by
  unfold stS
  split
  · exact ⟨[], by simp⟩
  · exact ⟨_, rfl⟩
theorem oU (a b : Mly) (e : S3) (l : List S3) : ∀ x, ∃ k, jM a b e l x = l ++ k
  | 0 => ⟨[], by simp [jM]⟩
  | x + 1 => by
    obtain ⟨k1, h1⟩ := oU a b e l x
    obtain ⟨k2, h2⟩ := va a b e (jM a b e l x) x
    exact ⟨k1 ++ k2, by rw [nq, h2, h1, List.append_assoc]⟩
theorem vh (a b : Mly) (e : S3) (l : List S3) (x : Nat) : l.length ≤ (jM a b e l x).length := by
  obtain ⟨k, hk⟩ := oU a b e l x
  rw [hk]; simp

structure WFS (a b : Mly) (l : List S3) : Prop where
  rng : ∀ e, e ∈ l → (0 ≤ e.1 ∧ e.1 < a.nx.length) ∧ 0 ≤ e.2.1 ∧ e.2.1 < b.nx.length
  len : ∀ e, e ∈ l → e.2.2.length ≤ l.length
  nd : (l.map fun e => e.1 * (b.nx.length : Int) + e.2.1).Nodup
theorem WFS.at_ {a b : Mly} {l : List S3} (h : WFS a b l) {i : Nat} (hi : i < l.length) : (0 ≤ (l.getD i eS0).1 ∧ (l.getD i eS0).1 < a.nx.length) ∧ 0 ≤ (l.getD i eS0).2.1 ∧ (l.getD i eS0).2.1 < b.nx.length := by
  refine h.rng _ ?_
  simp [List.getD, hi]
theorem WFS.wl {a b : Mly} {l : List S3} (h : WFS a b l) {i : Nat} (hi : i < l.length) : (l.getD i eS0).2.2.length ≤ l.length := by
  refine h.len _ ?_
  simp [List.getD, hi]
theorem pR {p q n m : Int} (hp : 0 ≤ p ∧ p < n) (hq : 0 ≤ q ∧ q < m) : 0 ≤ p * m + q ∧ p * m + q < n * m := by
  have h1 : 0 ≤ p * m := Int.mul_nonneg hp.1 (by omega)
  have h2 : (p + 1) * m ≤ n * m := Int.mul_le_mul_of_nonneg_right (by omega) (by omega)
  rw [Int.add_mul, Int.one_mul] at h2
  omega
theorem oH {p q p' q' m : Int} (hq : 0 ≤ q ∧ q < m) (hq' : 0 ≤ q' ∧ q' < m) (e : p * m + q = p' * m + q') : p = p' ∧ q = q' := by
  have h1 : (p * m + q) / m = p := by rw [Int.add_comm, Int.add_mul_ediv_right _ _ (by omega), Int.ediv_eq_zero_of_lt hq.1 hq.2]; omega
  have h2 : (p' * m + q') / m = p' := by rw [Int.add_comm, Int.add_mul_ediv_right _ _ (by omega), Int.ediv_eq_zero_of_lt hq'.1 hq'.2]; omega
  have : p = p' := by rw [← h1, ← h2, e]
  subst this
  exact ⟨rfl, by omega⟩
theorem WFS.le {a b : Mly} {l : List S3} (h : WFS a b l) : l.length ≤ a.nx.length * b.nx.length := by
  have := gI (a.nx.length * b.nx.length) _ h.nd (fun x hx => by
    obtain ⟨e, he, rfl⟩ := List.mem_map.1 hx
    have hr := h.rng e he
    have := pR hr.1 hr.2
    rw [Int.natCast_mul]; exact this)
  simpa using this
theorem WFS.step {a b : Mly} (ha : MOK a) (hb : MOK b) (hi : a.inp = b.inp) {l : List S3} (h : WFS a b l) {e : S3} (he : (0 ≤ e.1 ∧ e.1 < a.nx.length) ∧ 0 ≤ e.2.1 ∧ e.2.1 < b.nx.length) (hw : e.2.2.length ≤ l.length) {x : Nat} (hx : (x : Int) < a.inp) : WFS a b (stS a b e l x) := by
  unfold stS
  split
  · exact h
  · rename_i hn
    have n1 := ha.nr e.1.toNat x (by omega) hx
    have n2 := hb.nr e.2.1.toNat x (by omega) (by omega)
    have n1' : 0 ≤ a.nxt e.1 x ∧ a.nxt e.1 x < a.nx.length := by simpa [Mly.nxt] using n1
    have n2' : 0 ≤ b.nxt e.2.1 x ∧ b.nxt e.2.1 x < b.nx.length := by simpa [Mly.nxt] using n2
    refine ⟨fun f hf => ?_, fun f hf => ?_, ?_⟩
    · rcases List.mem_append.1 hf with hf | hf
      · exact h.rng f hf
      · simp at hf; subst hf; exact ⟨n1', n2'⟩
    · simp only [aq, ak, aw]
      rcases List.mem_append.1 hf with hf | hf
      · have := h.len f hf; omega
      · simp at hf; subst hf; simp; omega
    · rw [List.map_append, List.nodup_append]
      refine ⟨h.nd, by simp, fun u hu v hv => ?_⟩
      simp at hv; subst hv
      intro e'
      obtain ⟨f, hf, rfl⟩ := List.mem_map.1 hu
      have hr := h.rng f hf
      obtain ⟨e1, e2⟩ := oH hr.2 n2' e'
      exact hn (uD.2 ⟨f, hf, e1, e2⟩)
theorem WFS.row {a b : Mly} (ha : MOK a) (hb : MOK b) (hi : a.inp = b.inp) {l : List S3} (h : WFS a b l) {i : Nat} (hil : i < l.length) : ∀ x : Nat, (x : Int) ≤ a.inp → WFS a b (jM a b (l.getD i eS0) l x)
  | 0, _ => by simpa [jM] using h
  | x + 1, hx => by
    rw [nq]
    have h1 := WFS.row ha hb hi h hil x (by omega)
    have h2 := vh a b (l.getD i eS0) l x
    have h3 := h.wl hil
    exact h1.step ha hb hi (h.at_ hil) (by omega) (by omega)
def EQ2 (a b : Mly) (s t : Int) : Prop := ∀ w : List Int, (∀ i : Nat, i < w.length → 0 ≤ w.getD i 0 ∧ w.getD i 0 < a.inp) → (a.go s w).2 = (b.go t w).2
structure TRS (a b : Mly) (s t : Int) (e : S3) : Prop where
  sy : ∀ i : Nat, i < e.2.2.length → 0 ≤ e.2.2.getD i 0 ∧ e.2.2.getD i 0 < a.inp
  l : (a.go s e.2.2).1 = e.1
  r : (b.go t e.2.2).1 = e.2.1
  o : (a.go s e.2.2).2 = (b.go t e.2.2).2
/-plain-/
def Mly.T (m : Mly) : Mly := ⟨m.inp, 0, m.tnx, m.tot⟩
/-plain-/
def rgI (n : Nat) : List Int := (List.range n).map fun (i : Nat) => (i : Int)
structure CAN (x : Mly) : Prop where
  ok : MOK x
  st : x.st = 0
  rc : x.reach = rgI x.nx.length
  ds : ∀ i j : Int, 0 ≤ i → i < x.nx.length → 0 ≤ j → j < x.nx.length → EQV x i j → i = j
structure LCK (x y : Mly) (l : List Int) : Prop where
  eq : ∀ j, j ∈ l → EQ2 x y j j
  bx : ∀ j, j ∈ l → 0 ≤ j ∧ j < x.nx.length
  by_ : ∀ j, j ∈ l → 0 ≤ j ∧ j < y.nx.length
/-plain-/
abbrev PP := Int × Int
abbrev SYS := PP → Nat → PP × Int
def d0 : PP := (0, 0)
def bL (F : SYS) (p : PP) (l : List PP) (x : Nat) : List PP := (List.range x).foldl (fun l y => fj l (F p y).1) l
def bN (F : SYS) (p : PP) (l : List PP) (x : Nat) : List Int := (List.range x).map fun y => (pos (bL F p l y) (F p y).1 : Int)
def bO (F : SYS) (p : PP) (x : Nat) : List Int := (List.range x).map fun y => (F p y).2
def bX (F : SYS) (p : PP) (l : List PP) (y : Nat) : Bool := decide (128 < (bL F p l (y + 1)).length) || decide (1048576 < (F p y).2)
abbrev BST := List PP × (List (List Int) × List (List Int))
def bA (F : SYS) (n i : Nat) (s : BST) : BST := (bL F (s.1.getD i d0) s.1 n, s.2.1 ++ [bN F (s.1.getD i d0) s.1 n], s.2.2 ++ [bO F (s.1.getD i d0) n])
def bF (F : SYS) (n : Nat) : Nat → Nat → BST → Option BST
  | 0, _, _ => none
  | f + 1, i, s => if i < s.1.length then if (List.range n).any (bX F (s.1.getD i d0) s.1) = true then none else bF F n f (i + 1) (bA F n i s) else some s
def bR (F : SYS) (n : Nat) (p0 : PP) : Option BST := bF F n 130 0 ([p0], [], [])
theorem ii (F : SYS) (p : PP) (l : List PP) (x : Nat) : bL F p l (x + 1) = fj (bL F p l x) (F p x).1 := by
  unfold bL; rw [List.range_succ, List.foldl_append]; rfl
theorem oe {α : Type} [DecidableEq α] (l : List α) (x : α) : ∃ k, fj l x = l ++ k := rI [x] l
theorem jA (F : SYS) (p : PP) (l : List PP) : ∀ x, ∃ k, bL F p l x = l ++ k
  | 0 => ⟨[], by simp [bL]⟩
  | x + 1 => by
    obtain ⟨k, e⟩ := jA F p l x
    obtain ⟨k', e'⟩ := oe (bL F p l x) (F p x).1
    exact ⟨k ++ k', by rw [ii, e', e, List.append_assoc]⟩
theorem mD (F : SYS) (p : PP) (l : List PP) (x : Nat) : ∀ d, ∃ k, bL F p l (x + d) = bL F p l x ++ k
  | 0 => ⟨[], by simp⟩
  | d + 1 => by
    obtain ⟨k, e⟩ := mD F p l x d
    obtain ⟨k', e'⟩ := oe (bL F p l (x + d)) (F p (x + d)).1
    exact ⟨k ++ k', by rw [← Nat.add_assoc, ii, e', e, List.append_assoc]⟩
theorem vA (F : SYS) (p : PP) (l : List PP) (x : Nat) : l.length ≤ (bL F p l x).length := by
  obtain ⟨k, e⟩ := jA F p l x
  rw [e, aq]; omega
theorem nZ (F : SYS) (p : PP) {l : List PP} (x : Nat) {i : Nat} (h : i < l.length) : (bL F p l x).getD i d0 = l.getD i d0 := by
  obtain ⟨k, e⟩ := jA F p l x
  rw [e]; simp [List.getD, List.getElem?_append_left h]
theorem uw (F : SYS) (p : PP) (l : List PP) {x y : Nat} (h : y < x) : (F p y).1 ∈ bL F p l x := by
  obtain ⟨k, e⟩ := mD F p l (y + 1) (x - (y + 1))
  rw [show x = y + 1 + (x - (y + 1)) by omega, e, List.mem_append, ii, tx]
  exact .inl (.inr rfl)
theorem p5 (F : SYS) (p : PP) {l : List PP} (h : l.Nodup) : ∀ x, (bL F p l x).Nodup
  | 0 => by simpa [bL] using h
  | x + 1 => by rw [ii]; exact qA (p5 F p h x) _
theorem uq {α : Type} [DecidableEq α] (l : List α) (x : α) : pos (fj l x) x = pos l x := by
  by_cases h : x ∈ l
  · rw [nN h]
  · rw [kM h, tL h, qe h]
theorem vW (F : SYS) (p : PP) (l : List PP) {x y : Nat} (h : y < x) : pos (bL F p l x) (F p y).1 = pos (bL F p l y) (F p y).1 := by
  obtain ⟨k, e⟩ := mD F p l (y + 1) (x - (y + 1))
  rw [show x = y + 1 + (x - (y + 1)) by omega, e, ip _ (uw F p l (Nat.lt_succ_self y)), ii, uq]
structure BOK (F : SYS) (n : Nat) (p0 : PP) (i : Nat) (s : BST) : Prop where
  nd : s.1.Nodup
  le : s.1.length ≤ 128
  nl : s.2.1.length = i
  ol : s.2.2.length = i
  il : i ≤ s.1.length
  hd : s.1.getD 0 d0 = p0
  h0 : 0 < s.1.length
  nx : ∀ j, j < i → s.2.1.getD j [] = (List.range n).map fun x => (pos s.1 (F (s.1.getD j d0) x).1 : Int)
  ot : ∀ j, j < i → s.2.2.getD j [] = (List.range n).map fun x => (F (s.1.getD j d0) x).2
  cl : ∀ j x, j < i → x < n → (F (s.1.getD j d0) x).1 ∈ s.1
  bd : ∀ j x, j < i → x < n → (F (s.1.getD j d0) x).2 ≤ 1048576
theorem cf {α : Type} {l : List α} {y d : α} {i : Nat} (h : i < l.length) : (l ++ [y]).getD i d = l.getD i d := by simp [List.getD, List.getElem?_append_left h]
theorem dm {α : Type} {l : List α} {y d : α} {i : Nat} (h : i = l.length) : (l ++ [y]).getD i d = y := by subst h; simp [List.getD]
theorem vL {F : SYS} {p : PP} {l : List PP} {n : Nat} (h : (List.range n).any (bX F p l) = false) {y : Nat} (hy : y < n) : (bL F p l (y + 1)).length ≤ 128 ∧ (F p y).2 ≤ 1048576 := by
  rw [List.any_eq_false] at h
  have := h y (by simpa using hy)
  simp only [bX, Bool.not_eq_true, Bool.or_eq_false_iff, decide_eq_false_iff_not] at this
  omega
theorem wU {F : SYS} {p : PP} {l : List PP} {n : Nat} (hl : l.length ≤ 128) (h : (List.range n).any (bX F p l) = false) : (bL F p l n).length ≤ 128 := by
  cases n with
  | zero => simpa [bL] using hl
  | succ n => exact (vL h (Nat.lt_succ_self n)).1
theorem BOK.step {F : SYS} {n : Nat} {p0 : PP} {i : Nat} {s : BST} (h : BOK F n p0 i s) (hi : i < s.1.length) (hb : (List.range n).any (bX F (s.1.getD i d0) s.1) = false) : BOK F n p0 (i + 1) (bA F n i s) where
  nd := p5 F _ h.nd n
  le := wU h.le hb
  nl := by simp [bA, h.nl]
  ol := by simp [bA, h.ol]
  il := Nat.le_trans hi (vA F _ s.1 n)
  hd := by simp only [bA]; rw [nZ F _ n h.h0]; exact h.hd
  h0 := Nat.lt_of_lt_of_le h.h0 (vA F _ s.1 n)
  nx := fun j hj => by
    simp only [bA]
    rw [nZ F _ n (show j < s.1.length by omega)]
    by_cases e : j = i
    · rw [dm (by rw [h.nl, e]), e]
      exact List.map_congr_left fun x hx => by rw [vW F _ s.1 (List.mem_range.1 hx)]
    · have hji : j < i := by omega
      rw [cf (by rw [h.nl]; exact hji), h.nx j hji]
      refine List.map_congr_left fun x hx => ?_
      obtain ⟨k, ek⟩ := jA F (s.1.getD i d0) s.1 n
      rw [ek, ip _ (h.cl j x hji (List.mem_range.1 hx))]
  ot := fun j hj => by
    simp only [bA]
    rw [nZ F _ n (show j < s.1.length by omega)]
    by_cases e : j = i
    · rw [dm (by rw [h.ol, e]), e]; rfl
    · rw [cf (by rw [h.ol]; omega), h.ot j (by omega)]
  cl := fun j x hj hx => by
    simp only [bA]
    rw [nZ F _ n (show j < s.1.length by omega)]
    by_cases e : j = i
    · rw [e]; exact uw F _ s.1 hx
    · obtain ⟨k, ek⟩ := jA F (s.1.getD i d0) s.1 n
      rw [ek, List.mem_append]
      exact .inl (h.cl j x (by omega) hx)
  bd := fun j x hj hx => by
    simp only [bA]
    rw [nZ F _ n (show j < s.1.length by omega)]
    by_cases e : j = i
    · rw [e]; exact (vL hb hx).2
    · exact h.bd j x (by omega) hx
section
variable {F : SYS} {n : Nat} {p0 : PP} {s : BST} (h : bR F n p0 = some s)
include h
end
/-plain-/
theorem lM : ∀ {xs ys : List Int}, xs.Pairwise (· < ·) → ys.Pairwise (· < ·) → (∀ x, x ∈ xs ↔ x ∈ ys) → xs = ys
  | [], [], _, _, _ => rfl
  | [], y :: ys, _, _, h => by have := (h y).2 (by simp); simp at this
  | x :: xs, [], _, _, h => by have := (h x).1 (by simp); simp at this
  | x :: xs, y :: ys, hx, hy, h => by
    rw [List.pairwise_cons] at hx hy
    have e : x = y := by
      have h1 := (h x).1 (by simp)
      have h2 := (h y).2 (by simp)
      rw [List.mem_cons] at h1 h2
      rcases h1 with h1 | h1
      · exact h1
      · rcases h2 with h2 | h2
        · exact h2.symm
        · have a := hx.1 y h2; have b := hy.1 x h1; omega
    subst e
    rw [lM hx.2 hy.2 fun z => ?_]
    constructor
    · intro hz
      have := (h z).1 (aI _ hz)
      rw [List.mem_cons] at this
      rcases this with e | h3
      · have := hx.1 z hz; omega
      · exact h3
    · intro hz
      have := (h z).2 (aI _ hz)
      rw [List.mem_cons] at this
      rcases this with e | h3
      · have := hy.1 z hz; omega
      · exact h3
theorem iG (xs : List Int) (j : Nat) : xs.toArray[j]! = xs.getD j 0 := by
  by_cases h : j < xs.length
  · rw [getElem!_pos _ _ (by simpa using h)]; simp [List.getD, h]
  · rw [getElem!_neg _ _ (by simpa using h)]; simp [List.getD, h]
theorem qX (xs : List Int) (hs : ∀ i j, i ≤ j → j < xs.length → xs.getD i 0 ≤ xs.getD j 0) : ∀ m, m ≤ xs.length →
    (Lib.compactUpTo xs.toArray m).Pairwise (· < ·) ∧ ∀ x, x ∈ Lib.compactUpTo xs.toArray m ↔ ∃ j, j < m ∧ xs.getD j 0 = x
  | 0, _ => by simp [Lib.compactUpTo]
  | m + 1, hm => by
    obtain ⟨h1, h2⟩ := qX xs hs m (by omega)
    rw [Lib.compactUpTo_succ]
    cases hk : Lib.keeps xs.toArray m with
    | true =>
      simp only [if_true]
      have hb : m = 0 ∨ xs.getD m 0 ≠ xs.getD (m - 1) 0 := by
        have := of_decide_eq_true hk
        rwa [iG, iG] at this
      refine ⟨?_, fun x => ?_⟩
      · rw [List.pairwise_append]
        refine ⟨h1, by simp, fun a ha b hb2 => ?_⟩
        obtain ⟨j, hj, e⟩ := (h2 a).1 ha
        rw [List.mem_singleton, iG] at hb2
        rw [hb2, ← e]
        have q1 := hs j (m - 1) (by omega) (by omega)
        have q2 := hs (m - 1) m (by omega) (by omega)
        omega
      · rw [List.mem_append, h2, List.mem_singleton, iG]
        constructor
        · rintro (⟨j, hj, e⟩ | e)
          · exact ⟨j, by omega, e⟩
          · exact ⟨m, by omega, e.symm⟩
        · rintro ⟨j, hj, e⟩
          by_cases hjm : j = m
          · exact .inr (by rw [← e, hjm])
          · exact .inl ⟨j, by omega, e⟩
    | false =>
      simp only [Bool.false_eq_true, if_false, List.append_nil]
      have hb : m ≠ 0 ∧ xs.getD m 0 = xs.getD (m - 1) 0 := by
        have := of_decide_eq_false hk
        rw [iG, iG] at this
        refine ⟨fun e => this (.inl e), ?_⟩
        false_or_by_contra
        rename_i hh
        exact this (.inr hh)
      refine ⟨h1, fun x => ?_⟩
      rw [h2]
      constructor
      · rintro ⟨j, hj, e⟩; exact ⟨j, by omega, e⟩
      · rintro ⟨j, hj, e⟩
        by_cases hjm : j = m
        · exact ⟨m - 1, by omega, by rw [← e, hjm, hb.2]⟩
        · exact ⟨j, by omega, e⟩
theorem iQ {xs : List Int} {x : Int} : x ∈ xs ↔ ∃ j, j < xs.length ∧ xs.getD j 0 = x := by
  constructor
  · intro h
    obtain ⟨j, hj⟩ := List.getElem?_of_mem h
    exact ⟨j, (List.getElem?_eq_some_iff.1 hj).1, by simp [List.getD, hj]⟩
  · rintro ⟨j, hj, e⟩; rw [← e]; exact iF hj
def fR (xs : List Int) : List Int := xs.mergeSort fun x y => decide (x ≤ y)
theorem sY (xs : List Int) : ∀ i j, i ≤ j → j < (fR xs).length → (fR xs).getD i 0 ≤ (fR xs).getD j 0 := by
  intro i j hij hj
  by_cases e : i = j
  · rw [e]; omega
  · have hp : (fR xs).Pairwise (fun x y => decide (x ≤ y) = true) := List.pairwise_mergeSort (le := fun x y => decide (x ≤ y)) (fun a b c h1 h2 => by simp at *; omega) (fun a b => by simp; omega) xs
    have := List.pairwise_iff_getElem.1 hp i j (by omega) hj (by omega)
    simp [List.getD, hj, show i < (fR xs).length by omega]
    simpa using this
theorem rL {xs : List Int} {x : Int} : x ∈ fR xs ↔ x ∈ xs := List.mem_mergeSort
theorem nI (xs : List Int) : (fR xs).length = xs.length := List.length_mergeSort _
def lg (xs : List Int) : List Int := Lib.compact (fR xs)
theorem eE (xs : List Int) : (lg xs).Pairwise (· < ·) ∧ ∀ x, x ∈ lg xs ↔ x ∈ xs := by
  obtain ⟨h1, h2⟩ := qX (fR xs) (sY xs) _ (Nat.le_refl _)
  refine ⟨h1, fun x => ?_⟩
  rw [lg, Lib.compact, h2, ← iQ, rL]
theorem pb {xs : List Int} : (Lib.compact xs).length ≤ xs.length := by
  unfold Lib.compact Lib.compactUpTo
  rw [c0]
  exact Nat.le_trans (List.length_filter_le _ _) (by simp)
def mP (l : List Int) (n : Int) : List Int := if n ∈ l then l else l.filter (fun x => decide (x < n)) ++ n :: l.filter (fun x => decide (n < x))
theorem tQ {l : List Int} {n x : Int} : x ∈ mP l n ↔ x ∈ l ∨ x = n := by
  unfold mP
  split
  · rename_i h
    constructor
    · exact .inl
    · rintro (h1 | h1)
      · exact h1
      · rw [h1]; exact h
  · simp only [List.mem_append, List.mem_filter, List.mem_cons, decide_eq_true_eq]
    constructor
    · rintro (h1 | h1 | h1)
      · exact .inl h1.1
      · exact .inr h1
      · exact .inl h1.1
    · rintro (h1 | h1)
      · by_cases e : x = n
        · exact .inr (.inl e)
        · by_cases e2 : x < n
          · exact .inl ⟨h1, e2⟩
          · exact .inr (.inr ⟨h1, by omega⟩)
      · exact .inr (.inl h1)
theorem pq {l : List Int} {n : Int} (h : l.Pairwise (· < ·)) : (mP l n).Pairwise (· < ·) := by
  unfold mP
  split
  · exact h
  · rw [List.pairwise_append]
    refine ⟨h.filter _, ?_, fun a ha b hb => ?_⟩
    · rw [List.pairwise_cons]
      refine ⟨fun a ha => by simpa using (List.mem_filter.1 ha).2, h.filter _⟩
    · have h1 : a < n := by simpa using (List.mem_filter.1 ha).2
      rw [List.mem_cons] at hb
      rcases hb with hb | hb
      · omega
      · have : n < b := by simpa using (List.mem_filter.1 hb).2
        omega
theorem pa (r : List Int) : ∀ {l : List Int}, l.Pairwise (· < ·) → (r.foldl mP l).Pairwise (· < ·) := by
  induction r with
  | nil => intro l h; exact h
  | cons a r ih => intro l h; exact ih (pq h)
theorem tv (r : List Int) : ∀ {l : List Int} {x : Int}, x ∈ r.foldl mP l ↔ x ∈ l ∨ x ∈ r := by
  induction r with
  | nil => intro l x; simp
  | cons a r ih => intro l x; rw [List.foldl_cons, ih, tQ, List.mem_cons, or_assoc]
theorem tX (xs : List Int) : xs.foldl mP [] = lg xs :=
  lM (pa xs (by simp)) (eE xs).1 fun x => by rw [tv, (eE xs).2]; simp
def eR (m : Mly) : List Int := if bJ m = 0 then lg m.ot.flatten else []
theorem oE {m : Mly} (h : ¬ bJ m = 0) : eR m = [] := if_neg h
theorem gZ {m : Mly} (h : bJ m = 0) : eR m = lg m.ot.flatten := if_pos h
theorem mg {m : Mly} (hm : MOK m) : ∀ k, k ≤ m.ot.length → ((m.ot.take k).flatten.length : Int) = k * m.inp
  | 0, _ => by simp
  | k + 1, h => by
    rw [eP _ (by omega), aq]
    have h1 := mg hm k (by omega)
    have h2 := hm.ql k (by have := hm.ol; omega)
    rw [Int.natCast_add, h1, h2]
    have : ((k + 1 : Nat) : Int) = (k : Int) + 1 := by omega
    rw [this, Int.add_mul]; omega
theorem ij {m : Mly} (hm : MOK m) {k : Nat} (h : k ≤ m.ot.length) : (m.ot.take k).flatten.length ≤ 8192 := by
  have h1 := mg hm k h
  have h2 := hm.ol; have h3 := hm.n2; have h4 := hm.i2; have h5 := hm.i1
  have h6 : (k : Int) * m.inp ≤ 128 * 64 := Int.mul_le_mul (by omega) (by omega) (by omega) (by omega)
  omega
/-plain-/
theorem mS : ∀ (xs : List Int) (a : Int), a ≤ xs.foldl max a ∧ ∀ x, x ∈ xs → x ≤ xs.foldl max a
  | [], a => ⟨Int.le_refl a, fun x h => by cases h⟩
  | y :: xs, a => by
    rw [List.foldl_cons]
    obtain ⟨h1, h2⟩ := mS xs (max a y)
    refine ⟨by omega, fun x hx => ?_⟩
    rcases List.mem_cons.1 hx with e | h
    · omega
    · exact h2 x h
def mxL (xs : List Int) : Int := xs.foldl max (xs.getD 0 0)
def gr (m : Mly) : Int := m.ot.flatten.foldl max 0
theorem vi {m : Mly} (hm : MOK m) {s a : Int} (hs : 0 ≤ s ∧ s < m.nx.length) (ha : 0 ≤ a ∧ a < m.inp) : m.out s a ∈ m.ot.flatten := by
  have hol := hm.ol
  have h1 : s.toNat < m.ot.length := by omega
  have h2 := hm.ql s.toNat (by omega)
  rw [List.mem_flatten]
  refine ⟨m.ot.getD s.toNat [], by simp [List.getD, h1], iF (by omega)⟩
theorem wk {m : Mly} (hm : MOK m) {s a : Int} (hs : 0 ≤ s ∧ s < m.nx.length) (ha : 0 ≤ a ∧ a < m.inp) : 0 ≤ m.out s a ∧ m.out s a ≤ gr m := by
  refine ⟨?_, (mS _ _).2 _ (vi hm hs ha)⟩
  exact (hm.or s.toNat a.toNat (by omega) (by omega)).1
theorem eK {m : Mly} (hm : MOK m) {s a : Int} (hs : 0 ≤ s ∧ s < m.nx.length) (ha : 0 ≤ a ∧ a < m.inp) : 0 ≤ m.nxt s a ∧ m.nxt s a < m.nx.length := hm.nr s.toNat a.toNat (by omega) (by omega)
def FP (a b : Mly) : SYS := fun p x => ((a.nxt p.1 x, b.nxt p.2 x), a.out p.1 x * (1 + gr b) + b.out p.2 x)
def FL (a b : Mly) : SYS := fun p x => if (x : Int) < a.inp then ((a.nxt p.1 x, p.2), a.out p.1 x) else ((p.1, b.nxt p.2 (x - a.inp)), b.out p.2 (x - a.inp) + (1 + gr a))
def FC (a b : Mly) : SYS := fun p x => ((a.nxt p.1 x, b.nxt p.2 (a.out p.1 x)), b.out p.2 (a.out p.1 x))
def FR (m : Mly) (is : List Int) : SYS := fun p x => ((m.nxt p.1 (is.getD x 0), 0), m.out p.1 (is.getD x 0))
def FM (m : Mly) (os : List Int) : SYS := fun p x => ((m.nxt p.1 x, 0), os.getD (m.out p.1 x).toNat 0)
def IP (a b : Mly) (p : PP) : Prop := (0 ≤ p.1 ∧ p.1 < a.nx.length) ∧ 0 ≤ p.2 ∧ p.2 < b.nx.length
def IS (m : Mly) (p : PP) : Prop := (0 ≤ p.1 ∧ p.1 < m.nx.length) ∧ p.2 = 0
theorem IP.st {a b : Mly} (ha : MOK a) (hb : MOK b) : IP a b (a.st, b.st) := ⟨⟨ha.s1, ha.s2⟩, hb.s1, hb.s2⟩
theorem IS.st {m : Mly} (hm : MOK m) : IS m (m.st, 0) := ⟨⟨hm.s1, hm.s2⟩, rfl⟩
theorem FP.keep {a b : Mly} (ha : MOK a) (hb : MOK b) (hi : a.inp = b.inp) : ∀ q, IP a b q → ∀ x, x < a.inp.toNat → IP a b (FP a b q x).1 := fun q hq x hx =>
  ⟨eK ha hq.1 ⟨by omega, by omega⟩, eK hb hq.2 ⟨by omega, by omega⟩⟩
theorem FL.keep {a b : Mly} (ha : MOK a) (hb : MOK b) : ∀ q, IP a b q → ∀ x, x < (a.inp + b.inp).toNat → IP a b (FL a b q x).1 := fun q hq x hx => by
  unfold FL
  split
  · exact ⟨eK ha hq.1 ⟨by omega, by omega⟩, hq.2⟩
  · exact ⟨hq.1, eK hb hq.2 ⟨by omega, by omega⟩⟩
theorem FC.keep {a b : Mly} (ha : MOK a) (hb : MOK b) (hg : gr a < b.inp) : ∀ q, IP a b q → ∀ x, x < a.inp.toNat → IP a b (FC a b q x).1 := fun q hq x hx => by
  have h1 := wk ha hq.1 (a := (x : Int)) ⟨by omega, by omega⟩
  exact ⟨eK ha hq.1 ⟨by omega, by omega⟩, eK hb hq.2 ⟨by omega, by omega⟩⟩
theorem FR.keep {m : Mly} (hm : MOK m) {is : List Int} (hi : ∀ i, i < is.length → 0 ≤ is.getD i 0 ∧ is.getD i 0 < m.inp) : ∀ q, IS m q → ∀ x, x < is.length → IS m (FR m is q x).1 := fun q hq x hx =>
  ⟨eK hm hq.1 (hi x hx), rfl⟩
theorem FM.keep {m : Mly} (hm : MOK m) (os : List Int) : ∀ q, IS m q → ∀ x, x < m.inp.toNat → IS m (FM m os q x).1 := fun q hq x hx =>
  ⟨eK hm hq.1 ⟨by omega, by omega⟩, rfl⟩
structure SNG (X : Mly) (F : SYS) : Prop where
  st : ∀ s x : Nat, s < X.nx.length → (x : Int) < X.inp → F ((s : Int), 0) x = ((X.nxt s x, 0), X.out s x)
theorem SNG.at_ {X : Mly} {F : SYS} (h : SNG X F) {q : PP} (hq : IS X q) {x : Nat} (hx : (x : Int) < X.inp) : F q x = ((X.nxt q.1 x, 0), X.out q.1 x) := by
  obtain ⟨q1, q2⟩ := q
  obtain ⟨h1, h2⟩ := hq
  simp only at h1 h2
  subst h2
  have := h.st q1.toNat x (by omega) hx
  rw [Int.toNat_of_nonneg h1.1] at this
  exact this
theorem wA {xs : List Int} (h : 0 < xs.length) : (xs.take 1).foldl max (xs.getD 0 0) = xs.getD 0 0 := by
  cases xs with
  | nil => cases h
  | cons y xs => simp [List.getD]
/-plain-/
abbrev Bs := List UInt8
def bt (s : Bs) (k : Nat) : Int := ((s.getD k 0).toNat : Int)
theorem sa (s : Bs) (k : Nat) : (⟨s.toArray⟩ : ByteArray).get! k = s.getD k 0 := by
  show s.toArray[k]! = _
  by_cases h : k < s.length
  · rw [getElem!_pos _ _ (by simpa using h)]; simp [List.getD, h]
  · rw [getElem!_neg _ _ (by simpa using h)]; simp [List.getD, h]; rfl
theorem sn {s : Bs} {pos : Nat} (ha : bt s pos < 128) : (((dec s pos).1 : Nat) : Int) = bt s pos ∧ (dec s pos).2 = 1 := by
  unfold bt at ha ⊢
  have h0 : (s.getD pos 0).toNat < 128 := by omega
  unfold dec
  simp only [Utf8.decode, Nat.add_zero, sa, h0, if_true]
  exact ⟨trivial, trivial⟩
theorem wF {s : Bs} {pos : Nat} (ha : 128 ≤ bt s pos) : 128 ≤ (((dec s pos).1 : Nat) : Int) := by
  unfold bt at ha
  have h0 : ¬ (s.getD pos 0).toNat < 128 := by omega
  unfold dec
  simp only [Utf8.decode, Nat.add_zero, sa, h0, if_false]
  repeat' split
  all_goals simp_all [Utf8.runeError]
  all_goals omega
def okI (c : Int) : Prop := (97 ≤ c ∧ c ≤ 122) ∨ (65 ≤ c ∧ c ≤ 90) ∨ (48 ≤ c ∧ c ≤ 57) ∨ c = 95 ∨ c = 45 ∨ c = 46
instance (c : Int) : Decidable (okI c) := by unfold okI; exact inferInstance
def aY (s : Bs) : Bool := s.all (fun b => decide (okI (b.toNat : Int))) && decide (1 ≤ s.length) && decide (s.length ≤ 32)
theorem vP {s : Bs} {k : Nat} (ho : okI (((dec s k).1 : Nat) : Int)) : okI (bt s k) ∧ (dec s k).2 = 1 := by
  by_cases h : bt s k < 128
  · have := sn h
    rw [this.1] at ho; exact ⟨ho, this.2⟩
  · have := wF (s := s) (pos := k) (by omega)
    unfold okI at ho; omega
theorem sv {s : Bs} {k : Nat} (ho : ¬ okI (((dec s k).1 : Nat) : Int)) : ¬ okI (bt s k) := by
  by_cases h : bt s k < 128
  · have := sn h
    rw [this.1] at ho; exact ho
  · unfold okI; omega
theorem ww {s : Bs} {k : Nat} (h : k < s.length) : s.getD k 0 ∈ s := by simp [List.getD, h]
theorem iL {s : Bs} {k : Nat} (h : k < s.length) (hb : ¬ okI (bt s k)) : aY s = false := by
  unfold aY
  have : s.all (fun b => decide (okI (b.toNat : Int))) = false := by
    rw [List.all_eq_false]
    exact ⟨_, ww h, by simp only [decide_eq_true_eq]; exact hb⟩
  rw [this]; rfl
theorem iP {s : Bs} (h : ∀ j, j < s.length → okI (bt s j)) : aY s = (decide (1 ≤ (s.length : Int)) && decide ((s.length : Int) ≤ 32)) := by
  unfold aY
  have : s.all (fun b => decide (okI (b.toNat : Int))) = true := by
    rw [List.all_eq_true]
    intro b hb
    obtain ⟨j, hj⟩ := List.getElem?_of_mem hb
    have h1 := h j (List.getElem?_eq_some_iff.1 hj).1
    unfold bt at h1
    have e : s.getD j 0 = b := by simp [List.getD, hj]
    rw [e] at h1; simpa using h1
  rw [this, Bool.true_and]
  congr 1
  · exact decide_eq_decide.2 (by omega)
  · exact decide_eq_decide.2 (by omega)
theorem dM {s : Bs} (h : aY s = true) : (∀ b, b ∈ s → okI (b.toNat : Int)) ∧ 1 ≤ s.length ∧ s.length ≤ 32 := by
  unfold aY at h
  simp only [Bool.and_eq_true, decide_eq_true_eq, List.all_eq_true] at h
  exact ⟨h.1.1, h.1.2, h.2⟩
theorem eu {s : Bs} (h : aY s = true) : (32 : UInt8) ∉ s := fun hm => by
  have := (dM h).1 _ hm
  unfold okI at this
  have e : ((32 : UInt8).toNat : Int) = 32 := by decide
  omega
def nmE (xs : List Bs) (i : Nat) : Int := if aY (xs.getD i []) = false then 9 else if xs.getD i [] ∈ xs.take i then 7 else 0
def alE (xs : List Bs) : Int := if xs.length = 0 then 19 else if 64 < xs.length then 3 else cp (nmE xs) xs.length
theorem fX {xs : List Bs} (h : xs.length = 0) : alE xs = 19 := if_pos h
theorem eF {xs : List Bs} (h : ¬ xs.length = 0) (h2 : 64 < xs.length) : alE xs = 3 := by unfold alE; rw [if_neg h, if_pos h2]
theorem fZ {xs : List Bs} (h : ¬ xs.length = 0) (h2 : ¬ 64 < xs.length) {k : Nat} (hk : k < xs.length) (hq : ∀ q, q < k → nmE xs q = 0) (hb : aY (xs.getD k []) = false) : alE xs = 9 := by
  have e : nmE xs k = 9 := if_pos hb
  unfold alE; rw [if_neg h, if_neg h2, bC hq hk (by rw [e]; decide), e]
theorem fW {xs : List Bs} (h : ¬ xs.length = 0) (h2 : ¬ 64 < xs.length) {k : Nat} (hk : k < xs.length) (hq : ∀ q, q < k → nmE xs q = 0) (hb : aY (xs.getD k []) = true) (hi : xs.getD k [] ∈ xs.take k) : alE xs = 7 := by
  have e : nmE xs k = 7 := by unfold nmE; rw [if_neg (by rw [hb]; decide), if_pos hi]
  unfold alE; rw [if_neg h, if_neg h2, bC hq hk (by rw [e]; decide), e]
theorem jh {xs : List Bs} {k : Nat} (hb : aY (xs.getD k []) = true) (hi : xs.getD k [] ∉ xs.take k) : nmE xs k = 0 := by unfold nmE; rw [if_neg (by rw [hb]; decide), if_neg hi]
theorem dK {xs : List Bs} (h : ¬ xs.length = 0) (h2 : ¬ 64 < xs.length) (hq : ∀ q, q < xs.length → nmE xs q = 0) : alE xs = 0 := by
  unfold alE; rw [if_neg h, if_neg h2, bW hq]
structure AOK (xs : List Bs) : Prop where
  n0 : 1 ≤ xs.length
  n1 : xs.length ≤ 64
  nm : ∀ k, k < xs.length → aY (xs.getD k []) = true
  nw : ∀ k, k < xs.length → xs.getD k [] ∉ xs.take k
theorem iN {xs : List Bs} (h : alE xs = 0) : AOK xs := by
  unfold alE at h
  split at h
  · omega
  · split at h
    · omega
    · have h3 := gP h
      have h4 : ∀ k, k < xs.length → aY (xs.getD k []) = true ∧ xs.getD k [] ∉ xs.take k := fun k hk => by
        have := h3 k hk
        unfold nmE at this
        split at this
        · omega
        · split at this
          · omega
          · rename_i q1 q2; exact ⟨by simpa using q1, q2⟩
      exact ⟨by omega, by omega, fun k hk => (h4 k hk).1, fun k hk => (h4 k hk).2⟩
theorem cU {xs : List Bs} {k : Nat} (h : k < xs.length) : xs.getD k [] ∈ xs := by simp [List.getD, h]
theorem ld {xs : List Bs} {x : Bs} : x ∈ xs ↔ ∃ j, j < xs.length ∧ xs.getD j [] = x := by
  constructor
  · intro h
    obtain ⟨j, hj⟩ := List.getElem?_of_mem h
    exact ⟨j, (List.getElem?_eq_some_iff.1 hj).1, by simp [List.getD, hj]⟩
  · rintro ⟨j, hj, e⟩; rw [← e]; exact cU hj
theorem gN {xs : List Bs} {i k : Nat} (hi : i < k) : (xs.take k).getD i [] = xs.getD i [] := by simp [List.getD, List.getElem?_take, hi]
theorem mr {q : Bs} : ∀ {l : List Bs} {k : Nat}, k < pos l q → l.getD k [] ≠ q
  | [], k, h => by simp [pos] at h
  | y :: l, k, h => by
    simp only [pos] at h
    split at h
    · omega
    · rename_i e
      cases k with
      | zero => simpa [List.getD] using e
      | succ k =>
        have := mr (q := q) (l := l) (k := k) (by omega)
        simpa [List.getD] using this
theorem mH {l : List Bs} {q : Bs} (h : q ∈ l) : l.getD (pos l q) [] = q := by rw [List.getD, qC h]; rfl
theorem km {l : List Bs} {q : Bs} {k : Nat} (hq : ∀ j, j < k → l.getD j [] ≠ q) (hk : k < l.length) (h : l.getD k [] = q) : pos l q = k ∧ q ∈ l := by
  have hm : q ∈ l := by rw [← h]; exact cU hk
  refine ⟨?_, hm⟩
  rcases Nat.lt_trichotomy k (pos l q) with h2 | h2 | h2
  · exact absurd h (mr h2)
  · exact h2.symm
  · exact absurd (mH hm) (hq _ h2)
theorem nj {l : List Bs} {q : Bs} (hq : ∀ j, j < l.length → l.getD j [] ≠ q) : q ∉ l := fun hm => hq _ (eG hm) (mH hm)
theorem AOK.pos {xs : List Bs} (h : AOK xs) {k : Nat} (hk : k < xs.length) : pos xs (xs.getD k []) = k :=
  (km (fun j hj e => h.nw k hk (by rw [ld]; exact ⟨j, by rw [List.length_take]; omega, by rw [gN hj, e]⟩)) hk rfl).1
def idA (xs : List Bs) (x : Bs) : Int := if x ∈ xs then (pos xs x : Int) else 0
def dO (s : Bs) : Nat → List Bs × Nat
  | 0 => ([], 0)
  | k + 1 => if bt s k = 32 then ((dO s k).1 ++ [(s.take k).drop (dO s k).2], k + 1) else dO s k
theorem jD {s : Bs} {k : Nat} (h : bt s k = 32) : dO s (k + 1) = ((dO s k).1 ++ [(s.take k).drop (dO s k).2], k + 1) := if_pos h
theorem mh {s : Bs} {k : Nat} (h : ¬ bt s k = 32) : dO s (k + 1) = dO s k := if_neg h
theorem kD (s : Bs) : ∀ k, (dO s k).2 ≤ k
  | 0 => Nat.le_refl _
  | k + 1 => by
    have := kD s k
    simp only [dO]
    split
    · exact Nat.le_refl _
    · omega
theorem mT (s : Bs) : ∀ k, (dO s k).1.length ≤ k
  | 0 => Nat.le_refl _
  | k + 1 => by
    have := mT s k
    simp only [dO]
    split
    · rw [aq]; simp only [ak, aw]; omega
    · omega
def spl (s : Bs) : List Bs := (dO s s.length).1 ++ [s.drop (dO s s.length).2]
def aG (s : Bs) : List Bs := if s = [] then [] else spl s
theorem rt (s : Bs) : (aG s).length ≤ s.length + 1 := by
  unfold aG spl
  split
  · simp
  · rw [aq]; have := mT s s.length; simp only [ak, aw]; omega
def spS (st : List Bs × Bs) (b : UInt8) : List Bs × Bs := if b = 32 then (st.1 ++ [st.2], []) else (st.1, st.2 ++ [b])
def spF (st : List Bs × Bs) (s : Bs) : List Bs × Bs := s.foldl spS st
theorem vx {s : Bs} {k : Nat} : bt s k = 32 ↔ s.getD k 0 = 32 := by
  unfold bt
  constructor
  · intro h
    apply UInt8.toNat_inj.1
    have e : ((32 : UInt8).toNat : Int) = 32 := by decide
    omega
  · intro h; rw [h]; decide
theorem iz {s : Bs} {k : Nat} (h : k < s.length) : s.take (k + 1) = s.take k ++ [s.getD k 0] := by rw [List.take_add_one, List.getElem?_eq_getElem h]; simp [List.getD, h]
theorem oW (s : Bs) : ∀ k, k ≤ s.length → spF ([], []) (s.take k) = ((dO s k).1, (s.take k).drop (dO s k).2)
  | 0, _ => rfl
  | k + 1, h => by
    have ih := oW s k (by omega)
    have hf := kD s k
    rw [iz (by omega)]
    unfold spF at ih ⊢
    rw [List.foldl_append, ih, List.foldl_cons, List.foldl_nil]
    by_cases e : bt s k = 32
    · rw [jD e]
      unfold spS
      rw [if_pos (vx.1 e)]
      simp only []
      have e9 : (s.take k ++ [s.getD k 0]).drop (k + 1) = [] := List.drop_eq_nil_of_le (by rw [aq, List.length_take]; simp only [ak, aw]; omega)
      rw [e9]
    · rw [mh e]
      unfold spS
      rw [if_neg (fun h => e (vx.2 h))]
      simp only []
      rw [List.drop_append_of_le_length (by rw [List.length_take]; omega)]
theorem tH (s : Bs) : spl s = (spF ([], []) s).1 ++ [(spF ([], []) s).2] := by
  have := oW s s.length (Nat.le_refl _)
  rw [aD] at this
  rw [this]; rfl
/-plain-/
abbrev STP := PP → Nat → PP
abbrev W3 := PP × List Int
def w30 : W3 := (d0, [])
def dIn (l : List W3) (q : PP) : Bool := l.any fun f => decide (f.1 = q)
def dSt (A : STP) (e : W3) (l : List W3) (x : Nat) : List W3 := if dIn l (A e.1 x) = true then l else l ++ [(A e.1 x, e.2 ++ [(x : Int)])]
def gT (A : STP) (e : W3) (l : List W3) (x : Nat) : List W3 := (List.range x).foldl (dSt A e) l
theorem qh {l : List W3} {q : PP} : dIn l q = true ↔ q ∈ l.map Prod.fst := by
  unfold dIn
  rw [List.any_eq_true, List.mem_map]
  constructor
  · rintro ⟨e, he, h⟩; exact ⟨e, he, by simpa using h⟩
  · rintro ⟨e, he, h⟩; exact ⟨e, he, by simpa using h⟩
theorem pG {A : STP} {e : W3} {l : List W3} {x : Nat} (h : A e.1 x ∈ l.map Prod.fst) : dSt A e l x = l := if_pos (qh.2 h)
theorem nU {A : STP} {e : W3} {l : List W3} {x : Nat} (h : A e.1 x ∉ l.map Prod.fst) : dSt A e l x = l ++ [(A e.1 x, e.2 ++ [(x : Int)])] := if_neg fun k => h (qh.1 k)
theorem gG (A : STP) (e : W3) (l : List W3) (x : Nat) : gT A e l (x + 1) = dSt A e (gT A e l x) x := by
  unfold gT; rw [List.range_succ, List.foldl_append]; rfl
theorem uA (A : STP) (e : W3) (l : List W3) (x : Nat) : ∃ k, dSt A e l x = l ++ k := by
  unfold dSt; split
  · exact ⟨[], by simp⟩
  · exact ⟨_, rfl⟩
theorem nF (A : STP) (e : W3) (l : List W3) (x : Nat) : ∀ d, ∃ k, gT A e l (x + d) = gT A e l x ++ k
  | 0 => ⟨[], by simp⟩
  | d + 1 => by
    obtain ⟨k, h⟩ := nF A e l x d
    obtain ⟨k', h'⟩ := uA A e (gT A e l (x + d)) (x + d)
    exact ⟨k ++ k', by rw [← Nat.add_assoc, gG, h', h, List.append_assoc]⟩
theorem tR (A : STP) (e : W3) (l : List W3) (x : Nat) : ∃ k, gT A e l x = l ++ k := by
  obtain ⟨k, h⟩ := nF A e l 0 x
  rw [Nat.zero_add] at h
  exact ⟨k, h⟩
def inR (n1 n2 : Nat) (q : PP) : Prop := (0 ≤ q.1 ∧ q.1 < n1) ∧ 0 ≤ q.2 ∧ q.2 < n2
structure DW (n1 n2 : Nat) (l : List W3) : Prop where
  nd : (l.map Prod.fst).Nodup
  rg : ∀ e, e ∈ l → inR n1 n2 e.1
  wl : ∀ e, e ∈ l → e.2.length < l.length
theorem pm {l : List W3} {i : Nat} (h : i < l.length) : l.getD i w30 ∈ l := by simp [List.getD, h]
theorem DW.le {n1 n2 : Nat} {l : List W3} (h : DW n1 n2 l) : l.length ≤ n1 * n2 := by
  have hnd : ((l.map Prod.fst).map fun q : PP => q.1 * (n2 : Int) + q.2).Nodup := by
    rw [List.nodup_iff_pairwise_ne, List.pairwise_map]
    refine List.Pairwise.imp_of_mem (fun {a b} ha hb hab => ?_) (List.nodup_iff_pairwise_ne.1 h.nd)
    intro e
    obtain ⟨ea, hea, rfl⟩ := List.mem_map.1 ha
    obtain ⟨eb, heb, rfl⟩ := List.mem_map.1 hb
    have := oH (h.rg ea hea).2 (h.rg eb heb).2 e
    exact hab (Prod.ext this.1 this.2)
  have := gI (n1 * n2) _ hnd (fun x hx => by
    obtain ⟨q, hq, rfl⟩ := List.mem_map.1 hx
    obtain ⟨e, he, rfl⟩ := List.mem_map.1 hq
    have hr := h.rg e he
    have := pR hr.1 hr.2
    rw [Int.natCast_mul]; exact this)
  simpa using this
theorem DW.step {n1 n2 n : Nat} {A : STP} (hA : ∀ q, inR n1 n2 q → ∀ x, x < n → inR n1 n2 (A q x)) {l : List W3} (h : DW n1 n2 l) {e : W3} (he : e ∈ l) {x : Nat} (hx : x < n) : DW n1 n2 (dSt A e l x) := by
  by_cases hin : A e.1 x ∈ l.map Prod.fst
  · rw [pG hin]; exact h
  · rw [nU hin]
    refine ⟨?_, fun f hf => ?_, fun f hf => ?_⟩
    · rw [List.map_append, aS, bM, List.nodup_append]
      refine ⟨h.nd, by simp, fun a ha b hb => ?_⟩
      simp at hb; subst hb
      intro hab; subst hab; exact hin ha
    · rcases List.mem_append.1 hf with hf | hf
      · exact h.rg f hf
      · simp at hf; subst hf; exact hA _ (h.rg e he) x hx
    · rw [aq, List.length_singleton]
      rcases List.mem_append.1 hf with hf | hf
      · have := h.wl f hf; omega
      · simp at hf; subst hf
        have := h.wl e he
        simp only [aq, List.length_singleton]; omega
theorem DW.row {n1 n2 n : Nat} {A : STP} (hA : ∀ q, inR n1 n2 q → ∀ x, x < n → inR n1 n2 (A q x)) {l : List W3} (h : DW n1 n2 l) {i : Nat} (hi : i < l.length) : ∀ x, x ≤ n → DW n1 n2 (gT A (l.getD i w30) l x)
  | 0, _ => by simpa [gT] using h
  | x + 1, hx => by
    rw [gG]
    refine (h.row hA hi x (by omega)).step hA ?_ (by omega)
    obtain ⟨k, e⟩ := tR A (l.getD i w30) l x
    rw [e]; exact List.mem_append.2 (.inl (pm hi))
/-plain-/
/-plain-/
def cN (cl : List Int) : Nat → Int
  | 0 => 0
  | k + 1 => max (cN cl k) (cl.getD k 0 + 1)
def xq (cl : List Int) (k : Nat) : Bool := decide (cl.getD k 0 < 0) || decide (cN cl k < cl.getD k 0)
def xt (cl : List Int) : Int := if cl.length < 1 ∨ 64 < cl.length then 2 else if (List.range cl.length).any (xq cl) = true then 1 else 0
structure COK (m : Mly) (cl : List Int) : Prop where
  ok : MOK m
  ce : xt cl = 0
  len : (cl.length : Int) = m.inp
abbrev S2 := Int × List Int
def eX0 : S2 := (0, [])
def jY (l : List S2) : List Int := l.map (·.1)
def stX (m : Mly) (e : S2) (l : List S2) (x : Nat) : List S2 := if (m.row e.1).getD x 0 ∈ jY l then l else l ++ [((m.row e.1).getD x 0, e.2 ++ [(x : Int)])]
def jX (m : Mly) (e : S2) (l : List S2) (x : Nat) : List S2 := (List.range x).foldl (stX m e) l
theorem mG (m : Mly) (e : S2) (l : List S2) (x : Nat) : jX m e l (x + 1) = stX m e (jX m e l x) x := by
  unfold jX; rw [List.range_succ, List.foldl_append]; rfl
theorem vG (m : Mly) (e : S2) (l : List S2) (x : Nat) : ∃ k, stX m e l x = l ++ k := by
  unfold stX
  split
  · exact ⟨[], by simp⟩
  · exact ⟨_, rfl⟩
theorem oR (m : Mly) (e : S2) (l : List S2) : ∀ x, ∃ k, jX m e l x = l ++ k
  | 0 => ⟨[], by simp [jX]⟩
  | x + 1 => by
    obtain ⟨k1, h1⟩ := oR m e l x
    obtain ⟨k2, h2⟩ := vG m e (jX m e l x) x
    exact ⟨k1 ++ k2, by rw [mG, h2, h1, List.append_assoc]⟩
theorem uy (m : Mly) (e : S2) (l : List S2) (x : Nat) : l.length ≤ (jX m e l x).length := by
  obtain ⟨k, hk⟩ := oR m e l x
  rw [hk]; simp
structure WFX (m : Mly) (l : List S2) : Prop where
  rs : RSet m.nx.length (jY l)
  wl : ∀ e, e ∈ l → e.2.length ≤ l.length
theorem oG (l : List S2) : (jY l).length = l.length := by simp [jY]
theorem uz {l : List S2} {i : Nat} (h : i < l.length) : (jY l).getD i 0 = (l.getD i eX0).1 := by simp [jY, List.getD, h]
theorem WFX.le {m : Mly} {l : List S2} (h : WFX m l) : l.length ≤ m.nx.length := by have := h.rs.len; rwa [oG] at this
theorem WFX.at_ {m : Mly} {l : List S2} (h : WFX m l) {i : Nat} (hi : i < l.length) : 0 ≤ (l.getD i eX0).1 ∧ (l.getD i eX0).1 < m.nx.length := by
  rw [← uz hi]; exact h.rs.at_ (by rw [oG]; exact hi)
theorem x8 {l : List S2} {i : Nat} (h : i < l.length) : l.getD i eX0 ∈ l := by simp [List.getD, h]
theorem WFX.step {m : Mly} (hm : MOK m) {l : List S2} (h : WFX m l) {e : S2} (he : 0 ≤ e.1 ∧ e.1 < m.nx.length) (hw : e.2.length ≤ l.length) {x : Nat} (hx : (x : Int) < m.inp) : WFX m (stX m e l x) := by
  unfold stX
  split
  · exact h
  · rename_i hn
    have n1 := hm.nr e.1.toNat x (by omega) hx
    refine ⟨?_, fun f hf => ?_⟩
    · have e1 : jY (l ++ [((m.row e.1).getD x 0, e.2 ++ [(x : Int)])]) = lp (jY l) ((m.row e.1).getD x 0) := by rw [tW hn]; simp [jY]
      rw [e1]
      exact h.rs.add n1.1 n1.2
    · simp only [aq, ak, aw]
      rcases List.mem_append.1 hf with hf | hf
      · have := h.wl f hf; omega
      · simp at hf; subst hf; simp; omega
theorem WFX.row {m : Mly} (hm : MOK m) {l : List S2} (h : WFX m l) {i : Nat} (hil : i < l.length) : ∀ x : Nat, (x : Int) ≤ m.inp → WFX m (jX m (l.getD i eX0) l x)
  | 0, _ => by simpa [jX] using h
  | x + 1, hx => by
    rw [mG]
    have h1 := WFX.row hm h hil x (by omega)
    have h2 := uy m (l.getD i eX0) l x
    have h3 := h.wl _ (x8 hil)
    exact h1.step hm (h.at_ hil) (by omega) (by omega)
def f3 (r : Option (Nat × Nat × Nat)) : Int × Int × Int := match r with | some p => (p.1, p.2.1, p.2.2) | none => (0, 0, 0)

def oI (p : Int → Bool) (xs : List Int) : Int := match xs.findIdx? p with | some i => (i : Int) | none => -1
theorem ri {p : Int → Bool} {xs : List Int} (h : ∀ q, q < xs.length → p (xs.getD q 0) = false) : oI p xs = -1 := by
  unfold oI
  have : xs.findIdx? p = none := by
    rw [List.findIdx?_eq_none_iff]
    intro a ha
    obtain ⟨i, hi⟩ := List.getElem?_of_mem ha
    have := h i (List.getElem?_eq_some_iff.1 hi).1
    simpa [List.getD, hi] using this
  rw [this]
def nmS (T : Nat → Nat → Bool) : Nat → List Int × List Int
  | 0 => ([], [])
  | c + 1 => if oI (fun d => T d.toNat c) (nmS T c).2 < 0 then ((nmS T c).1 ++ [((nmS T c).2.length : Int)], (nmS T c).2 ++ [(c : Int)])
    else ((nmS T c).1 ++ [oI (fun d => T d.toNat c) (nmS T c).2], (nmS T c).2)
/-plain-/
structure EQT (T : Nat → Nat → Bool) (n : Nat) : Prop where
  rf : ∀ a, a < n → T a a = true
  sy : ∀ a b, a < n → b < n → T a b = true → T b a = true
  tr : ∀ a b c, a < n → b < n → c < n → T a b = true → T b c = true → T a c = true
structure NMP (T : Nat → Nat → Bool) (c : Nat) : Prop where
  at_ : ∀ q, q < c → 0 ≤ (nmS T c).1.getD q 0 ∧ (nmS T c).1.getD q 0 < (nmS T c).2.length ∧ T ((nmS T c).2.getD ((nmS T c).1.getD q 0).toNat 0).toNat q = true
  ap : ∀ x y, x < y → y < (nmS T c).2.length → T ((nmS T c).2.getD x 0).toNat ((nmS T c).2.getD y 0).toNat = false
/-plain-/
structure Dfa where
  inp : Int
  st : Int
  nx : List (List Int)
  acc : List Bool
def Dfa.av (d : Dfa) : AV := .agg [.int .i64 d.inp, .int .i64 d.st, .list (.list (.int .i64)) d.nx, .list .bool d.acc]
def Dfa.row (d : Dfa) (s : Int) : List Int := d.nx.getD s.toNat []
def Dfa.dl (d : Dfa) (s a : Int) : Int := (d.row s).getD a.toNat 0
def Dfa.ac (d : Dfa) (s : Int) : Bool := d.acc.getD s.toNat false
def Dfa.run (d : Dfa) (s : Int) (w : List Int) : Int := w.foldl (fun s a => d.dl s a) s
def pB (n : Int) (t : Int) : Bool := decide (t < 0) || decide (n ≤ t)
def Dfa.cb (d : Dfa) (s a : Nat) : Prop := (d.row s).getD a 0 < 0 ∨ (d.nx.length : Int) ≤ (d.row s).getD a 0
def sM (d : Dfa) (s : Nat) : Int := if ¬ ((d.row s).length : Int) = d.inp then 1 else if 0 ≤ oI (pB d.nx.length) (d.row s) then 2 else 0
def sk (d : Dfa) : Int := if d.inp < 1 ∨ 1024 < d.inp then 2 else if d.nx.length = 0 then 19 else if 128 < d.nx.length then 11 else if d.st < 0 ∨ (d.nx.length : Int) ≤ d.st then 2 else if ¬ d.acc.length = d.nx.length then 1 else cp (sM d) d.nx.length
theorem vO {d : Dfa} {s : Nat} (h : ((d.row s).length : Int) = d.inp) (h2 : ¬ 0 ≤ oI (pB d.nx.length) (d.row s)) : sM d s = 0 := by unfold sM; rw [if_neg (fun k => k h), if_neg h2]
theorem wD {n t : Int} : pB n t = true ↔ t < 0 ∨ n ≤ t := by unfold pB; simp
theorem x4 {n t : Int} : pB n t = false ↔ ¬ (t < 0 ∨ n ≤ t) := by rw [← wD]; simp
theorem rp {d : Dfa} {s : Nat} (h : ((d.row s).length : Int) = d.inp) (hq : ∀ a : Nat, (a : Int) < d.inp → ¬ d.cb s a) : sM d s = 0 := by
  refine vO h ?_
  rw [ri fun q hq2 => x4.2 (hq q (by omega))]
  omega
structure DOK (d : Dfa) : Prop where
  i1 : 1 ≤ d.inp
  i2 : d.inp ≤ 1024
  n1 : 1 ≤ d.nx.length
  n2 : d.nx.length ≤ 128
  s1 : 0 ≤ d.st
  s2 : d.st < d.nx.length
  al : d.acc.length = d.nx.length
  rl : ∀ s : Nat, s < d.nx.length → ((d.row s).length : Int) = d.inp
  cl : ∀ s a : Nat, s < d.nx.length → (a : Int) < d.inp → 0 ≤ (d.row s).getD a 0 ∧ (d.row s).getD a 0 < d.nx.length
theorem DOK.dl {d : Dfa} (h : DOK d) {s a : Int} (hs : 0 ≤ s ∧ s < d.nx.length) (ha : 0 ≤ a ∧ a < d.inp) : 0 ≤ d.dl s a ∧ d.dl s a < d.nx.length := by
  have := h.cl s.toNat a.toNat (by omega) (by omega)
  unfold Dfa.dl
  have e : d.row (s.toNat : Int) = d.row s := by unfold Dfa.row; rw [aN]
  rw [e] at this; exact this
theorem DOK.valid {d : Dfa} (h : DOK d) : sk d = 0 := by
  have a1 := h.i1; have a2 := h.i2; have a3 := h.n1; have a4 := h.n2; have a5 := h.s1; have a6 := h.s2; have a7 := h.al
  unfold sk
  rw [if_neg (by omega), if_neg (by omega), if_neg (by omega), if_neg (by omega), if_neg (by omega)]
  exact bW fun s hs => rp (h.rl s hs) fun a ha hb => by
    have := h.cl s a hs ha
    unfold Dfa.cb at hb; omega
def Dfa.co (d : Dfa) : Dfa := ⟨d.inp, d.st, d.nx, d.acc.map (!·)⟩
/-plain-/
end Go.AV
