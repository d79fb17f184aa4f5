/- Contracts of functions of this seat, each out of a walk through its code, and plain facts on what they compute. Conditions: those that each theorem names. -/
import Derived.Test.YtfakhaagbimljaaDoorTz
import Derived.Laws.CopyOwn
import Derived.Lib.Bytealg
import Derived.Lib.IndexMore
import Derived.Lib.ItoaNum
import Derived.Lib.Join
import Derived.Shelf.Lay
import Derived.Shelf.Spec.SlicesInsertGrow
import Derived.Shelf.Strings.Builder1
import Derived.Shelf.Strings.Count
import Derived.Shelf.Strings.Search2
import Derived.Shelf.Strings.Search3
set_option linter.unusedSimpArgs false
set_option linter.unusedVariables false
namespace Go.AV
theorem zB : (∀ (p : Prop) [Decidable p], (decide p = true) = p) ∧ (∀ (p : Prop) [Decidable p], (decide p = false) = ¬p) ∧ ((!true) = false) ∧ ((!false) = true) ∧ (∀ b : Bool, (¬(b = true)) = (b = false)) ∧ (∀ b : Bool, (¬(b = false)) = (b = true)) ∧ (∀ a b : Bool, ((!a) = b) = (a = !b)) ∧ (∀ a b : Int, ¬a < b ↔ b ≤ a) ∧ (∀ a b : Int, ¬a ≤ b ↔ b < a) ∧ ((true = false) = False) ∧ ((false = true) = False) ∧ (∀ {α : Sort 1} (a b : α), (a ≠ b) = ¬(a = b)) ∧ (∀ (p : Prop) [Decidable p], ¬¬p ↔ p) ∧ (∀ b : Bool, ((!b) = true) = (b = false)) ∧ (∀ {α : Type} [BEq α] [LawfulBEq α] {a b : α}, (a != b) = true ↔ a ≠ b) ∧ (∀ a b : Bool, ((a || b) = true) = (a = true ∨ b = true)) ∧ (∀ a b : Bool, ((a && b) = true) = (a = true ∧ b = true)) ∧ (∀ a b : Bool, ((a || b) = false) = (a = false ∧ b = false)) ∧ (∀ a b : Bool, ((a && b) = false) = (a = false ∨ b = false)) :=
  ⟨fun p _ => decide_eq_true_eq, fun p _ => by simp, rfl, rfl, by simp, by simp, by decide, fun a b => Int.not_lt, fun a b => Int.not_le, by simp, by simp, fun _ _ => rfl, fun p _ => Decidable.not_not, by simp, bne_iff_ne, by simp, by simp, by simp, by simp⟩
theorem zS {α : Type} : (∀ (a b : α) (l : List α), (a :: l).set 0 b = b :: l) ∧ ∀ (a b : α) (n : Nat) (l : List α), (a :: l).set (n + 1) b = a :: l.set n b := ⟨fun _ _ _ => rfl, fun _ _ _ _ => rfl⟩
end Go.AV
set_option maxRecDepth 100000
namespace Go.AV
open Nat renaming reduceEqDiff → J, reduceAdd → D, reduceLeDiff → O, reduceLT → V, reduceMul → S, reduceSub → U
open List renaming set_cons_zero → bn, set_cons_succ → bo, getD_cons_zero → bT, length_append → ag, map_cons → aQ, cons_append → b0, map_nil → bb, length_cons → ae, nil_append → b6, take_succ_cons → aj, length_nil → aq, length_map → bP, length_replicate → bh, take_length → aA, mem_cons_self → aN, mem_cons_of_mem → aK
open Int renaming toNat_natCast → af
/-plain-/
theorem an {a b : Prop} (h : b) (ha : a := by first | omega | assumption | exact rfl) : a ∧ b := ⟨ha, h⟩
theorem bf {a b : Tr} (h : TLE a b := by exact qo (by first | rfl | (simp [pT]; done) | decide)) : TLE a b := h
theorem zV : type_of% (And.intro @zE (And.intro @zG (And.intro @op1.eq_1 (And.intro @ev.eq_1 (And.intro @ev.eq_2 (And.intro @ev.eq_3 (And.intro @ev.eq_4 (And.intro @lkp.eq_1 (And.intro @lkp.eq_2 (And.intro @c9.eq_1 (And.intro @bc.eq_1 (And.intro @bc.eq_2 (And.intro @bc.eq_3 (And.intro @bc.eq_4 (And.intro @bc.eq_5 (And.intro @bc.eq_6 (And.intro @bc.eq_7 (And.intro @bc.eq_8 (And.intro @bm.eq_1 (And.intro @bm.eq_2 (And.intro @bm.eq_3 (And.intro @bQ.eq_1 (And.intro @bQ.eq_2 (And.intro @bQ.eq_3 (And.intro @mv1.eq_1 (And.intro @mv1.eq_2 (And.intro @mvC.eq_1 (And.intro @mvC.eq_2 (And.intro @Ty.dflt.eq_1 (And.intro @Ty.dflt.eq_2 (And.intro @Ty.dflt.eq_3 (And.intro @Ty.dflt.eq_4 (And.intro @Ty.dflt.eq_5 @Ty.dflt.eq_6))))))))))))))))))))))))))))))))) :=
  And.intro @zE (And.intro @zG (And.intro @op1.eq_1 (And.intro @ev.eq_1 (And.intro @ev.eq_2 (And.intro @ev.eq_3 (And.intro @ev.eq_4 (And.intro @lkp.eq_1 (And.intro @lkp.eq_2 (And.intro @c9.eq_1 (And.intro @bc.eq_1 (And.intro @bc.eq_2 (And.intro @bc.eq_3 (And.intro @bc.eq_4 (And.intro @bc.eq_5 (And.intro @bc.eq_6 (And.intro @bc.eq_7 (And.intro @bc.eq_8 (And.intro @bm.eq_1 (And.intro @bm.eq_2 (And.intro @bm.eq_3 (And.intro @bQ.eq_1 (And.intro @bQ.eq_2 (And.intro @bQ.eq_3 (And.intro @mv1.eq_1 (And.intro @mv1.eq_2 (And.intro @mvC.eq_1 (And.intro @mvC.eq_2 (And.intro @Ty.dflt.eq_1 (And.intro @Ty.dflt.eq_2 (And.intro @Ty.dflt.eq_3 (And.intro @Ty.dflt.eq_4 (And.intro @Ty.dflt.eq_5 @Ty.dflt.eq_6))))))))))))))))))))))))))))))))
theorem zO : type_of% (And.intro @zE (And.intro @zG (And.intro @cL (And.intro @Nat.mul_one (And.intro @Nat.div_one (And.intro @ne_eq.{1} (And.intro @not_false_eq_true (And.intro @Int.natCast_one (And.intro @Int.mul_one (And.intro @dite_true.{1} (And.intro @op1.eq_1 (And.intro @ev.eq_1 (And.intro @ev.eq_2 (And.intro @ev.eq_3 (And.intro @ev.eq_4 (And.intro @lkp.eq_1 (And.intro @lkp.eq_2 (And.intro @c9.eq_1 (And.intro @bc.eq_1 (And.intro @bc.eq_2 (And.intro @bc.eq_3 (And.intro @bc.eq_4 (And.intro @bc.eq_5 (And.intro @bc.eq_6 (And.intro @bc.eq_7 (And.intro @bc.eq_8 (And.intro @iW.eq_1 (And.intro @io.eq_1 (And.intro @nh.eq_1 (And.intro @bm.eq_1 (And.intro @bm.eq_2 (And.intro @bm.eq_3 (And.intro @iT.eq_1 (And.intro @b9.eq_1 (And.intro @b9.eq_2 (And.intro @bl.eq_1 (And.intro @dH.eq_1 (And.intro @cS.eq_1 (And.intro @cS.eq_2 (And.intro @rep.eq_1 (And.intro @rep.eq_2 (And.intro @aY.eq_1 (And.intro @aY.eq_2 (And.intro @aY.eq_3 (And.intro @aY.eq_4 (And.intro @aY.eq_5 (And.intro @aY.eq_6 (And.intro @aY.eq_7 (And.intro @aY.eq_8 (And.intro @aY.eq_9 (And.intro @aY.eq_10 (And.intro @aY.eq_11 (And.intro @aY.eq_12 (And.intro @Ty.size.eq_1 (And.intro @Ty.size.eq_2 (And.intro @Ty.size.eq_3 (And.intro @ec.eq_1 (And.intro @bC.eq_1 (And.intro @cF.eq_1 (And.intro @cF.eq_2 (And.intro @cF.eq_3 (And.intro @Ty.dflt.eq_1 (And.intro @Ty.dflt.eq_2 (And.intro @Ty.dflt.eq_3 (And.intro @Ty.dflt.eq_4 (And.intro @Ty.dflt.eq_5 (And.intro @Ty.dflt.eq_6 (And.intro @bU.eq_1 (And.intro @ey.eq_1 (And.intro @kP.eq_1 (And.intro @dn.eq_1 (And.intro @bj.eq_1 (And.intro @bj.eq_2 (And.intro @bj.eq_3 (And.intro @bj.eq_4 (And.intro @bj.eq_5 (And.intro @bj.eq_6 (And.intro @bj.eq_7 (And.intro @bj.eq_8 (And.intro @bj.eq_9 (And.intro @bj.eq_10 (And.intro @bj.eq_11 (And.intro @bj.eq_12 (And.intro @bj.eq_13 (And.intro @bj.eq_14 (And.intro @cw.eq_1 (And.intro @cw.eq_2 (And.intro @cw.eq_3 (And.intro @cw.eq_4 (And.intro @cf.eq_1 (And.intro @cf.eq_2 (And.intro @cf.eq_3 (And.intro @d6.eq_1 (And.intro @d6.eq_2 (And.intro @d6.eq_3 (And.intro @d6.eq_4 (And.intro @mF.eq_1 (And.intro @mF.eq_2 (And.intro @eE.eq_1 (And.intro @cm.eq_1 (And.intro @gd.eq_1 (And.intro @cE.eq_1 (And.intro @iR.eq_1 (And.intro @c0.eq_1 (And.intro @gm.eq_1 (And.intro @fE.eq_1 (And.intro @bH.eq_1 (And.intro @bH.eq_2 (And.intro @bH.eq_3 (And.intro @bH.eq_4 (And.intro @bH.eq_5 (And.intro @bH.eq_6 (And.intro @bH.eq_7 (And.intro @cg.eq_1 (And.intro @cg.eq_2 (And.intro @cg.eq_3 (And.intro @cg.eq_4 (And.intro @dh.eq_1 (And.intro @dh.eq_2 (And.intro @dh.eq_3 (And.intro @cP.eq_1 (And.intro @cz.eq_1 (And.intro @cz.eq_2 (And.intro @cz.eq_3 (And.intro @cz.eq_4 (And.intro @bQ.eq_1 (And.intro @bQ.eq_2 (And.intro @bQ.eq_3 (And.intro @mv1.eq_1 (And.intro @mv1.eq_2 (And.intro @mvC.eq_1 @mvC.eq_2))))))))))))))))))))))))))))))))))))))))))))))))))))))))))))))))))))))))))))))))))))))))))))))))))))))))))))))))))))))))))))))))))) :=
  And.intro @zE (And.intro @zG (And.intro @cL (And.intro @Nat.mul_one (And.intro @Nat.div_one (And.intro @ne_eq.{1} (And.intro @not_false_eq_true (And.intro @Int.natCast_one (And.intro @Int.mul_one (And.intro @dite_true.{1} (And.intro @op1.eq_1 (And.intro @ev.eq_1 (And.intro @ev.eq_2 (And.intro @ev.eq_3 (And.intro @ev.eq_4 (And.intro @lkp.eq_1 (And.intro @lkp.eq_2 (And.intro @c9.eq_1 (And.intro @bc.eq_1 (And.intro @bc.eq_2 (And.intro @bc.eq_3 (And.intro @bc.eq_4 (And.intro @bc.eq_5 (And.intro @bc.eq_6 (And.intro @bc.eq_7 (And.intro @bc.eq_8 (And.intro @iW.eq_1 (And.intro @io.eq_1 (And.intro @nh.eq_1 (And.intro @bm.eq_1 (And.intro @bm.eq_2 (And.intro @bm.eq_3 (And.intro @iT.eq_1 (And.intro @b9.eq_1 (And.intro @b9.eq_2 (And.intro @bl.eq_1 (And.intro @dH.eq_1 (And.intro @cS.eq_1 (And.intro @cS.eq_2 (And.intro @rep.eq_1 (And.intro @rep.eq_2 (And.intro @aY.eq_1 (And.intro @aY.eq_2 (And.intro @aY.eq_3 (And.intro @aY.eq_4 (And.intro @aY.eq_5 (And.intro @aY.eq_6 (And.intro @aY.eq_7 (And.intro @aY.eq_8 (And.intro @aY.eq_9 (And.intro @aY.eq_10 (And.intro @aY.eq_11 (And.intro @aY.eq_12 (And.intro @Ty.size.eq_1 (And.intro @Ty.size.eq_2 (And.intro @Ty.size.eq_3 (And.intro @ec.eq_1 (And.intro @bC.eq_1 (And.intro @cF.eq_1 (And.intro @cF.eq_2 (And.intro @cF.eq_3 (And.intro @Ty.dflt.eq_1 (And.intro @Ty.dflt.eq_2 (And.intro @Ty.dflt.eq_3 (And.intro @Ty.dflt.eq_4 (And.intro @Ty.dflt.eq_5 (And.intro @Ty.dflt.eq_6 (And.intro @bU.eq_1 (And.intro @ey.eq_1 (And.intro @kP.eq_1 (And.intro @dn.eq_1 (And.intro @bj.eq_1 (And.intro @bj.eq_2 (And.intro @bj.eq_3 (And.intro @bj.eq_4 (And.intro @bj.eq_5 (And.intro @bj.eq_6 (And.intro @bj.eq_7 (And.intro @bj.eq_8 (And.intro @bj.eq_9 (And.intro @bj.eq_10 (And.intro @bj.eq_11 (And.intro @bj.eq_12 (And.intro @bj.eq_13 (And.intro @bj.eq_14 (And.intro @cw.eq_1 (And.intro @cw.eq_2 (And.intro @cw.eq_3 (And.intro @cw.eq_4 (And.intro @cf.eq_1 (And.intro @cf.eq_2 (And.intro @cf.eq_3 (And.intro @d6.eq_1 (And.intro @d6.eq_2 (And.intro @d6.eq_3 (And.intro @d6.eq_4 (And.intro @mF.eq_1 (And.intro @mF.eq_2 (And.intro @eE.eq_1 (And.intro @cm.eq_1 (And.intro @gd.eq_1 (And.intro @cE.eq_1 (And.intro @iR.eq_1 (And.intro @c0.eq_1 (And.intro @gm.eq_1 (And.intro @fE.eq_1 (And.intro @bH.eq_1 (And.intro @bH.eq_2 (And.intro @bH.eq_3 (And.intro @bH.eq_4 (And.intro @bH.eq_5 (And.intro @bH.eq_6 (And.intro @bH.eq_7 (And.intro @cg.eq_1 (And.intro @cg.eq_2 (And.intro @cg.eq_3 (And.intro @cg.eq_4 (And.intro @dh.eq_1 (And.intro @dh.eq_2 (And.intro @dh.eq_3 (And.intro @cP.eq_1 (And.intro @cz.eq_1 (And.intro @cz.eq_2 (And.intro @cz.eq_3 (And.intro @cz.eq_4 (And.intro @bQ.eq_1 (And.intro @bQ.eq_2 (And.intro @bQ.eq_3 (And.intro @mv1.eq_1 (And.intro @mv1.eq_2 (And.intro @mvC.eq_1 @mvC.eq_2))))))))))))))))))))))))))))))))))))))))))))))))))))))))))))))))))))))))))))))))))))))))))))))))))))))))))))))))))))))))))))))))))
theorem zP : type_of% (And.intro @zE (And.intro @bn.{0} (And.intro @bo.{0} (And.intro @put.eq_1 (And.intro @app.eq_1 (And.intro @bg.eq_1 (And.intro @bg.eq_2 (And.intro @dz.eq_1 (And.intro @cX.eq_1 (And.intro @cX.eq_2 (And.intro @aJ.eq_1 (And.intro @aJ.eq_2 (And.intro @lkp.eq_1 @lkp.eq_2))))))))))))) :=
  And.intro @zE (And.intro @bn.{0} (And.intro @bo.{0} (And.intro @put.eq_1 (And.intro @app.eq_1 (And.intro @bg.eq_1 (And.intro @bg.eq_2 (And.intro @dz.eq_1 (And.intro @cX.eq_1 (And.intro @cX.eq_2 (And.intro @aJ.eq_1 (And.intro @aJ.eq_2 (And.intro @lkp.eq_1 @lkp.eq_2))))))))))))
theorem zF : type_of% (And.intro @aQ.{0,0} (And.intro @bb.{0,0} (And.intro @fzV.eq_1 (And.intro @fzV.eq_2 (And.intro @fz1.eq_1 (And.intro @fz1.eq_2 (And.intro @fz1.eq_3 (And.intro @fzC.eq_1 (And.intro @fzC.eq_2 (And.intro @fzC.eq_3 (And.intro @fzC.eq_4 (And.intro @fzC.eq_5 @fzC.eq_6)))))))))))) :=
  And.intro @aQ.{0,0} (And.intro @bb.{0,0} (And.intro @fzV.eq_1 (And.intro @fzV.eq_2 (And.intro @fz1.eq_1 (And.intro @fz1.eq_2 (And.intro @fz1.eq_3 (And.intro @fzC.eq_1 (And.intro @fzC.eq_2 (And.intro @fzC.eq_3 (And.intro @fzC.eq_4 (And.intro @fzC.eq_5 @fzC.eq_6)))))))))))
theorem kp {C : Ctx} {Q : Go.Exit → St → Prop} {c : Go.Code} {e0 e : Env} {L0 : List AO} (ks : List Nat) (h : AWP C c Q { env := e, L := L0 }) (he : cX e0 ks = e := by (simp only [zP, J, D]; exact rfl)) : AWP C c Q { env := e0, L := L0 } := qH ks (by rw [he]; exact h)
theorem cd {C : Ctx} {Q : Go.Exit → St → Prop} {c : Operand} {x y : Go.Code} {b : Bool} {e0 : Env} {L0 : List AO} (ht : b = true → AWP C x Q { env := e0, L := L0 }) (hf : b = false → AWP C y Q { env := e0, L := L0 }) (hc : ev e0 c = .one (.bool b) := by (simp only [ev, zP, J, D]; exact rfl)) : AWP C (.cond c x y) Q { env := e0, L := L0 } := r7 hc ht hf
theorem nr {e : Go.Exit} (h : e = .normal ∨ e = .ret := by first | exact .inl rfl | exact .inr rfl) : e = .normal ∨ e = .ret := h
/-plain-/
def Mly.sigP (m : Mly) (cl : List Int) (a s : Nat) : List Int := (List.range 128).map fun i =>
  if i < a then (m.ot.getD s []).getD i 0 else if 64 ≤ i ∧ i < 64 + a then cl.getD ((m.nx.getD s []).getD (i - 64) 0).toNat 0 else 0
def Mly.sig (m : Mly) (cl : List Int) (s : Nat) : List Int := m.sigP cl m.inp.toNat s
def Mly.nextL (m : Mly) (cl : List Int) : List Int := (List.range m.nx.length).map fun s => (pos (rR (m.sig cl) m.nx.length) (m.sig cl s) : Int)
def Mly.cls (m : Mly) : Nat → List Int
  | 0 => List.replicate m.nx.length 0
  | i + 1 => m.nextL (m.cls i)
structure STAB (m : Mly) (c : List Int) : Prop where
  len : c.length = m.nx.length
  rng : ∀ s, s < m.nx.length → 0 ≤ c.getD s 0 ∧ c.getD s 0 < m.nx.length
  step : ∀ s t : Nat, s < m.nx.length → t < m.nx.length → c.getD s 0 = c.getD t 0 → ∀ a : Nat, (a : Int) < m.inp →
    (m.ot.getD s []).getD a 0 = (m.ot.getD t []).getD a 0 ∧ c.getD ((m.nx.getD s []).getD a 0).toNat 0 = c.getD ((m.nx.getD t []).getD a 0).toNat 0
def EQV (m : Mly) (s t : Int) : Prop := ∀ w : List Int, (∀ i : Nat, i < w.length → 0 ≤ w.getD i 0 ∧ w.getD i 0 < m.inp) → (m.go s w).2 = (m.go t w).2
/-plain-/
abbrev S3 := Int × Int × List Int
def inS (l : List S3) (p q : Int) : Bool := l.any fun f => decide (f.1 = p) && decide (f.2.1 = q)
def stS (a b : Mly) (e : S3) (l : List S3) (x : Nat) : List S3 := if inS l (a.nxt e.1 x) (b.nxt e.2.1 x) = true then l else l ++ [(a.nxt e.1 x, b.nxt e.2.1 x, e.2.2 ++ [(x : Int)])]
def iY (a b : Mly) (e : S3) (l : List S3) (x : Nat) : List S3 := (List.range x).foldl (stS a b e) l
def eS0 : S3 := (0, 0, [])
theorem tF {l : List S3} {p q : Int} : inS l p q = true ↔ ∃ e, e ∈ l ∧ e.1 = p ∧ e.2.1 = q := by
  simp [inS, List.any_eq_true]
theorem kM (a b : Mly) (e : S3) (l : List S3) (x : Nat) : iY a b e l (x + 1) = stS a b e (iY a b e l x) x := by
  unfold iY; rw [List.range_succ, List.foldl_append]; rfl
theorem sS (a b : Mly) (e : S3) (l : List S3) (x : Nat) : ∃ k, stS a b e l x = l ++ k := by
  unfold stS
  split
  · exact ⟨[], by simp⟩
  · exact ⟨_, rfl⟩
theorem m3 (a b : Mly) (e : S3) (l : List S3) : ∀ x, ∃ k, iY a b e l x = l ++ k
  | 0 => ⟨[], by simp [iY]⟩
  | x + 1 => by
    obtain ⟨k1, h1⟩ := m3 a b e l x
    obtain ⟨k2, h2⟩ := sS a b e (iY a b e l x) x
    exact ⟨k1 ++ k2, by rw [kM, h2, h1, List.append_assoc]⟩
theorem tB (a b : Mly) (e : S3) (l : List S3) (x : Nat) : l.length ≤ (iY a b e l x).length := by
  obtain ⟨k, hk⟩ := m3 a b e l x
  rw [hk]; simp

structure WFS (a b : Mly) (l : List S3) : Prop where
  rng : ∀ e, e ∈ l → (0 ≤ e.1 ∧ e.1 < a.nx.length) ∧ 0 ≤ e.2.1 ∧ e.2.1 < b.nx.length
  len : ∀ e, e ∈ l → e.2.2.length ≤ l.length
  nd : (l.map fun e => e.1 * (b.nx.length : Int) + e.2.1).Nodup
theorem WFS.at_ {a b : Mly} {l : List S3} (h : WFS a b l) {i : Nat} (hi : i < l.length) : (0 ≤ (l.getD i eS0).1 ∧ (l.getD i eS0).1 < a.nx.length) ∧ 0 ≤ (l.getD i eS0).2.1 ∧ (l.getD i eS0).2.1 < b.nx.length := by
  refine h.rng _ ?_
  simp [List.getD, hi]
theorem WFS.wl {a b : Mly} {l : List S3} (h : WFS a b l) {i : Nat} (hi : i < l.length) : (l.getD i eS0).2.2.length ≤ l.length := by
  refine h.len _ ?_
  simp [List.getD, hi]
theorem nP {p q n m : Int} (hp : 0 ≤ p ∧ p < n) (hq : 0 ≤ q ∧ q < m) : 0 ≤ p * m + q ∧ p * m + q < n * m := by
  have h1 : 0 ≤ p * m := Int.mul_nonneg hp.1 (by omega)
  have h2 : (p + 1) * m ≤ n * m := Int.mul_le_mul_of_nonneg_right (by omega) (by omega)
  rw [Int.add_mul, Int.one_mul] at h2
  omega
theorem mm {p q p' q' m : Int} (hq : 0 ≤ q ∧ q < m) (hq' : 0 ≤ q' ∧ q' < m) (e : p * m + q = p' * m + q') : p = p' ∧ q = q' := by
  have h1 : (p * m + q) / m = p := by rw [Int.add_comm, Int.add_mul_ediv_right _ _ (by omega), Int.ediv_eq_zero_of_lt hq.1 hq.2]; omega
  have h2 : (p' * m + q') / m = p' := by rw [Int.add_comm, Int.add_mul_ediv_right _ _ (by omega), Int.ediv_eq_zero_of_lt hq'.1 hq'.2]; omega
  have : p = p' := by rw [← h1, ← h2, e]
  subst this
  exact ⟨rfl, by omega⟩
theorem WFS.le {a b : Mly} {l : List S3} (h : WFS a b l) : l.length ≤ a.nx.length * b.nx.length := by
  have := fH (a.nx.length * b.nx.length) _ h.nd (fun x hx => by
    obtain ⟨e, he, rfl⟩ := List.mem_map.1 hx
    have hr := h.rng e he
    have := nP hr.1 hr.2
    rw [Int.natCast_mul]; exact this)
  simpa using this
theorem WFS.step {a b : Mly} (ha : MOK a) (hb : MOK b) (hi : a.inp = b.inp) {l : List S3} (h : WFS a b l) {e : S3} (he : (0 ≤ e.1 ∧ e.1 < a.nx.length) ∧ 0 ≤ e.2.1 ∧ e.2.1 < b.nx.length) (hw : e.2.2.length ≤ l.length) {x : Nat} (hx : (x : Int) < a.inp) : WFS a b (stS a b e l x) := by
  unfold stS
  split
  · exact h
  · rename_i hn
    have n1 := ha.nr e.1.toNat x (by omega) hx
    have n2 := hb.nr e.2.1.toNat x (by omega) (by omega)
    have n1' : 0 ≤ a.nxt e.1 x ∧ a.nxt e.1 x < a.nx.length := by simpa [Mly.nxt] using n1
    have n2' : 0 ≤ b.nxt e.2.1 x ∧ b.nxt e.2.1 x < b.nx.length := by simpa [Mly.nxt] using n2
    refine ⟨fun f hf => ?_, fun f hf => ?_, ?_⟩
    · rcases List.mem_append.1 hf with hf | hf
      · exact h.rng f hf
      · simp at hf; subst hf; exact ⟨n1', n2'⟩
    · simp only [ag, ae, aq]
      rcases List.mem_append.1 hf with hf | hf
      · have := h.len f hf; omega
      · simp at hf; subst hf; simp; omega
    · rw [List.map_append, List.nodup_append]
      refine ⟨h.nd, by simp, fun u hu v hv => ?_⟩
      simp at hv; subst hv
      intro e'
      obtain ⟨f, hf, rfl⟩ := List.mem_map.1 hu
      have hr := h.rng f hf
      obtain ⟨e1, e2⟩ := mm hr.2 n2' e'
      exact hn (tF.2 ⟨f, hf, e1, e2⟩)
theorem WFS.row {a b : Mly} (ha : MOK a) (hb : MOK b) (hi : a.inp = b.inp) {l : List S3} (h : WFS a b l) {i : Nat} (hil : i < l.length) : ∀ x : Nat, (x : Int) ≤ a.inp → WFS a b (iY a b (l.getD i eS0) l x)
  | 0, _ => by simpa [iY] using h
  | x + 1, hx => by
    rw [kM]
    have h1 := WFS.row ha hb hi h hil x (by omega)
    have h2 := tB a b (l.getD i eS0) l x
    have h3 := h.wl hil
    exact h1.step ha hb hi (h.at_ hil) (by omega) (by omega)
def EQ2 (a b : Mly) (s t : Int) : Prop := ∀ w : List Int, (∀ i : Nat, i < w.length → 0 ≤ w.getD i 0 ∧ w.getD i 0 < a.inp) → (a.go s w).2 = (b.go t w).2
structure TRS (a b : Mly) (s t : Int) (e : S3) : Prop where
  sy : ∀ i : Nat, i < e.2.2.length → 0 ≤ e.2.2.getD i 0 ∧ e.2.2.getD i 0 < a.inp
  l : (a.go s e.2.2).1 = e.1
  r : (b.go t e.2.2).1 = e.2.1
  o : (a.go s e.2.2).2 = (b.go t e.2.2).2
/-plain-/
def Mly.T (m : Mly) : Mly := ⟨m.inp, 0, m.tnx, m.tot⟩
/-plain-/
def rgI (n : Nat) : List Int := (List.range n).map fun (i : Nat) => (i : Int)
structure CAN (x : Mly) : Prop where
  ok : MOK x
  st : x.st = 0
  rc : x.reach = rgI x.nx.length
  ds : ∀ i j : Int, 0 ≤ i → i < x.nx.length → 0 ≤ j → j < x.nx.length → EQV x i j → i = j
structure LCK (x y : Mly) (l : List Int) : Prop where
  eq : ∀ j, j ∈ l → EQ2 x y j j
  bx : ∀ j, j ∈ l → 0 ≤ j ∧ j < x.nx.length
  by_ : ∀ j, j ∈ l → 0 ≤ j ∧ j < y.nx.length
/-plain-/
abbrev PP := Int × Int
abbrev SYS := PP → Nat → PP × Int
def d0 : PP := (0, 0)
def bL (F : SYS) (p : PP) (l : List PP) (x : Nat) : List PP := (List.range x).foldl (fun l y => ez l (F p y).1) l
def bN (F : SYS) (p : PP) (l : List PP) (x : Nat) : List Int := (List.range x).map fun y => (pos (bL F p l y) (F p y).1 : Int)
def bO (F : SYS) (p : PP) (x : Nat) : List Int := (List.range x).map fun y => (F p y).2
def bX (F : SYS) (p : PP) (l : List PP) (y : Nat) : Bool := decide (128 < (bL F p l (y + 1)).length) || decide (1048576 < (F p y).2)
abbrev BST := List PP × (List (List Int) × List (List Int))
def bA (F : SYS) (n i : Nat) (s : BST) : BST := (bL F (s.1.getD i d0) s.1 n, s.2.1 ++ [bN F (s.1.getD i d0) s.1 n], s.2.2 ++ [bO F (s.1.getD i d0) n])
def bF (F : SYS) (n : Nat) : Nat → Nat → BST → Option BST
  | 0, _, _ => none
  | f + 1, i, s => if i < s.1.length then if (List.range n).any (bX F (s.1.getD i d0) s.1) = true then none else bF F n f (i + 1) (bA F n i s) else some s
def bR (F : SYS) (n : Nat) (p0 : PP) : Option BST := bF F n 130 0 ([p0], [], [])
theorem gy (F : SYS) (p : PP) (l : List PP) (x : Nat) : bL F p l (x + 1) = ez (bL F p l x) (F p x).1 := by
  unfold bL; rw [List.range_succ, List.foldl_append]; rfl
theorem m4 {α : Type} [DecidableEq α] (l : List α) (x : α) : ∃ k, ez l x = l ++ k := pz [x] l
theorem ik (F : SYS) (p : PP) (l : List PP) : ∀ x, ∃ k, bL F p l x = l ++ k
  | 0 => ⟨[], by simp [bL]⟩
  | x + 1 => by
    obtain ⟨k, e⟩ := ik F p l x
    obtain ⟨k', e'⟩ := m4 (bL F p l x) (F p x).1
    exact ⟨k ++ k', by rw [gy, e', e, List.append_assoc]⟩
theorem l9 (F : SYS) (p : PP) (l : List PP) (x : Nat) : ∀ d, ∃ k, bL F p l (x + d) = bL F p l x ++ k
  | 0 => ⟨[], by simp⟩
  | d + 1 => by
    obtain ⟨k, e⟩ := l9 F p l x d
    obtain ⟨k', e'⟩ := m4 (bL F p l (x + d)) (F p (x + d)).1
    exact ⟨k ++ k', by rw [← Nat.add_assoc, gy, e', e, List.append_assoc]⟩
theorem rT (F : SYS) (p : PP) (l : List PP) (x : Nat) : l.length ≤ (bL F p l x).length := by
  obtain ⟨k, e⟩ := ik F p l x
  rw [e, ag]; omega
theorem lg (F : SYS) (p : PP) {l : List PP} (x : Nat) {i : Nat} (h : i < l.length) : (bL F p l x).getD i d0 = l.getD i d0 := by
  obtain ⟨k, e⟩ := ik F p l x
  rw [e]; simp [List.getD, List.getElem?_append_left h]
theorem sf (F : SYS) (p : PP) (l : List PP) {x y : Nat} (h : y < x) : (F p y).1 ∈ bL F p l x := by
  obtain ⟨k, e⟩ := l9 F p l (y + 1) (x - (y + 1))
  rw [show x = y + 1 + (x - (y + 1)) by omega, e, List.mem_append, gy, rE]
  exact .inl (.inr rfl)
theorem m5 (F : SYS) (p : PP) {l : List PP} (h : l.Nodup) : ∀ x, (bL F p l x).Nodup
  | 0 => by simpa [bL] using h
  | x + 1 => by rw [gy]; exact nN (m5 F p h x) _
theorem rY {α : Type} [DecidableEq α] (l : List α) (x : α) : pos (ez l x) x = pos l x := by
  by_cases h : x ∈ l
  · rw [lG h]
  · rw [jf h, qz h, o7 h]
theorem ul (F : SYS) (p : PP) (l : List PP) {x y : Nat} (h : y < x) : pos (bL F p l x) (F p y).1 = pos (bL F p l y) (F p y).1 := by
  obtain ⟨k, e⟩ := l9 F p l (y + 1) (x - (y + 1))
  rw [show x = y + 1 + (x - (y + 1)) by omega, e, fV _ (sf F p l (Nat.lt_succ_self y)), gy, rY]
structure BOK (F : SYS) (n : Nat) (p0 : PP) (i : Nat) (s : BST) : Prop where
  nd : s.1.Nodup
  le : s.1.length ≤ 128
  nl : s.2.1.length = i
  ol : s.2.2.length = i
  il : i ≤ s.1.length
  hd : s.1.getD 0 d0 = p0
  h0 : 0 < s.1.length
  nx : ∀ j, j < i → s.2.1.getD j [] = (List.range n).map fun x => (pos s.1 (F (s.1.getD j d0) x).1 : Int)
  ot : ∀ j, j < i → s.2.2.getD j [] = (List.range n).map fun x => (F (s.1.getD j d0) x).2
  cl : ∀ j x, j < i → x < n → (F (s.1.getD j d0) x).1 ∈ s.1
  bd : ∀ j x, j < i → x < n → (F (s.1.getD j d0) x).2 ≤ 1048576
theorem bV {α : Type} {l : List α} {y d : α} {i : Nat} (h : i < l.length) : (l ++ [y]).getD i d = l.getD i d := by simp [List.getD, List.getElem?_append_left h]
theorem dG {α : Type} {l : List α} {y d : α} {i : Nat} (h : i = l.length) : (l ++ [y]).getD i d = y := by subst h; simp [List.getD]
theorem rL {F : SYS} {p : PP} {l : List PP} {n : Nat} (h : (List.range n).any (bX F p l) = false) {y : Nat} (hy : y < n) : (bL F p l (y + 1)).length ≤ 128 ∧ (F p y).2 ≤ 1048576 := by
  rw [List.any_eq_false] at h
  have := h y (by simpa using hy)
  simp only [bX, Bool.not_eq_true, Bool.or_eq_false_iff, decide_eq_false_iff_not] at this
  omega
theorem uQ {F : SYS} {p : PP} {l : List PP} {n : Nat} (hl : l.length ≤ 128) (h : (List.range n).any (bX F p l) = false) : (bL F p l n).length ≤ 128 := by
  cases n with
  | zero => simpa [bL] using hl
  | succ n => exact (rL h (Nat.lt_succ_self n)).1
theorem BOK.step {F : SYS} {n : Nat} {p0 : PP} {i : Nat} {s : BST} (h : BOK F n p0 i s) (hi : i < s.1.length) (hb : (List.range n).any (bX F (s.1.getD i d0) s.1) = false) : BOK F n p0 (i + 1) (bA F n i s) where
  nd := m5 F _ h.nd n
  le := uQ h.le hb
  nl := by simp [bA, h.nl]
  ol := by simp [bA, h.ol]
  il := Nat.le_trans hi (rT F _ s.1 n)
  hd := by simp only [bA]; rw [lg F _ n h.h0]; exact h.hd
  h0 := Nat.lt_of_lt_of_le h.h0 (rT F _ s.1 n)
  nx := fun j hj => by
    simp only [bA]
    rw [lg F _ n (show j < s.1.length by omega)]
    by_cases e : j = i
    · rw [dG (by rw [h.nl, e]), e]
      exact List.map_congr_left fun x hx => by rw [ul F _ s.1 (List.mem_range.1 hx)]
    · have hji : j < i := by omega
      rw [bV (by rw [h.nl]; exact hji), h.nx j hji]
      refine List.map_congr_left fun x hx => ?_
      obtain ⟨k, ek⟩ := ik F (s.1.getD i d0) s.1 n
      rw [ek, fV _ (h.cl j x hji (List.mem_range.1 hx))]
  ot := fun j hj => by
    simp only [bA]
    rw [lg F _ n (show j < s.1.length by omega)]
    by_cases e : j = i
    · rw [dG (by rw [h.ol, e]), e]; rfl
    · rw [bV (by rw [h.ol]; omega), h.ot j (by omega)]
  cl := fun j x hj hx => by
    simp only [bA]
    rw [lg F _ n (show j < s.1.length by omega)]
    by_cases e : j = i
    · rw [e]; exact sf F _ s.1 hx
    · obtain ⟨k, ek⟩ := ik F (s.1.getD i d0) s.1 n
      rw [ek, List.mem_append]
      exact .inl (h.cl j x (by omega) hx)
  bd := fun j x hj hx => by
    simp only [bA]
    rw [lg F _ n (show j < s.1.length by omega)]
    by_cases e : j = i
    · rw [e]; exact (rL hb hx).2
    · exact h.bd j x (by omega) hx
section
variable {F : SYS} {n : Nat} {p0 : PP} {s : BST} (h : bR F n p0 = some s)
include h
end
/-plain-/
abbrev TRC := List Int × (List Int × Unit)
def aO : TRC := ([], ([], ()))
theorem cq {xs : List TRC} {k : Nat} (h : k < xs.length) (d : TRC) : xs.getD k d = ((xs.getD k aO).1, ((xs.getD k aO).2.1, ())) := by simp [List.getD, h]
/-plain-/
theorem nU : ∀ (xs : List Int) (a : Int), a ≤ xs.foldl max a ∧ ∀ x, x ∈ xs → x ≤ xs.foldl max a
  | [], a => ⟨Int.le_refl a, fun x h => by cases h⟩
  | y :: xs, a => by
    rw [List.foldl_cons]
    obtain ⟨h1, h2⟩ := nU xs (max a y)
    refine ⟨by omega, fun x hx => ?_⟩
    rcases List.mem_cons.1 hx with e | h
    · omega
    · exact h2 x h
def gr (m : Mly) : Int := m.ot.flatten.foldl max 0
theorem rZ {m : Mly} (hm : MOK m) {s a : Int} (hs : 0 ≤ s ∧ s < m.nx.length) (ha : 0 ≤ a ∧ a < m.inp) : m.out s a ∈ m.ot.flatten := by
  have hol := hm.ol
  have h1 : s.toNat < m.ot.length := by omega
  have h2 := hm.ql s.toNat (by omega)
  rw [List.mem_flatten]
  refine ⟨m.ot.getD s.toNat [], by simp [List.getD, h1], gF (by omega)⟩
theorem tO {m : Mly} (hm : MOK m) {s a : Int} (hs : 0 ≤ s ∧ s < m.nx.length) (ha : 0 ≤ a ∧ a < m.inp) : 0 ≤ m.out s a ∧ m.out s a ≤ gr m := by
  refine ⟨?_, (nU _ _).2 _ (rZ hm hs ha)⟩
  exact (hm.or s.toNat a.toNat (by omega) (by omega)).1
theorem dR {m : Mly} (hm : MOK m) {s a : Int} (hs : 0 ≤ s ∧ s < m.nx.length) (ha : 0 ≤ a ∧ a < m.inp) : 0 ≤ m.nxt s a ∧ m.nxt s a < m.nx.length := hm.nr s.toNat a.toNat (by omega) (by omega)
def FP (a b : Mly) : SYS := fun p x => ((a.nxt p.1 x, b.nxt p.2 x), a.out p.1 x * (1 + gr b) + b.out p.2 x)
def FL (a b : Mly) : SYS := fun p x => if (x : Int) < a.inp then ((a.nxt p.1 x, p.2), a.out p.1 x) else ((p.1, b.nxt p.2 (x - a.inp)), b.out p.2 (x - a.inp) + (1 + gr a))
def FC (a b : Mly) : SYS := fun p x => ((a.nxt p.1 x, b.nxt p.2 (a.out p.1 x)), b.out p.2 (a.out p.1 x))
def FR (m : Mly) (is : List Int) : SYS := fun p x => ((m.nxt p.1 (is.getD x 0), 0), m.out p.1 (is.getD x 0))
def FM (m : Mly) (os : List Int) : SYS := fun p x => ((m.nxt p.1 x, 0), os.getD (m.out p.1 x).toNat 0)
def IP (a b : Mly) (p : PP) : Prop := (0 ≤ p.1 ∧ p.1 < a.nx.length) ∧ 0 ≤ p.2 ∧ p.2 < b.nx.length
def IS (m : Mly) (p : PP) : Prop := (0 ≤ p.1 ∧ p.1 < m.nx.length) ∧ p.2 = 0
theorem IP.st {a b : Mly} (ha : MOK a) (hb : MOK b) : IP a b (a.st, b.st) := ⟨⟨ha.s1, ha.s2⟩, hb.s1, hb.s2⟩
theorem IS.st {m : Mly} (hm : MOK m) : IS m (m.st, 0) := ⟨⟨hm.s1, hm.s2⟩, rfl⟩
theorem FP.keep {a b : Mly} (ha : MOK a) (hb : MOK b) (hi : a.inp = b.inp) : ∀ q, IP a b q → ∀ x, x < a.inp.toNat → IP a b (FP a b q x).1 := fun q hq x hx =>
  ⟨dR ha hq.1 ⟨by omega, by omega⟩, dR hb hq.2 ⟨by omega, by omega⟩⟩
theorem FL.keep {a b : Mly} (ha : MOK a) (hb : MOK b) : ∀ q, IP a b q → ∀ x, x < (a.inp + b.inp).toNat → IP a b (FL a b q x).1 := fun q hq x hx => by
  unfold FL
  split
  · exact ⟨dR ha hq.1 ⟨by omega, by omega⟩, hq.2⟩
  · exact ⟨hq.1, dR hb hq.2 ⟨by omega, by omega⟩⟩
theorem FC.keep {a b : Mly} (ha : MOK a) (hb : MOK b) (hg : gr a < b.inp) : ∀ q, IP a b q → ∀ x, x < a.inp.toNat → IP a b (FC a b q x).1 := fun q hq x hx => by
  have h1 := tO ha hq.1 (a := (x : Int)) ⟨by omega, by omega⟩
  exact ⟨dR ha hq.1 ⟨by omega, by omega⟩, dR hb hq.2 ⟨by omega, by omega⟩⟩
theorem FR.keep {m : Mly} (hm : MOK m) {is : List Int} (hi : ∀ i, i < is.length → 0 ≤ is.getD i 0 ∧ is.getD i 0 < m.inp) : ∀ q, IS m q → ∀ x, x < is.length → IS m (FR m is q x).1 := fun q hq x hx =>
  ⟨dR hm hq.1 (hi x hx), rfl⟩
theorem FM.keep {m : Mly} (hm : MOK m) (os : List Int) : ∀ q, IS m q → ∀ x, x < m.inp.toNat → IS m (FM m os q x).1 := fun q hq x hx =>
  ⟨dR hm hq.1 ⟨by omega, by omega⟩, rfl⟩
structure SNG (X : Mly) (F : SYS) : Prop where
  st : ∀ s x : Nat, s < X.nx.length → (x : Int) < X.inp → F ((s : Int), 0) x = ((X.nxt s x, 0), X.out s x)
theorem SNG.at_ {X : Mly} {F : SYS} (h : SNG X F) {q : PP} (hq : IS X q) {x : Nat} (hx : (x : Int) < X.inp) : F q x = ((X.nxt q.1 x, 0), X.out q.1 x) := by
  obtain ⟨q1, q2⟩ := q
  obtain ⟨h1, h2⟩ := hq
  simp only at h1 h2
  subst h2
  have := h.st q1.toNat x (by omega) hx
  rw [Int.toNat_of_nonneg h1.1] at this
  exact this
/-plain-/
abbrev Bs := List UInt8
def bt (s : Bs) (k : Nat) : Int := ((s.getD k 0).toNat : Int)
theorem qa (s : Bs) (k : Nat) : (⟨s.toArray⟩ : ByteArray).get! k = s.getD k 0 := by
  show s.toArray[k]! = _
  by_cases h : k < s.length
  · rw [getElem!_pos _ _ (by simpa using h)]; simp [List.getD, h]
  · rw [getElem!_neg _ _ (by simpa using h)]; simp [List.getD, h]; rfl
theorem qb {s : Bs} {pos : Nat} (ha : bt s pos < 128) : (((dec s pos).1 : Nat) : Int) = bt s pos ∧ (dec s pos).2 = 1 := by
  unfold bt at ha ⊢
  have h0 : (s.getD pos 0).toNat < 128 := by omega
  unfold dec
  simp only [Utf8.decode, Nat.add_zero, qa, h0, if_true]
  exact ⟨trivial, trivial⟩
theorem tX {s : Bs} {pos : Nat} (ha : 128 ≤ bt s pos) : 128 ≤ (((dec s pos).1 : Nat) : Int) := by
  unfold bt at ha
  have h0 : ¬ (s.getD pos 0).toNat < 128 := by omega
  unfold dec
  simp only [Utf8.decode, Nat.add_zero, qa, h0, if_false]
  repeat' split
  all_goals simp_all [Utf8.runeError]
  all_goals omega
def okI (c : Int) : Prop := (97 ≤ c ∧ c ≤ 122) ∨ (65 ≤ c ∧ c ≤ 90) ∨ (48 ≤ c ∧ c ≤ 57) ∨ c = 95 ∨ c = 45 ∨ c = 46
instance (c : Int) : Decidable (okI c) := by unfold okI; exact inferInstance
def co (s : Bs) : Bool := s.all (fun b => decide (okI (b.toNat : Int))) && decide (1 ≤ s.length) && decide (s.length ≤ 32)
theorem tN {s : Bs} {k : Nat} (ho : okI (((dec s k).1 : Nat) : Int)) : okI (bt s k) ∧ (dec s k).2 = 1 := by
  by_cases h : bt s k < 128
  · have := qb h
    rw [this.1] at ho; exact ⟨ho, this.2⟩
  · have := tX (s := s) (pos := k) (by omega)
    unfold okI at ho; omega
theorem qx {s : Bs} {k : Nat} (ho : ¬ okI (((dec s k).1 : Nat) : Int)) : ¬ okI (bt s k) := by
  by_cases h : bt s k < 128
  · have := qb h
    rw [this.1] at ho; exact ho
  · unfold okI; omega
theorem um {s : Bs} {k : Nat} (h : k < s.length) : s.getD k 0 ∈ s := by simp [List.getD, h]
theorem mS {s : Bs} {k : Nat} (h : k < s.length) (hb : ¬ okI (bt s k)) : co s = false := by
  unfold co
  have : s.all (fun b => decide (okI (b.toNat : Int))) = false := by
    rw [List.all_eq_false]
    exact ⟨_, um h, by simp only [decide_eq_true_eq]; exact hb⟩
  rw [this]; rfl
theorem mG {s : Bs} (h : ∀ j, j < s.length → okI (bt s j)) : co s = (decide (1 ≤ (s.length : Int)) && decide ((s.length : Int) ≤ 32)) := by
  unfold co
  have : s.all (fun b => decide (okI (b.toNat : Int))) = true := by
    rw [List.all_eq_true]
    intro b hb
    obtain ⟨j, hj⟩ := List.getElem?_of_mem hb
    have h1 := h j (List.getElem?_eq_some_iff.1 hj).1
    unfold bt at h1
    have e : s.getD j 0 = b := by simp [List.getD, hj]
    rw [e] at h1; simpa using h1
  rw [this, Bool.true_and]
  congr 1
  · exact decide_eq_decide.2 (by omega)
  · exact decide_eq_decide.2 (by omega)
theorem cG {s : Bs} (h : co s = true) : (∀ b, b ∈ s → okI (b.toNat : Int)) ∧ 1 ≤ s.length ∧ s.length ≤ 32 := by
  unfold co at h
  simp only [Bool.and_eq_true, decide_eq_true_eq, List.all_eq_true] at h
  exact ⟨h.1.1, h.1.2, h.2⟩
theorem lT {s : Bs} (h : co s = true) : (32 : UInt8) ∉ s := fun hm => by
  have := (cG h).1 _ hm
  unfold okI at this
  have e : ((32 : UInt8).toNat : Int) = 32 := by decide
  omega
def nmE (xs : List Bs) (i : Nat) : Int := if co (xs.getD i []) = false then 9 else if xs.getD i [] ∈ xs.take i then 7 else 0
def alE (xs : List Bs) : Int := if xs.length = 0 then 19 else if 64 < xs.length then 3 else bJ (nmE xs) xs.length
theorem l6 {xs : List Bs} (h : xs.length = 0) : alE xs = 19 := if_pos h
theorem iO {xs : List Bs} (h : ¬ xs.length = 0) (h2 : 64 < xs.length) : alE xs = 3 := by unfold alE; rw [if_neg h, if_pos h2]
theorem la {xs : List Bs} (h : ¬ xs.length = 0) (h2 : ¬ 64 < xs.length) {k : Nat} (hk : k < xs.length) (hq : ∀ q, q < k → nmE xs q = 0) (hb : co (xs.getD k []) = false) : alE xs = 9 := by
  have e : nmE xs k = 9 := if_pos hb
  unfold alE; rw [if_neg h, if_neg h2, df hq hk (by rw [e]; decide), e]
theorem kS {xs : List Bs} (h : ¬ xs.length = 0) (h2 : ¬ 64 < xs.length) {k : Nat} (hk : k < xs.length) (hq : ∀ q, q < k → nmE xs q = 0) (hb : co (xs.getD k []) = true) (hi : xs.getD k [] ∈ xs.take k) : alE xs = 7 := by
  have e : nmE xs k = 7 := by unfold nmE; rw [if_neg (by rw [hb]; decide), if_pos hi]
  unfold alE; rw [if_neg h, if_neg h2, df hq hk (by rw [e]; decide), e]
theorem uP {xs : List Bs} {k : Nat} (hb : co (xs.getD k []) = true) (hi : xs.getD k [] ∉ xs.take k) : nmE xs k = 0 := by unfold nmE; rw [if_neg (by rw [hb]; decide), if_neg hi]
theorem iV {xs : List Bs} (h : ¬ xs.length = 0) (h2 : ¬ 64 < xs.length) (hq : ∀ q, q < xs.length → nmE xs q = 0) : alE xs = 0 := by
  unfold alE; rw [if_neg h, if_neg h2, cD hq]
structure AOK (xs : List Bs) : Prop where
  n0 : 1 ≤ xs.length
  n1 : xs.length ≤ 64
  nm : ∀ k, k < xs.length → co (xs.getD k []) = true
  nw : ∀ k, k < xs.length → xs.getD k [] ∉ xs.take k
theorem pW {xs : List Bs} (h : alE xs = 0) : AOK xs := by
  unfold alE at h
  split at h
  · omega
  · split at h
    · omega
    · have h3 := mU h
      have h4 : ∀ k, k < xs.length → co (xs.getD k []) = true ∧ xs.getD k [] ∉ xs.take k := fun k hk => by
        have := h3 k hk
        unfold nmE at this
        split at this
        · omega
        · split at this
          · omega
          · rename_i q1 q2; exact ⟨by simpa using q1, q2⟩
      exact ⟨by omega, by omega, fun k hk => (h4 k hk).1, fun k hk => (h4 k hk).2⟩
theorem ew {xs : List Bs} {k : Nat} (h : k < xs.length) : xs.getD k [] ∈ xs := by simp [List.getD, h]
theorem v6 {xs : List Bs} {x : Bs} : x ∈ xs ↔ ∃ j, j < xs.length ∧ xs.getD j [] = x := by
  constructor
  · intro h
    obtain ⟨j, hj⟩ := List.getElem?_of_mem h
    exact ⟨j, (List.getElem?_eq_some_iff.1 hj).1, by simp [List.getD, hj]⟩
  · rintro ⟨j, hj, e⟩; rw [← e]; exact ew hj
theorem pF {xs : List Bs} {i k : Nat} (hi : i < k) : (xs.take k).getD i [] = xs.getD i [] := by simp [List.getD, List.getElem?_take, hi]
theorem oF {q : Bs} : ∀ {l : List Bs} {k : Nat}, k < pos l q → l.getD k [] ≠ q
  | [], k, h => by simp [pos] at h
  | y :: l, k, h => by
    simp only [pos] at h
    split at h
    · omega
    · rename_i e
      cases k with
      | zero => simpa [List.getD] using e
      | succ k =>
        have := oF (q := q) (l := l) (k := k) (by omega)
        simpa [List.getD] using this
theorem oJ {l : List Bs} {q : Bs} (h : q ∈ l) : l.getD (pos l q) [] = q := by rw [List.getD, kE h]; rfl
theorem tq {l : List Bs} {q : Bs} {k : Nat} (hq : ∀ j, j < k → l.getD j [] ≠ q) (hk : k < l.length) (h : l.getD k [] = q) : pos l q = k ∧ q ∈ l := by
  have hm : q ∈ l := by rw [← h]; exact ew hk
  refine ⟨?_, hm⟩
  rcases Nat.lt_trichotomy k (pos l q) with h2 | h2 | h2
  · exact absurd h (oF h2)
  · exact h2.symm
  · exact absurd (oJ hm) (hq _ h2)
theorem uB {l : List Bs} {q : Bs} (hq : ∀ j, j < l.length → l.getD j [] ≠ q) : q ∉ l := fun hm => hq _ (ni hm) (oJ hm)
theorem AOK.pos {xs : List Bs} (h : AOK xs) {k : Nat} (hk : k < xs.length) : pos xs (xs.getD k []) = k :=
  (tq (fun j hj e => h.nw k hk (by rw [v6]; exact ⟨j, by rw [List.length_take]; omega, by rw [pF hj, e]⟩)) hk rfl).1
def idA (xs : List Bs) (x : Bs) : Int := if x ∈ xs then (pos xs x : Int) else 0
def oW (s : Bs) : Nat → List Bs × Nat
  | 0 => ([], 0)
  | k + 1 => if bt s k = 32 then ((oW s k).1 ++ [(s.take k).drop (oW s k).2], k + 1) else oW s k
def spl (s : Bs) : List Bs := (oW s s.length).1 ++ [s.drop (oW s s.length).2]
def aI (s : Bs) : List Bs := if s = [] then [] else spl s
theorem sk {s : Bs} {k : Nat} : bt s k = 32 ↔ s.getD k 0 = 32 := by
  unfold bt
  constructor
  · intro h
    apply UInt8.toNat_inj.1
    have e : ((32 : UInt8).toNat : Int) = 32 := by decide
    omega
  · intro h; rw [h]; decide
theorem nX {s : Bs} {k : Nat} (h : k < s.length) : s.take (k + 1) = s.take k ++ [s.getD k 0] := by rw [List.take_add_one, List.getElem?_eq_getElem h]; simp [List.getD, h]
def grB (xs : List Bs) : Bool := (List.range (min xs.length 71)).any (fun i => decide (100 < (xs.getD i []).length)) || decide (70 < (xs.length : Int))
/-plain-/
def cN (cl : List Int) : Nat → Int
  | 0 => 0
  | k + 1 => max (cN cl k) (cl.getD k 0 + 1)
def v7 (cl : List Int) (k : Nat) : Bool := decide (cl.getD k 0 < 0) || decide (cN cl k < cl.getD k 0)
def uV (cl : List Int) : Int := if cl.length < 1 ∨ 64 < cl.length then 2 else if (List.range cl.length).any (v7 cl) = true then 1 else 0
structure COK (m : Mly) (cl : List Int) : Prop where
  ok : MOK m
  ce : uV cl = 0
  len : (cl.length : Int) = m.inp
abbrev S2 := Int × List Int
def eX0 : S2 := (0, [])
def iQ (l : List S2) : List Int := l.map (·.1)
def stX (m : Mly) (e : S2) (l : List S2) (x : Nat) : List S2 := if (m.row e.1).getD x 0 ∈ iQ l then l else l ++ [((m.row e.1).getD x 0, e.2 ++ [(x : Int)])]
def iS (m : Mly) (e : S2) (l : List S2) (x : Nat) : List S2 := (List.range x).foldl (stX m e) l
theorem ln (m : Mly) (e : S2) (l : List S2) (x : Nat) : iS m e l (x + 1) = stX m e (iS m e l x) x := by
  unfold iS; rw [List.range_succ, List.foldl_append]; rfl
theorem sr (m : Mly) (e : S2) (l : List S2) (x : Nat) : ∃ k, stX m e l x = l ++ k := by
  unfold stX
  split
  · exact ⟨[], by simp⟩
  · exact ⟨_, rfl⟩
theorem mK (m : Mly) (e : S2) (l : List S2) : ∀ x, ∃ k, iS m e l x = l ++ k
  | 0 => ⟨[], by simp [iS]⟩
  | x + 1 => by
    obtain ⟨k1, h1⟩ := mK m e l x
    obtain ⟨k2, h2⟩ := sr m e (iS m e l x) x
    exact ⟨k1 ++ k2, by rw [ln, h2, h1, List.append_assoc]⟩
theorem sw (m : Mly) (e : S2) (l : List S2) (x : Nat) : l.length ≤ (iS m e l x).length := by
  obtain ⟨k, hk⟩ := mK m e l x
  rw [hk]; simp
structure WFX (m : Mly) (l : List S2) : Prop where
  rs : RSet m.nx.length (iQ l)
  wl : ∀ e, e ∈ l → e.2.length ≤ l.length
theorem mI (l : List S2) : (iQ l).length = l.length := by simp [iQ]
theorem tz {l : List S2} {i : Nat} (h : i < l.length) : (iQ l).getD i 0 = (l.getD i eX0).1 := by simp [iQ, List.getD, h]
theorem WFX.le {m : Mly} {l : List S2} (h : WFX m l) : l.length ≤ m.nx.length := by have := h.rs.len; rwa [mI] at this
theorem WFX.at_ {m : Mly} {l : List S2} (h : WFX m l) {i : Nat} (hi : i < l.length) : 0 ≤ (l.getD i eX0).1 ∧ (l.getD i eX0).1 < m.nx.length := by
  rw [← tz hi]; exact h.rs.at_ (by rw [mI]; exact hi)
theorem uR {l : List S2} {i : Nat} (h : i < l.length) : l.getD i eX0 ∈ l := by simp [List.getD, h]
theorem WFX.step {m : Mly} (hm : MOK m) {l : List S2} (h : WFX m l) {e : S2} (he : 0 ≤ e.1 ∧ e.1 < m.nx.length) (hw : e.2.length ≤ l.length) {x : Nat} (hx : (x : Int) < m.inp) : WFX m (stX m e l x) := by
  unfold stX
  split
  · exact h
  · rename_i hn
    have n1 := hm.nr e.1.toNat x (by omega) hx
    refine ⟨?_, fun f hf => ?_⟩
    · have e1 : iQ (l ++ [((m.row e.1).getD x 0, e.2 ++ [(x : Int)])]) = jQ (iQ l) ((m.row e.1).getD x 0) := by rw [qD hn]; simp [iQ]
      rw [e1]
      exact h.rs.add n1.1 n1.2
    · simp only [ag, ae, aq]
      rcases List.mem_append.1 hf with hf | hf
      · have := h.wl f hf; omega
      · simp at hf; subst hf; simp; omega
theorem WFX.row {m : Mly} (hm : MOK m) {l : List S2} (h : WFX m l) {i : Nat} (hil : i < l.length) : ∀ x : Nat, (x : Int) ≤ m.inp → WFX m (iS m (l.getD i eX0) l x)
  | 0, _ => by simpa [iS] using h
  | x + 1, hx => by
    rw [ln]
    have h1 := WFX.row hm h hil x (by omega)
    have h2 := sw m (l.getD i eX0) l x
    have h3 := h.wl _ (uR hil)
    exact h1.step hm (h.at_ hil) (by omega) (by omega)
def f3 (r : Option (Nat × Nat × Nat)) : Int × Int × Int := match r with | some p => (p.1, p.2.1, p.2.2) | none => (0, 0, 0)

def gn (p : Int → Bool) (xs : List Int) : Int := match xs.findIdx? p with | some i => (i : Int) | none => -1
theorem oH {p : Int → Bool} {xs : List Int} {k : Nat} (hk : k < xs.length) (h : ∀ q, q < k → p (xs.getD q 0) = false) (hp : p (xs.getD k 0) = true) : gn p xs = k := by
  unfold gn
  have : xs.findIdx? p = some k := by
    rw [List.findIdx?_eq_some_iff_getElem]
    refine ⟨hk, ?_, fun j hj => ?_⟩
    · simpa [List.getD, List.getElem?_eq_getElem hk] using hp
    · have := h j hj
      simpa [List.getD, List.getElem?_eq_getElem (Nat.lt_trans hj hk)] using this
  rw [this]
theorem lj {p : Int → Bool} {xs : List Int} (h : ∀ q, q < xs.length → p (xs.getD q 0) = false) : gn p xs = -1 := by
  unfold gn
  have : xs.findIdx? p = none := by
    rw [List.findIdx?_eq_none_iff]
    intro a ha
    obtain ⟨i, hi⟩ := List.getElem?_of_mem ha
    have := h i (List.getElem?_eq_some_iff.1 hi).1
    simpa [List.getD, hi] using this
  rw [this]
def nmS (T : Nat → Nat → Bool) : Nat → List Int × List Int
  | 0 => ([], [])
  | c + 1 => if gn (fun d => T d.toNat c) (nmS T c).2 < 0 then ((nmS T c).1 ++ [((nmS T c).2.length : Int)], (nmS T c).2 ++ [(c : Int)])
    else ((nmS T c).1 ++ [gn (fun d => T d.toNat c) (nmS T c).2], (nmS T c).2)
/-plain-/
def spB (c : UInt8) : Bs → List Bs
  | [] => [[]]
  | b :: s => if b = c then [] :: spB c s else (b :: (spB c s).headD []) :: (spB c s).tail
theorem fx (c b : UInt8) (s : Bs) : spB c (b :: s) = if b = c then [] :: spB c s else (b :: (spB c s).headD []) :: (spB c s).tail := rfl
theorem eW (c : UInt8) : ∀ s : Bs, spB c s = (spB c s).headD [] :: (spB c s).tail
  | [] => rfl
  | b :: s => by
    rw [fx]
    split <;> rfl
theorem fA {c : UInt8} : ∀ {s : Bs}, c ∉ s → spB c s = [s]
  | [], _ => rfl
  | b :: s, h => by
    simp only [List.mem_cons, not_or] at h
    rw [fx, if_neg (Ne.symm h.1), fA h.2]; rfl
theorem gu {c : UInt8} : ∀ {x : Bs} (s : Bs), c ∉ x → spB c (x ++ c :: s) = x :: spB c s
  | [], s, _ => by rw [b6, fx, if_pos rfl]
  | b :: x, s, h => by
    simp only [List.mem_cons, not_or] at h
    rw [b0]
    rw [show spB c (b :: (x ++ c :: s)) = if b = c then [] :: spB c (x ++ c :: s) else (b :: (spB c (x ++ c :: s)).headD []) :: (spB c (x ++ c :: s)).tail from rfl]
    rw [if_neg (Ne.symm h.1), gu s h.2]; rfl
theorem dO (c : UInt8) (s : Bs) : 0 < (spB c s).length := by rw [eW]; simp
theorem gS {c : UInt8} : ∀ {s : Bs}, Lib.indexByte s c < 0 → c ∉ s
  | [], _ => by simp
  | b :: s, h => by
    unfold Lib.indexByte at h
    split at h
    · omega
    · rename_i hb
      have hb2 : ¬ c = b := fun e => hb (by rw [e]; exact beq_self_eq_true b)
      split at h
      · rename_i h2
        have h2 : Lib.indexByte s c = -1 := by simpa using h2
        simp only [List.mem_cons, not_or]
        exact ⟨hb2, gS (by omega)⟩
      · rename_i h2
        have h2 : ¬ Lib.indexByte s c = -1 := by simpa using h2
        have := Lib.indexByte_ge s c
        omega
theorem gB {c : UInt8} : ∀ {s : Bs}, 0 ≤ Lib.indexByte s c → (Lib.indexByte s c).toNat < s.length ∧ c ∉ s.take (Lib.indexByte s c).toNat ∧ s = s.take (Lib.indexByte s c).toNat ++ c :: s.drop ((Lib.indexByte s c).toNat + 1)
  | [], h => by unfold Lib.indexByte at h; omega
  | b :: s, h => by
    unfold Lib.indexByte at h ⊢
    split
    · rename_i hb
      have hb2 : b = c := by simpa using hb
      subst hb2
      exact ⟨by simp, by simp, by simp⟩
    · rename_i hb
      rw [if_neg hb] at h
      have hb2 : ¬ c = b := fun e => hb (by rw [e]; exact beq_self_eq_true b)
      split
      · rename_i h2; rw [if_pos h2] at h; omega
      · rename_i h2
        rw [if_neg h2] at h
        have h3 : ¬ Lib.indexByte s c = -1 := by simpa using h2
        have h4 := Lib.indexByte_ge s c
        obtain ⟨h5, h6, h7⟩ := gB (s := s) (c := c) (by omega)
        have e : (Lib.indexByte s c + 1).toNat = (Lib.indexByte s c).toNat + 1 := by omega
        rw [e]
        refine ⟨by simpa using h5, ?_, ?_⟩
        · rw [aj]; simp only [List.mem_cons, not_or]; exact ⟨hb2, h6⟩
        · rw [aj, List.drop_succ_cons, b0, ← h7]
theorem gI {c : UInt8} {s : Bs} (h : 0 ≤ Lib.indexByte s c) : spB c s = s.take (Lib.indexByte s c).toNat :: spB c (s.drop ((Lib.indexByte s c).toNat + 1)) := by
  obtain ⟨_, h2, h3⟩ := gB h
  have := gu (s.drop ((Lib.indexByte s c).toNat + 1)) h2
  rw [← h3] at this
  exact this
theorem gi (c : UInt8) : ∀ s : Bs, (spB c s).length = Lib.countByte s c + 1
  | [] => rfl
  | b :: s => by
    have ih := gi c s
    have hp := dO c s
    rw [fx]
    unfold Lib.countByte at ih ⊢
    rw [List.count_cons]
    split
    · rename_i e; subst e; simp; omega
    · rename_i e
      have e2 : (b == c) = false := by simpa using e
      rw [e2]
      simp only [ae, List.length_tail, Bool.false_eq_true, if_false]
      omega
theorem gM (c : UInt8) (s : Bs) : (spB c s).length ≤ s.length + 1 := by
  rw [gi]; have := List.count_le_length (a := c) (l := s); unfold Lib.countByte; omega
theorem qJ (c : UInt8) (s : Bs) : Lib.countByte s c ≤ s.length := List.count_le_length
theorem qN (c : UInt8) (s : Bs) : ∀ st : List Bs × Bs, (s.foldl (fun st b => if b = c then (st.1 ++ [st.2], []) else (st.1, st.2 ++ [b])) st).1 ++ [(s.foldl (fun st b => if b = c then (st.1 ++ [st.2], []) else (st.1, st.2 ++ [b])) st).2] = st.1 ++ ((st.2 ++ (spB c s).headD []) :: (spB c s).tail) := by
  induction s with
  | nil => intro st; simp [spB]
  | cons b s ih =>
    intro st
    rw [List.foldl_cons, ih]
    rw [fx]
    by_cases e : b = c
    · rw [if_pos e, if_pos e]
      simp only [List.append_assoc, b6, List.headD_cons, List.tail_cons, List.append_nil, List.singleton_append]
      rw [← eW]
    · rw [if_neg e, if_neg e]
      simp only [List.headD_cons, List.tail_cons, List.append_assoc, List.singleton_append]
theorem dU (x y sep : Bs) (r : List Bs) : Lib.join (x :: y :: r) sep = x ++ sep ++ Lib.join (y :: r) sep := by rw [Lib.join_cons, Lib.join_cons]; simp [Lib.joinTail]
theorem rS (b : UInt8) (x sep : Bs) (r : List Bs) : Lib.join ((b :: x) :: r) sep = b :: Lib.join (x :: r) sep := by rw [Lib.join_cons, Lib.join_cons, b0]
theorem gT (c : UInt8) : ∀ s : Bs, Lib.join (spB c s) [c] = s
  | [] => by simp [spB, Lib.join_one]
  | b :: s => by
    have ih := gT c s
    have hh := eW c s
    rw [fx]
    split
    · rename_i e
      rw [hh, dU, ← hh, ih, e]; rfl
    · rw [rS, ← hh, ih]
theorem lL {c : UInt8} : ∀ {x : Bs} {r : List Bs}, (∀ y, y ∈ x :: r → c ∉ y) → spB c (Lib.join (x :: r) [c]) = x :: r
  | x, [], h => by rw [Lib.join_one]; exact fA (h x (by simp))
  | x, y :: r, h => by
    have e : Lib.join (x :: y :: r) [c] = x ++ c :: Lib.join (y :: r) [c] := by rw [dU]; simp
    rw [e, gu _ (h x (by simp)), lL fun z hz => h z (aK _ hz)]
/-plain-/
def da (s : Bs) (c : UInt8) : Bs := if 0 ≤ Lib.indexByte s c then s.take (Lib.indexByte s c).toNat else s
def ct (s : Bs) (c : UInt8) : Bs := if 0 ≤ Lib.indexByte s c then s.drop ((Lib.indexByte s c).toNat + 1) else []
def nQ (s : Bs) (c : UInt8) : Bool := decide (0 ≤ Lib.indexByte s c)
theorem lR {s : Bs} {c : UInt8} (h : 0 ≤ Lib.indexByte s c) : da s c = s.take (Lib.indexByte s c).toNat ∧ ct s c = s.drop ((Lib.indexByte s c).toNat + 1) ∧ nQ s c = true := ⟨if_pos h, if_pos h, decide_eq_true h⟩
theorem pg {s : Bs} {c : UInt8} (h : ¬ 0 ≤ Lib.indexByte s c) : da s c = s ∧ ct s c = [] ∧ nQ s c = false := ⟨if_neg h, if_neg h, decide_eq_false h⟩
def cp (xs ys : List Bs) : Int := if alE xs = 0 then alE ys else alE xs
def bW (n m : Int) (t : TRC) : Int := if t.1.length = 0 then 19 else if ¬ bp t.1 n = 0 then bp t.1 n else if ¬ t.2.1.length = t.1.length then 1 else if ∃ i, i < t.2.1.length ∧ ¬ (0 ≤ t.2.1.getD i 0 ∧ t.2.1.getD i 0 < m) then 2 else 0
theorem iM {n m : Int} {t : TRC} (h : t.1.length = 0) : bW n m t = 19 := if_pos h
theorem j6 {n m : Int} {t : TRC} (h : ¬ t.1.length = 0) (h2 : ¬ bp t.1 n = 0) : bW n m t = bp t.1 n := by unfold bW; rw [if_neg h, if_pos h2]
theorem iD {n m : Int} {t : TRC} (h : ¬ t.1.length = 0) (h2 : bp t.1 n = 0) (h3 : ¬ t.2.1.length = t.1.length) : bW n m t = 1 := by unfold bW; rw [if_neg h, if_neg (fun k => k h2), if_pos h3]
theorem iP {n m : Int} {t : TRC} (h : ¬ t.1.length = 0) (h2 : bp t.1 n = 0) (h3 : t.2.1.length = t.1.length) {i : Nat} (hi : i < t.2.1.length) (hb : ¬ (0 ≤ t.2.1.getD i 0 ∧ t.2.1.getD i 0 < m)) : bW n m t = 2 := by
  unfold bW; rw [if_neg h, if_neg (fun k => k h2), if_neg (fun k => k h3), if_pos ⟨i, hi, hb⟩]
theorem f0 {n m : Int} {t : TRC} (h : ¬ t.1.length = 0) (h2 : bp t.1 n = 0) (h3 : t.2.1.length = t.1.length) (hq : ∀ i, i < t.2.1.length → 0 ≤ t.2.1.getD i 0 ∧ t.2.1.getD i 0 < m) : bW n m t = 0 := by
  unfold bW; rw [if_neg h, if_neg (fun k => k h2), if_neg (fun k => k h3), if_neg (fun ⟨i, hi, hb⟩ => hb (hq i hi))]
def d7 (n : Int) (c : List Int) (w : List Int) : List Int := w.foldl (fun c a => if 0 ≤ a ∧ a < n then c.set a.toNat (c.getD a.toNat 0 + 1) else c) c
def dA (n : Int) (c : List Int) (l : List TRC) : List Int := l.foldl (fun c t => d7 n c t.1) c
theorem jv (n : Int) : ∀ (w c : List Int), (d7 n c w).length = c.length
  | [], _ => rfl
  | a :: w, c => by
    show (d7 n (if 0 ≤ a ∧ a < n then c.set a.toNat (c.getD a.toNat 0 + 1) else c) w).length = _
    rw [jv n w]
    split <;> simp
theorem gK (n : Int) : ∀ (l : List TRC) (c : List Int), (dA n c l).length = c.length
  | [], _ => rfl
  | t :: l, c => by
    show (dA n (d7 n c t.1) l).length = _
    rw [gK n l, jv]
theorem fI {n : Int} {c w : List Int} {k : Nat} (h : k < w.length) : d7 n c (w.take (k + 1)) = if 0 ≤ w.getD k 0 ∧ w.getD k 0 < n then (d7 n c (w.take k)).set (w.getD k 0).toNat ((d7 n c (w.take k)).getD (w.getD k 0).toNat 0 + 1) else d7 n c (w.take k) := by
  unfold d7
  rw [nB h, List.foldl_append]; rfl
theorem kt {n : Int} {c : List Int} {l : List TRC} {k : Nat} (h : k < l.length) (d : TRC) : dA n c (l.take (k + 1)) = d7 n (dA n c (l.take k)) (l.getD k d).1 := by
  unfold dA
  have e : l.take (k + 1) = l.take k ++ [l.getD k d] := by rw [List.take_add_one, List.getElem?_eq_getElem h]; simp [List.getD, h]
  rw [e, List.foldl_append]; rfl
theorem kH (n : Int) : ∀ (w c : List Int) (N : Int), (∀ i, 0 ≤ c.getD i 0 ∧ c.getD i 0 ≤ N) → ∀ i, 0 ≤ (d7 n c w).getD i 0 ∧ (d7 n c w).getD i 0 ≤ N + w.length
  | [], c, N, h => fun i => by have := h i; show 0 ≤ c.getD i 0 ∧ c.getD i 0 ≤ N + 0; omega
  | a :: w, c, N, h => fun i => by
    have h2 : ∀ j, 0 ≤ (if 0 ≤ a ∧ a < n then c.set a.toNat (c.getD a.toNat 0 + 1) else c).getD j 0 ∧ (if 0 ≤ a ∧ a < n then c.set a.toNat (c.getD a.toNat 0 + 1) else c).getD j 0 ≤ N + 1 := fun j => by
      have h3 := h j; have h4 := h a.toNat
      split
      · by_cases e : a.toNat = j
        · subst e
          by_cases hl : a.toNat < c.length
          · have e1 : (c.set a.toNat (c.getD a.toNat 0 + 1)).getD a.toNat 0 = c.getD a.toNat 0 + 1 := by
              generalize c.getD a.toNat 0 + 1 = v
              simp [List.getD, hl]
            rw [e1]; omega
          · have e1 : (c.set a.toNat (c.getD a.toNat 0 + 1)).getD a.toNat 0 = 0 := by rw [List.set_eq_of_length_le (by omega)]; simp [List.getD, List.getElem?_eq_none (show c.length ≤ a.toNat by omega)]
            rw [e1]; omega
        · have e1 : (c.set a.toNat (c.getD a.toNat 0 + 1)).getD j 0 = c.getD j 0 := by
            generalize c.getD a.toNat 0 + 1 = v
            simp [List.getD, List.getElem?_set, e]
          rw [e1]; omega
      · omega
    have := kH n w _ (N + 1) h2 i
    show 0 ≤ (d7 n (if 0 ≤ a ∧ a < n then c.set a.toNat (c.getD a.toNat 0 + 1) else c) w).getD i 0 ∧ _
    rw [ae]
    exact ⟨this.1, by have := this.2; show (d7 n (if 0 ≤ a ∧ a < n then c.set a.toNat (c.getD a.toNat 0 + 1) else c) w).getD i 0 ≤ _; omega⟩
theorem kX {n : Int} {B : Nat} : ∀ (l : List TRC) (c : List Int) (N : Int), (∀ t, t ∈ l → t.1.length ≤ B) → (∀ i, 0 ≤ c.getD i 0 ∧ c.getD i 0 ≤ N) → ∀ i, 0 ≤ (dA n c l).getD i 0 ∧ (dA n c l).getD i 0 ≤ N + (l.length : Int) * B
  | [], c, N, _, h => fun i => by
    have := h i
    show 0 ≤ c.getD i 0 ∧ c.getD i 0 ≤ N + ((0 : Nat) : Int) * B
    rw [show ((0 : Nat) : Int) * B = 0 by simp]; omega
  | t :: l, c, N, hB, h => fun i => by
    have hb := hB t (aN ..)
    have h2 := kH n t.1 c N h
    have h3 := kX (n := n) l (d7 n c t.1) (N + B) (fun u hu => hB u (aK _ hu)) (fun j => by have := h2 j; omega) i
    show 0 ≤ (dA n (d7 n c t.1) l).getD i 0 ∧ (dA n (d7 n c t.1) l).getD i 0 ≤ N + ((l.length + 1 : Nat) : Int) * B
    have e : ((l.length + 1 : Nat) : Int) * B = (l.length : Int) * B + B := by rw [Int.natCast_add, Int.add_mul]; simp
    rw [e]; omega
theorem ku (n : Nat) (i : Nat) : 0 ≤ (List.replicate n (0 : Int)).getD i 0 ∧ (List.replicate n (0 : Int)).getD i 0 ≤ 0 := by
  by_cases h : i < n
  · simp [List.getD, h]
  · simp [List.getD, List.getElem?_eq_none (show (List.replicate n (0 : Int)).length ≤ i by simp; omega)]
def eS (l : List TRC) (n : Int) : List Int := if n < 1 ∨ 64 < n then [] else dA n (List.replicate n.toNat 0) l
theorem kR {l : List TRC} {n : Int} (h : n < 1 ∨ 64 < n) : eS l n = [] := if_pos h
theorem iC {l : List TRC} {n : Int} (h : ¬ (n < 1 ∨ 64 < n)) : eS l n = dA n (List.replicate n.toNat 0) l := if_neg h
theorem th {n : Int} {l : List TRC} {k j : Nat} {x : List Int} (hB : ∀ t, t ∈ l → t.1.length ≤ 3000) (hk : k ≤ 30000) (hj : j ≤ 3000) (i : Nat) : 0 ≤ (d7 n (dA n (List.replicate n.toNat 0) (l.take k)) (x.take j)).getD i 0 ∧ (d7 n (dA n (List.replicate n.toNat 0) (l.take k)) (x.take j)).getD i 0 ≤ 90003000 := by
  have h1 := kX (n := n) (B := 3000) (l.take k) (List.replicate n.toNat 0) 0 (fun t ht => hB t (List.mem_of_mem_take ht)) (ku n.toNat)
  have h2 := kH n (x.take j) _ (0 + ((l.take k).length : Int) * 3000) h1 i
  have h3 : (l.take k).length ≤ k := by rw [List.length_take]; omega
  have h4 : (x.take j).length ≤ j := by rw [List.length_take]; omega
  omega
/-plain-/
/-plain-/
abbrev STP := PP → Nat → PP
abbrev W3 := PP × List Int
def w30 : W3 := (d0, [])
def dIn (l : List W3) (q : PP) : Bool := l.any fun f => decide (f.1 = q)
def dSt (A : STP) (e : W3) (l : List W3) (x : Nat) : List W3 := if dIn l (A e.1 x) = true then l else l ++ [(A e.1 x, e.2 ++ [(x : Int)])]
def fN (A : STP) (e : W3) (l : List W3) (x : Nat) : List W3 := (List.range x).foldl (dSt A e) l
theorem oz {l : List W3} {q : PP} : dIn l q = true ↔ q ∈ l.map Prod.fst := by
  unfold dIn
  rw [List.any_eq_true, List.mem_map]
  constructor
  · rintro ⟨e, he, h⟩; exact ⟨e, he, by simpa using h⟩
  · rintro ⟨e, he, h⟩; exact ⟨e, he, by simpa using h⟩
theorem nv {A : STP} {e : W3} {l : List W3} {x : Nat} (h : A e.1 x ∈ l.map Prod.fst) : dSt A e l x = l := if_pos (oz.2 h)
theorem lw {A : STP} {e : W3} {l : List W3} {x : Nat} (h : A e.1 x ∉ l.map Prod.fst) : dSt A e l x = l ++ [(A e.1 x, e.2 ++ [(x : Int)])] := if_neg fun k => h (oz.1 k)
theorem fl (A : STP) (e : W3) (l : List W3) (x : Nat) : fN A e l (x + 1) = dSt A e (fN A e l x) x := by
  unfold fN; rw [List.range_succ, List.foldl_append]; rfl
theorem rU (A : STP) (e : W3) (l : List W3) (x : Nat) : ∃ k, dSt A e l x = l ++ k := by
  unfold dSt; split
  · exact ⟨[], by simp⟩
  · exact ⟨_, rfl⟩
theorem ld (A : STP) (e : W3) (l : List W3) (x : Nat) : ∀ d, ∃ k, fN A e l (x + d) = fN A e l x ++ k
  | 0 => ⟨[], by simp⟩
  | d + 1 => by
    obtain ⟨k, h⟩ := ld A e l x d
    obtain ⟨k', h'⟩ := rU A e (fN A e l (x + d)) (x + d)
    exact ⟨k ++ k', by rw [← Nat.add_assoc, fl, h', h, List.append_assoc]⟩
theorem r8 (A : STP) (e : W3) (l : List W3) (x : Nat) : ∃ k, fN A e l x = l ++ k := by
  obtain ⟨k, h⟩ := ld A e l 0 x
  rw [Nat.zero_add] at h
  exact ⟨k, h⟩
def inR (n1 n2 : Nat) (q : PP) : Prop := (0 ≤ q.1 ∧ q.1 < n1) ∧ 0 ≤ q.2 ∧ q.2 < n2
structure DW (n1 n2 : Nat) (l : List W3) : Prop where
  nd : (l.map Prod.fst).Nodup
  rg : ∀ e, e ∈ l → inR n1 n2 e.1
  wl : ∀ e, e ∈ l → e.2.length < l.length
theorem nE {l : List W3} {i : Nat} (h : i < l.length) : l.getD i w30 ∈ l := by simp [List.getD, h]
theorem DW.le {n1 n2 : Nat} {l : List W3} (h : DW n1 n2 l) : l.length ≤ n1 * n2 := by
  have hnd : ((l.map Prod.fst).map fun q : PP => q.1 * (n2 : Int) + q.2).Nodup := by
    rw [List.nodup_iff_pairwise_ne, List.pairwise_map]
    refine List.Pairwise.imp_of_mem (fun {a b} ha hb hab => ?_) (List.nodup_iff_pairwise_ne.1 h.nd)
    intro e
    obtain ⟨ea, hea, rfl⟩ := List.mem_map.1 ha
    obtain ⟨eb, heb, rfl⟩ := List.mem_map.1 hb
    have := mm (h.rg ea hea).2 (h.rg eb heb).2 e
    exact hab (Prod.ext this.1 this.2)
  have := fH (n1 * n2) _ hnd (fun x hx => by
    obtain ⟨q, hq, rfl⟩ := List.mem_map.1 hx
    obtain ⟨e, he, rfl⟩ := List.mem_map.1 hq
    have hr := h.rg e he
    have := nP hr.1 hr.2
    rw [Int.natCast_mul]; exact this)
  simpa using this
theorem DW.step {n1 n2 n : Nat} {A : STP} (hA : ∀ q, inR n1 n2 q → ∀ x, x < n → inR n1 n2 (A q x)) {l : List W3} (h : DW n1 n2 l) {e : W3} (he : e ∈ l) {x : Nat} (hx : x < n) : DW n1 n2 (dSt A e l x) := by
  by_cases hin : A e.1 x ∈ l.map Prod.fst
  · rw [nv hin]; exact h
  · rw [lw hin]
    refine ⟨?_, fun f hf => ?_, fun f hf => ?_⟩
    · rw [List.map_append, aQ, bb, List.nodup_append]
      refine ⟨h.nd, by simp, fun a ha b hb => ?_⟩
      simp at hb; subst hb
      intro hab; subst hab; exact hin ha
    · rcases List.mem_append.1 hf with hf | hf
      · exact h.rg f hf
      · simp at hf; subst hf; exact hA _ (h.rg e he) x hx
    · rw [ag, List.length_singleton]
      rcases List.mem_append.1 hf with hf | hf
      · have := h.wl f hf; omega
      · simp at hf; subst hf
        have := h.wl e he
        simp only [ag, List.length_singleton]; omega
theorem DW.row {n1 n2 n : Nat} {A : STP} (hA : ∀ q, inR n1 n2 q → ∀ x, x < n → inR n1 n2 (A q x)) {l : List W3} (h : DW n1 n2 l) {i : Nat} (hi : i < l.length) : ∀ x, x ≤ n → DW n1 n2 (fN A (l.getD i w30) l x)
  | 0, _ => by simpa [fN] using h
  | x + 1, hx => by
    rw [fl]
    refine (h.row hA hi x (by omega)).step hA ?_ (by omega)
    obtain ⟨k, e⟩ := r8 A (l.getD i w30) l x
    rw [e]; exact List.mem_append.2 (.inl (nE hi))
/-plain-/
/-plain-/
structure EQT (T : Nat → Nat → Bool) (n : Nat) : Prop where
  rf : ∀ a, a < n → T a a = true
  sy : ∀ a b, a < n → b < n → T a b = true → T b a = true
  tr : ∀ a b c, a < n → b < n → c < n → T a b = true → T b c = true → T a c = true
structure NMP (T : Nat → Nat → Bool) (c : Nat) : Prop where
  at_ : ∀ q, q < c → 0 ≤ (nmS T c).1.getD q 0 ∧ (nmS T c).1.getD q 0 < (nmS T c).2.length ∧ T ((nmS T c).2.getD ((nmS T c).1.getD q 0).toNat 0).toNat q = true
  ap : ∀ x y, x < y → y < (nmS T c).2.length → T ((nmS T c).2.getD x 0).toNat ((nmS T c).2.getD y 0).toNat = false
end Go.AV
