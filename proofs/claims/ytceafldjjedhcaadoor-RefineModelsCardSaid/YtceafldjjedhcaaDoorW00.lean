/- Contracts of functions of this seat, each out of a walk through its code, and plain facts on what they compute. Conditions: those that each theorem names. -/
import Derived.Test.YtceafldjjedhcaaDoorTz
import Derived.Lib.ItoaNum
import Derived.Lib.Join
import Derived.Shelf.Lay
import Derived.Shelf.Slices.CompactI
import Derived.Shelf.Sort.Plain
set_option linter.unusedSimpArgs false
set_option linter.unusedVariables false
namespace Go.AV
theorem zB : (∀ (p : Prop) [Decidable p], (decide p = true) = p) ∧ (∀ (p : Prop) [Decidable p], (decide p = false) = ¬p) ∧ ((!true) = false) ∧ ((!false) = true) ∧ (∀ b : Bool, (¬(b = true)) = (b = false)) ∧ (∀ b : Bool, (¬(b = false)) = (b = true)) ∧ (∀ a b : Bool, ((!a) = b) = (a = !b)) ∧ (∀ a b : Int, ¬a < b ↔ b ≤ a) ∧ (∀ a b : Int, ¬a ≤ b ↔ b < a) ∧ ((true = false) = False) ∧ ((false = true) = False) ∧ (∀ {α : Sort 1} (a b : α), (a ≠ b) = ¬(a = b)) ∧ (∀ (p : Prop) [Decidable p], ¬¬p ↔ p) ∧ (∀ b : Bool, ((!b) = true) = (b = false)) ∧ (∀ {α : Type} [BEq α] [LawfulBEq α] {a b : α}, (a != b) = true ↔ a ≠ b) ∧ (∀ a b : Bool, ((a || b) = true) = (a = true ∨ b = true)) ∧ (∀ a b : Bool, ((a && b) = true) = (a = true ∧ b = true)) ∧ (∀ a b : Bool, ((a || b) = false) = (a = false ∧ b = false)) ∧ (∀ a b : Bool, ((a && b) = false) = (a = false ∨ b = false)) :=
  ⟨fun p _ => decide_eq_true_eq, fun p _ => by simp, rfl, rfl, by simp, by simp, by decide, fun a b => Int.not_lt, fun a b => Int.not_le, by simp, by simp, fun _ _ => rfl, fun p _ => Decidable.not_not, by simp, bne_iff_ne, by simp, by simp, by simp, by simp⟩
theorem zS {α : Type} : (∀ (a b : α) (l : List α), (a :: l).set 0 b = b :: l) ∧ ∀ (a b : α) (n : Nat) (l : List α), (a :: l).set (n + 1) b = a :: l.set n b := ⟨fun _ _ _ => rfl, fun _ _ _ _ => rfl⟩
end Go.AV
namespace Go.Proofs.YtceafldjjedhcaaDoor
open Go Go.AV
open Nat renaming reduceEqDiff → J, reduceAdd → E, reduceLeDiff → U, reduceLT → Z, reduceMul → V, reduceSub → Y
open List renaming set_cons_zero → aw, set_cons_succ → au
def Mof (d : Int × (Int × (List (List Int) × (List (List Int) × Unit)))) : Mly := ⟨d.1, d.2.1, d.2.2.1, d.2.2.2.1⟩
end Go.Proofs.YtceafldjjedhcaaDoor
namespace Go.Proofs.YtceafldjjedhcaaDoor
open Go Go.AV
open Nat renaming reduceEqDiff → J, reduceAdd → E, reduceLeDiff → U, reduceLT → Z, reduceMul → V, reduceSub → Y
open List renaming set_cons_zero → aw, set_cons_succ → au
def d9 : Mly := ⟨2, 0, [[1, 0], [1, 0]], [[1, 0], [1, 2]]⟩
end Go.Proofs.YtceafldjjedhcaaDoor
namespace Go.AV
open Nat renaming reduceEqDiff → J, reduceAdd → E, reduceLeDiff → U, reduceLT → Z, reduceMul → V, reduceSub → Y
open List renaming set_cons_zero → aw, set_cons_succ → au
/-plain-/
/-! ### classes of states -/
def Mly.sigP (m : Mly) (cl : List Int) (a s : Nat) : List Int := (List.range 128).map fun i =>
  if i < a then (m.ot.getD s []).getD i 0 else if 64 ≤ i ∧ i < 64 + a then cl.getD ((m.nx.getD s []).getD (i - 64) 0).toNat 0 else 0
def Mly.sig (m : Mly) (cl : List Int) (s : Nat) : List Int := m.sigP cl m.inp.toNat s
def Mly.nextL (m : Mly) (cl : List Int) : List Int := (List.range m.nx.length).map fun s => (pos (cY (m.sig cl) m.nx.length) (m.sig cl s) : Int)
def Mly.nextN (m : Mly) (cl : List Int) : Int := (cY (m.sig cl) m.nx.length).length
def Mly.cls (m : Mly) : Nat → List Int
  | 0 => List.replicate m.nx.length 0
  | i + 1 => m.nextL (m.cls i)
def Mly.cnt (m : Mly) : Nat → Int
  | 0 => 1
  | i + 1 => m.nextN (m.cls i)
/-- The first round that divides nothing; at most N. -/
def Mly.stopF (m : Mly) : Nat → Nat → Nat
  | 0, i => i
  | f + 1, i => if m.cnt (i + 1) = m.cnt i then i else m.stopF f (i + 1)
def hZ (m : Mly) (k : Int) : Nat := (min (max k 0) (m.nx.length : Int)).toNat
def Mly.refC (m : Mly) (k : Int) : List Int := m.cls (m.stopF (hZ m k) 0)
def Mly.refK (m : Mly) (k : Int) : Int := m.stopF (hZ m k) 0
theorem cp (m : Mly) (cl : List Int) (a s : Nat) : (m.sigP cl a s).length = 128 := by simp [Mly.sigP]
theorem sG (m : Mly) (cl : List Int) (s : Nat) : List.replicate 128 (0 : Int) = m.sigP cl 0 s := by
  apply List.ext_getElem
  · simp [Mly.sigP]
  · intro i h1 h2
    simp only [Mly.sigP, List.getElem_replicate, List.getElem_map, List.getElem_range]
    rw [if_neg (by omega), if_neg (by omega)]
theorem tI (m : Mly) (cl : List Int) {a : Nat} (s : Nat) (h : a < 64) :
    ((m.sigP cl a s).set a ((m.ot.getD s []).getD a 0)).set (64 + a) (cl.getD ((m.nx.getD s []).getD a 0).toNat 0) = m.sigP cl (a + 1) s := by
  apply List.ext_getElem
  · simp [Mly.sigP]
  · intro i h1 h2
    simp only [Mly.sigP, List.getElem_set, List.getElem_map, List.getElem_range]
    by_cases e1 : 64 + a = i
    · subst e1
      rw [if_pos rfl, if_neg (by omega), if_pos (by omega), show 64 + a - 64 = a by omega]
    · rw [if_neg e1]
      by_cases e2 : a = i
      · subst e2; rw [if_pos rfl, if_pos (by omega)]
      · rw [if_neg e2]
        by_cases e3 : i < a
        · rw [if_pos e3, if_pos (by omega)]
        · rw [if_neg e3, if_neg (by omega : ¬ i < a + 1)]
          by_cases e4 : 64 ≤ i ∧ i < 64 + a
          · rw [if_pos e4, if_pos (by omega)]
          · rw [if_neg e4, if_neg (by omega)]
theorem lK {m : Mly} (hm : MOK m) {cl : List Int} {s t : Nat} : m.sig cl s = m.sig cl t ↔
    ∀ a : Nat, (a : Int) < m.inp → (m.ot.getD s []).getD a 0 = (m.ot.getD t []).getD a 0 ∧ cl.getD ((m.nx.getD s []).getD a 0).toNat 0 = cl.getD ((m.nx.getD t []).getD a 0).toNat 0 := by
  have h2 := hm.i2
  unfold Mly.sig Mly.sigP
  constructor
  · intro h a ha
    have h1 := congrArg (fun l => l.getD a 0) h
    have h3 := congrArg (fun l => l.getD (64 + a) 0) h
    have e1 : a < 128 := by omega
    have e2 : 64 + a < 128 := by omega
    simp only [lR _ _ e1] at h1
    simp only [lR _ _ e2] at h3
    rw [if_pos (by omega), if_pos (by omega)] at h1
    rw [if_neg (show ¬ (64 + a < m.inp.toNat) by omega), if_neg (show ¬ (64 + a < m.inp.toNat) by omega), if_pos (show 64 ≤ 64 + a ∧ 64 + a < 64 + m.inp.toNat by omega), if_pos (show 64 ≤ 64 + a ∧ 64 + a < 64 + m.inp.toNat by omega), show 64 + a - 64 = a by omega] at h3
    exact ⟨h1, h3⟩
  · intro h
    refine List.map_congr_left fun i hi => ?_
    by_cases e1 : i < m.inp.toNat
    · rw [if_pos e1, if_pos e1]; exact (h i (by omega)).1
    · rw [if_neg e1, if_neg e1]
      by_cases e2 : 64 ≤ i ∧ i < 64 + m.inp.toNat
      · rw [if_pos e2, if_pos e2]; exact (h (i - 64) (by omega)).2
      · rw [if_neg e2, if_neg e2]
theorem rO (m : Mly) (cl : List Int) : (m.nextL cl).length = m.nx.length := by simp [Mly.nextL]
theorem mc (m : Mly) : ∀ i, (m.cls i).length = m.nx.length
  | 0 => by simp [Mly.cls]
  | i + 1 => rO _ _
theorem iP {m : Mly} {cl : List Int} {s : Nat} (h : s < m.nx.length) : (m.nextL cl).getD s 0 = (pos (cY (m.sig cl) m.nx.length) (m.sig cl s) : Int) := by
  simp [Mly.nextL, List.getD, h]
theorem rX {m : Mly} {cl : List Int} {s : Nat} (h : s < m.nx.length) : 0 ≤ (m.nextL cl).getD s 0 ∧ (m.nextL cl).getD s 0 < m.nx.length := by
  rw [iP h]
  have h1 := ph (fE (f := m.sig cl) (k := m.nx.length).2 ⟨s, h, rfl⟩)
  have h2 := mf (m.sig cl) m.nx.length
  omega
theorem gq {m : Mly} {cl : List Int} {s t : Nat} (hs : s < m.nx.length) (ht : t < m.nx.length) : (m.nextL cl).getD s 0 = (m.nextL cl).getD t 0 ↔ m.sig cl s = m.sig cl t := by
  rw [iP hs, iP ht]
  constructor
  · intro h
    exact uJ (fE.2 ⟨s, hs, rfl⟩) (fE.2 ⟨t, ht, rfl⟩) (by omega)
  · intro h; rw [h]
theorem rm {m : Mly} (hm : MOK m) : ∀ i s, s < m.nx.length → 0 ≤ (m.cls i).getD s 0 ∧ (m.cls i).getD s 0 < m.nx.length
  | 0, s, h => by
    have : (m.cls 0).getD s 0 = 0 := by simp [Mly.cls, List.getD, h]
    rw [this]; have := hm.n1; omega
  | i + 1, s, h => rX h
theorem kp {m : Mly} (hm : MOK m) : ∀ i s t, s < m.nx.length → t < m.nx.length → (m.cls (i + 1)).getD s 0 = (m.cls (i + 1)).getD t 0 → (m.cls i).getD s 0 = (m.cls i).getD t 0
  | 0, s, t, hs, ht, _ => by simp [Mly.cls, List.getD, hs, ht]
  | i + 1, s, t, hs, ht, h => by
    have h1 := (gq (cl := m.cls (i + 1)) hs ht).1 h
    rw [lK hm] at h1
    refine (gq hs ht).2 ((lK hm).2 fun a ha => ⟨(h1 a ha).1, ?_⟩)
    have n1 := hm.nr s a hs ha
    have n2 := hm.nr t a ht ha
    exact kp hm i _ _ (by omega) (by omega) (h1 a ha).2

/-! ### how many classes -/
def cQ (f : Nat → Int) (n : Nat) : List Nat := (List.range n).filter fun s => decide (∀ t, t < s → f t ≠ f s)
theorem jL {α : Type} [DecidableEq α] (g : Nat → α) (f : Nat → Int) : ∀ n, (∀ s t, s < n → t < n → (f s = f t ↔ g s = g t)) → (cY g n).length = (cQ f n).length
  | 0, _ => rfl
  | n + 1, h => by
    have ih := jL g f n fun s t hs ht => h s t (by omega) (by omega)
    rw [dk]
    unfold cQ
    rw [List.range_succ, List.filter_append, List.length_append]
    have e0 : (cQ f n).length = ((List.range n).filter fun s => decide (∀ t, t < s → f t ≠ f s)).length := rfl
    rw [← e0, ← ih]
    by_cases hm : g n ∈ cY g n
    · rw [fh hm]
      obtain ⟨i, hi, e⟩ := fE.1 hm
      have : ¬ (∀ t, t < n → f t ≠ f n) := fun hh => hh i hi ((h i n (by omega) (by omega)).2 e)
      simp [this]
    · rw [eJ hm]
      have : ∀ t, t < n → f t ≠ f n := fun t ht e => hm (fE.2 ⟨t, ht, (h t n (by omega) (by omega)).1 e⟩)
      rw [List.filter_cons, if_pos (by simpa using this)]
      simp
theorem fm {m : Mly} (hm : MOK m) : ∀ i, m.cnt i = ((cQ (fun s => (m.cls i).getD s 0) m.nx.length).length : Int)
  | 0 => by
    have h1 := hm.n1
    have : cQ (fun s => (m.cls 0).getD s 0) m.nx.length = [0] := by
      obtain ⟨n, hn⟩ : ∃ n, m.nx.length = n + 1 := ⟨m.nx.length - 1, by omega⟩
      unfold cQ
      rw [hn, List.range_succ_eq_map, List.filter_cons]
      have hz : ∀ s, s < n + 1 → (m.cls 0).getD s 0 = 0 := fun s hs => by simp [Mly.cls, List.getD, hn, hs]
      rw [if_pos (by simp)]
      have : (List.map Nat.succ (List.range n)).filter (fun s => decide (∀ t, t < s → (m.cls 0).getD t 0 ≠ (m.cls 0).getD s 0)) = [] := by
        rw [List.filter_eq_nil_iff]
        intro s hs
        obtain ⟨k, hk, rfl⟩ := List.mem_map.1 hs
        simp only [decide_eq_true_eq]
        intro hh
        have hk' : k < n := by simpa using hk
        exact hh 0 (by omega) (by rw [hz 0 (by omega), hz (k + 1) (by omega)])
      rw [this]
    rw [this]; rfl
  | i + 1 => by
    show ((cY (m.sig (m.cls i)) m.nx.length).length : Int) = _
    rw [jL (m.sig (m.cls i)) (fun s => (m.cls (i + 1)).getD s 0)]
    intro s t hs ht
    exact gq hs ht
theorem iY (f : Nat → Int) (n : Nat) : (cQ f n).Nodup := List.Pairwise.filter _ List.nodup_range
theorem kY {f g : Nat → Int} {n : Nat} (h : ∀ s t, s < n → t < n → g s = g t → f s = f t) : ∀ x, x ∈ cQ f n → x ∈ cQ g n := by
  intro x hx
  simp only [cQ, List.mem_filter, List.mem_range, decide_eq_true_eq] at hx ⊢
  exact ⟨hx.1, fun t ht e => hx.2 t ht (h t x (by omega) hx.1 e)⟩
theorem nj (f : Nat → Int) (n : Nat) : ∀ s, s < n → ∃ r, r ∈ cQ f n ∧ f r = f s := by
  intro s
  induction s using Nat.strongRecOn with
  | _ s ih =>
    intro hs
    by_cases h : ∀ t, t < s → f t ≠ f s
    · exact ⟨s, by simp only [cQ, List.mem_filter, List.mem_range, decide_eq_true_eq]; exact ⟨hs, h⟩, rfl⟩
    · obtain ⟨t, ht⟩ := Classical.not_forall.1 h
      rw [Classical.not_imp, Classical.not_not] at ht
      obtain ⟨r, hr, e⟩ := ih t ht.1 (by omega)
      exact ⟨r, hr, e.trans ht.2⟩
theorem qT {f g : Nat → Int} {n : Nat} (h : ∀ s t, s < n → t < n → g s = g t → f s = f t) (hc : (cQ g n).length = (cQ f n).length) : ∀ s t, s < n → t < n → f s = f t → g s = g t := by
  intro s t hs ht e
  have hback : ∀ x, x ∈ cQ g n → x ∈ cQ f n := by
    intro x hx
    by_cases hm : x ∈ cQ f n
    · exact hm
    · exfalso
      have := gN (x :: cQ f n) (cQ g n) (List.nodup_cons.2 ⟨hm, iY f n⟩) (fun y hy => by
        rcases List.mem_cons.1 hy with rfl | hy
        · exact hx
        · exact kY h y hy)
      simp only [List.length_cons] at this
      omega
  obtain ⟨r, hr, e1⟩ := nj g n s hs
  obtain ⟨q, hq, e2⟩ := nj g n t ht
  have hr' := hback r hr
  have hq' := hback q hq
  have hrl : r < n := by simp only [cQ, List.mem_filter, List.mem_range] at hr; exact hr.1
  have hql : q < n := by simp only [cQ, List.mem_filter, List.mem_range] at hq; exact hq.1
  have e3 : f r = f q := (h r s hrl hs e1).trans (e.trans (h q t hql ht e2).symm)
  have : r = q := by
    simp only [cQ, List.mem_filter, List.mem_range, decide_eq_true_eq] at hr' hq'
    rcases Nat.lt_trichotomy r q with hlt | heq | hgt
    · exact absurd e3 (hq'.2 r hlt)
    · exact heq
    · exact absurd e3.symm (hr'.2 q hgt)
  rw [← e1, ← e2, this]

theorem gd {m : Mly} : ∀ f i, (∃ j, i ≤ j ∧ m.stopF f i = j ∧ j < i + f ∧ m.cnt (j + 1) = m.cnt j ∧ ∀ k, i ≤ k → k < j → m.cnt (k + 1) ≠ m.cnt k) ∨ (m.stopF f i = i + f ∧ ∀ k, i ≤ k → k < i + f → m.cnt (k + 1) ≠ m.cnt k)
  | 0, i => .inr ⟨rfl, fun k h1 h2 => by omega⟩
  | f + 1, i => by
    simp only [Mly.stopF]
    by_cases h : m.cnt (i + 1) = m.cnt i
    · rw [if_pos h]
      exact .inl ⟨i, Nat.le_refl _, rfl, by omega, h, fun k h1 h2 => by omega⟩
    · rw [if_neg h]
      rcases gd (m := m) f (i + 1) with ⟨j, h1, h2, h3, h4, h5⟩ | ⟨h1, h2⟩
      · refine .inl ⟨j, by omega, h2, by omega, h4, fun k k1 k2 => ?_⟩
        by_cases e : k = i
        · subst e; exact h
        · exact h5 k (by omega) k2
      · refine .inr ⟨by rw [h1]; omega, fun k k1 k2 => ?_⟩
        by_cases e : k = i
        · subst e; exact h
        · exact h2 k (by omega) (by omega)
theorem tL {m : Mly} (hm : MOK m) (i : Nat) : m.cnt i ≤ m.cnt (i + 1) := by
  rw [fm hm, fm hm]
  have := gN (cQ (fun s => (m.cls i).getD s 0) m.nx.length) (cQ (fun s => (m.cls (i + 1)).getD s 0) m.nx.length) (iY _ _) (kY (kp hm i))
  omega
theorem wF {m : Mly} (hm : MOK m) (i : Nat) : m.cnt i ≤ m.nx.length := by
  rw [fm hm]
  have : (cQ (fun s => (m.cls i).getD s 0) m.nx.length).length ≤ (List.range m.nx.length).length := List.length_filter_le _ _
  rw [List.length_range] at this; omega

/-- The classes of equivalent states. -/
def Mly.eqc (m : Mly) : List Int := m.refC 128
structure STAB (m : Mly) (c : List Int) : Prop where
  len : c.length = m.nx.length
  rng : ∀ s, s < m.nx.length → 0 ≤ c.getD s 0 ∧ c.getD s 0 < m.nx.length
  step : ∀ s t : Nat, s < m.nx.length → t < m.nx.length → c.getD s 0 = c.getD t 0 → ∀ a : Nat, (a : Int) < m.inp →
    (m.ot.getD s []).getD a 0 = (m.ot.getD t []).getD a 0 ∧ c.getD ((m.nx.getD s []).getD a 0).toNat 0 = c.getD ((m.nx.getD t []).getD a 0).toNat 0
theorem kl {m : Mly} (hm : MOK m) : ∃ j, m.eqc = m.cls j ∧ j < m.nx.length ∧ m.cnt (j + 1) = m.cnt j := by
  have hN : hZ m 128 = m.nx.length := by unfold hZ; have := hm.n2; omega
  have hn1 := hm.n1
  unfold Mly.eqc Mly.refC
  rw [hN]
  rcases gd (m := m) m.nx.length 0 with ⟨j, h1, h2, h3, h4, _⟩ | ⟨h1, h2⟩
  · exact ⟨j, by rw [h2], by omega, h4⟩
  · exfalso
    have key : ∀ k, k ≤ m.nx.length → (k : Int) + 1 ≤ m.cnt k := by
      intro k
      induction k with
      | zero => intro _; show (0 : Int) + 1 ≤ 1; decide
      | succ k ih =>
        intro hk
        have := ih (by omega)
        have h3 := tL hm k
        have h4 := h2 k (by omega) (by omega)
        omega
    have := key m.nx.length (Nat.le_refl _)
    have := wF hm m.nx.length
    omega
theorem dY {m : Mly} (hm : MOK m) : STAB m m.eqc := by
  obtain ⟨j, h1, h2, h3⟩ := kl hm
  rw [h1]
  refine ⟨mc m j, rm hm j, fun s t hs ht e => ?_⟩
  rw [fm hm, fm hm] at h3
  have := qT (kp hm j) (by omega) s t hs ht e
  exact (lK hm).1 ((gq hs ht).1 this)

/-! ### equivalent states -/
def EQV (m : Mly) (s t : Int) : Prop := ∀ w : List Int, (∀ i : Nat, i < w.length → 0 ≤ w.getD i 0 ∧ w.getD i 0 < m.inp) → (m.go s w).2 = (m.go t w).2
theorem di (m : Mly) (s a : Int) (w : List Int) : m.go s (a :: w) = ((m.go (m.nxt s a) w).1, m.out s a :: (m.go (m.nxt s a) w).2) := by
  have := j9 m s [a] w
  simp only [List.cons_append, List.nil_append] at this
  rw [this]
  have h1 : m.go s [a] = (m.nxt s a, [m.out s a]) := rfl
  rw [h1]; rfl
theorem ja {w : List Int} {a n : Int} (h : ∀ i : Nat, i < (a :: w).length → 0 ≤ (a :: w).getD i 0 ∧ (a :: w).getD i 0 < n) : (0 ≤ a ∧ a < n) ∧ ∀ i : Nat, i < w.length → 0 ≤ w.getD i 0 ∧ w.getD i 0 < n :=
  ⟨h 0 (by simp), fun i hi => by have := h (i + 1) (by simpa using hi); simpa [List.getD] using this⟩
theorem ow {m : Mly} (hm : MOK m) {c : List Int} (hc : STAB m c) : ∀ (w : List Int) (s t : Int), 0 ≤ s → s < m.nx.length → 0 ≤ t → t < m.nx.length → c.getD s.toNat 0 = c.getD t.toNat 0 →
    (∀ i : Nat, i < w.length → 0 ≤ w.getD i 0 ∧ w.getD i 0 < m.inp) → (m.go s w).2 = (m.go t w).2
  | [], _, _, _, _, _, _, _, _ => rfl
  | a :: w, s, t, s0, s1, t0, t1, e, hw => by
    obtain ⟨ha, hw'⟩ := ja hw
    rw [di, di]
    have h1 := hc.step s.toNat t.toNat (by omega) (by omega) e a.toNat (by omega)
    have n1 := hm.nr s.toNat a.toNat (by omega) (by omega)
    have n2 := hm.nr t.toNat a.toNat (by omega) (by omega)
    have h2 := ow hm hc w (m.nxt s a) (m.nxt t a) n1.1 n1.2 n2.1 n2.2 h1.2 hw'
    show m.out s a :: _ = m.out t a :: _
    rw [h2]
    congr 1
    exact h1.1
theorem kx {m : Mly} {s t a : Int} (h : EQV m s t) (ha : 0 ≤ a ∧ a < m.inp) : m.out s a = m.out t a ∧ EQV m (m.nxt s a) (m.nxt t a) := by
  constructor
  · have := h [a] (fun i hi => by simp at hi; subst hi; exact ha)
    have h1 : (m.go s [a]).2 = [m.out s a] := rfl
    have h2 : (m.go t [a]).2 = [m.out t a] := rfl
    rw [h1, h2] at this
    simpa using this
  · intro w hw
    have := h (a :: w) (fun i hi => by
      cases i with
      | zero => exact ha
      | succ i => have := hw i (by simpa using hi); simpa [List.getD] using this)
    rw [di, di] at this
    exact (List.cons.inj this).2
theorem qn {m : Mly} (hm : MOK m) : ∀ (i : Nat) (s t : Nat), s < m.nx.length → t < m.nx.length → EQV m s t → (m.cls i).getD s 0 = (m.cls i).getD t 0
  | 0, s, t, hs, ht, _ => by simp [Mly.cls, List.getD, hs, ht]
  | i + 1, s, t, hs, ht, h => by
    refine (gq hs ht).2 ((lK hm).2 fun a ha => ?_)
    obtain ⟨h1, h2⟩ := kx h (a := (a : Int)) ⟨by omega, ha⟩
    refine ⟨by simpa [Mly.out] using h1, ?_⟩
    have n1 := hm.nr s a hs ha
    have n2 := hm.nr t a ht ha
    refine qn hm i _ _ (by omega) (by omega) ?_
    have e1 : m.nxt (s : Int) (a : Int) = (((m.nx.getD s []).getD a 0).toNat : Int) := by show (m.nx.getD s []).getD a 0 = _; omega
    have e2 : m.nxt (t : Int) (a : Int) = (((m.nx.getD t []).getD a 0).toNat : Int) := by show (m.nx.getD t []).getD a 0 = _; omega
    rw [e1, e2] at h2
    exact h2
/-- Two states are in one class just if they are equivalent. -/
theorem me {m : Mly} (hm : MOK m) {s t : Int} (s0 : 0 ≤ s) (s1 : s < m.nx.length) (t0 : 0 ≤ t) (t1 : t < m.nx.length) : m.eqc.getD s.toNat 0 = m.eqc.getD t.toNat 0 ↔ EQV m s t := by
  constructor
  · intro h w hw
    exact ow hm (dY hm) w s t s0 s1 t0 t1 h hw
  · intro h
    obtain ⟨j, h1, _⟩ := kl hm
    rw [h1]
    exact qn hm j s.toNat t.toNat (by omega) (by omega) (by rw [Int.toNat_of_nonneg s0, Int.toNat_of_nonneg t0]; exact h)

theorem cr (m : Mly) (cl : List Int) (a s : Nat) : (m.sigP cl a s).take 128 = m.sigP cl a s := List.take_of_length_le (by rw [cp]; exact Nat.le_refl _)
theorem tP {m : Mly} (hm : MOK m) {cl : List Int} (hr : ∀ s, s < m.nx.length → 0 ≤ cl.getD s 0 ∧ cl.getD s 0 < m.nx.length) {a s : Nat} (hs : s < m.nx.length) (ha : (a : Int) ≤ m.inp) : fZ (.arr 128) (.arr (m.sigP cl a s)) := by
  refine ⟨cp m cl a s, fun x hx => ?_⟩
  obtain ⟨i, hi, rfl⟩ := List.mem_map.1 hx
  have h2 := hm.n2
  split
  · have := hm.or s i hs (by omega); omega
  · split
    · have h1 := hm.nr s (i - 64) hs (by omega)
      have := hr ((m.nx.getD s []).getD (i - 64) 0).toNat (by omega)
      omega
    · omega
theorem kJ {m : Mly} {cl : List Int} {k : Nat} (hk : k < m.nx.length) (h : m.sig cl k ∈ cY (m.sig cl) k) : pos (cY (m.sig cl) m.nx.length) (m.sig cl k) = pos (cY (m.sig cl) k) (m.sig cl k) := by
  rw [km (m.sig cl) (i := k) (k := k + 1) (by omega) _ (by omega), dk, fh h]
theorem ku {m : Mly} {cl : List Int} {k : Nat} (hk : k < m.nx.length) (h : m.sig cl k ∉ cY (m.sig cl) k) : pos (cY (m.sig cl) m.nx.length) (m.sig cl k) = (cY (m.sig cl) k).length := by
  rw [km (m.sig cl) (i := k) (k := k + 1) (by omega) _ (by omega), dk, eJ h, od h]
theorem nN {m : Mly} {N j : Nat} (hj : j < N) (h : m.cnt (j + 1) = m.cnt j) (hq : ∀ q, q < j → m.cnt (q + 1) ≠ m.cnt q) : m.stopF N 0 = j := by
  rcases gd (m := m) N 0 with ⟨i, h1, h2, h3, h4, h5⟩ | ⟨h1, h2⟩
  · rw [h2]
    rcases Nat.lt_trichotomy i j with hlt | heq | hgt
    · exact absurd h4 (hq i hlt)
    · exact heq
    · exact absurd h (h5 j (by omega) hgt)
  · exact absurd h (h2 j (by omega) (by omega))
theorem nv {m : Mly} {N : Nat} (hq : ∀ q, q < N → m.cnt (q + 1) ≠ m.cnt q) : m.stopF N 0 = N := by
  rcases gd (m := m) N 0 with ⟨i, h1, h2, h3, h4, h5⟩ | ⟨h1, h2⟩
  · exact absurd h4 (hq i (by omega))
  · omega
end Go.AV
namespace Go.AV
open Nat renaming reduceEqDiff → J, reduceAdd → E, reduceLeDiff → U, reduceLT → Z, reduceMul → V, reduceSub → Y
open List renaming set_cons_zero → aw, set_cons_succ → au
/-plain-/
/-! ### the search through pairs of states -/
abbrev S3 := Int × Int × List Int
def sW (e : S3) : (Int × Int × Unit) × List Int × Unit := ((e.1, (e.2.1, ())), (e.2.2, ()))
def inS (l : List S3) (p q : Int) : Bool := l.any fun f => decide (f.1 = p) && decide (f.2.1 = q)
def stS (a b : Mly) (e : S3) (l : List S3) (x : Nat) : List S3 := if inS l (a.nxt e.1 x) (b.nxt e.2.1 x) = true then l else l ++ [(a.nxt e.1 x, b.nxt e.2.1 x, e.2.2 ++ [(x : Int)])]
def fd (a b : Mly) (e : S3) (x : Nat) : Bool := !decide (a.out e.1 x = b.out e.2.1 x)
def cT (a b : Mly) (e : S3) (l : List S3) (x : Nat) : List S3 := (List.range x).foldl (stS a b e) l
def eS0 : S3 := (0, 0, [])
def srS (a b : Mly) : Nat → Nat → List S3 → Option (List Int)
  | 0, _, _ => none
  | f + 1, i, l => if i < l.length then
      match (List.range a.inp.toNat).find? (fd a b (l.getD i eS0)) with
      | some x => some ((l.getD i eS0).2.2 ++ [(x : Int)])
      | none => srS a b f (i + 1) (cT a b (l.getD i eS0) l a.inp.toNat)
    else none
def fuS (a b : Mly) : Nat := a.nx.length * b.nx.length + 1
def seS (a b : Mly) (s t : Int) : Option (List Int) := srS a b (fuS a b) 0 [(s, t, [])]
theorem gy {l : List S3} {p q : Int} : inS l p q = true ↔ ∃ e, e ∈ l ∧ e.1 = p ∧ e.2.1 = q := by
  simp [inS, List.any_eq_true]
theorem dR (a b : Mly) (e : S3) (l : List S3) (x : Nat) : cT a b e l (x + 1) = stS a b e (cT a b e l x) x := by
  unfold cT; rw [List.range_succ, List.foldl_append]; rfl
theorem q9 (a b : Mly) (e : S3) (l : List S3) (x : Nat) : ∃ k, stS a b e l x = l ++ k := by
  unfold stS
  split
  · exact ⟨[], by simp⟩
  · exact ⟨_, rfl⟩
theorem iT (a b : Mly) (e : S3) (l : List S3) : ∀ x, ∃ k, cT a b e l x = l ++ k
  | 0 => ⟨[], by simp [cT]⟩
  | x + 1 => by
    obtain ⟨k1, h1⟩ := iT a b e l x
    obtain ⟨k2, h2⟩ := q9 a b e (cT a b e l x) x
    exact ⟨k1 ++ k2, by rw [dR, h2, h1, List.append_assoc]⟩
theorem mT (a b : Mly) (e : S3) {l : List S3} (x : Nat) {i : Nat} (h : i < l.length) : (cT a b e l x).getD i eS0 = l.getD i eS0 := by
  obtain ⟨k, hk⟩ := iT a b e l x
  rw [hk]; simp [List.getD, List.getElem?_append_left h]
theorem lT (a b : Mly) (e : S3) (l : List S3) (x : Nat) : l.length ≤ (cT a b e l x).length := by
  obtain ⟨k, hk⟩ := iT a b e l x
  rw [hk]; simp

structure WFS (a b : Mly) (l : List S3) : Prop where
  rng : ∀ e, e ∈ l → (0 ≤ e.1 ∧ e.1 < a.nx.length) ∧ 0 ≤ e.2.1 ∧ e.2.1 < b.nx.length
  len : ∀ e, e ∈ l → e.2.2.length ≤ l.length
  nd : (l.map fun e => e.1 * (b.nx.length : Int) + e.2.1).Nodup
theorem WFS.at_ {a b : Mly} {l : List S3} (h : WFS a b l) {i : Nat} (hi : i < l.length) : (0 ≤ (l.getD i eS0).1 ∧ (l.getD i eS0).1 < a.nx.length) ∧ 0 ≤ (l.getD i eS0).2.1 ∧ (l.getD i eS0).2.1 < b.nx.length := by
  refine h.rng _ ?_
  simp [List.getD, hi]
theorem WFS.wl {a b : Mly} {l : List S3} (h : WFS a b l) {i : Nat} (hi : i < l.length) : (l.getD i eS0).2.2.length ≤ l.length := by
  refine h.len _ ?_
  simp [List.getD, hi]
theorem qc {p q n m : Int} (hp : 0 ≤ p ∧ p < n) (hq : 0 ≤ q ∧ q < m) : 0 ≤ p * m + q ∧ p * m + q < n * m := by
  have h1 : 0 ≤ p * m := Int.mul_nonneg hp.1 (by omega)
  have h2 : (p + 1) * m ≤ n * m := Int.mul_le_mul_of_nonneg_right (by omega) (by omega)
  rw [Int.add_mul, Int.one_mul] at h2
  omega
theorem o6 {p q p' q' m : Int} (hq : 0 ≤ q ∧ q < m) (hq' : 0 ≤ q' ∧ q' < m) (e : p * m + q = p' * m + q') : p = p' ∧ q = q' := by
  have h1 : (p * m + q) / m = p := by rw [Int.add_comm, Int.add_mul_ediv_right _ _ (by omega), Int.ediv_eq_zero_of_lt hq.1 hq.2]; omega
  have h2 : (p' * m + q') / m = p' := by rw [Int.add_comm, Int.add_mul_ediv_right _ _ (by omega), Int.ediv_eq_zero_of_lt hq'.1 hq'.2]; omega
  have : p = p' := by rw [← h1, ← h2, e]
  subst this
  exact ⟨rfl, by omega⟩
theorem WFS.le {a b : Mly} {l : List S3} (h : WFS a b l) : l.length ≤ a.nx.length * b.nx.length := by
  have := gJ (a.nx.length * b.nx.length) _ h.nd (fun x hx => by
    obtain ⟨e, he, rfl⟩ := List.mem_map.1 hx
    have hr := h.rng e he
    have := qc hr.1 hr.2
    rw [Int.natCast_mul]; exact this)
  simpa using this
theorem WFS.big {a b : Mly} (ha : MOK a) (hb : MOK b) {l : List S3} (h : WFS a b l) : l.length ≤ 16384 := by
  have h1 := h.le
  have h2 : a.nx.length * b.nx.length ≤ 128 * 128 := Nat.mul_le_mul ha.n2 hb.n2
  omega
theorem WFS.step {a b : Mly} (ha : MOK a) (hb : MOK b) (hi : a.inp = b.inp) {l : List S3} (h : WFS a b l) {e : S3} (he : (0 ≤ e.1 ∧ e.1 < a.nx.length) ∧ 0 ≤ e.2.1 ∧ e.2.1 < b.nx.length) (hw : e.2.2.length ≤ l.length) {x : Nat} (hx : (x : Int) < a.inp) : WFS a b (stS a b e l x) := by
  unfold stS
  split
  · exact h
  · rename_i hn
    have n1 := ha.nr e.1.toNat x (by omega) hx
    have n2 := hb.nr e.2.1.toNat x (by omega) (by omega)
    have n1' : 0 ≤ a.nxt e.1 x ∧ a.nxt e.1 x < a.nx.length := by simpa [Mly.nxt] using n1
    have n2' : 0 ≤ b.nxt e.2.1 x ∧ b.nxt e.2.1 x < b.nx.length := by simpa [Mly.nxt] using n2
    refine ⟨fun f hf => ?_, fun f hf => ?_, ?_⟩
    · rcases List.mem_append.1 hf with hf | hf
      · exact h.rng f hf
      · simp at hf; subst hf; exact ⟨n1', n2'⟩
    · simp only [List.length_append, List.length_cons, List.length_nil]
      rcases List.mem_append.1 hf with hf | hf
      · have := h.len f hf; omega
      · simp at hf; subst hf; simp; omega
    · rw [List.map_append, List.nodup_append]
      refine ⟨h.nd, by simp, fun u hu v hv => ?_⟩
      simp at hv; subst hv
      intro e'
      obtain ⟨f, hf, rfl⟩ := List.mem_map.1 hu
      have hr := h.rng f hf
      obtain ⟨e1, e2⟩ := o6 hr.2 n2' e'
      exact hn (gy.2 ⟨f, hf, e1, e2⟩)
theorem WFS.row {a b : Mly} (ha : MOK a) (hb : MOK b) (hi : a.inp = b.inp) {l : List S3} (h : WFS a b l) {i : Nat} (hil : i < l.length) : ∀ x : Nat, (x : Int) ≤ a.inp → WFS a b (cT a b (l.getD i eS0) l x)
  | 0, _ => by simpa [cT] using h
  | x + 1, hx => by
    rw [dR]
    have h1 := WFS.row ha hb hi h hil x (by omega)
    have h2 := lT a b (l.getD i eS0) l x
    have h3 := h.wl hil
    exact h1.step ha hb hi (h.at_ hil) (by omega) (by omega)
theorem jZ {a b : Mly} {s t : Int} (hs : 0 ≤ s ∧ s < a.nx.length) (ht : 0 ≤ t ∧ t < b.nx.length) : WFS a b [(s, t, [])] :=
  ⟨fun e he => by simp at he; subst he; exact ⟨hs, ht⟩, fun e he => by simp at he; subst he; simp, by simp⟩
theorem n7 {p : Nat → Bool} {n : Nat} (h : ∀ x, x < n → p x = false) : (List.range n).find? p = none := by
  rw [List.find?_eq_none]
  intro x hx
  have := h x (by simpa using hx)
  simp [this]
theorem mo {p : Nat → Bool} {n x : Nat} (hx : x < n) (hp : p x = true) (h : ∀ y, y < x → p y = false) : (List.range n).find? p = some x := by
  rw [List.find?_eq_some_iff_getElem]
  refine ⟨hp, x, by simpa using hx, by simp, fun j hj => ?_⟩
  simp [h j hj]
theorem qF (a b : Mly) (f i : Nat) (l : List S3) (h : l.length ≤ i) : srS a b f i l = none := by
  cases f with
  | zero => rfl
  | succ f => simp only [srS]; rw [if_neg (by omega)]
theorem u0 {a b : Mly} {f i : Nat} {l : List S3} (h : i < l.length) (hd : ∀ x, x < a.inp.toNat → fd a b (l.getD i eS0) x = false) : srS a b (f + 1) i l = srS a b f (i + 1) (cT a b (l.getD i eS0) l a.inp.toNat) := by
  simp only [srS]; rw [if_pos h, n7 hd]
theorem np {a b : Mly} {f i x : Nat} {l : List S3} (h : i < l.length) (hx : x < a.inp.toNat) (hp : fd a b (l.getD i eS0) x = true) (hd : ∀ y, y < x → fd a b (l.getD i eS0) y = false) : srS a b (f + 1) i l = some ((l.getD i eS0).2.2 ++ [(x : Int)]) := by
  simp only [srS]; rw [if_pos h, mo hx hp hd]

/-! ### what it means -/
def EQ2 (a b : Mly) (s t : Int) : Prop := ∀ w : List Int, (∀ i : Nat, i < w.length → 0 ≤ w.getD i 0 ∧ w.getD i 0 < a.inp) → (a.go s w).2 = (b.go t w).2
structure TRS (a b : Mly) (s t : Int) (e : S3) : Prop where
  sy : ∀ i : Nat, i < e.2.2.length → 0 ≤ e.2.2.getD i 0 ∧ e.2.2.getD i 0 < a.inp
  l : (a.go s e.2.2).1 = e.1
  r : (b.go t e.2.2).1 = e.2.1
  o : (a.go s e.2.2).2 = (b.go t e.2.2).2
theorem oB {w : List Int} {x n : Int} (h : ∀ i : Nat, i < w.length → 0 ≤ w.getD i 0 ∧ w.getD i 0 < n) (hx : 0 ≤ x ∧ x < n) : ∀ i : Nat, i < (w ++ [x]).length → 0 ≤ (w ++ [x]).getD i 0 ∧ (w ++ [x]).getD i 0 < n := by
  intro i hi
  by_cases e : i < w.length
  · have := h i e
    simpa [List.getD, List.getElem?_append_left e] using this
  · have : i = w.length := by simp at hi; omega
    subst this
    simpa [List.getD] using hx
theorem TRS.next {a b : Mly} {s t : Int} {e : S3} (h : TRS a b s t e) {x : Nat} (hx : (x : Int) < a.inp) (hd : fd a b e x = false) : TRS a b s t (a.nxt e.1 x, b.nxt e.2.1 x, e.2.2 ++ [(x : Int)]) := by
  have ho : a.out e.1 x = b.out e.2.1 x := by simpa [fd] using hd
  refine ⟨oB h.sy ⟨by omega, hx⟩, ?_, ?_, ?_⟩
  · show (a.go s (e.2.2 ++ [(x : Int)])).1 = _
    rw [eB, h.l]
  · show (b.go t (e.2.2 ++ [(x : Int)])).1 = _
    rw [eB, h.r]
  · show (a.go s (e.2.2 ++ [(x : Int)])).2 = (b.go t (e.2.2 ++ [(x : Int)])).2
    rw [eB, eB, h.l, h.r, h.o, ho]
theorem kL {a b : Mly} {s t : Int} {e : S3} {l : List S3} (hl : ∀ f, f ∈ l → TRS a b s t f) (he : TRS a b s t e) : ∀ x : Nat, (x : Int) ≤ a.inp → (∀ y, y < x → fd a b e y = false) → ∀ f, f ∈ cT a b e l x → TRS a b s t f
  | 0, _, _, f, hf => hl f (by simpa [cT] using hf)
  | x + 1, hx, hd, f, hf => by
    rw [dR] at hf
    unfold stS at hf
    split at hf
    · exact kL hl he x (by omega) (fun y hy => hd y (by omega)) f hf
    · rcases List.mem_append.1 hf with hf | hf
      · exact kL hl he x (by omega) (fun y hy => hd y (by omega)) f hf
      · simp at hf; subst hf
        exact he.next (by omega) (hd x (by omega))
/-- A word that is found separates. -/
theorem jd {a b : Mly} {s t : Int} : ∀ (f i : Nat) (l : List S3), (∀ e, e ∈ l → TRS a b s t e) → ∀ w, srS a b f i l = some w → (∀ i : Nat, i < w.length → 0 ≤ w.getD i 0 ∧ w.getD i 0 < a.inp) ∧ (a.go s w).2 ≠ (b.go t w).2 ∧ w ≠ []
  | 0, _, _, _, w, h => by cases h
  | f + 1, i, l, hl, w, h => by
    simp only [srS] at h
    split at h
    · rename_i hi
      have he : TRS a b s t (l.getD i eS0) := hl _ (by simp [List.getD, hi])
      split at h
      · rename_i x hx
        simp only [Option.some.injEq] at h; subst h
        have h1 := List.find?_some hx
        have h2 : x < a.inp.toNat := by simpa using List.mem_of_find?_eq_some hx
        refine ⟨oB he.sy ⟨by omega, by omega⟩, ?_, by simp⟩
        rw [eB, eB, he.l, he.r, he.o]
        intro hh
        have := (List.append_cancel_left hh)
        simp at this
        simp [fd, this] at h1
      · rename_i hx
        have hd : ∀ y, y < a.inp.toNat → fd a b (l.getD i eS0) y = false := fun y hy => by
          have := List.find?_eq_none.1 hx y (by simpa using hy)
          simpa using this
        by_cases hin : 0 ≤ a.inp
        · exact jd f (i + 1) _ (kL hl he a.inp.toNat (by omega) hd) w h
        · have : cT a b (l.getD i eS0) l a.inp.toNat = l := by rw [show a.inp.toNat = 0 by omega]; rfl
          rw [this] at h
          exact jd f (i + 1) l hl w h
    · cases h
theorem um (a b : Mly) (s t : Int) : ∀ e, e ∈ [((s, t, []) : S3)] → TRS a b s t e := fun e he => by
  simp at he; subst he
  exact ⟨fun i hi => by simp at hi, rfl, rfl, rfl⟩
theorem ji {a b : Mly} {s t : Int} {w : List Int} (h : seS a b s t = some w) : (∀ i : Nat, i < w.length → 0 ≤ w.getD i 0 ∧ w.getD i 0 < a.inp) ∧ (a.go s w).2 ≠ (b.go t w).2 ∧ w ≠ [] := jd _ _ _ (um a b s t) w h
/-- The pairs from which nothing was found are closed. -/
def CLS (a b : Mly) (i : Nat) (l : List S3) : Prop := ∀ j, j < i → j < l.length → ∀ x : Nat, (x : Int) < a.inp → fd a b (l.getD j eS0) x = false ∧ inS l (a.nxt (l.getD j eS0).1 x) (b.nxt (l.getD j eS0).2.1 x) = true
theorem qN {l k : List S3} {p q : Int} (h : inS l p q = true) : inS (l ++ k) p q = true := by
  obtain ⟨e, he, h1, h2⟩ := gy.1 h
  exact gy.2 ⟨e, by simp [he], h1, h2⟩
theorem ro {a b : Mly} {e : S3} {l : List S3} : ∀ (x y : Nat), y < x → inS (cT a b e l x) (a.nxt e.1 y) (b.nxt e.2.1 y) = true
  | 0, y, h => by omega
  | x + 1, y, h => by
    rw [dR]
    by_cases hy : y = x
    · subst hy
      unfold stS
      split
      · rename_i hin; exact hin
      · exact gy.2 ⟨_, List.mem_append_right _ (by simp; rfl), rfl, rfl⟩
    · obtain ⟨k, hk⟩ := q9 a b e (cT a b e l x) x
      rw [hk]
      exact qN (ro x y (by omega))
theorem ov {a b : Mly} (ha : MOK a) (hb : MOK b) (hi : a.inp = b.inp) : ∀ (f i : Nat) (l : List S3), WFS a b l → a.nx.length * b.nx.length < f + i → CLS a b i l → srS a b f i l = none → ∃ L, (∃ k, L = l ++ k) ∧ CLS a b L.length L
  | 0, i, l, hl, hf, hc, _ => by
    have := hl.le
    exact ⟨l, ⟨[], by simp⟩, fun j hj hj2 => hc j (by omega) hj2⟩
  | f + 1, i, l, hl, hf, hc, h => by
    simp only [srS] at h
    split at h
    · rename_i hil
      split at h
      · cases h
      · rename_i hx
        have hd : ∀ y, y < a.inp.toNat → fd a b (l.getD i eS0) y = false := fun y hy => by
          have := List.find?_eq_none.1 hx y (by simpa using hy)
          simpa using this
        have hi1 := ha.i1
        obtain ⟨k, hk⟩ := iT a b (l.getD i eS0) l a.inp.toNat
        obtain ⟨L, ⟨k2, hk2⟩, hL⟩ := ov ha hb hi f (i + 1) _ (hl.row ha hb hi hil a.inp.toNat (by omega)) (by omega) (fun j hj hjl x hx => by
          by_cases e : j = i
          · subst e
            rw [mT a b _ _ hil]
            exact ⟨hd x (by omega), ro a.inp.toNat x (by omega)⟩
          · have hjl2 : j < l.length := by omega
            rw [mT a b _ _ hjl2]
            have := hc j (by omega) hjl2 x hx
            refine ⟨this.1, ?_⟩
            rw [hk]; exact qN this.2) h
        exact ⟨L, ⟨k ++ k2, by rw [hk2, hk, List.append_assoc]⟩, hL⟩
    · rename_i hil
      exact ⟨l, ⟨[], by simp⟩, fun j hj hj2 => hc j (by omega) hj2⟩
theorem qx {a b : Mly} {L : List S3} (hL : CLS a b L.length L) : ∀ (w : List Int) (j : Nat), j < L.length → (∀ i : Nat, i < w.length → 0 ≤ w.getD i 0 ∧ w.getD i 0 < a.inp) → (a.go (L.getD j eS0).1 w).2 = (b.go (L.getD j eS0).2.1 w).2
  | [], _, _, _ => rfl
  | x :: w, j, hj, hw => by
    obtain ⟨hx, hw'⟩ := ja hw
    rw [di, di]
    have h1 := hL j hj hj x.toNat (by omega)
    rw [Int.toNat_of_nonneg hx.1] at h1
    have ho : a.out (L.getD j eS0).1 x = b.out (L.getD j eS0).2.1 x := by
      have := h1.1
      simp only [fd, Int.toNat_of_nonneg hx.1] at this
      simpa using this
    obtain ⟨f, hf, e1, e2⟩ := gy.1 h1.2
    obtain ⟨q, hq⟩ := List.getElem?_of_mem hf
    have hql := (List.getElem?_eq_some_iff.1 hq).1
    have hqd : L.getD q eS0 = f := by simp [List.getD, hq]
    have ih := qx hL w q hql hw'
    rw [hqd, e1, e2] at ih
    show _ :: _ = _ :: _
    rw [ho, ih]
theorem uc {a b : Mly} (ha : MOK a) (hb : MOK b) (hi : a.inp = b.inp) {s t : Int} (hs : 0 ≤ s ∧ s < a.nx.length) (ht : 0 ≤ t ∧ t < b.nx.length) (h : seS a b s t = none) : EQ2 a b s t := by
  obtain ⟨L, ⟨k, hk⟩, hL⟩ := ov ha hb hi (fuS a b) 0 _ (jZ hs ht) (by unfold fuS; omega) (fun j hj => by omega) h
  intro w hw
  have := qx hL w 0 (by rw [hk]; simp) hw
  rw [hk] at this
  exact this
theorem uu {a b : Mly} (ha : MOK a) (hb : MOK b) (hi : a.inp = b.inp) {s t : Int} (hs : 0 ≤ s ∧ s < a.nx.length) (ht : 0 ≤ t ∧ t < b.nx.length) : seS a b s t = none ↔ EQ2 a b s t := by
  refine ⟨uc ha hb hi hs ht, fun h => ?_⟩
  cases hw : seS a b s t with
  | none => rfl
  | some w => exact absurd (h w (ji hw).1) (ji hw).2.1

end Go.AV
namespace Go.AV
open Nat renaming reduceEqDiff → J, reduceAdd → E, reduceLeDiff → U, reduceLT → Z, reduceMul → V, reduceSub → Y
open List renaming set_cons_zero → aw, set_cons_succ → au
/-plain-/
/-! ### lists of classes -/
def cN (cl : List Int) : Nat → Int
  | 0 => 0
  | k + 1 => max (cN cl k) (cl.getD k 0 + 1)
def dz (cl : List Int) (k : Nat) : Bool := decide (cl.getD k 0 < 0) || decide (cN cl k < cl.getD k 0)
def df (cl : List Int) : Int := if cl.length < 1 ∨ 64 < cl.length then 2 else if (List.range cl.length).any (dz cl) = true then 1 else 0
def fV (cl : List Int) : Int := if df cl = 0 then cN cl cl.length else 0
theorem iz {cl : List Int} {k : Nat} (h1 : 0 ≤ cl.getD k 0) (h2 : cl.getD k 0 ≤ cN cl k) : dz cl k = false := by
  unfold dz; rw [decide_eq_false (by omega), decide_eq_false (by omega)]; rfl
theorem iU {cl : List Int} {k : Nat} (h : cl.getD k 0 < 0 ∨ cN cl k < cl.getD k 0) : dz cl k = true := by
  unfold dz; simp only [Bool.or_eq_true, decide_eq_true_eq]; exact h
theorem eX {cl : List Int} (h : cl.length < 1 ∨ 64 < cl.length) : df cl = 2 := by unfold df; rw [if_pos h]
theorem fD {cl : List Int} (h : ¬ (cl.length < 1 ∨ 64 < cl.length)) {k : Nat} (hk : k < cl.length) (hb : dz cl k = true) : df cl = 1 := by
  unfold df; rw [if_neg h, if_pos (List.any_eq_true.2 ⟨k, by simpa using hk, hb⟩)]
theorem gn {cl : List Int} (h : ¬ (cl.length < 1 ∨ 64 < cl.length)) (hb : ∀ k, k < cl.length → dz cl k = false) : df cl = 0 := by
  unfold df; rw [if_neg h, if_neg]
  intro hh
  obtain ⟨k, hk, hc⟩ := List.any_eq_true.1 hh
  rw [hb k (by simpa using hk)] at hc
  cases hc
theorem pj {cl : List Int} {k : Nat} (hb : ∀ q, q < k → dz cl q = false) : 0 ≤ cN cl k ∧ cN cl k ≤ k := by
  induction k with
  | zero => exact ⟨Int.le_refl _, Int.le_refl _⟩
  | succ k ih =>
    have h1 := ih fun q hq => hb q (by omega)
    have := hb k (by omega)
    simp only [dz, Bool.or_eq_false_iff, decide_eq_false_iff_not] at this
    simp only [cN]; omega
theorem rR {cl : List Int} (h : df cl = 0) : (1 ≤ cl.length ∧ cl.length ≤ 64) ∧ ∀ k, k < cl.length → dz cl k = false := by
  unfold df at h
  split at h
  · omega
  · rename_i h1
    split at h
    · omega
    · rename_i h2
      refine ⟨by omega, fun k hk => ?_⟩
      cases hc : dz cl k with
      | false => rfl
      | true => exact absurd (List.any_eq_true.2 ⟨k, by simpa using hk, hc⟩) h2
def bE (m : Mly) (cl : List Int) : Int := if bj m ≠ 0 then bj m else if df cl ≠ 0 then df cl else if (cl.length : Int) = m.inp then 0 else 15
structure COK (m : Mly) (cl : List Int) : Prop where
  ok : MOK m
  ce : df cl = 0
  len : (cl.length : Int) = m.inp
theorem fx {m : Mly} {cl : List Int} (h : bE m cl = 0) : COK m cl := by
  unfold bE at h
  split at h
  · contradiction
  · rename_i h1
    split at h
    · contradiction
    · rename_i h2
      split at h
      · rename_i h3; exact ⟨fX (Decidable.not_not.1 h1), Decidable.not_not.1 h2, h3⟩
      · omega

/-! ### states with their access words -/
abbrev S2 := Int × List Int
def eX0 : S2 := (0, [])
def cE (l : List S2) : List Int := l.map (·.1)
def dX (l : List S2) : List (List Int) := l.map (·.2)
def stX (m : Mly) (e : S2) (l : List S2) (x : Nat) : List S2 := if (m.row e.1).getD x 0 ∈ cE l then l else l ++ [((m.row e.1).getD x 0, e.2 ++ [(x : Int)])]
def dt (m : Mly) (e : S2) (l : List S2) (x : Nat) : List S2 := (List.range x).foldl (stX m e) l
def exF (m : Mly) : Nat → Nat → List S2 → List S2
  | 0, _, l => l
  | f + 1, i, l => if i < l.length then exF m f (i + 1) (dt m (l.getD i eX0) l m.inp.toNat) else l
def Mly.exR (m : Mly) : List S2 := exF m (m.nx.length + 1) 0 [(m.st, [])]
theorem dU (m : Mly) (e : S2) (l : List S2) (x : Nat) : dt m e l (x + 1) = stX m e (dt m e l x) x := by
  unfold dt; rw [List.range_succ, List.foldl_append]; rfl
theorem uT (m : Mly) (e : S2) (l : List S2) (x : Nat) : ∃ k, stX m e l x = l ++ k := by
  unfold stX
  split
  · exact ⟨[], by simp⟩
  · exact ⟨_, rfl⟩
theorem ke (m : Mly) (e : S2) (l : List S2) : ∀ x, ∃ k, dt m e l x = l ++ k
  | 0 => ⟨[], by simp [dt]⟩
  | x + 1 => by
    obtain ⟨k1, h1⟩ := ke m e l x
    obtain ⟨k2, h2⟩ := uT m e (dt m e l x) x
    exact ⟨k1 ++ k2, by rw [dU, h2, h1, List.append_assoc]⟩
theorem uE (m : Mly) (e : S2) {l : List S2} (x : Nat) {i : Nat} (h : i < l.length) : (dt m e l x).getD i eX0 = l.getD i eX0 := by
  obtain ⟨k, hk⟩ := ke m e l x
  rw [hk]; simp [List.getD, List.getElem?_append_left h]
theorem m7 (m : Mly) (e : S2) (l : List S2) (x : Nat) : l.length ≤ (dt m e l x).length := by
  obtain ⟨k, hk⟩ := ke m e l x
  rw [hk]; simp
theorem uy (m : Mly) (f i : Nat) (l : List S2) (h : l.length ≤ i) : exF m f i l = l := by
  cases f with
  | zero => rfl
  | succ f => simp only [exF]; rw [if_neg (by omega)]
theorem tG (m : Mly) (f i : Nat) (l : List S2) (h : i < l.length) : exF m (f + 1) i l = exF m f (i + 1) (dt m (l.getD i eX0) l m.inp.toNat) := by
  simp only [exF]; rw [if_pos h]
structure WFX (m : Mly) (l : List S2) : Prop where
  rs : RSet m.nx.length (cE l)
  wl : ∀ e, e ∈ l → e.2.length ≤ l.length
theorem cS (l : List S2) : (cE l).length = l.length := by simp [cE]
theorem dJ (l : List S2) : (dX l).length = l.length := by simp [dX]
theorem fI {l : List S2} {i : Nat} (h : i < l.length) : (cE l).getD i 0 = (l.getD i eX0).1 := by simp [cE, List.getD, h]
theorem pW {l : List S2} {i : Nat} (h : i < l.length) : (dX l).getD i [] = (l.getD i eX0).2 := by simp [dX, List.getD, h]
theorem WFX.le {m : Mly} {l : List S2} (h : WFX m l) : l.length ≤ m.nx.length := by have := h.rs.len; rwa [cS] at this
theorem WFX.at_ {m : Mly} {l : List S2} (h : WFX m l) {i : Nat} (hi : i < l.length) : 0 ≤ (l.getD i eX0).1 ∧ (l.getD i eX0).1 < m.nx.length := by
  rw [← fI hi]; exact h.rs.at_ (by rw [cS]; exact hi)
theorem kz {l : List S2} {i : Nat} (h : i < l.length) : l.getD i eX0 ∈ l := by simp [List.getD, h]
theorem WFX.step {m : Mly} (hm : MOK m) {l : List S2} (h : WFX m l) {e : S2} (he : 0 ≤ e.1 ∧ e.1 < m.nx.length) (hw : e.2.length ≤ l.length) {x : Nat} (hx : (x : Int) < m.inp) : WFX m (stX m e l x) := by
  unfold stX
  split
  · exact h
  · rename_i hn
    have n1 := hm.nr e.1.toNat x (by omega) hx
    refine ⟨?_, fun f hf => ?_⟩
    · have e1 : cE (l ++ [((m.row e.1).getD x 0, e.2 ++ [(x : Int)])]) = cw (cE l) ((m.row e.1).getD x 0) := by rw [ef hn]; simp [cE]
      rw [e1]
      exact h.rs.add n1.1 n1.2
    · simp only [List.length_append, List.length_cons, List.length_nil]
      rcases List.mem_append.1 hf with hf | hf
      · have := h.wl f hf; omega
      · simp at hf; subst hf; simp; omega
theorem WFX.row {m : Mly} (hm : MOK m) {l : List S2} (h : WFX m l) {i : Nat} (hil : i < l.length) : ∀ x : Nat, (x : Int) ≤ m.inp → WFX m (dt m (l.getD i eX0) l x)
  | 0, _ => by simpa [dt] using h
  | x + 1, hx => by
    rw [dU]
    have h1 := WFX.row hm h hil x (by omega)
    have h2 := m7 m (l.getD i eX0) l x
    have h3 := h.wl _ (kz hil)
    exact h1.step hm (h.at_ hil) (by omega) (by omega)
theorem lY {m : Mly} (hm : MOK m) : WFX m [(m.st, [])] := ⟨fF hm, fun e he => by simp at he; subst he; simp⟩
theorem rd {m : Mly} (hm : MOK m) : ∀ (f i : Nat) (l : List S2), WFX m l → WFX m (exF m f i l)
  | 0, _, _, h => h
  | f + 1, i, l, h => by
    simp only [exF]
    split
    · rename_i hi
      have hi1 := hm.i1
      exact rd hm f (i + 1) _ (h.row hm hi m.inp.toNat (by omega))
    · exact h
theorem iy {m : Mly} (hm : MOK m) : WFX m m.exR := rd hm _ _ _ (lY hm)
theorem pG (m : Mly) (e : S2) (l : List S2) : ∀ x, x ≤ (m.row e.1).length → cE (dt m e l x) = ((m.row e.1).take x).foldl cw (cE l)
  | 0, _ => by simp [dt]
  | x + 1, hx => by
    rw [dU, gV (by omega), List.foldl_append, ← pG m e l x (by omega)]
    simp only [List.foldl_cons, List.foldl_nil]
    unfold stX
    by_cases hh : (m.row e.1).getD x 0 ∈ cE (dt m e l x)
    · rw [if_pos hh, fc hh]
    · rw [if_neg hh, ef hh]; simp [cE]
theorem rq {m : Mly} (hm : MOK m) : ∀ (f i : Nat) (l : List S2), WFX m l → cE (exF m f i l) = m.rf f i (cE l)
  | 0, _, _, _ => rfl
  | f + 1, i, l, h => by
    simp only [exF, Mly.rf, cS]
    split
    · rename_i hi
      have hi1 := hm.i1
      have hr := h.at_ hi
      have hl : ((m.row (l.getD i eX0).1).length : Int) = m.inp := hm.rl (l.getD i eX0).1.toNat (by omega)
      rw [rq hm f (i + 1) _ (h.row hm hi m.inp.toNat (by omega)), pG m _ _ _ (by omega), fI hi, List.take_of_length_le (by omega)]
    · rfl
theorem uZ {m : Mly} (hm : MOK m) : cE m.exR = m.reach := by
  rw [dq (cI hm)]; exact rq hm _ _ _ (lY hm)

/-! ### inputs that agree -/
def i3 (m : Mly) (s : Int) (c d : Nat) : Bool := decide (m.out s c = m.out s d) && decide (m.eqc.getD (m.nxt s c).toNat 0 = m.eqc.getD (m.nxt s d).toNat 0)
/-- The first place, in the order of the text. -/
def fL (m : Mly) (cl : List Int) (s : Int) (c d : Nat) : Bool := decide (cl.getD c 0 = cl.getD d 0) && !i3 m s c d
def ip (m : Mly) (cl : List Int) (s : Int) (c : Nat) : Option Nat := (List.range cl.length).find? fun d => decide (c < d) && fL m cl s c d
def kU (m : Mly) (cl : List Int) (s : Int) : Option (Nat × Nat) := (List.range cl.length).findSome? fun c => (ip m cl s c).map fun d => (c, d)
def cZ (m : Mly) (cl : List Int) : Option (Nat × Nat × Nat) := (List.range m.exR.length).findSome? fun i => (kU m cl (m.exR.getD i eX0).1).map fun p => (i, p.1, p.2)
theorem oW {α : Type} {f : Nat → Option α} {n k : Nat} {y : α} (hk : k < n) (h : ∀ q, q < k → f q = none) (e : f k = some y) : (List.range n).findSome? f = some y := by
  have : ∀ (l : List Nat) (r : List Nat), (∀ q, q ∈ l → f q = none) → (l ++ k :: r).findSome? f = some y := by
    intro l
    induction l with
    | nil => intro r _; simp [e]
    | cons a l ih => intro r hl; simp only [List.cons_append, List.findSome?_cons, hl a (by simp)]; exact ih r fun q hq => hl q (by simp [hq])
  have hr : List.range n = List.range k ++ k :: (List.range' (k + 1) (n - (k + 1))) := by
    rw [List.range_eq_range', List.range_eq_range', show n = k + (1 + (n - (k + 1))) by omega, ← List.range'_append_1, Nat.zero_add]
    congr 1
    rw [Nat.add_comm 1, List.range'_succ]
    congr 2; omega
  rw [hr]
  exact this _ _ fun q hq => h q (by simpa using hq)
theorem sd {α : Type} {f : Nat → Option α} {n : Nat} (h : ∀ q, q < n → f q = none) : (List.range n).findSome? f = none := by
  rw [List.findSome?_eq_none_iff]
  intro q hq
  exact h q (by simpa using hq)
theorem m4 {m : Mly} {cl : List Int} {s : Int} {c d : Nat} (hc : c < d) (hd : d < cl.length) (hp : fL m cl s c d = true) (h : ∀ q, c < q → q < d → fL m cl s c q = false) : ip m cl s c = some d := by
  unfold ip
  refine mo hd (by simp [hc, hp]) fun y hy => ?_
  by_cases e : c < y
  · simp [h y e hy]
  · simp [e]
theorem sa {m : Mly} {cl : List Int} {s : Int} {c : Nat} (h : ∀ q, c < q → q < cl.length → fL m cl s c q = false) : ip m cl s c = none := by
  unfold ip
  refine n7 fun y hy => ?_
  by_cases e : c < y
  · simp [h y e hy]
  · simp [e]
theorem pZ {m : Mly} {e : S2} {l : List S2} {x : Nat} (h : (m.row e.1).getD x 0 ∉ cE l) : cE (stX m e l x) = cE l ++ [(m.row e.1).getD x 0] ∧ dX (stX m e l x) = dX l ++ [e.2 ++ [(x : Int)]] := by
  unfold stX; rw [if_neg h]; simp [cE, dX]
theorem sN {m : Mly} {e : S2} {l : List S2} {x : Nat} (h : (m.row e.1).getD x 0 ∈ cE l) : stX m e l x = l := by unfold stX; rw [if_pos h]
def f3 (r : Option (Nat × Nat × Nat)) : Int × Int × Int := match r with | some p => (p.1, p.2.1, p.2.2) | none => (0, 0, 0)

/-! ### numbers of classes -/
def eh (p : Int → Bool) (xs : List Int) : Int := match xs.findIdx? p with | some i => (i : Int) | none => -1
theorem qb {p : Int → Bool} {xs : List Int} {k : Nat} (hk : k < xs.length) (h : ∀ q, q < k → p (xs.getD q 0) = false) (hp : p (xs.getD k 0) = true) : eh p xs = k := by
  unfold eh
  have : xs.findIdx? p = some k := by
    rw [List.findIdx?_eq_some_iff_getElem]
    refine ⟨hk, ?_, fun j hj => ?_⟩
    · simpa [List.getD, List.getElem?_eq_getElem hk] using hp
    · have := h j hj
      simpa [List.getD, List.getElem?_eq_getElem (Nat.lt_trans hj hk)] using this
  rw [this]
theorem jp {p : Int → Bool} {xs : List Int} (h : ∀ q, q < xs.length → p (xs.getD q 0) = false) : eh p xs = -1 := by
  unfold eh
  have : xs.findIdx? p = none := by
    rw [List.findIdx?_eq_none_iff]
    intro a ha
    obtain ⟨i, hi⟩ := List.getElem?_of_mem ha
    have := h i (List.getElem?_eq_some_iff.1 hi).1
    simpa [List.getD, hi] using this
  rw [this]
theorem uV (p : Int → Bool) (xs : List Int) : -1 ≤ eh p xs ∧ eh p xs < xs.length := by
  unfold eh
  cases h : xs.findIdx? p with
  | none => simp; omega
  | some i =>
    have := (List.findIdx?_eq_some_iff_getElem.1 h).1
    simp; omega
/-- The numbers so far, and the first element of each class. -/
def nmS (T : Nat → Nat → Bool) : Nat → List Int × List Int
  | 0 => ([], [])
  | c + 1 => if eh (fun d => T d.toNat c) (nmS T c).2 < 0 then ((nmS T c).1 ++ [((nmS T c).2.length : Int)], (nmS T c).2 ++ [(c : Int)])
    else ((nmS T c).1 ++ [eh (fun d => T d.toNat c) (nmS T c).2], (nmS T c).2)
theorem mg {T : Nat → Nat → Bool} {c : Nat} (h : eh (fun d => T d.toNat c) (nmS T c).2 < 0) : nmS T (c + 1) = ((nmS T c).1 ++ [((nmS T c).2.length : Int)], (nmS T c).2 ++ [(c : Int)]) := by
  show (if _ then _ else _) = _
  rw [if_pos h]
theorem mD {T : Nat → Nat → Bool} {c : Nat} (h : ¬ eh (fun d => T d.toNat c) (nmS T c).2 < 0) : nmS T (c + 1) = ((nmS T c).1 ++ [eh (fun d => T d.toNat c) (nmS T c).2], (nmS T c).2) := by
  show (if _ then _ else _) = _
  rw [if_neg h]
theorem pX (T : Nat → Nat → Bool) : ∀ c, (nmS T c).1.length = c ∧ (nmS T c).2.length ≤ c ∧ ∀ x, x ∈ (nmS T c).2 → 0 ≤ x ∧ x < c
  | 0 => ⟨rfl, Nat.le_refl _, fun x h => by cases h⟩
  | c + 1 => by
    obtain ⟨h1, h2, h3⟩ := pX T c
    by_cases h : eh (fun d => T d.toNat c) (nmS T c).2 < 0
    · rw [mg h]
      refine ⟨by rw [List.length_append, h1]; rfl, by rw [List.length_append]; exact Nat.add_le_add_right h2 1, fun x hx => ?_⟩
      rcases List.mem_append.1 hx with hx | hx
      · have := h3 x hx; omega
      · have hxc : x = (c : Int) := by simpa using hx
        omega
    · rw [mD h]
      refine ⟨by rw [List.length_append, h1]; rfl, Nat.le_succ_of_le h2, fun x hx => ?_⟩
      have := h3 x hx; omega
def o5 (m : Mly) (c d : Nat) : Bool := !decide (0 ≤ eh (fun s => !i3 m s c d) (cE m.exR))
def uQ (m : Mly) (cl : List Int) (p : Nat × Nat × Nat) (c d : Nat) : Bool := decide (cl.getD c 0 = cl.getD d 0) && (!decide (cl.getD c 0 = cl.getD p.2.1 0) || i3 m (m.exR.getD p.1 eX0).1 c d)
theorem rW (ds : List ((t : Ty) × t.den)) : (ds.map fun p => Cap.pat p.1 p.2).map bf = ds.map fun p => AV.one (.pat p.1 p.2 0) := by simp [bf]
end Go.AV
namespace Go.AV
open Nat renaming reduceEqDiff → J, reduceAdd → E, reduceLeDiff → U, reduceLT → Z, reduceMul → V, reduceSub → Y
open List renaming set_cons_zero → aw, set_cons_succ → au
/-plain-/
def fR (m : Mly) : List Int := if bj m = 0 then (nmS (o5 m) m.inp.toNat).1 else []
def lM (m : Mly) : Int := if bj m = 0 then ((nmS (o5 m) m.inp.toNat).2.length : Int) else 0
end Go.AV
namespace Go.Proofs.YtceafldjjedhcaaDoor
open Go Go.AV
open Nat renaming reduceEqDiff → J, reduceAdd → E, reduceLeDiff → U, reduceLT → Z, reduceMul → V, reduceSub → Y
open List renaming set_cons_zero → aw, set_cons_succ → au
set_option maxRecDepth 100000 in
theorem vA (m : Mly) (cl : List Int) (hm : MOK m) (hl : cl.length = m.nx.length) (hr : ∀ s, s < m.nx.length → 0 ≤ cl.getD s 0 ∧ cl.getD s 0 < m.nx.length) : cq Tryd.prog 58 [m.av, .one (.list (.int .i64) cl)] (.tup [.one (.list (.int .i64) (m.nextL cl)), .one (.int .i64 (m.nextN cl))]) := by
 have hn2 := hm.n2; have hi2 := hm.i2; have hi1 := hm.i1; have hol := hm.ol
 refine bt Tryd.func58 rfl (by kernel_rfl) (Nat.le_of_ble_eq_true rfl) rfl fun C hP hN hB => ?_
 replace hN : C.N = 73 := hN
 simp only [ae, E]
 refine ah fun K1 hK1 => ?_
 refine ao hP hN rfl ?_
 iterate 3 (refine ag rfl fun K0 aa => ?_; simp only [zE, op1, ev, lkp, am, ak, dn, ax, reduceCtorEq, J, E, U, Z, V, Y, Tryd.el25, Tryd.st24, Tryd.td24, Tryd.td25, Tryd.td3, Mly.av, cf, cp, bZ, cr, cg, List.length_set]; (repeat refine And.intro (by first | omega | assumption | exact rfl) ?_); refine aa _ ?_; clear aa K0; simp only [put, app, af, aj, zE, zS, E])
 refine aq ?_
 refine hK1 _ ?_; clear hK1; refine ai [0, 1, 2, 4, 5] ?_; simp only [ad, lkp, zE, reduceCtorEq, J, ae, E]
 refine ah fun K2 hK2 => ?_
 refine ao hP hN rfl ?_
 iterate 2 (refine ag rfl fun K0 aa => ?_; simp only [zE, op1, ev, lkp, am, ak, gO, reduceCtorEq, J, E, U, Z, V, Y, Tryd.mk120, Mly.av, cf, cp, bZ, cr, cg, List.length_set]; (repeat refine And.intro (by first | omega | assumption | exact rfl) ?_); (first | refine aa _ ?_ | refine Or.inl (aa _ ?_)); clear aa K0; simp only [put, app, af, aj, zE, zS, E])
 refine aq ?_
 refine hK2 _ ?_; clear hK2; refine ai [0, 1, 2, 4, 5, 6] ?_; simp only [ad, lkp, zE, reduceCtorEq, J, ae, E]
 refine ah fun K3 hK3 => ?_
 refine ao hP hN rfl ?_
 iterate 4 (refine ag rfl fun K0 aa => ?_; simp only [zE, op1, ev, lkp, am, ak, aP, bT, bC, bu, bv, bP, Nat.div_one, aV, bz, Ty.size, aM, dite_true, dr, Ty.dflt, reduceCtorEq, J, E, U, Z, V, Y, Tryd.el25, Tryd.td25, Tryd.td3, Mly.av, cf, cp, bZ, cr, cg, List.length_set]; (repeat refine And.intro (by first | omega | assumption | exact rfl) ?_); (first | refine aa _ ?_ | refine Or.inl (aa _ ?_)); clear aa K0; simp only [put, app, af, aj, zE, zS, E])
 refine aq ?_
 refine hK3 _ ?_; clear hK3; refine ai [0, 1, 2, 4, 5, 6, 7] ?_; simp only [ad, lkp, zE, reduceCtorEq, J, ae, E]
 refine ah fun K4 hK4 => ?_
 refine ah fun K5 hK5 => ?_
 refine ao hP hN rfl ?_
 iterate 3 (refine ag rfl fun K0 aa => ?_; simp only [zE, op1, ev, lkp, am, ak, aP, bT, bC, bu, bv, bP, Nat.div_one, aV, bz, Ty.size, aM, dite_true, reduceCtorEq, J, E, U, Z, V, Y, Tryd.el25, Tryd.td25, Tryd.td3, Mly.av, cf, cp, bZ, cr, cg, List.length_set]; (repeat refine And.intro (by first | omega | assumption | exact rfl) ?_); (first | refine aa _ ?_ | refine Or.inl (aa _ ?_)); clear aa K0; simp only [put, app, af, aj, zE, zS, E])
 refine aq ?_
 refine hK5 _ ?_; clear hK5; refine ai [0, 1, 2, 4, 5, 6, 7, 18, 19] ?_; simp only [ad, lkp, zE, reduceCtorEq, J, ae, E]
 refine b8 ?_
 refine cj (fun n6 s6 => ∃ (k : Nat), (k ≤ m.nx.length) ∧ n6 = m.nx.length - k ∧ s6 = { env := [(1, .one (.list (.int .i64) cl)), (2, .one (.ptr 0 0 0 0)), (6, .one (.mpv 1)), (7, .one (.row 2 0)), (18, .one (.int .i64 (cl.length : Int))), (19, .one (.int .i64 (k : Int)))], L := [.vars 24 [.int .i64 m.inp, .int .i64 m.st, .list (.list (.int .i64)) m.nx, .list (.list (.int .i64)) m.ot], .mp 120 .int (lf (cY (m.sig cl) k)), .row (.int .i64) 3 0 (g0 (fun s => (pos (cY (m.sig cl) m.nx.length) (m.sig cl s) : Int)) 0 m.nx.length k)] }) ?_ ?_
 ·refine ⟨_, _, aY [1, 2, 6, 7, 18, 19], 0, Nat.zero_le _, rfl, ?_⟩
  rw [mb, hl]; rfl
 ·rintro n6 s6 ⟨k, hk, rfl, rfl⟩
  refine ah fun K7 hK7 => ?_
  refine ao hP hN rfl ?_
  (refine ag rfl fun K0 aa => ?_; simp only [zE, op1, ev, lkp, am, ak, aJ, aK, aI, ay, aH, aX, reduceCtorEq, J, E, U, Z, V, Y, Tryd.td3, Mly.av, cf, cp, bZ, cr, cg, List.length_set]; (repeat refine And.intro (by first | omega | assumption | exact rfl) ?_); refine aa _ ?_; clear aa K0; simp only [put, app, af, aj, zE, zS, E])
  refine aq ?_
  refine hK7 _ ?_; clear hK7; refine ai [1, 2, 6, 7, 18, 19, 20] ?_; simp only [ad, lkp, zE, reduceCtorEq, J, ae, E]
  refine ah fun K8 hK8 => ?_
  refine aL (by simp only [ev, ad, lkp, zE, reduceCtorEq, J, ae, E]; exact rfl) (fun hc9 => ?_) (fun hc9 => ?_)
  ·(try simp only [zB, reduceCtorEq] at hc9)
   refine aT ?_
   refine hK8 _ ?_; clear hK8; refine ai [1, 2, 6, 7, 18, 19, 20] ?_; simp only [ad, lkp, zE, reduceCtorEq, J, ae, E]
   refine ah fun K10 hK10 => ?_
   refine b8 ?_
   refine ah fun K11 hK11 => ?_
   refine ao hP hN rfl ?_
   iterate 2 (refine ag rfl fun K0 aa => ?_; simp only [zE, op1, ev, lkp, am, ak, ev, reduceCtorEq, J, E, U, Z, V, Y, Tryd.td3, Mly.av, cf, cp, bZ, cr, cg, List.length_set]; refine aa _ ?_; clear aa K0; simp only [put, app, af, aj, zE, zS, E])
   refine aq ?_
   refine hK11 _ ?_; clear hK11; refine ai [1, 2, 6, 7, 8, 18, 19, 20] ?_; simp only [ad, lkp, zE, reduceCtorEq, J, ae, E]
   refine ah fun K12 hK12 => ?_
   refine ao hP hN rfl ?_
   (refine ag rfl fun K0 aa => ?_; simp only [zE, op1, ev, lkp, am, ak, cC, reduceCtorEq, J, E, U, Z, V, Y, Tryd.ea122, Tryd.sa122, Tryd.td122, Mly.av, cf, cp, bZ, cr, cg, List.length_set]; (repeat refine And.intro (by first | omega | assumption | exact rfl) ?_); (first | refine aa _ ?_ | refine Or.inl (aa _ ?_)); clear aa K0; simp only [put, app, af, aj, zE, zS, E])
   refine aq ?_
   refine hK12 _ ?_; clear hK12; refine ai [1, 2, 6, 7, 8, 9, 18, 19, 20] ?_; simp only [ad, lkp, zE, reduceCtorEq, J, ae, E]
   refine ah fun K13 hK13 => ?_
   refine ah fun K14 hK14 => ?_
   refine ao hP hN rfl ?_
   iterate 3 (refine ag rfl fun K0 aa => ?_; simp only [zE, op1, ev, lkp, am, ak, aA, aE, Nat.mul_one, aC, aD, acs, Ty.dflt, zG, az, reduceCtorEq, J, E, U, Z, V, Y, Tryd.st24, Tryd.td24, Tryd.td3, Mly.av, cf, cp, bZ, cr, cg, List.length_set]; (repeat refine And.intro (by first | omega | assumption | exact rfl) ?_); refine aa _ ?_; clear aa K0; simp only [put, app, af, aj, zE, zS, E])
   refine aq ?_
   refine hK14 _ ?_; clear hK14; refine ai [1, 2, 6, 7, 8, 9, 18, 19, 20, 23, 24] ?_; simp only [ad, lkp, zE, reduceCtorEq, J, ae, E]
   refine b8 ?_
   refine cj (fun n15 s15 => ∃ (a : Nat), ((a : Int) ≤ m.inp) ∧ n15 = m.inp.toNat - a ∧ s15 = { env := [(1, .one (.list (.int .i64) cl)), (2, .one (.ptr 0 0 0 0)), (6, .one (.mpv 1)), (7, .one (.row 2 0)), (8, .one (.int .i64 (k : Int))), (9, .one (.ptr 3 0 0 0)), (18, .one (.int .i64 (cl.length : Int))), (19, .one (.int .i64 (k : Int))), (23, .one (.int .i64 m.inp)), (24, .one (.int .i64 (a : Int)))], L := [.vars 24 [.int .i64 m.inp, .int .i64 m.st, .list (.list (.int .i64)) m.nx, .list (.list (.int .i64)) m.ot], .mp 120 .int (lf (cY (m.sig cl) k)), .row (.int .i64) 3 0 (g0 (fun s => (pos (cY (m.sig cl) m.nx.length) (m.sig cl s) : Int)) 0 m.nx.length k), .vars 122 (dL (m.sigP cl a k))] }) ?_ ?_
   ·refine ⟨_, _, aY [1, 2, 6, 7, 8, 9, 18, 19, 23, 24], 0, by omega, rfl, ?_⟩
    rw [← sG, ← pS]; rfl
   ·rintro n15 s15 ⟨a, ha, rfl, rfl⟩
    refine ah fun K16 hK16 => ?_
    refine ao hP hN rfl ?_
    (refine ag rfl fun K0 aa => ?_; simp only [zE, op1, ev, lkp, am, ak, aJ, aK, aI, ay, aH, aX, reduceCtorEq, J, E, U, Z, V, Y, Tryd.td3, Tryd.td4, Mly.av, cf, cp, bZ, cr, cg, List.length_set]; (repeat refine And.intro (by first | omega | assumption | exact rfl) ?_); refine aa _ ?_; clear aa K0; simp only [put, app, af, aj, zE, zS, E])
    refine aq ?_
    refine hK16 _ ?_; clear hK16; refine ai [1, 2, 6, 7, 8, 9, 18, 19, 23, 24, 25] ?_; simp only [ad, lkp, zE, reduceCtorEq, J, ae, E]
    refine ah fun K17 hK17 => ?_
    refine aL (by simp only [ev, ad, lkp, zE, reduceCtorEq, J, ae, E]; exact rfl) (fun hc18 => ?_) (fun hc18 => ?_)
    ·(try simp only [zB, reduceCtorEq] at hc18)
     refine aT ?_
     refine hK17 _ ?_; clear hK17; refine ai [1, 2, 6, 7, 8, 9, 18, 19, 23, 24, 25] ?_; simp only [ad, lkp, zE, reduceCtorEq, J, ae, E]
     refine ah fun K19 hK19 => ?_
     refine b8 ?_
     refine ah fun K20 hK20 => ?_
     refine ao hP hN rfl ?_
     iterate 2 (refine ag rfl fun K0 aa => ?_; simp only [zE, op1, ev, lkp, am, ak, ev, reduceCtorEq, J, E, U, Z, V, Y, Tryd.td3, Mly.av, cf, cp, bZ, cr, cg, List.length_set]; refine aa _ ?_; clear aa K0; simp only [put, app, af, aj, zE, zS, E])
     refine aq ?_
     refine hK20 _ ?_; clear hK20; refine ai [1, 2, 6, 7, 8, 9, 10, 18, 19, 23, 24, 25] ?_; simp only [ad, lkp, zE, reduceCtorEq, J, ae, E]
     refine ah fun K21 hK21 => ?_
     have hrl := hm.rl k (by omega); have hql := hm.ql k (by omega); have hnr := hm.nr k a (by omega) (by omega); have hw1 : ∀ v, aR (dL (m.sigP cl a k)) a [AC.int .i64 v] = dL ((m.sigP cl a k).set a v) := fun v => j8 (by rw [cp]; omega) v; have h64 : ((64 : Int) + (a : Int)).toNat = 64 + a := by omega
     refine ao hP hN rfl ?_
     iterate 11 (refine ag rfl fun K0 aa => ?_; simp only [zE, op1, ev, lkp, am, ak, aA, aE, Nat.mul_one, aC, aD, acs, Ty.dflt, zG, az, aS, Ty.size, ne_eq, not_false_eq_true, Int.natCast_one, Int.mul_one, bJ, ax, aM, reduceCtorEq, J, E, U, Z, V, Y, Tryd.ea122, Tryd.el22, Tryd.el25, Tryd.sa122, Tryd.st24, Tryd.td122, Tryd.td22, Tryd.td24, Tryd.td25, Tryd.td3, Mly.av, cf, cp, bZ, cr, cg, List.length_set, hw1]; (repeat refine And.intro (by first | omega | assumption | exact rfl) ?_); refine aa _ ?_; clear aa K0; simp only [put, app, af, aj, zE, zS, E])
     refine aq ?_
     refine hK21 _ ?_; clear hK21; refine ai [1, 2, 6, 7, 8, 9, 10, 18, 19, 23, 24, 25] ?_; simp only [ad, lkp, zE, reduceCtorEq, J, ae, E]
     refine ao hP hN rfl ?_
     iterate 15 (refine ag rfl fun K0 aa => ?_; simp only [zE, op1, ev, lkp, am, ak, aJ, aK, aI, ay, aH, aX, aA, aE, Nat.mul_one, aC, aD, acs, Ty.dflt, zG, az, aS, Ty.size, ne_eq, not_false_eq_true, Int.natCast_one, Int.mul_one, bJ, ax, aM, reduceCtorEq, J, E, U, Z, V, Y, Tryd.ea122, Tryd.el22, Tryd.el25, Tryd.sa122, Tryd.st24, Tryd.td122, Tryd.td2, Tryd.td22, Tryd.td24, Tryd.td25, Tryd.td3, Mly.av, cf, cp, bZ, cr, cg, List.length_set, hw1, h64]; (repeat refine And.intro (by first | omega | assumption | exact rfl) ?_); refine aa _ ?_; clear aa K0; simp only [put, app, af, aj, zE, zS, E])
     refine aq ?_
     refine hK19 _ ?_; clear hK19; refine ai [1, 2, 6, 7, 8, 9, 10, 18, 19, 23, 24, 25] ?_; simp only [ad, lkp, zE, reduceCtorEq, J, ae, E]
     refine ao hP hN rfl ?_
     iterate 2 (refine ag rfl fun K0 aa => ?_; simp only [zE, op1, ev, lkp, am, ak, aJ, aK, aI, ay, aH, aX, reduceCtorEq, J, E, U, Z, V, Y, Tryd.td3, Mly.av, cf, cp, bZ, cr, cg, List.length_set]; (repeat refine And.intro (by first | omega | assumption | exact rfl) ?_); refine aa _ ?_; clear aa K0; simp only [put, app, af, aj, zE, zS, E])
     refine aq ?_
     refine ⟨_, _, ?_, aY [1, 2, 6, 7, 8, 9, 18, 19, 23, 24], a + 1, by omega, rfl, ?_⟩
     · omega
     · rw [j8 (by simp [cp]; omega), tI m cl k (by omega)]; rfl
    ·(try simp only [zB, reduceCtorEq] at hc18)
     refine cm ?_
     refine hK13 _ ?_; clear hK13; refine ai [1, 2, 6, 7, 8, 9, 18, 19, 23, 24, 25] ?_; simp only [ad, lkp, zE, reduceCtorEq, J, ae, E]
     refine ah fun K22 hK22 => ?_
     have hkey := tP hm hr (a := a) (s := k) (by omega) (by omega); have hsg : m.sigP cl a k = m.sig cl k := by unfold Mly.sig; rw [show m.inp.toNat = a by omega]
     rw [hsg] at hkey ⊢; have hdl := mf (m.sig cl) k; have hst : (m.sig cl k).take 128 = m.sig cl k := by rw [← hsg]; exact cr _ _ _ _
     have hsl : (m.sig cl k).length = 128 := by rw [← hsg]; exact cp _ _ _ _
     have hsf := oe (fun s => (pos (cY (m.sig cl) m.nx.length) (m.sig cl s) : Int)) 0 (n := m.nx.length) (k := k) (by omega)
     refine ao hP hN rfl ?_
     iterate 8 (refine ag rfl fun K0 aa => ?_; simp only [zE, op1, ev, lkp, am, ak, aE, Nat.mul_one, aC, aD, acs, Ty.dflt, zG, az, gv, du, VK.ac, bS, reduceCtorEq, J, E, U, Z, V, Y, Tryd.ea122, Tryd.mk120, Tryd.sa122, Tryd.td1, Tryd.td122, Tryd.td3, Tryd.td4, Mly.av, cf, cp, bZ, cr, cg, List.length_set, hst, hsl]; (repeat refine And.intro (by first | omega | assumption | exact rfl) ?_); (first | refine aa _ ?_ | refine Or.inl (aa _ ?_)); clear aa K0; simp only [put, app, af, aj, zE, zS, E])
     refine aq ?_
     refine hK22 _ ?_; clear hK22; refine ai [1, 2, 6, 7, 8, 9, 11, 12, 18, 19, 23, 24, 25] ?_; simp only [ad, lkp, zE, reduceCtorEq, J, ae, E]
     refine ah fun K23 hK23 => ?_
     refine ah fun K24 hK24 => ?_
     refine ao hP hN rfl ?_
     iterate 2 (refine ag rfl fun K0 aa => ?_; simp only [zE, op1, ev, lkp, am, ak, fw, reduceCtorEq, J, E, U, Z, V, Y, Tryd.td4, Mly.av, cf, cp, bZ, cr, cg, List.length_set]; (repeat refine And.intro (by first | omega | assumption | exact rfl) ?_); refine aa _ ?_; clear aa K0; simp only [put, app, af, aj, zE, zS, E])
     refine aq ?_
     refine hK24 _ ?_; clear hK24; refine ai [1, 2, 6, 7, 8, 9, 11, 12, 18, 19, 23, 24, 25, 59] ?_; simp only [ad, lkp, zE, reduceCtorEq, J, ae, E]
     refine aL (by simp only [ev, ad, lkp, zE, reduceCtorEq, J, ae, E]; exact rfl) (fun hc25 => ?_) (fun hc25 => ?_)
     ·(try simp only [zB, reduceCtorEq] at hc25)
      refine ah fun K26 hK26 => ?_
      refine ao hP hN rfl ?_
      iterate 3 (refine ag rfl fun K0 aa => ?_; simp only [zE, op1, ev, lkp, am, ak, aP, bT, bC, bu, bv, bP, Nat.div_one, aV, bz, Ty.size, aM, dite_true, reduceCtorEq, J, E, U, Z, V, Y, Tryd.mk120, Tryd.td3, Mly.av, cf, cp, bZ, cr, cg, List.length_set, nR]; (repeat refine And.intro (by first | omega | assumption | exact rfl) ?_); (first | refine aa _ ?_ | refine Or.inl (aa _ ?_)); clear aa K0; simp only [put, app, af, aj, zE, zS, E])
      refine aq ?_
      refine hK26 _ ?_; clear hK26; refine ai [1, 2, 6, 7, 8, 9, 11, 12, 18, 19, 23, 24, 25, 59] ?_; simp only [ad, lkp, zE, reduceCtorEq, J, ae, E]
      refine ao hP hN rfl ?_
      iterate 4 (refine ag rfl fun K0 aa => ?_; simp only [zE, op1, ev, lkp, am, ak, aE, Nat.mul_one, aC, aD, acs, Ty.dflt, zG, az, dD, du, kN, reduceCtorEq, J, E, U, Z, V, Y, Tryd.ea122, Tryd.mk120, Tryd.sa122, Tryd.td122, Tryd.td3, Mly.av, cf, cp, bZ, cr, cg, List.length_set, hst, hsl]; (repeat refine And.intro (by first | omega | assumption | exact rfl) ?_); (first | refine aa _ ?_ | refine Or.inl (aa _ ?_)); clear aa K0; simp only [put, app, af, aj, zE, zS, E])
      refine aq ?_
      refine hK23 _ ?_; clear hK23; refine ai [1, 2, 6, 7, 8, 9, 11, 12, 18, 19, 23, 24, 25, 59] ?_; simp only [ad, lkp, zE, reduceCtorEq, J, ae, E]
      refine ao hP hN rfl ?_
      iterate 5 (refine ag rfl fun K0 aa => ?_; simp only [zE, op1, ev, lkp, am, ak, aS, zG, Ty.dflt, Ty.size, Nat.mul_one, ne_eq, not_false_eq_true, Int.natCast_one, Int.mul_one, bJ, ax, aR, aM, acs, reduceCtorEq, J, E, U, Z, V, Y, Tryd.el25, Tryd.td25, Tryd.td3, Mly.av, cf, cp, bZ, cr, cg, List.length_set, hsf]; (repeat refine And.intro (by first | omega | assumption | exact rfl) ?_); refine aa _ ?_; clear aa K0; simp only [put, app, af, aj, zE, zS, E])
      refine aq ?_
      refine hK10 _ ?_; clear hK10; refine ai [1, 2, 6, 7, 8, 9, 11, 12, 18, 19, 23, 24, 25, 59] ?_; simp only [ad, lkp, zE, reduceCtorEq, J, ae, E]
      refine ai [1, 2, 6, 7, 18, 19] ?_; simp only [ad, lkp, zE, reduceCtorEq, J]
      refine ko 3 rfl ?_; refine d7 (n := 3) (L1 := [_, _, _]) rfl rfl (by rw [hB]; decide) rfl rfl ?_
      refine ao hP hN rfl ?_
      iterate 2 (refine ag rfl fun K0 aa => ?_; simp only [zE, op1, ev, lkp, am, ak, aJ, aK, aI, ay, aH, aX, reduceCtorEq, J, E, U, Z, V, Y, Tryd.td3, Mly.av, cf, cp, bZ, cr, cg, List.length_set]; (repeat refine And.intro (by first | omega | assumption | exact rfl) ?_); refine aa _ ?_; clear aa K0; simp only [put, app, af, aj, zE, zS, E])
      refine aq ?_
      first
      | (have hin : m.sig cl k ∈ cY (m.sig cl) k := by
           false_or_by_contra; rename_i hh; rw [ez, if_neg hh] at *; simp_all
         refine ⟨_, _, ?_, aY [1, 2, 6, 7, 18, 19], k + 1, by omega, rfl, ?_⟩
         · omega
         · rw [dk, fh hin, ← gA _ _ (by omega), kJ (by omega) hin, ez, if_pos hin]; rfl)
      | (have hin : m.sig cl k ∉ cY (m.sig cl) k := by
           intro hh; rw [ez, if_pos hh] at *; simp_all
         refine ⟨_, _, ?_, aY [1, 2, 6, 7, 18, 19], k + 1, by omega, rfl, ?_⟩
         · omega
         · rw [dk, eJ hin, ← gA _ _ (by omega), ku (by omega) hin, oc hin]; rfl)
     ·(try simp only [zB, reduceCtorEq] at hc25)
      refine aT ?_
      refine hK23 _ ?_; clear hK23; refine ai [1, 2, 6, 7, 8, 9, 11, 12, 18, 19, 23, 24, 25, 59] ?_; simp only [ad, lkp, zE, reduceCtorEq, J, ae, E]
      refine ao hP hN rfl ?_
      iterate 5 (refine ag rfl fun K0 aa => ?_; simp only [zE, op1, ev, lkp, am, ak, aS, zG, Ty.dflt, Ty.size, Nat.mul_one, ne_eq, not_false_eq_true, Int.natCast_one, Int.mul_one, bJ, ax, aR, aM, acs, reduceCtorEq, J, E, U, Z, V, Y, Tryd.el25, Tryd.td25, Tryd.td3, Mly.av, cf, cp, bZ, cr, cg, List.length_set, hsf]; (repeat refine And.intro (by first | omega | assumption | exact rfl) ?_); refine aa _ ?_; clear aa K0; simp only [put, app, af, aj, zE, zS, E])
      refine aq ?_
      refine hK10 _ ?_; clear hK10; refine ai [1, 2, 6, 7, 8, 9, 11, 12, 18, 19, 23, 24, 25, 59] ?_; simp only [ad, lkp, zE, reduceCtorEq, J, ae, E]
      refine ai [1, 2, 6, 7, 18, 19] ?_; simp only [ad, lkp, zE, reduceCtorEq, J]
      refine ko 3 rfl ?_; refine d7 (n := 3) (L1 := [_, _, _]) rfl rfl (by rw [hB]; decide) rfl rfl ?_
      refine ao hP hN rfl ?_
      iterate 2 (refine ag rfl fun K0 aa => ?_; simp only [zE, op1, ev, lkp, am, ak, aJ, aK, aI, ay, aH, aX, reduceCtorEq, J, E, U, Z, V, Y, Tryd.td3, Mly.av, cf, cp, bZ, cr, cg, List.length_set]; (repeat refine And.intro (by first | omega | assumption | exact rfl) ?_); refine aa _ ?_; clear aa K0; simp only [put, app, af, aj, zE, zS, E])
      refine aq ?_
      first
      | (have hin : m.sig cl k ∈ cY (m.sig cl) k := by
           false_or_by_contra; rename_i hh; rw [ez, if_neg hh] at *; simp_all
         refine ⟨_, _, ?_, aY [1, 2, 6, 7, 18, 19], k + 1, by omega, rfl, ?_⟩
         · omega
         · rw [dk, fh hin, ← gA _ _ (by omega), kJ (by omega) hin, ez, if_pos hin]; rfl)
      | (have hin : m.sig cl k ∉ cY (m.sig cl) k := by
           intro hh; rw [ez, if_pos hh] at *; simp_all
         refine ⟨_, _, ?_, aY [1, 2, 6, 7, 18, 19], k + 1, by omega, rfl, ?_⟩
         · omega
         · rw [dk, eJ hin, ← gA _ _ (by omega), ku (by omega) hin, oc hin]; rfl)
  ·(try simp only [zB, reduceCtorEq] at hc9)
   refine cm ?_
   refine hK4 _ ?_; clear hK4; refine ai [1, 2, 6, 7, 18, 19, 20] ?_; simp only [ad, lkp, zE, reduceCtorEq, J, ae, E]
   refine ah fun K27 hK27 => ?_
   refine ao hP hN rfl ?_
   iterate 5 (refine ag rfl fun K0 aa => ?_; simp only [zE, op1, ev, lkp, am, ak, aP, bT, bC, bu, bv, bP, Nat.div_one, aV, bz, Ty.size, aM, dite_true, reduceCtorEq, J, E, U, Z, V, Y, Tryd.el25, Tryd.mk120, Tryd.td25, Tryd.td3, Mly.av, cf, cp, bZ, cr, cg, List.length_set]; (repeat refine And.intro (by first | omega | assumption | exact rfl) ?_); (first | refine aa _ ?_ | refine Or.inl (aa _ ?_)); clear aa K0; simp only [put, app, af, aj, zE, zS, E])
   refine aq ?_
   refine hK27 _ ?_; clear hK27; refine ai [1, 2, 4, 5, 6, 7, 18, 19, 20] ?_; simp only [ad, lkp, zE, reduceCtorEq, J, ae, E]
   refine aU ?_
   refine ⟨by first | exact .inl rfl | exact .inr rfl, _, rfl, ?_⟩; simp only [fzV, fz1, fzC, List.map_cons, List.map_nil, ad, lkp, zE, reduceCtorEq, J, ae, E, Mly.av, cf, cp, bZ, cr, cg, List.length_set]
   refine VLE.of_eq ?_
   have hkn : k = m.nx.length := by omega
   subst hkn
   rw [nS, nR]; rfl
end Go.Proofs.YtceafldjjedhcaaDoor
namespace Go.Proofs.YtceafldjjedhcaaDoor
open Go Go.AV
open Nat renaming reduceEqDiff → J, reduceAdd → E, reduceLeDiff → U, reduceLT → Z, reduceMul → V, reduceSub → Y
open List renaming set_cons_zero → aw, set_cons_succ → au
set_option maxRecDepth 100000 in
theorem rU (m : Mly) (k : Int) (hm : MOK m) : cq Tryd.prog 45 [m.av, .one (.int .i64 k)] (.tup [.one (.list (.int .i64) (m.refC k)), .one (.int .i64 (m.refK k))]) := by
 have hn2 := hm.n2; have hn1 := hm.n1; have hNN : ((hZ m k : Nat) : Int) = min (max k 0) (m.nx.length : Int) := by unfold hZ; omega
 refine bt Tryd.func45 rfl (by kernel_rfl) (Nat.le_of_ble_eq_true rfl) rfl fun C hP hN hB => ?_
 replace hN : C.N = 45 := hN
 simp only [ae, E]
 refine ah fun K1 hK1 => ?_
 refine ao hP hN rfl ?_
 iterate 3 (refine ag rfl fun K0 aa => ?_; simp only [zE, op1, ev, lkp, am, ak, dn, ax, reduceCtorEq, J, E, U, Z, V, Y, Tryd.el25, Tryd.st24, Tryd.td24, Tryd.td25, Tryd.td3, Mly.av]; (repeat refine And.intro (by first | omega | assumption | exact rfl) ?_); refine aa _ ?_; clear aa K0; simp only [put, app, af, aj, zE, zS, E])
 refine aq ?_
 refine hK1 _ ?_; clear hK1; refine ai [0, 1, 2, 4, 5] ?_; simp only [ad, lkp, zE, reduceCtorEq, J, ae, E]
 refine ah fun K2 hK2 => ?_
 refine ao hP hN rfl ?_
 iterate 6 (refine ag rfl fun K0 aa => ?_; simp only [zE, op1, ev, lkp, am, ak, aA, aE, Nat.mul_one, aC, aD, acs, Ty.dflt, zG, az, aP, bT, bC, bu, bv, bP, Nat.div_one, aV, bz, Ty.size, aM, dite_true, dr, reduceCtorEq, J, E, U, Z, V, Y, Tryd.el22, Tryd.el25, Tryd.st24, Tryd.td2, Tryd.td22, Tryd.td24, Tryd.td25, Tryd.td3, Mly.av]; (repeat refine And.intro (by first | omega | assumption | exact rfl) ?_); (first | refine aa _ ?_ | refine Or.inl (aa _ ?_)); clear aa K0; simp only [put, app, af, aj, zE, zS, E])
 refine aq ?_
 refine hK2 _ ?_; clear hK2; refine ai [0, 1, 2, 4, 5, 6, 7] ?_; simp only [ad, lkp, zE, reduceCtorEq, J, ae, E]
 refine ah fun K3 hK3 => ?_
 refine ah fun K4 hK4 => ?_
 refine da 1 rfl ?_; simp only [List.map_cons, List.map_nil, zS, J, and_self, and_true, true_and, and_false, false_and, if_true, if_false, eq_self, reduceCtorEq, Nat.one_ne_zero, Nat.zero_ne_one]
 refine ao hP hN rfl ?_
 iterate 7 (refine ag rfl fun K0 aa => ?_; simp only [zE, op1, ev, lkp, am, ak, aP, bT, bC, bu, bv, bP, Nat.div_one, aV, bz, Ty.size, aM, dite_true, aA, aE, Nat.mul_one, aC, aD, acs, Ty.dflt, zG, az, reduceCtorEq, J, E, U, Z, V, Y, Tryd.el22, Tryd.st24, Tryd.td2, Tryd.td22, Tryd.td24, Tryd.td3, Mly.av]; (repeat refine And.intro (by first | omega | assumption | exact rfl) ?_); (first | refine aa _ ?_ | refine Or.inl (aa _ ?_)); clear aa K0; simp only [put, app, af, aj, zE, zS, E])
 refine aq ?_
 refine hK4 _ ?_; clear hK4; refine ai [0, 1, 2, 4, 5, 6, 7, 20, 21] ?_; simp only [ad, lkp, zE, reduceCtorEq, J, ae, E]
 refine b8 ?_
 refine cj (fun n5 s5 => ∃ (j : Nat), (j ≤ hZ m k) ∧ (∀ q, q < j → m.cnt (q + 1) ≠ m.cnt q) ∧ n5 = hZ m k - j ∧ s5 = { env := [(1, .one (.int .i64 k)), (2, .one (.ptr 0 0 0 0)), (6, .one (.list (.int .i64) (m.cls j))), (7, .one (.int .i64 (m.cnt j))), (20, .one (.int .i64 (min (max k 0) (m.nx.length : Int)))), (21, .one (.int .i64 (j : Int)))], L := [.vars 24 [.int .i64 m.inp, .int .i64 m.st, .list (.list (.int .i64)) m.nx, .list (.list (.int .i64)) m.ot], .dead 0] }) ?_ ?_
 ·refine ⟨_, _, aY [1, 2, 6, 7, 20, 21], 0, Nat.zero_le _, fun q hq => by omega, rfl, rfl⟩
 ·rintro n5 s5 ⟨j, hj, hq, rfl, rfl⟩
  refine ah fun K6 hK6 => ?_
  refine ao hP hN rfl ?_
  (refine ag rfl fun K0 aa => ?_; simp only [zE, op1, ev, lkp, am, ak, aJ, aK, aI, ay, aH, aX, reduceCtorEq, J, E, U, Z, V, Y, Tryd.td3, Tryd.td4, Mly.av]; (repeat refine And.intro (by first | omega | assumption | exact rfl) ?_); refine aa _ ?_; clear aa K0; simp only [put, app, af, aj, zE, zS, E])
  refine aq ?_
  refine hK6 _ ?_; clear hK6; refine ai [1, 2, 6, 7, 20, 21, 22] ?_; simp only [ad, lkp, zE, reduceCtorEq, J, ae, E]
  refine ah fun K7 hK7 => ?_
  refine aL (by simp only [ev, ad, lkp, zE, reduceCtorEq, J, ae, E]; exact rfl) (fun hc8 => ?_) (fun hc8 => ?_)
  ·(try simp only [zB, reduceCtorEq] at hc8)
   refine aT ?_
   refine hK7 _ ?_; clear hK7; refine ai [1, 2, 6, 7, 20, 21, 22] ?_; simp only [ad, lkp, zE, reduceCtorEq, J, ae, E]
   refine ah fun K9 hK9 => ?_
   refine b8 ?_
   refine ah fun K10 hK10 => ?_
   refine ao hP hN rfl ?_
   iterate 2 (refine ag rfl fun K0 aa => ?_; simp only [zE, op1, ev, lkp, am, ak, ev, reduceCtorEq, J, E, U, Z, V, Y, Tryd.td3, Mly.av]; refine aa _ ?_; clear aa K0; simp only [put, app, af, aj, zE, zS, E])
   refine aq ?_
   refine hK10 _ ?_; clear hK10; refine ai [1, 2, 6, 7, 8, 20, 21, 22] ?_; simp only [ad, lkp, zE, reduceCtorEq, J, ae, E]
   refine ah fun K11 hK11 => ?_
   refine ao hP hN rfl ?_
   iterate 2 (refine ag rfl fun K0 aa => ?_; simp only [zE, op1, ev, lkp, am, ak, aE, Nat.mul_one, aC, aD, acs, Ty.dflt, zG, az, reduceCtorEq, J, E, U, Z, V, Y, Tryd.el25, Tryd.st24, Tryd.td24, Tryd.td25, Mly.av]; (repeat refine And.intro (by first | omega | assumption | exact rfl) ?_); refine aa _ ?_; clear aa K0; simp only [put, app, af, aj, zE, zS, E])
   refine ag rfl fun K0 aa => ?_
   refine aW (h := aF (vA m (m.cls j) hm (mc m j) (rm hm j))) rfl rfl (by first | exact rfl | (simp only [ev, ad, lkp, zE, reduceCtorEq, J, ae, E]; exact rfl)) (by simp only [zE, zG, op1, ev, lkp, am, ak, ax, acs, bf, mv1, mvC, Ty.dflt, reduceCtorEq, J, E, U, Z, V, Y, Mly.av]) ?_
   refine aa _ ?_; clear aa K0; simp only [put, app, af, aj, zE, zS, E]
   iterate 5 (refine ag rfl fun K0 aa => ?_; simp only [zE, op1, ev, lkp, am, ak, bS, reduceCtorEq, J, E, U, Z, V, Y, Tryd.el25, Tryd.td1, Tryd.td25, Tryd.td3, Mly.av]; refine aa _ ?_; clear aa K0; simp only [put, app, af, aj, zE, zS, E])
   refine aq ?_
   refine hK11 _ ?_; clear hK11; refine ai [1, 2, 6, 7, 8, 9, 10, 20, 21, 22] ?_; simp only [ad, lkp, zE, reduceCtorEq, J, ae, E]
   refine ah fun K12 hK12 => ?_
   refine ah fun K13 hK13 => ?_
   refine ao hP hN rfl ?_
   iterate 3 (refine ag rfl fun K0 aa => ?_; simp only [zE, op1, ev, lkp, am, ak, aJ, aK, aI, ay, aH, aX, reduceCtorEq, J, E, U, Z, V, Y, Tryd.td3, Tryd.td4, Mly.av]; (repeat refine And.intro (by first | omega | assumption | exact rfl) ?_); refine aa _ ?_; clear aa K0; simp only [put, app, af, aj, zE, zS, E])
   refine aq ?_
   refine hK13 _ ?_; clear hK13; refine ai [1, 2, 6, 7, 8, 9, 10, 20, 21, 22, 32] ?_; simp only [ad, lkp, zE, reduceCtorEq, J, ae, E]
   refine aL (by simp only [ev, ad, lkp, zE, reduceCtorEq, J, ae, E]; exact rfl) (fun hc14 => ?_) (fun hc14 => ?_)
   ·(try simp only [zB, reduceCtorEq] at hc14)
    refine ah fun K15 hK15 => ?_
    refine ao hP hN rfl ?_
    iterate 4 (refine ag rfl fun K0 aa => ?_; simp only [zE, op1, ev, lkp, am, ak, ev, reduceCtorEq, J, E, U, Z, V, Y, Tryd.el25, Tryd.td25, Tryd.td3, Mly.av]; refine aa _ ?_; clear aa K0; simp only [put, app, af, aj, zE, zS, E])
    refine aq ?_
    refine hK15 _ ?_; clear hK15; refine ai [1, 2, 4, 5, 6, 7, 8, 9, 10, 20, 21, 22, 32] ?_; simp only [ad, lkp, zE, reduceCtorEq, J, ae, E]
    refine aU ?_
    refine ⟨by first | exact .inl rfl | exact .inr rfl, _, rfl, ?_⟩; simp only [fzV, fz1, fzC, List.map_cons, List.map_nil, ad, lkp, zE, reduceCtorEq, J, ae, E, Mly.av]
    refine VLE.of_eq ?_
    first
    | (have hce : m.cnt (j + 1) = m.cnt j := by assumption
       have e := nN (m := m) (N := hZ m k) (j := j) (by omega) hce hq
       unfold Mly.refC Mly.refK; rw [e])
    | (have hjn : j = hZ m k := by omega
       subst hjn
       have e := nv hq
       unfold Mly.refC Mly.refK; rw [e, hNN])
   ·(try simp only [zB, reduceCtorEq] at hc14)
    refine aT ?_
    refine hK12 _ ?_; clear hK12; refine ai [1, 2, 6, 7, 8, 9, 10, 20, 21, 22, 32] ?_; simp only [ad, lkp, zE, reduceCtorEq, J, ae, E]
    refine ao hP hN rfl ?_
    iterate 4 (refine ag rfl fun K0 aa => ?_; simp only [zE, op1, ev, lkp, am, ak, ev, reduceCtorEq, J, E, U, Z, V, Y, Tryd.el25, Tryd.td25, Tryd.td3, Mly.av]; refine aa _ ?_; clear aa K0; simp only [put, app, af, aj, zE, zS, E])
    refine aq ?_
    refine hK9 _ ?_; clear hK9; refine ai [1, 2, 6, 7, 8, 9, 10, 20, 21, 22, 32] ?_; simp only [ad, lkp, zE, reduceCtorEq, J, ae, E]
    refine ao hP hN rfl ?_
    iterate 2 (refine ag rfl fun K0 aa => ?_; simp only [zE, op1, ev, lkp, am, ak, aJ, aK, aI, ay, aH, aX, reduceCtorEq, J, E, U, Z, V, Y, Tryd.td3, Mly.av]; (repeat refine And.intro (by first | omega | assumption | exact rfl) ?_); refine aa _ ?_; clear aa K0; simp only [put, app, af, aj, zE, zS, E])
    refine aq ?_
    have hne : m.cnt (j + 1) ≠ m.cnt j := by first | assumption | (intro hh; simp_all [Mly.cnt])
    refine ⟨_, _, ?_, aY [1, 2, 6, 7, 20, 21], j + 1, by omega, fun q hq2 => ?_, rfl, rfl⟩
    · omega
    · by_cases e : q = j
      · rw [e]; exact hne
      · exact hq q (by omega)
  ·(try simp only [zB, reduceCtorEq] at hc8)
   refine cm ?_
   refine hK3 _ ?_; clear hK3; refine ai [1, 2, 6, 7, 20, 21, 22] ?_; simp only [ad, lkp, zE, reduceCtorEq, J, ae, E]
   refine ah fun K16 hK16 => ?_
   refine cB hP hN Tryd.mixed rfl ?_
   iterate 9 (refine ag rfl fun K0 aa => ?_; simp only [zE, op1, ev, lkp, am, ak, aP, bT, bC, bu, bv, bP, Nat.div_one, aV, bz, Ty.size, aM, dite_true, aA, aE, Nat.mul_one, aC, aD, acs, Ty.dflt, zG, az, reduceCtorEq, J, E, U, Z, V, Y, Tryd.el22, Tryd.el25, Tryd.st24, Tryd.td2, Tryd.td22, Tryd.td24, Tryd.td25, Tryd.td3, Mly.av]; (repeat refine And.intro (by first | omega | assumption | exact rfl) ?_); (first | refine aa _ ?_ | refine Or.inl (aa _ ?_)); clear aa K0; simp only [put, app, af, aj, zE, zS, E])
   refine aq ?_
   refine ⟨by kernel_rfl, ?_⟩
   refine hK16 _ ?_; clear hK16; refine ai [1, 2, 4, 5, 6, 7, 20, 21, 22] ?_; simp only [ad, lkp, zE, reduceCtorEq, J, ae, E]
   refine aU ?_
   refine ⟨by first | exact .inl rfl | exact .inr rfl, _, rfl, ?_⟩; simp only [fzV, fz1, fzC, List.map_cons, List.map_nil, ad, lkp, zE, reduceCtorEq, J, ae, E, Mly.av]
   refine VLE.of_eq ?_
   first
   | (have hce : m.cnt (j + 1) = m.cnt j := by assumption
      have e := nN (m := m) (N := hZ m k) (j := j) (by omega) hce hq
      unfold Mly.refC Mly.refK; rw [e])
   | (have hjn : j = hZ m k := by omega
      subst hjn
      have e := nv hq
      unfold Mly.refC Mly.refK; rw [e, hNN])
end Go.Proofs.YtceafldjjedhcaaDoor
namespace Go.Proofs.YtceafldjjedhcaaDoor
open Go Go.AV
open Nat renaming reduceEqDiff → J, reduceAdd → E, reduceLeDiff → U, reduceLT → Z, reduceMul → V, reduceSub → Y
open List renaming set_cons_zero → aw, set_cons_succ → au
set_option maxRecDepth 100000 in
theorem iF (m : Mly) : cq Tryd.prog 20 [m.av] (.one (.int .i64 (bj m))) := by
 refine bt Tryd.func20 rfl (by kernel_rfl) (Nat.le_of_ble_eq_true rfl) rfl fun C hP hN hB => ?_
 replace hN : C.N = 104 := hN
 simp only [ae, E]
 refine ah fun K1 hK1 => ?_
 refine ao hP hN rfl ?_
 iterate 2 (refine ag rfl fun K0 aa => ?_; simp only [zE, op1, ev, lkp, am, ak, dn, ax, reduceCtorEq, J, E, U, Z, V, Y, Tryd.st24, Tryd.td24, Tryd.td28, Mly.av]; (repeat refine And.intro (by first | omega | assumption | exact rfl) ?_); refine aa _ ?_; clear aa K0; simp only [put, app, af, aj, zE, zS, E])
 refine aq ?_
 refine hK1 _ ?_; clear hK1; refine ai [0, 1, 2] ?_; simp only [ad, lkp, zE, reduceCtorEq, J, ae, E]
 refine ah fun K2 hK2 => ?_
 refine ao hP hN rfl ?_
 iterate 4 (refine ag rfl fun K0 aa => ?_; simp only [zE, op1, ev, lkp, am, ak, aA, aE, Nat.mul_one, aC, aD, acs, Ty.dflt, zG, az, aP, bT, bC, bu, bv, bP, Nat.div_one, aV, bz, Ty.size, aM, dite_true, reduceCtorEq, J, E, U, Z, V, Y, Tryd.el22, Tryd.st24, Tryd.td2, Tryd.td22, Tryd.td24, Tryd.td3, Mly.av]; (repeat refine And.intro (by first | omega | assumption | exact rfl) ?_); (first | refine aa _ ?_ | refine Or.inl (aa _ ?_)); clear aa K0; simp only [put, app, af, aj, zE, zS, E])
 refine aq ?_
 refine hK2 _ ?_; clear hK2; refine ai [0, 1, 2, 3] ?_; simp only [ad, lkp, zE, reduceCtorEq, J, ae, E]
 refine ah fun K3 hK3 => ?_
 refine b8 ?_
 refine ah fun K4 hK4 => ?_
 refine ao hP hN rfl ?_
 iterate 3 (refine ag rfl fun K0 aa => ?_; simp only [zE, op1, ev, lkp, am, ak, aA, aE, Nat.mul_one, aC, aD, acs, Ty.dflt, zG, az, aJ, aK, aI, ay, aH, aX, reduceCtorEq, J, E, U, Z, V, Y, Tryd.st24, Tryd.td24, Tryd.td3, Tryd.td4, Mly.av]; (repeat refine And.intro (by first | omega | assumption | exact rfl) ?_); refine aa _ ?_; clear aa K0; simp only [put, app, af, aj, zE, zS, E])
 (refine ag rfl fun K0 aa => ?_; simp only [zE, op1, ev, lkp, am, ak, ev, reduceCtorEq, J, E, U, Z, V, Y, Tryd.td4, Mly.av]; refine aa _ ?_; clear aa K0; simp only [put, app, af, aj, zE, zS, E])
 refine' bn (want := false) 3 rfl (m := 15) (by simp only [ad, lkp, zE, reduceCtorEq, J, ae, E]; exact rfl) (by kernel_rfl) rfl rfl rfl rfl rfl (fun hg5 => ?a5) ?b5 ?c5
 case a5 =>
  have hq5 := hg5; (try simp only [zB, reduceCtorEq] at hg5); simp only [List.take_succ_cons, List.take_zero, List.cons_append, List.nil_append]
  (refine aG rfl fun K0 aa => ?_; simp only [zE, op1, ev, lkp, am, ak, aA, reduceCtorEq, J, E, U, Z, V, Y, Tryd.st24, Tryd.td24, Mly.av]; (repeat refine And.intro (by first | omega | assumption | exact rfl) ?_); refine aa _ ?_; clear aa K0; simp only [put, app, af, aj, zE, zS, E])
  (refine aG rfl fun K0 aa => ?_; simp only [zE, op1, ev, lkp, am, ak, aE, Nat.mul_one, aC, aD, acs, Ty.dflt, zG, az, reduceCtorEq, J, E, U, Z, V, Y, Tryd.td3, Mly.av]; (repeat refine And.intro (by first | omega | assumption | exact rfl) ?_); refine aa _ ?_; clear aa K0; simp only [put, app, af, aj, zE, zS, E])
  (refine aG rfl fun K0 aa => ?_; simp only [zE, op1, ev, lkp, am, ak, aJ, aK, aI, ay, aH, aX, reduceCtorEq, J, E, U, Z, V, Y, Tryd.td3, Tryd.td4, Mly.av]; (repeat refine And.intro (by first | omega | assumption | exact rfl) ?_); refine aa _ ?_; clear aa K0; simp only [put, app, af, aj, zE, zS, E])
  (refine ag rfl fun K0 aa => ?_; simp only [zE, op1, ev, lkp, am, ak, bU, reduceCtorEq, J, E, U, Z, V, Y, Tryd.td4, Mly.av]; refine aa _ ?_; clear aa K0; simp only [put, app, af, aj, zE, zS, E])
  refine aq ?_
  refine ⟨by simp only [ad, lkp, zE, reduceCtorEq, J, ae, E]; exact rfl, rfl, ?_, rfl⟩; (repeat refine bo rfl ?_); exact bY (by exact rfl) hq5
 case b5 => exact bV (by first | rfl | (simp [cD]; done) | decide)
 simp only [bM, bB]
 (refine ag rfl fun K0 aa => ?_; simp only [zE, op1, ev, lkp, am, ak, ev, reduceCtorEq, J, E, U, Z, V, Y, Tryd.td4, Mly.av]; refine aa _ ?_; clear aa K0; simp only [put, app, af, aj, zE, zS, E])
 refine aq ?_
 refine hK4 _ ?_; clear hK4; refine ai [0, 1, 2, 3, 11] ?_; simp only [ad, lkp, zE, reduceCtorEq, J, ae, E]
 refine aL (by simp only [ev, ad, lkp, zE, reduceCtorEq, J, ae, E]; exact rfl) (fun hc6 => ?_) (fun hc6 => ?_)
 ·(try simp only [zB, reduceCtorEq] at hc6)
  refine ah fun K7 hK7 => ?_
  refine ao hP hN rfl ?_
  (refine ag rfl fun K0 aa => ?_; simp only [zE, op1, ev, lkp, am, ak, ev, reduceCtorEq, J, E, U, Z, V, Y, Tryd.td28, Mly.av]; refine aa _ ?_; clear aa K0; simp only [put, app, af, aj, zE, zS, E])
  refine aq ?_
  refine hK7 _ ?_; clear hK7; refine ai [0, 1, 2, 3, 11] ?_; simp only [ad, lkp, zE, reduceCtorEq, J, ae, E]
  refine aU ?_
  refine ⟨by first | exact .inl rfl | exact .inr rfl, _, rfl, ?_⟩; simp only [fzV, fz1, fzC, List.map_cons, List.map_nil, ad, lkp, zE, reduceCtorEq, J, ae, E, Mly.av]
  refine VLE.of_eq ?_
  refine congrArg (fun n => AV.one (AC.int IntKind.i64 n)) ?_
  symm
  unfold bj
  first
  | (rw [if_pos (by omega)]; done)
  | (rw [if_neg (by omega), if_pos (by omega)]; done)
  | (rw [if_neg (by omega), if_neg (by omega), if_pos (by omega)]; done)
  | (rw [if_neg (by omega), if_neg (by omega), if_neg (by omega), if_pos (by omega)]; done)
  | (rw [if_neg (by omega), if_neg (by omega), if_neg (by omega), if_neg (by omega), if_pos (by omega)]; done)
  | (rw [if_neg (by omega), if_neg (by omega), if_neg (by omega), if_neg (by omega), if_neg (by omega)]
     first
     | exact (bD hrows (by omega) (by rw [cM hc32.1 hc32.2 (j := j) (by omega) (by unfold cv; omega)]; decide)).trans (cM hc32.1 hc32.2 (by omega) (by unfold cv; omega))
     | exact (bD hrows (by omega) (by rw [cL hc32]; decide)).trans (cL hc32)
     | exact cd fun i hi => hrows i (by omega))
 ·(try simp only [zB, reduceCtorEq] at hc6)
  refine ah fun K8 hK8 => ?_
  refine ao hP hN rfl ?_
  iterate 3 (refine ag rfl fun K0 aa => ?_; simp only [zE, op1, ev, lkp, am, ak, aJ, aK, aI, ay, aH, aX, reduceCtorEq, J, E, U, Z, V, Y, Tryd.td3, Tryd.td4, Mly.av]; (repeat refine And.intro (by first | omega | assumption | exact rfl) ?_); refine aa _ ?_; clear aa K0; simp only [put, app, af, aj, zE, zS, E])
  refine aq ?_
  refine hK8 _ ?_; clear hK8; refine ai [0, 1, 2, 3, 11, 20] ?_; simp only [ad, lkp, zE, reduceCtorEq, J, ae, E]
  refine aL (by simp only [ev, ad, lkp, zE, reduceCtorEq, J, ae, E]; exact rfl) (fun hc9 => ?_) (fun hc9 => ?_)
  ·(try simp only [zB, reduceCtorEq] at hc9)
   refine ah fun K10 hK10 => ?_
   refine ao hP hN rfl ?_
   (refine ag rfl fun K0 aa => ?_; simp only [zE, op1, ev, lkp, am, ak, ev, reduceCtorEq, J, E, U, Z, V, Y, Tryd.td28, Mly.av]; refine aa _ ?_; clear aa K0; simp only [put, app, af, aj, zE, zS, E])
   refine aq ?_
   refine hK10 _ ?_; clear hK10; refine ai [0, 1, 2, 3, 11, 20] ?_; simp only [ad, lkp, zE, reduceCtorEq, J, ae, E]
   refine aU ?_
   refine ⟨by first | exact .inl rfl | exact .inr rfl, _, rfl, ?_⟩; simp only [fzV, fz1, fzC, List.map_cons, List.map_nil, ad, lkp, zE, reduceCtorEq, J, ae, E, Mly.av]
   refine VLE.of_eq ?_
   refine congrArg (fun n => AV.one (AC.int IntKind.i64 n)) ?_
   symm
   unfold bj
   first
   | (rw [if_pos (by omega)]; done)
   | (rw [if_neg (by omega), if_pos (by omega)]; done)
   | (rw [if_neg (by omega), if_neg (by omega), if_pos (by omega)]; done)
   | (rw [if_neg (by omega), if_neg (by omega), if_neg (by omega), if_pos (by omega)]; done)
   | (rw [if_neg (by omega), if_neg (by omega), if_neg (by omega), if_neg (by omega), if_pos (by omega)]; done)
   | (rw [if_neg (by omega), if_neg (by omega), if_neg (by omega), if_neg (by omega), if_neg (by omega)]
      first
      | exact (bD hrows (by omega) (by rw [cM hc32.1 hc32.2 (j := j) (by omega) (by unfold cv; omega)]; decide)).trans (cM hc32.1 hc32.2 (by omega) (by unfold cv; omega))
      | exact (bD hrows (by omega) (by rw [cL hc32]; decide)).trans (cL hc32)
      | exact cd fun i hi => hrows i (by omega))
  ·(try simp only [zB, reduceCtorEq] at hc9)
   refine ah fun K11 hK11 => ?_
   refine ao hP hN rfl ?_
   iterate 3 (refine ag rfl fun K0 aa => ?_; simp only [zE, op1, ev, lkp, am, ak, aJ, aK, aI, ay, aH, aX, reduceCtorEq, J, E, U, Z, V, Y, Tryd.td3, Tryd.td4, Mly.av]; (repeat refine And.intro (by first | omega | assumption | exact rfl) ?_); refine aa _ ?_; clear aa K0; simp only [put, app, af, aj, zE, zS, E])
   refine aq ?_
   refine hK11 _ ?_; clear hK11; refine ai [0, 1, 2, 3, 11, 20, 23] ?_; simp only [ad, lkp, zE, reduceCtorEq, J, ae, E]
   refine aL (by simp only [ev, ad, lkp, zE, reduceCtorEq, J, ae, E]; exact rfl) (fun hc12 => ?_) (fun hc12 => ?_)
   ·(try simp only [zB, reduceCtorEq] at hc12)
    refine ah fun K13 hK13 => ?_
    refine ao hP hN rfl ?_
    (refine ag rfl fun K0 aa => ?_; simp only [zE, op1, ev, lkp, am, ak, ev, reduceCtorEq, J, E, U, Z, V, Y, Tryd.td28, Mly.av]; refine aa _ ?_; clear aa K0; simp only [put, app, af, aj, zE, zS, E])
    refine aq ?_
    refine hK13 _ ?_; clear hK13; refine ai [0, 1, 2, 3, 11, 20, 23] ?_; simp only [ad, lkp, zE, reduceCtorEq, J, ae, E]
    refine aU ?_
    refine ⟨by first | exact .inl rfl | exact .inr rfl, _, rfl, ?_⟩; simp only [fzV, fz1, fzC, List.map_cons, List.map_nil, ad, lkp, zE, reduceCtorEq, J, ae, E, Mly.av]
    refine VLE.of_eq ?_
    refine congrArg (fun n => AV.one (AC.int IntKind.i64 n)) ?_
    symm
    unfold bj
    first
    | (rw [if_pos (by omega)]; done)
    | (rw [if_neg (by omega), if_pos (by omega)]; done)
    | (rw [if_neg (by omega), if_neg (by omega), if_pos (by omega)]; done)
    | (rw [if_neg (by omega), if_neg (by omega), if_neg (by omega), if_pos (by omega)]; done)
    | (rw [if_neg (by omega), if_neg (by omega), if_neg (by omega), if_neg (by omega), if_pos (by omega)]; done)
    | (rw [if_neg (by omega), if_neg (by omega), if_neg (by omega), if_neg (by omega), if_neg (by omega)]
       first
       | exact (bD hrows (by omega) (by rw [cM hc32.1 hc32.2 (j := j) (by omega) (by unfold cv; omega)]; decide)).trans (cM hc32.1 hc32.2 (by omega) (by unfold cv; omega))
       | exact (bD hrows (by omega) (by rw [cL hc32]; decide)).trans (cL hc32)
       | exact cd fun i hi => hrows i (by omega))
   ·(try simp only [zB, reduceCtorEq] at hc12)
    refine ah fun K14 hK14 => ?_
    refine ao hP hN rfl ?_
    iterate 3 (refine ag rfl fun K0 aa => ?_; simp only [zE, op1, ev, lkp, am, ak, aA, aE, Nat.mul_one, aC, aD, acs, Ty.dflt, zG, az, aJ, aK, aI, ay, aH, aX, reduceCtorEq, J, E, U, Z, V, Y, Tryd.st24, Tryd.td1, Tryd.td24, Tryd.td3, Tryd.td4, Mly.av]; (repeat refine And.intro (by first | omega | assumption | exact rfl) ?_); refine aa _ ?_; clear aa K0; simp only [put, app, af, aj, zE, zS, E])
    (refine ag rfl fun K0 aa => ?_; simp only [zE, op1, ev, lkp, am, ak, ev, reduceCtorEq, J, E, U, Z, V, Y, Tryd.td4, Mly.av]; refine aa _ ?_; clear aa K0; simp only [put, app, af, aj, zE, zS, E])
    refine' bn (want := false) 4 rfl (m := 30) (by simp only [ad, lkp, zE, reduceCtorEq, J, ae, E]; exact rfl) (by kernel_rfl) rfl rfl rfl rfl rfl (fun hg15 => ?a15) ?b15 ?c15
    case a15 =>
     have hq15 := hg15; (try simp only [zB, reduceCtorEq] at hg15); simp only [List.take_succ_cons, List.take_zero, List.cons_append, List.nil_append]
     (refine aG rfl fun K0 aa => ?_; simp only [zE, op1, ev, lkp, am, ak, aA, reduceCtorEq, J, E, U, Z, V, Y, Tryd.st24, Tryd.td1, Tryd.td24, Mly.av]; (repeat refine And.intro (by first | omega | assumption | exact rfl) ?_); refine aa _ ?_; clear aa K0; simp only [put, app, af, aj, zE, zS, E])
     (refine aG rfl fun K0 aa => ?_; simp only [zE, op1, ev, lkp, am, ak, aE, Nat.mul_one, aC, aD, acs, Ty.dflt, zG, az, reduceCtorEq, J, E, U, Z, V, Y, Tryd.td3, Mly.av]; (repeat refine And.intro (by first | omega | assumption | exact rfl) ?_); refine aa _ ?_; clear aa K0; simp only [put, app, af, aj, zE, zS, E])
     (refine aG rfl fun K0 aa => ?_; simp only [zE, op1, ev, lkp, am, ak, ev, reduceCtorEq, J, E, U, Z, V, Y, Tryd.td3, Mly.av]; refine aa _ ?_; clear aa K0; simp only [put, app, af, aj, zE, zS, E])
     (refine aG rfl fun K0 aa => ?_; simp only [zE, op1, ev, lkp, am, ak, aJ, aK, aI, ay, aH, aX, reduceCtorEq, J, E, U, Z, V, Y, Tryd.td3, Tryd.td4, Mly.av]; (repeat refine And.intro (by first | omega | assumption | exact rfl) ?_); refine aa _ ?_; clear aa K0; simp only [put, app, af, aj, zE, zS, E])
     (refine ag rfl fun K0 aa => ?_; simp only [zE, op1, ev, lkp, am, ak, bU, reduceCtorEq, J, E, U, Z, V, Y, Tryd.td4, Mly.av]; refine aa _ ?_; clear aa K0; simp only [put, app, af, aj, zE, zS, E])
     refine aq ?_
     refine ⟨by simp only [ad, lkp, zE, reduceCtorEq, J, ae, E]; exact rfl, rfl, ?_, rfl⟩; (repeat refine bo rfl ?_); exact bY (by exact rfl) hq15
    case b15 => exact bV (by first | rfl | (simp [cD]; done) | decide)
    simp only [bM, bB]
    (refine ag rfl fun K0 aa => ?_; simp only [zE, op1, ev, lkp, am, ak, ev, reduceCtorEq, J, E, U, Z, V, Y, Tryd.td4, Mly.av]; refine aa _ ?_; clear aa K0; simp only [put, app, af, aj, zE, zS, E])
    refine aq ?_
    refine hK14 _ ?_; clear hK14; refine ai [0, 1, 2, 3, 11, 20, 23, 26] ?_; simp only [ad, lkp, zE, reduceCtorEq, J, ae, E]
    refine aL (by simp only [ev, ad, lkp, zE, reduceCtorEq, J, ae, E]; exact rfl) (fun hc16 => ?_) (fun hc16 => ?_)
    ·(try simp only [zB, reduceCtorEq] at hc16)
     refine ah fun K17 hK17 => ?_
     refine ao hP hN rfl ?_
     (refine ag rfl fun K0 aa => ?_; simp only [zE, op1, ev, lkp, am, ak, ev, reduceCtorEq, J, E, U, Z, V, Y, Tryd.td28, Mly.av]; refine aa _ ?_; clear aa K0; simp only [put, app, af, aj, zE, zS, E])
     refine aq ?_
     refine hK17 _ ?_; clear hK17; refine ai [0, 1, 2, 3, 11, 20, 23, 26] ?_; simp only [ad, lkp, zE, reduceCtorEq, J, ae, E]
     refine aU ?_
     refine ⟨by first | exact .inl rfl | exact .inr rfl, _, rfl, ?_⟩; simp only [fzV, fz1, fzC, List.map_cons, List.map_nil, ad, lkp, zE, reduceCtorEq, J, ae, E, Mly.av]
     refine VLE.of_eq ?_
     refine congrArg (fun n => AV.one (AC.int IntKind.i64 n)) ?_
     symm
     unfold bj
     first
     | (rw [if_pos (by omega)]; done)
     | (rw [if_neg (by omega), if_pos (by omega)]; done)
     | (rw [if_neg (by omega), if_neg (by omega), if_pos (by omega)]; done)
     | (rw [if_neg (by omega), if_neg (by omega), if_neg (by omega), if_pos (by omega)]; done)
     | (rw [if_neg (by omega), if_neg (by omega), if_neg (by omega), if_neg (by omega), if_pos (by omega)]; done)
     | (rw [if_neg (by omega), if_neg (by omega), if_neg (by omega), if_neg (by omega), if_neg (by omega)]
        first
        | exact (bD hrows (by omega) (by rw [cM hc32.1 hc32.2 (j := j) (by omega) (by unfold cv; omega)]; decide)).trans (cM hc32.1 hc32.2 (by omega) (by unfold cv; omega))
        | exact (bD hrows (by omega) (by rw [cL hc32]; decide)).trans (cL hc32)
        | exact cd fun i hi => hrows i (by omega))
    ·(try simp only [zB, reduceCtorEq] at hc16)
     refine ah fun K18 hK18 => ?_
     refine ao hP hN rfl ?_
     iterate 6 (refine ag rfl fun K0 aa => ?_; simp only [zE, op1, ev, lkp, am, ak, aA, aE, Nat.mul_one, aC, aD, acs, Ty.dflt, zG, az, aP, bT, bC, bu, bv, bP, Nat.div_one, aV, bz, Ty.size, aM, dite_true, aJ, aK, aI, ay, aH, aX, reduceCtorEq, J, E, U, Z, V, Y, Tryd.el22, Tryd.st24, Tryd.td22, Tryd.td24, Tryd.td3, Tryd.td4, Mly.av]; (repeat refine And.intro (by first | omega | assumption | exact rfl) ?_); (first | refine aa _ ?_ | refine Or.inl (aa _ ?_)); clear aa K0; simp only [put, app, af, aj, zE, zS, E])
     refine aq ?_
     refine hK18 _ ?_; clear hK18; refine ai [0, 1, 2, 3, 11, 20, 23, 26, 36] ?_; simp only [ad, lkp, zE, reduceCtorEq, J, ae, E]
     refine aL (by simp only [ev, ad, lkp, zE, reduceCtorEq, J, ae, E]; exact rfl) (fun hc19 => ?_) (fun hc19 => ?_)
     ·(try simp only [zB, reduceCtorEq] at hc19)
      refine ah fun K20 hK20 => ?_
      refine ao hP hN rfl ?_
      (refine ag rfl fun K0 aa => ?_; simp only [zE, op1, ev, lkp, am, ak, ev, reduceCtorEq, J, E, U, Z, V, Y, Tryd.td28, Mly.av]; refine aa _ ?_; clear aa K0; simp only [put, app, af, aj, zE, zS, E])
      refine aq ?_
      refine hK20 _ ?_; clear hK20; refine ai [0, 1, 2, 3, 11, 20, 23, 26, 36] ?_; simp only [ad, lkp, zE, reduceCtorEq, J, ae, E]
      refine aU ?_
      refine ⟨by first | exact .inl rfl | exact .inr rfl, _, rfl, ?_⟩; simp only [fzV, fz1, fzC, List.map_cons, List.map_nil, ad, lkp, zE, reduceCtorEq, J, ae, E, Mly.av]
      refine VLE.of_eq ?_
      refine congrArg (fun n => AV.one (AC.int IntKind.i64 n)) ?_
      symm
      unfold bj
      first
      | (rw [if_pos (by omega)]; done)
      | (rw [if_neg (by omega), if_pos (by omega)]; done)
      | (rw [if_neg (by omega), if_neg (by omega), if_pos (by omega)]; done)
      | (rw [if_neg (by omega), if_neg (by omega), if_neg (by omega), if_pos (by omega)]; done)
      | (rw [if_neg (by omega), if_neg (by omega), if_neg (by omega), if_neg (by omega), if_pos (by omega)]; done)
      | (rw [if_neg (by omega), if_neg (by omega), if_neg (by omega), if_neg (by omega), if_neg (by omega)]
         first
         | exact (bD hrows (by omega) (by rw [cM hc32.1 hc32.2 (j := j) (by omega) (by unfold cv; omega)]; decide)).trans (cM hc32.1 hc32.2 (by omega) (by unfold cv; omega))
         | exact (bD hrows (by omega) (by rw [cL hc32]; decide)).trans (cL hc32)
         | exact cd fun i hi => hrows i (by omega))
     ·(try simp only [zB, reduceCtorEq] at hc19)
      refine aT ?_
      refine hK3 _ ?_; clear hK3; refine ai [0, 1, 2, 3, 11, 20, 23, 26, 36] ?_; simp only [ad, lkp, zE, reduceCtorEq, J, ae, E]
      refine ah fun K21 hK21 => ?_
      refine ah fun K22 hK22 => ?_
      refine ao hP hN rfl ?_
      iterate 2 (refine ag rfl fun K0 aa => ?_; simp only [zE, op1, ev, lkp, am, ak, ev, reduceCtorEq, J, E, U, Z, V, Y, Tryd.td3, Mly.av]; refine aa _ ?_; clear aa K0; simp only [put, app, af, aj, zE, zS, E])
      refine aq ?_
      refine hK22 _ ?_; clear hK22; refine ai [0, 1, 2, 3, 11, 20, 23, 26, 36, 42, 43] ?_; simp only [ad, lkp, zE, reduceCtorEq, J, ae, E]
      refine b8 ?_
      refine cj (fun n23 s23 => ∃ (k : Nat), (k ≤ m.nx.length) ∧ (∀ i, i < k → iC m i = 0) ∧ n23 = m.nx.length - k ∧ s23 = { env := [(1, .one (.ptr 0 0 0 0)), (3, .one (.int .i64 (m.nx.length : Int))), (42, .one (.int .i64 (m.nx.length : Int))), (43, .one (.int .i64 (k : Int)))], L := [.vars 24 [.int .i64 m.inp, .int .i64 m.st, .list (.list (.int .i64)) m.nx, .list (.list (.int .i64)) m.ot]] }) ?_ ?_
      ·exact ⟨_, _, aY [1, 3, 42, 43], 0, Nat.zero_le _, fun i hi => by omega, rfl, rfl⟩
      ·rintro n23 s23 ⟨k, hk, hrows, rfl, rfl⟩
       refine ah fun K24 hK24 => ?_
       refine ao hP hN rfl ?_
       (refine ag rfl fun K0 aa => ?_; simp only [zE, op1, ev, lkp, am, ak, aJ, aK, aI, ay, aH, aX, reduceCtorEq, J, E, U, Z, V, Y, Tryd.td3, Tryd.td4, Mly.av]; (repeat refine And.intro (by first | omega | assumption | exact rfl) ?_); refine aa _ ?_; clear aa K0; simp only [put, app, af, aj, zE, zS, E])
       refine aq ?_
       refine hK24 _ ?_; clear hK24; refine ai [1, 3, 42, 43, 44] ?_; simp only [ad, lkp, zE, reduceCtorEq, J, ae, E]
       refine ah fun K25 hK25 => ?_
       refine aL (by simp only [ev, ad, lkp, zE, reduceCtorEq, J, ae, E]; exact rfl) (fun hc26 => ?_) (fun hc26 => ?_)
       ·(try simp only [zB, reduceCtorEq] at hc26)
        refine aT ?_
        refine hK25 _ ?_; clear hK25; refine ai [1, 3, 42, 43, 44] ?_; simp only [ad, lkp, zE, reduceCtorEq, J, ae, E]
        refine ah fun K27 hK27 => ?_
        refine b8 ?_
        refine ah fun K28 hK28 => ?_
        refine ao hP hN rfl ?_
        iterate 2 (refine ag rfl fun K0 aa => ?_; simp only [zE, op1, ev, lkp, am, ak, ev, reduceCtorEq, J, E, U, Z, V, Y, Tryd.td3, Mly.av]; refine aa _ ?_; clear aa K0; simp only [put, app, af, aj, zE, zS, E])
        refine aq ?_
        refine hK28 _ ?_; clear hK28; refine ai [1, 3, 4, 42, 43, 44] ?_; simp only [ad, lkp, zE, reduceCtorEq, J, ae, E]
        refine ah fun K29 hK29 => ?_
        refine ah fun K30 hK30 => ?_
        refine cB hP hN Tryd.mixed rfl ?_
        iterate 9 (refine ag rfl fun K0 aa => ?_; simp only [zE, op1, ev, lkp, am, ak, aA, aE, Nat.mul_one, aC, aD, acs, Ty.dflt, zG, az, aS, Ty.size, ne_eq, not_false_eq_true, Int.natCast_one, Int.mul_one, aP, bT, bC, bu, bv, bP, Nat.div_one, aV, bz, aM, dite_true, aJ, aK, aI, ay, aH, aX, reduceCtorEq, J, E, U, Z, V, Y, Tryd.el22, Tryd.el25, Tryd.st24, Tryd.td2, Tryd.td22, Tryd.td24, Tryd.td25, Tryd.td3, Tryd.td4, Mly.av]; (repeat refine And.intro (by first | omega | assumption | exact rfl) ?_); (first | refine aa _ ?_ | refine Or.inl (aa _ ?_)); clear aa K0; simp only [put, app, af, aj, zE, zS, E])
        (refine ag rfl fun K0 aa => ?_; simp only [zE, op1, ev, lkp, am, ak, ev, reduceCtorEq, J, E, U, Z, V, Y, Tryd.td4, Mly.av]; refine aa _ ?_; clear aa K0; simp only [put, app, af, aj, zE, zS, E])
        refine' bn (want := false) 9 rfl (m := 55) (by simp only [ad, lkp, zE, reduceCtorEq, J, ae, E]; exact rfl) (by kernel_rfl) rfl rfl rfl rfl rfl (fun hg31 => ?a31) ?b31 ?c31
        case a31 =>
         have hq31 := hg31; (try simp only [zB, reduceCtorEq] at hg31); simp only [List.take_succ_cons, List.take_zero, List.cons_append, List.nil_append]
         (refine aG rfl fun K0 aa => ?_; simp only [zE, op1, ev, lkp, am, ak, aA, reduceCtorEq, J, E, U, Z, V, Y, Tryd.st24, Tryd.td24, Tryd.td3, Mly.av]; (repeat refine And.intro (by first | omega | assumption | exact rfl) ?_); refine aa _ ?_; clear aa K0; simp only [put, app, af, aj, zE, zS, E])
         (refine aG rfl fun K0 aa => ?_; simp only [zE, op1, ev, lkp, am, ak, aE, Nat.mul_one, aC, aD, acs, Ty.dflt, zG, az, reduceCtorEq, J, E, U, Z, V, Y, Tryd.el22, Tryd.td22, Mly.av]; (repeat refine And.intro (by first | omega | assumption | exact rfl) ?_); refine aa _ ?_; clear aa K0; simp only [put, app, af, aj, zE, zS, E])
         (refine aG rfl fun K0 aa => ?_; simp only [zE, op1, ev, lkp, am, ak, ev, reduceCtorEq, J, E, U, Z, V, Y, Tryd.td3, Mly.av]; refine aa _ ?_; clear aa K0; simp only [put, app, af, aj, zE, zS, E])
         (refine aG rfl fun K0 aa => ?_; simp only [zE, op1, ev, lkp, am, ak, aS, zG, Ty.dflt, Ty.size, Nat.mul_one, ne_eq, not_false_eq_true, Int.natCast_one, Int.mul_one, reduceCtorEq, J, E, U, Z, V, Y, Tryd.el22, Tryd.td22, Mly.av]; (repeat refine And.intro (by first | omega | assumption | exact rfl) ?_); refine aa _ ?_; clear aa K0; simp only [put, app, af, aj, zE, zS, E])
         (refine aG rfl fun K0 aa => ?_; simp only [zE, op1, ev, lkp, am, ak, aE, Nat.mul_one, aC, aD, acs, Ty.dflt, zG, az, reduceCtorEq, J, E, U, Z, V, Y, Tryd.el25, Tryd.td25, Mly.av]; (repeat refine And.intro (by first | omega | assumption | exact rfl) ?_); refine aa _ ?_; clear aa K0; simp only [put, app, af, aj, zE, zS, E])
         (refine aG rfl fun K0 aa => ?_; simp only [zE, op1, ev, lkp, am, ak, aP, bT, bC, bu, bv, bP, Nat.div_one, aV, bz, Ty.size, aM, dite_true, reduceCtorEq, J, E, U, Z, V, Y, Tryd.el25, Tryd.td25, Tryd.td3, Mly.av]; (repeat refine And.intro (by first | omega | assumption | exact rfl) ?_); (first | refine aa _ ?_ | refine Or.inl (aa _ ?_)); clear aa K0; simp only [put, app, af, aj, zE, zS, E])
         (refine aG rfl fun K0 aa => ?_; simp only [zE, op1, ev, lkp, am, ak, aA, reduceCtorEq, J, E, U, Z, V, Y, Tryd.st24, Tryd.td24, Mly.av]; (repeat refine And.intro (by first | omega | assumption | exact rfl) ?_); refine aa _ ?_; clear aa K0; simp only [put, app, af, aj, zE, zS, E])
         (refine aG rfl fun K0 aa => ?_; simp only [zE, op1, ev, lkp, am, ak, aE, Nat.mul_one, aC, aD, acs, Ty.dflt, zG, az, reduceCtorEq, J, E, U, Z, V, Y, Tryd.td3, Mly.av]; (repeat refine And.intro (by first | omega | assumption | exact rfl) ?_); refine aa _ ?_; clear aa K0; simp only [put, app, af, aj, zE, zS, E])
         (refine aG rfl fun K0 aa => ?_; simp only [zE, op1, ev, lkp, am, ak, aJ, aK, aI, ay, aH, aX, reduceCtorEq, J, E, U, Z, V, Y, Tryd.td3, Tryd.td4, Mly.av]; (repeat refine And.intro (by first | omega | assumption | exact rfl) ?_); refine aa _ ?_; clear aa K0; simp only [put, app, af, aj, zE, zS, E])
         (refine ag rfl fun K0 aa => ?_; simp only [zE, op1, ev, lkp, am, ak, bU, reduceCtorEq, J, E, U, Z, V, Y, Tryd.td4, Mly.av]; refine aa _ ?_; clear aa K0; simp only [put, app, af, aj, zE, zS, E])
         refine aq ?_
         refine ⟨by simp only [ad, lkp, zE, reduceCtorEq, J, ae, E]; exact rfl, rfl, ?_, rfl⟩; (repeat refine bo rfl ?_); exact bY (by exact rfl) hq31
        case b31 => exact bV (by first | rfl | (simp [cD]; done) | decide)
        simp only [bM, bB]
        refine aq ?_
        refine ⟨by kernel_rfl, ?_⟩
        refine hK30 _ ?_; clear hK30; refine ai [1, 3, 4, 42, 43, 44, 65] ?_; simp only [ad, lkp, zE, reduceCtorEq, J, ae, E]
        refine aL (by simp only [ev, ad, lkp, zE, reduceCtorEq, J, ae, E]; exact rfl) (fun hc32 => ?_) (fun hc32 => ?_)
        ·(try simp only [zB, reduceCtorEq] at hc32)
         refine ah fun K33 hK33 => ?_
         refine ao hP hN rfl ?_
         (refine ag rfl fun K0 aa => ?_; simp only [zE, op1, ev, lkp, am, ak, ev, reduceCtorEq, J, E, U, Z, V, Y, Tryd.td28, Mly.av]; refine aa _ ?_; clear aa K0; simp only [put, app, af, aj, zE, zS, E])
         refine aq ?_
         refine hK33 _ ?_; clear hK33; refine ai [1, 2, 3, 4, 42, 43, 44, 65] ?_; simp only [ad, lkp, zE, reduceCtorEq, J, ae, E]
         refine aU ?_
         refine ⟨by first | exact .inl rfl | exact .inr rfl, _, rfl, ?_⟩; simp only [fzV, fz1, fzC, List.map_cons, List.map_nil, ad, lkp, zE, reduceCtorEq, J, ae, E, Mly.av]
         refine VLE.of_eq ?_
         refine congrArg (fun n => AV.one (AC.int IntKind.i64 n)) ?_
         symm
         unfold bj
         first
         | (rw [if_pos (by omega)]; done)
         | (rw [if_neg (by omega), if_pos (by omega)]; done)
         | (rw [if_neg (by omega), if_neg (by omega), if_pos (by omega)]; done)
         | (rw [if_neg (by omega), if_neg (by omega), if_neg (by omega), if_pos (by omega)]; done)
         | (rw [if_neg (by omega), if_neg (by omega), if_neg (by omega), if_neg (by omega), if_pos (by omega)]; done)
         | (rw [if_neg (by omega), if_neg (by omega), if_neg (by omega), if_neg (by omega), if_neg (by omega)]
            first
            | exact (bD hrows (by omega) (by rw [cM hc32.1 hc32.2 (j := j) (by omega) (by unfold cv; omega)]; decide)).trans (cM hc32.1 hc32.2 (by omega) (by unfold cv; omega))
            | exact (bD hrows (by omega) (by rw [cL hc32]; decide)).trans (cL hc32)
            | exact cd fun i hi => hrows i (by omega))
        ·(try simp only [zB, reduceCtorEq] at hc32)
         refine aT ?_
         refine hK29 _ ?_; clear hK29; refine ai [1, 3, 4, 42, 43, 44, 65] ?_; simp only [ad, lkp, zE, reduceCtorEq, J, ae, E]
         refine ah fun K34 hK34 => ?_
         refine ao hP hN rfl ?_
         iterate 3 (refine ag rfl fun K0 aa => ?_; simp only [zE, op1, ev, lkp, am, ak, aA, aE, Nat.mul_one, aC, aD, acs, Ty.dflt, zG, az, reduceCtorEq, J, E, U, Z, V, Y, Tryd.st24, Tryd.td24, Tryd.td3, Mly.av]; (repeat refine And.intro (by first | omega | assumption | exact rfl) ?_); refine aa _ ?_; clear aa K0; simp only [put, app, af, aj, zE, zS, E])
         refine aq ?_
         refine hK34 _ ?_; clear hK34; refine ai [1, 3, 4, 42, 43, 44, 65, 67, 68] ?_; simp only [ad, lkp, zE, reduceCtorEq, J, ae, E]
         refine b8 ?_
         refine cj (fun n35 s35 => ∃ (j : Nat), ((j : Int) ≤ m.inp) ∧ (∀ a, a < j → ¬ cv m k a) ∧ n35 = m.inp.toNat - j ∧ s35 = { env := [(1, .one (.ptr 0 0 0 0)), (3, .one (.int .i64 (m.nx.length : Int))), (4, .one (.int .i64 (k : Int))), (42, .one (.int .i64 (m.nx.length : Int))), (43, .one (.int .i64 (k : Int))), (67, .one (.int .i64 m.inp)), (68, .one (.int .i64 (j : Int)))], L := [.vars 24 [.int .i64 m.inp, .int .i64 m.st, .list (.list (.int .i64)) m.nx, .list (.list (.int .i64)) m.ot]] }) ?_ ?_
         ·refine ⟨_, _, aY [1, 3, 4, 42, 43, 67, 68], 0, ?_, fun i hi => by omega, rfl, rfl⟩; omega
         ·rintro n35 s35 ⟨j, hj, hcells, rfl, rfl⟩
          refine ah fun K36 hK36 => ?_
          refine ao hP hN rfl ?_
          (refine ag rfl fun K0 aa => ?_; simp only [zE, op1, ev, lkp, am, ak, aJ, aK, aI, ay, aH, aX, reduceCtorEq, J, E, U, Z, V, Y, Tryd.td3, Tryd.td4, Mly.av]; (repeat refine And.intro (by first | omega | assumption | exact rfl) ?_); refine aa _ ?_; clear aa K0; simp only [put, app, af, aj, zE, zS, E])
          refine aq ?_
          refine hK36 _ ?_; clear hK36; refine ai [1, 3, 4, 42, 43, 67, 68, 69] ?_; simp only [ad, lkp, zE, reduceCtorEq, J, ae, E]
          refine ah fun K37 hK37 => ?_
          refine aL (by simp only [ev, ad, lkp, zE, reduceCtorEq, J, ae, E]; exact rfl) (fun hc38 => ?_) (fun hc38 => ?_)
          ·(try simp only [zB, reduceCtorEq] at hc38)
           refine aT ?_
           refine hK37 _ ?_; clear hK37; refine ai [1, 3, 4, 42, 43, 67, 68, 69] ?_; simp only [ad, lkp, zE, reduceCtorEq, J, ae, E]
           refine ah fun K39 hK39 => ?_
           refine b8 ?_
           refine ah fun K40 hK40 => ?_
           refine ao hP hN rfl ?_
           iterate 2 (refine ag rfl fun K0 aa => ?_; simp only [zE, op1, ev, lkp, am, ak, ev, reduceCtorEq, J, E, U, Z, V, Y, Tryd.td3, Mly.av]; refine aa _ ?_; clear aa K0; simp only [put, app, af, aj, zE, zS, E])
           refine aq ?_
           refine hK40 _ ?_; clear hK40; refine ai [1, 3, 4, 5, 42, 43, 67, 68, 69] ?_; simp only [ad, lkp, zE, reduceCtorEq, J, ae, E]
           refine ah fun K41 hK41 => ?_
           refine cB hP hN Tryd.mixed rfl ?_
           iterate 18 (refine ag rfl fun K0 aa => ?_; simp only [zE, op1, ev, lkp, am, ak, aA, aE, Nat.mul_one, aC, aD, acs, Ty.dflt, zG, az, aS, Ty.size, ne_eq, not_false_eq_true, Int.natCast_one, Int.mul_one, reduceCtorEq, J, E, U, Z, V, Y, Tryd.el22, Tryd.el25, Tryd.st24, Tryd.td2, Tryd.td22, Tryd.td24, Tryd.td25, Tryd.td3, Mly.av]; (repeat refine And.intro (by first | omega | assumption | exact rfl) ?_); refine aa _ ?_; clear aa K0; simp only [put, app, af, aj, zE, zS, E])
           refine aq ?_
           refine ⟨by kernel_rfl, ?_⟩
           refine hK41 _ ?_; clear hK41; refine ai [1, 3, 4, 5, 6, 7, 42, 43, 67, 68, 69] ?_; simp only [ad, lkp, zE, reduceCtorEq, J, ae, E]
           refine ah fun K42 hK42 => ?_
           refine ao hP hN rfl ?_
           iterate 2 (refine ag rfl fun K0 aa => ?_; simp only [zE, op1, ev, lkp, am, ak, aJ, aK, aI, ay, aH, aX, reduceCtorEq, J, E, U, Z, V, Y, Tryd.td3, Tryd.td4, Mly.av]; (repeat refine And.intro (by first | omega | assumption | exact rfl) ?_); refine aa _ ?_; clear aa K0; simp only [put, app, af, aj, zE, zS, E])
           (refine ag rfl fun K0 aa => ?_; simp only [zE, op1, ev, lkp, am, ak, ev, reduceCtorEq, J, E, U, Z, V, Y, Tryd.td4, Mly.av]; refine aa _ ?_; clear aa K0; simp only [put, app, af, aj, zE, zS, E])
           refine' bn (want := false) 3 rfl (m := 89) (by simp only [ad, lkp, zE, reduceCtorEq, J, ae, E]; exact rfl) (by kernel_rfl) rfl rfl rfl rfl rfl (fun hg43 => ?a43) ?b43 ?c43
           case a43 =>
            have hq43 := hg43; (try simp only [zB, reduceCtorEq] at hg43); simp only [List.take_succ_cons, List.take_zero, List.cons_append, List.nil_append]
            (refine aG rfl fun K0 aa => ?_; simp only [zE, op1, ev, lkp, am, ak, ev, reduceCtorEq, J, E, U, Z, V, Y, Tryd.td3, Mly.av]; refine aa _ ?_; clear aa K0; simp only [put, app, af, aj, zE, zS, E])
            (refine aG rfl fun K0 aa => ?_; simp only [zE, op1, ev, lkp, am, ak, ev, reduceCtorEq, J, E, U, Z, V, Y, Tryd.td3, Mly.av]; refine aa _ ?_; clear aa K0; simp only [put, app, af, aj, zE, zS, E])
            (refine aG rfl fun K0 aa => ?_; simp only [zE, op1, ev, lkp, am, ak, aJ, aK, aI, ay, aH, aX, reduceCtorEq, J, E, U, Z, V, Y, Tryd.td3, Tryd.td4, Mly.av]; (repeat refine And.intro (by first | omega | assumption | exact rfl) ?_); refine aa _ ?_; clear aa K0; simp only [put, app, af, aj, zE, zS, E])
            (refine ag rfl fun K0 aa => ?_; simp only [zE, op1, ev, lkp, am, ak, bU, reduceCtorEq, J, E, U, Z, V, Y, Tryd.td4, Mly.av]; refine aa _ ?_; clear aa K0; simp only [put, app, af, aj, zE, zS, E])
            refine aq ?_
            refine ⟨by simp only [ad, lkp, zE, reduceCtorEq, J, ae, E]; exact rfl, rfl, ?_, rfl⟩; (repeat refine bo rfl ?_); exact bY (by exact rfl) hq43
           case b43 => exact bV (by first | rfl | (simp [cD]; done) | decide)
           simp only [bM, bB]
           (refine ag rfl fun K0 aa => ?_; simp only [zE, op1, ev, lkp, am, ak, ev, reduceCtorEq, J, E, U, Z, V, Y, Tryd.td4, Mly.av]; refine aa _ ?_; clear aa K0; simp only [put, app, af, aj, zE, zS, E])
           refine' bn (want := false) 2 rfl (m := 94) (by simp only [ad, lkp, zE, reduceCtorEq, J, ae, E]; exact rfl) (by kernel_rfl) rfl rfl rfl rfl rfl (fun hg44 => ?a44) ?b44 ?c44
           case a44 =>
            have hq44 := hg44; (try simp only [zB, reduceCtorEq] at hg44); simp only [List.take_succ_cons, List.take_zero, List.cons_append, List.nil_append]
            (refine aG rfl fun K0 aa => ?_; simp only [zE, op1, ev, lkp, am, ak, ev, reduceCtorEq, J, E, U, Z, V, Y, Tryd.td3, Mly.av]; refine aa _ ?_; clear aa K0; simp only [put, app, af, aj, zE, zS, E])
            (refine aG rfl fun K0 aa => ?_; simp only [zE, op1, ev, lkp, am, ak, aJ, aK, aI, ay, aH, aX, reduceCtorEq, J, E, U, Z, V, Y, Tryd.td3, Tryd.td4, Mly.av]; (repeat refine And.intro (by first | omega | assumption | exact rfl) ?_); refine aa _ ?_; clear aa K0; simp only [put, app, af, aj, zE, zS, E])
            (refine ag rfl fun K0 aa => ?_; simp only [zE, op1, ev, lkp, am, ak, bU, reduceCtorEq, J, E, U, Z, V, Y, Tryd.td4, Mly.av]; refine aa _ ?_; clear aa K0; simp only [put, app, af, aj, zE, zS, E])
            refine aq ?_
            refine ⟨by simp only [ad, lkp, zE, reduceCtorEq, J, ae, E]; exact rfl, rfl, ?_, rfl⟩; (repeat refine bo rfl ?_); exact bY (by exact rfl) hq44
           case b44 => exact bV (by first | rfl | (simp [cD]; done) | decide)
           simp only [bM, bB]
           (refine ag rfl fun K0 aa => ?_; simp only [zE, op1, ev, lkp, am, ak, ev, reduceCtorEq, J, E, U, Z, V, Y, Tryd.td4, Mly.av]; refine aa _ ?_; clear aa K0; simp only [put, app, af, aj, zE, zS, E])
           refine' bn (want := false) 2 rfl (m := 98) (by simp only [ad, lkp, zE, reduceCtorEq, J, ae, E]; exact rfl) (by kernel_rfl) rfl rfl rfl rfl rfl (fun hg45 => ?a45) ?b45 ?c45
           case a45 =>
            have hq45 := hg45; (try simp only [zB, reduceCtorEq] at hg45); simp only [List.take_succ_cons, List.take_zero, List.cons_append, List.nil_append]
            (refine aG rfl fun K0 aa => ?_; simp only [zE, op1, ev, lkp, am, ak, ev, reduceCtorEq, J, E, U, Z, V, Y, Tryd.td3, Mly.av]; refine aa _ ?_; clear aa K0; simp only [put, app, af, aj, zE, zS, E])
            (refine aG rfl fun K0 aa => ?_; simp only [zE, op1, ev, lkp, am, ak, aJ, aK, aI, ay, aH, aX, reduceCtorEq, J, E, U, Z, V, Y, Tryd.td3, Tryd.td4, Mly.av]; (repeat refine And.intro (by first | omega | assumption | exact rfl) ?_); refine aa _ ?_; clear aa K0; simp only [put, app, af, aj, zE, zS, E])
            (refine ag rfl fun K0 aa => ?_; simp only [zE, op1, ev, lkp, am, ak, bU, reduceCtorEq, J, E, U, Z, V, Y, Tryd.td4, Mly.av]; refine aa _ ?_; clear aa K0; simp only [put, app, af, aj, zE, zS, E])
            refine aq ?_
            refine ⟨by simp only [ad, lkp, zE, reduceCtorEq, J, ae, E]; exact rfl, rfl, ?_, rfl⟩; (repeat refine bo rfl ?_); exact bY (by exact rfl) hq45
           case b45 => exact bV (by first | rfl | (simp [cD]; done) | decide)
           simp only [bM, bB]
           refine aq ?_
           refine hK42 _ ?_; clear hK42; refine ai [1, 3, 4, 5, 6, 7, 42, 43, 67, 68, 69, 101] ?_; simp only [ad, lkp, zE, reduceCtorEq, J, ae, E]
           refine aL (by simp only [ev, ad, lkp, zE, reduceCtorEq, J, ae, E]; exact rfl) (fun hc46 => ?_) (fun hc46 => ?_)
           ·(try simp only [zB, reduceCtorEq] at hc46)
            refine ah fun K47 hK47 => ?_
            refine ao hP hN rfl ?_
            (refine ag rfl fun K0 aa => ?_; simp only [zE, op1, ev, lkp, am, ak, ev, reduceCtorEq, J, E, U, Z, V, Y, Tryd.td28, Mly.av]; refine aa _ ?_; clear aa K0; simp only [put, app, af, aj, zE, zS, E])
            refine aq ?_
            refine hK47 _ ?_; clear hK47; refine ai [1, 2, 3, 4, 5, 6, 7, 42, 43, 67, 68, 69, 101] ?_; simp only [ad, lkp, zE, reduceCtorEq, J, ae, E]
            refine aU ?_
            refine ⟨by first | exact .inl rfl | exact .inr rfl, _, rfl, ?_⟩; simp only [fzV, fz1, fzC, List.map_cons, List.map_nil, ad, lkp, zE, reduceCtorEq, J, ae, E, Mly.av]
            refine VLE.of_eq ?_
            refine congrArg (fun n => AV.one (AC.int IntKind.i64 n)) ?_
            symm
            unfold bj
            first
            | (rw [if_pos (by omega)]; done)
            | (rw [if_neg (by omega), if_pos (by omega)]; done)
            | (rw [if_neg (by omega), if_neg (by omega), if_pos (by omega)]; done)
            | (rw [if_neg (by omega), if_neg (by omega), if_neg (by omega), if_pos (by omega)]; done)
            | (rw [if_neg (by omega), if_neg (by omega), if_neg (by omega), if_neg (by omega), if_pos (by omega)]; done)
            | (rw [if_neg (by omega), if_neg (by omega), if_neg (by omega), if_neg (by omega), if_neg (by omega)]
               first
               | exact (bD hrows (by omega) (by rw [cM hc32.1 hc32.2 (j := j) (by omega) (by unfold cv; omega)]; decide)).trans (cM hc32.1 hc32.2 (by omega) (by unfold cv; omega))
               | exact (bD hrows (by omega) (by rw [cL hc32]; decide)).trans (cL hc32)
               | exact cd fun i hi => hrows i (by omega))
           ·(try simp only [zB, reduceCtorEq] at hc46)
            refine aT ?_
            refine hK39 _ ?_; clear hK39; refine ai [1, 3, 4, 5, 6, 7, 42, 43, 67, 68, 69, 101] ?_; simp only [ad, lkp, zE, reduceCtorEq, J, ae, E]
            refine ao hP hN rfl ?_
            iterate 2 (refine ag rfl fun K0 aa => ?_; simp only [zE, op1, ev, lkp, am, ak, aJ, aK, aI, ay, aH, aX, reduceCtorEq, J, E, U, Z, V, Y, Tryd.td3, Mly.av]; (repeat refine And.intro (by first | omega | assumption | exact rfl) ?_); refine aa _ ?_; clear aa K0; simp only [put, app, af, aj, zE, zS, E])
            refine aq ?_
            refine ⟨_, _, ?_, aY [1, 3, 4, 42, 43, 67, 68], j + 1, ?_, fun a ha => ?_, rfl, rfl⟩
            · omega
            · omega
            · by_cases e : a = j
              · rw [e]; unfold cv; omega
              · exact hcells a (by omega)
          ·(try simp only [zB, reduceCtorEq] at hc38)
           refine cm ?_
           refine hK27 _ ?_; clear hK27; refine ai [1, 3, 4, 42, 43, 67, 68, 69] ?_; simp only [ad, lkp, zE, reduceCtorEq, J, ae, E]
           refine ao hP hN rfl ?_
           iterate 2 (refine ag rfl fun K0 aa => ?_; simp only [zE, op1, ev, lkp, am, ak, aJ, aK, aI, ay, aH, aX, reduceCtorEq, J, E, U, Z, V, Y, Tryd.td3, Mly.av]; (repeat refine And.intro (by first | omega | assumption | exact rfl) ?_); refine aa _ ?_; clear aa K0; simp only [put, app, af, aj, zE, zS, E])
           refine aq ?_
           refine ⟨_, _, ?_, aY [1, 3, 42, 43], k + 1, by omega, fun i hi => ?_, rfl, rfl⟩
           · omega
           · by_cases e : i = k
             · rw [e]; exact vc hc32.1 hc32.2 fun a ha => hcells a (by omega)
             · exact hrows i (by omega)
       ·(try simp only [zB, reduceCtorEq] at hc26)
        refine cm ?_
        refine hK21 _ ?_; clear hK21; refine ai [1, 3, 42, 43, 44] ?_; simp only [ad, lkp, zE, reduceCtorEq, J, ae, E]
        refine ah fun K48 hK48 => ?_
        refine ao hP hN rfl ?_
        (refine ag rfl fun K0 aa => ?_; simp only [zE, op1, ev, lkp, am, ak, ev, reduceCtorEq, J, E, U, Z, V, Y, Tryd.td28, Mly.av]; refine aa _ ?_; clear aa K0; simp only [put, app, af, aj, zE, zS, E])
        refine aq ?_
        refine hK48 _ ?_; clear hK48; refine ai [1, 2, 3, 42, 43, 44] ?_; simp only [ad, lkp, zE, reduceCtorEq, J, ae, E]
        refine aU ?_
        refine ⟨by first | exact .inl rfl | exact .inr rfl, _, rfl, ?_⟩; simp only [fzV, fz1, fzC, List.map_cons, List.map_nil, ad, lkp, zE, reduceCtorEq, J, ae, E, Mly.av]
        refine VLE.of_eq ?_
        refine congrArg (fun n => AV.one (AC.int IntKind.i64 n)) ?_
        symm
        unfold bj
        first
        | (rw [if_pos (by omega)]; done)
        | (rw [if_neg (by omega), if_pos (by omega)]; done)
        | (rw [if_neg (by omega), if_neg (by omega), if_pos (by omega)]; done)
        | (rw [if_neg (by omega), if_neg (by omega), if_neg (by omega), if_pos (by omega)]; done)
        | (rw [if_neg (by omega), if_neg (by omega), if_neg (by omega), if_neg (by omega), if_pos (by omega)]; done)
        | (rw [if_neg (by omega), if_neg (by omega), if_neg (by omega), if_neg (by omega), if_neg (by omega)]
           first
           | exact (bD hrows (by omega) (by rw [cM hc32.1 hc32.2 (j := j) (by omega) (by unfold cv; omega)]; decide)).trans (cM hc32.1 hc32.2 (by omega) (by unfold cv; omega))
           | exact (bD hrows (by omega) (by rw [cL hc32]; decide)).trans (cL hc32)
           | exact cd fun i hi => hrows i (by omega))
end Go.Proofs.YtceafldjjedhcaaDoor
namespace Go.Proofs.YtceafldjjedhcaaDoor
open Go Go.AV
open Nat renaming reduceEqDiff → J, reduceAdd → E, reduceLeDiff → U, reduceLT → Z, reduceMul → V, reduceSub → Y
open List renaming set_cons_zero → aw, set_cons_succ → au
set_option maxRecDepth 100000 in
theorem we (m : Mly) (k : Int) : cq Tryd.prog 39 [m.av, .one (.int .i64 k)] (.tup [.one (.list (.int .i64) (if bj m = 0 then m.refC k else [])), .one (.int .i64 (bj m))]) := by
 refine bt Tryd.func39 rfl (by kernel_rfl) (Nat.le_of_ble_eq_true rfl) rfl fun C hP hN hB => ?_
 replace hN : C.N = 21 := hN
 simp only [ae, E]
 refine ah fun K1 hK1 => ?_
 refine ao hP hN rfl ?_
 iterate 3 (refine ag rfl fun K0 aa => ?_; simp only [zE, op1, ev, lkp, am, ak, dn, ax, reduceCtorEq, J, E, U, Z, V, Y, Tryd.el25, Tryd.st24, Tryd.td24, Tryd.td25, Tryd.td28, Mly.av]; (repeat refine And.intro (by first | omega | assumption | exact rfl) ?_); refine aa _ ?_; clear aa K0; simp only [put, app, af, aj, zE, zS, E])
 refine aq ?_
 refine hK1 _ ?_; clear hK1; refine ai [0, 1, 2, 4, 5] ?_; simp only [ad, lkp, zE, reduceCtorEq, J, ae, E]
 refine ah fun K2 hK2 => ?_
 refine ah fun K3 hK3 => ?_
 refine ao hP hN rfl ?_
 (refine ag rfl fun K0 aa => ?_; simp only [zE, op1, ev, lkp, am, ak, aE, Nat.mul_one, aC, aD, acs, Ty.dflt, zG, az, reduceCtorEq, J, E, U, Z, V, Y, Tryd.st24, Tryd.td24, Mly.av]; (repeat refine And.intro (by first | omega | assumption | exact rfl) ?_); refine aa _ ?_; clear aa K0; simp only [put, app, af, aj, zE, zS, E])
 refine ag rfl fun K0 aa => ?_
 refine aW (h := aF (iF m)) rfl rfl (by first | exact rfl | (simp only [ev, ad, lkp, zE, reduceCtorEq, J, ae, E]; exact rfl)) (by simp only [zE, zG, op1, ev, lkp, am, ak, ax, acs, bf, mv1, mvC, Ty.dflt, reduceCtorEq, J, E, U, Z, V, Y, Mly.av]) ?_
 refine aa _ ?_; clear aa K0; simp only [put, app, af, aj, zE, zS, E]
 (refine ag rfl fun K0 aa => ?_; simp only [zE, op1, ev, lkp, am, ak, ev, reduceCtorEq, J, E, U, Z, V, Y, Tryd.td28, Mly.av]; refine aa _ ?_; clear aa K0; simp only [put, app, af, aj, zE, zS, E])
 refine aq ?_
 refine hK3 _ ?_; clear hK3; refine ai [0, 1, 2, 4, 5, 6] ?_; simp only [ad, lkp, zE, reduceCtorEq, J, ae, E]
 refine ah fun K4 hK4 => ?_
 refine ao hP hN rfl ?_
 iterate 2 (refine ag rfl fun K0 aa => ?_; simp only [zE, op1, ev, lkp, am, ak, aJ, aK, aI, ay, aH, aX, reduceCtorEq, J, E, U, Z, V, Y, Tryd.td28, Tryd.td4, Mly.av]; (repeat refine And.intro (by first | omega | assumption | exact rfl) ?_); refine aa _ ?_; clear aa K0; simp only [put, app, af, aj, zE, zS, E])
 refine aq ?_
 refine hK4 _ ?_; clear hK4; refine ai [0, 1, 2, 4, 5, 6, 12] ?_; simp only [ad, lkp, zE, reduceCtorEq, J, ae, E]
 refine aL (by simp only [ev, ad, lkp, zE, reduceCtorEq, J, ae, E]; exact rfl) (fun hc5 => ?_) (fun hc5 => ?_)
 ·(try simp only [zB, reduceCtorEq] at hc5)
  refine ah fun K6 hK6 => ?_
  refine ao hP hN rfl ?_
  iterate 3 (refine ag rfl fun K0 aa => ?_; simp only [zE, op1, ev, lkp, am, ak, ev, reduceCtorEq, J, E, U, Z, V, Y, Tryd.el25, Tryd.td25, Tryd.td28, Mly.av]; refine aa _ ?_; clear aa K0; simp only [put, app, af, aj, zE, zS, E])
  refine aq ?_
  refine hK6 _ ?_; clear hK6; refine ai [0, 1, 2, 4, 5, 6, 12] ?_; simp only [ad, lkp, zE, reduceCtorEq, J, ae, E]
  refine aU ?_
  refine ⟨by first | exact .inl rfl | exact .inr rfl, _, rfl, ?_⟩; simp only [fzV, fz1, fzC, List.map_cons, List.map_nil, ad, lkp, zE, reduceCtorEq, J, ae, E, Mly.av]
  first
  | (rw [if_neg ‹¬bj m = 0›]; exact br ⟨aB (aQ rfl), aB (.refl _), trivial⟩)
  | (rw [if_pos ‹bj m = 0›, ‹bj m = 0›]; exact br ⟨aB (.refl _), aB (.refl _), trivial⟩)
 ·(try simp only [zB, reduceCtorEq] at hc5)
  refine aT ?_
  refine hK2 _ ?_; clear hK2; refine ai [0, 1, 2, 4, 5, 6, 12] ?_; simp only [ad, lkp, zE, reduceCtorEq, J, ae, E]
  refine ah fun K7 hK7 => ?_
  refine ao hP hN rfl ?_
  iterate 2 (refine ag rfl fun K0 aa => ?_; simp only [zE, op1, ev, lkp, am, ak, aE, Nat.mul_one, aC, aD, acs, Ty.dflt, zG, az, reduceCtorEq, J, E, U, Z, V, Y, Tryd.st24, Tryd.td24, Tryd.td3, Mly.av]; (repeat refine And.intro (by first | omega | assumption | exact rfl) ?_); refine aa _ ?_; clear aa K0; simp only [put, app, af, aj, zE, zS, E])
  refine ag rfl fun K0 aa => ?_
  refine aW (h := aF (rU m k (fX (by assumption)))) rfl rfl (by first | exact rfl | (simp only [ev, ad, lkp, zE, reduceCtorEq, J, ae, E]; exact rfl)) (by simp only [zE, zG, op1, ev, lkp, am, ak, ax, acs, bf, mv1, mvC, Ty.dflt, reduceCtorEq, J, E, U, Z, V, Y, Mly.av]) ?_
  refine aa _ ?_; clear aa K0; simp only [put, app, af, aj, zE, zS, E]
  iterate 5 (refine ag rfl fun K0 aa => ?_; simp only [zE, op1, ev, lkp, am, ak, bS, reduceCtorEq, J, E, U, Z, V, Y, Tryd.el25, Tryd.td1, Tryd.td25, Tryd.td3, Mly.av]; refine aa _ ?_; clear aa K0; simp only [put, app, af, aj, zE, zS, E])
  refine aq ?_
  refine hK7 _ ?_; clear hK7; refine ai [0, 1, 2, 4, 5, 6, 7, 12] ?_; simp only [ad, lkp, zE, reduceCtorEq, J, ae, E]
  refine ah fun K8 hK8 => ?_
  refine ao hP hN rfl ?_
  iterate 3 (refine ag rfl fun K0 aa => ?_; simp only [zE, op1, ev, lkp, am, ak, ev, reduceCtorEq, J, E, U, Z, V, Y, Tryd.el25, Tryd.td25, Tryd.td28, Mly.av]; refine aa _ ?_; clear aa K0; simp only [put, app, af, aj, zE, zS, E])
  refine aq ?_
  refine hK8 _ ?_; clear hK8; refine ai [0, 1, 2, 4, 5, 6, 7, 12] ?_; simp only [ad, lkp, zE, reduceCtorEq, J, ae, E]
  refine aU ?_
  refine ⟨by first | exact .inl rfl | exact .inr rfl, _, rfl, ?_⟩; simp only [fzV, fz1, fzC, List.map_cons, List.map_nil, ad, lkp, zE, reduceCtorEq, J, ae, E, Mly.av]
  first
  | (rw [if_neg ‹¬bj m = 0›]; exact br ⟨aB (aQ rfl), aB (.refl _), trivial⟩)
  | (rw [if_pos ‹bj m = 0›, ‹bj m = 0›]; exact br ⟨aB (.refl _), aB (.refl _), trivial⟩)
end Go.Proofs.YtceafldjjedhcaaDoor
namespace Go.Proofs.YtceafldjjedhcaaDoor
open Go Go.AV
open Nat renaming reduceEqDiff → J, reduceAdd → E, reduceLeDiff → U, reduceLT → Z, reduceMul → V, reduceSub → Y
open List renaming set_cons_zero → aw, set_cons_succ → au
set_option maxRecDepth 100000 in
theorem sF (m : Mly) : cq Tryd.prog 30 [m.av] (.tup [.one (.list (.int .i64) (if bj m = 0 then m.eqc else [])), .one (.int .i64 (bj m))]) := by
 refine bt Tryd.func30 rfl (by kernel_rfl) (Nat.le_of_ble_eq_true rfl) rfl fun C hP hN hB => ?_
 replace hN : C.N = 8 := hN
 simp only [ae, E]
 refine ah fun K1 hK1 => ?_
 refine ao hP hN rfl ?_
 iterate 3 (refine ag rfl fun K0 aa => ?_; simp only [zE, op1, ev, lkp, am, ak, dn, ax, reduceCtorEq, J, E, U, Z, V, Y, Tryd.el25, Tryd.st24, Tryd.td24, Tryd.td25, Tryd.td28, Mly.av]; (repeat refine And.intro (by first | omega | assumption | exact rfl) ?_); refine aa _ ?_; clear aa K0; simp only [put, app, af, aj, zE, zS, E])
 refine aq ?_
 refine hK1 _ ?_; clear hK1; refine ai [0, 1, 2, 3] ?_; simp only [ad, lkp, zE, reduceCtorEq, J, ae, E]
 refine ah fun K2 hK2 => ?_
 refine ao hP hN rfl ?_
 (refine ag rfl fun K0 aa => ?_; simp only [zE, op1, ev, lkp, am, ak, aE, Nat.mul_one, aC, aD, acs, Ty.dflt, zG, az, reduceCtorEq, J, E, U, Z, V, Y, Tryd.st24, Tryd.td24, Mly.av]; (repeat refine And.intro (by first | omega | assumption | exact rfl) ?_); refine aa _ ?_; clear aa K0; simp only [put, app, af, aj, zE, zS, E])
 refine ag rfl fun K0 aa => ?_
 refine aW (h := aF (we m 128)) rfl rfl (by first | exact rfl | (simp only [ev, ad, lkp, zE, reduceCtorEq, J, ae, E]; exact rfl)) (by simp only [zE, zG, op1, ev, lkp, am, ak, ax, acs, bf, mv1, mvC, Ty.dflt, reduceCtorEq, J, E, U, Z, V, Y, Mly.av]) ?_
 refine aa _ ?_; clear aa K0; simp only [put, app, af, aj, zE, zS, E]
 iterate 4 (refine ag rfl fun K0 aa => ?_; simp only [zE, op1, ev, lkp, am, ak, bS, reduceCtorEq, J, E, U, Z, V, Y, Tryd.el25, Tryd.td1, Tryd.td25, Tryd.td28, Mly.av]; refine aa _ ?_; clear aa K0; simp only [put, app, af, aj, zE, zS, E])
 refine aq ?_
 refine hK2 _ ?_; clear hK2; refine ai [0, 1, 2, 3] ?_; simp only [ad, lkp, zE, reduceCtorEq, J, ae, E]
 refine aU ?_
 refine ⟨by first | exact .inl rfl | exact .inr rfl, _, rfl, ?_⟩; simp only [fzV, fz1, fzC, List.map_cons, List.map_nil, ad, lkp, zE, reduceCtorEq, J, ae, E, Mly.av]
 refine VLE.of_eq ?_
 rfl
end Go.Proofs.YtceafldjjedhcaaDoor
namespace Go.Proofs.YtceafldjjedhcaaDoor
open Go Go.AV
open Nat renaming reduceEqDiff → J, reduceAdd → E, reduceLeDiff → U, reduceLT → Z, reduceMul → V, reduceSub → Y
open List renaming set_cons_zero → aw, set_cons_succ → au
theorem qu (m : Mly) (hv : bj m = 0) : cq Tryd.prog 30 [m.av] (.tup [.one (.list (.int .i64) m.eqc), .one (.int .i64 0)]) := by
  have h := sF m
  rw [if_pos hv, hv] at h
  exact h

end Go.Proofs.YtceafldjjedhcaaDoor
namespace Go.AV
open Nat renaming reduceEqDiff → J, reduceAdd → E, reduceLeDiff → U, reduceLT → Z, reduceMul → V, reduceSub → Y
open List renaming set_cons_zero → aw, set_cons_succ → au
/-plain-/
theorem eW (w : List Int) (x : Int) : [w, [x]].flatten.length = w.length + 1 := by simp
theorem jY {xs : List Int} {k : Nat} {x : Int} (h : k < xs.length) (e : x = xs.getD k 0) : x ∈ xs := by rw [e]; exact cU h
theorem mV {xs : List Int} {x : Int} : ∀ {k : Nat}, k < xs.length → x = xs.getD k 0 → (∀ q, q < k → xs.getD q 0 ≠ x) → pos xs x = k := by
  induction xs with
  | nil => intro k h; cases h
  | cons y xs ih =>
    intro k h e hq
    cases k with
    | zero => simp [List.getD] at e; simp [pos, e]
    | succ k =>
      have h0 := hq 0 (by omega)
      simp [List.getD] at h0
      simp only [pos]
      rw [if_neg h0, ih (by simpa using h) (by simpa [List.getD] using e) (fun q hq2 => by have := hq (q + 1) (by omega); simpa [List.getD] using this)]
theorem l9 {xs : List Int} {x : Int} {k : Nat} (hq : ∀ q, q < k → xs.getD q 0 ≠ x) (h : xs.length ≤ k) : x ∉ xs := by
  intro hm
  obtain ⟨i, hi⟩ := List.getElem?_of_mem hm
  have := (List.getElem?_eq_some_iff.1 hi).1
  exact hq i (by omega) (by simp [List.getD, hi])
end Go.AV
namespace Go.Proofs.YtceafldjjedhcaaDoor
open Go Go.AV
open Nat renaming reduceEqDiff → J, reduceAdd → E, reduceLeDiff → U, reduceLT → Z, reduceMul → V, reduceSub → Y
open List renaming set_cons_zero → aw, set_cons_succ → au
set_option maxRecDepth 100000 in
theorem uS (xs : List Int) (x : Int) : cq Tryd.prog 40 [.one (.list (.int .i64) xs), .one (.int .i64 x)] (.one (.int .i64 (if x ∈ xs then (pos xs x : Int) else -1))) := by
 refine bt Tryd.func40 rfl (by kernel_rfl) (Nat.le_of_ble_eq_true rfl) rfl fun C hP hN hB => ?_
 replace hN : C.N = 19 := hN
 simp only [ae, E]
 refine jD 0 rfl fun hf0 => ?_; simp only [lkp, if_true, if_false, reduceCtorEq, J, eq_self, Nat.one_ne_zero, Nat.zero_ne_one, nZ, lP, mw, Fit, and_true, implies_true, true_and] at hf0
 refine ah fun K1 hK1 => ?_
 refine ao hP hN rfl ?_
 (refine ag rfl fun K0 aa => ?_; simp only [zE, op1, ev, lkp, am, ak, ev, reduceCtorEq, J, E, U, Z, V, Y, Tryd.td3]; refine aa _ ?_; clear aa K0; simp only [put, app, af, aj, zE, zS, E])
 refine aq ?_
 refine hK1 _ ?_; clear hK1; refine ai [0, 1, 4] ?_; simp only [ad, lkp, zE, reduceCtorEq, J, ae, E]
 refine ah fun K2 hK2 => ?_
 refine ah fun K3 hK3 => ?_
 refine ao hP hN rfl ?_
 iterate 3 (refine ag rfl fun K0 aa => ?_; simp only [zE, op1, ev, lkp, am, ak, aP, bT, bC, bu, bv, bP, Nat.div_one, aV, bz, Ty.size, aM, dite_true, reduceCtorEq, J, E, U, Z, V, Y, Tryd.el25, Tryd.td25, Tryd.td3]; (repeat refine And.intro (by first | omega | assumption | exact rfl) ?_); (first | refine aa _ ?_ | refine Or.inl (aa _ ?_)); clear aa K0; simp only [put, app, af, aj, zE, zS, E])
 refine aq ?_
 refine hK3 _ ?_; clear hK3; refine ai [0, 1, 4, 7, 8] ?_; simp only [ad, lkp, zE, reduceCtorEq, J, ae, E]
 refine b8 ?_
 refine cj (fun n4 s4 => ∃ (k : Nat), (k ≤ xs.length) ∧ (∀ q, q < k → xs.getD q 0 ≠ x) ∧ n4 = xs.length - k ∧ s4 = { env := [(0, .one (.list (.int .i64) xs)), (1, .one (.int .i64 x)), (7, .one (.int .i64 (xs.length : Int))), (8, .one (.int .i64 (k : Int)))], L := [] }) ?_ ?_
 ·exact ⟨_, _, aY [0, 1, 7, 8], 0, Nat.zero_le _, fun q hq => by omega, rfl, rfl⟩
 ·rintro n4 s4 ⟨k, hk, hq, rfl, rfl⟩
  refine ah fun K5 hK5 => ?_
  refine ao hP hN rfl ?_
  (refine ag rfl fun K0 aa => ?_; simp only [zE, op1, ev, lkp, am, ak, aJ, aK, aI, ay, aH, aX, reduceCtorEq, J, E, U, Z, V, Y, Tryd.td3]; (repeat refine And.intro (by first | omega | assumption | exact rfl) ?_); refine aa _ ?_; clear aa K0; simp only [put, app, af, aj, zE, zS, E])
  refine aq ?_
  refine hK5 _ ?_; clear hK5; refine ai [0, 1, 7, 8, 9] ?_; simp only [ad, lkp, zE, reduceCtorEq, J, ae, E]
  refine ah fun K6 hK6 => ?_
  refine aL (by simp only [ev, ad, lkp, zE, reduceCtorEq, J, ae, E]; exact rfl) (fun hc7 => ?_) (fun hc7 => ?_)
  ·(try simp only [zB, reduceCtorEq] at hc7)
   refine aT ?_
   refine hK6 _ ?_; clear hK6; refine ai [0, 1, 7, 8, 9] ?_; simp only [ad, lkp, zE, reduceCtorEq, J, ae, E]
   refine ah fun K8 hK8 => ?_
   refine b8 ?_
   refine ah fun K9 hK9 => ?_
   refine ao hP hN rfl ?_
   iterate 2 (refine ag rfl fun K0 aa => ?_; simp only [zE, op1, ev, lkp, am, ak, ev, reduceCtorEq, J, E, U, Z, V, Y, Tryd.td3]; refine aa _ ?_; clear aa K0; simp only [put, app, af, aj, zE, zS, E])
   refine aq ?_
   refine hK9 _ ?_; clear hK9; refine ai [0, 1, 5, 7, 8, 9] ?_; simp only [ad, lkp, zE, reduceCtorEq, J, ae, E]
   refine ah fun K10 hK10 => ?_
   refine ao hP hN rfl ?_
   iterate 6 (refine ag rfl fun K0 aa => ?_; simp only [zE, op1, ev, lkp, am, ak, aS, zG, Ty.dflt, Ty.size, Nat.mul_one, ne_eq, not_false_eq_true, Int.natCast_one, Int.mul_one, aE, aC, aD, acs, az, aJ, aK, aI, ay, aH, aX, reduceCtorEq, J, E, U, Z, V, Y, Tryd.el25, Tryd.td25, Tryd.td3, Tryd.td4]; (repeat refine And.intro (by first | omega | assumption | exact rfl) ?_); refine aa _ ?_; clear aa K0; simp only [put, app, af, aj, zE, zS, E])
   refine aq ?_
   refine hK10 _ ?_; clear hK10; refine ai [0, 1, 5, 7, 8, 9, 16] ?_; simp only [ad, lkp, zE, reduceCtorEq, J, ae, E]
   refine aL (by simp only [ev, ad, lkp, zE, reduceCtorEq, J, ae, E]; exact rfl) (fun hc11 => ?_) (fun hc11 => ?_)
   ·(try simp only [zB, reduceCtorEq] at hc11)
    refine ah fun K12 hK12 => ?_
    refine ao hP hN rfl ?_
    iterate 2 (refine ag rfl fun K0 aa => ?_; simp only [zE, op1, ev, lkp, am, ak, ev, reduceCtorEq, J, E, U, Z, V, Y, Tryd.td3]; refine aa _ ?_; clear aa K0; simp only [put, app, af, aj, zE, zS, E])
    refine aq ?_
    refine hK12 _ ?_; clear hK12; refine ai [0, 1, 4, 5, 7, 8, 9, 16] ?_; simp only [ad, lkp, zE, reduceCtorEq, J, ae, E]
    refine aU ?_
    refine ⟨by first | exact .inl rfl | exact .inr rfl, _, rfl, ?_⟩; simp only [fzV, fz1, fzC, List.map_cons, List.map_nil, ad, lkp, zE, reduceCtorEq, J, ae, E]
    refine VLE.of_eq ?_
    refine congrArg (fun n => AV.one (AC.int IntKind.i64 n)) ?_
    first
    | (rw [if_pos (jY (k := k) (by omega) (by omega)), mV (k := k) (by omega) (by omega) hq]; done)
    | (rw [if_neg (l9 hq (by omega))]; done)
   ·(try simp only [zB, reduceCtorEq] at hc11)
    refine aT ?_
    refine hK8 _ ?_; clear hK8; refine ai [0, 1, 5, 7, 8, 9, 16] ?_; simp only [ad, lkp, zE, reduceCtorEq, J, ae, E]
    refine ao hP hN rfl ?_
    iterate 2 (refine ag rfl fun K0 aa => ?_; simp only [zE, op1, ev, lkp, am, ak, aJ, aK, aI, ay, aH, aX, reduceCtorEq, J, E, U, Z, V, Y, Tryd.td3]; (repeat refine And.intro (by first | omega | assumption | exact rfl) ?_); refine aa _ ?_; clear aa K0; simp only [put, app, af, aj, zE, zS, E])
    refine aq ?_
    refine ⟨_, _, ?_, aY [0, 1, 7, 8], k + 1, by omega, fun q hq2 => ?_, rfl, rfl⟩
    · omega
    · by_cases e : q = k
      · rw [e]; intro hh; simp_all
      · exact hq q (by omega)
  ·(try simp only [zB, reduceCtorEq] at hc7)
   refine cm ?_
   refine hK2 _ ?_; clear hK2; refine ai [0, 1, 7, 8, 9] ?_; simp only [ad, lkp, zE, reduceCtorEq, J, ae, E]
   refine ah fun K13 hK13 => ?_
   refine ao hP hN rfl ?_
   (refine ag rfl fun K0 aa => ?_; simp only [zE, op1, ev, lkp, am, ak, ev, reduceCtorEq, J, E, U, Z, V, Y, Tryd.td3]; refine aa _ ?_; clear aa K0; simp only [put, app, af, aj, zE, zS, E])
   refine aq ?_
   refine hK13 _ ?_; clear hK13; refine ai [0, 1, 4, 7, 8, 9] ?_; simp only [ad, lkp, zE, reduceCtorEq, J, ae, E]
   refine aU ?_
   refine ⟨by first | exact .inl rfl | exact .inr rfl, _, rfl, ?_⟩; simp only [fzV, fz1, fzC, List.map_cons, List.map_nil, ad, lkp, zE, reduceCtorEq, J, ae, E]
   refine VLE.of_eq ?_
   refine congrArg (fun n => AV.one (AC.int IntKind.i64 n)) ?_
   first
   | (rw [if_pos (jY (k := k) (by omega) (by omega)), mV (k := k) (by omega) (by omega) hq]; done)
   | (rw [if_neg (l9 hq (by omega))]; done)
end Go.Proofs.YtceafldjjedhcaaDoor
namespace Go.Proofs.YtceafldjjedhcaaDoor
open Go Go.AV
open Nat renaming reduceEqDiff → J, reduceAdd → E, reduceLeDiff → U, reduceLT → Z, reduceMul → V, reduceSub → Y
open List renaming set_cons_zero → aw, set_cons_succ → au
set_option maxRecDepth 100000 in
theorem qe (xs : List Int) (x : Int) : cq Tryd.prog 31 [.one (.list (.int .i64) xs), .one (.int .i64 x)] (.one (.bool (decide (x ∈ xs)))) := by
 refine bt Tryd.func31 rfl (by kernel_rfl) (Nat.le_of_ble_eq_true rfl) rfl fun C hP hN hB => ?_
 replace hN : C.N = 9 := hN
 simp only [ae, E]
 refine ah fun K1 hK1 => ?_
 refine ao hP hN rfl ?_
 (refine ag rfl fun K0 aa => ?_; simp only [zE, op1, ev, lkp, am, ak, ev, reduceCtorEq, J, E, U, Z, V, Y, Tryd.td4]; refine aa _ ?_; clear aa K0; simp only [put, app, af, aj, zE, zS, E])
 refine aq ?_
 refine hK1 _ ?_; clear hK1; refine ai [0, 1, 4] ?_; simp only [ad, lkp, zE, reduceCtorEq, J, ae, E]
 refine ah fun K2 hK2 => ?_
 refine ao hP hN rfl ?_
 iterate 2 (refine ag rfl fun K0 aa => ?_; simp only [zE, op1, ev, lkp, am, ak, ev, reduceCtorEq, J, E, U, Z, V, Y, Tryd.el25, Tryd.td25, Tryd.td3]; refine aa _ ?_; clear aa K0; simp only [put, app, af, aj, zE, zS, E])
 refine ag rfl fun K0 aa => ?_
 refine aW (h := aF (uS xs x)) rfl rfl (by first | exact rfl | (simp only [ev, ad, lkp, zE, reduceCtorEq, J, ae, E]; exact rfl)) (by simp only [zE, zG, op1, ev, lkp, am, ak, ax, acs, bf, mv1, mvC, Ty.dflt, reduceCtorEq, J, E, U, Z, V, Y]) ?_
 refine aa _ ?_; clear aa K0; simp only [put, app, af, aj, zE, zS, E]
 iterate 2 (refine ag rfl fun K0 aa => ?_; simp only [zE, op1, ev, lkp, am, ak, aJ, aK, aI, ay, aH, aX, reduceCtorEq, J, E, U, Z, V, Y, Tryd.td3, Tryd.td4]; (repeat refine And.intro (by first | omega | assumption | exact rfl) ?_); refine aa _ ?_; clear aa K0; simp only [put, app, af, aj, zE, zS, E])
 refine aq ?_
 refine hK2 _ ?_; clear hK2; refine ai [0, 1, 4] ?_; simp only [ad, lkp, zE, reduceCtorEq, J, ae, E]
 refine aU ?_
 refine ⟨by first | exact .inl rfl | exact .inr rfl, _, rfl, ?_⟩; simp only [fzV, fz1, fzC, List.map_cons, List.map_nil, ad, lkp, zE, reduceCtorEq, J, ae, E]
 refine VLE.of_eq ?_
 refine congrArg (fun b => AV.one (AC.bool b)) ?_
 by_cases h : x ∈ xs
 · rw [if_pos h]; simp [h]; try omega
 · rw [if_neg h]; simp [h]
end Go.Proofs.YtceafldjjedhcaaDoor
namespace Go.Proofs.YtceafldjjedhcaaDoor
open Go Go.AV
open Nat renaming reduceEqDiff → J, reduceAdd → E, reduceLeDiff → U, reduceLT → Z, reduceMul → V, reduceSub → Y
open List renaming set_cons_zero → aw, set_cons_succ → au
set_option maxRecDepth 100000 in
theorem w7 (n : Int) (h0 : 0 ≤ n) (h1 : n ≤ 1000000) : tc Tryd.prog 41 [.one .nils, .one (.int .i64 n)] (.int .i64) 3 (([] : List Int)) := by
 refine jF Tryd.func41 rfl (by kernel_rfl) (Nat.le_of_ble_eq_true rfl) rfl fun C hP hN hB => ?_
 replace hN : C.N = 27 := hN
 simp only [ae, E]
 refine ah fun K1 hK1 => ?_
 refine ao hP hN rfl ?_
 (refine ag rfl fun K0 aa => ?_; simp only [zE, op1, ev, lkp, am, ak, ev, reduceCtorEq, J, E, U, Z, V, Y, Tryd.el25, Tryd.td25]; refine aa _ ?_; clear aa K0; simp only [put, app, af, aj, zE, zS, E])
 refine aq ?_
 refine hK1 _ ?_; clear hK1; refine ai [0, 1, 4] ?_; simp only [ad, lkp, zE, reduceCtorEq, J, ae, E]
 refine ah fun K2 hK2 => ?_
 refine ah fun K3 hK3 => ?_
 refine ao hP hN rfl ?_
 iterate 2 (refine ag rfl fun K0 aa => ?_; simp only [zE, op1, ev, lkp, am, ak, aJ, aK, aI, ay, aH, aX, reduceCtorEq, J, E, U, Z, V, Y, Tryd.td3, Tryd.td4]; (repeat refine And.intro (by first | omega | assumption | exact rfl) ?_); refine aa _ ?_; clear aa K0; simp only [put, app, af, aj, zE, zS, E])
 refine aq ?_
 refine hK3 _ ?_; clear hK3; refine ai [0, 1, 4, 6] ?_; simp only [ad, lkp, zE, reduceCtorEq, J, ae, E]
 refine aL (by simp only [ev, ad, lkp, zE, reduceCtorEq, J, ae, E]; exact rfl) (fun hc4 => ?_) (fun hc4 => ?_)
 · exfalso; (try simp only [zB, reduceCtorEq] at hc4); all_goals (first | (cases hc4; done) | omega | (simp at hc4; done) | (simp_all; done))
 ·(try simp only [zB, reduceCtorEq] at hc4)
  refine aT ?_
  refine hK2 _ ?_; clear hK2; refine ai [0, 1, 4, 6] ?_; simp only [ad, lkp, zE, reduceCtorEq, J, ae, E]
  refine ah fun K5 hK5 => ?_
  refine ah fun K6 hK6 => ?_
  refine ao hP hN rfl ?_
  iterate 8 (refine ag rfl fun K0 aa => ?_; simp only [zE, op1, ev, lkp, am, ak, aP, bT, bC, bu, bv, bP, Nat.div_one, aV, bz, Ty.size, aM, dite_true, aJ, aK, aI, ay, aH, aX, reduceCtorEq, J, E, U, Z, V, Y, Tryd.el25, Tryd.td25, Tryd.td3]; (repeat refine And.intro (by first | omega | assumption | exact rfl) ?_); (first | refine aa _ ?_ | refine Or.inl (aa _ ?_)); clear aa K0; simp only [put, app, af, aj, zE, zS, E])
  refine aq ?_
  refine hK6 _ ?_; clear hK6; refine ai [0, 1, 4, 6] ?_; simp only [ad, lkp, zE, reduceCtorEq, J, ae, E]
  refine ah fun K7 hK7 => ?_
  refine ao hP hN rfl ?_
  iterate 2 (refine ag rfl fun K0 aa => ?_; simp only [zE, op1, ev, lkp, am, ak, aJ, aK, aI, ay, aH, aX, reduceCtorEq, J, E, U, Z, V, Y, Tryd.td3, Tryd.td4]; (repeat refine And.intro (by first | omega | assumption | exact rfl) ?_); refine aa _ ?_; clear aa K0; simp only [put, app, af, aj, zE, zS, E])
  refine aq ?_
  refine hK7 _ ?_; clear hK7; refine ai [0, 1, 4, 6, 16] ?_; simp only [ad, lkp, zE, reduceCtorEq, J, ae, E]
  refine aL (by simp only [ev, ad, lkp, zE, reduceCtorEq, J, ae, E]; exact rfl) (fun hc8 => ?_) (fun hc8 => ?_)
  ·(try simp only [zB, reduceCtorEq] at hc8)
   refine ao hP hN rfl ?_
   iterate 10 (refine ag rfl fun K0 aa => ?_; simp only [zE, op1, ev, lkp, am, ak, aP, bT, bC, bu, bv, bP, Nat.div_one, aV, bz, Ty.size, aM, dite_true, i6, bnd, reduceCtorEq, J, E, U, Z, V, Y, Tryd.el25, Tryd.td25, Tryd.td3]; (repeat refine And.intro (by first | omega | assumption | exact rfl) ?_); (first | refine aa _ ?_ | refine Or.inl (aa _ ?_)); clear aa K0; simp only [put, app, af, aj, zE, zS, E])
   refine aq ?_
   refine hK5 _ ?_; clear hK5; refine ai [0, 1, 4, 6, 16] ?_; simp only [ad, lkp, zE, reduceCtorEq, J, ae, E]
   refine ah fun K9 hK9 => ?_
   first | (refine eP 0 (.int .i64) 3 (by decide) rfl ?_; simp only [List.length_cons, List.length_nil, List.cons_append, List.nil_append, Nat.zero_add, E]) | skip
   refine ao hP hN rfl ?_
   iterate 2 (refine ag rfl fun K0 aa => ?_; simp only [zE, op1, ev, lkp, am, ak, ev, reduceCtorEq, J, E, U, Z, V, Y, Tryd.el25, Tryd.td25]; refine aa _ ?_; clear aa K0; simp only [put, app, af, aj, zE, zS, E])
   refine aq ?_
   refine hK9 _ ?_; clear hK9; refine ai [0, 1, 4, 6, 16] ?_; simp only [ad, lkp, zE, reduceCtorEq, J, ae, E]
   refine aU ?_
   refine ⟨by first | exact .inl rfl | exact .inr rfl, _, rfl, _, _, rfl, ?_⟩
   first | rfl | simp
  ·(try simp only [zB, reduceCtorEq] at hc8)
   refine aT ?_
   refine hK5 _ ?_; clear hK5; refine ai [0, 1, 4, 6, 16] ?_; simp only [ad, lkp, zE, reduceCtorEq, J, ae, E]
   refine ah fun K10 hK10 => ?_
   first | (refine eP 0 (.int .i64) 3 (by decide) rfl ?_; simp only [List.length_cons, List.length_nil, List.cons_append, List.nil_append, Nat.zero_add, E]) | skip
   refine ao hP hN rfl ?_
   iterate 2 (refine ag rfl fun K0 aa => ?_; simp only [zE, op1, ev, lkp, am, ak, ev, reduceCtorEq, J, E, U, Z, V, Y, Tryd.el25, Tryd.td25]; refine aa _ ?_; clear aa K0; simp only [put, app, af, aj, zE, zS, E])
   refine aq ?_
   refine hK10 _ ?_; clear hK10; refine ai [0, 1, 4, 6, 16] ?_; simp only [ad, lkp, zE, reduceCtorEq, J, ae, E]
   refine aU ?_
   refine ⟨by first | exact .inl rfl | exact .inr rfl, _, rfl, _, _, rfl, ?_⟩
   first | rfl | simp
end Go.Proofs.YtceafldjjedhcaaDoor
namespace Go.Proofs.YtceafldjjedhcaaDoor
open Go Go.AV
open Nat renaming reduceEqDiff → J, reduceAdd → E, reduceLeDiff → U, reduceLT → Z, reduceMul → V, reduceSub → Y
open List renaming set_cons_zero → aw, set_cons_succ → au
set_option maxRecDepth 100000 in
theorem u5 (ls : List (List Int)) (hb : ls.flatten.length ≤ 1000000) : cq Tryd.prog 32 [.one (.list (.list (.int .i64)) ls)] (.one (.list (.int .i64) ls.flatten)) := by
 refine bt Tryd.func32 rfl (by kernel_rfl) (Nat.le_of_ble_eq_true rfl) rfl fun C hP hN hB => ?_
 replace hN : C.N = 36 := hN
 simp only [ae, E]
 refine jD 0 rfl fun hf0 => ?_; simp only [lkp, if_true, if_false, reduceCtorEq, J, eq_self, Nat.one_ne_zero, Nat.zero_ne_one, nZ, lP, mw, Fit, and_true, implies_true, true_and] at hf0
 refine ah fun K1 hK1 => ?_
 refine ao hP hN rfl ?_
 (refine ag rfl fun K0 aa => ?_; simp only [zE, op1, ev, lkp, am, ak, ev, reduceCtorEq, J, E, U, Z, V, Y, Tryd.el25, Tryd.td25]; refine aa _ ?_; clear aa K0; simp only [put, app, af, aj, zE, zS, E])
 refine aq ?_
 refine hK1 _ ?_; clear hK1; refine ai [0, 2] ?_; simp only [ad, lkp, zE, reduceCtorEq, J, ae, E]
 refine ah fun K2 hK2 => ?_
 refine ao hP hN rfl ?_
 (refine ag rfl fun K0 aa => ?_; simp only [zE, op1, ev, lkp, am, ak, ev, reduceCtorEq, J, E, U, Z, V, Y, Tryd.td3]; refine aa _ ?_; clear aa K0; simp only [put, app, af, aj, zE, zS, E])
 refine aq ?_
 refine hK2 _ ?_; clear hK2; refine ai [0, 2, 3] ?_; simp only [ad, lkp, zE, reduceCtorEq, J, ae, E]
 refine ah fun K3 hK3 => ?_
 refine ah fun K4 hK4 => ?_
 refine ao hP hN rfl ?_
 iterate 3 (refine ag rfl fun K0 aa => ?_; simp only [zE, op1, ev, lkp, am, ak, aP, bT, bC, bu, bv, bP, Nat.div_one, aV, bz, Ty.size, aM, dite_true, reduceCtorEq, J, E, U, Z, V, Y, Tryd.el22, Tryd.td22, Tryd.td3]; (repeat refine And.intro (by first | omega | assumption | exact rfl) ?_); (first | refine aa _ ?_ | refine Or.inl (aa _ ?_)); clear aa K0; simp only [put, app, af, aj, zE, zS, E])
 refine aq ?_
 refine hK4 _ ?_; clear hK4; refine ai [0, 2, 3, 9, 10, 11] ?_; simp only [ad, lkp, zE, reduceCtorEq, J, ae, E]
 refine b8 ?_
 refine cj (fun n5 s5 => ∃ (k : Nat), (k ≤ ls.length) ∧ n5 = ls.length - k ∧ s5 = { env := [(0, .one (.list (.list (.int .i64)) ls)), (3, .one (.int .i64 (((ls.take k).flatten.length : Nat) : Int))), (9, .one (.list (.list (.int .i64)) ls)), (10, .one (.int .i64 (ls.length : Int))), (11, .one (.int .i64 (k : Int)))], L := [] }) ?_ ?_
 ·exact ⟨_, _, aY [0, 3, 9, 10, 11], 0, Nat.zero_le _, rfl, rfl⟩
 ·rintro n5 s5 ⟨k, hk, rfl, rfl⟩
  refine ah fun K6 hK6 => ?_
  refine ao hP hN rfl ?_
  (refine ag rfl fun K0 aa => ?_; simp only [zE, op1, ev, lkp, am, ak, aJ, aK, aI, ay, aH, aX, reduceCtorEq, J, E, U, Z, V, Y, Tryd.td3]; (repeat refine And.intro (by first | omega | assumption | exact rfl) ?_); refine aa _ ?_; clear aa K0; simp only [put, app, af, aj, zE, zS, E])
  refine aq ?_
  refine hK6 _ ?_; clear hK6; refine ai [0, 3, 9, 10, 11, 12] ?_; simp only [ad, lkp, zE, reduceCtorEq, J, ae, E]
  refine ah fun K7 hK7 => ?_
  refine aL (by simp only [ev, ad, lkp, zE, reduceCtorEq, J, ae, E]; exact rfl) (fun hc8 => ?_) (fun hc8 => ?_)
  ·(try simp only [zB, reduceCtorEq] at hc8)
   refine aT ?_
   refine hK7 _ ?_; clear hK7; refine ai [0, 3, 9, 10, 11, 12] ?_; simp only [ad, lkp, zE, reduceCtorEq, J, ae, E]
   refine ah fun K9 hK9 => ?_
   refine b8 ?_
   refine ah fun K10 hK10 => ?_
   refine ao hP hN rfl ?_
   iterate 3 (refine ag rfl fun K0 aa => ?_; simp only [zE, op1, ev, lkp, am, ak, aS, zG, Ty.dflt, Ty.size, Nat.mul_one, ne_eq, not_false_eq_true, Int.natCast_one, Int.mul_one, aE, aC, aD, acs, az, reduceCtorEq, J, E, U, Z, V, Y, Tryd.el22, Tryd.el25, Tryd.td22, Tryd.td25]; (repeat refine And.intro (by first | omega | assumption | exact rfl) ?_); refine aa _ ?_; clear aa K0; simp only [put, app, af, aj, zE, zS, E])
   refine aq ?_
   refine hK10 _ ?_; clear hK10; refine ai [0, 3, 5, 9, 10, 11, 12] ?_; simp only [ad, lkp, zE, reduceCtorEq, J, ae, E]
   refine ah fun K11 hK11 => ?_
   have hfl := gf ls (k + 1); have hfe : (ls.take (k + 1)).flatten.length = (ls.take k).flatten.length + (ls.getD k []).length := by rw [fo ls (by omega), List.length_append]
   refine ao hP hN rfl ?_
   iterate 5 (refine ag rfl fun K0 aa => ?_; simp only [zE, op1, ev, lkp, am, ak, aP, bT, bC, bu, bv, bP, Nat.div_one, aV, bz, Ty.size, aM, dite_true, aJ, aK, aI, ay, aH, aX, reduceCtorEq, J, E, U, Z, V, Y, Tryd.el25, Tryd.td25, Tryd.td3]; (repeat refine And.intro (by first | omega | assumption | exact rfl) ?_); (first | refine aa _ ?_ | refine Or.inl (aa _ ?_)); clear aa K0; simp only [put, app, af, aj, zE, zS, E])
   refine aq ?_
   refine hK11 _ ?_; clear hK11; refine ai [0, 3, 5, 9, 10, 11, 12] ?_; simp only [ad, lkp, zE, reduceCtorEq, J, ae, E]
   refine ah fun K12 hK12 => ?_
   refine ao hP hN rfl ?_
   iterate 2 (refine ag rfl fun K0 aa => ?_; simp only [zE, op1, ev, lkp, am, ak, aJ, aK, aI, ay, aH, aX, reduceCtorEq, J, E, U, Z, V, Y, Tryd.td3, Tryd.td4]; (repeat refine And.intro (by first | omega | assumption | exact rfl) ?_); refine aa _ ?_; clear aa K0; simp only [put, app, af, aj, zE, zS, E])
   refine aq ?_
   refine hK12 _ ?_; clear hK12; refine ai [0, 3, 5, 9, 10, 11, 12, 20] ?_; simp only [ad, lkp, zE, reduceCtorEq, J, ae, E]
   refine aL (by simp only [ev, ad, lkp, zE, reduceCtorEq, J, ae, E]; exact rfl) (fun hc13 => ?_) (fun hc13 => ?_)
   · exfalso; (try simp only [zB, reduceCtorEq] at hc13); all_goals (first | (cases hc13; done) | omega | (simp at hc13; done) | (simp_all; done))
   ·(try simp only [zB, reduceCtorEq] at hc13)
    refine aT ?_
    refine hK9 _ ?_; clear hK9; refine ai [0, 3, 5, 9, 10, 11, 12, 20] ?_; simp only [ad, lkp, zE, reduceCtorEq, J, ae, E]
    refine ao hP hN rfl ?_
    iterate 2 (refine ag rfl fun K0 aa => ?_; simp only [zE, op1, ev, lkp, am, ak, aJ, aK, aI, ay, aH, aX, reduceCtorEq, J, E, U, Z, V, Y, Tryd.td3]; (repeat refine And.intro (by first | omega | assumption | exact rfl) ?_); refine aa _ ?_; clear aa K0; simp only [put, app, af, aj, zE, zS, E])
    refine aq ?_
    refine ⟨_, _, ?_, aY [0, 3, 9, 10, 11], k + 1, by omega, rfl, ?_⟩
    · omega
    · rw [hfe]; simp only [Int.natCast_add]; rfl
  ·(try simp only [zB, reduceCtorEq] at hc8)
   refine cm ?_
   refine hK3 _ ?_; clear hK3; refine ai [0, 3, 9, 10, 11, 12] ?_; simp only [ad, lkp, zE, reduceCtorEq, J, ae, E]
   refine ah fun K14 hK14 => ?_
   have hfl := gf ls k
   refine ao hP hN rfl ?_
   (refine ag rfl fun K0 aa => ?_; simp only [zE, op1, ev, lkp, am, ak, ev, reduceCtorEq, J, E, U, Z, V, Y, Tryd.td3]; refine aa _ ?_; clear aa K0; simp only [put, app, af, aj, zE, zS, E])
   refine ag rfl fun K0 aa => ?_
   refine aW (h := nk (w7 (((ls.take k).flatten.length : Nat) : Int) (by omega) (by omega))) rfl rfl (by first | exact rfl | (simp only [ev, ad, lkp, zE, reduceCtorEq, J, ae, E]; exact rfl)) (by simp only [zE, zG, op1, ev, lkp, am, ak, ax, acs, bf, mv1, mvC, Ty.dflt, reduceCtorEq, J, E, U, Z, V, Y]) ?_
   refine aa _ ?_; clear aa K0; simp only [put, app, af, aj, zE, zS, E]
   (refine ag rfl fun K0 aa => ?_; simp only [zE, op1, ev, lkp, am, ak, ev, reduceCtorEq, J, E, U, Z, V, Y, Tryd.el25, Tryd.td25]; refine aa _ ?_; clear aa K0; simp only [put, app, af, aj, zE, zS, E])
   refine aq ?_
   refine hK14 _ ?_; clear hK14; refine ai [0, 3, 6, 9, 10, 11, 12] ?_; simp only [ad, lkp, zE, reduceCtorEq, J, ae, E]
   refine ah fun K15 hK15 => ?_
   refine ah fun K16 hK16 => ?_
   refine ao hP hN rfl ?_
   iterate 3 (refine ag rfl fun K0 aa => ?_; simp only [zE, op1, ev, lkp, am, ak, aP, bT, bC, bu, bv, bP, Nat.div_one, aV, bz, Ty.size, aM, dite_true, reduceCtorEq, J, E, U, Z, V, Y, Tryd.el22, Tryd.td22, Tryd.td3]; (repeat refine And.intro (by first | omega | assumption | exact rfl) ?_); (first | refine aa _ ?_ | refine Or.inl (aa _ ?_)); clear aa K0; simp only [put, app, af, aj, zE, zS, E])
   refine aq ?_
   refine hK16 _ ?_; clear hK16; refine ai [0, 3, 6, 9, 10, 11, 12, 25, 26, 27] ?_; simp only [ad, lkp, zE, reduceCtorEq, J, ae, E]
   refine b8 ?_
   refine cj (fun n17 s17 => ∃ (k : Nat) (v : Nat), (k ≤ ls.length) ∧ n17 = ls.length - k ∧ s17 = { env := [(6, .one (.row 0 v)), (25, .one (.list (.list (.int .i64)) ls)), (26, .one (.int .i64 (ls.length : Int))), (27, .one (.int .i64 (k : Int)))], L := [.row (.int .i64) 3 v (ls.take k).flatten] }) ?_ ?_
   ·exact ⟨_, _, aY [6, 25, 26, 27], 0, 0, Nat.zero_le _, rfl, rfl⟩
   ·rintro n17 s17 ⟨k, v, hk, rfl, rfl⟩
    refine ah fun K18 hK18 => ?_
    refine ao hP hN rfl ?_
    (refine ag rfl fun K0 aa => ?_; simp only [zE, op1, ev, lkp, am, ak, aJ, aK, aI, ay, aH, aX, reduceCtorEq, J, E, U, Z, V, Y, Tryd.td3]; (repeat refine And.intro (by first | omega | assumption | exact rfl) ?_); refine aa _ ?_; clear aa K0; simp only [put, app, af, aj, zE, zS, E])
    refine aq ?_
    refine hK18 _ ?_; clear hK18; refine ai [6, 25, 26, 27, 28] ?_; simp only [ad, lkp, zE, reduceCtorEq, J, ae, E]
    refine ah fun K19 hK19 => ?_
    refine aL (by simp only [ev, ad, lkp, zE, reduceCtorEq, J, ae, E]; exact rfl) (fun hc20 => ?_) (fun hc20 => ?_)
    ·(try simp only [zB, reduceCtorEq] at hc20)
     refine aT ?_
     refine hK19 _ ?_; clear hK19; refine ai [6, 25, 26, 27, 28] ?_; simp only [ad, lkp, zE, reduceCtorEq, J, ae, E]
     refine ah fun K21 hK21 => ?_
     refine b8 ?_
     refine ah fun K22 hK22 => ?_
     refine ao hP hN rfl ?_
     iterate 3 (refine ag rfl fun K0 aa => ?_; simp only [zE, op1, ev, lkp, am, ak, aS, zG, Ty.dflt, Ty.size, Nat.mul_one, ne_eq, not_false_eq_true, Int.natCast_one, Int.mul_one, aE, aC, aD, acs, az, reduceCtorEq, J, E, U, Z, V, Y, Tryd.el22, Tryd.el25, Tryd.td22, Tryd.td25]; (repeat refine And.intro (by first | omega | assumption | exact rfl) ?_); refine aa _ ?_; clear aa K0; simp only [put, app, af, aj, zE, zS, E])
     refine aq ?_
     refine hK22 _ ?_; clear hK22; refine ai [6, 8, 25, 26, 27, 28] ?_; simp only [ad, lkp, zE, reduceCtorEq, J, ae, E]
     have hfl := gf ls (k + 1); have hfe : (ls.take (k + 1)).flatten.length = (ls.take k).flatten.length + (ls.getD k []).length := by rw [fo ls (by omega), List.length_append]
     refine ao hP hN rfl ?_
     iterate 4 (refine ag rfl fun K0 aa => ?_; simp only [zE, op1, ev, lkp, am, ak, aP, bT, bC, bu, bv, bP, Nat.div_one, aV, bz, Ty.size, aM, dite_true, reduceCtorEq, J, E, U, Z, V, Y, Tryd.el25, Tryd.td25]; (repeat refine And.intro (by first | omega | assumption | exact rfl) ?_); (first | refine aa _ ?_ | refine Or.inl (aa _ ?_)); clear aa K0; simp only [put, app, af, aj, zE, zS, E])
     refine aq ?_
     refine hK21 _ ?_; clear hK21; refine ai [6, 8, 25, 26, 27, 28] ?_; simp only [ad, lkp, zE, reduceCtorEq, J, ae, E]
     refine ao hP hN rfl ?_
     iterate 2 (refine ag rfl fun K0 aa => ?_; simp only [zE, op1, ev, lkp, am, ak, aJ, aK, aI, ay, aH, aX, reduceCtorEq, J, E, U, Z, V, Y, Tryd.td3]; (repeat refine And.intro (by first | omega | assumption | exact rfl) ?_); refine aa _ ?_; clear aa K0; simp only [put, app, af, aj, zE, zS, E])
     refine aq ?_
     refine ⟨_, _, ?_, aY [6, 25, 26, 27], k + 1, v + 1, by omega, rfl, ?_⟩
     · omega
     · rw [fo ls (by omega)]; rfl
    ·(try simp only [zB, reduceCtorEq] at hc20)
     refine cm ?_
     refine hK15 _ ?_; clear hK15; refine ai [6, 25, 26, 27, 28] ?_; simp only [ad, lkp, zE, reduceCtorEq, J, ae, E]
     refine ah fun K23 hK23 => ?_
     refine ao hP hN rfl ?_
     iterate 2 (refine ag rfl fun K0 aa => ?_; simp only [zE, op1, ev, lkp, am, ak, ev, reduceCtorEq, J, E, U, Z, V, Y, Tryd.el25, Tryd.td25]; refine aa _ ?_; clear aa K0; simp only [put, app, af, aj, zE, zS, E])
     refine aq ?_
     refine hK23 _ ?_; clear hK23; refine ai [2, 6, 25, 26, 27, 28] ?_; simp only [ad, lkp, zE, reduceCtorEq, J, ae, E]
     refine aU ?_
     refine ⟨by first | exact .inl rfl | exact .inr rfl, _, rfl, ?_⟩; simp only [fzV, fz1, fzC, List.map_cons, List.map_nil, ad, lkp, zE, reduceCtorEq, J, ae, E]
     refine VLE.of_eq ?_
     have htk : ls.take k = ls := by rw [show k = ls.length by omega, List.take_length]
     rw [htk]
end Go.Proofs.YtceafldjjedhcaaDoor
namespace Go.Proofs.YtceafldjjedhcaaDoor
open Go Go.AV
open Nat renaming reduceEqDiff → J, reduceAdd → E, reduceLeDiff → U, reduceLT → Z, reduceMul → V, reduceSub → Y
open List renaming set_cons_zero → aw, set_cons_succ → au
set_option maxRecDepth 100000 in
theorem fk (ls : List (List Int)) (hb : ls.flatten.length ≤ 1000000) : cq Tryd.prog 16 [.one (.list (.list (.int .i64)) ls)] (.one (.list (.int .i64) ls.flatten)) := by
 refine bt Tryd.func16 rfl (by kernel_rfl) (Nat.le_of_ble_eq_true rfl) rfl fun C hP hN hB => ?_
 replace hN : C.N = 5 := hN
 simp only [ae, E]
 refine ah fun K1 hK1 => ?_
 refine ao hP hN rfl ?_
 (refine ag rfl fun K0 aa => ?_; simp only [zE, op1, ev, lkp, am, ak, ev, reduceCtorEq, J, E, U, Z, V, Y, Tryd.el25, Tryd.td25]; refine aa _ ?_; clear aa K0; simp only [put, app, af, aj, zE, zS, E])
 refine aq ?_
 refine hK1 _ ?_; clear hK1; refine ai [0, 2] ?_; simp only [ad, lkp, zE, reduceCtorEq, J, ae, E]
 refine ah fun K2 hK2 => ?_
 refine ao hP hN rfl ?_
 (refine ag rfl fun K0 aa => ?_; simp only [zE, op1, ev, lkp, am, ak, ev, reduceCtorEq, J, E, U, Z, V, Y, Tryd.el22, Tryd.td22]; refine aa _ ?_; clear aa K0; simp only [put, app, af, aj, zE, zS, E])
 refine ag rfl fun K0 aa => ?_
 refine aW (h := aF (u5 ls hb)) rfl rfl (by first | exact rfl | (simp only [ev, ad, lkp, zE, reduceCtorEq, J, ae, E]; exact rfl)) (by simp only [zE, zG, op1, ev, lkp, am, ak, ax, acs, bf, mv1, mvC, Ty.dflt, reduceCtorEq, J, E, U, Z, V, Y]) ?_
 refine aa _ ?_; clear aa K0; simp only [put, app, af, aj, zE, zS, E]
 (refine ag rfl fun K0 aa => ?_; simp only [zE, op1, ev, lkp, am, ak, ev, reduceCtorEq, J, E, U, Z, V, Y, Tryd.el25, Tryd.td25]; refine aa _ ?_; clear aa K0; simp only [put, app, af, aj, zE, zS, E])
 refine aq ?_
 refine hK2 _ ?_; clear hK2; refine ai [0, 2] ?_; simp only [ad, lkp, zE, reduceCtorEq, J, ae, E]
 refine aU ?_
 refine ⟨by first | exact .inl rfl | exact .inr rfl, _, rfl, ?_⟩; simp only [fzV, fz1, fzC, List.map_cons, List.map_nil, ad, lkp, zE, reduceCtorEq, J, ae, E]
 refine VLE.of_eq ?_
 rfl
end Go.Proofs.YtceafldjjedhcaaDoor
