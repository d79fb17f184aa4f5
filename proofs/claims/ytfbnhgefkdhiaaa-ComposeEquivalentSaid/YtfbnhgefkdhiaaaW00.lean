/- Contracts of functions of this seat, each out of a walk through its code, and plain facts on what they compute. Conditions: those that each theorem names. -/
import Derived.Test.YtfbnhgefkdhiaaaTz
import Derived.Shelf.Lay
import Derived.Shelf.Slices.CompactI
import Derived.Shelf.Sort.Plain
set_option linter.unusedSimpArgs false
set_option linter.unusedVariables false
namespace Go.AV
theorem zB : (∀ (p : Prop) [Decidable p], (decide p = true) = p) ∧ (∀ (p : Prop) [Decidable p], (decide p = false) = ¬p) ∧ ((!true) = false) ∧ ((!false) = true) ∧ (∀ b : Bool, (¬(b = true)) = (b = false)) ∧ (∀ b : Bool, (¬(b = false)) = (b = true)) ∧ (∀ a b : Bool, ((!a) = b) = (a = !b)) ∧ (∀ a b : Int, ¬a < b ↔ b ≤ a) ∧ (∀ a b : Int, ¬a ≤ b ↔ b < a) ∧ ((true = false) = False) ∧ ((false = true) = False) ∧ (∀ {α : Sort 1} (a b : α), (a ≠ b) = ¬(a = b)) ∧ (∀ (p : Prop) [Decidable p], ¬¬p ↔ p) ∧ (∀ b : Bool, ((!b) = true) = (b = false)) ∧ (∀ {α : Type} [BEq α] [LawfulBEq α] {a b : α}, (a != b) = true ↔ a ≠ b) ∧ (∀ a b : Bool, ((a || b) = true) = (a = true ∨ b = true)) ∧ (∀ a b : Bool, ((a && b) = true) = (a = true ∧ b = true)) ∧ (∀ a b : Bool, ((a || b) = false) = (a = false ∧ b = false)) ∧ (∀ a b : Bool, ((a && b) = false) = (a = false ∨ b = false)) :=
  ⟨fun p _ => decide_eq_true_eq, fun p _ => by simp, rfl, rfl, by simp, by simp, by decide, fun a b => Int.not_lt, fun a b => Int.not_le, by simp, by simp, fun _ _ => rfl, fun p _ => Decidable.not_not, by simp, bne_iff_ne, by simp, by simp, by simp, by simp⟩
theorem zS {α : Type} : (∀ (a b : α) (l : List α), (a :: l).set 0 b = b :: l) ∧ ∀ (a b : α) (n : Nat) (l : List α), (a :: l).set (n + 1) b = a :: l.set n b := ⟨fun _ _ _ => rfl, fun _ _ _ _ => rfl⟩
end Go.AV
namespace Go.Proofs.Ytfbnhgefkdhiaaa
open Go Go.AV
open Nat (reduceEqDiff reduceAdd reduceLeDiff reduceLT reduceMul reduceSub)
open List (set_cons_zero set_cons_succ)
def Mof (d : Int × (Int × (List (List Int) × (List (List Int) × Unit)))) : Mly := ⟨d.1, d.2.1, d.2.2.1, d.2.2.2.1⟩
end Go.Proofs.Ytfbnhgefkdhiaaa
namespace Go.AV
open Nat (reduceEqDiff reduceAdd reduceLeDiff reduceLT reduceMul reduceSub)
open List (set_cons_zero set_cons_succ)
/-plain-/
/-! ### classes of states -/
def Mly.sigP (m : Mly) (cl : List Int) (a s : Nat) : List Int := (List.range 128).map fun i =>
  if i < a then (m.ot.getD s []).getD i 0 else if 64 ≤ i ∧ i < 64 + a then cl.getD ((m.nx.getD s []).getD (i - 64) 0).toNat 0 else 0
def Mly.sig (m : Mly) (cl : List Int) (s : Nat) : List Int := m.sigP cl m.inp.toNat s
def Mly.nextL (m : Mly) (cl : List Int) : List Int := (List.range m.nx.length).map fun s => (pos (difs (m.sig cl) m.nx.length) (m.sig cl s) : Int)
def Mly.nextN (m : Mly) (cl : List Int) : Int := (difs (m.sig cl) m.nx.length).length
def Mly.cls (m : Mly) : Nat → List Int
  | 0 => List.replicate m.nx.length 0
  | i + 1 => m.nextL (m.cls i)
def Mly.cnt (m : Mly) : Nat → Int
  | 0 => 1
  | i + 1 => m.nextN (m.cls i)
/-- The first round that divides nothing; at most N. -/
def Mly.stopF (m : Mly) : Nat → Nat → Nat
  | 0, i => i
  | f + 1, i => if m.cnt (i + 1) = m.cnt i then i else m.stopF f (i + 1)
def refN (m : Mly) (k : Int) : Nat := (min (max k 0) (m.nx.length : Int)).toNat
def Mly.refC (m : Mly) (k : Int) : List Int := m.cls (m.stopF (refN m k) 0)
def Mly.refK (m : Mly) (k : Int) : Int := m.stopF (refN m k) 0
theorem sigP_len (m : Mly) (cl : List Int) (a s : Nat) : (m.sigP cl a s).length = 128 := by simp [Mly.sigP]
theorem sigP_zero (m : Mly) (cl : List Int) (s : Nat) : List.replicate 128 (0 : Int) = m.sigP cl 0 s := by
  apply List.ext_getElem
  · simp [Mly.sigP]
  · intro i h1 h2
    simp only [Mly.sigP, List.getElem_replicate, List.getElem_map, List.getElem_range]
    rw [if_neg (by omega), if_neg (by omega)]
theorem sigP_set (m : Mly) (cl : List Int) {a : Nat} (s : Nat) (h : a < 64) :
    ((m.sigP cl a s).set a ((m.ot.getD s []).getD a 0)).set (64 + a) (cl.getD ((m.nx.getD s []).getD a 0).toNat 0) = m.sigP cl (a + 1) s := by
  apply List.ext_getElem
  · simp [Mly.sigP]
  · intro i h1 h2
    simp only [Mly.sigP, List.getElem_set, List.getElem_map, List.getElem_range]
    by_cases e1 : 64 + a = i
    · subst e1
      rw [if_pos rfl, if_neg (by omega), if_pos (by omega), show 64 + a - 64 = a by omega]
    · rw [if_neg e1]
      by_cases e2 : a = i
      · subst e2; rw [if_pos rfl, if_pos (by omega)]
      · rw [if_neg e2]
        by_cases e3 : i < a
        · rw [if_pos e3, if_pos (by omega)]
        · rw [if_neg e3, if_neg (by omega : ¬ i < a + 1)]
          by_cases e4 : 64 ≤ i ∧ i < 64 + a
          · rw [if_pos e4, if_pos (by omega)]
          · rw [if_neg e4, if_neg (by omega)]
theorem sig_eq {m : Mly} (hm : MOK m) {cl : List Int} {s t : Nat} : m.sig cl s = m.sig cl t ↔
    ∀ a : Nat, (a : Int) < m.inp → (m.ot.getD s []).getD a 0 = (m.ot.getD t []).getD a 0 ∧ cl.getD ((m.nx.getD s []).getD a 0).toNat 0 = cl.getD ((m.nx.getD t []).getD a 0).toNat 0 := by
  have h2 := hm.i2
  unfold Mly.sig Mly.sigP
  constructor
  · intro h a ha
    have h1 := congrArg (fun l => l.getD a 0) h
    have h3 := congrArg (fun l => l.getD (64 + a) 0) h
    have e1 : a < 128 := by omega
    have e2 : 64 + a < 128 := by omega
    simp only [mr_getD _ _ e1] at h1
    simp only [mr_getD _ _ e2] at h3
    rw [if_pos (by omega), if_pos (by omega)] at h1
    rw [if_neg (show ¬ (64 + a < m.inp.toNat) by omega), if_neg (show ¬ (64 + a < m.inp.toNat) by omega), if_pos (show 64 ≤ 64 + a ∧ 64 + a < 64 + m.inp.toNat by omega), if_pos (show 64 ≤ 64 + a ∧ 64 + a < 64 + m.inp.toNat by omega), show 64 + a - 64 = a by omega] at h3
    exact ⟨h1, h3⟩
  · intro h
    refine List.map_congr_left fun i hi => ?_
    by_cases e1 : i < m.inp.toNat
    · rw [if_pos e1, if_pos e1]; exact (h i (by omega)).1
    · rw [if_neg e1, if_neg e1]
      by_cases e2 : 64 ≤ i ∧ i < 64 + m.inp.toNat
      · rw [if_pos e2, if_pos e2]; exact (h (i - 64) (by omega)).2
      · rw [if_neg e2, if_neg e2]
theorem nextL_len (m : Mly) (cl : List Int) : (m.nextL cl).length = m.nx.length := by simp [Mly.nextL]
theorem cls_len (m : Mly) : ∀ i, (m.cls i).length = m.nx.length
  | 0 => by simp [Mly.cls]
  | i + 1 => nextL_len _ _
theorem nextL_at {m : Mly} {cl : List Int} {s : Nat} (h : s < m.nx.length) : (m.nextL cl).getD s 0 = (pos (difs (m.sig cl) m.nx.length) (m.sig cl s) : Int) := by
  simp [Mly.nextL, List.getD, h]
theorem nextL_rng {m : Mly} {cl : List Int} {s : Nat} (h : s < m.nx.length) : 0 ≤ (m.nextL cl).getD s 0 ∧ (m.nextL cl).getD s 0 < m.nx.length := by
  rw [nextL_at h]
  have h1 := pos_lt (difs_mem (f := m.sig cl) (k := m.nx.length).2 ⟨s, h, rfl⟩)
  have h2 := difs_le (m.sig cl) m.nx.length
  omega
theorem nextL_eq {m : Mly} {cl : List Int} {s t : Nat} (hs : s < m.nx.length) (ht : t < m.nx.length) : (m.nextL cl).getD s 0 = (m.nextL cl).getD t 0 ↔ m.sig cl s = m.sig cl t := by
  rw [nextL_at hs, nextL_at ht]
  constructor
  · intro h
    exact pos_inj (difs_mem.2 ⟨s, hs, rfl⟩) (difs_mem.2 ⟨t, ht, rfl⟩) (by omega)
  · intro h; rw [h]
theorem cls_rng {m : Mly} (hm : MOK m) : ∀ i s, s < m.nx.length → 0 ≤ (m.cls i).getD s 0 ∧ (m.cls i).getD s 0 < m.nx.length
  | 0, s, h => by
    have : (m.cls 0).getD s 0 = 0 := by simp [Mly.cls, List.getD, h]
    rw [this]; have := hm.n1; omega
  | i + 1, s, h => nextL_rng h
theorem cls_fine {m : Mly} (hm : MOK m) : ∀ i s t, s < m.nx.length → t < m.nx.length → (m.cls (i + 1)).getD s 0 = (m.cls (i + 1)).getD t 0 → (m.cls i).getD s 0 = (m.cls i).getD t 0
  | 0, s, t, hs, ht, _ => by simp [Mly.cls, List.getD, hs, ht]
  | i + 1, s, t, hs, ht, h => by
    have h1 := (nextL_eq (cl := m.cls (i + 1)) hs ht).1 h
    rw [sig_eq hm] at h1
    refine (nextL_eq hs ht).2 ((sig_eq hm).2 fun a ha => ⟨(h1 a ha).1, ?_⟩)
    have n1 := hm.nr s a hs ha
    have n2 := hm.nr t a ht ha
    exact cls_fine hm i _ _ (by omega) (by omega) (h1 a ha).2

/-! ### how many classes -/
def firsts (f : Nat → Int) (n : Nat) : List Nat := (List.range n).filter fun s => decide (∀ t, t < s → f t ≠ f s)
theorem difs_firsts {α : Type} [DecidableEq α] (g : Nat → α) (f : Nat → Int) : ∀ n, (∀ s t, s < n → t < n → (f s = f t ↔ g s = g t)) → (difs g n).length = (firsts f n).length
  | 0, _ => rfl
  | n + 1, h => by
    have ih := difs_firsts g f n fun s t hs ht => h s t (by omega) (by omega)
    rw [difs_succ]
    unfold firsts
    rw [List.range_succ, List.filter_append, List.length_append]
    have e0 : (firsts f n).length = ((List.range n).filter fun s => decide (∀ t, t < s → f t ≠ f s)).length := rfl
    rw [← e0, ← ih]
    by_cases hm : g n ∈ difs g n
    · rw [addG_in hm]
      obtain ⟨i, hi, e⟩ := difs_mem.1 hm
      have : ¬ (∀ t, t < n → f t ≠ f n) := fun hh => hh i hi ((h i n (by omega) (by omega)).2 e)
      simp [this]
    · rw [addG_out hm]
      have : ∀ t, t < n → f t ≠ f n := fun t ht e => hm (difs_mem.2 ⟨t, ht, (h t n (by omega) (by omega)).1 e⟩)
      rw [List.filter_cons, if_pos (by simpa using this)]
      simp
theorem cnt_firsts {m : Mly} (hm : MOK m) : ∀ i, m.cnt i = ((firsts (fun s => (m.cls i).getD s 0) m.nx.length).length : Int)
  | 0 => by
    have h1 := hm.n1
    have : firsts (fun s => (m.cls 0).getD s 0) m.nx.length = [0] := by
      obtain ⟨n, hn⟩ : ∃ n, m.nx.length = n + 1 := ⟨m.nx.length - 1, by omega⟩
      unfold firsts
      rw [hn, List.range_succ_eq_map, List.filter_cons]
      have hz : ∀ s, s < n + 1 → (m.cls 0).getD s 0 = 0 := fun s hs => by simp [Mly.cls, List.getD, hn, hs]
      rw [if_pos (by simp)]
      have : (List.map Nat.succ (List.range n)).filter (fun s => decide (∀ t, t < s → (m.cls 0).getD t 0 ≠ (m.cls 0).getD s 0)) = [] := by
        rw [List.filter_eq_nil_iff]
        intro s hs
        obtain ⟨k, hk, rfl⟩ := List.mem_map.1 hs
        simp only [decide_eq_true_eq]
        intro hh
        have hk' : k < n := by simpa using hk
        exact hh 0 (by omega) (by rw [hz 0 (by omega), hz (k + 1) (by omega)])
      rw [this]
    rw [this]; rfl
  | i + 1 => by
    show ((difs (m.sig (m.cls i)) m.nx.length).length : Int) = _
    rw [difs_firsts (m.sig (m.cls i)) (fun s => (m.cls (i + 1)).getD s 0)]
    intro s t hs ht
    exact nextL_eq hs ht
theorem firsts_nodup (f : Nat → Int) (n : Nat) : (firsts f n).Nodup := List.Pairwise.filter _ List.nodup_range
theorem firsts_sub {f g : Nat → Int} {n : Nat} (h : ∀ s t, s < n → t < n → g s = g t → f s = f t) : ∀ x, x ∈ firsts f n → x ∈ firsts g n := by
  intro x hx
  simp only [firsts, List.mem_filter, List.mem_range, decide_eq_true_eq] at hx ⊢
  exact ⟨hx.1, fun t ht e => hx.2 t ht (h t x (by omega) hx.1 e)⟩
theorem firsts_of (f : Nat → Int) (n : Nat) : ∀ s, s < n → ∃ r, r ∈ firsts f n ∧ f r = f s := by
  intro s
  induction s using Nat.strongRecOn with
  | _ s ih =>
    intro hs
    by_cases h : ∀ t, t < s → f t ≠ f s
    · exact ⟨s, by simp only [firsts, List.mem_filter, List.mem_range, decide_eq_true_eq]; exact ⟨hs, h⟩, rfl⟩
    · obtain ⟨t, ht⟩ := Classical.not_forall.1 h
      rw [Classical.not_imp, Classical.not_not] at ht
      obtain ⟨r, hr, e⟩ := ih t ht.1 (by omega)
      exact ⟨r, hr, e.trans ht.2⟩
theorem same_count {f g : Nat → Int} {n : Nat} (h : ∀ s t, s < n → t < n → g s = g t → f s = f t) (hc : (firsts g n).length = (firsts f n).length) : ∀ s t, s < n → t < n → f s = f t → g s = g t := by
  intro s t hs ht e
  have hback : ∀ x, x ∈ firsts g n → x ∈ firsts f n := by
    intro x hx
    by_cases hm : x ∈ firsts f n
    · exact hm
    · exfalso
      have := nodup_sub (x :: firsts f n) (firsts g n) (List.nodup_cons.2 ⟨hm, firsts_nodup f n⟩) (fun y hy => by
        rcases List.mem_cons.1 hy with rfl | hy
        · exact hx
        · exact firsts_sub h y hy)
      simp only [List.length_cons] at this
      omega
  obtain ⟨r, hr, e1⟩ := firsts_of g n s hs
  obtain ⟨q, hq, e2⟩ := firsts_of g n t ht
  have hr' := hback r hr
  have hq' := hback q hq
  have hrl : r < n := by simp only [firsts, List.mem_filter, List.mem_range] at hr; exact hr.1
  have hql : q < n := by simp only [firsts, List.mem_filter, List.mem_range] at hq; exact hq.1
  have e3 : f r = f q := (h r s hrl hs e1).trans (e.trans (h q t hql ht e2).symm)
  have : r = q := by
    simp only [firsts, List.mem_filter, List.mem_range, decide_eq_true_eq] at hr' hq'
    rcases Nat.lt_trichotomy r q with hlt | heq | hgt
    · exact absurd e3 (hq'.2 r hlt)
    · exact heq
    · exact absurd e3.symm (hr'.2 q hgt)
  rw [← e1, ← e2, this]

theorem stopF_spec {m : Mly} : ∀ f i, (∃ j, i ≤ j ∧ m.stopF f i = j ∧ j < i + f ∧ m.cnt (j + 1) = m.cnt j ∧ ∀ k, i ≤ k → k < j → m.cnt (k + 1) ≠ m.cnt k) ∨ (m.stopF f i = i + f ∧ ∀ k, i ≤ k → k < i + f → m.cnt (k + 1) ≠ m.cnt k)
  | 0, i => .inr ⟨rfl, fun k h1 h2 => by omega⟩
  | f + 1, i => by
    simp only [Mly.stopF]
    by_cases h : m.cnt (i + 1) = m.cnt i
    · rw [if_pos h]
      exact .inl ⟨i, Nat.le_refl _, rfl, by omega, h, fun k h1 h2 => by omega⟩
    · rw [if_neg h]
      rcases stopF_spec (m := m) f (i + 1) with ⟨j, h1, h2, h3, h4, h5⟩ | ⟨h1, h2⟩
      · refine .inl ⟨j, by omega, h2, by omega, h4, fun k k1 k2 => ?_⟩
        by_cases e : k = i
        · subst e; exact h
        · exact h5 k (by omega) k2
      · refine .inr ⟨by rw [h1]; omega, fun k k1 k2 => ?_⟩
        by_cases e : k = i
        · subst e; exact h
        · exact h2 k (by omega) (by omega)
theorem cnt_mono {m : Mly} (hm : MOK m) (i : Nat) : m.cnt i ≤ m.cnt (i + 1) := by
  rw [cnt_firsts hm, cnt_firsts hm]
  have := nodup_sub (firsts (fun s => (m.cls i).getD s 0) m.nx.length) (firsts (fun s => (m.cls (i + 1)).getD s 0) m.nx.length) (firsts_nodup _ _) (firsts_sub (cls_fine hm i))
  omega
theorem cnt_le {m : Mly} (hm : MOK m) (i : Nat) : m.cnt i ≤ m.nx.length := by
  rw [cnt_firsts hm]
  have : (firsts (fun s => (m.cls i).getD s 0) m.nx.length).length ≤ (List.range m.nx.length).length := List.length_filter_le _ _
  rw [List.length_range] at this; omega

/-- The classes of equivalent states. -/
def Mly.eqc (m : Mly) : List Int := m.refC 128
structure STAB (m : Mly) (c : List Int) : Prop where
  len : c.length = m.nx.length
  rng : ∀ s, s < m.nx.length → 0 ≤ c.getD s 0 ∧ c.getD s 0 < m.nx.length
  step : ∀ s t : Nat, s < m.nx.length → t < m.nx.length → c.getD s 0 = c.getD t 0 → ∀ a : Nat, (a : Int) < m.inp →
    (m.ot.getD s []).getD a 0 = (m.ot.getD t []).getD a 0 ∧ c.getD ((m.nx.getD s []).getD a 0).toNat 0 = c.getD ((m.nx.getD t []).getD a 0).toNat 0
theorem eqc_stop {m : Mly} (hm : MOK m) : ∃ j, m.eqc = m.cls j ∧ j < m.nx.length ∧ m.cnt (j + 1) = m.cnt j := by
  have hN : refN m 128 = m.nx.length := by unfold refN; have := hm.n2; omega
  have hn1 := hm.n1
  unfold Mly.eqc Mly.refC
  rw [hN]
  rcases stopF_spec (m := m) m.nx.length 0 with ⟨j, h1, h2, h3, h4, _⟩ | ⟨h1, h2⟩
  · exact ⟨j, by rw [h2], by omega, h4⟩
  · exfalso
    have key : ∀ k, k ≤ m.nx.length → (k : Int) + 1 ≤ m.cnt k := by
      intro k
      induction k with
      | zero => intro _; show (0 : Int) + 1 ≤ 1; decide
      | succ k ih =>
        intro hk
        have := ih (by omega)
        have h3 := cnt_mono hm k
        have h4 := h2 k (by omega) (by omega)
        omega
    have := key m.nx.length (Nat.le_refl _)
    have := cnt_le hm m.nx.length
    omega
theorem eqc_stab {m : Mly} (hm : MOK m) : STAB m m.eqc := by
  obtain ⟨j, h1, h2, h3⟩ := eqc_stop hm
  rw [h1]
  refine ⟨cls_len m j, cls_rng hm j, fun s t hs ht e => ?_⟩
  rw [cnt_firsts hm, cnt_firsts hm] at h3
  have := same_count (cls_fine hm j) (by omega) s t hs ht e
  exact (sig_eq hm).1 ((nextL_eq hs ht).1 this)

/-! ### equivalent states -/
def EQV (m : Mly) (s t : Int) : Prop := ∀ w : List Int, (∀ i : Nat, i < w.length → 0 ≤ w.getD i 0 ∧ w.getD i 0 < m.inp) → (m.go s w).2 = (m.go t w).2
theorem go_cons (m : Mly) (s a : Int) (w : List Int) : m.go s (a :: w) = ((m.go (m.nxt s a) w).1, m.out s a :: (m.go (m.nxt s a) w).2) := by
  have := go_append m s [a] w
  simp only [List.cons_append, List.nil_append] at this
  rw [this]
  have h1 : m.go s [a] = (m.nxt s a, [m.out s a]) := rfl
  rw [h1]; rfl
theorem syms_tail {w : List Int} {a n : Int} (h : ∀ i : Nat, i < (a :: w).length → 0 ≤ (a :: w).getD i 0 ∧ (a :: w).getD i 0 < n) : (0 ≤ a ∧ a < n) ∧ ∀ i : Nat, i < w.length → 0 ≤ w.getD i 0 ∧ w.getD i 0 < n :=
  ⟨h 0 (by simp), fun i hi => by have := h (i + 1) (by simpa using hi); simpa [List.getD] using this⟩
theorem stab_eqv {m : Mly} (hm : MOK m) {c : List Int} (hc : STAB m c) : ∀ (w : List Int) (s t : Int), 0 ≤ s → s < m.nx.length → 0 ≤ t → t < m.nx.length → c.getD s.toNat 0 = c.getD t.toNat 0 →
    (∀ i : Nat, i < w.length → 0 ≤ w.getD i 0 ∧ w.getD i 0 < m.inp) → (m.go s w).2 = (m.go t w).2
  | [], _, _, _, _, _, _, _, _ => rfl
  | a :: w, s, t, s0, s1, t0, t1, e, hw => by
    obtain ⟨ha, hw'⟩ := syms_tail hw
    rw [go_cons, go_cons]
    have h1 := hc.step s.toNat t.toNat (by omega) (by omega) e a.toNat (by omega)
    have n1 := hm.nr s.toNat a.toNat (by omega) (by omega)
    have n2 := hm.nr t.toNat a.toNat (by omega) (by omega)
    have h2 := stab_eqv hm hc w (m.nxt s a) (m.nxt t a) n1.1 n1.2 n2.1 n2.2 h1.2 hw'
    show m.out s a :: _ = m.out t a :: _
    rw [h2]
    congr 1
    exact h1.1
theorem eqv_step {m : Mly} {s t a : Int} (h : EQV m s t) (ha : 0 ≤ a ∧ a < m.inp) : m.out s a = m.out t a ∧ EQV m (m.nxt s a) (m.nxt t a) := by
  constructor
  · have := h [a] (fun i hi => by simp at hi; subst hi; exact ha)
    have h1 : (m.go s [a]).2 = [m.out s a] := rfl
    have h2 : (m.go t [a]).2 = [m.out t a] := rfl
    rw [h1, h2] at this
    simpa using this
  · intro w hw
    have := h (a :: w) (fun i hi => by
      cases i with
      | zero => exact ha
      | succ i => have := hw i (by simpa using hi); simpa [List.getD] using this)
    rw [go_cons, go_cons] at this
    exact (List.cons.inj this).2
theorem eqv_cls {m : Mly} (hm : MOK m) : ∀ (i : Nat) (s t : Nat), s < m.nx.length → t < m.nx.length → EQV m s t → (m.cls i).getD s 0 = (m.cls i).getD t 0
  | 0, s, t, hs, ht, _ => by simp [Mly.cls, List.getD, hs, ht]
  | i + 1, s, t, hs, ht, h => by
    refine (nextL_eq hs ht).2 ((sig_eq hm).2 fun a ha => ?_)
    obtain ⟨h1, h2⟩ := eqv_step h (a := (a : Int)) ⟨by omega, ha⟩
    refine ⟨by simpa [Mly.out] using h1, ?_⟩
    have n1 := hm.nr s a hs ha
    have n2 := hm.nr t a ht ha
    refine eqv_cls hm i _ _ (by omega) (by omega) ?_
    have e1 : m.nxt (s : Int) (a : Int) = (((m.nx.getD s []).getD a 0).toNat : Int) := by show (m.nx.getD s []).getD a 0 = _; omega
    have e2 : m.nxt (t : Int) (a : Int) = (((m.nx.getD t []).getD a 0).toNat : Int) := by show (m.nx.getD t []).getD a 0 = _; omega
    rw [e1, e2] at h2
    exact h2
/-- Two states are in one class just if they are equivalent. -/
theorem eqc_iff {m : Mly} (hm : MOK m) {s t : Int} (s0 : 0 ≤ s) (s1 : s < m.nx.length) (t0 : 0 ≤ t) (t1 : t < m.nx.length) : m.eqc.getD s.toNat 0 = m.eqc.getD t.toNat 0 ↔ EQV m s t := by
  constructor
  · intro h w hw
    exact stab_eqv hm (eqc_stab hm) w s t s0 s1 t0 t1 h hw
  · intro h
    obtain ⟨j, h1, _⟩ := eqc_stop hm
    rw [h1]
    exact eqv_cls hm j s.toNat t.toNat (by omega) (by omega) (by rw [Int.toNat_of_nonneg s0, Int.toNat_of_nonneg t0]; exact h)

theorem sigP_take (m : Mly) (cl : List Int) (a s : Nat) : (m.sigP cl a s).take 128 = m.sigP cl a s := List.take_of_length_le (by rw [sigP_len]; exact Nat.le_refl _)
theorem sigP_rng {m : Mly} (hm : MOK m) {cl : List Int} (hr : ∀ s, s < m.nx.length → 0 ≤ cl.getD s 0 ∧ cl.getD s 0 < m.nx.length) {a s : Nat} (hs : s < m.nx.length) (ha : (a : Int) ≤ m.inp) : KVok (.arr 128) (.arr (m.sigP cl a s)) := by
  refine ⟨sigP_len m cl a s, fun x hx => ?_⟩
  obtain ⟨i, hi, rfl⟩ := List.mem_map.1 hx
  have h2 := hm.n2
  split
  · have := hm.or s i hs (by omega); omega
  · split
    · have h1 := hm.nr s (i - 64) hs (by omega)
      have := hr ((m.nx.getD s []).getD (i - 64) 0).toNat (by omega)
      omega
    · omega
theorem next_old {m : Mly} {cl : List Int} {k : Nat} (hk : k < m.nx.length) (h : m.sig cl k ∈ difs (m.sig cl) k) : pos (difs (m.sig cl) m.nx.length) (m.sig cl k) = pos (difs (m.sig cl) k) (m.sig cl k) := by
  rw [difs_idx (m.sig cl) (i := k) (k := k + 1) (by omega) _ (by omega), difs_succ, addG_in h]
theorem next_new {m : Mly} {cl : List Int} {k : Nat} (hk : k < m.nx.length) (h : m.sig cl k ∉ difs (m.sig cl) k) : pos (difs (m.sig cl) m.nx.length) (m.sig cl k) = (difs (m.sig cl) k).length := by
  rw [difs_idx (m.sig cl) (i := k) (k := k + 1) (by omega) _ (by omega), difs_succ, addG_out h, pos_last h]
theorem stopF_at {m : Mly} {N j : Nat} (hj : j < N) (h : m.cnt (j + 1) = m.cnt j) (hq : ∀ q, q < j → m.cnt (q + 1) ≠ m.cnt q) : m.stopF N 0 = j := by
  rcases stopF_spec (m := m) N 0 with ⟨i, h1, h2, h3, h4, h5⟩ | ⟨h1, h2⟩
  · rw [h2]
    rcases Nat.lt_trichotomy i j with hlt | heq | hgt
    · exact absurd h4 (hq i hlt)
    · exact heq
    · exact absurd h (h5 j (by omega) hgt)
  · exact absurd h (h2 j (by omega) (by omega))
theorem stopF_end {m : Mly} {N : Nat} (hq : ∀ q, q < N → m.cnt (q + 1) ≠ m.cnt q) : m.stopF N 0 = N := by
  rcases stopF_spec (m := m) N 0 with ⟨i, h1, h2, h3, h4, h5⟩ | ⟨h1, h2⟩
  · exact absurd h4 (hq i (by omega))
  · omega
end Go.AV
namespace Go.AV
open Nat (reduceEqDiff reduceAdd reduceLeDiff reduceLT reduceMul reduceSub)
open List (set_cons_zero set_cons_succ)
/-plain-/
/-! ### the search through pairs of states -/
abbrev S3 := Int × Int × List Int
def encP (e : S3) : (Int × Int × Unit) × List Int × Unit := ((e.1, (e.2.1, ())), (e.2.2, ()))
def inS (l : List S3) (p q : Int) : Bool := l.any fun f => decide (f.1 = p) && decide (f.2.1 = q)
def stS (a b : Mly) (e : S3) (l : List S3) (x : Nat) : List S3 := if inS l (a.nxt e.1 x) (b.nxt e.2.1 x) = true then l else l ++ [(a.nxt e.1 x, b.nxt e.2.1 x, e.2.2 ++ [(x : Int)])]
def difS (a b : Mly) (e : S3) (x : Nat) : Bool := !decide (a.out e.1 x = b.out e.2.1 x)
def rowS (a b : Mly) (e : S3) (l : List S3) (x : Nat) : List S3 := (List.range x).foldl (stS a b e) l
def eS0 : S3 := (0, 0, [])
def srS (a b : Mly) : Nat → Nat → List S3 → Option (List Int)
  | 0, _, _ => none
  | f + 1, i, l => if i < l.length then
      match (List.range a.inp.toNat).find? (difS a b (l.getD i eS0)) with
      | some x => some ((l.getD i eS0).2.2 ++ [(x : Int)])
      | none => srS a b f (i + 1) (rowS a b (l.getD i eS0) l a.inp.toNat)
    else none
def fuS (a b : Mly) : Nat := a.nx.length * b.nx.length + 1
def seS (a b : Mly) (s t : Int) : Option (List Int) := srS a b (fuS a b) 0 [(s, t, [])]
theorem inS_iff {l : List S3} {p q : Int} : inS l p q = true ↔ ∃ e, e ∈ l ∧ e.1 = p ∧ e.2.1 = q := by
  simp [inS, List.any_eq_true]
theorem rowS_succ (a b : Mly) (e : S3) (l : List S3) (x : Nat) : rowS a b e l (x + 1) = stS a b e (rowS a b e l x) x := by
  unfold rowS; rw [List.range_succ, List.foldl_append]; rfl
theorem stS_pre (a b : Mly) (e : S3) (l : List S3) (x : Nat) : ∃ k, stS a b e l x = l ++ k := by
  unfold stS
  split
  · exact ⟨[], by simp⟩
  · exact ⟨_, rfl⟩
theorem rowS_pre (a b : Mly) (e : S3) (l : List S3) : ∀ x, ∃ k, rowS a b e l x = l ++ k
  | 0 => ⟨[], by simp [rowS]⟩
  | x + 1 => by
    obtain ⟨k1, h1⟩ := rowS_pre a b e l x
    obtain ⟨k2, h2⟩ := stS_pre a b e (rowS a b e l x) x
    exact ⟨k1 ++ k2, by rw [rowS_succ, h2, h1, List.append_assoc]⟩
theorem rowS_at (a b : Mly) (e : S3) {l : List S3} (x : Nat) {i : Nat} (h : i < l.length) : (rowS a b e l x).getD i eS0 = l.getD i eS0 := by
  obtain ⟨k, hk⟩ := rowS_pre a b e l x
  rw [hk]; simp [List.getD, List.getElem?_append_left h]
theorem rowS_ge (a b : Mly) (e : S3) (l : List S3) (x : Nat) : l.length ≤ (rowS a b e l x).length := by
  obtain ⟨k, hk⟩ := rowS_pre a b e l x
  rw [hk]; simp

structure WFS (a b : Mly) (l : List S3) : Prop where
  rng : ∀ e, e ∈ l → (0 ≤ e.1 ∧ e.1 < a.nx.length) ∧ 0 ≤ e.2.1 ∧ e.2.1 < b.nx.length
  len : ∀ e, e ∈ l → e.2.2.length ≤ l.length
  nd : (l.map fun e => e.1 * (b.nx.length : Int) + e.2.1).Nodup
theorem WFS.at_ {a b : Mly} {l : List S3} (h : WFS a b l) {i : Nat} (hi : i < l.length) : (0 ≤ (l.getD i eS0).1 ∧ (l.getD i eS0).1 < a.nx.length) ∧ 0 ≤ (l.getD i eS0).2.1 ∧ (l.getD i eS0).2.1 < b.nx.length := by
  refine h.rng _ ?_
  simp [List.getD, hi]
theorem WFS.wl {a b : Mly} {l : List S3} (h : WFS a b l) {i : Nat} (hi : i < l.length) : (l.getD i eS0).2.2.length ≤ l.length := by
  refine h.len _ ?_
  simp [List.getD, hi]
theorem code_lt {p q n m : Int} (hp : 0 ≤ p ∧ p < n) (hq : 0 ≤ q ∧ q < m) : 0 ≤ p * m + q ∧ p * m + q < n * m := by
  have h1 : 0 ≤ p * m := Int.mul_nonneg hp.1 (by omega)
  have h2 : (p + 1) * m ≤ n * m := Int.mul_le_mul_of_nonneg_right (by omega) (by omega)
  rw [Int.add_mul, Int.one_mul] at h2
  omega
theorem code_inj {p q p' q' m : Int} (hq : 0 ≤ q ∧ q < m) (hq' : 0 ≤ q' ∧ q' < m) (e : p * m + q = p' * m + q') : p = p' ∧ q = q' := by
  have h1 : (p * m + q) / m = p := by rw [Int.add_comm, Int.add_mul_ediv_right _ _ (by omega), Int.ediv_eq_zero_of_lt hq.1 hq.2]; omega
  have h2 : (p' * m + q') / m = p' := by rw [Int.add_comm, Int.add_mul_ediv_right _ _ (by omega), Int.ediv_eq_zero_of_lt hq'.1 hq'.2]; omega
  have : p = p' := by rw [← h1, ← h2, e]
  subst this
  exact ⟨rfl, by omega⟩
theorem WFS.le {a b : Mly} {l : List S3} (h : WFS a b l) : l.length ≤ a.nx.length * b.nx.length := by
  have := nodup_len (a.nx.length * b.nx.length) _ h.nd (fun x hx => by
    obtain ⟨e, he, rfl⟩ := List.mem_map.1 hx
    have hr := h.rng e he
    have := code_lt hr.1 hr.2
    rw [Int.natCast_mul]; exact this)
  simpa using this
theorem WFS.big {a b : Mly} (ha : MOK a) (hb : MOK b) {l : List S3} (h : WFS a b l) : l.length ≤ 16384 := by
  have h1 := h.le
  have h2 : a.nx.length * b.nx.length ≤ 128 * 128 := Nat.mul_le_mul ha.n2 hb.n2
  omega
theorem WFS.step {a b : Mly} (ha : MOK a) (hb : MOK b) (hi : a.inp = b.inp) {l : List S3} (h : WFS a b l) {e : S3} (he : (0 ≤ e.1 ∧ e.1 < a.nx.length) ∧ 0 ≤ e.2.1 ∧ e.2.1 < b.nx.length) (hw : e.2.2.length ≤ l.length) {x : Nat} (hx : (x : Int) < a.inp) : WFS a b (stS a b e l x) := by
  unfold stS
  split
  · exact h
  · rename_i hn
    have n1 := ha.nr e.1.toNat x (by omega) hx
    have n2 := hb.nr e.2.1.toNat x (by omega) (by omega)
    have n1' : 0 ≤ a.nxt e.1 x ∧ a.nxt e.1 x < a.nx.length := by simpa [Mly.nxt] using n1
    have n2' : 0 ≤ b.nxt e.2.1 x ∧ b.nxt e.2.1 x < b.nx.length := by simpa [Mly.nxt] using n2
    refine ⟨fun f hf => ?_, fun f hf => ?_, ?_⟩
    · rcases List.mem_append.1 hf with hf | hf
      · exact h.rng f hf
      · simp at hf; subst hf; exact ⟨n1', n2'⟩
    · simp only [List.length_append, List.length_cons, List.length_nil]
      rcases List.mem_append.1 hf with hf | hf
      · have := h.len f hf; omega
      · simp at hf; subst hf; simp; omega
    · rw [List.map_append, List.nodup_append]
      refine ⟨h.nd, by simp, fun u hu v hv => ?_⟩
      simp at hv; subst hv
      intro e'
      obtain ⟨f, hf, rfl⟩ := List.mem_map.1 hu
      have hr := h.rng f hf
      obtain ⟨e1, e2⟩ := code_inj hr.2 n2' e'
      exact hn (inS_iff.2 ⟨f, hf, e1, e2⟩)
theorem WFS.row {a b : Mly} (ha : MOK a) (hb : MOK b) (hi : a.inp = b.inp) {l : List S3} (h : WFS a b l) {i : Nat} (hil : i < l.length) : ∀ x : Nat, (x : Int) ≤ a.inp → WFS a b (rowS a b (l.getD i eS0) l x)
  | 0, _ => by simpa [rowS] using h
  | x + 1, hx => by
    rw [rowS_succ]
    have h1 := WFS.row ha hb hi h hil x (by omega)
    have h2 := rowS_ge a b (l.getD i eS0) l x
    have h3 := h.wl hil
    exact h1.step ha hb hi (h.at_ hil) (by omega) (by omega)
theorem wfs_one {a b : Mly} {s t : Int} (hs : 0 ≤ s ∧ s < a.nx.length) (ht : 0 ≤ t ∧ t < b.nx.length) : WFS a b [(s, t, [])] :=
  ⟨fun e he => by simp at he; subst he; exact ⟨hs, ht⟩, fun e he => by simp at he; subst he; simp, by simp⟩
theorem find_none {p : Nat → Bool} {n : Nat} (h : ∀ x, x < n → p x = false) : (List.range n).find? p = none := by
  rw [List.find?_eq_none]
  intro x hx
  have := h x (by simpa using hx)
  simp [this]
theorem find_some {p : Nat → Bool} {n x : Nat} (hx : x < n) (hp : p x = true) (h : ∀ y, y < x → p y = false) : (List.range n).find? p = some x := by
  rw [List.find?_eq_some_iff_getElem]
  refine ⟨hp, x, by simpa using hx, by simp, fun j hj => ?_⟩
  simp [h j hj]
theorem srS_end (a b : Mly) (f i : Nat) (l : List S3) (h : l.length ≤ i) : srS a b f i l = none := by
  cases f with
  | zero => rfl
  | succ f => simp only [srS]; rw [if_neg (by omega)]
theorem srS_next {a b : Mly} {f i : Nat} {l : List S3} (h : i < l.length) (hd : ∀ x, x < a.inp.toNat → difS a b (l.getD i eS0) x = false) : srS a b (f + 1) i l = srS a b f (i + 1) (rowS a b (l.getD i eS0) l a.inp.toNat) := by
  simp only [srS]; rw [if_pos h, find_none hd]
theorem srS_found {a b : Mly} {f i x : Nat} {l : List S3} (h : i < l.length) (hx : x < a.inp.toNat) (hp : difS a b (l.getD i eS0) x = true) (hd : ∀ y, y < x → difS a b (l.getD i eS0) y = false) : srS a b (f + 1) i l = some ((l.getD i eS0).2.2 ++ [(x : Int)]) := by
  simp only [srS]; rw [if_pos h, find_some hx hp hd]

/-! ### what it means -/
def EQ2 (a b : Mly) (s t : Int) : Prop := ∀ w : List Int, (∀ i : Nat, i < w.length → 0 ≤ w.getD i 0 ∧ w.getD i 0 < a.inp) → (a.go s w).2 = (b.go t w).2
structure TRS (a b : Mly) (s t : Int) (e : S3) : Prop where
  sy : ∀ i : Nat, i < e.2.2.length → 0 ≤ e.2.2.getD i 0 ∧ e.2.2.getD i 0 < a.inp
  l : (a.go s e.2.2).1 = e.1
  r : (b.go t e.2.2).1 = e.2.1
  o : (a.go s e.2.2).2 = (b.go t e.2.2).2
theorem syms_app {w : List Int} {x n : Int} (h : ∀ i : Nat, i < w.length → 0 ≤ w.getD i 0 ∧ w.getD i 0 < n) (hx : 0 ≤ x ∧ x < n) : ∀ i : Nat, i < (w ++ [x]).length → 0 ≤ (w ++ [x]).getD i 0 ∧ (w ++ [x]).getD i 0 < n := by
  intro i hi
  by_cases e : i < w.length
  · have := h i e
    simpa [List.getD, List.getElem?_append_left e] using this
  · have : i = w.length := by simp at hi; omega
    subst this
    simpa [List.getD] using hx
theorem TRS.next {a b : Mly} {s t : Int} {e : S3} (h : TRS a b s t e) {x : Nat} (hx : (x : Int) < a.inp) (hd : difS a b e x = false) : TRS a b s t (a.nxt e.1 x, b.nxt e.2.1 x, e.2.2 ++ [(x : Int)]) := by
  have ho : a.out e.1 x = b.out e.2.1 x := by simpa [difS] using hd
  refine ⟨syms_app h.sy ⟨by omega, hx⟩, ?_, ?_, ?_⟩
  · show (a.go s (e.2.2 ++ [(x : Int)])).1 = _
    rw [go_concat, h.l]
  · show (b.go t (e.2.2 ++ [(x : Int)])).1 = _
    rw [go_concat, h.r]
  · show (a.go s (e.2.2 ++ [(x : Int)])).2 = (b.go t (e.2.2 ++ [(x : Int)])).2
    rw [go_concat, go_concat, h.l, h.r, h.o, ho]
theorem rowS_trs {a b : Mly} {s t : Int} {e : S3} {l : List S3} (hl : ∀ f, f ∈ l → TRS a b s t f) (he : TRS a b s t e) : ∀ x : Nat, (x : Int) ≤ a.inp → (∀ y, y < x → difS a b e y = false) → ∀ f, f ∈ rowS a b e l x → TRS a b s t f
  | 0, _, _, f, hf => hl f (by simpa [rowS] using hf)
  | x + 1, hx, hd, f, hf => by
    rw [rowS_succ] at hf
    unfold stS at hf
    split at hf
    · exact rowS_trs hl he x (by omega) (fun y hy => hd y (by omega)) f hf
    · rcases List.mem_append.1 hf with hf | hf
      · exact rowS_trs hl he x (by omega) (fun y hy => hd y (by omega)) f hf
      · simp at hf; subst hf
        exact he.next (by omega) (hd x (by omega))
/-- A word that is found separates. -/
theorem srS_sound {a b : Mly} {s t : Int} : ∀ (f i : Nat) (l : List S3), (∀ e, e ∈ l → TRS a b s t e) → ∀ w, srS a b f i l = some w → (∀ i : Nat, i < w.length → 0 ≤ w.getD i 0 ∧ w.getD i 0 < a.inp) ∧ (a.go s w).2 ≠ (b.go t w).2 ∧ w ≠ []
  | 0, _, _, _, w, h => by cases h
  | f + 1, i, l, hl, w, h => by
    simp only [srS] at h
    split at h
    · rename_i hi
      have he : TRS a b s t (l.getD i eS0) := hl _ (by simp [List.getD, hi])
      split at h
      · rename_i x hx
        simp only [Option.some.injEq] at h; subst h
        have h1 := List.find?_some hx
        have h2 : x < a.inp.toNat := by simpa using List.mem_of_find?_eq_some hx
        refine ⟨syms_app he.sy ⟨by omega, by omega⟩, ?_, by simp⟩
        rw [go_concat, go_concat, he.l, he.r, he.o]
        intro hh
        have := (List.append_cancel_left hh)
        simp at this
        simp [difS, this] at h1
      · rename_i hx
        have hd : ∀ y, y < a.inp.toNat → difS a b (l.getD i eS0) y = false := fun y hy => by
          have := List.find?_eq_none.1 hx y (by simpa using hy)
          simpa using this
        by_cases hin : 0 ≤ a.inp
        · exact srS_sound f (i + 1) _ (rowS_trs hl he a.inp.toNat (by omega) hd) w h
        · have : rowS a b (l.getD i eS0) l a.inp.toNat = l := by rw [show a.inp.toNat = 0 by omega]; rfl
          rw [this] at h
          exact srS_sound f (i + 1) l hl w h
    · cases h
theorem trs_one (a b : Mly) (s t : Int) : ∀ e, e ∈ [((s, t, []) : S3)] → TRS a b s t e := fun e he => by
  simp at he; subst he
  exact ⟨fun i hi => by simp at hi, rfl, rfl, rfl⟩
theorem seS_sound {a b : Mly} {s t : Int} {w : List Int} (h : seS a b s t = some w) : (∀ i : Nat, i < w.length → 0 ≤ w.getD i 0 ∧ w.getD i 0 < a.inp) ∧ (a.go s w).2 ≠ (b.go t w).2 ∧ w ≠ [] := srS_sound _ _ _ (trs_one a b s t) w h
/-- The pairs from which nothing was found are closed. -/
def CLS (a b : Mly) (i : Nat) (l : List S3) : Prop := ∀ j, j < i → j < l.length → ∀ x : Nat, (x : Int) < a.inp → difS a b (l.getD j eS0) x = false ∧ inS l (a.nxt (l.getD j eS0).1 x) (b.nxt (l.getD j eS0).2.1 x) = true
theorem inS_app {l k : List S3} {p q : Int} (h : inS l p q = true) : inS (l ++ k) p q = true := by
  obtain ⟨e, he, h1, h2⟩ := inS_iff.1 h
  exact inS_iff.2 ⟨e, by simp [he], h1, h2⟩
theorem rowS_in {a b : Mly} {e : S3} {l : List S3} : ∀ (x y : Nat), y < x → inS (rowS a b e l x) (a.nxt e.1 y) (b.nxt e.2.1 y) = true
  | 0, y, h => by omega
  | x + 1, y, h => by
    rw [rowS_succ]
    by_cases hy : y = x
    · subst hy
      unfold stS
      split
      · rename_i hin; exact hin
      · exact inS_iff.2 ⟨_, List.mem_append_right _ (by simp; rfl), rfl, rfl⟩
    · obtain ⟨k, hk⟩ := stS_pre a b e (rowS a b e l x) x
      rw [hk]
      exact inS_app (rowS_in x y (by omega))
theorem srS_none {a b : Mly} (ha : MOK a) (hb : MOK b) (hi : a.inp = b.inp) : ∀ (f i : Nat) (l : List S3), WFS a b l → a.nx.length * b.nx.length < f + i → CLS a b i l → srS a b f i l = none → ∃ L, (∃ k, L = l ++ k) ∧ CLS a b L.length L
  | 0, i, l, hl, hf, hc, _ => by
    have := hl.le
    exact ⟨l, ⟨[], by simp⟩, fun j hj hj2 => hc j (by omega) hj2⟩
  | f + 1, i, l, hl, hf, hc, h => by
    simp only [srS] at h
    split at h
    · rename_i hil
      split at h
      · cases h
      · rename_i hx
        have hd : ∀ y, y < a.inp.toNat → difS a b (l.getD i eS0) y = false := fun y hy => by
          have := List.find?_eq_none.1 hx y (by simpa using hy)
          simpa using this
        have hi1 := ha.i1
        obtain ⟨k, hk⟩ := rowS_pre a b (l.getD i eS0) l a.inp.toNat
        obtain ⟨L, ⟨k2, hk2⟩, hL⟩ := srS_none ha hb hi f (i + 1) _ (hl.row ha hb hi hil a.inp.toNat (by omega)) (by omega) (fun j hj hjl x hx => by
          by_cases e : j = i
          · subst e
            rw [rowS_at a b _ _ hil]
            exact ⟨hd x (by omega), rowS_in a.inp.toNat x (by omega)⟩
          · have hjl2 : j < l.length := by omega
            rw [rowS_at a b _ _ hjl2]
            have := hc j (by omega) hjl2 x hx
            refine ⟨this.1, ?_⟩
            rw [hk]; exact inS_app this.2) h
        exact ⟨L, ⟨k ++ k2, by rw [hk2, hk, List.append_assoc]⟩, hL⟩
    · rename_i hil
      exact ⟨l, ⟨[], by simp⟩, fun j hj hj2 => hc j (by omega) hj2⟩
theorem cls_eq2 {a b : Mly} {L : List S3} (hL : CLS a b L.length L) : ∀ (w : List Int) (j : Nat), j < L.length → (∀ i : Nat, i < w.length → 0 ≤ w.getD i 0 ∧ w.getD i 0 < a.inp) → (a.go (L.getD j eS0).1 w).2 = (b.go (L.getD j eS0).2.1 w).2
  | [], _, _, _ => rfl
  | x :: w, j, hj, hw => by
    obtain ⟨hx, hw'⟩ := syms_tail hw
    rw [go_cons, go_cons]
    have h1 := hL j hj hj x.toNat (by omega)
    rw [Int.toNat_of_nonneg hx.1] at h1
    have ho : a.out (L.getD j eS0).1 x = b.out (L.getD j eS0).2.1 x := by
      have := h1.1
      simp only [difS, Int.toNat_of_nonneg hx.1] at this
      simpa using this
    obtain ⟨f, hf, e1, e2⟩ := inS_iff.1 h1.2
    obtain ⟨q, hq⟩ := List.getElem?_of_mem hf
    have hql := (List.getElem?_eq_some_iff.1 hq).1
    have hqd : L.getD q eS0 = f := by simp [List.getD, hq]
    have ih := cls_eq2 hL w q hql hw'
    rw [hqd, e1, e2] at ih
    show _ :: _ = _ :: _
    rw [ho, ih]
theorem seS_none {a b : Mly} (ha : MOK a) (hb : MOK b) (hi : a.inp = b.inp) {s t : Int} (hs : 0 ≤ s ∧ s < a.nx.length) (ht : 0 ≤ t ∧ t < b.nx.length) (h : seS a b s t = none) : EQ2 a b s t := by
  obtain ⟨L, ⟨k, hk⟩, hL⟩ := srS_none ha hb hi (fuS a b) 0 _ (wfs_one hs ht) (by unfold fuS; omega) (fun j hj => by omega) h
  intro w hw
  have := cls_eq2 hL w 0 (by rw [hk]; simp) hw
  rw [hk] at this
  exact this
theorem seS_iff {a b : Mly} (ha : MOK a) (hb : MOK b) (hi : a.inp = b.inp) {s t : Int} (hs : 0 ≤ s ∧ s < a.nx.length) (ht : 0 ≤ t ∧ t < b.nx.length) : seS a b s t = none ↔ EQ2 a b s t := by
  refine ⟨seS_none ha hb hi hs ht, fun h => ?_⟩
  cases hw : seS a b s t with
  | none => rfl
  | some w => exact absurd (h w (seS_sound hw).1) (seS_sound hw).2.1

end Go.AV
namespace Go.AV
open Nat (reduceEqDiff reduceAdd reduceLeDiff reduceLT reduceMul reduceSub)
open List (set_cons_zero set_cons_succ)
/-plain-/
theorem addS_mem {l : List Int} {t x : Int} : x ∈ addS l t ↔ x ∈ l ∨ x = t := by
  unfold addS
  split
  · rename_i h
    constructor
    · exact .inl
    · rintro (h1 | rfl)
      · exact h1
      · exact h
  · simp
theorem foldS_mem {r : List Int} : ∀ {l : List Int} {x : Int}, x ∈ r.foldl addS l ↔ x ∈ l ∨ x ∈ r := by
  induction r with
  | nil => intro l x; simp
  | cons t r ih => intro l x; simp only [List.foldl_cons, ih, addS_mem, List.mem_cons]; exact or_assoc
theorem addS_pre (l : List Int) (t : Int) : ∃ k, addS l t = l ++ k := by
  unfold addS
  split
  · exact ⟨[], by simp⟩
  · exact ⟨[t], rfl⟩
theorem foldS_pre (r : List Int) : ∀ l : List Int, ∃ k, r.foldl addS l = l ++ k := by
  induction r with
  | nil => intro l; exact ⟨[], by simp⟩
  | cons t r ih =>
    intro l
    obtain ⟨k1, h1⟩ := addS_pre l t
    obtain ⟨k2, h2⟩ := ih (addS l t)
    exact ⟨k1 ++ k2, by simp only [List.foldl_cons]; rw [h2, h1, List.append_assoc]⟩
theorem rf_pre (m : Mly) : ∀ (f i : Nat) (l : List Int), ∃ k, m.rf f i l = l ++ k
  | 0, i, l => ⟨[], by simp [Mly.rf]⟩
  | f + 1, i, l => by
    simp only [Mly.rf]
    split
    · obtain ⟨k1, h1⟩ := foldS_pre (m.row (l.getD i 0)) l
      obtain ⟨k2, h2⟩ := rf_pre m f (i + 1) ((m.row (l.getD i 0)).foldl addS l)
      exact ⟨k1 ++ k2, by rw [h2, h1, List.append_assoc]⟩
    · exact ⟨[], by simp⟩
theorem getD_pre {l k : List Int} {i : Nat} (h : i < l.length) : (l ++ k).getD i 0 = l.getD i 0 := by
  simp [List.getD, List.getElem?_append_left h]

/-- What is reached is closed. -/
theorem rf_closed {m : Mly} (hm : MOK m) : ∀ (f i : Nat) (l : List Int), RSet m.nx.length l → m.nx.length ≤ f + i → (∀ j, j < i → j < l.length → ∀ x, x ∈ m.row (l.getD j 0) → x ∈ l) →
    ∀ j, j < (m.rf f i l).length → ∀ x, x ∈ m.row ((m.rf f i l).getD j 0) → x ∈ m.rf f i l
  | 0, i, l, hl, hf, hc => by
    have := hl.len
    intro j hj
    simp only [Mly.rf] at *
    exact hc j (by omega) hj
  | f + 1, i, l, hl, hf, hc => by
    simp only [Mly.rf]
    split
    · rename_i hi
      have hr := hl.at_ hi
      refine rf_closed hm f (i + 1) _ (hl.fold (row_rng hm hr.1 hr.2)) (by omega) fun j hj hjl x hx => ?_
      obtain ⟨k, hk⟩ := foldS_pre (m.row (l.getD i 0)) l
      rw [foldS_mem]
      by_cases e : j = i
      · subst e
        rw [hk, getD_pre hi] at hx
        exact .inr hx
      · have hjl2 : j < l.length := by omega
        rw [hk, getD_pre hjl2] at hx
        exact .inl (hc j (by omega) hjl2 x hx)
    · rename_i hi
      intro j hj
      exact hc j (by omega) hj
theorem reach_closed {m : Mly} (hm : MOK m) {s : Int} (hs : s ∈ m.reach) {x : Int} (hx : x ∈ m.row s) : x ∈ m.reach := by
  rw [reach_ok (validE_of hm)] at hs ⊢
  obtain ⟨j, hj⟩ := List.getElem?_of_mem hs
  have hjl := (List.getElem?_eq_some_iff.1 hj).1
  have e : (m.rf (m.nx.length + 1) 0 [m.st]).getD j 0 = s := by simp [List.getD, hj]
  exact rf_closed hm _ _ _ (rset_one hm) (by omega) (fun j hj => by omega) j hjl x (by rw [e]; exact hx)
theorem reach_st {m : Mly} (hm : MOK m) : ∃ k, m.reach = m.st :: k := by
  rw [reach_ok (validE_of hm)]
  obtain ⟨k, hk⟩ := rf_pre m (m.nx.length + 1) 0 [m.st]
  exact ⟨k, by rw [hk]; rfl⟩

/-- More fuel changes nothing. -/
theorem rf_fuel {m : Mly} (hm : MOK m) : ∀ (f i : Nat) (l : List Int), RSet m.nx.length l → m.nx.length ≤ f + i → ∀ g, f ≤ g → m.rf g i l = m.rf f i l
  | 0, i, l, hl, hf, g, hg => by
    have := hl.len
    rw [rf_end m g i l (by omega), rf_end m 0 i l (by omega)]
  | f + 1, i, l, hl, hf, g, hg => by
    obtain ⟨g, rfl⟩ : ∃ g', g = g' + 1 := ⟨g - 1, by omega⟩
    simp only [Mly.rf]
    split
    · rename_i hi
      have hr := hl.at_ hi
      exact rf_fuel hm f (i + 1) _ (hl.fold (row_rng hm hr.1 hr.2)) (by omega) g (by omega)
    · rfl

/-! ### the numbers -/
theorem getD_set_same {xs : List Int} {i : Nat} (h : i < xs.length) (v : Int) : (xs.set i v).getD i 0 = v := by simp [List.getD, h]
theorem getD_set_ne {xs : List Int} {i j : Nat} (h : i ≠ j) (v : Int) : (xs.set i v).getD j 0 = xs.getD j 0 := by simp [List.getD, List.getElem?_set_ne h]
theorem nodup_getD {l : List Int} (h : l.Nodup) {i j : Nat} (hi : i < l.length) (hj : j < l.length) (e : l.getD i 0 = l.getD j 0) : i = j := by
  simp [List.getD, hi, hj] at e
  exact (List.getElem_inj h).1 e
theorem numF_at {n : Nat} {l : List Int} (h : RSet n l) : ∀ k, k ≤ l.length → ∀ i, i < k → (numF n l k).getD (l.getD i 0).toNat 0 = i
  | 0, _, i, hi => by omega
  | k + 1, hk, i, hi => by
    simp only [numF]
    have hk1 := h.at_ (i := k) (by omega)
    by_cases e : i = k
    · subst e
      exact getD_set_same (by rw [numF_len]; omega) _
    · have hi1 := h.at_ (i := i) (by omega)
      rw [getD_set_ne]
      · exact numF_at h k (by omega) i (by omega)
      · intro e2
        have := nodup_getD h.nd (i := k) (j := i) (by omega) (by omega) (by omega)
        omega
/-- The number of a state. -/
def Mly.ix (m : Mly) (s : Int) : Int := m.num.getD s.toNat 0
theorem ix_at {m : Mly} (hm : MOK m) {i : Nat} (hi : i < m.reach.length) : m.ix (m.reach.getD i 0) = i := numF_at (rset_reach hm) _ (Nat.le_refl _) i hi
theorem mem_at {l : List Int} {s : Int} (h : s ∈ l) : ∃ i, i < l.length ∧ l.getD i 0 = s := by
  obtain ⟨i, hi⟩ := List.getElem?_of_mem h
  exact ⟨i, (List.getElem?_eq_some_iff.1 hi).1, by simp [List.getD, hi]⟩
theorem ix_rng {m : Mly} (hm : MOK m) {s : Int} (hs : s ∈ m.reach) : 0 ≤ m.ix s ∧ m.ix s < m.reach.length := by
  obtain ⟨i, hi, rfl⟩ := mem_at hs
  rw [ix_at hm hi]; omega
theorem at_ix {m : Mly} (hm : MOK m) {s : Int} (hs : s ∈ m.reach) : m.reach.getD (m.ix s).toNat 0 = s := by
  obtain ⟨i, hi, rfl⟩ := mem_at hs
  rw [ix_at hm hi]; simp
theorem ix_inj {m : Mly} (hm : MOK m) {s t : Int} (hs : s ∈ m.reach) (ht : t ∈ m.reach) (e : m.ix s = m.ix t) : s = t := by
  rw [← at_ix hm hs, ← at_ix hm ht, e]
theorem map_ix {m : Mly} (hm : MOK m) : m.reach.map m.ix = (List.range m.reach.length).map (fun (i : Nat) => (i : Int)) := by
  apply List.ext_getElem
  · simp
  · intro i h1 h2
    simp only [List.length_map] at h1
    have := ix_at hm h1
    simp [List.getD, h1] at this
    simp [this]

/-! ### the trimmed machine -/
def Mly.T (m : Mly) : Mly := ⟨m.inp, 0, m.tnx, m.tot⟩
theorem T_len (m : Mly) : m.T.nx.length = m.reach.length := by simp [Mly.T, Mly.tnx]
theorem reach_pos {m : Mly} (hm : MOK m) : 1 ≤ m.reach.length := by
  obtain ⟨k, hk⟩ := reach_st hm
  rw [hk]; simp
theorem getD_map {α β : Type} (f : α → β) {l : List α} {i : Nat} (d : α) (e : β) (h : i < l.length) : (l.map f).getD i e = f (l.getD i d) := by simp [List.getD, h]
theorem T_row {m : Mly} {i : Nat} (hi : i < m.reach.length) : m.T.nx.getD i [] = (m.row (m.reach.getD i 0)).map m.ix := by
  show m.tnx.getD i [] = _
  unfold Mly.tnx
  rw [getD_map _ 0 _ hi]; rfl
theorem T_out {m : Mly} {i : Nat} (hi : i < m.reach.length) : m.T.ot.getD i [] = m.ot.getD (m.reach.getD i 0).toNat [] := by
  show m.tot.getD i [] = _
  unfold Mly.tot
  rw [getD_map _ 0 _ hi]
theorem T_ok {m : Mly} (hm : MOK m) : MOK m.T := by
  have hR := rset_reach hm
  have hl := hR.len
  have hp := reach_pos hm
  have hT := T_len m
  have hn2 := hm.n2
  have htl : m.T.ot.length = m.reach.length := by simp [Mly.T, Mly.tot]
  refine ⟨hm.i1, hm.i2, by omega, by omega, Int.le_refl 0, by show (0 : Int) < _; omega, by omega, fun s hs => ?_, fun s hs => ?_, fun s a hs ha => ?_, fun s a hs ha => ?_⟩
  · rw [T_row (by omega)]
    have := hR.at_ (i := s) (by omega)
    have h1 := hm.rl (m.reach.getD s 0).toNat (by omega)
    rw [List.length_map]; exact h1
  · rw [T_out (by omega)]
    have := hR.at_ (i := s) (by omega)
    exact hm.ql (m.reach.getD s 0).toNat (by omega)
  · have h0 := hR.at_ (i := s) (by omega)
    have h1 : ((m.row (m.reach.getD s 0)).length : Int) = m.inp := hm.rl (m.reach.getD s 0).toNat (by omega)
    have ha' : (a : Int) < m.inp := ha
    rw [T_row (by omega), getD_map m.ix 0 0 (by omega)]
    have hmem := reach_closed hm (s := m.reach.getD s 0) (getD_mem (by omega)) (x := (m.row (m.reach.getD s 0)).getD a 0) (getD_mem (by omega))
    have := ix_rng hm hmem
    omega
  · rw [T_out (by omega)]
    have := hR.at_ (i := s) (by omega)
    exact hm.or (m.reach.getD s 0).toNat a (by omega) ha
theorem foldS_map {f : Int → Int} {R : List Int} (hf : ∀ x y, x ∈ R → y ∈ R → f x = f y → x = y) : ∀ (r l : List Int), (∀ x, x ∈ r → x ∈ R) → (∀ x, x ∈ l → x ∈ R) → (r.map f).foldl addS (l.map f) = (r.foldl addS l).map f
  | [], l, _, _ => rfl
  | t :: r, l, hr, hl => by
    simp only [List.map_cons, List.foldl_cons]
    have ht := hr t (by simp)
    have e : addS (l.map f) (f t) = (addS l t).map f := by
      by_cases h : t ∈ l
      · rw [addS_in h, addS_in (List.mem_map.2 ⟨t, h, rfl⟩)]
      · rw [addS_out h, addS_out, List.map_append]
        · rfl
        · intro hh
          obtain ⟨x, hx, e⟩ := List.mem_map.1 hh
          exact h (hf x t (hl x hx) ht e ▸ hx)
    rw [e]
    exact foldS_map hf r (addS l t) (fun x hx => hr x (by simp [hx])) (fun x hx => by
      rcases addS_mem.1 hx with h | rfl
      · exact hl x h
      · exact ht)
theorem rf_map {m : Mly} (hm : MOK m) : ∀ (f i : Nat) (l : List Int), (∀ x, x ∈ l → x ∈ m.reach) → m.T.rf f i (l.map m.ix) = (m.rf f i l).map m.ix
  | 0, i, l, _ => rfl
  | f + 1, i, l, hl => by
    simp only [Mly.rf, List.length_map]
    split
    · rename_i hi
      have hx := hl (l.getD i 0) (getD_mem hi)
      have e : m.T.row ((l.map m.ix).getD i 0) = (m.row (l.getD i 0)).map m.ix := by
        rw [getD_map m.ix 0 0 hi]
        have h1 := ix_rng hm hx
        show m.T.nx.getD (m.ix (l.getD i 0)).toNat [] = _
        rw [T_row (by omega), at_ix hm hx]
      rw [e, foldS_map (R := m.reach) (fun x y hx hy e => ix_inj hm hx hy e) _ _ (fun x hx' => reach_closed hm hx hx') hl]
      exact rf_map hm f (i + 1) _ (fun x hx' => by
        rcases foldS_mem.1 hx' with h | h
        · exact hl x h
        · exact reach_closed hm hx h)
    · rfl
theorem ix_st {m : Mly} (hm : MOK m) : m.ix m.st = 0 := by
  obtain ⟨k, hk⟩ := reach_st hm
  have := ix_at hm (i := 0) (reach_pos hm)
  rw [hk] at this
  exact this
theorem T_reach {m : Mly} (hm : MOK m) : m.T.reach = (List.range m.reach.length).map (fun (i : Nat) => (i : Int)) := by
  rw [reach_ok (validE_of (T_ok hm)), ← map_ix hm, T_len]
  have e : ([m.T.st] : List Int) = [m.st].map m.ix := by simp [Mly.T, ix_st hm]
  rw [e, rf_map hm _ _ _ (fun x hx => by
    obtain ⟨k, hk⟩ := reach_st hm
    simp at hx; subst hx; rw [hk]; simp)]
  congr 1
  rw [reach_ok (validE_of hm)]
  have hl := (rset_reach hm).len
  have h1 := (T_ok hm)
  -- both have enough fuel
  rw [← reach_ok (validE_of hm)]
  have key : ∀ (f i : Nat) (l : List Int), (∀ x, x ∈ m.rf f i l → x ∈ m.reach) → RSet m.nx.length l → m.nx.length ≤ f + i → ∀ g, m.reach.length ≤ g + i → m.rf g i l = m.rf f i l := by
    intro f
    induction f with
    | zero =>
      intro i l _ hl hf g hg
      have := hl.len
      rw [rf_end m g i l (by omega), rf_end m 0 i l (by omega)]
    | succ f ih =>
      intro i l hsub hl hf g hg
      by_cases hi : i < l.length
      · cases g with
        | zero =>
          -- i < l.length ≤ reach.length ≤ i
          exfalso
          obtain ⟨k, hk⟩ := rf_pre m (f + 1) i l
          have h2 : l.length ≤ m.reach.length := by
            have hnd : l.Nodup := hl.nd
            have hsub2 : ∀ x, x ∈ l → x ∈ m.reach := fun x hx => hsub x (by rw [hk]; simp [hx])
            exact nodup_sub l m.reach hnd hsub2
          omega
        | succ g =>
          rw [rf_step m g i l hi, rf_step m f i l hi]
          have hr := hl.at_ hi
          refine ih (i + 1) _ (fun x hx => hsub x (by rw [rf_step m f i l hi]; exact hx)) (hl.fold (row_rng hm hr.1 hr.2)) (by omega) g (by omega)
      · rw [rf_end m g i l (by omega), rf_end m (f + 1) i l (by omega)]
  rw [key (m.nx.length + 1) 0 [m.st] (fun x hx => by rw [reach_ok (validE_of hm)]; exact hx) (rset_one hm) (by omega) (m.reach.length + 1) (by omega)]
  exact (reach_ok (validE_of hm)).symm
theorem trim_T {m : Mly} (h : validE m = 0) : m.trim = m.T := trim_ok h

/-- Both run alike. -/
theorem T_go {m : Mly} (hm : MOK m) {s : Int} (hs : s ∈ m.reach) : ∀ (w : List Int), (∀ i : Nat, i < w.length → 0 ≤ w.getD i 0 ∧ w.getD i 0 < m.inp) →
    (m.go s w).1 ∈ m.reach ∧ (m.T.go (m.ix s) w).1 = m.ix (m.go s w).1 ∧ (m.T.go (m.ix s) w).2 = (m.go s w).2 := by
  intro w hw
  have key : ∀ k, k ≤ w.length → (m.go s (w.take k)).1 ∈ m.reach ∧ (m.T.go (m.ix s) (w.take k)).1 = m.ix (m.go s (w.take k)).1 ∧ (m.T.go (m.ix s) (w.take k)).2 = (m.go s (w.take k)).2 := by
    intro k
    induction k with
    | zero => intro _; exact ⟨by simpa [go_nil] using hs, rfl, rfl⟩
    | succ k ih =>
      intro hk
      obtain ⟨h1, h2, h3⟩ := ih (by omega)
      have ha := hw k (by omega)
      rw [go_succ m s (by omega), go_succ m.T _ (by omega), h2, h3]
      have hx := ix_rng hm h1
      have hR := (rset_reach hm).rng _ h1
      have hrl : ((m.row (m.go s (w.take k)).1).length : Int) = m.inp := hm.rl _ (by omega)
      have e1 : m.T.nxt (m.ix (m.go s (w.take k)).1) (w.getD k 0) = m.ix (m.nxt (m.go s (w.take k)).1 (w.getD k 0)) := by
        show (m.T.nx.getD _ []).getD _ 0 = _
        rw [T_row (by omega), at_ix hm h1, getD_map m.ix 0 0 (by omega)]; rfl
      have e2 : m.T.out (m.ix (m.go s (w.take k)).1) (w.getD k 0) = m.out (m.go s (w.take k)).1 (w.getD k 0) := by
        show (m.T.ot.getD _ []).getD _ 0 = _
        rw [T_out (by omega), at_ix hm h1]; rfl
      refine ⟨reach_closed hm h1 (getD_mem (by omega)), e1, ?_⟩
      show _ ++ [_] = _ ++ [_]
      rw [e2]
  have := key w.length (Nat.le_refl _)
  rwa [List.take_length] at this
end Go.AV
namespace Go.AV
open Nat (reduceEqDiff reduceAdd reduceLeDiff reduceLT reduceMul reduceSub)
open List (set_cons_zero set_cons_succ)
/-plain-/
/-! ### canonical machines: numbered in the order of their access words, and no two states equivalent -/
theorem getD_get {l : List Int} {i : Nat} (h : i < l.length) : l.getD i 0 = l[i] := by simp [List.getD, h]
def rgI (n : Nat) : List Int := (List.range n).map fun (i : Nat) => (i : Int)
theorem rgI_len (n : Nat) : (rgI n).length = n := by simp [rgI]
theorem rgI_at {n i : Nat} (h : i < n) : (rgI n).getD i 0 = (i : Int) := by simp [rgI, List.getD, h]
theorem rgI_mem {n : Nat} {x : Int} : x ∈ rgI n ↔ 0 ≤ x ∧ x < n := by
  unfold rgI
  rw [List.mem_map]
  constructor
  · rintro ⟨i, hi, rfl⟩
    have := List.mem_range.1 hi; omega
  · intro h
    exact ⟨x.toNat, List.mem_range.2 (by omega), by omega⟩
theorem rgI_succ (n : Nat) : rgI (n + 1) = rgI n ++ [(n : Int)] := by simp [rgI, List.range_succ]
theorem rgI_pre {n : Nat} {l k : List Int} (h : l ++ k = rgI n) : l = rgI l.length := by
  have hl : l.length ≤ n := by have := congrArg List.length h; rw [List.length_append, rgI_len] at this; omega
  refine List.ext_getElem (by rw [rgI_len]) fun i h1 h2 => ?_
  have e1 : (l ++ k).getD i 0 = l.getD i 0 := by simp [List.getD, List.getElem?_append_left h1]
  rw [h, rgI_at (by omega)] at e1
  have e2 : l.getD i 0 = l[i] := by simp [List.getD, h1]
  have e3 : (rgI l.length).getD i 0 = (rgI l.length)[i] := by simp [List.getD, h2]
  rw [← e2, ← e3, ← e1, rgI_at h1]
structure CAN (x : Mly) : Prop where
  ok : MOK x
  st : x.st = 0
  rc : x.reach = rgI x.nx.length
  ds : ∀ i j : Int, 0 ≤ i → i < x.nx.length → 0 ≤ j → j < x.nx.length → EQV x i j → i = j
theorem eq2_out {x y : Mly} {s t : Int} (h : EQ2 x y s t) {a : Nat} (ha : (a : Int) < x.inp) : x.out s a = y.out t a := by
  have := h [(a : Int)] fun i hi => by
    have : i = 0 := by simpa using hi
    subst this; simp [List.getD]; omega
  rw [go_cons, go_cons] at this
  injection this
theorem eq2_nxt {x y : Mly} {s t : Int} (h : EQ2 x y s t) {a : Nat} (ha : (a : Int) < x.inp) : EQ2 x y (x.nxt s a) (y.nxt t a) := fun w hw => by
  have := h ((a : Int) :: w) fun i hi => by
    cases i with
    | zero => simp [List.getD]; omega
    | succ i => have := hw i (by simpa using hi); simpa [List.getD] using this
  rw [go_cons, go_cons] at this
  injection this
theorem eq2_left {x y : Mly} (hi : x.inp = y.inp) {s t u : Int} (h : EQ2 x y s u) (g : EQ2 x y t u) : EQV x s t := fun w hw => (h w hw).trans (g w hw).symm
theorem eq2_right {x y : Mly} (hi : x.inp = y.inp) {s t u : Int} (h : EQ2 x y s t) (g : EQ2 x y s u) : EQV y t u := fun w hw => (h w (by rw [hi]; exact hw)).symm.trans (g w (by rw [hi]; exact hw))
/-- Both machines have met the same states, and these are equivalent one by one. -/
structure LCK (x y : Mly) (l : List Int) : Prop where
  eq : ∀ j, j ∈ l → EQ2 x y j j
  bx : ∀ j, j ∈ l → 0 ≤ j ∧ j < x.nx.length
  by_ : ∀ j, j ∈ l → 0 ≤ j ∧ j < y.nx.length
theorem can_step {x y : Mly} (hx : CAN x) (hy : CAN y) (hi : x.inp = y.inp) {l : List Int} (h : LCK x y l) {u v : Int} (hu : 0 ≤ u ∧ u < x.nx.length) (hv : 0 ≤ v ∧ v < y.nx.length) (he : EQ2 x y u v)
    (px : ∃ k, addS l u ++ k = x.reach) (py : ∃ k, addS l v ++ k = y.reach) : addS l u = addS l v ∧ LCK x y (addS l u) := by
  by_cases a : u ∈ l
  · have h1 := h.by_ u a
    have h2 := hy.ds u v h1.1 h1.2 hv.1 hv.2 (eq2_right hi (h.eq u a) he)
    subst h2
    rw [addS_in a]; exact ⟨rfl, h⟩
  · by_cases b : v ∈ l
    · have h1 := h.bx v b
      have h2 := hx.ds v u h1.1 h1.2 hu.1 hu.2 (eq2_left hi (h.eq v b) he)
      subst h2; exact absurd b a
    · obtain ⟨k1, e1⟩ := px
      obtain ⟨k2, e2⟩ := py
      rw [addS_out a, hx.rc] at e1
      rw [addS_out b, hy.rc] at e2
      have f1 := rgI_pre e1
      have f2 := rgI_pre e2
      have : l ++ [u] = l ++ [v] := by
        rw [f1, f2, List.length_append, List.length_append]; rfl
      have huv : u = v := by
        have := List.append_cancel_left this
        simpa using this
      subst huv
      refine ⟨rfl, ?_⟩
      rw [addS_out a]
      refine ⟨fun j hj => ?_, fun j hj => ?_, fun j hj => ?_⟩ <;> (rcases List.mem_append.1 hj with hj | hj)
      · exact h.eq j hj
      · have : j = u := by simpa using hj
        subst this; exact he
      · exact h.bx j hj
      · have : j = u := by simpa using hj
        subst this; exact hu
      · exact h.by_ j hj
      · have : j = u := by simpa using hj
        subst this; exact hv
theorem can_fold {x y : Mly} (hx : CAN x) (hy : CAN y) (hi : x.inp = y.inp) {l : List Int} (h : LCK x y l) {i : Int} (hl : i ∈ l) : ∀ a : Nat, (a : Int) ≤ x.inp →
    (∃ k, ((x.row i).take a).foldl addS l ++ k = x.reach) → (∃ k, ((y.row i).take a).foldl addS l ++ k = y.reach) →
    ((x.row i).take a).foldl addS l = ((y.row i).take a).foldl addS l ∧ LCK x y (((x.row i).take a).foldl addS l)
  | 0, _, _, _ => ⟨rfl, h⟩
  | a + 1, ha, px, py => by
    have bx := h.bx i hl; have by1 := h.by_ i hl
    have rx : ((x.row i).length : Int) = x.inp := hx.ok.rl i.toNat (by omega)
    have ry : ((y.row i).length : Int) = y.inp := hy.ok.rl i.toNat (by omega)
    rw [fold_succ (by omega)] at px ⊢
    rw [fold_succ (by omega)] at py ⊢
    have px0 : ∃ k, ((x.row i).take a).foldl addS l ++ k = x.reach := by
      obtain ⟨k, e⟩ := px; obtain ⟨k2, e2⟩ := addS_pre (((x.row i).take a).foldl addS l) ((x.row i).getD a 0)
      exact ⟨k2 ++ k, by rw [← List.append_assoc, ← e2, e]⟩
    have py0 : ∃ k, ((y.row i).take a).foldl addS l ++ k = y.reach := by
      obtain ⟨k, e⟩ := py; obtain ⟨k2, e2⟩ := addS_pre (((y.row i).take a).foldl addS l) ((y.row i).getD a 0)
      exact ⟨k2 ++ k, by rw [← List.append_assoc, ← e2, e]⟩
    obtain ⟨e1, h1⟩ := can_fold hx hy hi h hl a (by omega) px0 py0
    rw [← e1] at py ⊢
    exact can_step hx hy hi h1 (hx.ok.nr i.toNat a (by omega) (by omega)) (hy.ok.nr i.toNat a (by omega) (by omega)) (eq2_nxt (h.eq i hl) (by omega)) px py
theorem can_rf {x y : Mly} (hx : CAN x) (hy : CAN y) (hi : x.inp = y.inp) : ∀ (f i : Nat) (l : List Int), LCK x y l → x.rf f i l = x.reach → y.rf f i l = y.reach → x.reach = y.reach ∧ LCK x y x.reach
  | 0, i, l, h, ex, ey => ⟨ex.symm.trans ey, by rw [← ex]; exact h⟩
  | f + 1, i, l, h, ex, ey => by
    by_cases hil : i < l.length
    · rw [rf_step x f i l hil] at ex
      rw [rf_step y f i l hil] at ey
      have hm : l.getD i 0 ∈ l := getD_mem hil
      have bx := h.bx _ hm; have by1 := h.by_ _ hm
      have rx : ((x.row (l.getD i 0)).length : Int) = x.inp := hx.ok.rl (l.getD i 0).toNat (by omega)
      have ry : ((y.row (l.getD i 0)).length : Int) = y.inp := hy.ok.rl (l.getD i 0).toNat (by omega)
      have hi1 := hx.ok.i1
      have tx : (x.row (l.getD i 0)).take x.inp.toNat = x.row (l.getD i 0) := List.take_of_length_le (by omega)
      have ty : (y.row (l.getD i 0)).take x.inp.toNat = y.row (l.getD i 0) := List.take_of_length_le (by omega)
      have px : ∃ k, ((x.row (l.getD i 0)).take x.inp.toNat).foldl addS l ++ k = x.reach := by
        rw [tx]; obtain ⟨k, e⟩ := rf_pre x f (i + 1) ((x.row (l.getD i 0)).foldl addS l); exact ⟨k, by rw [← e, ex]⟩
      have py : ∃ k, ((y.row (l.getD i 0)).take x.inp.toNat).foldl addS l ++ k = y.reach := by
        rw [ty]; obtain ⟨k, e⟩ := rf_pre y f (i + 1) ((y.row (l.getD i 0)).foldl addS l); exact ⟨k, by rw [← e, ey]⟩
      obtain ⟨e1, h1⟩ := can_fold hx hy hi h hm x.inp.toNat (by omega) px py
      rw [tx, ty] at e1
      rw [tx] at h1
      rw [← e1] at ey
      exact can_rf hx hy hi f (i + 1) _ h1 ex ey
    · rw [rf_end x _ _ _ (by omega)] at ex
      rw [rf_end y _ _ _ (by omega)] at ey
      exact ⟨ex.symm.trans ey, by rw [← ex]; exact h⟩
theorem can_eq {x y : Mly} (hx : CAN x) (hy : CAN y) (hi : x.inp = y.inp) (h : EQ2 x y 0 0) : x.nx = y.nx ∧ x.ot = y.ot := by
  have hn1 := hx.ok.n1; have hn2 := hy.ok.n1
  have ex : x.rf (x.nx.length + y.nx.length + 1) 0 [0] = x.reach := by
    rw [reach_ok (validE_of hx.ok), hx.st]
    have := rf_fuel hx.ok (x.nx.length + 1) 0 [0] (by have := rset_one hx.ok; rwa [hx.st] at this) (by omega) (x.nx.length + y.nx.length + 1) (by omega)
    exact this
  have ey : y.rf (x.nx.length + y.nx.length + 1) 0 [0] = y.reach := by
    rw [reach_ok (validE_of hy.ok), hy.st]
    have := rf_fuel hy.ok (y.nx.length + 1) 0 [0] (by have := rset_one hy.ok; rwa [hy.st] at this) (by omega) (x.nx.length + y.nx.length + 1) (by omega)
    exact this
  have h0 : LCK x y [0] := ⟨fun j hj => (by have : j = 0 := by simpa using hj
                                            subst this; exact h), fun j hj => (by have : j = 0 := by simpa using hj
                                                                                  subst this; omega), fun j hj => (by have : j = 0 := by simpa using hj
                                                                                                                      subst this; omega)⟩
  obtain ⟨e, hl⟩ := can_rf hx hy hi _ 0 [0] h0 ex ey
  have hlen : x.nx.length = y.nx.length := by
    have := congrArg List.length e
    rwa [hx.rc, hy.rc, rgI_len, rgI_len] at this
  have hq : ∀ j : Nat, j < x.nx.length → EQ2 x y j j := fun j hj => hl.eq j (by rw [hx.rc]; exact rgI_mem.2 ⟨by omega, by omega⟩)
  have hox := hx.ok.ol; have hoy := hy.ok.ol
  have hi1 := hx.ok.i1
  constructor
  · refine List.ext_getElem hlen fun j h1 h2 => ?_
    have r1 := hx.ok.rl j h1; have r2 := hy.ok.rl j h2
    have g1 : x.nx.getD j [] = x.nx[j] := by simp [List.getD, h1]
    have g2 : y.nx.getD j [] = y.nx[j] := by simp [List.getD, h2]
    rw [← g1, ← g2]
    refine List.ext_getElem (by omega) fun a a1 a2 => ?_
    have n1 := hx.ok.nr j a h1 (by omega); have n2 := hy.ok.nr j a h2 (by omega)
    have q1 := eq2_nxt (hq j h1) (a := a) (by omega)
    have m1 : x.nxt j a = (x.nx.getD j []).getD a 0 := rfl
    have m2 : y.nxt j a = (y.nx.getD j []).getD a 0 := rfl
    rw [m1, m2] at q1
    have q2 := hq ((x.nx.getD j []).getD a 0).toNat (by omega)
    rw [Int.toNat_of_nonneg n1.1] at q2
    have := hy.ds _ _ n1.1 (by omega) n2.1 n2.2 (eq2_right hi q2 q1)
    rw [← getD_get a1, ← getD_get a2]; exact this
  · refine List.ext_getElem (by omega) fun j h1 h2 => ?_
    have r1 := hx.ok.ql j (by omega); have r2 := hy.ok.ql j (by omega)
    have g1 : x.ot.getD j [] = x.ot[j] := by simp [List.getD, h1]
    have g2 : y.ot.getD j [] = y.ot[j] := by simp [List.getD, h2]
    rw [← g1, ← g2]
    refine List.ext_getElem (by omega) fun a a1 a2 => ?_
    have q1 := eq2_out (hq j (by omega)) (a := a) (by omega)
    have m1 : x.out j a = (x.ot.getD j []).getD a 0 := rfl
    have m2 : y.out j a = (y.ot.getD j []).getD a 0 := rfl
    rw [m1, m2] at q1
    rw [← getD_get a1, ← getD_get a2]; exact q1
end Go.AV
namespace Go.AV
open Nat (reduceEqDiff reduceAdd reduceLeDiff reduceLT reduceMul reduceSub)
open List (set_cons_zero set_cons_succ)
/-plain-/
/-! The machine of the reachable pairs. -/
abbrev PP := Int × Int
abbrev SYS := PP → Nat → PP × Int
def d0 : PP := (0, 0)
def bL (F : SYS) (p : PP) (l : List PP) (x : Nat) : List PP := (List.range x).foldl (fun l y => addG l (F p y).1) l
def bN (F : SYS) (p : PP) (l : List PP) (x : Nat) : List Int := (List.range x).map fun y => (pos (bL F p l y) (F p y).1 : Int)
def bO (F : SYS) (p : PP) (x : Nat) : List Int := (List.range x).map fun y => (F p y).2
def bX (F : SYS) (p : PP) (l : List PP) (y : Nat) : Bool := decide (128 < (bL F p l (y + 1)).length) || decide (1048576 < (F p y).2)
abbrev BST := List PP × (List (List Int) × List (List Int))
def bA (F : SYS) (n i : Nat) (s : BST) : BST := (bL F (s.1.getD i d0) s.1 n, s.2.1 ++ [bN F (s.1.getD i d0) s.1 n], s.2.2 ++ [bO F (s.1.getD i d0) n])
def bF (F : SYS) (n : Nat) : Nat → Nat → BST → Option BST
  | 0, _, _ => none
  | f + 1, i, s => if i < s.1.length then if (List.range n).any (bX F (s.1.getD i d0) s.1) = true then none else bF F n f (i + 1) (bA F n i s) else some s
def bR (F : SYS) (n : Nat) (p0 : PP) : Option BST := bF F n 130 0 ([p0], [], [])
def bM (F : SYS) (n : Nat) (p0 : PP) : Mly := match bR F n p0 with | some s => ⟨n, 0, s.2.1, s.2.2⟩ | none => ⟨0, 0, [], []⟩
def bE (F : SYS) (n : Nat) (p0 : PP) : Int := if (bR F n p0).isSome = true then 0 else 11
theorem bM_some {F : SYS} {n : Nat} {p0 : PP} {s : BST} (h : bR F n p0 = some s) : bM F n p0 = ⟨n, 0, s.2.1, s.2.2⟩ := by unfold bM; rw [h]
theorem bM_none {F : SYS} {n : Nat} {p0 : PP} (h : bR F n p0 = none) : bM F n p0 = ⟨0, 0, [], []⟩ := by unfold bM; rw [h]
theorem bE_some {F : SYS} {n : Nat} {p0 : PP} {s : BST} (h : bR F n p0 = some s) : bE F n p0 = 0 := by unfold bE; rw [h]; rfl
theorem bE_none {F : SYS} {n : Nat} {p0 : PP} (h : bR F n p0 = none) : bE F n p0 = 11 := by unfold bE; rw [h]; rfl
theorem bL_succ (F : SYS) (p : PP) (l : List PP) (x : Nat) : bL F p l (x + 1) = addG (bL F p l x) (F p x).1 := by
  unfold bL; rw [List.range_succ, List.foldl_append]; rfl
theorem bN_succ (F : SYS) (p : PP) (l : List PP) (x : Nat) : bN F p l (x + 1) = bN F p l x ++ [(pos (bL F p l x) (F p x).1 : Int)] := by
  unfold bN; rw [List.range_succ, List.map_append]; rfl
theorem bO_succ (F : SYS) (p : PP) (x : Nat) : bO F p (x + 1) = bO F p x ++ [(F p x).2] := by
  unfold bO; rw [List.range_succ, List.map_append]; rfl
theorem bN_len (F : SYS) (p : PP) (l : List PP) (x : Nat) : (bN F p l x).length = x := by simp [bN]
theorem bO_len (F : SYS) (p : PP) (x : Nat) : (bO F p x).length = x := by simp [bO]
theorem addG_pre {α : Type} [DecidableEq α] (l : List α) (x : α) : ∃ k, addG l x = l ++ k := foldG_pre [x] l
theorem bL_pre (F : SYS) (p : PP) (l : List PP) : ∀ x, ∃ k, bL F p l x = l ++ k
  | 0 => ⟨[], by simp [bL]⟩
  | x + 1 => by
    obtain ⟨k, e⟩ := bL_pre F p l x
    obtain ⟨k', e'⟩ := addG_pre (bL F p l x) (F p x).1
    exact ⟨k ++ k', by rw [bL_succ, e', e, List.append_assoc]⟩
theorem bL_more (F : SYS) (p : PP) (l : List PP) (x : Nat) : ∀ d, ∃ k, bL F p l (x + d) = bL F p l x ++ k
  | 0 => ⟨[], by simp⟩
  | d + 1 => by
    obtain ⟨k, e⟩ := bL_more F p l x d
    obtain ⟨k', e'⟩ := addG_pre (bL F p l (x + d)) (F p (x + d)).1
    exact ⟨k ++ k', by rw [← Nat.add_assoc, bL_succ, e', e, List.append_assoc]⟩
theorem bL_ge (F : SYS) (p : PP) (l : List PP) (x : Nat) : l.length ≤ (bL F p l x).length := by
  obtain ⟨k, e⟩ := bL_pre F p l x
  rw [e, List.length_append]; omega
theorem bL_at (F : SYS) (p : PP) {l : List PP} (x : Nat) {i : Nat} (h : i < l.length) : (bL F p l x).getD i d0 = l.getD i d0 := by
  obtain ⟨k, e⟩ := bL_pre F p l x
  rw [e]; simp [List.getD, List.getElem?_append_left h]
theorem bL_in (F : SYS) (p : PP) (l : List PP) {x y : Nat} (h : y < x) : (F p y).1 ∈ bL F p l x := by
  obtain ⟨k, e⟩ := bL_more F p l (y + 1) (x - (y + 1))
  rw [show x = y + 1 + (x - (y + 1)) by omega, e, List.mem_append, bL_succ, addG_mem]
  exact .inl (.inr rfl)
theorem bL_nodup (F : SYS) (p : PP) {l : List PP} (h : l.Nodup) : ∀ x, (bL F p l x).Nodup
  | 0 => by simpa [bL] using h
  | x + 1 => by rw [bL_succ]; exact addG_nodup (bL_nodup F p h x) _
theorem bL_mem (F : SYS) (p : PP) (l : List PP) {q : PP} : ∀ {x}, q ∈ bL F p l x → q ∈ l ∨ ∃ y, y < x ∧ (F p y).1 = q
  | 0, h => .inl (by simpa [bL] using h)
  | x + 1, h => by
    rw [bL_succ, addG_mem] at h
    rcases h with h | h
    · rcases bL_mem F p l h with h1 | ⟨y, hy, e⟩
      · exact .inl h1
      · exact .inr ⟨y, by omega, e⟩
    · exact .inr ⟨x, by omega, h.symm⟩
theorem pos_add {α : Type} [DecidableEq α] (l : List α) (x : α) : pos (addG l x) x = pos l x := by
  by_cases h : x ∈ l
  · rw [addG_in h]
  · rw [addG_out h, pos_last h, pos_out h]
theorem bL_pos (F : SYS) (p : PP) (l : List PP) {x y : Nat} (h : y < x) : pos (bL F p l x) (F p y).1 = pos (bL F p l y) (F p y).1 := by
  obtain ⟨k, e⟩ := bL_more F p l (y + 1) (x - (y + 1))
  rw [show x = y + 1 + (x - (y + 1)) by omega, e, pos_append _ (bL_in F p l (Nat.lt_succ_self y)), bL_succ, pos_add]
structure BOK (F : SYS) (n : Nat) (p0 : PP) (i : Nat) (s : BST) : Prop where
  nd : s.1.Nodup
  le : s.1.length ≤ 128
  nl : s.2.1.length = i
  ol : s.2.2.length = i
  il : i ≤ s.1.length
  hd : s.1.getD 0 d0 = p0
  h0 : 0 < s.1.length
  nx : ∀ j, j < i → s.2.1.getD j [] = (List.range n).map fun x => (pos s.1 (F (s.1.getD j d0) x).1 : Int)
  ot : ∀ j, j < i → s.2.2.getD j [] = (List.range n).map fun x => (F (s.1.getD j d0) x).2
  cl : ∀ j x, j < i → x < n → (F (s.1.getD j d0) x).1 ∈ s.1
  bd : ∀ j x, j < i → x < n → (F (s.1.getD j d0) x).2 ≤ 1048576
theorem bok_one (F : SYS) (n : Nat) (p0 : PP) : BOK F n p0 0 ([p0], [], []) where
  nd := by simp
  le := by simp
  nl := rfl
  ol := rfl
  il := Nat.zero_le _
  hd := rfl
  h0 := by simp
  nx := fun j h => by omega
  ot := fun j h => by omega
  cl := fun j x h => by omega
  bd := fun j x h => by omega
theorem getD_snoc_lt {α : Type} {l : List α} {y d : α} {i : Nat} (h : i < l.length) : (l ++ [y]).getD i d = l.getD i d := by simp [List.getD, List.getElem?_append_left h]
theorem getD_snoc_eq {α : Type} {l : List α} {y d : α} {i : Nat} (h : i = l.length) : (l ++ [y]).getD i d = y := by subst h; simp [List.getD]
theorem bX_no {F : SYS} {p : PP} {l : List PP} {n : Nat} (h : (List.range n).any (bX F p l) = false) {y : Nat} (hy : y < n) : (bL F p l (y + 1)).length ≤ 128 ∧ (F p y).2 ≤ 1048576 := by
  rw [List.any_eq_false] at h
  have := h y (by simpa using hy)
  simp only [bX, Bool.not_eq_true, Bool.or_eq_false_iff, decide_eq_false_iff_not] at this
  omega
theorem bL_le {F : SYS} {p : PP} {l : List PP} {n : Nat} (hl : l.length ≤ 128) (h : (List.range n).any (bX F p l) = false) : (bL F p l n).length ≤ 128 := by
  cases n with
  | zero => simpa [bL] using hl
  | succ n => exact (bX_no h (Nat.lt_succ_self n)).1
theorem BOK.step {F : SYS} {n : Nat} {p0 : PP} {i : Nat} {s : BST} (h : BOK F n p0 i s) (hi : i < s.1.length) (hb : (List.range n).any (bX F (s.1.getD i d0) s.1) = false) : BOK F n p0 (i + 1) (bA F n i s) where
  nd := bL_nodup F _ h.nd n
  le := bL_le h.le hb
  nl := by simp [bA, h.nl]
  ol := by simp [bA, h.ol]
  il := Nat.le_trans hi (bL_ge F _ s.1 n)
  hd := by simp only [bA]; rw [bL_at F _ n h.h0]; exact h.hd
  h0 := Nat.lt_of_lt_of_le h.h0 (bL_ge F _ s.1 n)
  nx := fun j hj => by
    simp only [bA]
    rw [bL_at F _ n (show j < s.1.length by omega)]
    by_cases e : j = i
    · rw [getD_snoc_eq (by rw [h.nl, e]), e]
      exact List.map_congr_left fun x hx => by rw [bL_pos F _ s.1 (List.mem_range.1 hx)]
    · have hji : j < i := by omega
      rw [getD_snoc_lt (by rw [h.nl]; exact hji), h.nx j hji]
      refine List.map_congr_left fun x hx => ?_
      obtain ⟨k, ek⟩ := bL_pre F (s.1.getD i d0) s.1 n
      rw [ek, pos_append _ (h.cl j x hji (List.mem_range.1 hx))]
  ot := fun j hj => by
    simp only [bA]
    rw [bL_at F _ n (show j < s.1.length by omega)]
    by_cases e : j = i
    · rw [getD_snoc_eq (by rw [h.ol, e]), e]; rfl
    · rw [getD_snoc_lt (by rw [h.ol]; omega), h.ot j (by omega)]
  cl := fun j x hj hx => by
    simp only [bA]
    rw [bL_at F _ n (show j < s.1.length by omega)]
    by_cases e : j = i
    · rw [e]; exact bL_in F _ s.1 hx
    · obtain ⟨k, ek⟩ := bL_pre F (s.1.getD i d0) s.1 n
      rw [ek, List.mem_append]
      exact .inl (h.cl j x (by omega) hx)
  bd := fun j x hj hx => by
    simp only [bA]
    rw [bL_at F _ n (show j < s.1.length by omega)]
    by_cases e : j = i
    · rw [e]; exact (bX_no hb hx).2
    · exact h.bd j x (by omega) hx
theorem bF_end (F : SYS) (n f i : Nat) (s : BST) (h : s.1.length ≤ i) : bF F n (f + 1) i s = some s := by simp only [bF]; rw [if_neg (by omega)]
theorem bF_bad {F : SYS} {n f i : Nat} {s : BST} (h : i < s.1.length) {y : Nat} (hy : y < n) (hb : bX F (s.1.getD i d0) s.1 y = true) : bF F n f i s = none := by
  cases f with
  | zero => rfl
  | succ f => simp only [bF]; rw [if_pos h, if_pos (List.any_eq_true.2 ⟨y, by simpa using hy, hb⟩)]
theorem bF_step {F : SYS} {n f i : Nat} {s : BST} (h : i < s.1.length) (hb : ∀ y, y < n → bX F (s.1.getD i d0) s.1 y = false) : bF F n (f + 1) i s = bF F n f (i + 1) (bA F n i s) := by
  simp only [bF]
  rw [if_pos h, if_neg]
  rw [List.any_eq_true]
  rintro ⟨y, hy, e⟩
  rw [hb y (by simpa using hy)] at e
  cases e
theorem bF_ok {F : SYS} {n : Nat} {p0 : PP} : ∀ {f i : Nat} {s s' : BST}, BOK F n p0 i s → bF F n f i s = some s' → BOK F n p0 s'.1.length s'
  | 0, _, _, _, _, h => by cases h
  | f + 1, i, s, s', hs, h => by
    simp only [bF] at h
    split at h
    · rename_i hi
      split at h
      · cases h
      · rename_i hb
        exact bF_ok (hs.step hi (by simpa using hb)) h
    · rename_i hi
      simp only [Option.some.injEq] at h
      subst h
      have := hs.il
      rw [show s.1.length = i by omega]; exact hs
theorem bR_ok {F : SYS} {n : Nat} {p0 : PP} {s : BST} (h : bR F n p0 = some s) : BOK F n p0 s.1.length s := bF_ok (bok_one F n p0) h
theorem bF_pre {F : SYS} {n : Nat} : ∀ {f i : Nat} {s s' : BST}, bF F n f i s = some s' → ∃ k, s'.1 = s.1 ++ k
  | 0, _, _, _, h => by cases h
  | f + 1, i, s, s', h => by
    simp only [bF] at h
    split at h
    · split at h
      · cases h
      · obtain ⟨k, e⟩ := bF_pre h
        obtain ⟨k', e'⟩ := bL_pre F (s.1.getD i d0) s.1 n
        exact ⟨k' ++ k, by rw [e]; simp only [bA]; rw [e', List.append_assoc]⟩
    · simp only [Option.some.injEq] at h
      subst h
      exact ⟨[], by simp⟩
/-- A closed finite set: the machine is built. -/
theorem bF_fin {F : SYS} {n : Nat} (Q : List PP) (hQ : Q.length ≤ 128) (hc : ∀ q, q ∈ Q → ∀ x, x < n → (F q x).1 ∈ Q ∧ (F q x).2 ≤ 1048576) :
    ∀ (f i : Nat) (s : BST), s.1.Nodup → (∀ q, q ∈ s.1 → q ∈ Q) → i ≤ s.1.length → 130 ≤ f + i → ∃ s', bF F n f i s = some s' ∧ ∀ q, q ∈ s'.1 → q ∈ Q
  | 0, i, s, hn, hs, hi, hf => by
    have := nodup_sub s.1 Q hn hs
    omega
  | f + 1, i, s, hn, hs, hi, hf => by
    by_cases hil : i < s.1.length
    · have hp : s.1.getD i d0 ∈ s.1 := by simp [List.getD, hil]
      have hq := hc _ (hs _ hp)
      have hL : ∀ x, x ≤ n → ∀ q, q ∈ bL F (s.1.getD i d0) s.1 x → q ∈ Q := fun x hx q h => by
        rcases bL_mem F _ s.1 h with h1 | ⟨y, hy, e⟩
        · exact hs q h1
        · rw [← e]; exact (hq y (by omega)).1
      have hb : ∀ y, y < n → bX F (s.1.getD i d0) s.1 y = false := fun y hy => by
        have h1 := nodup_sub _ Q (bL_nodup F (s.1.getD i d0) hn (y + 1)) (hL (y + 1) (by omega))
        have h2 := (hq y hy).2
        simp only [bX, Bool.or_eq_false_iff, decide_eq_false_iff_not]; omega
      rw [bF_step hil hb]
      exact bF_fin Q hQ hc f (i + 1) _ (bL_nodup F _ hn n) (hL n (Nat.le_refl _)) (Nat.le_trans hil (bL_ge F _ s.1 n)) (by omega)
    · exact ⟨s, bF_end F n f i s (by omega), hs⟩
theorem bR_fin {F : SYS} {n : Nat} {p0 : PP} (Q : List PP) (hQ : Q.length ≤ 128) (h0 : p0 ∈ Q) (hc : ∀ q, q ∈ Q → ∀ x, x < n → (F q x).1 ∈ Q ∧ (F q x).2 ≤ 1048576) : ∃ s, bR F n p0 = some s ∧ ∀ q, q ∈ s.1 → q ∈ Q :=
  bF_fin Q hQ hc 130 0 _ (by simp) (fun q hq => by simp at hq; subst hq; exact h0) (Nat.zero_le _) (by omega)
/-- All pairs have what is kept by the steps. -/
theorem bF_all {F : SYS} {n : Nat} {I : PP → Prop} (hI : ∀ q, I q → ∀ x, x < n → I (F q x).1) : ∀ {f i : Nat} {s s' : BST}, (∀ q, q ∈ s.1 → I q) → bF F n f i s = some s' → ∀ q, q ∈ s'.1 → I q
  | 0, _, _, _, _, h => by cases h
  | f + 1, i, s, s', hs, h => by
    simp only [bF] at h
    split at h
    · rename_i hil
      split at h
      · cases h
      · refine bF_all hI (fun q hq => ?_) h
        rcases bL_mem F _ s.1 hq with h1 | ⟨y, hy, e⟩
        · exact hs q h1
        · rw [← e]; exact hI _ (hs _ (by simp [List.getD, hil])) y hy
    · simp only [Option.some.injEq] at h
      subst h; exact hs
theorem bR_all {F : SYS} {n : Nat} {p0 : PP} {I : PP → Prop} (hI : ∀ q, I q → ∀ x, x < n → I (F q x).1) (h0 : I p0) {s : BST} (h : bR F n p0 = some s) : ∀ q, q ∈ s.1 → I q :=
  bF_all hI (fun q hq => by simp at hq; subst hq; exact h0) h
/-! Runs. -/
def gF (F : SYS) (p : PP) (w : List Int) : PP × List Int := w.foldl (fun st a => ((F st.1 a.toNat).1, st.2 ++ [(F st.1 a.toNat).2])) (p, [])
theorem gF_acc (F : SYS) : ∀ (w : List Int) (p : PP) (o : List Int), w.foldl (fun st a => ((F st.1 a.toNat).1, st.2 ++ [(F st.1 a.toNat).2])) (p, o) = ((gF F p w).1, o ++ (gF F p w).2)
  | [], p, o => by simp [gF]
  | a :: w, p, o => by
    simp only [gF, List.foldl_cons, List.nil_append]
    rw [gF_acc F w, gF_acc F w]; simp
theorem gF_cons (F : SYS) (p : PP) (a : Int) (w : List Int) : gF F p (a :: w) = ((gF F (F p a.toNat).1 w).1, (F p a.toNat).2 :: (gF F (F p a.toNat).1 w).2) := by
  conv => lhs; unfold gF
  rw [List.foldl_cons, gF_acc]; simp
theorem mem_d0 {l : List PP} {i : Nat} (h : i < l.length) : l.getD i d0 ∈ l := by simp [List.getD, h]
theorem at_pos {l : List PP} {q : PP} (h : q ∈ l) : l.getD (pos l q) d0 = q := by rw [List.getD, get_pos h]; rfl
section
variable {F : SYS} {n : Nat} {p0 : PP} {s : BST} (h : bR F n p0 = some s)
include h
theorem b_step {q : PP} (hq : q ∈ s.1) {a : Int} (h0 : 0 ≤ a) (h1 : a < n) : (bM F n p0).nxt (pos s.1 q) a = pos s.1 (F q a.toNat).1 ∧ (bM F n p0).out (pos s.1 q) a = (F q a.toNat).2 ∧ (F q a.toNat).1 ∈ s.1 := by
  have hk := bR_ok h
  have hp := pos_lt hq
  have ha : a.toNat < n := by omega
  rw [bM_some h]
  unfold Mly.nxt Mly.out
  rw [show ((pos s.1 q : Nat) : Int).toNat = pos s.1 q by omega]
  refine ⟨?_, ?_, ?_⟩
  · show (s.2.1.getD (pos s.1 q) []).getD a.toNat 0 = _
    rw [hk.nx _ hp, mr_getD _ _ ha, at_pos hq]
  · show (s.2.2.getD (pos s.1 q) []).getD a.toNat 0 = _
    rw [hk.ot _ hp, mr_getD _ _ ha, at_pos hq]
  · have := hk.cl _ _ hp ha
    rwa [at_pos hq] at this
theorem b_go : ∀ (w : List Int) (q : PP), q ∈ s.1 → (∀ i : Nat, i < w.length → 0 ≤ w.getD i 0 ∧ w.getD i 0 < n) → (bM F n p0).go (pos s.1 q) w = ((pos s.1 (gF F q w).1 : Int), (gF F q w).2) ∧ (gF F q w).1 ∈ s.1
  | [], q, hq, _ => ⟨rfl, hq⟩
  | a :: w, q, hq, hw => by
    obtain ⟨h1, h2⟩ := syms_tail hw
    obtain ⟨e1, e2, e3⟩ := b_step h hq h1.1 h1.2
    obtain ⟨g1, g2⟩ := b_go w _ e3 h2
    rw [go_cons, gF_cons, e1, e2, g1]
    exact ⟨rfl, g2⟩
theorem b_ok (hn : 1 ≤ n ∧ n ≤ 64) (ho : ∀ q, q ∈ s.1 → ∀ x, x < n → 0 ≤ (F q x).2) : MOK (bM F n p0) := by
  have hk := bR_ok h
  rw [bM_some h]
  refine ⟨?_, ?_, ?_, ?_, ?_, ?_, ?_, ?_, ?_, ?_, ?_⟩
  · show 1 ≤ (n : Int); omega
  · show (n : Int) ≤ 64; omega
  · show 1 ≤ s.2.1.length; rw [hk.nl]; exact hk.h0
  · show s.2.1.length ≤ 128; rw [hk.nl]; exact hk.le
  · exact Int.le_refl 0
  · show (0 : Int) < (s.2.1.length : Int); rw [hk.nl]; have := hk.h0; omega
  · show s.2.2.length = s.2.1.length; rw [hk.nl, hk.ol]
  · intro j hj
    have hj2 : j < s.1.length := by rw [← hk.nl]; exact hj
    show ((s.2.1.getD j []).length : Int) = n
    rw [hk.nx j hj2]; simp
  · intro j hj
    have hj2 : j < s.1.length := by rw [← hk.nl]; exact hj
    show ((s.2.2.getD j []).length : Int) = n
    rw [hk.ot j hj2]; simp
  · intro j a hj ha
    have hj2 : j < s.1.length := by rw [← hk.nl]; exact hj
    have ha2 : a < n := by have : (a : Int) < n := ha; omega
    show 0 ≤ (s.2.1.getD j []).getD a 0 ∧ (s.2.1.getD j []).getD a 0 < (s.2.1.length : Int)
    rw [hk.nx j hj2, mr_getD _ _ ha2, hk.nl]
    have := pos_lt (hk.cl j a hj2 ha2)
    omega
  · intro j a hj ha
    have hj2 : j < s.1.length := by rw [← hk.nl]; exact hj
    have ha2 : a < n := by have : (a : Int) < n := ha; omega
    show 0 ≤ (s.2.2.getD j []).getD a 0 ∧ (s.2.2.getD j []).getD a 0 ≤ 1048576
    rw [hk.ot j hj2, mr_getD _ _ ha2]
    exact ⟨ho _ (mem_d0 hj2) a ha2, hk.bd j a hj2 ha2⟩
end
/-! For the walks. -/
def encB (p : PP) : Int × (Int × Unit) := (p.1, (p.2, ()))
theorem encB_at {l : List PP} {i : Nat} (h : i < l.length) (d : Int × (Int × Unit)) : (List.map encB l).getD i d = ((l.getD i d0).1, ((l.getD i d0).2, ())) := by simp [List.getD, h, encB]
theorem encB_df (l : List PP) (i : Nat) : (List.map encB l).getD i (Ty.dflt (.pair (.int .i64) (.pair (.int .i64) .unit))) = ((l.getD i d0).1, ((l.getD i d0).2, ())) ∧ (List.map encB l).getD i ((0 : Int), ((0 : Int), ())) = ((l.getD i d0).1, ((l.getD i d0).2, ())) := by
  have : (List.map encB l).getD i ((0 : Int), ((0 : Int), ())) = ((l.getD i d0).1, ((l.getD i d0).2, ())) := by
    by_cases h : i < l.length
    · exact encB_at h _
    · simp [List.getD, List.getElem?_eq_none (Nat.le_of_not_lt h), d0]
  exact ⟨this, this⟩
theorem pos_ne {q : PP} : ∀ {l : List PP} {k : Nat}, k < pos l q → l.getD k d0 ≠ q
  | [], k, h => by simp [pos] at h
  | y :: l, k, h => by
    simp only [pos] at h
    split at h
    · omega
    · rename_i e
      cases k with
      | zero => simpa [List.getD] using e
      | succ k =>
        have := pos_ne (q := q) (l := l) (k := k) (by omega)
        simpa [List.getD] using this
theorem posP {l : List PP} {q : PP} {k : Nat} (hq : ∀ j, j < k → l.getD j d0 ≠ q) (hk : k ≤ l.length) (h : k < l.length → l.getD k d0 = q) : k = pos l q ∧ (k < l.length → q ∈ l) ∧ (k = l.length → q ∉ l) := by
  have hin : k < l.length → q ∈ l := fun hl => by rw [← h hl]; exact mem_d0 hl
  have hout : k = l.length → q ∉ l := fun hl hm => by
    have h1 := pos_lt hm
    exact hq _ (by omega) (at_pos hm)
  refine ⟨?_, hin, hout⟩
  by_cases hl : k < l.length
  · have hm := hin hl
    have h1 := pos_lt hm
    rcases Nat.lt_trichotomy k (pos l q) with h2 | h2 | h2
    · exact absurd (h hl) (pos_ne h2)
    · exact h2
    · exact absurd (at_pos hm) (hq _ h2)
  · have e : k = l.length := by omega
    rw [pos_out (hout e)]; exact e
end Go.AV
namespace Go.AV
open Nat (reduceEqDiff reduceAdd reduceLeDiff reduceLT reduceMul reduceSub)
open List (set_cons_zero set_cons_succ)
/-plain-/
/-! Sorted lists without repetition. -/
theorem getI_D (xs : List Int) (j : Nat) : xs.toArray[j]! = xs.getD j 0 := by
  by_cases h : j < xs.length
  · rw [getElem!_pos _ _ (by simpa using h)]; simp [List.getD, h]
  · rw [getElem!_neg _ _ (by simpa using h)]; simp [List.getD, h]
theorem cu_spec (xs : List Int) (hs : ∀ i j, i ≤ j → j < xs.length → xs.getD i 0 ≤ xs.getD j 0) : ∀ m, m ≤ xs.length →
    (Lib.compactUpTo xs.toArray m).Pairwise (· < ·) ∧ ∀ x, x ∈ Lib.compactUpTo xs.toArray m ↔ ∃ j, j < m ∧ xs.getD j 0 = x
  | 0, _ => by simp [Lib.compactUpTo]
  | m + 1, hm => by
    obtain ⟨h1, h2⟩ := cu_spec xs hs m (by omega)
    rw [Lib.compactUpTo_succ]
    cases hk : Lib.keeps xs.toArray m with
    | true =>
      simp only [if_true]
      have hb : m = 0 ∨ xs.getD m 0 ≠ xs.getD (m - 1) 0 := by
        have := of_decide_eq_true hk
        rwa [getI_D, getI_D] at this
      refine ⟨?_, fun x => ?_⟩
      · rw [List.pairwise_append]
        refine ⟨h1, by simp, fun a ha b hb2 => ?_⟩
        obtain ⟨j, hj, e⟩ := (h2 a).1 ha
        rw [List.mem_singleton, getI_D] at hb2
        rw [hb2, ← e]
        have q1 := hs j (m - 1) (by omega) (by omega)
        have q2 := hs (m - 1) m (by omega) (by omega)
        omega
      · rw [List.mem_append, h2, List.mem_singleton, getI_D]
        constructor
        · rintro (⟨j, hj, e⟩ | e)
          · exact ⟨j, by omega, e⟩
          · exact ⟨m, by omega, e.symm⟩
        · rintro ⟨j, hj, e⟩
          by_cases hjm : j = m
          · exact .inr (by rw [← e, hjm])
          · exact .inl ⟨j, by omega, e⟩
    | false =>
      simp only [Bool.false_eq_true, if_false, List.append_nil]
      have hb : m ≠ 0 ∧ xs.getD m 0 = xs.getD (m - 1) 0 := by
        have := of_decide_eq_false hk
        rw [getI_D, getI_D] at this
        refine ⟨fun e => this (.inl e), ?_⟩
        false_or_by_contra
        rename_i hh
        exact this (.inr hh)
      refine ⟨h1, fun x => ?_⟩
      rw [h2]
      constructor
      · rintro ⟨j, hj, e⟩; exact ⟨j, by omega, e⟩
      · rintro ⟨j, hj, e⟩
        by_cases hjm : j = m
        · exact ⟨m - 1, by omega, by rw [← e, hjm, hb.2]⟩
        · exact ⟨j, by omega, e⟩
theorem mem_getD {xs : List Int} {x : Int} : x ∈ xs ↔ ∃ j, j < xs.length ∧ xs.getD j 0 = x := by
  constructor
  · intro h
    obtain ⟨j, hj⟩ := List.getElem?_of_mem h
    exact ⟨j, (List.getElem?_eq_some_iff.1 hj).1, by simp [List.getD, hj]⟩
  · rintro ⟨j, hj, e⟩; rw [← e]; exact getD_mem hj
def sortI (xs : List Int) : List Int := xs.mergeSort fun x y => decide (x ≤ y)
theorem sortI_at (xs : List Int) : ∀ i j, i ≤ j → j < (sortI xs).length → (sortI xs).getD i 0 ≤ (sortI xs).getD j 0 := by
  intro i j hij hj
  by_cases e : i = j
  · rw [e]; omega
  · have hp : (sortI xs).Pairwise (fun x y => decide (x ≤ y) = true) := List.pairwise_mergeSort (le := fun x y => decide (x ≤ y)) (fun a b c h1 h2 => by simp at *; omega) (fun a b => by simp; omega) xs
    have := List.pairwise_iff_getElem.1 hp i j (by omega) hj (by omega)
    simp [List.getD, hj, show i < (sortI xs).length by omega]
    simpa using this
theorem sortI_mem {xs : List Int} {x : Int} : x ∈ sortI xs ↔ x ∈ xs := List.mem_mergeSort
theorem sortI_len (xs : List Int) : (sortI xs).length = xs.length := List.length_mergeSort _
def uniq (xs : List Int) : List Int := Lib.compact (sortI xs)
theorem uniq_spec (xs : List Int) : (uniq xs).Pairwise (· < ·) ∧ ∀ x, x ∈ uniq xs ↔ x ∈ xs := by
  obtain ⟨h1, h2⟩ := cu_spec (sortI xs) (sortI_at xs) _ (Nat.le_refl _)
  refine ⟨h1, fun x => ?_⟩
  rw [uniq, Lib.compact, h2, ← mem_getD, sortI_mem]
theorem compact_len {xs : List Int} : (Lib.compact xs).length ≤ xs.length := by
  unfold Lib.compact Lib.compactUpTo
  rw [List.length_map]
  exact Nat.le_trans (List.length_filter_le _ _) (by simp)
theorem uniq_len (xs : List Int) : (uniq xs).length ≤ xs.length := by rw [← sortI_len xs]; exact compact_len
/-! Insertion. -/
/-- The outputs of a machine. -/
def outsL (m : Mly) : List Int := if validE m = 0 then uniq m.ot.flatten else []
theorem outs_bad {m : Mly} (h : ¬ validE m = 0) : outsL m = [] := if_neg h
theorem outs_ok {m : Mly} (h : validE m = 0) : outsL m = uniq m.ot.flatten := if_pos h
theorem ot_len {m : Mly} (hm : MOK m) : ∀ k, k ≤ m.ot.length → ((m.ot.take k).flatten.length : Int) = k * m.inp
  | 0, _ => by simp
  | k + 1, h => by
    rw [flat_take_succ _ (by omega), List.length_append]
    have h1 := ot_len hm k (by omega)
    have h2 := hm.ql k (by have := hm.ol; omega)
    rw [Int.natCast_add, h1, h2]
    have : ((k + 1 : Nat) : Int) = (k : Int) + 1 := by omega
    rw [this, Int.add_mul]; omega
/-! The reference's trimmed machine. -/
theorem pos_getD {l : List Int} (hn : l.Nodup) {i : Nat} (h : i < l.length) : pos l (l.getD i 0) = i := by
  have hm := getD_mem h
  have h1 := pos_lt hm
  have h2 := get_pos hm
  have h3 : l[i]? = some (l.getD i 0) := by simp [List.getD, h]
  exact (List.getElem?_inj h1 hn).1 (h2.trans h3.symm)
theorem ix_pos {m : Mly} (hm : MOK m) {t : Int} (h : t ∈ m.reach) : m.ix t = pos m.reach t := by
  obtain ⟨i, hi, e⟩ := mem_getD.1 h
  rw [← e, ix_at hm hi, pos_getD (rset_reach hm).nd hi]
/-! Traces. -/
theorem mapI_take_succ {l : List Int} (f : Int → Int) {j : Nat} (h : j < l.length) : (l.take (j + 1)).map f = (l.take j).map f ++ [f (l.getD j 0)] := by
  rw [take_succ_D h, List.map_append]; rfl
theorem flat_small {m : Mly} (hm : MOK m) {k : Nat} (h : k ≤ m.ot.length) : (m.ot.take k).flatten.length ≤ 8192 := by
  have h1 := ot_len hm k h
  have h2 := hm.ol; have h3 := hm.n2; have h4 := hm.i2; have h5 := hm.i1
  have h6 : (k : Int) * m.inp ≤ 128 * 64 := Int.mul_le_mul (by omega) (by omega) (by omega) (by omega)
  omega
end Go.AV
namespace Go.AV
open Nat (reduceEqDiff reduceAdd reduceLeDiff reduceLT reduceMul reduceSub)
open List (set_cons_zero set_cons_succ)
/-plain-/
/-! The greatest output. -/
theorem fmax_ge : ∀ (xs : List Int) (a : Int), a ≤ xs.foldl max a ∧ ∀ x, x ∈ xs → x ≤ xs.foldl max a
  | [], a => ⟨Int.le_refl a, fun x h => by cases h⟩
  | y :: xs, a => by
    rw [List.foldl_cons]
    obtain ⟨h1, h2⟩ := fmax_ge xs (max a y)
    refine ⟨by omega, fun x hx => ?_⟩
    rcases List.mem_cons.1 hx with e | h
    · omega
    · exact h2 x h
theorem fmax_in : ∀ (xs : List Int) (a : Int), xs.foldl max a = a ∨ xs.foldl max a ∈ xs
  | [], a => .inl rfl
  | y :: xs, a => by
    rw [List.foldl_cons]
    rcases fmax_in xs (max a y) with h | h
    · rw [h]
      by_cases e : a ≤ y
      · rw [Int.max_eq_right e]; exact .inr (by simp)
      · rw [Int.max_eq_left (by omega)]; exact .inl rfl
    · exact .inr (List.mem_cons_of_mem _ h)
theorem fmax_max : ∀ (xs : List Int) (n a : Int), max n (xs.foldl max a) = xs.foldl max (max n a)
  | [], _, _ => rfl
  | y :: xs, n, a => by rw [List.foldl_cons, List.foldl_cons, fmax_max xs, Int.max_assoc]
def mxL (xs : List Int) : Int := xs.foldl max (xs.getD 0 0)
theorem mxL_max {xs : List Int} (h : 0 < xs.length) (n : Int) : max n (mxL xs) = xs.foldl max n := by
  cases xs with
  | nil => cases h
  | cons y xs =>
    unfold mxL
    rw [fmax_max, List.foldl_cons, List.foldl_cons]
    congr 1
    simp only [List.getD, List.getElem?_cons_zero, Option.getD_some]
    omega
def gr (m : Mly) : Int := m.ot.flatten.foldl max 0
theorem gr_nn (m : Mly) : 0 ≤ gr m := (fmax_ge _ _).1
theorem out_mem {m : Mly} (hm : MOK m) {s a : Int} (hs : 0 ≤ s ∧ s < m.nx.length) (ha : 0 ≤ a ∧ a < m.inp) : m.out s a ∈ m.ot.flatten := by
  have hol := hm.ol
  have h1 : s.toNat < m.ot.length := by omega
  have h2 := hm.ql s.toNat (by omega)
  rw [List.mem_flatten]
  refine ⟨m.ot.getD s.toNat [], by simp [List.getD, h1], getD_mem (by omega)⟩
theorem out_gr {m : Mly} (hm : MOK m) {s a : Int} (hs : 0 ≤ s ∧ s < m.nx.length) (ha : 0 ≤ a ∧ a < m.inp) : 0 ≤ m.out s a ∧ m.out s a ≤ gr m := by
  refine ⟨?_, (fmax_ge _ _).2 _ (out_mem hm hs ha)⟩
  exact (hm.or s.toNat a.toNat (by omega) (by omega)).1
theorem flat_rng {m : Mly} (hm : MOK m) {x : Int} (h : x ∈ m.ot.flatten) : ∃ s a : Nat, s < m.nx.length ∧ (a : Int) < m.inp ∧ m.out s a = x := by
  rw [List.mem_flatten] at h
  obtain ⟨r, hr, hx⟩ := h
  obtain ⟨s, hs⟩ := List.getElem?_of_mem hr
  have hs1 := (List.getElem?_eq_some_iff.1 hs).1
  obtain ⟨a, ha1, ha2⟩ := mem_at hx
  have hol := hm.ol
  have hq := hm.ql s (by omega)
  have e : m.ot.getD s [] = r := by simp [List.getD, hs]
  rw [e] at hq
  refine ⟨s, a, by omega, by omega, ?_⟩
  unfold Mly.out
  rw [Int.toNat_natCast, Int.toNat_natCast, e, ha2]
theorem gr_le {m : Mly} (hm : MOK m) : gr m ≤ 1048576 := by
  rcases fmax_in m.ot.flatten 0 with h | h
  · unfold gr; omega
  · obtain ⟨s, a, hs, ha, e⟩ := flat_rng hm h
    have := (hm.or s a hs ha).2
    unfold Mly.out at e
    rw [Int.toNat_natCast, Int.toNat_natCast] at e
    unfold gr; omega
theorem nxt_rng {m : Mly} (hm : MOK m) {s a : Int} (hs : 0 ≤ s ∧ s < m.nx.length) (ha : 0 ≤ a ∧ a < m.inp) : 0 ≤ m.nxt s a ∧ m.nxt s a < m.nx.length := hm.nr s.toNat a.toNat (by omega) (by omega)
/-! The systems. -/
def FP (a b : Mly) : SYS := fun p x => ((a.nxt p.1 x, b.nxt p.2 x), a.out p.1 x * (1 + gr b) + b.out p.2 x)
def FL (a b : Mly) : SYS := fun p x => if (x : Int) < a.inp then ((a.nxt p.1 x, p.2), a.out p.1 x) else ((p.1, b.nxt p.2 (x - a.inp)), b.out p.2 (x - a.inp) + (1 + gr a))
def FC (a b : Mly) : SYS := fun p x => ((a.nxt p.1 x, b.nxt p.2 (a.out p.1 x)), b.out p.2 (a.out p.1 x))
def FR (m : Mly) (is : List Int) : SYS := fun p x => ((m.nxt p.1 (is.getD x 0), 0), m.out p.1 (is.getD x 0))
def FM (m : Mly) (os : List Int) : SYS := fun p x => ((m.nxt p.1 x, 0), os.getD (m.out p.1 x).toNat 0)
def IP (a b : Mly) (p : PP) : Prop := (0 ≤ p.1 ∧ p.1 < a.nx.length) ∧ 0 ≤ p.2 ∧ p.2 < b.nx.length
def IS (m : Mly) (p : PP) : Prop := (0 ≤ p.1 ∧ p.1 < m.nx.length) ∧ p.2 = 0
theorem IP.st {a b : Mly} (ha : MOK a) (hb : MOK b) : IP a b (a.st, b.st) := ⟨⟨ha.s1, ha.s2⟩, hb.s1, hb.s2⟩
theorem IS.st {m : Mly} (hm : MOK m) : IS m (m.st, 0) := ⟨⟨hm.s1, hm.s2⟩, rfl⟩
theorem FP.keep {a b : Mly} (ha : MOK a) (hb : MOK b) (hi : a.inp = b.inp) : ∀ q, IP a b q → ∀ x, x < a.inp.toNat → IP a b (FP a b q x).1 := fun q hq x hx =>
  ⟨nxt_rng ha hq.1 ⟨by omega, by omega⟩, nxt_rng hb hq.2 ⟨by omega, by omega⟩⟩
theorem FL.keep {a b : Mly} (ha : MOK a) (hb : MOK b) : ∀ q, IP a b q → ∀ x, x < (a.inp + b.inp).toNat → IP a b (FL a b q x).1 := fun q hq x hx => by
  unfold FL
  split
  · exact ⟨nxt_rng ha hq.1 ⟨by omega, by omega⟩, hq.2⟩
  · exact ⟨hq.1, nxt_rng hb hq.2 ⟨by omega, by omega⟩⟩
theorem FC.keep {a b : Mly} (ha : MOK a) (hb : MOK b) (hg : gr a < b.inp) : ∀ q, IP a b q → ∀ x, x < a.inp.toNat → IP a b (FC a b q x).1 := fun q hq x hx => by
  have h1 := out_gr ha hq.1 (a := (x : Int)) ⟨by omega, by omega⟩
  exact ⟨nxt_rng ha hq.1 ⟨by omega, by omega⟩, nxt_rng hb hq.2 ⟨by omega, by omega⟩⟩
theorem FR.keep {m : Mly} (hm : MOK m) {is : List Int} (hi : ∀ i, i < is.length → 0 ≤ is.getD i 0 ∧ is.getD i 0 < m.inp) : ∀ q, IS m q → ∀ x, x < is.length → IS m (FR m is q x).1 := fun q hq x hx =>
  ⟨nxt_rng hm hq.1 (hi x hx), rfl⟩
theorem FM.keep {m : Mly} (hm : MOK m) (os : List Int) : ∀ q, IS m q → ∀ x, x < m.inp.toNat → IS m (FM m os q x).1 := fun q hq x hx =>
  ⟨nxt_rng hm hq.1 ⟨by omega, by omega⟩, rfl⟩
theorem FP.nn {a b : Mly} (ha : MOK a) (hb : MOK b) (hi : a.inp = b.inp) {q : PP} (hq : IP a b q) {x : Nat} (hx : x < a.inp.toNat) : (0 ≤ a.out q.1 x * (1 + gr b) ∧ a.out q.1 x * (1 + gr b) ≤ 1099512676352) ∧ 0 ≤ (FP a b q x).2 := by
  have h1 := out_gr ha hq.1 (a := (x : Int)) ⟨by omega, by omega⟩
  have h2 := out_gr hb hq.2 (a := (x : Int)) ⟨by omega, by omega⟩
  have h3 := gr_nn b; have h4 := gr_le hb; have h5 := gr_le ha
  have h6 : 0 ≤ a.out q.1 x * (1 + gr b) := Int.mul_nonneg h1.1 (by omega)
  have h7 : a.out q.1 x * (1 + gr b) ≤ 1048576 * 1048577 := Int.mul_le_mul (by omega) (by omega) (by omega) (by omega)
  refine ⟨⟨h6, by omega⟩, ?_⟩
  show 0 ≤ a.out q.1 x * (1 + gr b) + b.out q.2 x
  omega
theorem FL.nn {a b : Mly} (ha : MOK a) (hb : MOK b) {q : PP} (hq : IP a b q) {x : Nat} (hx : x < (a.inp + b.inp).toNat) : 0 ≤ (FL a b q x).2 := by
  unfold FL
  have h3 := gr_nn a
  split
  · exact (out_gr ha hq.1 (a := (x : Int)) ⟨by omega, by omega⟩).1
  · have := (out_gr hb hq.2 (a := (x : Int) - a.inp) ⟨by omega, by omega⟩).1
    show 0 ≤ b.out q.2 (x - a.inp) + (1 + gr a)
    omega
theorem FC.nn {a b : Mly} (ha : MOK a) (hb : MOK b) (hg : gr a < b.inp) {q : PP} (hq : IP a b q) {x : Nat} (hx : x < a.inp.toNat) : 0 ≤ (FC a b q x).2 := by
  have h1 := out_gr ha hq.1 (a := (x : Int)) ⟨by omega, by omega⟩
  exact (out_gr hb hq.2 (a := a.out q.1 x) ⟨h1.1, by omega⟩).1
/-! What the functions return. -/
def zM : Mly := ⟨0, 0, [], []⟩
def twoE (a b : Mly) : Int := if validE a = 0 then validE b else validE a
theorem twoE_ok {a b : Mly} (h : twoE a b = 0) : MOK a ∧ MOK b := by
  unfold twoE at h
  split at h
  · rename_i h1; exact ⟨mok_of h1, mok_of h⟩
  · contradiction
def prE (a b : Mly) : Int := if twoE a b = 0 then if a.inp = b.inp then bE (FP a b) a.inp.toNat (a.st, b.st) else 15 else twoE a b
def plE (a b : Mly) : Int := if twoE a b = 0 then if 64 < a.inp + b.inp then 2 else bE (FL a b) (a.inp + b.inp).toNat (a.st, b.st) else twoE a b
def caE (a b : Mly) : Int := if twoE a b = 0 then if b.inp ≤ gr a then 2 else bE (FC a b) a.inp.toNat (a.st, b.st) else twoE a b
def prM (a b : Mly) : Mly := if twoE a b = 0 ∧ a.inp = b.inp then bM (FP a b) a.inp.toNat (a.st, b.st) else zM
def plM (a b : Mly) : Mly := if twoE a b = 0 ∧ ¬ 64 < a.inp + b.inp then bM (FL a b) (a.inp + b.inp).toNat (a.st, b.st) else zM
def caM (a b : Mly) : Mly := if twoE a b = 0 ∧ ¬ b.inp ≤ gr a then bM (FC a b) a.inp.toNat (a.st, b.st) else zM
/-! Restrict and Map: the trimmed machine. -/
def rM (m : Mly) (is : List Int) : Mly := ⟨is.length, m.st, m.nx.map (fun r => is.map fun i => r.getD i.toNat 0), m.ot.map (fun r => is.map fun i => r.getD i.toNat 0)⟩
def oM (m : Mly) (os : List Int) : Mly := ⟨m.inp, m.st, m.nx, m.ot.map (fun r => r.map fun o => os.getD o.toNat 0)⟩
def isE (m : Mly) (is : List Int) (i : Nat) : Int := if is.getD i 0 < 0 ∨ m.inp ≤ is.getD i 0 then 2 else if is.getD i 0 ∈ is.take i then 7 else 0
def reE (m : Mly) (is : List Int) : Int := if validE m = 0 then if is.length = 0 then 19 else firstE (isE m is) is.length else validE m
def osB (os : List Int) (o : Int) : Bool := decide ((os.length : Int) ≤ o) || decide (os.getD o.toNat 0 < 0) || decide (1048576 < os.getD o.toNat 0)
def maE (m : Mly) (os : List Int) : Int := if validE m = 0 then if m.ot.flatten.any (osB os) = true then 2 else 0 else validE m
def reM (m : Mly) (is : List Int) : Mly := if reE m is = 0 then (rM m is).T else zM
def maM (m : Mly) (os : List Int) : Mly := if maE m os = 0 then (oM m os).T else zM
theorem isE_zero {m : Mly} {is : List Int} (h : reE m is = 0) : MOK m ∧ 0 < is.length ∧ ∀ i, i < is.length → (0 ≤ is.getD i 0 ∧ is.getD i 0 < m.inp) ∧ is.getD i 0 ∉ is.take i := by
  unfold reE at h
  split at h
  · rename_i h1
    split at h
    · omega
    · refine ⟨mok_of h1, by omega, fun i hi => ?_⟩
      have := firstE_none h i hi
      unfold isE at this
      split at this
      · omega
      · split at this
        · omega
        · rename_i h3 h4; exact ⟨by omega, h4⟩
  · contradiction
theorem nodup_of_take {is : List Int} (h : ∀ i, i < is.length → is.getD i 0 ∉ is.take i) : is.Nodup := by
  rw [List.nodup_iff_pairwise_ne, List.pairwise_iff_getElem]
  intro i j hi hj hij e
  apply h j hj
  have : is.getD j 0 = is.getD i 0 := by simp [List.getD, hi, hj, e]
  rw [this, mem_getD]
  exact ⟨i, by rw [List.length_take]; omega, by simp [List.getD, List.getElem?_take, hij]⟩
theorem is_len {m : Mly} {is : List Int} (h : reE m is = 0) : 1 ≤ is.length ∧ (is.length : Int) ≤ m.inp := by
  obtain ⟨h1, h2, h3⟩ := isE_zero h
  have hn := nodup_of_take fun i hi => (h3 i hi).2
  have := nodup_len m.inp.toNat is hn fun x hx => by
    obtain ⟨i, hi, e⟩ := mem_getD.1 hx
    have := (h3 i hi).1
    rw [e] at this; omega
  have := h1.i1
  omega
theorem getD_mapI {α : Type} (f : α → Int) {l : List α} {i : Nat} (d : α) (h : i < l.length) : (l.map f).getD i 0 = f (l.getD i d) := by simp [List.getD, h]
theorem getD_mapL {α β : Type} (f : α → List β) {l : List α} {i : Nat} (d : α) (h : i < l.length) : (l.map f).getD i [] = f (l.getD i d) := by simp [List.getD, h]
theorem rM_nxt {m : Mly} {is : List Int} {s : Int} {x : Nat} (hs : s.toNat < m.nx.length) (hx : x < is.length) : (rM m is).nxt s x = m.nxt s (is.getD x 0) := by
  unfold Mly.nxt rM
  simp only [Int.toNat_natCast]
  rw [getD_mapL _ [] hs, getD_mapI _ 0 hx]
theorem rM_out {m : Mly} {is : List Int} {s : Int} {x : Nat} (hs : s.toNat < m.ot.length) (hx : x < is.length) : (rM m is).out s x = m.out s (is.getD x 0) := by
  unfold Mly.out rM
  simp only [Int.toNat_natCast]
  rw [getD_mapL _ [] hs, getD_mapI _ 0 hx]
theorem rM_ok {m : Mly} {is : List Int} (h : reE m is = 0) : MOK (rM m is) := by
  obtain ⟨hm, h2, h3⟩ := isE_zero h
  have hl := is_len h
  have hol := hm.ol
  refine ⟨?_, ?_, ?_, ?_, hm.s1, ?_, ?_, ?_, ?_, ?_, ?_⟩
  · show 1 ≤ (is.length : Int); omega
  · show (is.length : Int) ≤ 64; have := hm.i2; omega
  · show 1 ≤ (m.nx.map _).length; rw [List.length_map]; exact hm.n1
  · show (m.nx.map _).length ≤ 128; rw [List.length_map]; exact hm.n2
  · show m.st < ((m.nx.map _).length : Int); rw [List.length_map]; exact hm.s2
  · show (m.ot.map _).length = (m.nx.map _).length; rw [List.length_map, List.length_map]; exact hol
  · intro s hs
    have hs2 : s < m.nx.length := by have : s < (m.nx.map _).length := hs; rwa [List.length_map] at this
    show (((m.nx.map _).getD s []).length : Int) = is.length
    rw [getD_mapL _ [] hs2]; simp
  · intro s hs
    have hs2 : s < m.nx.length := by have : s < (m.nx.map _).length := hs; rwa [List.length_map] at this
    show (((m.ot.map _).getD s []).length : Int) = is.length
    rw [getD_mapL _ [] (by omega)]; simp
  · intro s x hs hx
    have hs2 : s < m.nx.length := by have : s < (m.nx.map _).length := hs; rwa [List.length_map] at this
    have hx2 : x < is.length := by have : (x : Int) < is.length := hx; omega
    have := rM_nxt (m := m) (s := (s : Int)) (by simpa using hs2) hx2
    unfold Mly.nxt at this
    simp only [Int.toNat_natCast] at this
    rw [this]
    have h5 := (h3 x hx2).1
    have h6 := hm.nr s (is.getD x 0).toNat hs2 (by omega)
    show _ ∧ _ < (((m.nx.map _).length : Nat) : Int)
    rw [List.length_map]
    exact h6
  · intro s x hs hx
    have hs2 : s < m.nx.length := by have : s < (m.nx.map _).length := hs; rwa [List.length_map] at this
    have hx2 : x < is.length := by have : (x : Int) < is.length := hx; omega
    have := rM_out (m := m) (s := (s : Int)) (by simp; omega) hx2
    unfold Mly.out at this
    simp only [Int.toNat_natCast] at this
    rw [this]
    have h5 := (h3 x hx2).1
    exact hm.or s (is.getD x 0).toNat hs2 (by omega)
theorem maE_zero {m : Mly} {os : List Int} (h : maE m os = 0) : MOK m ∧ ∀ o, o ∈ m.ot.flatten → 0 ≤ o ∧ o < os.length ∧ 0 ≤ os.getD o.toNat 0 ∧ os.getD o.toNat 0 ≤ 1048576 := by
  unfold maE at h
  split at h
  · rename_i h1
    split at h
    · omega
    · rename_i h2
      have hm := mok_of h1
      refine ⟨hm, fun o ho => ?_⟩
      have h3 : osB os o = false := by
        cases hb : osB os o with
        | false => rfl
        | true => exact absurd (List.any_eq_true.2 ⟨o, ho, hb⟩) h2
      obtain ⟨s, a, hs, ha, e⟩ := flat_rng hm ho
      have h4 := (out_gr hm (s := (s : Int)) (a := (a : Int)) ⟨by omega, by omega⟩ ⟨by omega, by omega⟩).1
      simp only [osB, Bool.or_eq_false_iff, decide_eq_false_iff_not] at h3
      omega
  · contradiction
theorem oM_out {m : Mly} (hm : MOK m) (os : List Int) {s a : Int} (hs : 0 ≤ s ∧ s < m.nx.length) (ha : 0 ≤ a ∧ a < m.inp) : (oM m os).out s a = os.getD (m.out s a).toNat 0 := by
  have hol := hm.ol
  have hq := hm.ql s.toNat (by omega)
  unfold Mly.out oM
  simp only []
  rw [getD_mapL _ [] (by omega), getD_mapI _ 0 (by omega)]
theorem oM_ok {m : Mly} {os : List Int} (h : maE m os = 0) : MOK (oM m os) := by
  obtain ⟨hm, h2⟩ := maE_zero h
  have hol := hm.ol
  refine ⟨hm.i1, hm.i2, hm.n1, hm.n2, hm.s1, hm.s2, ?_, hm.rl, ?_, hm.nr, ?_⟩
  · show (m.ot.map _).length = m.nx.length; rw [List.length_map]; exact hol
  · intro s hs
    have hs2 : s < m.nx.length := hs
    show (((m.ot.map _).getD s []).length : Int) = m.inp
    rw [getD_mapL _ [] (by omega), List.length_map]; exact hm.ql s hs
  · intro s x hs hx
    have hs2 : s < m.nx.length := hs
    have hx2 : (x : Int) < m.inp := hx
    have := oM_out hm os (s := (s : Int)) (a := (x : Int)) ⟨by omega, by omega⟩ ⟨by omega, by omega⟩
    unfold Mly.out at this
    simp only [Int.toNat_natCast] at this
    rw [this]
    have h5 := h2 _ (out_mem hm (s := (s : Int)) (a := (x : Int)) ⟨by omega, by omega⟩ ⟨by omega, by omega⟩)
    unfold Mly.out at h5
    simp only [Int.toNat_natCast] at h5
    exact h5.2.2
/-! The machine of pairs (s, 0) is the trimmed machine. -/
theorem pos_fst {l : List PP} (h : ∀ q, q ∈ l → q.2 = 0) {t : Int} : pos l (t, 0) = pos (l.map (·.1)) t := by
  induction l with
  | nil => rfl
  | cons q l ih =>
    have h0 := h q (by simp)
    simp only [List.map_cons, pos]
    rw [ih fun q hq => h q (List.mem_cons_of_mem _ hq)]
    have : (q = (t, 0)) = (q.1 = t) := by
      apply propext
      constructor
      · intro e; rw [e]
      · intro e; exact Prod.ext e h0
    simp only [this]
theorem addG_fst {l : List PP} (h : ∀ q, q ∈ l → q.2 = 0) (t : Int) : (addG l (t, 0)).map (·.1) = addS (l.map (·.1)) t := by
  by_cases hm : (t, (0 : Int)) ∈ l
  · rw [addG_in hm, addS_in (List.mem_map.2 ⟨_, hm, rfl⟩)]
  · rw [addG_out hm, addS_out]
    · simp
    · intro hh
      obtain ⟨q, hq, e⟩ := List.mem_map.1 hh
      have h0 := h q hq
      apply hm
      rw [← e, ← h0]; exact hq
structure SNG (X : Mly) (F : SYS) : Prop where
  st : ∀ s x : Nat, s < X.nx.length → (x : Int) < X.inp → F ((s : Int), 0) x = ((X.nxt s x, 0), X.out s x)
theorem SNG.at_ {X : Mly} {F : SYS} (h : SNG X F) {q : PP} (hq : IS X q) {x : Nat} (hx : (x : Int) < X.inp) : F q x = ((X.nxt q.1 x, 0), X.out q.1 x) := by
  obtain ⟨q1, q2⟩ := q
  obtain ⟨h1, h2⟩ := hq
  simp only at h1 h2
  subst h2
  have := h.st q1.toNat x (by omega) hx
  rw [Int.toNat_of_nonneg h1.1] at this
  exact this
theorem sng_keep {X : Mly} (hX : MOK X) {F : SYS} (h : SNG X F) {q : PP} (hq : IS X q) {x : Nat} (hx : (x : Int) < X.inp) : IS X (F q x).1 := by
  rw [h.at_ hq hx]; exact ⟨nxt_rng hX hq.1 ⟨by omega, hx⟩, rfl⟩
theorem sng_fold {X : Mly} (hX : MOK X) {F : SYS} (h : SNG X F) {p : PP} (hp : IS X p) {l : List PP} (hl : ∀ q, q ∈ l → IS X q) : ∀ x : Nat, (x : Int) ≤ X.inp → (∀ q, q ∈ bL F p l x → IS X q) ∧ (bL F p l x).map (·.1) = ((X.row p.1).take x).foldl addS (l.map (·.1))
  | 0, _ => by simpa [bL] using hl
  | x + 1, hx => by
    obtain ⟨h1, h2⟩ := sng_fold hX h hp hl x (by omega)
    have hrl : ((X.row p.1).length : Int) = X.inp := hX.rl p.1.toNat (by have := hp.1; omega)
    have e := h.at_ hp (x := x) (by omega)
    have e1 : (F p x).1 = (X.nxt p.1 x, 0) := by rw [e]
    rw [bL_succ]
    refine ⟨fun q hq => ?_, ?_⟩
    · rw [addG_mem] at hq
      rcases hq with hq | hq
      · exact h1 q hq
      · rw [hq]; exact sng_keep hX h hp (by omega)
    · rw [e1, addG_fst (fun q hq => (h1 q hq).2), h2, fold_succ (by omega)]
      rfl
theorem sng_rf {X : Mly} (hX : MOK X) {F : SYS} (h : SNG X F) : ∀ (f i : Nat) (t s : BST) (g : Nat), (∀ q, q ∈ t.1 → IS X q) → i ≤ t.1.length → bF F X.inp.toNat f i t = some s → s.1.length < g + i → X.rf g i (t.1.map (·.1)) = s.1.map (·.1) ∧ ∀ q, q ∈ s.1 → IS X q
  | 0, _, _, _, _, _, _, hf, _ => by cases hf
  | f + 1, i, t, s, g, ht, hi, hf, hg => by
    have hpre := bF_pre hf
    by_cases hil : i < t.1.length
    · simp only [bF] at hf
      rw [if_pos hil] at hf
      split at hf
      · cases hf
      · obtain ⟨k, ek⟩ := hpre
        have hls : t.1.length ≤ s.1.length := by rw [ek, List.length_append]; omega
        obtain ⟨g', eg⟩ : ∃ g', g = g' + 1 := ⟨g - 1, by omega⟩
        subst eg
        have hi1 := hX.i1
        have hp := ht _ (mem_d0 hil)
        have hrl : ((X.row (t.1.getD i d0).1).length : Int) = X.inp := hX.rl (t.1.getD i d0).1.toNat (by have := hp.1; omega)
        obtain ⟨q1, q2⟩ := sng_fold hX h hp ht X.inp.toNat (by omega)
        rw [List.take_of_length_le (by omega)] at q2
        rw [rf_step _ _ _ _ (by simpa using hil), getD_mapI (·.1) d0 hil, ← q2]
        exact sng_rf hX h f (i + 1) (bA F X.inp.toNat i t) s g' q1 (Nat.le_trans hil (bL_ge F _ t.1 _)) hf (by omega)
    · simp only [bF] at hf
      rw [if_neg hil] at hf
      simp only [Option.some.injEq] at hf
      subst hf
      rw [rf_end _ _ _ _ (by simpa using hil)]
      exact ⟨rfl, ht⟩
theorem sng_bm {X : Mly} (hX : MOK X) {F : SYS} (h : SNG X F) : (∃ s, bR F X.inp.toNat (X.st, 0) = some s) ∧ bM F X.inp.toNat (X.st, 0) = X.T ∧ bE F X.inp.toNat (X.st, 0) = 0 := by
  have hi1 := hX.i1
  have hR := rset_reach hX
  have hol := hX.ol
  obtain ⟨s, hs, _⟩ := bR_fin (F := F) (n := X.inp.toNat) (p0 := (X.st, 0)) ((List.range X.nx.length).map fun (i : Nat) => ((i : Int), (0 : Int))) (by simpa using hX.n2)
    (by
      refine List.mem_map.2 ⟨X.st.toNat, ?_, ?_⟩
      · have := hX.s1; have := hX.s2; simp; omega
      · simp [Int.toNat_of_nonneg hX.s1])
    (fun q hq x hx => by
      obtain ⟨j, hj, e⟩ := List.mem_map.1 hq
      have hj2 : j < X.nx.length := by simpa using hj
      have hI : IS X q := by rw [← e]; exact ⟨⟨by simp, by simpa using hj2⟩, rfl⟩
      have hk := sng_keep hX h hI (x := x) (by omega)
      refine ⟨List.mem_map.2 ⟨(F q x).1.1.toNat, ?_, ?_⟩, ?_⟩
      · have := hk.1; simp; omega
      · exact Prod.ext (Int.toNat_of_nonneg hk.1.1) hk.2.symm
      · rw [h.at_ hI (x := x) (by omega)]
        have h1 := out_gr hX hI.1 (a := (x : Int)) ⟨by omega, by omega⟩
        have h2 := gr_le hX
        show X.out q.1 x ≤ 1048576
        omega)
  refine ⟨⟨s, hs⟩, ?_, bE_some hs⟩
  have hk := bR_ok hs
  obtain ⟨r1, r2⟩ := sng_rf hX h 130 0 _ s (s.1.length + X.nx.length + 1) (fun q hq => by simp at hq; subst hq; exact IS.st hX) (Nat.zero_le _) hs (by omega)
  have hre : s.1.map (·.1) = X.reach := by
    rw [← r1, reach_ok (validE_of hX)]
    exact rf_fuel hX _ _ _ (rset_one hX) (by omega) _ (by omega)
  have hlen : s.1.length = X.reach.length := by rw [← hre, List.length_map]
  rw [bM_some hs]
  unfold Mly.T
  rw [show ((X.inp.toNat : Nat) : Int) = X.inp by omega]
  have hat : ∀ j, j < s.1.length → (s.1.getD j d0).1 = X.reach.getD j 0 := fun j hj => by rw [← hre, getD_mapI (·.1) d0 hj]
  congr 1
  · apply List.ext_getElem
    · rw [hk.nl]; simp [Mly.tnx, hlen]
    · intro j h1 h2
      have hj : j < s.1.length := by rw [← hk.nl]; exact h1
      have hI := r2 _ (mem_d0 hj)
      have e1 : s.2.1[j] = s.2.1.getD j [] := by simp [List.getD, h1]
      have e2 : X.tnx[j] = X.tnx.getD j [] := by simp [List.getD, h2]
      have e3 : X.tnx.getD j [] = (X.row (X.reach.getD j 0)).map X.ix := T_row (m := X) (by omega)
      rw [e1, e2, e3, hk.nx j hj, ← hat j hj]
      have hrl := hX.rl (s.1.getD j d0).1.toNat (by have := hI.1; omega)
      apply List.ext_getElem
      · rw [List.length_map, List.length_range, List.length_map]
        show _ = (X.nx.getD (s.1.getD j d0).1.toNat []).length
        omega
      · intro x h3 h4
        have hx : x < X.inp.toNat := by simpa using h3
        simp only [List.getElem_map, List.getElem_range]
        rw [h.at_ hI (x := x) (by omega)]
        have hrl2 : ((X.row (s.1.getD j d0).1).length : Int) = X.inp := hrl
        have hmem : X.nxt (s.1.getD j d0).1 x ∈ X.reach := by
          refine reach_closed hX (s := (s.1.getD j d0).1) (by rw [hat j hj]; exact getD_mem (by omega)) ?_
          unfold Mly.nxt
          rw [Int.toNat_natCast]
          exact getD_mem (w := X.row (s.1.getD j d0).1) (by omega)
        rw [pos_fst (fun q hq => (r2 q hq).2), hre, ← ix_pos hX hmem]
        congr 1
        unfold Mly.nxt
        have h5 : x < (X.nx.getD (s.1.getD j d0).1.toNat []).length := by omega
        rw [Int.toNat_natCast, getD_get h5]
  · apply List.ext_getElem
    · rw [hk.ol]; simp [Mly.tot, hlen]
    · intro j h1 h2
      have hj : j < s.1.length := by rw [← hk.ol]; exact h1
      have hI := r2 _ (mem_d0 hj)
      have e1 : s.2.2[j] = s.2.2.getD j [] := by simp [List.getD, h1]
      have e2 : X.tot[j] = X.tot.getD j [] := by simp [List.getD, h2]
      have e3 : X.tot.getD j [] = X.ot.getD (X.reach.getD j 0).toNat [] := T_out (m := X) (by omega)
      rw [e1, e2, e3, hk.ot j hj, ← hat j hj]
      have hql := hX.ql (s.1.getD j d0).1.toNat (by have := hI.1; omega)
      apply List.ext_getElem
      · rw [List.length_map, List.length_range]; omega
      · intro x h3 h4
        have hx : x < X.inp.toNat := by simpa using h3
        simp only [List.getElem_map, List.getElem_range]
        rw [h.at_ hI (x := x) (by omega)]
        unfold Mly.out
        show (X.ot.getD (s.1.getD j d0).1.toNat []).getD (x : Int).toNat 0 = _
        rw [Int.toNat_natCast, getD_get h4]
theorem FR.sng {m : Mly} {is : List Int} (h : reE m is = 0) : SNG (rM m is) (FR m is) := ⟨fun s x hs hx => by
  obtain ⟨hm, _, _⟩ := isE_zero h
  have hol := hm.ol
  have hs2 : s < m.nx.length := by have : s < (m.nx.map _).length := hs; rwa [List.length_map] at this
  have hx2 : x < is.length := by have : (x : Int) < is.length := hx; omega
  rw [rM_nxt (by simpa using hs2) hx2, rM_out (by simp; omega) hx2]; rfl⟩
theorem FM.sng {m : Mly} {os : List Int} (h : maE m os = 0) : SNG (oM m os) (FM m os) := ⟨fun s x hs hx => by
  obtain ⟨hm, _⟩ := maE_zero h
  have hs2 : s < m.nx.length := hs
  have hx2 : (x : Int) < m.inp := hx
  rw [oM_out hm os ⟨by omega, by omega⟩ ⟨by omega, by omega⟩]; rfl⟩
theorem mx_one {xs : List Int} (h : 0 < xs.length) : (xs.take 1).foldl max (xs.getD 0 0) = xs.getD 0 0 := by
  cases xs with
  | nil => cases h
  | cons y xs => simp [List.getD]
theorem gr_take_succ {m : Mly} {k : Nat} (h : k < m.ot.length) : (m.ot.take (k + 1)).flatten.foldl max 0 = (m.ot.getD k []).foldl max ((m.ot.take k).flatten.foldl max 0) := by
  rw [flat_take_succ _ h, List.foldl_append]
theorem max_take_succ {l : List Int} {k : Nat} (h : k < l.length) (a : Int) : (l.take (k + 1)).foldl max a = max ((l.take k).foldl max a) (l.getD k 0) := by
  rw [take_succ_D h, List.foldl_append]; rfl
end Go.AV
namespace Go.AV
open Nat (reduceEqDiff reduceAdd reduceLeDiff reduceLT reduceMul reduceSub)
open List (set_cons_zero set_cons_succ)
/-plain-/
/-! Runs of composed machines. -/
theorem pos_p0 {F : SYS} {n : Nat} {p0 : PP} {s : BST} (h : bR F n p0 = some s) : p0 ∈ s.1 ∧ pos s.1 p0 = 0 := by
  have hk := bR_ok h
  have h1 := hk.hd
  have h2 := hk.h0
  cases hs : s.1 with
  | nil => rw [hs] at h2; cases h2
  | cons y l =>
    rw [hs] at h1
    simp [List.getD] at h1
    rw [h1]; exact ⟨by simp, by simp [pos]⟩
theorem bM_st {F : SYS} {n : Nat} {p0 : PP} {s : BST} (h : bR F n p0 = some s) : (bM F n p0).st = 0 ∧ (bM F n p0).inp = n ∧ (bM F n p0).nx.length = s.1.length := by
  rw [bM_some h]; exact ⟨rfl, rfl, (bR_ok h).nl⟩
theorem b_run {F : SYS} {n : Nat} {p0 : PP} {s : BST} (h : bR F n p0 = some s) {w : List Int} (hw : ∀ i : Nat, i < w.length → 0 ≤ w.getD i 0 ∧ w.getD i 0 < n) : ((bM F n p0).go (bM F n p0).st w).2 = (gF F p0 w).2 := by
  obtain ⟨h1, h2⟩ := pos_p0 h
  have := (b_go h w p0 h1 hw).1
  rw [h2] at this
  rw [(bM_st h).1]
  show ((bM F n p0).go ((0 : Nat) : Int) w).2 = _
  rw [this]
theorem pr_ok {a b : Mly} (ha : MOK a) (hb : MOK b) (hi : a.inp = b.inp) {s : BST} (h : bR (FP a b) a.inp.toNat (a.st, b.st) = some s) : MOK (bM (FP a b) a.inp.toNat (a.st, b.st)) :=
  b_ok h (by have := ha.i1; have := ha.i2; omega) fun q hq x hx => (FP.nn ha hb hi (bR_all (I := IP a b) (FP.keep ha hb hi) (IP.st ha hb) h q hq) hx).2
theorem pl_ok {a b : Mly} (ha : MOK a) (hb : MOK b) (hi : a.inp + b.inp ≤ 64) {s : BST} (h : bR (FL a b) (a.inp + b.inp).toNat (a.st, b.st) = some s) : MOK (bM (FL a b) (a.inp + b.inp).toNat (a.st, b.st)) :=
  b_ok h (by have := ha.i1; have := hb.i1; omega) fun q hq x hx => FL.nn ha hb (bR_all (I := IP a b) (FL.keep ha hb) (IP.st ha hb) h q hq) hx
structure PRL (a b M : Mly) (w : List Int) : Prop where
  v : validE M = 0
  st : M.st = 0
  re : M.reach.length = M.nx.length
  ea : fromE a a.st w = wordE w a.inp
  eb : fromE b b.st w = wordE w a.inp
  em : fromE M M.st w = wordE w a.inp
  la : (fromV a a.st w).length = (fromV M M.st w).length
  lb : (fromV b b.st w).length = (fromV M M.st w).length
  at_ : ∀ i, i < (fromV M M.st w).length → (fromV M M.st w).getD i 0 = (fromV a a.st w).getD i 0 * (1 + gr b) + (fromV b b.st w).getD i 0
structure CAL (a b M : Mly) (w : List Int) : Prop where
  v : validE M = 0
  ea : fromE a a.st w = wordE w a.inp
  em : fromE M M.st w = wordE w a.inp
  eb : wordE w a.inp = 0 → fromE b b.st (fromV a a.st w) = 0
  vb : wordE w a.inp = 0 → fromV b b.st (fromV a a.st w) = fromV M M.st w
/-! Parallel. -/
def plU (n : Int) (w : List Int) : List Int := w.filter fun x => decide (x < n)
def plV (n : Int) (w : List Int) : List Int := (w.filter fun x => !decide (x < n)).map fun x => x - n
def plA (n : Int) (e : List (Int × Int)) : List Int := (e.filter fun x => decide (x.1 < n)).map (·.2)
def plB (n k : Int) (e : List (Int × Int)) : List Int := (e.filter fun x => !decide (x.1 < n)).map fun x => x.2 - 1 - k
structure PLL (a b M : Mly) (w : List Int) : Prop where
  v : validE M = 0
  inp : M.inp = a.inp + b.inp
  em : fromE M M.st w = wordE w (a.inp + b.inp)
  lm : wordE w (a.inp + b.inp) = 0 → (fromV M M.st w).length = w.length
  ea : wordE w (a.inp + b.inp) = 0 → fromE a a.st (plU a.inp w) = 0
  eb : wordE w (a.inp + b.inp) = 0 → fromE b b.st (plV a.inp w) = 0
  va : wordE w (a.inp + b.inp) = 0 → fromV a a.st (plU a.inp w) = plA a.inp (w.zip (fromV M M.st w))
  vb : wordE w (a.inp + b.inp) = 0 → fromV b b.st (plV a.inp w) = plB a.inp (gr a) (w.zip (fromV M M.st w))
/-! Restrict and Map. -/
end Go.AV
namespace Go.AV
open Nat (reduceEqDiff reduceAdd reduceLeDiff reduceLT reduceMul reduceSub)
open List (set_cons_zero set_cons_succ)
/-plain-/
theorem pr_bad {a b : Mly} (h : ¬ twoE a b = 0) : prE a b = twoE a b ∧ prM a b = zM := by
  unfold prE prM; rw [if_neg h, if_neg (fun k => h k.1)]; exact ⟨rfl, rfl⟩
theorem pr_conf {a b : Mly} (h : twoE a b = 0) (hi : ¬ a.inp = b.inp) : prE a b = 15 ∧ prM a b = zM := by
  unfold prE prM; rw [if_pos h, if_neg hi, if_neg (fun k => hi k.2)]; exact ⟨rfl, rfl⟩
theorem pr_good {a b : Mly} (h : twoE a b = 0) (hi : a.inp = b.inp) : prE a b = bE (FP a b) a.inp.toNat (a.st, b.st) ∧ prM a b = bM (FP a b) a.inp.toNat (a.st, b.st) := by
  unfold prE prM; rw [if_pos h, if_pos hi, if_pos ⟨h, hi⟩]; exact ⟨rfl, rfl⟩
theorem pl_bad {a b : Mly} (h : ¬ twoE a b = 0) : plE a b = twoE a b ∧ plM a b = zM := by
  unfold plE plM; rw [if_neg h, if_neg (fun k => h k.1)]; exact ⟨rfl, rfl⟩
theorem pl_big {a b : Mly} (h : twoE a b = 0) (hi : 64 < a.inp + b.inp) : plE a b = 2 ∧ plM a b = zM := by
  unfold plE plM; rw [if_pos h, if_pos hi, if_neg (fun k => k.2 hi)]; exact ⟨rfl, rfl⟩
theorem pl_good {a b : Mly} (h : twoE a b = 0) (hi : ¬ 64 < a.inp + b.inp) : plE a b = bE (FL a b) (a.inp + b.inp).toNat (a.st, b.st) ∧ plM a b = bM (FL a b) (a.inp + b.inp).toNat (a.st, b.st) := by
  unfold plE plM; rw [if_pos h, if_neg hi, if_pos ⟨h, hi⟩]; exact ⟨rfl, rfl⟩
theorem ca_bad {a b : Mly} (h : ¬ twoE a b = 0) : caE a b = twoE a b ∧ caM a b = zM := by
  unfold caE caM; rw [if_neg h, if_neg (fun k => h k.1)]; exact ⟨rfl, rfl⟩
theorem ca_big {a b : Mly} (h : twoE a b = 0) (hi : b.inp ≤ gr a) : caE a b = 2 ∧ caM a b = zM := by
  unfold caE caM; rw [if_pos h, if_pos hi, if_neg (fun k => k.2 hi)]; exact ⟨rfl, rfl⟩
theorem ca_good {a b : Mly} (h : twoE a b = 0) (hi : ¬ b.inp ≤ gr a) : caE a b = bE (FC a b) a.inp.toNat (a.st, b.st) ∧ caM a b = bM (FC a b) a.inp.toNat (a.st, b.st) := by
  unfold caE caM; rw [if_pos h, if_neg hi, if_pos ⟨h, hi⟩]; exact ⟨rfl, rfl⟩
theorem re_v {m : Mly} {is : List Int} (h : ¬ validE m = 0) : reE m is = validE m ∧ reM m is = zM := by
  have e : reE m is = validE m := by unfold reE; rw [if_neg h]
  exact ⟨e, by unfold reM; rw [e, if_neg h]⟩
theorem re_0 {m : Mly} {is : List Int} (h : validE m = 0) (h2 : is.length = 0) : reE m is = 19 ∧ reM m is = zM := by
  have e : reE m is = 19 := by unfold reE; rw [if_pos h, if_pos h2]
  exact ⟨e, by unfold reM; rw [e, if_neg (by omega)]⟩
theorem re_at {m : Mly} {is : List Int} (h : validE m = 0) (h2 : ¬ is.length = 0) {k : Nat} {e9 : Int} (hk : k < is.length) (hq : ∀ q, q < k → isE m is q = 0) (hb : isE m is k = e9) (he : e9 ≠ 0) : reE m is = e9 ∧ reM m is = zM := by
  have e : reE m is = e9 := by unfold reE; rw [if_pos h, if_neg h2, firstE_at hq hk (by rw [hb]; exact he), hb]
  exact ⟨e, by unfold reM; rw [e, if_neg he]⟩
theorem re_ok {m : Mly} {is : List Int} (h : validE m = 0) (h2 : ¬ is.length = 0) (hq : ∀ q, q < is.length → isE m is q = 0) : reE m is = 0 ∧ reM m is = (rM m is).T := by
  have e : reE m is = 0 := by unfold reE; rw [if_pos h, if_neg h2, firstE_zero hq]
  exact ⟨e, by unfold reM; rw [if_pos e]⟩
theorem isE_2 {m : Mly} {is : List Int} {k : Nat} (h : is.getD k 0 < 0 ∨ m.inp ≤ is.getD k 0) : isE m is k = 2 := if_pos h
theorem isE_7 {m : Mly} {is : List Int} {k : Nat} (h : ¬ (is.getD k 0 < 0 ∨ m.inp ≤ is.getD k 0)) (h2 : is.getD k 0 ∈ is.take k) : isE m is k = 7 := by unfold isE; rw [if_neg h, if_pos h2]
theorem isE_0 {m : Mly} {is : List Int} {k : Nat} (h : ¬ (is.getD k 0 < 0 ∨ m.inp ≤ is.getD k 0)) (h2 : is.getD k 0 ∉ is.take k) : isE m is k = 0 := by unfold isE; rw [if_neg h, if_neg h2]
theorem re_build {m : Mly} {is : List Int} (h : reE m is = 0) : bM (FR m is) is.length (m.st, 0) = (rM m is).T ∧ bE (FR m is) is.length (m.st, 0) = 0 := by
  have := (sng_bm (rM_ok h) (FR.sng h)).2
  exact this
theorem ma_v {m : Mly} {os : List Int} (h : ¬ validE m = 0) : maE m os = validE m ∧ maM m os = zM := by
  have e : maE m os = validE m := by unfold maE; rw [if_neg h]
  exact ⟨e, by unfold maM; rw [e, if_neg h]⟩
theorem ma_at {m : Mly} {os : List Int} (h : validE m = 0) {o : Int} (ho : o ∈ m.ot.flatten) (hb : osB os o = true) : maE m os = 2 ∧ maM m os = zM := by
  have e : maE m os = 2 := by unfold maE; rw [if_pos h, if_pos (List.any_eq_true.2 ⟨o, ho, hb⟩)]
  exact ⟨e, by unfold maM; rw [e, if_neg (by omega)]⟩
theorem ma_ok {m : Mly} {os : List Int} (h : validE m = 0) (hb : ∀ o, o ∈ m.ot.flatten → osB os o = false) : maE m os = 0 ∧ maM m os = (oM m os).T := by
  have e : maE m os = 0 := by
    unfold maE; rw [if_pos h, if_neg]
    rw [List.any_eq_true]
    rintro ⟨o, ho, hh⟩
    rw [hb o ho] at hh; cases hh
  exact ⟨e, by unfold maM; rw [if_pos e]⟩
theorem ma_build {m : Mly} {os : List Int} (h : maE m os = 0) : bM (FM m os) m.inp.toNat (m.st, 0) = (oM m os).T ∧ bE (FM m os) m.inp.toNat (m.st, 0) = 0 := (sng_bm (oM_ok h) (FM.sng h)).2
theorem outs_mem {m : Mly} (h : validE m = 0) {o : Int} : o ∈ outsL m ↔ o ∈ m.ot.flatten := by rw [outs_ok h, (uniq_spec _).2]
theorem outs_nn {m : Mly} (h : validE m = 0) {o : Int} (ho : o ∈ m.ot.flatten) : 0 ≤ o := by
  have hm := mok_of h
  obtain ⟨s, a, hs, ha, e⟩ := flat_rng hm ho
  have := (out_gr hm (s := (s : Int)) (a := (a : Int)) ⟨by omega, by omega⟩ ⟨by omega, by omega⟩).1
  omega
theorem osB_t {os : List Int} {o : Int} (h : (os.length : Int) ≤ o ∨ os.getD o.toNat 0 < 0 ∨ 1048576 < os.getD o.toNat 0) : osB os o = true := by
  simp only [osB, Bool.or_eq_true, decide_eq_true_eq]; omega
theorem osB_f {os : List Int} {o : Int} (h : ¬ ((os.length : Int) ≤ o ∨ os.getD o.toNat 0 < 0 ∨ 1048576 < os.getD o.toNat 0)) : osB os o = false := by
  simp only [osB, Bool.or_eq_false_iff, decide_eq_false_iff_not]; omega
def anyL (ls : List (List Int)) : Bool := ls.any fun r => decide (12 < r.length)
theorem anyL_at {ls : List (List Int)} {k : Nat} (h : k < ls.length) (h2 : 12 < (ls.getD k []).length) : anyL ls = true :=
  List.any_eq_true.2 ⟨ls.getD k [], by simp [List.getD, h], by simpa using h2⟩
theorem anyL_no {ls : List (List Int)} (h2 : ∀ k, k < ls.length → (ls.getD k []).length ≤ 12) : anyL ls = false := by
  unfold anyL
  rw [List.any_eq_false]
  intro w hw
  obtain ⟨k, hk⟩ := List.getElem?_of_mem hw
  have h3 := h2 k (List.getElem?_eq_some_iff.1 hk).1
  have e : ls.getD k [] = w := by simp [List.getD, hk]
  rw [e] at h3
  simp only [decide_eq_true_eq]; omega
def g8 (m : Mly) : Bool := decide (12 < (m.nx.length : Int)) || decide (12 < (m.ot.length : Int)) || decide (6 < m.inp) || anyL m.nx || anyL m.ot
end Go.AV
namespace Go.AV
open Nat (reduceEqDiff reduceAdd reduceLeDiff reduceLT reduceMul reduceSub)
open List (set_cons_zero set_cons_succ)
/-plain-/
abbrev Bs := List UInt8
def okI (c : Int) : Prop := (97 ≤ c ∧ c ≤ 122) ∨ (65 ≤ c ∧ c ≤ 90) ∨ (48 ≤ c ∧ c ≤ 57) ∨ c = 95 ∨ c = 45 ∨ c = 46
instance (c : Int) : Decidable (okI c) := by unfold okI; exact inferInstance
def nameB (s : Bs) : Bool := s.all (fun b => decide (okI (b.toNat : Int))) && decide (1 ≤ s.length) && decide (s.length ≤ 32)
/-! Alphabets. -/
structure AOK (xs : List Bs) : Prop where
  n0 : 1 ≤ xs.length
  n1 : xs.length ≤ 64
  nm : ∀ k, k < xs.length → nameB (xs.getD k []) = true
  nw : ∀ k, k < xs.length → xs.getD k [] ∉ xs.take k
theorem getDB_mem {xs : List Bs} {k : Nat} (h : k < xs.length) : xs.getD k [] ∈ xs := by simp [List.getD, h]
theorem memB {xs : List Bs} {x : Bs} : x ∈ xs ↔ ∃ j, j < xs.length ∧ xs.getD j [] = x := by
  constructor
  · intro h
    obtain ⟨j, hj⟩ := List.getElem?_of_mem h
    exact ⟨j, (List.getElem?_eq_some_iff.1 hj).1, by simp [List.getD, hj]⟩
  · rintro ⟨j, hj, e⟩; rw [← e]; exact getDB_mem hj
theorem takeB_get {xs : List Bs} {i k : Nat} (hi : i < k) : (xs.take k).getD i [] = xs.getD i [] := by simp [List.getD, List.getElem?_take, hi]
theorem posB_ne {q : Bs} : ∀ {l : List Bs} {k : Nat}, k < pos l q → l.getD k [] ≠ q
  | [], k, h => by simp [pos] at h
  | y :: l, k, h => by
    simp only [pos] at h
    split at h
    · omega
    · rename_i e
      cases k with
      | zero => simpa [List.getD] using e
      | succ k =>
        have := posB_ne (q := q) (l := l) (k := k) (by omega)
        simpa [List.getD] using this
theorem atB_pos {l : List Bs} {q : Bs} (h : q ∈ l) : l.getD (pos l q) [] = q := by rw [List.getD, get_pos h]; rfl
theorem posB {l : List Bs} {q : Bs} {k : Nat} (hq : ∀ j, j < k → l.getD j [] ≠ q) (hk : k < l.length) (h : l.getD k [] = q) : pos l q = k ∧ q ∈ l := by
  have hm : q ∈ l := by rw [← h]; exact getDB_mem hk
  refine ⟨?_, hm⟩
  rcases Nat.lt_trichotomy k (pos l q) with h2 | h2 | h2
  · exact absurd h (posB_ne h2)
  · exact h2.symm
  · exact absurd (atB_pos hm) (hq _ h2)
theorem AOK.pos {xs : List Bs} (h : AOK xs) {k : Nat} (hk : k < xs.length) : pos xs (xs.getD k []) = k :=
  (posB (fun j hj e => h.nw k hk (by rw [memB]; exact ⟨j, by rw [List.length_take]; omega, by rw [takeB_get hj, e]⟩)) hk rfl).1
/-! Cutting at spaces. -/
/-! .. as a fold. -/
/-! Words and texts. -/
/-! The laws without the reference. -/
/-! Numbered alphabets. -/
end Go.AV
