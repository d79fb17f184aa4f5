/- Contracts of functions of this seat, each out of a walk through its code, and plain facts on what they compute. Conditions: those that each theorem names. -/
import Derived.Test.YtiedpcchhicifaaTz
set_option linter.unusedSimpArgs false
set_option linter.unusedVariables false
namespace Go.AV
theorem zB : (∀ (p : Prop) [Decidable p], (decide p = true) = p) ∧ (∀ (p : Prop) [Decidable p], (decide p = false) = ¬p) ∧ ((!true) = false) ∧ ((!false) = true) ∧ (∀ b : Bool, (¬(b = true)) = (b = false)) ∧ (∀ b : Bool, (¬(b = false)) = (b = true)) ∧ (∀ a b : Bool, ((!a) = b) = (a = !b)) ∧ (∀ a b : Int, ¬a < b ↔ b ≤ a) ∧ (∀ a b : Int, ¬a ≤ b ↔ b < a) ∧ ((true = false) = False) ∧ ((false = true) = False) ∧ (∀ {α : Sort 1} (a b : α), (a ≠ b) = ¬(a = b)) ∧ (∀ (p : Prop) [Decidable p], ¬¬p ↔ p) ∧ (∀ b : Bool, ((!b) = true) = (b = false)) ∧ (∀ {α : Type} [BEq α] [LawfulBEq α] {a b : α}, (a != b) = true ↔ a ≠ b) ∧ (∀ a b : Bool, ((a || b) = true) = (a = true ∨ b = true)) ∧ (∀ a b : Bool, ((a && b) = true) = (a = true ∧ b = true)) ∧ (∀ a b : Bool, ((a || b) = false) = (a = false ∧ b = false)) ∧ (∀ a b : Bool, ((a && b) = false) = (a = false ∨ b = false)) :=
  ⟨fun p _ => decide_eq_true_eq, fun p _ => by simp, rfl, rfl, by simp, by simp, by decide, fun a b => Int.not_lt, fun a b => Int.not_le, by simp, by simp, fun _ _ => rfl, fun p _ => Decidable.not_not, by simp, bne_iff_ne, by simp, by simp, by simp, by simp⟩
theorem zS {α : Type} : (∀ (a b : α) (l : List α), (a :: l).set 0 b = b :: l) ∧ ∀ (a b : α) (n : Nat) (l : List α), (a :: l).set (n + 1) b = a :: l.set n b := ⟨fun _ _ _ => rfl, fun _ _ _ _ => rfl⟩
end Go.AV
namespace Go.Proofs.Ytiedpcchhicifaa
open Go Go.AV
open Nat (reduceEqDiff reduceAdd reduceLeDiff reduceLT reduceMul reduceSub)
open List (set_cons_zero set_cons_succ)
def Mof (d : Int × (Int × (List (List Int) × (List (List Int) × Unit)))) : Mly := ⟨d.1, d.2.1, d.2.2.1, d.2.2.2.1⟩
end Go.Proofs.Ytiedpcchhicifaa
namespace Go.AV
open Nat (reduceEqDiff reduceAdd reduceLeDiff reduceLT reduceMul reduceSub)
open List (set_cons_zero set_cons_succ)
/-plain-/
/-! ### classes of states -/
def Mly.sigP (m : Mly) (cl : List Int) (a s : Nat) : List Int := (List.range 128).map fun i =>
  if i < a then (m.ot.getD s []).getD i 0 else if 64 ≤ i ∧ i < 64 + a then cl.getD ((m.nx.getD s []).getD (i - 64) 0).toNat 0 else 0
def Mly.sig (m : Mly) (cl : List Int) (s : Nat) : List Int := m.sigP cl m.inp.toNat s
def Mly.nextL (m : Mly) (cl : List Int) : List Int := (List.range m.nx.length).map fun s => (pos (difs (m.sig cl) m.nx.length) (m.sig cl s) : Int)
def Mly.nextN (m : Mly) (cl : List Int) : Int := (difs (m.sig cl) m.nx.length).length
def Mly.cls (m : Mly) : Nat → List Int
  | 0 => List.replicate m.nx.length 0
  | i + 1 => m.nextL (m.cls i)
def Mly.cnt (m : Mly) : Nat → Int
  | 0 => 1
  | i + 1 => m.nextN (m.cls i)
/-- The first round that divides nothing; at most N. -/
def Mly.stopF (m : Mly) : Nat → Nat → Nat
  | 0, i => i
  | f + 1, i => if m.cnt (i + 1) = m.cnt i then i else m.stopF f (i + 1)
def refN (m : Mly) (k : Int) : Nat := (min (max k 0) (m.nx.length : Int)).toNat
def Mly.refC (m : Mly) (k : Int) : List Int := m.cls (m.stopF (refN m k) 0)
def Mly.refK (m : Mly) (k : Int) : Int := m.stopF (refN m k) 0
theorem sigP_len (m : Mly) (cl : List Int) (a s : Nat) : (m.sigP cl a s).length = 128 := by simp [Mly.sigP]
theorem sigP_zero (m : Mly) (cl : List Int) (s : Nat) : List.replicate 128 (0 : Int) = m.sigP cl 0 s := by
  apply List.ext_getElem
  · simp [Mly.sigP]
  · intro i h1 h2
    simp only [Mly.sigP, List.getElem_replicate, List.getElem_map, List.getElem_range]
    rw [if_neg (by omega), if_neg (by omega)]
theorem sigP_set (m : Mly) (cl : List Int) {a : Nat} (s : Nat) (h : a < 64) :
    ((m.sigP cl a s).set a ((m.ot.getD s []).getD a 0)).set (64 + a) (cl.getD ((m.nx.getD s []).getD a 0).toNat 0) = m.sigP cl (a + 1) s := by
  apply List.ext_getElem
  · simp [Mly.sigP]
  · intro i h1 h2
    simp only [Mly.sigP, List.getElem_set, List.getElem_map, List.getElem_range]
    by_cases e1 : 64 + a = i
    · subst e1
      rw [if_pos rfl, if_neg (by omega), if_pos (by omega), show 64 + a - 64 = a by omega]
    · rw [if_neg e1]
      by_cases e2 : a = i
      · subst e2; rw [if_pos rfl, if_pos (by omega)]
      · rw [if_neg e2]
        by_cases e3 : i < a
        · rw [if_pos e3, if_pos (by omega)]
        · rw [if_neg e3, if_neg (by omega : ¬ i < a + 1)]
          by_cases e4 : 64 ≤ i ∧ i < 64 + a
          · rw [if_pos e4, if_pos (by omega)]
          · rw [if_neg e4, if_neg (by omega)]
theorem sig_eq {m : Mly} (hm : MOK m) {cl : List Int} {s t : Nat} : m.sig cl s = m.sig cl t ↔
    ∀ a : Nat, (a : Int) < m.inp → (m.ot.getD s []).getD a 0 = (m.ot.getD t []).getD a 0 ∧ cl.getD ((m.nx.getD s []).getD a 0).toNat 0 = cl.getD ((m.nx.getD t []).getD a 0).toNat 0 := by
  have h2 := hm.i2
  unfold Mly.sig Mly.sigP
  constructor
  · intro h a ha
    have h1 := congrArg (fun l => l.getD a 0) h
    have h3 := congrArg (fun l => l.getD (64 + a) 0) h
    have e1 : a < 128 := by omega
    have e2 : 64 + a < 128 := by omega
    simp only [mr_getD _ _ e1] at h1
    simp only [mr_getD _ _ e2] at h3
    rw [if_pos (by omega), if_pos (by omega)] at h1
    rw [if_neg (show ¬ (64 + a < m.inp.toNat) by omega), if_neg (show ¬ (64 + a < m.inp.toNat) by omega), if_pos (show 64 ≤ 64 + a ∧ 64 + a < 64 + m.inp.toNat by omega), if_pos (show 64 ≤ 64 + a ∧ 64 + a < 64 + m.inp.toNat by omega), show 64 + a - 64 = a by omega] at h3
    exact ⟨h1, h3⟩
  · intro h
    refine List.map_congr_left fun i hi => ?_
    by_cases e1 : i < m.inp.toNat
    · rw [if_pos e1, if_pos e1]; exact (h i (by omega)).1
    · rw [if_neg e1, if_neg e1]
      by_cases e2 : 64 ≤ i ∧ i < 64 + m.inp.toNat
      · rw [if_pos e2, if_pos e2]; exact (h (i - 64) (by omega)).2
      · rw [if_neg e2, if_neg e2]
theorem nextL_len (m : Mly) (cl : List Int) : (m.nextL cl).length = m.nx.length := by simp [Mly.nextL]
theorem cls_len (m : Mly) : ∀ i, (m.cls i).length = m.nx.length
  | 0 => by simp [Mly.cls]
  | i + 1 => nextL_len _ _
theorem nextL_at {m : Mly} {cl : List Int} {s : Nat} (h : s < m.nx.length) : (m.nextL cl).getD s 0 = (pos (difs (m.sig cl) m.nx.length) (m.sig cl s) : Int) := by
  simp [Mly.nextL, List.getD, h]
theorem nextL_rng {m : Mly} {cl : List Int} {s : Nat} (h : s < m.nx.length) : 0 ≤ (m.nextL cl).getD s 0 ∧ (m.nextL cl).getD s 0 < m.nx.length := by
  rw [nextL_at h]
  have h1 := pos_lt (difs_mem (f := m.sig cl) (k := m.nx.length).2 ⟨s, h, rfl⟩)
  have h2 := difs_le (m.sig cl) m.nx.length
  omega
theorem nextL_eq {m : Mly} {cl : List Int} {s t : Nat} (hs : s < m.nx.length) (ht : t < m.nx.length) : (m.nextL cl).getD s 0 = (m.nextL cl).getD t 0 ↔ m.sig cl s = m.sig cl t := by
  rw [nextL_at hs, nextL_at ht]
  constructor
  · intro h
    exact pos_inj (difs_mem.2 ⟨s, hs, rfl⟩) (difs_mem.2 ⟨t, ht, rfl⟩) (by omega)
  · intro h; rw [h]
theorem cls_rng {m : Mly} (hm : MOK m) : ∀ i s, s < m.nx.length → 0 ≤ (m.cls i).getD s 0 ∧ (m.cls i).getD s 0 < m.nx.length
  | 0, s, h => by
    have : (m.cls 0).getD s 0 = 0 := by simp [Mly.cls, List.getD, h]
    rw [this]; have := hm.n1; omega
  | i + 1, s, h => nextL_rng h
theorem cls_fine {m : Mly} (hm : MOK m) : ∀ i s t, s < m.nx.length → t < m.nx.length → (m.cls (i + 1)).getD s 0 = (m.cls (i + 1)).getD t 0 → (m.cls i).getD s 0 = (m.cls i).getD t 0
  | 0, s, t, hs, ht, _ => by simp [Mly.cls, List.getD, hs, ht]
  | i + 1, s, t, hs, ht, h => by
    have h1 := (nextL_eq (cl := m.cls (i + 1)) hs ht).1 h
    rw [sig_eq hm] at h1
    refine (nextL_eq hs ht).2 ((sig_eq hm).2 fun a ha => ⟨(h1 a ha).1, ?_⟩)
    have n1 := hm.nr s a hs ha
    have n2 := hm.nr t a ht ha
    exact cls_fine hm i _ _ (by omega) (by omega) (h1 a ha).2

/-! ### how many classes -/
def firsts (f : Nat → Int) (n : Nat) : List Nat := (List.range n).filter fun s => decide (∀ t, t < s → f t ≠ f s)
theorem difs_firsts {α : Type} [DecidableEq α] (g : Nat → α) (f : Nat → Int) : ∀ n, (∀ s t, s < n → t < n → (f s = f t ↔ g s = g t)) → (difs g n).length = (firsts f n).length
  | 0, _ => rfl
  | n + 1, h => by
    have ih := difs_firsts g f n fun s t hs ht => h s t (by omega) (by omega)
    rw [difs_succ]
    unfold firsts
    rw [List.range_succ, List.filter_append, List.length_append]
    have e0 : (firsts f n).length = ((List.range n).filter fun s => decide (∀ t, t < s → f t ≠ f s)).length := rfl
    rw [← e0, ← ih]
    by_cases hm : g n ∈ difs g n
    · rw [addG_in hm]
      obtain ⟨i, hi, e⟩ := difs_mem.1 hm
      have : ¬ (∀ t, t < n → f t ≠ f n) := fun hh => hh i hi ((h i n (by omega) (by omega)).2 e)
      simp [this]
    · rw [addG_out hm]
      have : ∀ t, t < n → f t ≠ f n := fun t ht e => hm (difs_mem.2 ⟨t, ht, (h t n (by omega) (by omega)).1 e⟩)
      rw [List.filter_cons, if_pos (by simpa using this)]
      simp
theorem cnt_firsts {m : Mly} (hm : MOK m) : ∀ i, m.cnt i = ((firsts (fun s => (m.cls i).getD s 0) m.nx.length).length : Int)
  | 0 => by
    have h1 := hm.n1
    have : firsts (fun s => (m.cls 0).getD s 0) m.nx.length = [0] := by
      obtain ⟨n, hn⟩ : ∃ n, m.nx.length = n + 1 := ⟨m.nx.length - 1, by omega⟩
      unfold firsts
      rw [hn, List.range_succ_eq_map, List.filter_cons]
      have hz : ∀ s, s < n + 1 → (m.cls 0).getD s 0 = 0 := fun s hs => by simp [Mly.cls, List.getD, hn, hs]
      rw [if_pos (by simp)]
      have : (List.map Nat.succ (List.range n)).filter (fun s => decide (∀ t, t < s → (m.cls 0).getD t 0 ≠ (m.cls 0).getD s 0)) = [] := by
        rw [List.filter_eq_nil_iff]
        intro s hs
        obtain ⟨k, hk, rfl⟩ := List.mem_map.1 hs
        simp only [decide_eq_true_eq]
        intro hh
        have hk' : k < n := by simpa using hk
        exact hh 0 (by omega) (by rw [hz 0 (by omega), hz (k + 1) (by omega)])
      rw [this]
    rw [this]; rfl
  | i + 1 => by
    show ((difs (m.sig (m.cls i)) m.nx.length).length : Int) = _
    rw [difs_firsts (m.sig (m.cls i)) (fun s => (m.cls (i + 1)).getD s 0)]
    intro s t hs ht
    exact nextL_eq hs ht
theorem firsts_nodup (f : Nat → Int) (n : Nat) : (firsts f n).Nodup := List.Pairwise.filter _ List.nodup_range
theorem firsts_sub {f g : Nat → Int} {n : Nat} (h : ∀ s t, s < n → t < n → g s = g t → f s = f t) : ∀ x, x ∈ firsts f n → x ∈ firsts g n := by
  intro x hx
  simp only [firsts, List.mem_filter, List.mem_range, decide_eq_true_eq] at hx ⊢
  exact ⟨hx.1, fun t ht e => hx.2 t ht (h t x (by omega) hx.1 e)⟩
theorem firsts_of (f : Nat → Int) (n : Nat) : ∀ s, s < n → ∃ r, r ∈ firsts f n ∧ f r = f s := by
  intro s
  induction s using Nat.strongRecOn with
  | _ s ih =>
    intro hs
    by_cases h : ∀ t, t < s → f t ≠ f s
    · exact ⟨s, by simp only [firsts, List.mem_filter, List.mem_range, decide_eq_true_eq]; exact ⟨hs, h⟩, rfl⟩
    · obtain ⟨t, ht⟩ := Classical.not_forall.1 h
      rw [Classical.not_imp, Classical.not_not] at ht
      obtain ⟨r, hr, e⟩ := ih t ht.1 (by omega)
      exact ⟨r, hr, e.trans ht.2⟩
theorem same_count {f g : Nat → Int} {n : Nat} (h : ∀ s t, s < n → t < n → g s = g t → f s = f t) (hc : (firsts g n).length = (firsts f n).length) : ∀ s t, s < n → t < n → f s = f t → g s = g t := by
  intro s t hs ht e
  have hback : ∀ x, x ∈ firsts g n → x ∈ firsts f n := by
    intro x hx
    by_cases hm : x ∈ firsts f n
    · exact hm
    · exfalso
      have := nodup_sub (x :: firsts f n) (firsts g n) (List.nodup_cons.2 ⟨hm, firsts_nodup f n⟩) (fun y hy => by
        rcases List.mem_cons.1 hy with rfl | hy
        · exact hx
        · exact firsts_sub h y hy)
      simp only [List.length_cons] at this
      omega
  obtain ⟨r, hr, e1⟩ := firsts_of g n s hs
  obtain ⟨q, hq, e2⟩ := firsts_of g n t ht
  have hr' := hback r hr
  have hq' := hback q hq
  have hrl : r < n := by simp only [firsts, List.mem_filter, List.mem_range] at hr; exact hr.1
  have hql : q < n := by simp only [firsts, List.mem_filter, List.mem_range] at hq; exact hq.1
  have e3 : f r = f q := (h r s hrl hs e1).trans (e.trans (h q t hql ht e2).symm)
  have : r = q := by
    simp only [firsts, List.mem_filter, List.mem_range, decide_eq_true_eq] at hr' hq'
    rcases Nat.lt_trichotomy r q with hlt | heq | hgt
    · exact absurd e3 (hq'.2 r hlt)
    · exact heq
    · exact absurd e3.symm (hr'.2 q hgt)
  rw [← e1, ← e2, this]

theorem stopF_spec {m : Mly} : ∀ f i, (∃ j, i ≤ j ∧ m.stopF f i = j ∧ j < i + f ∧ m.cnt (j + 1) = m.cnt j ∧ ∀ k, i ≤ k → k < j → m.cnt (k + 1) ≠ m.cnt k) ∨ (m.stopF f i = i + f ∧ ∀ k, i ≤ k → k < i + f → m.cnt (k + 1) ≠ m.cnt k)
  | 0, i => .inr ⟨rfl, fun k h1 h2 => by omega⟩
  | f + 1, i => by
    simp only [Mly.stopF]
    by_cases h : m.cnt (i + 1) = m.cnt i
    · rw [if_pos h]
      exact .inl ⟨i, Nat.le_refl _, rfl, by omega, h, fun k h1 h2 => by omega⟩
    · rw [if_neg h]
      rcases stopF_spec (m := m) f (i + 1) with ⟨j, h1, h2, h3, h4, h5⟩ | ⟨h1, h2⟩
      · refine .inl ⟨j, by omega, h2, by omega, h4, fun k k1 k2 => ?_⟩
        by_cases e : k = i
        · subst e; exact h
        · exact h5 k (by omega) k2
      · refine .inr ⟨by rw [h1]; omega, fun k k1 k2 => ?_⟩
        by_cases e : k = i
        · subst e; exact h
        · exact h2 k (by omega) (by omega)
theorem cnt_mono {m : Mly} (hm : MOK m) (i : Nat) : m.cnt i ≤ m.cnt (i + 1) := by
  rw [cnt_firsts hm, cnt_firsts hm]
  have := nodup_sub (firsts (fun s => (m.cls i).getD s 0) m.nx.length) (firsts (fun s => (m.cls (i + 1)).getD s 0) m.nx.length) (firsts_nodup _ _) (firsts_sub (cls_fine hm i))
  omega
theorem cnt_le {m : Mly} (hm : MOK m) (i : Nat) : m.cnt i ≤ m.nx.length := by
  rw [cnt_firsts hm]
  have : (firsts (fun s => (m.cls i).getD s 0) m.nx.length).length ≤ (List.range m.nx.length).length := List.length_filter_le _ _
  rw [List.length_range] at this; omega

/-- The classes of equivalent states. -/
def Mly.eqc (m : Mly) : List Int := m.refC 128
structure STAB (m : Mly) (c : List Int) : Prop where
  len : c.length = m.nx.length
  rng : ∀ s, s < m.nx.length → 0 ≤ c.getD s 0 ∧ c.getD s 0 < m.nx.length
  step : ∀ s t : Nat, s < m.nx.length → t < m.nx.length → c.getD s 0 = c.getD t 0 → ∀ a : Nat, (a : Int) < m.inp →
    (m.ot.getD s []).getD a 0 = (m.ot.getD t []).getD a 0 ∧ c.getD ((m.nx.getD s []).getD a 0).toNat 0 = c.getD ((m.nx.getD t []).getD a 0).toNat 0
theorem eqc_stop {m : Mly} (hm : MOK m) : ∃ j, m.eqc = m.cls j ∧ j < m.nx.length ∧ m.cnt (j + 1) = m.cnt j := by
  have hN : refN m 128 = m.nx.length := by unfold refN; have := hm.n2; omega
  have hn1 := hm.n1
  unfold Mly.eqc Mly.refC
  rw [hN]
  rcases stopF_spec (m := m) m.nx.length 0 with ⟨j, h1, h2, h3, h4, _⟩ | ⟨h1, h2⟩
  · exact ⟨j, by rw [h2], by omega, h4⟩
  · exfalso
    have key : ∀ k, k ≤ m.nx.length → (k : Int) + 1 ≤ m.cnt k := by
      intro k
      induction k with
      | zero => intro _; show (0 : Int) + 1 ≤ 1; decide
      | succ k ih =>
        intro hk
        have := ih (by omega)
        have h3 := cnt_mono hm k
        have h4 := h2 k (by omega) (by omega)
        omega
    have := key m.nx.length (Nat.le_refl _)
    have := cnt_le hm m.nx.length
    omega
theorem eqc_stab {m : Mly} (hm : MOK m) : STAB m m.eqc := by
  obtain ⟨j, h1, h2, h3⟩ := eqc_stop hm
  rw [h1]
  refine ⟨cls_len m j, cls_rng hm j, fun s t hs ht e => ?_⟩
  rw [cnt_firsts hm, cnt_firsts hm] at h3
  have := same_count (cls_fine hm j) (by omega) s t hs ht e
  exact (sig_eq hm).1 ((nextL_eq hs ht).1 this)

/-! ### equivalent states -/
def EQV (m : Mly) (s t : Int) : Prop := ∀ w : List Int, (∀ i : Nat, i < w.length → 0 ≤ w.getD i 0 ∧ w.getD i 0 < m.inp) → (m.go s w).2 = (m.go t w).2
theorem go_cons (m : Mly) (s a : Int) (w : List Int) : m.go s (a :: w) = ((m.go (m.nxt s a) w).1, m.out s a :: (m.go (m.nxt s a) w).2) := by
  have := go_append m s [a] w
  simp only [List.cons_append, List.nil_append] at this
  rw [this]
  have h1 : m.go s [a] = (m.nxt s a, [m.out s a]) := rfl
  rw [h1]; rfl
theorem syms_tail {w : List Int} {a n : Int} (h : ∀ i : Nat, i < (a :: w).length → 0 ≤ (a :: w).getD i 0 ∧ (a :: w).getD i 0 < n) : (0 ≤ a ∧ a < n) ∧ ∀ i : Nat, i < w.length → 0 ≤ w.getD i 0 ∧ w.getD i 0 < n :=
  ⟨h 0 (by simp), fun i hi => by have := h (i + 1) (by simpa using hi); simpa [List.getD] using this⟩
theorem stab_eqv {m : Mly} (hm : MOK m) {c : List Int} (hc : STAB m c) : ∀ (w : List Int) (s t : Int), 0 ≤ s → s < m.nx.length → 0 ≤ t → t < m.nx.length → c.getD s.toNat 0 = c.getD t.toNat 0 →
    (∀ i : Nat, i < w.length → 0 ≤ w.getD i 0 ∧ w.getD i 0 < m.inp) → (m.go s w).2 = (m.go t w).2
  | [], _, _, _, _, _, _, _, _ => rfl
  | a :: w, s, t, s0, s1, t0, t1, e, hw => by
    obtain ⟨ha, hw'⟩ := syms_tail hw
    rw [go_cons, go_cons]
    have h1 := hc.step s.toNat t.toNat (by omega) (by omega) e a.toNat (by omega)
    have n1 := hm.nr s.toNat a.toNat (by omega) (by omega)
    have n2 := hm.nr t.toNat a.toNat (by omega) (by omega)
    have h2 := stab_eqv hm hc w (m.nxt s a) (m.nxt t a) n1.1 n1.2 n2.1 n2.2 h1.2 hw'
    show m.out s a :: _ = m.out t a :: _
    rw [h2]
    congr 1
    exact h1.1
theorem eqv_step {m : Mly} {s t a : Int} (h : EQV m s t) (ha : 0 ≤ a ∧ a < m.inp) : m.out s a = m.out t a ∧ EQV m (m.nxt s a) (m.nxt t a) := by
  constructor
  · have := h [a] (fun i hi => by simp at hi; subst hi; exact ha)
    have h1 : (m.go s [a]).2 = [m.out s a] := rfl
    have h2 : (m.go t [a]).2 = [m.out t a] := rfl
    rw [h1, h2] at this
    simpa using this
  · intro w hw
    have := h (a :: w) (fun i hi => by
      cases i with
      | zero => exact ha
      | succ i => have := hw i (by simpa using hi); simpa [List.getD] using this)
    rw [go_cons, go_cons] at this
    exact (List.cons.inj this).2
theorem eqv_cls {m : Mly} (hm : MOK m) : ∀ (i : Nat) (s t : Nat), s < m.nx.length → t < m.nx.length → EQV m s t → (m.cls i).getD s 0 = (m.cls i).getD t 0
  | 0, s, t, hs, ht, _ => by simp [Mly.cls, List.getD, hs, ht]
  | i + 1, s, t, hs, ht, h => by
    refine (nextL_eq hs ht).2 ((sig_eq hm).2 fun a ha => ?_)
    obtain ⟨h1, h2⟩ := eqv_step h (a := (a : Int)) ⟨by omega, ha⟩
    refine ⟨by simpa [Mly.out] using h1, ?_⟩
    have n1 := hm.nr s a hs ha
    have n2 := hm.nr t a ht ha
    refine eqv_cls hm i _ _ (by omega) (by omega) ?_
    have e1 : m.nxt (s : Int) (a : Int) = (((m.nx.getD s []).getD a 0).toNat : Int) := by show (m.nx.getD s []).getD a 0 = _; omega
    have e2 : m.nxt (t : Int) (a : Int) = (((m.nx.getD t []).getD a 0).toNat : Int) := by show (m.nx.getD t []).getD a 0 = _; omega
    rw [e1, e2] at h2
    exact h2
/-- Two states are in one class just if they are equivalent. -/
theorem eqc_iff {m : Mly} (hm : MOK m) {s t : Int} (s0 : 0 ≤ s) (s1 : s < m.nx.length) (t0 : 0 ≤ t) (t1 : t < m.nx.length) : m.eqc.getD s.toNat 0 = m.eqc.getD t.toNat 0 ↔ EQV m s t := by
  constructor
  · intro h w hw
    exact stab_eqv hm (eqc_stab hm) w s t s0 s1 t0 t1 h hw
  · intro h
    obtain ⟨j, h1, _⟩ := eqc_stop hm
    rw [h1]
    exact eqv_cls hm j s.toNat t.toNat (by omega) (by omega) (by rw [Int.toNat_of_nonneg s0, Int.toNat_of_nonneg t0]; exact h)

theorem sigP_take (m : Mly) (cl : List Int) (a s : Nat) : (m.sigP cl a s).take 128 = m.sigP cl a s := List.take_of_length_le (by rw [sigP_len]; exact Nat.le_refl _)
theorem sigP_rng {m : Mly} (hm : MOK m) {cl : List Int} (hr : ∀ s, s < m.nx.length → 0 ≤ cl.getD s 0 ∧ cl.getD s 0 < m.nx.length) {a s : Nat} (hs : s < m.nx.length) (ha : (a : Int) ≤ m.inp) : KVok (.arr 128) (.arr (m.sigP cl a s)) := by
  refine ⟨sigP_len m cl a s, fun x hx => ?_⟩
  obtain ⟨i, hi, rfl⟩ := List.mem_map.1 hx
  have h2 := hm.n2
  split
  · have := hm.or s i hs (by omega); omega
  · split
    · have h1 := hm.nr s (i - 64) hs (by omega)
      have := hr ((m.nx.getD s []).getD (i - 64) 0).toNat (by omega)
      omega
    · omega
theorem next_old {m : Mly} {cl : List Int} {k : Nat} (hk : k < m.nx.length) (h : m.sig cl k ∈ difs (m.sig cl) k) : pos (difs (m.sig cl) m.nx.length) (m.sig cl k) = pos (difs (m.sig cl) k) (m.sig cl k) := by
  rw [difs_idx (m.sig cl) (i := k) (k := k + 1) (by omega) _ (by omega), difs_succ, addG_in h]
theorem next_new {m : Mly} {cl : List Int} {k : Nat} (hk : k < m.nx.length) (h : m.sig cl k ∉ difs (m.sig cl) k) : pos (difs (m.sig cl) m.nx.length) (m.sig cl k) = (difs (m.sig cl) k).length := by
  rw [difs_idx (m.sig cl) (i := k) (k := k + 1) (by omega) _ (by omega), difs_succ, addG_out h, pos_last h]
theorem stopF_at {m : Mly} {N j : Nat} (hj : j < N) (h : m.cnt (j + 1) = m.cnt j) (hq : ∀ q, q < j → m.cnt (q + 1) ≠ m.cnt q) : m.stopF N 0 = j := by
  rcases stopF_spec (m := m) N 0 with ⟨i, h1, h2, h3, h4, h5⟩ | ⟨h1, h2⟩
  · rw [h2]
    rcases Nat.lt_trichotomy i j with hlt | heq | hgt
    · exact absurd h4 (hq i hlt)
    · exact heq
    · exact absurd h (h5 j (by omega) hgt)
  · exact absurd h (h2 j (by omega) (by omega))
theorem stopF_end {m : Mly} {N : Nat} (hq : ∀ q, q < N → m.cnt (q + 1) ≠ m.cnt q) : m.stopF N 0 = N := by
  rcases stopF_spec (m := m) N 0 with ⟨i, h1, h2, h3, h4, h5⟩ | ⟨h1, h2⟩
  · exact absurd h4 (hq i (by omega))
  · omega
end Go.AV
namespace Go.AV
open Nat (reduceEqDiff reduceAdd reduceLeDiff reduceLT reduceMul reduceSub)
open List (set_cons_zero set_cons_succ)
/-plain-/
/-! ### the search through pairs of states -/
abbrev S3 := Int × Int × List Int
def encP (e : S3) : (Int × Int × Unit) × List Int × Unit := ((e.1, (e.2.1, ())), (e.2.2, ()))
def encR (e : S3) : Int × Int × List Int × Unit := (e.1, (e.2.1, (e.2.2, ())))
def inS (l : List S3) (p q : Int) : Bool := l.any fun f => decide (f.1 = p) && decide (f.2.1 = q)
def stS (a b : Mly) (e : S3) (l : List S3) (x : Nat) : List S3 := if inS l (a.nxt e.1 x) (b.nxt e.2.1 x) = true then l else l ++ [(a.nxt e.1 x, b.nxt e.2.1 x, e.2.2 ++ [(x : Int)])]
def difS (a b : Mly) (e : S3) (x : Nat) : Bool := !decide (a.out e.1 x = b.out e.2.1 x)
def rowS (a b : Mly) (e : S3) (l : List S3) (x : Nat) : List S3 := (List.range x).foldl (stS a b e) l
def eS0 : S3 := (0, 0, [])
def srS (a b : Mly) : Nat → Nat → List S3 → Option (List Int)
  | 0, _, _ => none
  | f + 1, i, l => if i < l.length then
      match (List.range a.inp.toNat).find? (difS a b (l.getD i eS0)) with
      | some x => some ((l.getD i eS0).2.2 ++ [(x : Int)])
      | none => srS a b f (i + 1) (rowS a b (l.getD i eS0) l a.inp.toNat)
    else none
def fuS (a b : Mly) : Nat := a.nx.length * b.nx.length + 1
def seS (a b : Mly) (s t : Int) : Option (List Int) := srS a b (fuS a b) 0 [(s, t, [])]
theorem inS_iff {l : List S3} {p q : Int} : inS l p q = true ↔ ∃ e, e ∈ l ∧ e.1 = p ∧ e.2.1 = q := by
  simp [inS, List.any_eq_true]
theorem rowS_succ (a b : Mly) (e : S3) (l : List S3) (x : Nat) : rowS a b e l (x + 1) = stS a b e (rowS a b e l x) x := by
  unfold rowS; rw [List.range_succ, List.foldl_append]; rfl
theorem stS_pre (a b : Mly) (e : S3) (l : List S3) (x : Nat) : ∃ k, stS a b e l x = l ++ k := by
  unfold stS
  split
  · exact ⟨[], by simp⟩
  · exact ⟨_, rfl⟩
theorem rowS_pre (a b : Mly) (e : S3) (l : List S3) : ∀ x, ∃ k, rowS a b e l x = l ++ k
  | 0 => ⟨[], by simp [rowS]⟩
  | x + 1 => by
    obtain ⟨k1, h1⟩ := rowS_pre a b e l x
    obtain ⟨k2, h2⟩ := stS_pre a b e (rowS a b e l x) x
    exact ⟨k1 ++ k2, by rw [rowS_succ, h2, h1, List.append_assoc]⟩
theorem rowS_at (a b : Mly) (e : S3) {l : List S3} (x : Nat) {i : Nat} (h : i < l.length) : (rowS a b e l x).getD i eS0 = l.getD i eS0 := by
  obtain ⟨k, hk⟩ := rowS_pre a b e l x
  rw [hk]; simp [List.getD, List.getElem?_append_left h]
theorem rowS_ge (a b : Mly) (e : S3) (l : List S3) (x : Nat) : l.length ≤ (rowS a b e l x).length := by
  obtain ⟨k, hk⟩ := rowS_pre a b e l x
  rw [hk]; simp

structure WFS (a b : Mly) (l : List S3) : Prop where
  rng : ∀ e, e ∈ l → (0 ≤ e.1 ∧ e.1 < a.nx.length) ∧ 0 ≤ e.2.1 ∧ e.2.1 < b.nx.length
  len : ∀ e, e ∈ l → e.2.2.length ≤ l.length
  nd : (l.map fun e => e.1 * (b.nx.length : Int) + e.2.1).Nodup
theorem WFS.at_ {a b : Mly} {l : List S3} (h : WFS a b l) {i : Nat} (hi : i < l.length) : (0 ≤ (l.getD i eS0).1 ∧ (l.getD i eS0).1 < a.nx.length) ∧ 0 ≤ (l.getD i eS0).2.1 ∧ (l.getD i eS0).2.1 < b.nx.length := by
  refine h.rng _ ?_
  simp [List.getD, hi]
theorem WFS.wl {a b : Mly} {l : List S3} (h : WFS a b l) {i : Nat} (hi : i < l.length) : (l.getD i eS0).2.2.length ≤ l.length := by
  refine h.len _ ?_
  simp [List.getD, hi]
theorem code_lt {p q n m : Int} (hp : 0 ≤ p ∧ p < n) (hq : 0 ≤ q ∧ q < m) : 0 ≤ p * m + q ∧ p * m + q < n * m := by
  have h1 : 0 ≤ p * m := Int.mul_nonneg hp.1 (by omega)
  have h2 : (p + 1) * m ≤ n * m := Int.mul_le_mul_of_nonneg_right (by omega) (by omega)
  rw [Int.add_mul, Int.one_mul] at h2
  omega
theorem code_inj {p q p' q' m : Int} (hq : 0 ≤ q ∧ q < m) (hq' : 0 ≤ q' ∧ q' < m) (e : p * m + q = p' * m + q') : p = p' ∧ q = q' := by
  have h1 : (p * m + q) / m = p := by rw [Int.add_comm, Int.add_mul_ediv_right _ _ (by omega), Int.ediv_eq_zero_of_lt hq.1 hq.2]; omega
  have h2 : (p' * m + q') / m = p' := by rw [Int.add_comm, Int.add_mul_ediv_right _ _ (by omega), Int.ediv_eq_zero_of_lt hq'.1 hq'.2]; omega
  have : p = p' := by rw [← h1, ← h2, e]
  subst this
  exact ⟨rfl, by omega⟩
theorem WFS.le {a b : Mly} {l : List S3} (h : WFS a b l) : l.length ≤ a.nx.length * b.nx.length := by
  have := nodup_len (a.nx.length * b.nx.length) _ h.nd (fun x hx => by
    obtain ⟨e, he, rfl⟩ := List.mem_map.1 hx
    have hr := h.rng e he
    have := code_lt hr.1 hr.2
    rw [Int.natCast_mul]; exact this)
  simpa using this
theorem WFS.big {a b : Mly} (ha : MOK a) (hb : MOK b) {l : List S3} (h : WFS a b l) : l.length ≤ 16384 := by
  have h1 := h.le
  have h2 : a.nx.length * b.nx.length ≤ 128 * 128 := Nat.mul_le_mul ha.n2 hb.n2
  omega
theorem WFS.step {a b : Mly} (ha : MOK a) (hb : MOK b) (hi : a.inp = b.inp) {l : List S3} (h : WFS a b l) {e : S3} (he : (0 ≤ e.1 ∧ e.1 < a.nx.length) ∧ 0 ≤ e.2.1 ∧ e.2.1 < b.nx.length) (hw : e.2.2.length ≤ l.length) {x : Nat} (hx : (x : Int) < a.inp) : WFS a b (stS a b e l x) := by
  unfold stS
  split
  · exact h
  · rename_i hn
    have n1 := ha.nr e.1.toNat x (by omega) hx
    have n2 := hb.nr e.2.1.toNat x (by omega) (by omega)
    have n1' : 0 ≤ a.nxt e.1 x ∧ a.nxt e.1 x < a.nx.length := by simpa [Mly.nxt] using n1
    have n2' : 0 ≤ b.nxt e.2.1 x ∧ b.nxt e.2.1 x < b.nx.length := by simpa [Mly.nxt] using n2
    refine ⟨fun f hf => ?_, fun f hf => ?_, ?_⟩
    · rcases List.mem_append.1 hf with hf | hf
      · exact h.rng f hf
      · simp at hf; subst hf; exact ⟨n1', n2'⟩
    · simp only [List.length_append, List.length_cons, List.length_nil]
      rcases List.mem_append.1 hf with hf | hf
      · have := h.len f hf; omega
      · simp at hf; subst hf; simp; omega
    · rw [List.map_append, List.nodup_append]
      refine ⟨h.nd, by simp, fun u hu v hv => ?_⟩
      simp at hv; subst hv
      intro e'
      obtain ⟨f, hf, rfl⟩ := List.mem_map.1 hu
      have hr := h.rng f hf
      obtain ⟨e1, e2⟩ := code_inj hr.2 n2' e'
      exact hn (inS_iff.2 ⟨f, hf, e1, e2⟩)
theorem WFS.row {a b : Mly} (ha : MOK a) (hb : MOK b) (hi : a.inp = b.inp) {l : List S3} (h : WFS a b l) {i : Nat} (hil : i < l.length) : ∀ x : Nat, (x : Int) ≤ a.inp → WFS a b (rowS a b (l.getD i eS0) l x)
  | 0, _ => by simpa [rowS] using h
  | x + 1, hx => by
    rw [rowS_succ]
    have h1 := WFS.row ha hb hi h hil x (by omega)
    have h2 := rowS_ge a b (l.getD i eS0) l x
    have h3 := h.wl hil
    exact h1.step ha hb hi (h.at_ hil) (by omega) (by omega)
theorem wfs_one {a b : Mly} {s t : Int} (hs : 0 ≤ s ∧ s < a.nx.length) (ht : 0 ≤ t ∧ t < b.nx.length) : WFS a b [(s, t, [])] :=
  ⟨fun e he => by simp at he; subst he; exact ⟨hs, ht⟩, fun e he => by simp at he; subst he; simp, by simp⟩
theorem find_none {p : Nat → Bool} {n : Nat} (h : ∀ x, x < n → p x = false) : (List.range n).find? p = none := by
  rw [List.find?_eq_none]
  intro x hx
  have := h x (by simpa using hx)
  simp [this]
theorem find_some {p : Nat → Bool} {n x : Nat} (hx : x < n) (hp : p x = true) (h : ∀ y, y < x → p y = false) : (List.range n).find? p = some x := by
  rw [List.find?_eq_some_iff_getElem]
  refine ⟨hp, x, by simpa using hx, by simp, fun j hj => ?_⟩
  simp [h j hj]
theorem srS_end (a b : Mly) (f i : Nat) (l : List S3) (h : l.length ≤ i) : srS a b f i l = none := by
  cases f with
  | zero => rfl
  | succ f => simp only [srS]; rw [if_neg (by omega)]
theorem srS_next {a b : Mly} {f i : Nat} {l : List S3} (h : i < l.length) (hd : ∀ x, x < a.inp.toNat → difS a b (l.getD i eS0) x = false) : srS a b (f + 1) i l = srS a b f (i + 1) (rowS a b (l.getD i eS0) l a.inp.toNat) := by
  simp only [srS]; rw [if_pos h, find_none hd]
theorem srS_found {a b : Mly} {f i x : Nat} {l : List S3} (h : i < l.length) (hx : x < a.inp.toNat) (hp : difS a b (l.getD i eS0) x = true) (hd : ∀ y, y < x → difS a b (l.getD i eS0) y = false) : srS a b (f + 1) i l = some ((l.getD i eS0).2.2 ++ [(x : Int)]) := by
  simp only [srS]; rw [if_pos h, find_some hx hp hd]

/-! ### what it means -/
def EQ2 (a b : Mly) (s t : Int) : Prop := ∀ w : List Int, (∀ i : Nat, i < w.length → 0 ≤ w.getD i 0 ∧ w.getD i 0 < a.inp) → (a.go s w).2 = (b.go t w).2
structure TRS (a b : Mly) (s t : Int) (e : S3) : Prop where
  sy : ∀ i : Nat, i < e.2.2.length → 0 ≤ e.2.2.getD i 0 ∧ e.2.2.getD i 0 < a.inp
  l : (a.go s e.2.2).1 = e.1
  r : (b.go t e.2.2).1 = e.2.1
  o : (a.go s e.2.2).2 = (b.go t e.2.2).2
theorem syms_app {w : List Int} {x n : Int} (h : ∀ i : Nat, i < w.length → 0 ≤ w.getD i 0 ∧ w.getD i 0 < n) (hx : 0 ≤ x ∧ x < n) : ∀ i : Nat, i < (w ++ [x]).length → 0 ≤ (w ++ [x]).getD i 0 ∧ (w ++ [x]).getD i 0 < n := by
  intro i hi
  by_cases e : i < w.length
  · have := h i e
    simpa [List.getD, List.getElem?_append_left e] using this
  · have : i = w.length := by simp at hi; omega
    subst this
    simpa [List.getD] using hx
theorem TRS.next {a b : Mly} {s t : Int} {e : S3} (h : TRS a b s t e) {x : Nat} (hx : (x : Int) < a.inp) (hd : difS a b e x = false) : TRS a b s t (a.nxt e.1 x, b.nxt e.2.1 x, e.2.2 ++ [(x : Int)]) := by
  have ho : a.out e.1 x = b.out e.2.1 x := by simpa [difS] using hd
  refine ⟨syms_app h.sy ⟨by omega, hx⟩, ?_, ?_, ?_⟩
  · show (a.go s (e.2.2 ++ [(x : Int)])).1 = _
    rw [go_concat, h.l]
  · show (b.go t (e.2.2 ++ [(x : Int)])).1 = _
    rw [go_concat, h.r]
  · show (a.go s (e.2.2 ++ [(x : Int)])).2 = (b.go t (e.2.2 ++ [(x : Int)])).2
    rw [go_concat, go_concat, h.l, h.r, h.o, ho]
theorem rowS_trs {a b : Mly} {s t : Int} {e : S3} {l : List S3} (hl : ∀ f, f ∈ l → TRS a b s t f) (he : TRS a b s t e) : ∀ x : Nat, (x : Int) ≤ a.inp → (∀ y, y < x → difS a b e y = false) → ∀ f, f ∈ rowS a b e l x → TRS a b s t f
  | 0, _, _, f, hf => hl f (by simpa [rowS] using hf)
  | x + 1, hx, hd, f, hf => by
    rw [rowS_succ] at hf
    unfold stS at hf
    split at hf
    · exact rowS_trs hl he x (by omega) (fun y hy => hd y (by omega)) f hf
    · rcases List.mem_append.1 hf with hf | hf
      · exact rowS_trs hl he x (by omega) (fun y hy => hd y (by omega)) f hf
      · simp at hf; subst hf
        exact he.next (by omega) (hd x (by omega))
/-- A word that is found separates. -/
theorem srS_sound {a b : Mly} {s t : Int} : ∀ (f i : Nat) (l : List S3), (∀ e, e ∈ l → TRS a b s t e) → ∀ w, srS a b f i l = some w → (∀ i : Nat, i < w.length → 0 ≤ w.getD i 0 ∧ w.getD i 0 < a.inp) ∧ (a.go s w).2 ≠ (b.go t w).2 ∧ w ≠ []
  | 0, _, _, _, w, h => by cases h
  | f + 1, i, l, hl, w, h => by
    simp only [srS] at h
    split at h
    · rename_i hi
      have he : TRS a b s t (l.getD i eS0) := hl _ (by simp [List.getD, hi])
      split at h
      · rename_i x hx
        simp only [Option.some.injEq] at h; subst h
        have h1 := List.find?_some hx
        have h2 : x < a.inp.toNat := by simpa using List.mem_of_find?_eq_some hx
        refine ⟨syms_app he.sy ⟨by omega, by omega⟩, ?_, by simp⟩
        rw [go_concat, go_concat, he.l, he.r, he.o]
        intro hh
        have := (List.append_cancel_left hh)
        simp at this
        simp [difS, this] at h1
      · rename_i hx
        have hd : ∀ y, y < a.inp.toNat → difS a b (l.getD i eS0) y = false := fun y hy => by
          have := List.find?_eq_none.1 hx y (by simpa using hy)
          simpa using this
        by_cases hin : 0 ≤ a.inp
        · exact srS_sound f (i + 1) _ (rowS_trs hl he a.inp.toNat (by omega) hd) w h
        · have : rowS a b (l.getD i eS0) l a.inp.toNat = l := by rw [show a.inp.toNat = 0 by omega]; rfl
          rw [this] at h
          exact srS_sound f (i + 1) l hl w h
    · cases h
theorem trs_one (a b : Mly) (s t : Int) : ∀ e, e ∈ [((s, t, []) : S3)] → TRS a b s t e := fun e he => by
  simp at he; subst he
  exact ⟨fun i hi => by simp at hi, rfl, rfl, rfl⟩
theorem seS_sound {a b : Mly} {s t : Int} {w : List Int} (h : seS a b s t = some w) : (∀ i : Nat, i < w.length → 0 ≤ w.getD i 0 ∧ w.getD i 0 < a.inp) ∧ (a.go s w).2 ≠ (b.go t w).2 ∧ w ≠ [] := srS_sound _ _ _ (trs_one a b s t) w h
/-- The pairs from which nothing was found are closed. -/
def CLS (a b : Mly) (i : Nat) (l : List S3) : Prop := ∀ j, j < i → j < l.length → ∀ x : Nat, (x : Int) < a.inp → difS a b (l.getD j eS0) x = false ∧ inS l (a.nxt (l.getD j eS0).1 x) (b.nxt (l.getD j eS0).2.1 x) = true
theorem inS_app {l k : List S3} {p q : Int} (h : inS l p q = true) : inS (l ++ k) p q = true := by
  obtain ⟨e, he, h1, h2⟩ := inS_iff.1 h
  exact inS_iff.2 ⟨e, by simp [he], h1, h2⟩
theorem rowS_in {a b : Mly} {e : S3} {l : List S3} : ∀ (x y : Nat), y < x → inS (rowS a b e l x) (a.nxt e.1 y) (b.nxt e.2.1 y) = true
  | 0, y, h => by omega
  | x + 1, y, h => by
    rw [rowS_succ]
    by_cases hy : y = x
    · subst hy
      unfold stS
      split
      · rename_i hin; exact hin
      · exact inS_iff.2 ⟨_, List.mem_append_right _ (by simp; rfl), rfl, rfl⟩
    · obtain ⟨k, hk⟩ := stS_pre a b e (rowS a b e l x) x
      rw [hk]
      exact inS_app (rowS_in x y (by omega))
theorem srS_none {a b : Mly} (ha : MOK a) (hb : MOK b) (hi : a.inp = b.inp) : ∀ (f i : Nat) (l : List S3), WFS a b l → a.nx.length * b.nx.length < f + i → CLS a b i l → srS a b f i l = none → ∃ L, (∃ k, L = l ++ k) ∧ CLS a b L.length L
  | 0, i, l, hl, hf, hc, _ => by
    have := hl.le
    exact ⟨l, ⟨[], by simp⟩, fun j hj hj2 => hc j (by omega) hj2⟩
  | f + 1, i, l, hl, hf, hc, h => by
    simp only [srS] at h
    split at h
    · rename_i hil
      split at h
      · cases h
      · rename_i hx
        have hd : ∀ y, y < a.inp.toNat → difS a b (l.getD i eS0) y = false := fun y hy => by
          have := List.find?_eq_none.1 hx y (by simpa using hy)
          simpa using this
        have hi1 := ha.i1
        obtain ⟨k, hk⟩ := rowS_pre a b (l.getD i eS0) l a.inp.toNat
        obtain ⟨L, ⟨k2, hk2⟩, hL⟩ := srS_none ha hb hi f (i + 1) _ (hl.row ha hb hi hil a.inp.toNat (by omega)) (by omega) (fun j hj hjl x hx => by
          by_cases e : j = i
          · subst e
            rw [rowS_at a b _ _ hil]
            exact ⟨hd x (by omega), rowS_in a.inp.toNat x (by omega)⟩
          · have hjl2 : j < l.length := by omega
            rw [rowS_at a b _ _ hjl2]
            have := hc j (by omega) hjl2 x hx
            refine ⟨this.1, ?_⟩
            rw [hk]; exact inS_app this.2) h
        exact ⟨L, ⟨k ++ k2, by rw [hk2, hk, List.append_assoc]⟩, hL⟩
    · rename_i hil
      exact ⟨l, ⟨[], by simp⟩, fun j hj hj2 => hc j (by omega) hj2⟩
theorem cls_eq2 {a b : Mly} {L : List S3} (hL : CLS a b L.length L) : ∀ (w : List Int) (j : Nat), j < L.length → (∀ i : Nat, i < w.length → 0 ≤ w.getD i 0 ∧ w.getD i 0 < a.inp) → (a.go (L.getD j eS0).1 w).2 = (b.go (L.getD j eS0).2.1 w).2
  | [], _, _, _ => rfl
  | x :: w, j, hj, hw => by
    obtain ⟨hx, hw'⟩ := syms_tail hw
    rw [go_cons, go_cons]
    have h1 := hL j hj hj x.toNat (by omega)
    rw [Int.toNat_of_nonneg hx.1] at h1
    have ho : a.out (L.getD j eS0).1 x = b.out (L.getD j eS0).2.1 x := by
      have := h1.1
      simp only [difS, Int.toNat_of_nonneg hx.1] at this
      simpa using this
    obtain ⟨f, hf, e1, e2⟩ := inS_iff.1 h1.2
    obtain ⟨q, hq⟩ := List.getElem?_of_mem hf
    have hql := (List.getElem?_eq_some_iff.1 hq).1
    have hqd : L.getD q eS0 = f := by simp [List.getD, hq]
    have ih := cls_eq2 hL w q hql hw'
    rw [hqd, e1, e2] at ih
    show _ :: _ = _ :: _
    rw [ho, ih]
theorem seS_none {a b : Mly} (ha : MOK a) (hb : MOK b) (hi : a.inp = b.inp) {s t : Int} (hs : 0 ≤ s ∧ s < a.nx.length) (ht : 0 ≤ t ∧ t < b.nx.length) (h : seS a b s t = none) : EQ2 a b s t := by
  obtain ⟨L, ⟨k, hk⟩, hL⟩ := srS_none ha hb hi (fuS a b) 0 _ (wfs_one hs ht) (by unfold fuS; omega) (fun j hj => by omega) h
  intro w hw
  have := cls_eq2 hL w 0 (by rw [hk]; simp) hw
  rw [hk] at this
  exact this
theorem seS_iff {a b : Mly} (ha : MOK a) (hb : MOK b) (hi : a.inp = b.inp) {s t : Int} (hs : 0 ≤ s ∧ s < a.nx.length) (ht : 0 ≤ t ∧ t < b.nx.length) : seS a b s t = none ↔ EQ2 a b s t := by
  refine ⟨seS_none ha hb hi hs ht, fun h => ?_⟩
  cases hw : seS a b s t with
  | none => rfl
  | some w => exact absurd (h w (seS_sound hw).1) (seS_sound hw).2.1

end Go.AV
namespace Go.AV
open Nat (reduceEqDiff reduceAdd reduceLeDiff reduceLT reduceMul reduceSub)
open List (set_cons_zero set_cons_succ)
/-plain-/
/-! ### lists of classes -/
def cN (cl : List Int) : Nat → Int
  | 0 => 0
  | k + 1 => max (cN cl k) (cl.getD k 0 + 1)
def cBad (cl : List Int) (k : Nat) : Bool := decide (cl.getD k 0 < 0) || decide (cN cl k < cl.getD k 0)
def cntE (cl : List Int) : Int := if cl.length < 1 ∨ 64 < cl.length then 2 else if (List.range cl.length).any (cBad cl) = true then 1 else 0
def cntK (cl : List Int) : Int := if cntE cl = 0 then cN cl cl.length else 0
theorem cBad_no {cl : List Int} {k : Nat} (h1 : 0 ≤ cl.getD k 0) (h2 : cl.getD k 0 ≤ cN cl k) : cBad cl k = false := by
  unfold cBad; rw [decide_eq_false (by omega), decide_eq_false (by omega)]; rfl
theorem cBad_yes {cl : List Int} {k : Nat} (h : cl.getD k 0 < 0 ∨ cN cl k < cl.getD k 0) : cBad cl k = true := by
  unfold cBad; simp only [Bool.or_eq_true, decide_eq_true_eq]; exact h
theorem cntE_size {cl : List Int} (h : cl.length < 1 ∨ 64 < cl.length) : cntE cl = 2 := by unfold cntE; rw [if_pos h]
theorem cntE_bad {cl : List Int} (h : ¬ (cl.length < 1 ∨ 64 < cl.length)) {k : Nat} (hk : k < cl.length) (hb : cBad cl k = true) : cntE cl = 1 := by
  unfold cntE; rw [if_neg h, if_pos (List.any_eq_true.2 ⟨k, by simpa using hk, hb⟩)]
theorem cntE_ok {cl : List Int} (h : ¬ (cl.length < 1 ∨ 64 < cl.length)) (hb : ∀ k, k < cl.length → cBad cl k = false) : cntE cl = 0 := by
  unfold cntE; rw [if_neg h, if_neg]
  intro hh
  obtain ⟨k, hk, hc⟩ := List.any_eq_true.1 hh
  rw [hb k (by simpa using hk)] at hc
  cases hc
theorem cN_le {cl : List Int} (hb : ∀ q, q < cl.length → cBad cl q = false) : ∀ k, k ≤ cl.length → 0 ≤ cN cl k ∧ cN cl k ≤ k
  | 0, _ => ⟨Int.le_refl _, Int.le_refl _⟩
  | k + 1, hk => by
    have ih := cN_le hb k (by omega)
    have := hb k (by omega)
    simp only [cBad, Bool.or_eq_false_iff, decide_eq_false_iff_not] at this
    simp only [cN]; omega
theorem cN_le' {cl : List Int} {k : Nat} (hb : ∀ q, q < k → cBad cl q = false) : 0 ≤ cN cl k ∧ cN cl k ≤ k := by
  induction k with
  | zero => exact ⟨Int.le_refl _, Int.le_refl _⟩
  | succ k ih =>
    have h1 := ih fun q hq => hb q (by omega)
    have := hb k (by omega)
    simp only [cBad, Bool.or_eq_false_iff, decide_eq_false_iff_not] at this
    simp only [cN]; omega
theorem cntE_zero {cl : List Int} (h : cntE cl = 0) : (1 ≤ cl.length ∧ cl.length ≤ 64) ∧ ∀ k, k < cl.length → cBad cl k = false := by
  unfold cntE at h
  split at h
  · omega
  · rename_i h1
    split at h
    · omega
    · rename_i h2
      refine ⟨by omega, fun k hk => ?_⟩
      cases hc : cBad cl k with
      | false => rfl
      | true => exact absurd (List.any_eq_true.2 ⟨k, by simpa using hk, hc⟩) h2
def chkE (m : Mly) (cl : List Int) : Int := if validE m ≠ 0 then validE m else if cntE cl ≠ 0 then cntE cl else if (cl.length : Int) = m.inp then 0 else 15
structure COK (m : Mly) (cl : List Int) : Prop where
  ok : MOK m
  ce : cntE cl = 0
  len : (cl.length : Int) = m.inp
theorem cok_of {m : Mly} {cl : List Int} (h : chkE m cl = 0) : COK m cl := by
  unfold chkE at h
  split at h
  · contradiction
  · rename_i h1
    split at h
    · contradiction
    · rename_i h2
      split at h
      · rename_i h3; exact ⟨mok_of (Decidable.not_not.1 h1), Decidable.not_not.1 h2, h3⟩
      · omega

/-! ### states with their access words -/
abbrev S2 := Int × List Int
def eX0 : S2 := (0, [])
def fstX (l : List S2) : List Int := l.map (·.1)
def sndX (l : List S2) : List (List Int) := l.map (·.2)
def stX (m : Mly) (e : S2) (l : List S2) (x : Nat) : List S2 := if (m.row e.1).getD x 0 ∈ fstX l then l else l ++ [((m.row e.1).getD x 0, e.2 ++ [(x : Int)])]
def rowX (m : Mly) (e : S2) (l : List S2) (x : Nat) : List S2 := (List.range x).foldl (stX m e) l
def exF (m : Mly) : Nat → Nat → List S2 → List S2
  | 0, _, l => l
  | f + 1, i, l => if i < l.length then exF m f (i + 1) (rowX m (l.getD i eX0) l m.inp.toNat) else l
def Mly.exR (m : Mly) : List S2 := exF m (m.nx.length + 1) 0 [(m.st, [])]
theorem rowX_succ (m : Mly) (e : S2) (l : List S2) (x : Nat) : rowX m e l (x + 1) = stX m e (rowX m e l x) x := by
  unfold rowX; rw [List.range_succ, List.foldl_append]; rfl
theorem stX_pre (m : Mly) (e : S2) (l : List S2) (x : Nat) : ∃ k, stX m e l x = l ++ k := by
  unfold stX
  split
  · exact ⟨[], by simp⟩
  · exact ⟨_, rfl⟩
theorem rowX_pre (m : Mly) (e : S2) (l : List S2) : ∀ x, ∃ k, rowX m e l x = l ++ k
  | 0 => ⟨[], by simp [rowX]⟩
  | x + 1 => by
    obtain ⟨k1, h1⟩ := rowX_pre m e l x
    obtain ⟨k2, h2⟩ := stX_pre m e (rowX m e l x) x
    exact ⟨k1 ++ k2, by rw [rowX_succ, h2, h1, List.append_assoc]⟩
theorem rowX_at (m : Mly) (e : S2) {l : List S2} (x : Nat) {i : Nat} (h : i < l.length) : (rowX m e l x).getD i eX0 = l.getD i eX0 := by
  obtain ⟨k, hk⟩ := rowX_pre m e l x
  rw [hk]; simp [List.getD, List.getElem?_append_left h]
theorem rowX_ge (m : Mly) (e : S2) (l : List S2) (x : Nat) : l.length ≤ (rowX m e l x).length := by
  obtain ⟨k, hk⟩ := rowX_pre m e l x
  rw [hk]; simp
theorem exF_pre (m : Mly) : ∀ (f i : Nat) (l : List S2), ∃ k, exF m f i l = l ++ k
  | 0, i, l => ⟨[], by simp [exF]⟩
  | f + 1, i, l => by
    simp only [exF]
    split
    · obtain ⟨k1, h1⟩ := rowX_pre m (l.getD i eX0) l m.inp.toNat
      obtain ⟨k2, h2⟩ := exF_pre m f (i + 1) (rowX m (l.getD i eX0) l m.inp.toNat)
      exact ⟨k1 ++ k2, by rw [h2, h1, List.append_assoc]⟩
    · exact ⟨[], by simp⟩
theorem exF_end (m : Mly) (f i : Nat) (l : List S2) (h : l.length ≤ i) : exF m f i l = l := by
  cases f with
  | zero => rfl
  | succ f => simp only [exF]; rw [if_neg (by omega)]
theorem exF_step (m : Mly) (f i : Nat) (l : List S2) (h : i < l.length) : exF m (f + 1) i l = exF m f (i + 1) (rowX m (l.getD i eX0) l m.inp.toNat) := by
  simp only [exF]; rw [if_pos h]
structure WFX (m : Mly) (l : List S2) : Prop where
  rs : RSet m.nx.length (fstX l)
  wl : ∀ e, e ∈ l → e.2.length ≤ l.length
theorem fstX_len (l : List S2) : (fstX l).length = l.length := by simp [fstX]
theorem sndX_len (l : List S2) : (sndX l).length = l.length := by simp [sndX]
theorem fstX_at {l : List S2} {i : Nat} (h : i < l.length) : (fstX l).getD i 0 = (l.getD i eX0).1 := by simp [fstX, List.getD, h]
theorem sndX_at {l : List S2} {i : Nat} (h : i < l.length) : (sndX l).getD i [] = (l.getD i eX0).2 := by simp [sndX, List.getD, h]
theorem WFX.le {m : Mly} {l : List S2} (h : WFX m l) : l.length ≤ m.nx.length := by have := h.rs.len; rwa [fstX_len] at this
theorem WFX.at_ {m : Mly} {l : List S2} (h : WFX m l) {i : Nat} (hi : i < l.length) : 0 ≤ (l.getD i eX0).1 ∧ (l.getD i eX0).1 < m.nx.length := by
  rw [← fstX_at hi]; exact h.rs.at_ (by rw [fstX_len]; exact hi)
theorem mem_X {l : List S2} {i : Nat} (h : i < l.length) : l.getD i eX0 ∈ l := by simp [List.getD, h]
theorem WFX.step {m : Mly} (hm : MOK m) {l : List S2} (h : WFX m l) {e : S2} (he : 0 ≤ e.1 ∧ e.1 < m.nx.length) (hw : e.2.length ≤ l.length) {x : Nat} (hx : (x : Int) < m.inp) : WFX m (stX m e l x) := by
  unfold stX
  split
  · exact h
  · rename_i hn
    have n1 := hm.nr e.1.toNat x (by omega) hx
    refine ⟨?_, fun f hf => ?_⟩
    · have e1 : fstX (l ++ [((m.row e.1).getD x 0, e.2 ++ [(x : Int)])]) = addS (fstX l) ((m.row e.1).getD x 0) := by rw [addS_out hn]; simp [fstX]
      rw [e1]
      exact h.rs.add n1.1 n1.2
    · simp only [List.length_append, List.length_cons, List.length_nil]
      rcases List.mem_append.1 hf with hf | hf
      · have := h.wl f hf; omega
      · simp at hf; subst hf; simp; omega
theorem WFX.row {m : Mly} (hm : MOK m) {l : List S2} (h : WFX m l) {i : Nat} (hil : i < l.length) : ∀ x : Nat, (x : Int) ≤ m.inp → WFX m (rowX m (l.getD i eX0) l x)
  | 0, _ => by simpa [rowX] using h
  | x + 1, hx => by
    rw [rowX_succ]
    have h1 := WFX.row hm h hil x (by omega)
    have h2 := rowX_ge m (l.getD i eX0) l x
    have h3 := h.wl _ (mem_X hil)
    exact h1.step hm (h.at_ hil) (by omega) (by omega)
theorem wfx_one {m : Mly} (hm : MOK m) : WFX m [(m.st, [])] := ⟨rset_one hm, fun e he => by simp at he; subst he; simp⟩
theorem wfx_exF {m : Mly} (hm : MOK m) : ∀ (f i : Nat) (l : List S2), WFX m l → WFX m (exF m f i l)
  | 0, _, _, h => h
  | f + 1, i, l, h => by
    simp only [exF]
    split
    · rename_i hi
      have hi1 := hm.i1
      exact wfx_exF hm f (i + 1) _ (h.row hm hi m.inp.toNat (by omega))
    · exact h
theorem wfx_exR {m : Mly} (hm : MOK m) : WFX m m.exR := wfx_exF hm _ _ _ (wfx_one hm)
theorem fst_row (m : Mly) (e : S2) (l : List S2) : ∀ x, x ≤ (m.row e.1).length → fstX (rowX m e l x) = ((m.row e.1).take x).foldl addS (fstX l)
  | 0, _ => by simp [rowX]
  | x + 1, hx => by
    rw [rowX_succ, take_succ_D (by omega), List.foldl_append, ← fst_row m e l x (by omega)]
    simp only [List.foldl_cons, List.foldl_nil]
    unfold stX
    by_cases hh : (m.row e.1).getD x 0 ∈ fstX (rowX m e l x)
    · rw [if_pos hh, addS_in hh]
    · rw [if_neg hh, addS_out hh]; simp [fstX]
theorem fst_exF {m : Mly} (hm : MOK m) : ∀ (f i : Nat) (l : List S2), WFX m l → fstX (exF m f i l) = m.rf f i (fstX l)
  | 0, _, _, _ => rfl
  | f + 1, i, l, h => by
    simp only [exF, Mly.rf, fstX_len]
    split
    · rename_i hi
      have hi1 := hm.i1
      have hr := h.at_ hi
      have hl : ((m.row (l.getD i eX0).1).length : Int) = m.inp := hm.rl (l.getD i eX0).1.toNat (by omega)
      rw [fst_exF hm f (i + 1) _ (h.row hm hi m.inp.toNat (by omega)), fst_row m _ _ _ (by omega), fstX_at hi, List.take_of_length_le (by omega)]
    · rfl
theorem fst_exR {m : Mly} (hm : MOK m) : fstX m.exR = m.reach := by
  rw [reach_ok (validE_of hm)]; exact fst_exF hm _ _ _ (wfx_one hm)

/-! ### inputs that agree -/
def agrS (m : Mly) (s : Int) (c d : Nat) : Bool := decide (m.out s c = m.out s d) && decide (m.eqc.getD (m.nxt s c).toNat 0 = m.eqc.getD (m.nxt s d).toNat 0)
/-- The first place, in the order of the text. -/
def parS (m : Mly) (cl : List Int) (s : Int) (c d : Nat) : Bool := decide (cl.getD c 0 = cl.getD d 0) && !agrS m s c d
def finD (m : Mly) (cl : List Int) (s : Int) (c : Nat) : Option Nat := (List.range cl.length).find? fun d => decide (c < d) && parS m cl s c d
def finC (m : Mly) (cl : List Int) (s : Int) : Option (Nat × Nat) := (List.range cl.length).findSome? fun c => (finD m cl s c).map fun d => (c, d)
def finI (m : Mly) (cl : List Int) : Option (Nat × Nat × Nat) := (List.range m.exR.length).findSome? fun i => (finC m cl (m.exR.getD i eX0).1).map fun p => (i, p.1, p.2)
theorem fsome {α : Type} {f : Nat → Option α} {n k : Nat} {y : α} (hk : k < n) (h : ∀ q, q < k → f q = none) (e : f k = some y) : (List.range n).findSome? f = some y := by
  have : ∀ (l : List Nat) (r : List Nat), (∀ q, q ∈ l → f q = none) → (l ++ k :: r).findSome? f = some y := by
    intro l
    induction l with
    | nil => intro r _; simp [e]
    | cons a l ih => intro r hl; simp only [List.cons_append, List.findSome?_cons, hl a (by simp)]; exact ih r fun q hq => hl q (by simp [hq])
  have hr : List.range n = List.range k ++ k :: (List.range' (k + 1) (n - (k + 1))) := by
    rw [List.range_eq_range', List.range_eq_range', show n = k + (1 + (n - (k + 1))) by omega, ← List.range'_append_1, Nat.zero_add]
    congr 1
    rw [Nat.add_comm 1, List.range'_succ]
    congr 2; omega
  rw [hr]
  exact this _ _ fun q hq => h q (by simpa using hq)
theorem fnone {α : Type} {f : Nat → Option α} {n : Nat} (h : ∀ q, q < n → f q = none) : (List.range n).findSome? f = none := by
  rw [List.findSome?_eq_none_iff]
  intro q hq
  exact h q (by simpa using hq)
theorem finD_some {m : Mly} {cl : List Int} {s : Int} {c d : Nat} (hc : c < d) (hd : d < cl.length) (hp : parS m cl s c d = true) (h : ∀ q, c < q → q < d → parS m cl s c q = false) : finD m cl s c = some d := by
  unfold finD
  refine find_some hd (by simp [hc, hp]) fun y hy => ?_
  by_cases e : c < y
  · simp [h y e hy]
  · simp [e]
theorem finD_none {m : Mly} {cl : List Int} {s : Int} {c : Nat} (h : ∀ q, c < q → q < cl.length → parS m cl s c q = false) : finD m cl s c = none := by
  unfold finD
  refine find_none fun y hy => ?_
  by_cases e : c < y
  · simp [h y e hy]
  · simp [e]
theorem stX_out {m : Mly} {e : S2} {l : List S2} {x : Nat} (h : (m.row e.1).getD x 0 ∉ fstX l) : fstX (stX m e l x) = fstX l ++ [(m.row e.1).getD x 0] ∧ sndX (stX m e l x) = sndX l ++ [e.2 ++ [(x : Int)]] := by
  unfold stX; rw [if_neg h]; simp [fstX, sndX]
theorem stX_in {m : Mly} {e : S2} {l : List S2} {x : Nat} (h : (m.row e.1).getD x 0 ∈ fstX l) : stX m e l x = l := by unfold stX; rw [if_pos h]
def f3 (r : Option (Nat × Nat × Nat)) : Int × Int × Int := match r with | some p => (p.1, p.2.1, p.2.2) | none => (0, 0, 0)

/-! ### numbers of classes -/
def idxB (p : Int → Bool) (xs : List Int) : Int := match xs.findIdx? p with | some i => (i : Int) | none => -1
theorem idxB_at {p : Int → Bool} {xs : List Int} {k : Nat} (hk : k < xs.length) (h : ∀ q, q < k → p (xs.getD q 0) = false) (hp : p (xs.getD k 0) = true) : idxB p xs = k := by
  unfold idxB
  have : xs.findIdx? p = some k := by
    rw [List.findIdx?_eq_some_iff_getElem]
    refine ⟨hk, ?_, fun j hj => ?_⟩
    · simpa [List.getD, List.getElem?_eq_getElem hk] using hp
    · have := h j hj
      simpa [List.getD, List.getElem?_eq_getElem (Nat.lt_trans hj hk)] using this
  rw [this]
theorem idxB_none {p : Int → Bool} {xs : List Int} (h : ∀ q, q < xs.length → p (xs.getD q 0) = false) : idxB p xs = -1 := by
  unfold idxB
  have : xs.findIdx? p = none := by
    rw [List.findIdx?_eq_none_iff]
    intro a ha
    obtain ⟨i, hi⟩ := List.getElem?_of_mem ha
    have := h i (List.getElem?_eq_some_iff.1 hi).1
    simpa [List.getD, hi] using this
  rw [this]
theorem idxB_lt (p : Int → Bool) (xs : List Int) : -1 ≤ idxB p xs ∧ idxB p xs < xs.length := by
  unfold idxB
  cases h : xs.findIdx? p with
  | none => simp; omega
  | some i =>
    have := (List.findIdx?_eq_some_iff_getElem.1 h).1
    simp; omega
/-- The numbers so far, and the first element of each class. -/
def nmS (T : Nat → Nat → Bool) : Nat → List Int × List Int
  | 0 => ([], [])
  | c + 1 => if idxB (fun d => T d.toNat c) (nmS T c).2 < 0 then ((nmS T c).1 ++ [((nmS T c).2.length : Int)], (nmS T c).2 ++ [(c : Int)])
    else ((nmS T c).1 ++ [idxB (fun d => T d.toNat c) (nmS T c).2], (nmS T c).2)
theorem nmS_new {T : Nat → Nat → Bool} {c : Nat} (h : idxB (fun d => T d.toNat c) (nmS T c).2 < 0) : nmS T (c + 1) = ((nmS T c).1 ++ [((nmS T c).2.length : Int)], (nmS T c).2 ++ [(c : Int)]) := by
  show (if _ then _ else _) = _
  rw [if_pos h]
theorem nmS_old {T : Nat → Nat → Bool} {c : Nat} (h : ¬ idxB (fun d => T d.toNat c) (nmS T c).2 < 0) : nmS T (c + 1) = ((nmS T c).1 ++ [idxB (fun d => T d.toNat c) (nmS T c).2], (nmS T c).2) := by
  show (if _ then _ else _) = _
  rw [if_neg h]
theorem nmS_rng (T : Nat → Nat → Bool) : ∀ c, (nmS T c).1.length = c ∧ (nmS T c).2.length ≤ c ∧ ∀ x, x ∈ (nmS T c).2 → 0 ≤ x ∧ x < c
  | 0 => ⟨rfl, Nat.le_refl _, fun x h => by cases h⟩
  | c + 1 => by
    obtain ⟨h1, h2, h3⟩ := nmS_rng T c
    by_cases h : idxB (fun d => T d.toNat c) (nmS T c).2 < 0
    · rw [nmS_new h]
      refine ⟨by rw [List.length_append, h1]; rfl, by rw [List.length_append]; exact Nat.add_le_add_right h2 1, fun x hx => ?_⟩
      rcases List.mem_append.1 hx with hx | hx
      · have := h3 x hx; omega
      · have hxc : x = (c : Int) := by simpa using hx
        omega
    · rw [nmS_old h]
      refine ⟨by rw [List.length_append, h1]; rfl, Nat.le_succ_of_le h2, fun x hx => ?_⟩
      have := h3 x hx; omega
def togB (m : Mly) (c d : Nat) : Bool := !decide (0 ≤ idxB (fun s => !agrS m s c d) (fstX m.exR))
def spl (m : Mly) (cl : List Int) (p : Nat × Nat × Nat) (c d : Nat) : Bool := decide (cl.getD c 0 = cl.getD d 0) && (!decide (cl.getD c 0 = cl.getD p.2.1 0) || agrS m (m.exR.getD p.1 eX0).1 c d)
theorem map_capAV (ds : List ((t : Ty) × t.den)) : (ds.map fun p => Cap.pat p.1 p.2).map capAV = ds.map fun p => AV.one (.pat p.1 p.2 0) := by simp [capAV]
end Go.AV
namespace Go.AV
open Nat (reduceEqDiff reduceAdd reduceLeDiff reduceLT reduceMul reduceSub)
open List (set_cons_zero set_cons_succ)
/-plain-/
/-! ### the access words, found again from the list of reached states -/
theorem foldA_pre (r : List Int) : ∀ l : List Int, ∃ k, r.foldl addS l = l ++ k := by
  induction r with
  | nil => intro l; exact ⟨[], by simp⟩
  | cons t r ih =>
    intro l
    obtain ⟨k, hk⟩ := ih (addS l t)
    by_cases h : t ∈ l
    · exact ⟨k, by rw [List.foldl_cons, hk, addS_in h]⟩
    · exact ⟨[t] ++ k, by rw [List.foldl_cons, hk, addS_out h, List.append_assoc]⟩
theorem foldA_at (r : List Int) {l : List Int} {i : Nat} (h : i < l.length) : (r.foldl addS l).getD i 0 = l.getD i 0 := by
  obtain ⟨k, hk⟩ := foldA_pre r l
  rw [hk]; simp [List.getD, List.getElem?_append_left h]
theorem rowX_mono (m : Mly) (e : S2) (l : List S2) {y : Nat} : ∀ {z : Nat}, y ≤ z → ∃ k, rowX m e l z = rowX m e l y ++ k
  | 0, h => by
    have : y = 0 := by omega
    subst this; exact ⟨[], by simp⟩
  | z + 1, h => by
    by_cases e1 : y = z + 1
    · subst e1; exact ⟨[], by simp⟩
    · obtain ⟨k, hk⟩ := rowX_mono m e l (y := y) (z := z) (by omega)
      obtain ⟨k2, hk2⟩ := stX_pre m e (rowX m e l z) z
      exact ⟨k ++ k2, by rw [rowX_succ, hk2, hk, List.append_assoc]⟩
theorem acc_pre {m : Mly} {f i : Nat} {l : List S2} (hx : exF m (f + 1) i l = m.exR) (hi : i < l.length) {y : Nat} (hy : y ≤ m.inp.toNat) : ∃ k, m.exR = rowX m (l.getD i eX0) l y ++ k := by
  rw [← hx, exF_step m f i l hi]
  obtain ⟨k1, h1⟩ := exF_pre m f (i + 1) (rowX m (l.getD i eX0) l m.inp.toNat)
  obtain ⟨k2, h2⟩ := rowX_mono m (l.getD i eX0) l hy
  exact ⟨k2 ++ k1, by rw [h1, h2, List.append_assoc]⟩
theorem acc_iff {m : Mly} (hm : MOK m) {f i : Nat} {l : List S2} (hx : exF m (f + 1) i l = m.exR) (hi : i < l.length) {x : Nat} (hxl : x < m.inp.toNat) :
    (m.row (l.getD i eX0).1).getD x 0 ∉ fstX (rowX m (l.getD i eX0) l x) ↔ ((rowX m (l.getD i eX0) l x).length < m.reach.length ∧ (m.row (l.getD i eX0).1).getD x 0 = m.reach.getD (rowX m (l.getD i eX0) l x).length 0) := by
  have hnd : (fstX m.exR).Nodup := (wfx_exR hm).rs.nd
  rw [← fst_exR hm]
  constructor
  · intro hn
    obtain ⟨k, hk⟩ := acc_pre hx hi (y := x + 1) (by omega)
    rw [rowX_succ, stX, if_neg hn] at hk
    rw [hk]
    refine ⟨by rw [fstX_len]; simp only [List.length_append, List.length_cons]; omega, ?_⟩
    simp [fstX, List.getD]
  · rintro ⟨h1, h2⟩ hn
    obtain ⟨k, hk⟩ := acc_pre hx hi (y := x) (by omega)
    rw [hk] at hnd h1 h2
    have e : fstX (rowX m (l.getD i eX0) l x ++ k) = fstX (rowX m (l.getD i eX0) l x) ++ fstX k := by simp [fstX]
    rw [e] at hnd h1 h2
    have hk1 : 0 < (fstX k).length := by rw [List.length_append, fstX_len] at h1; omega
    have h3 : (fstX (rowX m (l.getD i eX0) l x) ++ fstX k).getD (rowX m (l.getD i eX0) l x).length 0 = (fstX k).getD 0 0 := by
      rw [← fstX_len, List.getD, List.getD, List.getElem?_append_right (Nat.le_refl _), Nat.sub_self]; rfl
    rw [h3] at h2
    have h4 : (fstX k).getD 0 0 ∈ fstX k := getD_mem hk1
    exact (List.nodup_append.1 hnd).2.2 _ hn _ (h2 ▸ h4) rfl
/-- The word behind two inputs that do not agree. -/
def parW (m : Mly) (s : Int) (c d : Nat) : List Int := if m.out s c = m.out s d then (seS m m (m.nxt s c) (m.nxt s d)).getD [] else []
theorem eqc_seS {m : Mly} (hm : MOK m) {s t : Int} (hs : 0 ≤ s ∧ s < m.nx.length) (ht : 0 ≤ t ∧ t < m.nx.length) : (seS m m s t).isSome = !decide (m.eqc.getD s.toNat 0 = m.eqc.getD t.toNat 0) := by
  have h1 := seS_iff hm hm rfl hs ht
  have h2 := eqc_iff hm hs.1 hs.2 ht.1 ht.2
  have h3 : seS m m s t = none ↔ m.eqc.getD s.toNat 0 = m.eqc.getD t.toNat 0 := h1.trans h2.symm
  cases hc : seS m m s t with
  | none => rw [decide_eq_true (h3.1 hc)]; rfl
  | some w =>
    have : ¬ m.eqc.getD s.toNat 0 = m.eqc.getD t.toNat 0 := fun hh => by rw [h3.2 hh] at hc; cases hc
    rw [decide_eq_false this]; rfl
end Go.AV
namespace Go.AV
open Nat (reduceEqDiff reduceAdd reduceLeDiff reduceLT reduceMul reduceSub)
open List (set_cons_zero set_cons_succ)
/-plain-/
/-! ### numbers of classes: an equivalence, and the list that a least member gives -/
structure EQT (T : Nat → Nat → Bool) (n : Nat) : Prop where
  rf : ∀ a, a < n → T a a = true
  sy : ∀ a b, a < n → b < n → T a b = true → T b a = true
  tr : ∀ a b c, a < n → b < n → c < n → T a b = true → T b c = true → T a c = true
theorem nmS_congr {T U : Nat → Nat → Bool} : ∀ c, (∀ d q, d < q → q < c → T d q = U d q) → nmS T c = nmS U c
  | 0, _ => rfl
  | c + 1, h => by
    have ih := nmS_congr (T := T) (U := U) c fun d q h1 h2 => h d q h1 (by omega)
    have hr := (nmS_rng U c).2.2
    have he : idxB (fun d => T d.toNat c) (nmS T c).2 = idxB (fun d => U d.toNat c) (nmS U c).2 := by
      rw [ih]
      have : ∀ xs : List Int, (∀ x, x ∈ xs → 0 ≤ x ∧ x < (c : Int)) → xs.findIdx? (fun d => T d.toNat c) = xs.findIdx? (fun d => U d.toNat c) := by
        intro xs
        induction xs with
        | nil => intro _; rfl
        | cons y ys ihy =>
          intro hy
          have h1 := hy y (by simp)
          rw [List.findIdx?_cons, List.findIdx?_cons, ihy (fun x hx => hy x (by simp [hx])), h y.toNat c (by omega) (by omega)]
      unfold idxB
      rw [this _ hr]
    show (if _ then _ else _) = (if _ then _ else _)
    rw [he, ih]
structure NMP (T : Nat → Nat → Bool) (c : Nat) : Prop where
  at_ : ∀ q, q < c → 0 ≤ (nmS T c).1.getD q 0 ∧ (nmS T c).1.getD q 0 < (nmS T c).2.length ∧ T ((nmS T c).2.getD ((nmS T c).1.getD q 0).toNat 0).toNat q = true
  ap : ∀ x y, x < y → y < (nmS T c).2.length → T ((nmS T c).2.getD x 0).toNat ((nmS T c).2.getD y 0).toNat = false
theorem getD_left {xs ys : List Int} {i : Nat} (h : i < xs.length) : (xs ++ ys).getD i 0 = xs.getD i 0 := by simp [List.getD, List.getElem?_append_left h]
theorem getD_end {xs : List Int} {x : Int} {i : Nat} (h : i = xs.length) : (xs ++ [x]).getD i 0 = x := by subst h; simp [List.getD]
theorem idxB_hit {p : Int → Bool} {xs : List Int} (h : 0 ≤ idxB p xs) : idxB p xs < xs.length ∧ p (xs.getD (idxB p xs).toNat 0) = true ∧ ∀ q, q < (idxB p xs).toNat → p (xs.getD q 0) = false := by
  unfold idxB at h ⊢
  cases hf : xs.findIdx? p with
  | none => rw [hf] at h; simp at h
  | some k =>
    obtain ⟨h1, h2, h3⟩ := List.findIdx?_eq_some_iff_getElem.1 hf
    refine ⟨by simpa using h1, by simpa [List.getD, h1] using h2, fun q hq => ?_⟩
    have hq' : q < k := by simpa using hq
    have := h3 q hq'
    simpa [List.getD, Nat.lt_trans hq' h1] using this
theorem idxB_miss {p : Int → Bool} {xs : List Int} (h : idxB p xs < 0) : ∀ q, q < xs.length → p (xs.getD q 0) = false := by
  intro q hq
  unfold idxB at h
  cases hf : xs.findIdx? p with
  | some k => rw [hf] at h; simp at h; omega
  | none =>
    have := List.findIdx?_eq_none_iff.1 hf (xs.getD q 0) (getD_mem hq)
    simpa using this
theorem nmp {T : Nat → Nat → Bool} {n : Nat} (hT : EQT T n) : ∀ c, c ≤ n → NMP T c
  | 0, _ => ⟨fun q h => by omega, fun x y _ h => by simp [nmS] at h⟩
  | c + 1, hc => by
    have ih := nmp hT c (by omega)
    obtain ⟨r1, r2, r3⟩ := nmS_rng T c
    by_cases h : idxB (fun d => T d.toNat c) (nmS T c).2 < 0
    · have hm := idxB_miss h
      rw [show NMP T (c + 1) = NMP T (c + 1) from rfl]
      refine ⟨fun q hq => ?_, fun x y hxy hy => ?_⟩
      · rw [nmS_new h]
        simp only [List.length_append, List.length_cons, List.length_nil]
        by_cases e : q = c
        · rw [e, getD_end r1.symm, getD_end (by omega)]
          exact ⟨by omega, by omega, by simpa using hT.rf c (by omega)⟩
        · have := ih.at_ q (by omega)
          rw [getD_left (by omega), getD_left (by omega)]
          exact ⟨this.1, by omega, this.2.2⟩
      · rw [nmS_new h] at hy ⊢
        simp only [List.length_append, List.length_cons, List.length_nil] at hy
        by_cases e : y = (nmS T c).2.length
        · rw [getD_end e, getD_left (by omega)]
          simpa using hm x (by omega)
        · rw [getD_left (by omega), getD_left (by omega)]
          exact ih.ap x y hxy (by omega)
    · have hh := idxB_hit (p := fun d => T d.toNat c) (xs := (nmS T c).2) (by omega)
      refine ⟨fun q hq => ?_, fun x y hxy hy => ?_⟩
      · rw [nmS_old h]
        dsimp only
        by_cases e : q = c
        · rw [e, getD_end r1.symm]
          exact ⟨by omega, hh.1, hh.2.1⟩
        · rw [getD_left (by omega)]
          exact ih.at_ q (by omega)
      · rw [nmS_old h] at hy ⊢
        exact ih.ap x y hxy hy
theorem nm_old {T : Nat → Nat → Bool} {n c q : Nat} (hT : EQT T n) (hc : c < n) (hq : q < c) (h : T q c = true) : idxB (fun d => T d.toNat c) (nmS T c).2 = (nmS T c).1.getD q 0 := by
  have hp := nmp hT c (by omega)
  obtain ⟨r1, r2, r3⟩ := nmS_rng T c
  obtain ⟨a1, a2, a3⟩ := hp.at_ q hq
  have hm := r3 _ (getD_mem (w := (nmS T c).2) (i := ((nmS T c).1.getD q 0).toNat) (by omega))
  have h1 := hT.tr _ q c (by omega) (by omega) hc a3 h
  have := idxB_at (p := fun d => T d.toNat c) (xs := (nmS T c).2) (k := ((nmS T c).1.getD q 0).toNat) (by omega) (fun x hx => ?_) h1
  · rw [this]; omega
  · have hx3 := r3 _ (getD_mem (w := (nmS T c).2) (i := x) (by omega))
    have h2 := hp.ap x _ hx (by omega)
    cases hc2 : T ((nmS T c).2.getD x 0).toNat c with
    | false => rfl
    | true =>
      have := hT.tr _ c _ (by omega) hc (by omega) hc2 (hT.sy _ _ (by omega) hc h1)
      rw [h2] at this; cases this
theorem nm_new {T : Nat → Nat → Bool} {c : Nat} (h : ∀ q, q < c → T q c = false) : idxB (fun d => T d.toNat c) (nmS T c).2 = -1 := by
  obtain ⟨r1, r2, r3⟩ := nmS_rng T c
  refine idxB_none fun x hx => ?_
  have hx3 := r3 _ (getD_mem hx)
  exact h _ (by omega)
theorem cN_app {xs : List Int} {x : Int} : ∀ {k : Nat}, k ≤ xs.length → cN (xs ++ [x]) k = cN xs k
  | 0, _ => rfl
  | k + 1, h => by
    simp only [cN]
    rw [cN_app (k := k) (by omega), getD_left (by omega)]
theorem nm_cN (T : Nat → Nat → Bool) : ∀ c, cN (nmS T c).1 c = (nmS T c).2.length ∧ ∀ k, k < c → cBad (nmS T c).1 k = false
  | 0 => ⟨rfl, fun k h => by omega⟩
  | c + 1 => by
    obtain ⟨i1, i2⟩ := nm_cN T c
    obtain ⟨r1, r2, r3⟩ := nmS_rng T c
    have key : ∀ x : Int, 0 ≤ x → x ≤ (nmS T c).2.length → ∀ k, k < c + 1 → cBad ((nmS T c).1 ++ [x]) k = false := by
      intro x h0 h1 k hk
      by_cases e : k = c
      · subst e
        refine cBad_no (by rw [getD_end r1.symm]; exact h0) (by rw [getD_end r1.symm, cN_app (by omega), i1]; exact h1)
      · have := i2 k (by omega)
        unfold cBad at this ⊢
        rw [getD_left (by omega), cN_app (by omega)]; exact this
    by_cases h : idxB (fun d => T d.toNat c) (nmS T c).2 < 0
    · rw [nmS_new h]
      refine ⟨?_, key _ (by omega) (by omega)⟩
      simp only [cN, List.length_append, List.length_cons, List.length_nil]
      rw [cN_app (by omega), getD_end r1.symm, i1]; omega
    · have hb := idxB_lt (fun d => T d.toNat c) (nmS T c).2
      rw [nmS_old h]
      refine ⟨?_, key _ (by omega) (by omega)⟩
      simp only [cN]
      rw [cN_app (by omega), getD_end r1.symm, i1]; omega
theorem nm_cnt (T : Nat → Nat → Bool) {n : Nat} (h1 : 1 ≤ n) (h2 : n ≤ 64) : cntE (nmS T n).1 = 0 ∧ cntK (nmS T n).1 = (nmS T n).2.length := by
  obtain ⟨r1, _, _⟩ := nmS_rng T n
  obtain ⟨i1, i2⟩ := nm_cN T n
  have h0 : cntE (nmS T n).1 = 0 := cntE_ok (by omega) fun k hk => i2 k (by omega)
  refine ⟨h0, ?_⟩
  unfold cntK
  rw [if_pos h0, r1, i1]
def eqL (l : List Int) (d c : Nat) : Bool := decide (l.getD d 0 = l.getD c 0)
theorem eqL_eqt (l : List Int) (n : Nat) : EQT (eqL l) n :=
  ⟨fun a _ => by simp [eqL], fun a b _ _ h => by simp only [eqL, decide_eq_true_eq] at h ⊢; exact h.symm, fun a b c _ _ _ h g => by simp only [eqL, decide_eq_true_eq] at h g ⊢; exact h.trans g⟩
/-- The inner loop of the numbering. -/
def NKP (l : List Int) (i j : Nat) (k : Int) : Prop := (k = ((nmS (eqL l) i).2.length : Int) ∧ ∀ q, q < j → ¬ l.getD q 0 = l.getD i 0) ∨ ∃ q, q < j ∧ l.getD q 0 = l.getD i 0 ∧ k = (nmS (eqL l) i).1.getD q 0
theorem nkp_zero (l : List Int) (i : Nat) : NKP l i 0 ((nmS (eqL l) i).2.length : Int) := .inl ⟨rfl, fun q h => by omega⟩
theorem nkp_hit {l : List Int} {i j : Nat} (h : l.getD j 0 = l.getD i 0) : NKP l i (j + 1) ((nmS (eqL l) i).1.getD j 0) := .inr ⟨j, by omega, h, rfl⟩
theorem nkp_miss {l : List Int} {i j : Nat} {k : Int} (h0 : NKP l i j k) (h : ¬ l.getD j 0 = l.getD i 0) : NKP l i (j + 1) k := by
  rcases h0 with ⟨h1, h2⟩ | ⟨q, h1, h2, h3⟩
  · refine .inl ⟨h1, fun q hq => ?_⟩
    by_cases e : q = j
    · rw [e]; exact h
    · exact h2 q (by omega)
  · exact .inr ⟨q, by omega, h2, h3⟩
theorem nkp_end {l : List Int} {i : Nat} {k : Int} (hi : i < l.length) (h : NKP l i i k) :
    (k = ((nmS (eqL l) i).2.length : Int) ∧ nmS (eqL l) (i + 1) = ((nmS (eqL l) i).1 ++ [k], (nmS (eqL l) i).2 ++ [(i : Int)])) ∨ (¬ k = ((nmS (eqL l) i).2.length : Int) ∧ nmS (eqL l) (i + 1) = ((nmS (eqL l) i).1 ++ [k], (nmS (eqL l) i).2)) := by
  rcases h with ⟨h1, h2⟩ | ⟨q, h1, h2, h3⟩
  · have := nm_new (T := eqL l) (c := i) fun q hq => by simp only [eqL, decide_eq_false_iff_not]; exact h2 q hq
    refine .inl ⟨h1, ?_⟩
    rw [nmS_new (by omega), h1]
  · have he := nm_old (eqL_eqt l l.length) hi h1 (by simp only [eqL, decide_eq_true_eq]; exact h2)
    have ha := (nmp (eqL_eqt l l.length) i (by omega)).at_ q h1
    refine .inr ⟨by omega, ?_⟩
    rw [nmS_old (by omega), he, h3]
/-- The least that is held together with c. -/
def lst (T : Nat → Nat → Bool) (c : Nat) : Nat := ((List.range c).find? (T c)).getD c
def LKP (T : Nat → Nat → Bool) (c e : Nat) (k : Int) : Prop := (k = (c : Int) ∧ ∀ q, e ≤ q → q < c → T c q = false) ∨ ∃ q : Nat, e ≤ q ∧ q < c ∧ T c q = true ∧ k = (q : Int) ∧ ∀ r, e ≤ r → r < q → T c r = false
theorem lkp_top (T : Nat → Nat → Bool) (c : Nat) : LKP T c c c := .inl ⟨rfl, fun q h1 h2 => by omega⟩
theorem lkp_hit {T : Nat → Nat → Bool} {c e : Nat} (hc : e < c) (h : T c e = true) : LKP T c e (e : Int) := .inr ⟨e, Nat.le_refl _, hc, h, rfl, fun r h1 h2 => by omega⟩
theorem lkp_miss {T : Nat → Nat → Bool} {c e : Nat} {k : Int} (h0 : LKP T c (e + 1) k) (h : T c e = false) : LKP T c e k := by
  rcases h0 with ⟨h1, h2⟩ | ⟨q, h1, h2, h3, h4, h5⟩
  · refine .inl ⟨h1, fun q q1 q2 => ?_⟩
    by_cases e1 : q = e
    · rw [e1]; exact h
    · exact h2 q (by omega) q2
  · refine .inr ⟨q, by omega, h2, h3, h4, fun r r1 r2 => ?_⟩
    by_cases e1 : r = e
    · rw [e1]; exact h
    · exact h5 r (by omega) r2
theorem lkp_end {T : Nat → Nat → Bool} {c : Nat} {k : Int} (h : LKP T c 0 k) : k = (lst T c : Int) := by
  unfold lst
  rcases h with ⟨h1, h2⟩ | ⟨q, h1, h2, h3, h4, h5⟩
  · rw [find_none fun y hy => h2 y (by omega) hy]; exact h1
  · rw [find_some h2 h3 fun y hy => h5 y (by omega) hy]; exact h4
theorem lst_spec {T : Nat → Nat → Bool} {n c : Nat} (hT : EQT T n) (hc : c < n) : lst T c ≤ c ∧ T c (lst T c) = true ∧ ∀ r, r < lst T c → T c r = false := by
  unfold lst
  cases hf : (List.range c).find? (T c) with
  | none =>
    have := List.find?_eq_none.1 hf
    exact ⟨Nat.le_refl _, hT.rf c hc, fun r hr => by simpa using this r (by simpa using hr)⟩
  | some q =>
    have h1 := List.find?_some hf
    have h2 : q < c := by simpa using List.mem_of_find?_eq_some hf
    refine ⟨by show q ≤ c; omega, h1, fun r hr => ?_⟩
    have hr' : r < q := hr
    cases hc2 : T c r with
    | false => rfl
    | true =>
      have h3 := (List.find?_range_eq_some.1 hf).2.2 r hr'
      rw [hc2] at h3; cases h3
theorem lst_iff {T : Nat → Nat → Bool} {n c d : Nat} (hT : EQT T n) (hc : c < n) (hd : d < n) : lst T d = lst T c ↔ T d c = true := by
  obtain ⟨c1, c2, c3⟩ := lst_spec hT hc
  obtain ⟨d1, d2, d3⟩ := lst_spec hT hd
  constructor
  · intro e
    rw [e] at d2
    exact hT.tr d _ c hd (by omega) hc d2 (hT.sy c _ hc (by omega) c2)
  · intro h
    have h1 := hT.tr c d _ hc hd (by omega) (hT.sy d c hd hc h) d2
    have h2 := hT.tr d c _ hd hc (by omega) h c2
    rcases Nat.lt_trichotomy (lst T d) (lst T c) with hh | hh | hh
    · rw [c3 _ hh] at h1; cases h1
    · exact hh
    · rw [d3 _ hh] at h2; cases h2
theorem togB_iff {m : Mly} {c d : Nat} : togB m c d = true ↔ ∀ k, k < (fstX m.exR).length → agrS m ((fstX m.exR).getD k 0) c d = true := by
  unfold togB
  constructor
  · intro h k hk
    have h1 : idxB (fun s => !agrS m s c d) (fstX m.exR) < 0 := by
      have : ¬ 0 ≤ idxB (fun s => !agrS m s c d) (fstX m.exR) := by simpa using h
      omega
    simpa using idxB_miss h1 k hk
  · intro h
    rw [idxB_none fun q hq => by rw [h q hq]; rfl]; rfl
theorem agr_iff {m : Mly} {s : Int} {c d : Nat} : agrS m s c d = true ↔ m.out s c = m.out s d ∧ m.eqc.getD (m.nxt s c).toNat 0 = m.eqc.getD (m.nxt s d).toNat 0 := by simp only [agrS, Bool.and_eq_true, decide_eq_true_eq]
theorem togB_eqt (m : Mly) (n : Nat) : EQT (togB m) n where
  rf a _ := togB_iff.2 fun k _ => agr_iff.2 ⟨rfl, rfl⟩
  sy a b _ _ h := togB_iff.2 fun k hk => by have := agr_iff.1 (togB_iff.1 h k hk); exact agr_iff.2 ⟨this.1.symm, this.2.symm⟩
  tr a b c _ _ _ h g := togB_iff.2 fun k hk => by
    have h1 := agr_iff.1 (togB_iff.1 h k hk); have h2 := agr_iff.1 (togB_iff.1 g k hk); exact agr_iff.2 ⟨h1.1.trans h2.1, h1.2.trans h2.2⟩
def lsL (T : Nat → Nat → Bool) (n : Nat) : List Int := (List.range n).map fun c => (lst T c : Int)
theorem lsL_succ (T : Nat → Nat → Bool) (n : Nat) : lsL T (n + 1) = lsL T n ++ [(lst T n : Int)] := by simp [lsL, List.range_succ]
theorem lsL_len (T : Nat → Nat → Bool) (n : Nat) : (lsL T n).length = n := by simp [lsL]
theorem lsL_at (T : Nat → Nat → Bool) {n c : Nat} (h : c < n) : (lsL T n).getD c 0 = (lst T c : Int) := by simp [lsL, List.getD, h]
theorem nm_lst {T : Nat → Nat → Bool} {n : Nat} (hT : EQT T n) : nmS (eqL (lsL T n)) n = nmS T n :=
  nmS_congr n fun d q h1 h2 => by
    unfold eqL
    rw [lsL_at T (by omega), lsL_at T (by omega)]
    have hi := lst_iff hT (c := q) (d := d) h2 (by omega)
    cases hc : T d q with
    | true => rw [hi.2 hc]; exact decide_eq_true rfl
    | false =>
      refine decide_eq_false fun hh => ?_
      rw [hi.1 (by omega)] at hc; cases hc
end Go.AV
namespace Go.AV
open Nat (reduceEqDiff reduceAdd reduceLeDiff reduceLT reduceMul reduceSub)
open List (set_cons_zero set_cons_succ)
/-plain-/
theorem finD_spec {m : Mly} {cl : List Int} {s : Int} {c d : Nat} (h : finD m cl s c = some d) : c < d ∧ d < cl.length ∧ parS m cl s c d = true := by
  unfold finD at h
  have h1 := List.find?_some h
  have h2 : d < cl.length := by simpa using List.mem_of_find?_eq_some h
  simp only [Bool.and_eq_true, decide_eq_true_eq] at h1
  exact ⟨h1.1, h2, h1.2⟩
theorem finI_spec {m : Mly} {cl : List Int} {p : Nat × Nat × Nat} (h : finI m cl = some p) : (p.1 < m.exR.length ∧ p.2.1 < cl.length ∧ p.2.2 < cl.length) ∧ p.2.1 < p.2.2 ∧ parS m cl (m.exR.getD p.1 eX0).1 p.2.1 p.2.2 = true := by
  unfold finI at h
  obtain ⟨i, hi, he⟩ := List.exists_of_findSome?_eq_some h
  cases hc : finC m cl (m.exR.getD i eX0).1 with
  | none => rw [hc] at he; cases he
  | some q =>
    rw [hc] at he
    simp only [Option.map_some, Option.some.injEq] at he
    subst he
    unfold finC at hc
    obtain ⟨c, hcm, hce⟩ := List.exists_of_findSome?_eq_some hc
    cases hd : finD m cl (m.exR.getD i eX0).1 c with
    | none => rw [hd] at hce; cases hce
    | some d =>
      rw [hd] at hce
      simp only [Option.map_some, Option.some.injEq] at hce
      subst hce
      obtain ⟨h1, h2, h3⟩ := finD_spec hd
      exact ⟨⟨by simpa using hi, by simpa using hcm, h2⟩, h1, h3⟩
def stpL (m : Mly) (cl : List Int) : List Int := if chkE m cl = 0 then (match finI m cl with | some p => (nmS (spl m cl p) m.inp.toNat).1 | none => cl) else []
def stpB (m : Mly) (cl : List Int) : Bool := if chkE m cl = 0 then (finI m cl).isSome else false
/-- The words of a witness. -/
def wTl (m : Mly) (p : Nat × Nat × Nat) : List Int := if m.out (m.exR.getD p.1 eX0).1 p.2.1 = m.out (m.exR.getD p.1 eX0).1 p.2.2 then (seS m m (m.nxt (m.exR.getD p.1 eX0).1 p.2.1) (m.nxt (m.exR.getD p.1 eX0).1 p.2.2)).getD [] else []
def wU (m : Mly) (cl : List Int) : List Int := if chkE m cl = 0 then (match finI m cl with | some p => (m.exR.getD p.1 eX0).2 ++ [(p.2.1 : Int)] ++ wTl m p | none => []) else []
def wV (m : Mly) (cl : List Int) : List Int := if chkE m cl = 0 then (match finI m cl with | some p => (m.exR.getD p.1 eX0).2 ++ [(p.2.2 : Int)] ++ wTl m p | none => []) else []
theorem f3_some (p : Nat × Nat × Nat) : f3 (some p) = ((p.1 : Int), (p.2.1 : Int), (p.2.2 : Int)) := rfl
theorem f3_none : f3 none = (0, 0, 0) := rfl
end Go.AV
namespace Go.AV
open Nat (reduceEqDiff reduceAdd reduceLeDiff reduceLT reduceMul reduceSub)
open List (set_cons_zero set_cons_succ)
/-plain-/
/-! ### a witness's words: identified by the list, but told apart by the machine -/
def SYM (n : Int) (w : List Int) : Prop := ∀ a, a ∈ w → 0 ≤ a ∧ a < n
theorem sym_at {n : Int} {w : List Int} (h : SYM n w) : ∀ i : Nat, i < w.length → 0 ≤ w.getD i 0 ∧ w.getD i 0 < n := fun _ hi => h _ (getD_mem hi)
theorem sym_of {n : Int} {w : List Int} (h : ∀ i : Nat, i < w.length → 0 ≤ w.getD i 0 ∧ w.getD i 0 < n) : SYM n w := fun a ha => by
  obtain ⟨i, hi⟩ := List.getElem?_of_mem ha
  have h1 := (List.getElem?_eq_some_iff.1 hi).1
  have := h i h1
  simpa [List.getD, hi] using this
theorem sym_app {n : Int} {u v : List Int} (hu : SYM n u) (hv : SYM n v) : SYM n (u ++ v) := fun a ha => by
  rcases List.mem_append.1 ha with h | h
  · exact hu a h
  · exact hv a h
theorem sym_one {n : Int} {x : Nat} (h : (x : Int) < n) : SYM n [(x : Int)] := fun a ha => by
  have : a = (x : Int) := by simpa using ha
  omega
def AGW (m : Mly) (e : S2) : Prop := (m.go m.st e.2).1 = e.1 ∧ SYM m.inp e.2
theorem ags_st {m : Mly} {e : S2} {l : List S2} {x : Nat} (h : ∀ f, f ∈ l → AGW m f) (he : AGW m e) (hx : (x : Int) < m.inp) : ∀ f, f ∈ stX m e l x → AGW m f := by
  unfold stX
  split
  · exact h
  · intro f hf
    rcases List.mem_append.1 hf with hf | hf
    · exact h f hf
    · have e1 : f = ((m.row e.1).getD x 0, e.2 ++ [(x : Int)]) := by simpa using hf
      subst e1
      refine ⟨?_, sym_app he.2 (sym_one hx)⟩
      rw [go_append, he.1]; rfl
theorem ags_row {m : Mly} {e : S2} {l : List S2} (h : ∀ f, f ∈ l → AGW m f) (he : AGW m e) : ∀ x : Nat, (x : Int) ≤ m.inp → ∀ f, f ∈ rowX m e l x → AGW m f
  | 0, _ => by simpa [rowX] using h
  | x + 1, hx => by
    rw [rowX_succ]
    exact ags_st (ags_row h he x (by omega)) he (by omega)
theorem ags_exF {m : Mly} (hi : 0 ≤ m.inp) : ∀ (f i : Nat) (l : List S2), (∀ e, e ∈ l → AGW m e) → ∀ e, e ∈ exF m f i l → AGW m e
  | 0, _, _, h => h
  | f + 1, i, l, h => by
    simp only [exF]
    split
    · rename_i hil
      exact ags_exF hi f (i + 1) _ (ags_row h (h _ (mem_X hil)) m.inp.toNat (by omega))
    · exact h
theorem ags_exR {m : Mly} (hm : MOK m) : ∀ e, e ∈ m.exR → AGW m e := by
  have := hm.i1
  refine ags_exF (by omega) _ _ _ fun e he => ?_
  have e1 : e = (m.st, []) := by simpa using he
  subst e1
  exact ⟨rfl, fun a ha => by cases ha⟩
theorem srS_len2 {a b : Mly} (ha : MOK a) (hb : MOK b) (hi : a.inp = b.inp) {B : Nat} (hB : a.nx.length * b.nx.length ≤ B) : ∀ (f i : Nat) (l : List S3), WFS a b l → ∀ w, srS a b f i l = some w → w.length ≤ B + 1
  | 0, _, _, _, w, h => by cases h
  | f + 1, i, l, hl, w, h => by
    simp only [srS] at h
    split at h
    · rename_i hil
      have h1 := hl.wl hil
      have h2 := hl.le
      have h3 := ha.i1
      split at h
      · simp only [Option.some.injEq] at h; subst h
        rw [List.length_append]; simp only [List.length_cons, List.length_nil]; omega
      · exact srS_len2 ha hb hi hB f (i + 1) _ (hl.row ha hb hi hil a.inp.toNat (by omega)) w h
    · cases h
theorem go_one (m : Mly) (e : S2) (c : Nat) (w : List Int) (he : AGW m e) : (m.go m.st (e.2 ++ [(c : Int)] ++ w)).2 = (m.go m.st e.2).2 ++ (m.out e.1 c :: (m.go (m.nxt e.1 c) w).2) := by
  rw [List.append_assoc, go_append, he.1]
  simp only [List.cons_append, List.nil_append]
  rw [go_cons]
structure SHW (m : Mly) (cl : List Int) (u v : List Int) : Prop where
  su : SYM m.inp u
  sv : SYM m.inp v
  lu : u.length ≤ 200
  lv : v.length = u.length
  pos : 0 < u.length
  ne : (m.go m.st u).2 ≠ (m.go m.st v).2
  im : u.map (fun a => cl.getD a.toNat 0) = v.map fun a => cl.getD a.toNat 0
theorem shw {m : Mly} {cl : List Int} {p : Nat × Nat × Nat} (hk : COK m cl) (hs : m.nx.length ≤ 12) (hf : finI m cl = some p) : SHW m cl ((m.exR.getD p.1 eX0).2 ++ [(p.2.1 : Int)] ++ wTl m p) ((m.exR.getD p.1 eX0).2 ++ [(p.2.2 : Int)] ++ wTl m p) := by
  have hm := hk.ok; have hlen := hk.len
  obtain ⟨⟨p1, p2, p3⟩, p4, p5⟩ := finI_spec hf
  have hwx := wfx_exR hm
  have hat := hwx.at_ p1
  have hwl := hwx.wl _ (mem_X p1)
  have hxl := hwx.le
  have hag := ags_exR hm _ (mem_X p1)
  have hnc := hm.nr (m.exR.getD p.1 eX0).1.toNat p.2.1 (by omega) (by omega)
  have hnd := hm.nr (m.exR.getD p.1 eX0).1.toNat p.2.2 (by omega) (by omega)
  have hcl : cl.getD p.2.1 0 = cl.getD p.2.2 0 := by
    unfold parS at p5; simp only [Bool.and_eq_true, decide_eq_true_eq] at p5; exact p5.1
  have hna : agrS m (m.exR.getD p.1 eX0).1 p.2.1 p.2.2 = false := by
    unfold parS at p5; simp only [Bool.and_eq_true, Bool.not_eq_true', decide_eq_true_eq] at p5; exact p5.2
  have hT : SYM m.inp (wTl m p) ∧ (wTl m p).length ≤ 145 ∧ (m.out (m.exR.getD p.1 eX0).1 p.2.1 :: (m.go (m.nxt (m.exR.getD p.1 eX0).1 p.2.1) (wTl m p)).2) ≠ (m.out (m.exR.getD p.1 eX0).1 p.2.2 :: (m.go (m.nxt (m.exR.getD p.1 eX0).1 p.2.2) (wTl m p)).2) := by
    by_cases hO : m.out (m.exR.getD p.1 eX0).1 p.2.1 = m.out (m.exR.getD p.1 eX0).1 p.2.2
    · have e : wTl m p = (seS m m (m.nxt (m.exR.getD p.1 eX0).1 p.2.1) (m.nxt (m.exR.getD p.1 eX0).1 p.2.2)).getD [] := if_pos hO
      have hi := eqc_seS hm hnc hnd
      have hne : ¬ m.eqc.getD (m.nxt (m.exR.getD p.1 eX0).1 p.2.1).toNat 0 = m.eqc.getD (m.nxt (m.exR.getD p.1 eX0).1 p.2.2).toNat 0 := by
        intro hh
        have := agr_iff.2 ⟨hO, hh⟩
        rw [hna] at this; cases this
      have hso : (seS m m (m.nxt (m.exR.getD p.1 eX0).1 p.2.1) (m.nxt (m.exR.getD p.1 eX0).1 p.2.2)).isSome = true := by
        refine hi.trans ?_
        rw [show decide (m.eqc.getD ((m.nx.getD (m.exR.getD p.1 eX0).1.toNat []).getD p.2.1 0).toNat 0 = m.eqc.getD ((m.nx.getD (m.exR.getD p.1 eX0).1.toNat []).getD p.2.2 0).toNat 0) = false from decide_eq_false hne]; rfl
      obtain ⟨w, hw⟩ := Option.isSome_iff_exists.1 hso
      rw [e, hw]
      obtain ⟨w1, w2, w3⟩ := seS_sound hw
      refine ⟨sym_of w1, srS_len2 (B := 144) hm hm rfl (Nat.le_trans (Nat.mul_le_mul hs hs) (by omega)) _ _ _ (wfs_one hnc hnd) w hw, fun hh => w2 ?_⟩
      injection hh
    · have e : wTl m p = [] := if_neg hO
      rw [e]
      refine ⟨fun a ha => (by cases ha), Nat.zero_le _, fun hh => hO ?_⟩
      injection hh
  refine ⟨sym_app (sym_app hag.2 (sym_one (by omega))) hT.1, sym_app (sym_app hag.2 (sym_one (by omega))) hT.1, ?_, ?_, ?_, ?_, ?_⟩
  · simp only [List.length_append, List.length_cons, List.length_nil]; omega
  · simp only [List.length_append, List.length_cons, List.length_nil]
  · simp only [List.length_append, List.length_cons, List.length_nil]; omega
  · rw [go_one m _ _ _ hag, go_one m _ _ _ hag]
    intro hh
    exact hT.2.2 (List.append_cancel_left hh)
  · simp only [List.map_append, List.map_cons, List.map_nil, Int.toNat_natCast, hcl]
theorem shw_from {m : Mly} {w : List Int} (hm : MOK m) (h : SYM m.inp w) (hl : w.length ≤ 200) : fromE m m.st w = 0 ∧ fromV m m.st w = (m.go m.st w).2 := by
  have h1 := hm.s1; have h2 := hm.s2; have h3 := hm.i1; have h4 := hm.i2
  have e : fromE m m.st w = 0 := by
    unfold fromE
    rw [if_neg (by simp [validE_of hm]), if_neg (by omega)]
    exact wordE_ok h3 (by omega) ⟨by omega, sym_at h⟩
  refine ⟨e, ?_⟩
  unfold fromV
  rw [if_pos e]
theorem shw_UV {m : Mly} {cl : List Int} (hc : chkE m cl = 0) (hb : stpB m cl = true) (hs : m.nx.length ≤ 12) : SHW m cl (wU m cl) (wV m cl) := by
  have hk := cok_of hc
  unfold stpB at hb
  rw [if_pos hc] at hb
  obtain ⟨p, hp⟩ := Option.isSome_iff_exists.1 hb
  unfold wU wV
  rw [if_pos hc, if_pos hc, hp]
  exact shw hk hs hp
theorem shw_nil {m : Mly} {cl : List Int} (h : chkE m cl = 0 → stpB m cl = false) : wU m cl = [] ∧ wV m cl = [] := by
  unfold wU wV
  by_cases hc : chkE m cl = 0
  · have hb := h hc
    unfold stpB at hb
    rw [if_pos hc] at hb
    have hn : finI m cl = none := by cases hf : finI m cl with
      | none => rfl
      | some p => rw [hf] at hb; cases hb
    rw [if_pos hc, if_pos hc, hn]; exact ⟨rfl, rfl⟩
  · rw [if_neg hc, if_neg hc]; exact ⟨rfl, rfl⟩
theorem rep_at {n i : Nat} : (List.replicate n (0 : Int)).getD i 0 = 0 := by
  by_cases h : i < n
  · simp [List.getD, h]
  · simp [List.getD, Nat.le_of_not_lt h]
theorem map_take_succ {f : Int → Int} {w : List Int} {k : Nat} (h : k < w.length) : (w.map f).take k ++ [f (w.getD k 0)] = (w.map f).take (k + 1) := by
  rw [List.take_add_one]
  simp [List.getD, h]
end Go.AV
namespace Go.AV
open Nat (reduceEqDiff reduceAdd reduceLeDiff reduceLT reduceMul reduceSub)
open List (set_cons_zero set_cons_succ)
/-plain-/
def runLm (m : Mly) : List Int := if validE m = 0 then (nmS (togB m) m.inp.toNat).1 else []
def runNm (m : Mly) : Int := if validE m = 0 then ((nmS (togB m) m.inp.toNat).2.length : Int) else 0
end Go.AV
namespace Go.AV
open Nat (reduceEqDiff reduceAdd reduceLeDiff reduceLT reduceMul reduceSub)
open List (set_cons_zero set_cons_succ)
/-plain-/
theorem nm_iff {T : Nat → Nat → Bool} {n c d : Nat} (hT : EQT T n) (hc : c < n) (hd : d < n) : (nmS T n).1.getD c 0 = (nmS T n).1.getD d 0 ↔ T c d = true := by
  have hp := nmp hT n (Nat.le_refl _)
  obtain ⟨r1, r2, r3⟩ := nmS_rng T n
  obtain ⟨c1, c2, c3⟩ := hp.at_ c hc
  obtain ⟨d1, d2, d3⟩ := hp.at_ d hd
  have hmc := r3 _ (getD_mem (w := (nmS T n).2) (i := ((nmS T n).1.getD c 0).toNat) (by omega))
  have hmd := r3 _ (getD_mem (w := (nmS T n).2) (i := ((nmS T n).1.getD d 0).toNat) (by omega))
  constructor
  · intro e
    rw [← e] at d3
    exact hT.tr c _ d hc (by omega) hd (hT.sy _ c (by omega) hc c3) d3
  · intro h
    have h1 := hT.tr _ c d (by omega) hc hd c3 h
    have h2 := hT.tr _ d _ (by omega) hd (by omega) h1 (hT.sy _ d (by omega) hd d3)
    rcases Nat.lt_trichotomy ((nmS T n).1.getD c 0).toNat ((nmS T n).1.getD d 0).toNat with hh | hh | hh
    · have := hp.ap _ _ hh (by omega)
      rw [h2] at this; cases this
    · omega
    · have h3 := hT.sy _ _ (by omega) (by omega) h2
      have := hp.ap _ _ hh (by omega)
      rw [h3] at this; cases this
structure RUN (m : Mly) : Prop where
  len : (runLm m).length = m.inp.toNat
  ce : cntE (runLm m) = 0
  ck : cntK (runLm m) = runNm m
  eq : ∀ c d : Nat, c < m.inp.toNat → d < m.inp.toNat → ((runLm m).getD c 0 = (runLm m).getD d 0 ↔ togB m c d = true)
  ch : chkE m (runLm m) = 0
  no : stpB m (runLm m) = false
theorem fin_none {m : Mly} {cl : List Int} (hk : COK m cl) (h : ∀ c d : Nat, c < m.inp.toNat → d < m.inp.toNat → cl.getD c 0 = cl.getD d 0 → togB m c d = true) : stpB m cl = false := by
  have hlen := hk.len
  unfold stpB
  split
  · cases hf : finI m cl with
    | none => rfl
    | some p =>
      exfalso
      obtain ⟨⟨p1, p2, p3⟩, p4, p5⟩ := finI_spec hf
      unfold parS at p5
      simp only [Bool.and_eq_true, Bool.not_eq_true', decide_eq_true_eq] at p5
      have h1 := togB_iff.1 (h p.2.1 p.2.2 (by omega) (by omega) p5.1) p.1 (by rw [fstX_len]; exact p1)
      rw [fstX_at p1, p5.2] at h1
      cases h1
  · rfl
theorem runs {m : Mly} (hm : MOK m) : RUN m := by
  have hi1 := hm.i1; have hi2 := hm.i2
  have hv := validE_of hm
  have eL : runLm m = (nmS (togB m) m.inp.toNat).1 := by unfold runLm; rw [if_pos hv]
  have eN : runNm m = ((nmS (togB m) m.inp.toNat).2.length : Int) := by unfold runNm; rw [if_pos hv]
  have hc := nm_cnt (togB m) (n := m.inp.toNat) (by omega) (by omega)
  have hr := nmS_rng (togB m) m.inp.toNat
  have hq : ∀ c d : Nat, c < m.inp.toNat → d < m.inp.toNat → ((runLm m).getD c 0 = (runLm m).getD d 0 ↔ togB m c d = true) := fun c d h1 h2 => by rw [eL]; exact nm_iff (togB_eqt m _) h1 h2
  have hl : (runLm m).length = m.inp.toNat := by rw [eL]; exact hr.1
  have hce : cntE (runLm m) = 0 := by rw [eL]; exact hc.1
  have hch : chkE m (runLm m) = 0 := by
    unfold chkE
    rw [if_neg (by simp [hv]), if_neg (by simp [hce]), if_pos (by omega)]
  exact ⟨hl, hce, by rw [eL, eN]; exact hc.2, hq, hch, fin_none (cok_of hch) fun c d h1 h2 e => (hq c d h1 h2).1 e⟩
theorem run_dec {m : Mly} (h : RUN m) {c d : Nat} (hc : c < m.inp.toNat) (hd : d < m.inp.toNat) : decide ((runLm m).getD c 0 = (runLm m).getD d 0) = togB m c d := by
  have := h.eq c d hc hd
  cases ht : togB m c d with
  | true => exact decide_eq_true (this.2 ht)
  | false => exact decide_eq_false fun hh => by rw [this.1 hh] at ht; cases ht
end Go.AV
namespace Go.AV
open Nat (reduceEqDiff reduceAdd reduceLeDiff reduceLT reduceMul reduceSub)
open List (set_cons_zero set_cons_succ)
/-plain-/
/-! ### repeating Step: every step divides a class, and the end is the list of Run -/
def isN (T : Nat → Nat → Bool) (c : Nat) : Bool := (List.range c).all fun d => !T d c
theorem isN_yes {T : Nat → Nat → Bool} {c : Nat} : isN T c = true ↔ ∀ d, d < c → T d c = false := by
  unfold isN; simp [List.all_eq_true]
theorem isN_no {T : Nat → Nat → Bool} {c d : Nat} (h : d < c) (ht : T d c = true) : isN T c = false := by
  cases hc : isN T c with
  | false => rfl
  | true => rw [isN_yes.1 hc d h] at ht; cases ht
theorem nm_count {T : Nat → Nat → Bool} {n : Nat} (hT : EQT T n) : ∀ c, c ≤ n → (nmS T c).2.length = (List.range c).countP (isN T)
  | 0, _ => rfl
  | c + 1, h => by
    have ih := nm_count hT c (by omega)
    rw [List.range_succ, List.countP_append, ← ih]
    cases hc : isN T c with
    | true =>
      have := nm_new (T := T) (c := c) (isN_yes.1 hc)
      rw [nmS_new (by omega)]
      simp [hc]
    | false =>
      have : ∃ d, d < c ∧ T d c = true := by
        refine Decidable.byContradiction fun hh => ?_
        have : isN T c = true := isN_yes.2 fun d hd => by
          cases ht : T d c with
          | false => rfl
          | true => exact absurd ⟨d, hd, ht⟩ hh
        rw [hc] at this; cases this
      obtain ⟨d, hd, ht⟩ := this
      have h1 := nm_old hT (by omega) hd ht
      have h2 := ((nmp hT c (by omega)).at_ d hd).1
      rw [nmS_old (by omega)]
      simp [hc]
theorem cP_le {p q : Nat → Bool} : ∀ n, (∀ x, x < n → p x = true → q x = true) → (List.range n).countP p ≤ (List.range n).countP q
  | 0, _ => Nat.le_refl _
  | n + 1, h => by
    have ih := cP_le (p := p) (q := q) n fun x hx => h x (by omega)
    rw [List.range_succ, List.countP_append, List.countP_append]
    have : [n].countP p ≤ [n].countP q := by
      cases hp : p n with
      | false => simp [hp]
      | true => simp [hp, h n (by omega) hp]
    omega
theorem cP_lt {p q : Nat → Bool} {c : Nat} (h1 : q c = true) (h2 : p c = false) : ∀ n, (∀ x, x < n → p x = true → q x = true) → c < n → (List.range n).countP p < (List.range n).countP q
  | n + 1, h, hc => by
    rw [List.range_succ, List.countP_append, List.countP_append]
    by_cases e : c = n
    · have ih := cP_le (p := p) (q := q) n fun x hx => h x (by omega)
      subst e
      have a1 : [c].countP p = 0 := by simp [h2]
      have a2 : [c].countP q = 1 := by simp [h1]
      omega
    · have ih := cP_lt h1 h2 n (fun x hx => h x (by omega)) (by omega)
      have : [n].countP p ≤ [n].countP q := by
        cases hp : p n with
        | false => simp [hp]
        | true => simp [hp, h n (by omega) hp]
      omega
theorem lst_isN {T : Nat → Nat → Bool} {n c : Nat} (hT : EQT T n) (hc : c < n) : isN T (lst T c) = true := by
  obtain ⟨c1, c2, c3⟩ := lst_spec hT hc
  refine isN_yes.2 fun d hd => ?_
  cases ht : T d (lst T c) with
  | false => rfl
  | true =>
    have := hT.tr c _ d hc (by omega) (by omega) c2 (hT.sy d _ (by omega) (by omega) ht)
    rw [c3 d hd] at this; cases this
theorem nm_more {T U : Nat → Nat → Bool} {n a b : Nat} (hT : EQT T n) (hU : EQT U n) (hf : ∀ d c, d < n → c < n → U d c = true → T d c = true) (ha : a < n) (hb : b < n) (ht : T a b = true) (hu : U a b = false) : (nmS T n).2.length < (nmS U n).2.length := by
  rw [nm_count hT n (Nat.le_refl _), nm_count hU n (Nat.le_refl _)]
  have mono : ∀ x, x < n → isN T x = true → isN U x = true := fun x hx h => isN_yes.2 fun d hd => by
    cases hc : U d x with
    | false => rfl
    | true => have := hf d x (by omega) hx hc; rw [isN_yes.1 h d hd] at this; cases this
  obtain ⟨a1, a2, a3⟩ := lst_spec hU ha
  obtain ⟨b1, b2, b3⟩ := lst_spec hU hb
  have hne : lst U a ≠ lst U b := fun e => by
    have := (lst_iff hU hb ha).1 e; rw [hu] at this; cases this
  have ta := hf a _ ha (by omega) a2
  have tb := hf b _ hb (by omega) b2
  have tab : T (lst U a) (lst U b) = true := hT.tr _ a _ (by omega) ha (by omega) (hT.sy a _ ha (by omega) ta) (hT.tr a b _ ha hb (by omega) ht tb)
  rcases Nat.lt_or_gt_of_ne hne with hh | hh
  · exact cP_lt (c := lst U b) (lst_isN hU hb) (isN_no hh tab) n mono (by omega)
  · exact cP_lt (c := lst U a) (lst_isN hU ha) (isN_no hh (hT.sy _ _ (by omega) (by omega) tab)) n mono (by omega)
theorem cN_onto {cl : List Int} (hb : ∀ q, q < cl.length → cBad cl q = false) : ∀ k, k ≤ cl.length → ∀ v, 0 ≤ v → v < cN cl k → ∃ q, q < k ∧ cl.getD q 0 = v
  | 0, _, v, h0, h1 => by simp only [cN] at h1; omega
  | k + 1, hk, v, h0, h1 => by
    have h2 := hb k (by omega)
    simp only [cBad, Bool.or_eq_false_iff, decide_eq_false_iff_not] at h2
    simp only [cN] at h1
    by_cases e : v < cN cl k
    · obtain ⟨q, q1, q2⟩ := cN_onto hb k (by omega) v h0 e
      exact ⟨q, by omega, q2⟩
    · exact ⟨k, by omega, by omega⟩
theorem cN_up (cl : List Int) : ∀ k q, q < k → cl.getD q 0 < cN cl k
  | 0, q, h => by omega
  | k + 1, q, h => by
    simp only [cN]
    by_cases e : q = k
    · rw [e]; omega
    · have := cN_up cl k q (by omega); omega
theorem canon {cl : List Int} (hb : ∀ q, q < cl.length → cBad cl q = false) : ∀ k, k ≤ cl.length → (nmS (eqL cl) k).1 = cl.take k ∧ ((nmS (eqL cl) k).2.length : Int) = cN cl k
  | 0, _ => ⟨by simp [nmS], rfl⟩
  | k + 1, hk => by
    obtain ⟨i1, i2⟩ := canon hb k (by omega)
    have h2 := hb k (by omega)
    simp only [cBad, Bool.or_eq_false_iff, decide_eq_false_iff_not] at h2
    have ht : cl.take (k + 1) = cl.take k ++ [cl.getD k 0] := take_succ_D (by omega)
    by_cases e : cl.getD k 0 = cN cl k
    · have hn := nm_new (T := eqL cl) (c := k) fun q hq => by
        have := cN_up cl k q hq
        simp only [eqL, decide_eq_false_iff_not]; omega
      rw [nmS_new (by omega), ht, i1]
      refine ⟨by rw [i2, e], ?_⟩
      simp only [List.length_append, List.length_cons, List.length_nil, cN]; omega
    · obtain ⟨q, q1, q2⟩ := cN_onto hb k (by omega) (cl.getD k 0) (by omega) (by omega)
      have ho := nm_old (eqL_eqt cl cl.length) (c := k) (q := q) (by omega) q1 (by simp only [eqL, decide_eq_true_eq]; exact q2)
      have hq : (nmS (eqL cl) k).1.getD q 0 = cl.getD k 0 := by
        rw [i1, ← q2]; simp [List.getD, q1]
      rw [hq] at ho
      rw [nmS_old (by omega), ht, i1, ho]
      refine ⟨rfl, ?_⟩
      rw [i2]; simp only [cN]; omega
theorem cN_nn (cl : List Int) : ∀ k, 0 ≤ cN cl k
  | 0 => Int.le_refl _
  | k + 1 => by have := cN_nn cl k; simp only [cN]; omega
structure STD (m : Mly) (C : List Int) (j : Nat) : Prop where
  len : C.length = m.inp.toNat
  ce : cntE C = 0
  co : ∀ c d : Nat, c < m.inp.toNat → d < m.inp.toNat → togB m c d = true → C.getD c 0 = C.getD d 0
  ct : (j : Int) + 1 ≤ cntK C
theorem std_cok {m : Mly} (hm : MOK m) {C : List Int} {j : Nat} (h : STD m C j) : COK m C := ⟨hm, h.ce, by have := hm.i1; have := h.len; omega⟩
theorem std_zero {m : Mly} (hm : MOK m) : STD m (List.replicate m.inp.toNat 0) 0 := by
  have hi1 := hm.i1; have hi2 := hm.i2
  have hl : (List.replicate m.inp.toNat (0 : Int)).length = m.inp.toNat := List.length_replicate
  have hc : cntE (List.replicate m.inp.toNat (0 : Int)) = 0 := cntE_ok (by omega) fun k _ => cBad_no (by rw [rep_at]; omega) (by rw [rep_at]; exact cN_nn _ _)
  refine ⟨hl, hc, fun c d _ _ _ => by rw [rep_at, rep_at], ?_⟩
  unfold cntK
  rw [if_pos hc, hl]
  have := cN_up (List.replicate m.inp.toNat (0 : Int)) m.inp.toNat 0 (by omega)
  rw [rep_at] at this
  omega
theorem std_cnt {m : Mly} (hm : MOK m) {C : List Int} {j : Nat} (h : STD m C j) : cntK C = ((nmS (eqL C) C.length).2.length : Int) ∧ (nmS (eqL C) C.length).1 = C ∧ cntK C ≤ m.inp := by
  have hi1 := hm.i1
  obtain ⟨h1, h2⟩ := cntE_zero h.ce
  obtain ⟨c1, c2⟩ := canon h2 C.length (Nat.le_refl _)
  have hl := h.len
  have hcl := cN_le h2 C.length (Nat.le_refl _)
  unfold cntK
  rw [if_pos h.ce]
  exact ⟨c2.symm, by rw [c1, List.take_length], by omega⟩
theorem spl_eqt (m : Mly) (C : List Int) (p : Nat × Nat × Nat) (n : Nat) : EQT (spl m C p) n where
  rf a _ := by simp [spl, agrS]
  sy a b _ _ h := by
    simp only [spl, agrS, Bool.and_eq_true, Bool.or_eq_true, Bool.not_eq_true', decide_eq_true_eq, decide_eq_false_iff_not] at h ⊢
    obtain ⟨h1, h2⟩ := h
    refine ⟨h1.symm, ?_⟩
    rcases h2 with h2 | h2
    · exact .inl (h1 ▸ h2)
    · exact .inr ⟨h2.1.symm, h2.2.symm⟩
  tr a b c _ _ _ h g := by
    simp only [spl, agrS, Bool.and_eq_true, Bool.or_eq_true, Bool.not_eq_true', decide_eq_true_eq, decide_eq_false_iff_not] at h g ⊢
    obtain ⟨h1, h2⟩ := h
    obtain ⟨g1, g2⟩ := g
    refine ⟨h1.trans g1, ?_⟩
    rcases h2 with h2 | h2
    · exact .inl h2
    · rcases g2 with g2 | g2
      · exact .inl (by rw [h1]; exact g2)
      · exact .inr ⟨h2.1.trans g2.1, h2.2.trans g2.2⟩
theorem std_step {m : Mly} (hm : MOK m) {C : List Int} {j : Nat} (h : STD m C j) (hb : stpB m C = true) : STD m (stpL m C) (j + 1) ∧ cntK C < cntK (stpL m C) := by
  have hk := std_cok hm h
  have hi1 := hm.i1; have hi2 := hm.i2
  have hch : chkE m C = 0 := by
    unfold chkE
    rw [if_neg (by simp [validE_of hm]), if_neg (by simp [hk.ce]), if_pos hk.len]
  unfold stpB at hb
  rw [if_pos hch] at hb
  obtain ⟨p, hp⟩ := Option.isSome_iff_exists.1 hb
  have e : stpL m C = (nmS (spl m C p) m.inp.toNat).1 := by unfold stpL; rw [if_pos hch, hp]
  rw [e]
  obtain ⟨⟨p1, p2, p3⟩, p4, p5⟩ := finI_spec hp
  unfold parS at p5
  simp only [Bool.and_eq_true, Bool.not_eq_true', decide_eq_true_eq] at p5
  have hl := h.len
  have hr := nmS_rng (spl m C p) m.inp.toNat
  have hc := nm_cnt (spl m C p) (n := m.inp.toNat) (by omega) (by omega)
  obtain ⟨s1, s2, s3⟩ := std_cnt hm h
  have hmore : (nmS (eqL C) m.inp.toNat).2.length < (nmS (spl m C p) m.inp.toNat).2.length := by
    refine nm_more (a := p.2.1) (b := p.2.2) (eqL_eqt C _) (spl_eqt m C p _) (fun d c _ _ hu => ?_) (by omega) (by omega) (by simp only [eqL, decide_eq_true_eq]; exact p5.1) ?_
    · simp only [spl, Bool.and_eq_true, decide_eq_true_eq] at hu
      simp only [eqL, decide_eq_true_eq]; exact hu.1
    · unfold spl
      rw [p5.2, show decide (C.getD p.2.1 0 = C.getD p.2.1 0) = true from decide_eq_true rfl]; simp
  rw [hl] at s1
  have hlt : cntK C < cntK (nmS (spl m C p) m.inp.toNat).1 := by rw [hc.2]; omega
  refine ⟨⟨hr.1, hc.1, fun c d h1 h2 ht => ?_, by have := h.ct; omega⟩, hlt⟩
  rw [nm_iff (spl_eqt m C p _) h1 h2]
  have hq := togB_iff.1 ht p.1 (by rw [fstX_len]; exact p1)
  rw [fstX_at p1] at hq
  simp only [spl, Bool.and_eq_true, Bool.or_eq_true, decide_eq_true_eq]
  exact ⟨h.co c d h1 h2 ht, .inr hq⟩
theorem finI_none {m : Mly} {cl : List Int} (h : finI m cl = none) {i c d : Nat} (hi : i < m.exR.length) (hcd : c < d) (hd : d < cl.length) : parS m cl (m.exR.getD i eX0).1 c d = false := by
  unfold finI at h
  have h1 := List.findSome?_eq_none_iff.1 h i (by simpa using hi)
  have h2 : finC m cl (m.exR.getD i eX0).1 = none := by simpa using h1
  unfold finC at h2
  have h3 := List.findSome?_eq_none_iff.1 h2 c (by simp; omega)
  have h4 : finD m cl (m.exR.getD i eX0).1 c = none := by simpa using h3
  unfold finD at h4
  have h5 := List.find?_eq_none.1 h4 d (by simpa using hd)
  simpa [hcd] using h5
theorem std_end {m : Mly} (hm : MOK m) {C : List Int} {j : Nat} (h : STD m C j) (hb : stpB m C = false) : C = runLm m ∧ cntK C = runNm m ∧ stpL m C = C := by
  have hk := std_cok hm h
  have hi1 := hm.i1
  have hl := h.len
  have hch : chkE m C = 0 := by
    unfold chkE
    rw [if_neg (by simp [validE_of hm]), if_neg (by simp [hk.ce]), if_pos hk.len]
  unfold stpB at hb
  rw [if_pos hch] at hb
  have hn : finI m C = none := by cases hf : finI m C with
    | none => rfl
    | some p => rw [hf] at hb; cases hb
  have lt : ∀ c d : Nat, c < d → d < m.inp.toNat → C.getD c 0 = C.getD d 0 → togB m c d = true := fun c d h1 h2 e => togB_iff.2 fun k hk2 => by
    rw [fstX_len] at hk2
    have := finI_none hn (i := k) hk2 h1 (by omega)
    unfold parS at this
    rw [decide_eq_true e] at this
    rw [fstX_at hk2]
    simpa using this
  have hcon : nmS (eqL C) m.inp.toNat = nmS (togB m) m.inp.toNat := nmS_congr _ fun d q h1 h2 => by
    unfold eqL
    cases ht : togB m d q with
    | true => exact decide_eq_true (h.co d q (by omega) h2 ht)
    | false => exact decide_eq_false fun e => by rw [lt d q h1 h2 e] at ht; cases ht
  obtain ⟨s1, s2, s3⟩ := std_cnt hm h
  rw [hl] at s1 s2
  have hv := validE_of hm
  refine ⟨by unfold runLm; rw [if_pos hv, ← hcon]; exact s2.symm, by unfold runNm; rw [if_pos hv, ← hcon]; exact s1, ?_⟩
  unfold stpL
  rw [if_pos hch, hn]
theorem chk_of {m : Mly} {C : List Int} (hk : COK m C) : chkE m C = 0 := by
  unfold chkE
  rw [if_neg (by simp [validE_of hk.ok]), if_neg (by simp [hk.ce]), if_pos hk.len]
end Go.AV
namespace Go.AV
open Nat (reduceEqDiff reduceAdd reduceLeDiff reduceLT reduceMul reduceSub)
open List (set_cons_zero set_cons_succ)
/-plain-/
theorem addS_mem {l : List Int} {t x : Int} : x ∈ addS l t ↔ x ∈ l ∨ x = t := by
  unfold addS
  split
  · rename_i h
    constructor
    · exact .inl
    · rintro (h1 | rfl)
      · exact h1
      · exact h
  · simp
theorem foldS_mem {r : List Int} : ∀ {l : List Int} {x : Int}, x ∈ r.foldl addS l ↔ x ∈ l ∨ x ∈ r := by
  induction r with
  | nil => intro l x; simp
  | cons t r ih => intro l x; simp only [List.foldl_cons, ih, addS_mem, List.mem_cons]; exact or_assoc
theorem addS_pre (l : List Int) (t : Int) : ∃ k, addS l t = l ++ k := by
  unfold addS
  split
  · exact ⟨[], by simp⟩
  · exact ⟨[t], rfl⟩
theorem foldS_pre (r : List Int) : ∀ l : List Int, ∃ k, r.foldl addS l = l ++ k := by
  induction r with
  | nil => intro l; exact ⟨[], by simp⟩
  | cons t r ih =>
    intro l
    obtain ⟨k1, h1⟩ := addS_pre l t
    obtain ⟨k2, h2⟩ := ih (addS l t)
    exact ⟨k1 ++ k2, by simp only [List.foldl_cons]; rw [h2, h1, List.append_assoc]⟩
theorem rf_pre (m : Mly) : ∀ (f i : Nat) (l : List Int), ∃ k, m.rf f i l = l ++ k
  | 0, i, l => ⟨[], by simp [Mly.rf]⟩
  | f + 1, i, l => by
    simp only [Mly.rf]
    split
    · obtain ⟨k1, h1⟩ := foldS_pre (m.row (l.getD i 0)) l
      obtain ⟨k2, h2⟩ := rf_pre m f (i + 1) ((m.row (l.getD i 0)).foldl addS l)
      exact ⟨k1 ++ k2, by rw [h2, h1, List.append_assoc]⟩
    · exact ⟨[], by simp⟩
theorem getD_pre {l k : List Int} {i : Nat} (h : i < l.length) : (l ++ k).getD i 0 = l.getD i 0 := by
  simp [List.getD, List.getElem?_append_left h]

/-- What is reached is closed. -/
theorem rf_closed {m : Mly} (hm : MOK m) : ∀ (f i : Nat) (l : List Int), RSet m.nx.length l → m.nx.length ≤ f + i → (∀ j, j < i → j < l.length → ∀ x, x ∈ m.row (l.getD j 0) → x ∈ l) →
    ∀ j, j < (m.rf f i l).length → ∀ x, x ∈ m.row ((m.rf f i l).getD j 0) → x ∈ m.rf f i l
  | 0, i, l, hl, hf, hc => by
    have := hl.len
    intro j hj
    simp only [Mly.rf] at *
    exact hc j (by omega) hj
  | f + 1, i, l, hl, hf, hc => by
    simp only [Mly.rf]
    split
    · rename_i hi
      have hr := hl.at_ hi
      refine rf_closed hm f (i + 1) _ (hl.fold (row_rng hm hr.1 hr.2)) (by omega) fun j hj hjl x hx => ?_
      obtain ⟨k, hk⟩ := foldS_pre (m.row (l.getD i 0)) l
      rw [foldS_mem]
      by_cases e : j = i
      · subst e
        rw [hk, getD_pre hi] at hx
        exact .inr hx
      · have hjl2 : j < l.length := by omega
        rw [hk, getD_pre hjl2] at hx
        exact .inl (hc j (by omega) hjl2 x hx)
    · rename_i hi
      intro j hj
      exact hc j (by omega) hj
theorem reach_closed {m : Mly} (hm : MOK m) {s : Int} (hs : s ∈ m.reach) {x : Int} (hx : x ∈ m.row s) : x ∈ m.reach := by
  rw [reach_ok (validE_of hm)] at hs ⊢
  obtain ⟨j, hj⟩ := List.getElem?_of_mem hs
  have hjl := (List.getElem?_eq_some_iff.1 hj).1
  have e : (m.rf (m.nx.length + 1) 0 [m.st]).getD j 0 = s := by simp [List.getD, hj]
  exact rf_closed hm _ _ _ (rset_one hm) (by omega) (fun j hj => by omega) j hjl x (by rw [e]; exact hx)
theorem reach_st {m : Mly} (hm : MOK m) : ∃ k, m.reach = m.st :: k := by
  rw [reach_ok (validE_of hm)]
  obtain ⟨k, hk⟩ := rf_pre m (m.nx.length + 1) 0 [m.st]
  exact ⟨k, by rw [hk]; rfl⟩

/-- More fuel changes nothing. -/
theorem rf_fuel {m : Mly} (hm : MOK m) : ∀ (f i : Nat) (l : List Int), RSet m.nx.length l → m.nx.length ≤ f + i → ∀ g, f ≤ g → m.rf g i l = m.rf f i l
  | 0, i, l, hl, hf, g, hg => by
    have := hl.len
    rw [rf_end m g i l (by omega), rf_end m 0 i l (by omega)]
  | f + 1, i, l, hl, hf, g, hg => by
    obtain ⟨g, rfl⟩ : ∃ g', g = g' + 1 := ⟨g - 1, by omega⟩
    simp only [Mly.rf]
    split
    · rename_i hi
      have hr := hl.at_ hi
      exact rf_fuel hm f (i + 1) _ (hl.fold (row_rng hm hr.1 hr.2)) (by omega) g (by omega)
    · rfl

/-! ### the numbers -/
theorem getD_set_same {xs : List Int} {i : Nat} (h : i < xs.length) (v : Int) : (xs.set i v).getD i 0 = v := by simp [List.getD, h]
theorem getD_set_ne {xs : List Int} {i j : Nat} (h : i ≠ j) (v : Int) : (xs.set i v).getD j 0 = xs.getD j 0 := by simp [List.getD, List.getElem?_set_ne h]
theorem nodup_getD {l : List Int} (h : l.Nodup) {i j : Nat} (hi : i < l.length) (hj : j < l.length) (e : l.getD i 0 = l.getD j 0) : i = j := by
  simp [List.getD, hi, hj] at e
  exact (List.getElem_inj h).1 e
theorem numF_at {n : Nat} {l : List Int} (h : RSet n l) : ∀ k, k ≤ l.length → ∀ i, i < k → (numF n l k).getD (l.getD i 0).toNat 0 = i
  | 0, _, i, hi => by omega
  | k + 1, hk, i, hi => by
    simp only [numF]
    have hk1 := h.at_ (i := k) (by omega)
    by_cases e : i = k
    · subst e
      exact getD_set_same (by rw [numF_len]; omega) _
    · have hi1 := h.at_ (i := i) (by omega)
      rw [getD_set_ne]
      · exact numF_at h k (by omega) i (by omega)
      · intro e2
        have := nodup_getD h.nd (i := k) (j := i) (by omega) (by omega) (by omega)
        omega
/-- The number of a state. -/
def Mly.ix (m : Mly) (s : Int) : Int := m.num.getD s.toNat 0
theorem ix_at {m : Mly} (hm : MOK m) {i : Nat} (hi : i < m.reach.length) : m.ix (m.reach.getD i 0) = i := numF_at (rset_reach hm) _ (Nat.le_refl _) i hi
theorem mem_at {l : List Int} {s : Int} (h : s ∈ l) : ∃ i, i < l.length ∧ l.getD i 0 = s := by
  obtain ⟨i, hi⟩ := List.getElem?_of_mem h
  exact ⟨i, (List.getElem?_eq_some_iff.1 hi).1, by simp [List.getD, hi]⟩
theorem ix_rng {m : Mly} (hm : MOK m) {s : Int} (hs : s ∈ m.reach) : 0 ≤ m.ix s ∧ m.ix s < m.reach.length := by
  obtain ⟨i, hi, rfl⟩ := mem_at hs
  rw [ix_at hm hi]; omega
theorem at_ix {m : Mly} (hm : MOK m) {s : Int} (hs : s ∈ m.reach) : m.reach.getD (m.ix s).toNat 0 = s := by
  obtain ⟨i, hi, rfl⟩ := mem_at hs
  rw [ix_at hm hi]; simp
theorem ix_inj {m : Mly} (hm : MOK m) {s t : Int} (hs : s ∈ m.reach) (ht : t ∈ m.reach) (e : m.ix s = m.ix t) : s = t := by
  rw [← at_ix hm hs, ← at_ix hm ht, e]
theorem map_ix {m : Mly} (hm : MOK m) : m.reach.map m.ix = (List.range m.reach.length).map (fun (i : Nat) => (i : Int)) := by
  apply List.ext_getElem
  · simp
  · intro i h1 h2
    simp only [List.length_map] at h1
    have := ix_at hm h1
    simp [List.getD, h1] at this
    simp [this]

/-! ### the trimmed machine -/
def Mly.T (m : Mly) : Mly := ⟨m.inp, 0, m.tnx, m.tot⟩
theorem T_len (m : Mly) : m.T.nx.length = m.reach.length := by simp [Mly.T, Mly.tnx]
theorem reach_pos {m : Mly} (hm : MOK m) : 1 ≤ m.reach.length := by
  obtain ⟨k, hk⟩ := reach_st hm
  rw [hk]; simp
theorem getD_map {α β : Type} (f : α → β) {l : List α} {i : Nat} (d : α) (e : β) (h : i < l.length) : (l.map f).getD i e = f (l.getD i d) := by simp [List.getD, h]
theorem T_row {m : Mly} {i : Nat} (hi : i < m.reach.length) : m.T.nx.getD i [] = (m.row (m.reach.getD i 0)).map m.ix := by
  show m.tnx.getD i [] = _
  unfold Mly.tnx
  rw [getD_map _ 0 _ hi]; rfl
theorem T_out {m : Mly} {i : Nat} (hi : i < m.reach.length) : m.T.ot.getD i [] = m.ot.getD (m.reach.getD i 0).toNat [] := by
  show m.tot.getD i [] = _
  unfold Mly.tot
  rw [getD_map _ 0 _ hi]
theorem T_ok {m : Mly} (hm : MOK m) : MOK m.T := by
  have hR := rset_reach hm
  have hl := hR.len
  have hp := reach_pos hm
  have hT := T_len m
  have hn2 := hm.n2
  have htl : m.T.ot.length = m.reach.length := by simp [Mly.T, Mly.tot]
  refine ⟨hm.i1, hm.i2, by omega, by omega, Int.le_refl 0, by show (0 : Int) < _; omega, by omega, fun s hs => ?_, fun s hs => ?_, fun s a hs ha => ?_, fun s a hs ha => ?_⟩
  · rw [T_row (by omega)]
    have := hR.at_ (i := s) (by omega)
    have h1 := hm.rl (m.reach.getD s 0).toNat (by omega)
    rw [List.length_map]; exact h1
  · rw [T_out (by omega)]
    have := hR.at_ (i := s) (by omega)
    exact hm.ql (m.reach.getD s 0).toNat (by omega)
  · have h0 := hR.at_ (i := s) (by omega)
    have h1 : ((m.row (m.reach.getD s 0)).length : Int) = m.inp := hm.rl (m.reach.getD s 0).toNat (by omega)
    have ha' : (a : Int) < m.inp := ha
    rw [T_row (by omega), getD_map m.ix 0 0 (by omega)]
    have hmem := reach_closed hm (s := m.reach.getD s 0) (getD_mem (by omega)) (x := (m.row (m.reach.getD s 0)).getD a 0) (getD_mem (by omega))
    have := ix_rng hm hmem
    omega
  · rw [T_out (by omega)]
    have := hR.at_ (i := s) (by omega)
    exact hm.or (m.reach.getD s 0).toNat a (by omega) ha
theorem foldS_map {f : Int → Int} {R : List Int} (hf : ∀ x y, x ∈ R → y ∈ R → f x = f y → x = y) : ∀ (r l : List Int), (∀ x, x ∈ r → x ∈ R) → (∀ x, x ∈ l → x ∈ R) → (r.map f).foldl addS (l.map f) = (r.foldl addS l).map f
  | [], l, _, _ => rfl
  | t :: r, l, hr, hl => by
    simp only [List.map_cons, List.foldl_cons]
    have ht := hr t (by simp)
    have e : addS (l.map f) (f t) = (addS l t).map f := by
      by_cases h : t ∈ l
      · rw [addS_in h, addS_in (List.mem_map.2 ⟨t, h, rfl⟩)]
      · rw [addS_out h, addS_out, List.map_append]
        · rfl
        · intro hh
          obtain ⟨x, hx, e⟩ := List.mem_map.1 hh
          exact h (hf x t (hl x hx) ht e ▸ hx)
    rw [e]
    exact foldS_map hf r (addS l t) (fun x hx => hr x (by simp [hx])) (fun x hx => by
      rcases addS_mem.1 hx with h | rfl
      · exact hl x h
      · exact ht)
theorem rf_map {m : Mly} (hm : MOK m) : ∀ (f i : Nat) (l : List Int), (∀ x, x ∈ l → x ∈ m.reach) → m.T.rf f i (l.map m.ix) = (m.rf f i l).map m.ix
  | 0, i, l, _ => rfl
  | f + 1, i, l, hl => by
    simp only [Mly.rf, List.length_map]
    split
    · rename_i hi
      have hx := hl (l.getD i 0) (getD_mem hi)
      have e : m.T.row ((l.map m.ix).getD i 0) = (m.row (l.getD i 0)).map m.ix := by
        rw [getD_map m.ix 0 0 hi]
        have h1 := ix_rng hm hx
        show m.T.nx.getD (m.ix (l.getD i 0)).toNat [] = _
        rw [T_row (by omega), at_ix hm hx]
      rw [e, foldS_map (R := m.reach) (fun x y hx hy e => ix_inj hm hx hy e) _ _ (fun x hx' => reach_closed hm hx hx') hl]
      exact rf_map hm f (i + 1) _ (fun x hx' => by
        rcases foldS_mem.1 hx' with h | h
        · exact hl x h
        · exact reach_closed hm hx h)
    · rfl
theorem ix_st {m : Mly} (hm : MOK m) : m.ix m.st = 0 := by
  obtain ⟨k, hk⟩ := reach_st hm
  have := ix_at hm (i := 0) (reach_pos hm)
  rw [hk] at this
  exact this
theorem T_reach {m : Mly} (hm : MOK m) : m.T.reach = (List.range m.reach.length).map (fun (i : Nat) => (i : Int)) := by
  rw [reach_ok (validE_of (T_ok hm)), ← map_ix hm, T_len]
  have e : ([m.T.st] : List Int) = [m.st].map m.ix := by simp [Mly.T, ix_st hm]
  rw [e, rf_map hm _ _ _ (fun x hx => by
    obtain ⟨k, hk⟩ := reach_st hm
    simp at hx; subst hx; rw [hk]; simp)]
  congr 1
  rw [reach_ok (validE_of hm)]
  have hl := (rset_reach hm).len
  have h1 := (T_ok hm)
  -- both have enough fuel
  rw [← reach_ok (validE_of hm)]
  have key : ∀ (f i : Nat) (l : List Int), (∀ x, x ∈ m.rf f i l → x ∈ m.reach) → RSet m.nx.length l → m.nx.length ≤ f + i → ∀ g, m.reach.length ≤ g + i → m.rf g i l = m.rf f i l := by
    intro f
    induction f with
    | zero =>
      intro i l _ hl hf g hg
      have := hl.len
      rw [rf_end m g i l (by omega), rf_end m 0 i l (by omega)]
    | succ f ih =>
      intro i l hsub hl hf g hg
      by_cases hi : i < l.length
      · cases g with
        | zero =>
          -- i < l.length ≤ reach.length ≤ i
          exfalso
          obtain ⟨k, hk⟩ := rf_pre m (f + 1) i l
          have h2 : l.length ≤ m.reach.length := by
            have hnd : l.Nodup := hl.nd
            have hsub2 : ∀ x, x ∈ l → x ∈ m.reach := fun x hx => hsub x (by rw [hk]; simp [hx])
            exact nodup_sub l m.reach hnd hsub2
          omega
        | succ g =>
          rw [rf_step m g i l hi, rf_step m f i l hi]
          have hr := hl.at_ hi
          refine ih (i + 1) _ (fun x hx => hsub x (by rw [rf_step m f i l hi]; exact hx)) (hl.fold (row_rng hm hr.1 hr.2)) (by omega) g (by omega)
      · rw [rf_end m g i l (by omega), rf_end m (f + 1) i l (by omega)]
  rw [key (m.nx.length + 1) 0 [m.st] (fun x hx => by rw [reach_ok (validE_of hm)]; exact hx) (rset_one hm) (by omega) (m.reach.length + 1) (by omega)]
  exact (reach_ok (validE_of hm)).symm
theorem T_T {m : Mly} (hm : MOK m) : m.T.T = m.T := by
  have hr := T_reach hm
  have hT := T_ok hm
  have hlen : m.T.reach.length = m.reach.length := by rw [hr]; simp
  have hat : ∀ i, i < m.reach.length → m.T.reach.getD i 0 = i := fun i hi => by rw [hr, getD_map _ 0 _ (by simpa using hi)]; simp [List.getD, hi]
  have hix : ∀ x, x ∈ m.T.reach → m.T.ix x = x := by
    intro x hx
    obtain ⟨i, hi, rfl⟩ := mem_at hx
    rw [ix_at hT hi, hat i (by omega)]
  have e1 : m.T.tnx = m.tnx := by
    apply List.ext_getElem
    · simp [Mly.tnx, hlen]
    · intro i h1 h2
      have hi : i < m.reach.length := by simpa [Mly.tnx] using h2
      have a1 := T_row (m := m.T) (i := i) (by omega)
      have a2 : m.T.T.nx.getD i [] = m.T.tnx[i] := by show m.T.tnx.getD i [] = _; simp [List.getD, h1]
      have a3 : m.T.nx.getD i [] = m.tnx[i] := by show m.tnx.getD i [] = _; simp [List.getD, h2]
      rw [← a2, ← a3, a1, hat i hi]
      have e : m.T.row (i : Int) = m.T.nx.getD i [] := rfl
      rw [e]
      have : ∀ x, x ∈ m.T.nx.getD i [] → m.T.ix x = x := fun x hx => by
        refine hix x (reach_closed hT (s := (i : Int)) ?_ hx)
        have := hat i hi
        rw [← this]
        exact getD_mem (by omega)
      conv => rhs; rw [← List.map_id (m.T.nx.getD i [])]
      exact List.map_congr_left this
  have e2 : m.T.tot = m.tot := by
    apply List.ext_getElem
    · simp [Mly.tot, hlen]
    · intro i h1 h2
      have hi : i < m.reach.length := by simpa [Mly.tot] using h2
      have a1 := T_out (m := m.T) (i := i) (by omega)
      have a2 : m.T.T.ot.getD i [] = m.T.tot[i] := by show m.T.tot.getD i [] = _; simp [List.getD, h1]
      have a3 : m.T.ot.getD i [] = m.tot[i] := by show m.tot.getD i [] = _; simp [List.getD, h2]
      rw [← a2, ← a3, a1, hat i hi]; rfl
  show (⟨m.inp, 0, m.T.tnx, m.T.tot⟩ : Mly) = ⟨m.inp, 0, m.tnx, m.tot⟩
  rw [e1, e2]
theorem trim_T {m : Mly} (h : validE m = 0) : m.trim = m.T := trim_ok h

/-- Both run alike. -/
theorem T_go {m : Mly} (hm : MOK m) {s : Int} (hs : s ∈ m.reach) : ∀ (w : List Int), (∀ i : Nat, i < w.length → 0 ≤ w.getD i 0 ∧ w.getD i 0 < m.inp) →
    (m.go s w).1 ∈ m.reach ∧ (m.T.go (m.ix s) w).1 = m.ix (m.go s w).1 ∧ (m.T.go (m.ix s) w).2 = (m.go s w).2 := by
  intro w hw
  have key : ∀ k, k ≤ w.length → (m.go s (w.take k)).1 ∈ m.reach ∧ (m.T.go (m.ix s) (w.take k)).1 = m.ix (m.go s (w.take k)).1 ∧ (m.T.go (m.ix s) (w.take k)).2 = (m.go s (w.take k)).2 := by
    intro k
    induction k with
    | zero => intro _; exact ⟨by simpa [go_nil] using hs, rfl, rfl⟩
    | succ k ih =>
      intro hk
      obtain ⟨h1, h2, h3⟩ := ih (by omega)
      have ha := hw k (by omega)
      rw [go_succ m s (by omega), go_succ m.T _ (by omega), h2, h3]
      have hx := ix_rng hm h1
      have hR := (rset_reach hm).rng _ h1
      have hrl : ((m.row (m.go s (w.take k)).1).length : Int) = m.inp := hm.rl _ (by omega)
      have e1 : m.T.nxt (m.ix (m.go s (w.take k)).1) (w.getD k 0) = m.ix (m.nxt (m.go s (w.take k)).1 (w.getD k 0)) := by
        show (m.T.nx.getD _ []).getD _ 0 = _
        rw [T_row (by omega), at_ix hm h1, getD_map m.ix 0 0 (by omega)]; rfl
      have e2 : m.T.out (m.ix (m.go s (w.take k)).1) (w.getD k 0) = m.out (m.go s (w.take k)).1 (w.getD k 0) := by
        show (m.T.ot.getD _ []).getD _ 0 = _
        rw [T_out (by omega), at_ix hm h1]; rfl
      refine ⟨reach_closed hm h1 (getD_mem (by omega)), e1, ?_⟩
      show _ ++ [_] = _ ++ [_]
      rw [e2]
  have := key w.length (Nat.le_refl _)
  rwa [List.take_length] at this
theorem T_from {m : Mly} (hv : validE m = 0) (w : List Int) : fromE m.T m.T.st w = fromE m m.st w ∧ fromV m.T m.T.st w = fromV m m.st w := by
  have hm := mok_of hv
  have hT := T_ok hm
  have e1 : fromE m m.st w = wordE w m.inp := fromE_w hv (by have := hm.s1; have := hm.s2; omega)
  have e2 : fromE m.T m.T.st w = wordE w m.inp := fromE_w (validE_of hT) (by have := hT.s1; have := hT.s2; omega)
  refine ⟨e2.trans e1.symm, ?_⟩
  unfold fromV
  rw [e1, e2]
  split
  · rename_i hw
    have hwk := wok_of hw
    obtain ⟨k, hk⟩ := reach_st hm
    have := (T_go hm (s := m.st) (by rw [hk]; simp) w hwk.sym).2.2
    rw [ix_st hm] at this
    exact this
  · rfl

theorem trim_facts {m : Mly} (h : validE m = 0) (w : List Int) : validE m.trim = 0 ∧ mlySame m.trim.trim m.trim = true ∧ fromE m.trim m.trim.st w = fromE m m.st w ∧ fromV m.trim m.trim.st w = fromV m m.st w ∧ m.trim.reach.length = m.reach.length ∧ m.trim.nx.length = m.reach.length ∧ m.trim.st = 0 ∧
    ∀ k, k < m.reach.length → m.trim.reach.getD k 0 = k := by
  have hm := mok_of h
  have e := trim_T h
  rw [e]
  have hT := validE_of (T_ok hm)
  have e2 : m.T.trim = m.T := by rw [trim_T hT, T_T hm]
  have h3 := T_from h w
  refine ⟨hT, by rw [e2]; simp [mlySame], h3.1, h3.2, by rw [T_reach hm]; simp, T_len m, rfl, fun k hk => ?_⟩
  rw [T_reach hm, getD_map _ 0 _ (by simpa using hk)]; simp [List.getD, hk]
theorem trim_nil {m : Mly} (h : ¬ validE m = 0) : m.trim.nx = [] := by rw [trim_bad h]
end Go.AV
namespace Go.AV
open Nat (reduceEqDiff reduceAdd reduceLeDiff reduceLT reduceMul reduceSub)
open List (set_cons_zero set_cons_succ)
/-plain-/
/-! ### the machine over the classes of equivalent states -/
theorem nextL_can (m : Mly) (cl : List Int) : ∀ k, k ≤ m.nx.length → cN (m.nextL cl) k = ((difs (m.sig cl) k).length : Int) ∧ ∀ q, q < k → cBad (m.nextL cl) q = false
  | 0, _ => ⟨by simp [cN, difs], fun q h => by omega⟩
  | k + 1, h => by
    obtain ⟨i1, i2⟩ := nextL_can m cl k (by omega)
    have hv := nextL_at (cl := cl) (s := k) (by omega : k < m.nx.length)
    by_cases hs : m.sig cl k ∈ difs (m.sig cl) k
    · have h1 := next_old (cl := cl) (by omega : k < m.nx.length) hs
      have h2 := pos_lt hs
      rw [h1] at hv
      refine ⟨?_, fun q hq => ?_⟩
      · rw [difs_succ, addG_in hs]; simp only [cN]; omega
      · by_cases e : q = k
        · subst e; exact cBad_no (by omega) (by omega)
        · exact i2 q (by omega)
    · have h1 := next_new (cl := cl) (by omega : k < m.nx.length) hs
      rw [h1] at hv
      refine ⟨?_, fun q hq => ?_⟩
      · rw [difs_succ, addG_out hs, List.length_append]; simp only [cN, List.length_cons, List.length_nil]; omega
      · by_cases e : q = k
        · subst e; exact cBad_no (by omega) (by omega)
        · exact i2 q (by omega)
theorem eqc_can {m : Mly} (hm : MOK m) : ∀ q, q < m.eqc.length → cBad m.eqc q = false := by
  obtain ⟨j, h1, h2, h3⟩ := eqc_stop hm
  rw [h1, cls_len]
  cases j with
  | zero => exact fun q hq => cBad_no (by show 0 ≤ (List.replicate _ (0 : Int)).getD q 0; rw [rep_at]; omega) (by show (List.replicate _ (0 : Int)).getD q 0 ≤ _; rw [rep_at]; exact cN_nn _ _)
  | succ i => exact (nextL_can m (m.cls i) m.nx.length (Nat.le_refl _)).2
def repL (c : List Int) (k : Nat) : List Nat := (List.range k).filter fun s => decide (c.getD s 0 = cN c s)
theorem repL_new {c : List Int} {k : Nat} (h : c.getD k 0 = cN c k) : repL c (k + 1) = repL c k ++ [k] := by
  unfold repL; rw [List.range_succ, List.filter_append]; simp only [List.filter_cons, List.filter_nil, h, decide_true, if_true]
theorem repL_old {c : List Int} {k : Nat} (h : ¬ c.getD k 0 = cN c k) : repL c (k + 1) = repL c k := by
  unfold repL; rw [List.range_succ, List.filter_append]; simp only [List.filter_cons, List.filter_nil, decide_eq_false h, Bool.false_eq_true, if_false, List.append_nil]
structure REP (c : List Int) (k : Nat) : Prop where
  len : ((repL c k).length : Int) = cN c k
  at_ : ∀ r, r < (repL c k).length → (repL c k).getD r 0 < k ∧ c.getD ((repL c k).getD r 0) 0 = r
theorem getDN_left {xs ys : List Nat} {i : Nat} (h : i < xs.length) : (xs ++ ys).getD i 0 = xs.getD i 0 := by simp [List.getD, List.getElem?_append_left h]
theorem rep_ok {c : List Int} (hb : ∀ q, q < c.length → cBad c q = false) : ∀ k, k ≤ c.length → REP c k
  | 0, _ => ⟨rfl, fun r h => by simp [repL] at h⟩
  | k + 1, h => by
    have ih := rep_ok hb k (by omega)
    have h1 := hb k (by omega)
    simp only [cBad, Bool.or_eq_false_iff, decide_eq_false_iff_not] at h1
    have hl := ih.len
    by_cases e : c.getD k 0 = cN c k
    · rw [show REP c (k + 1) = REP c (k + 1) from rfl]
      refine ⟨?_, fun r hr => ?_⟩
      · rw [repL_new e, List.length_append]; simp only [List.length_cons, List.length_nil, cN]; omega
      · rw [repL_new e] at hr ⊢
        rw [List.length_append] at hr; simp only [List.length_cons, List.length_nil] at hr
        by_cases e2 : r = (repL c k).length
        · have : (repL c k ++ [k]).getD r 0 = k := by subst e2; simp [List.getD]
          rw [this]; exact ⟨by omega, by omega⟩
        · rw [getDN_left (by omega)]
          have := ih.at_ r (by omega)
          exact ⟨by omega, this.2⟩
    · refine ⟨?_, fun r hr => ?_⟩
      · rw [repL_old e]; simp only [cN]; omega
      · rw [repL_old e] at hr ⊢
        have := ih.at_ r hr
        exact ⟨by omega, this.2⟩
def Mly.f (t : Mly) (x : Int) : Int := t.eqc.getD x.toNat 0
def Mly.reps (t : Mly) : List Nat := repL t.eqc t.nx.length
def Mly.qm (t : Mly) : Mly := ⟨t.inp, 0, t.reps.map (fun s => (t.nx.getD s []).map t.f), t.reps.map fun s => t.ot.getD s []⟩
theorem reps_ok {t : Mly} (ht : MOK t) : REP t.eqc t.nx.length := by
  have hl := (eqc_stab ht).len
  have := rep_ok (eqc_can ht) t.nx.length (by omega)
  exact this
theorem q_len (t : Mly) : t.qm.nx.length = t.reps.length := by simp [Mly.qm]
theorem q_row {t : Mly} {r : Nat} (h : r < t.reps.length) : t.qm.nx.getD r [] = (t.nx.getD (t.reps.getD r 0) []).map t.f := by
  show (t.reps.map _).getD r [] = _
  rw [getD_map _ 0 _ h]
theorem q_out {t : Mly} {r : Nat} (h : r < t.reps.length) : t.qm.ot.getD r [] = t.ot.getD (t.reps.getD r 0) [] := by
  show (t.reps.map _).getD r [] = _
  rw [getD_map _ 0 _ h]
theorem f_rng {t : Mly} (ht : MOK t) {s : Int} (h0 : 0 ≤ s) (h1 : s < t.nx.length) : 0 ≤ t.f s ∧ t.f s < t.reps.length := by
  have hl := (reps_ok ht).len
  have := cN_up t.eqc t.nx.length s.toNat (by omega)
  have h2 := (eqc_stab ht).rng s.toNat (by omega)
  unfold Mly.f Mly.reps
  omega
theorem rep_f {t : Mly} (ht : MOK t) {s : Int} (h0 : 0 ≤ s) (h1 : s < t.nx.length) : t.reps.getD (t.f s).toNat 0 < t.nx.length ∧ t.f (t.reps.getD (t.f s).toNat 0 : Nat) = t.f s := by
  have hf := f_rng ht h0 h1
  have := (reps_ok ht).at_ (t.f s).toNat (by have := hf.2; unfold Mly.reps at this; omega)
  refine ⟨this.1, ?_⟩
  show t.eqc.getD ((t.reps.getD (t.f s).toNat 0 : Nat) : Int).toNat 0 = _
  rw [Int.toNat_natCast]
  have h2 := this.2
  unfold Mly.reps
  rw [h2]; omega
theorem q_ok {t : Mly} (ht : MOK t) : MOK t.qm := by
  have hq := q_len t
  have hr := reps_ok ht
  have hn1 := ht.n1; have hn2 := ht.n2
  have h0 := f_rng ht (s := 0) (by omega) (by omega)
  have hle : t.reps.length ≤ t.nx.length := by
    unfold Mly.reps repL
    exact Nat.le_trans (List.length_filter_le _ _) (by simp)
  have hol : t.qm.ot.length = t.reps.length := by simp [Mly.qm]
  have hat : ∀ r, r < t.reps.length → t.reps.getD r 0 < t.nx.length := fun r h => (hr.at_ r h).1
  refine ⟨ht.i1, ht.i2, by omega, by omega, Int.le_refl 0, by show (0 : Int) < _; omega, by omega, fun s hs => ?_, fun s hs => ?_, fun s a hs ha => ?_, fun s a hs ha => ?_⟩
  · rw [q_row (by omega), List.length_map]
    exact ht.rl _ (hat s (by omega))
  · rw [q_out (by omega)]
    exact ht.ql _ (hat s (by omega))
  · have ha' : (a : Int) < t.inp := ha
    have h1 := ht.rl _ (hat s (by omega))
    rw [q_row (by omega), getD_map t.f 0 0 (by omega)]
    have h2 := ht.nr _ a (hat s (by omega)) ha'
    have := f_rng ht h2.1 h2.2
    omega
  · rw [q_out (by omega)]
    exact ht.or _ a (hat s (by omega)) ha
/-- One step of both. -/
theorem q_step {t : Mly} (ht : MOK t) {s a : Int} (h0 : 0 ≤ s) (h1 : s < t.nx.length) (ha : 0 ≤ a ∧ a < t.inp) : t.qm.out (t.f s) a = t.out s a ∧ t.qm.nxt (t.f s) a = t.f (t.nxt s a) := by
  have hf := f_rng ht h0 h1
  obtain ⟨r1, r2⟩ := rep_f ht h0 h1
  have e : t.eqc.getD (t.reps.getD (t.f s).toNat 0) 0 = t.eqc.getD s.toNat 0 := by
    have := r2
    unfold Mly.f at this
    rw [Int.toNat_natCast] at this
    exact this
  have hst := (eqc_stab ht).step _ s.toNat r1 (by omega) e a.toNat (by omega)
  have hrl := ht.rl _ r1
  constructor
  · show (t.qm.ot.getD (t.f s).toNat []).getD a.toNat 0 = _
    rw [q_out (by omega), hst.1]; rfl
  · show (t.qm.nx.getD (t.f s).toNat []).getD a.toNat 0 = _
    rw [q_row (by omega), getD_map t.f 0 0 (by omega)]
    exact hst.2
theorem q_go {t : Mly} (ht : MOK t) : ∀ (w : List Int) (s : Int), 0 ≤ s → s < t.nx.length → (∀ i : Nat, i < w.length → 0 ≤ w.getD i 0 ∧ w.getD i 0 < t.inp) → (t.qm.go (t.f s) w).2 = (t.go s w).2
  | [], s, _, _, _ => rfl
  | a :: w, s, h0, h1, hw => by
    obtain ⟨ha, hw2⟩ := syms_tail hw
    obtain ⟨e1, e2⟩ := q_step ht h0 h1 ha
    rw [go_cons, go_cons, e1, e2]
    have hn := ht.nr s.toNat a.toNat (by omega) (by omega)
    have := q_go ht w (t.nxt s a) hn.1 hn.2 hw2
    rw [this]
theorem q_ds {t : Mly} (ht : MOK t) : ∀ i j : Int, 0 ≤ i → i < t.qm.nx.length → 0 ≤ j → j < t.qm.nx.length → EQV t.qm i j → i = j := by
  intro i j i0 i1 j0 j1 h
  have hq := q_len t
  have ri := (reps_ok ht).at_ i.toNat (by unfold Mly.reps at hq; omega)
  have rj := (reps_ok ht).at_ j.toNat (by unfold Mly.reps at hq; omega)
  have fi : t.f (((repL t.eqc t.nx.length).getD i.toNat 0 : Nat) : Int) = i := by unfold Mly.f; rw [Int.toNat_natCast, ri.2]; omega
  have fj : t.f (((repL t.eqc t.nx.length).getD j.toNat 0 : Nat) : Int) = j := by unfold Mly.f; rw [Int.toNat_natCast, rj.2]; omega
  have hv : EQV t (((repL t.eqc t.nx.length).getD i.toNat 0 : Nat) : Int) (((repL t.eqc t.nx.length).getD j.toNat 0 : Nat) : Int) := fun w hw => by
    have g1 := q_go ht w (((repL t.eqc t.nx.length).getD i.toNat 0 : Nat) : Int) (Int.natCast_nonneg _) (by have := ri.1; omega) hw
    have g2 := q_go ht w (((repL t.eqc t.nx.length).getD j.toNat 0 : Nat) : Int) (Int.natCast_nonneg _) (by have := rj.1; omega) hw
    rw [fi] at g1; rw [fj] at g2
    rw [← g1, ← g2]
    exact h w hw
  have := (eqc_iff ht (Int.natCast_nonneg _) (by have := ri.1; omega) (Int.natCast_nonneg _) (by have := rj.1; omega)).2 hv
  rw [← fi, ← fj]; exact this
end Go.AV
namespace Go.AV
open Nat (reduceEqDiff reduceAdd reduceLeDiff reduceLT reduceMul reduceSub)
open List (set_cons_zero set_cons_succ)
/-plain-/
/-! ### canonical machines: numbered in the order of their access words, and no two states equivalent -/
theorem getD_get {l : List Int} {i : Nat} (h : i < l.length) : l.getD i 0 = l[i] := by simp [List.getD, h]
def rgI (n : Nat) : List Int := (List.range n).map fun (i : Nat) => (i : Int)
theorem rgI_len (n : Nat) : (rgI n).length = n := by simp [rgI]
theorem rgI_at {n i : Nat} (h : i < n) : (rgI n).getD i 0 = (i : Int) := by simp [rgI, List.getD, h]
theorem rgI_mem {n : Nat} {x : Int} : x ∈ rgI n ↔ 0 ≤ x ∧ x < n := by
  unfold rgI
  rw [List.mem_map]
  constructor
  · rintro ⟨i, hi, rfl⟩
    have := List.mem_range.1 hi; omega
  · intro h
    exact ⟨x.toNat, List.mem_range.2 (by omega), by omega⟩
theorem rgI_succ (n : Nat) : rgI (n + 1) = rgI n ++ [(n : Int)] := by simp [rgI, List.range_succ]
theorem rgI_pre {n : Nat} {l k : List Int} (h : l ++ k = rgI n) : l = rgI l.length := by
  have hl : l.length ≤ n := by have := congrArg List.length h; rw [List.length_append, rgI_len] at this; omega
  refine List.ext_getElem (by rw [rgI_len]) fun i h1 h2 => ?_
  have e1 : (l ++ k).getD i 0 = l.getD i 0 := by simp [List.getD, List.getElem?_append_left h1]
  rw [h, rgI_at (by omega)] at e1
  have e2 : l.getD i 0 = l[i] := by simp [List.getD, h1]
  have e3 : (rgI l.length).getD i 0 = (rgI l.length)[i] := by simp [List.getD, h2]
  rw [← e2, ← e3, ← e1, rgI_at h1]
structure CAN (x : Mly) : Prop where
  ok : MOK x
  st : x.st = 0
  rc : x.reach = rgI x.nx.length
  ds : ∀ i j : Int, 0 ≤ i → i < x.nx.length → 0 ≤ j → j < x.nx.length → EQV x i j → i = j
theorem eq2_out {x y : Mly} {s t : Int} (h : EQ2 x y s t) {a : Nat} (ha : (a : Int) < x.inp) : x.out s a = y.out t a := by
  have := h [(a : Int)] fun i hi => by
    have : i = 0 := by simpa using hi
    subst this; simp [List.getD]; omega
  rw [go_cons, go_cons] at this
  injection this
theorem eq2_nxt {x y : Mly} {s t : Int} (h : EQ2 x y s t) {a : Nat} (ha : (a : Int) < x.inp) : EQ2 x y (x.nxt s a) (y.nxt t a) := fun w hw => by
  have := h ((a : Int) :: w) fun i hi => by
    cases i with
    | zero => simp [List.getD]; omega
    | succ i => have := hw i (by simpa using hi); simpa [List.getD] using this
  rw [go_cons, go_cons] at this
  injection this
theorem eq2_left {x y : Mly} (hi : x.inp = y.inp) {s t u : Int} (h : EQ2 x y s u) (g : EQ2 x y t u) : EQV x s t := fun w hw => (h w hw).trans (g w hw).symm
theorem eq2_right {x y : Mly} (hi : x.inp = y.inp) {s t u : Int} (h : EQ2 x y s t) (g : EQ2 x y s u) : EQV y t u := fun w hw => (h w (by rw [hi]; exact hw)).symm.trans (g w (by rw [hi]; exact hw))
/-- Both machines have met the same states, and these are equivalent one by one. -/
structure LCK (x y : Mly) (l : List Int) : Prop where
  eq : ∀ j, j ∈ l → EQ2 x y j j
  bx : ∀ j, j ∈ l → 0 ≤ j ∧ j < x.nx.length
  by_ : ∀ j, j ∈ l → 0 ≤ j ∧ j < y.nx.length
theorem can_step {x y : Mly} (hx : CAN x) (hy : CAN y) (hi : x.inp = y.inp) {l : List Int} (h : LCK x y l) {u v : Int} (hu : 0 ≤ u ∧ u < x.nx.length) (hv : 0 ≤ v ∧ v < y.nx.length) (he : EQ2 x y u v)
    (px : ∃ k, addS l u ++ k = x.reach) (py : ∃ k, addS l v ++ k = y.reach) : addS l u = addS l v ∧ LCK x y (addS l u) := by
  by_cases a : u ∈ l
  · have h1 := h.by_ u a
    have h2 := hy.ds u v h1.1 h1.2 hv.1 hv.2 (eq2_right hi (h.eq u a) he)
    subst h2
    rw [addS_in a]; exact ⟨rfl, h⟩
  · by_cases b : v ∈ l
    · have h1 := h.bx v b
      have h2 := hx.ds v u h1.1 h1.2 hu.1 hu.2 (eq2_left hi (h.eq v b) he)
      subst h2; exact absurd b a
    · obtain ⟨k1, e1⟩ := px
      obtain ⟨k2, e2⟩ := py
      rw [addS_out a, hx.rc] at e1
      rw [addS_out b, hy.rc] at e2
      have f1 := rgI_pre e1
      have f2 := rgI_pre e2
      have : l ++ [u] = l ++ [v] := by
        rw [f1, f2, List.length_append, List.length_append]; rfl
      have huv : u = v := by
        have := List.append_cancel_left this
        simpa using this
      subst huv
      refine ⟨rfl, ?_⟩
      rw [addS_out a]
      refine ⟨fun j hj => ?_, fun j hj => ?_, fun j hj => ?_⟩ <;> (rcases List.mem_append.1 hj with hj | hj)
      · exact h.eq j hj
      · have : j = u := by simpa using hj
        subst this; exact he
      · exact h.bx j hj
      · have : j = u := by simpa using hj
        subst this; exact hu
      · exact h.by_ j hj
      · have : j = u := by simpa using hj
        subst this; exact hv
theorem can_fold {x y : Mly} (hx : CAN x) (hy : CAN y) (hi : x.inp = y.inp) {l : List Int} (h : LCK x y l) {i : Int} (hl : i ∈ l) : ∀ a : Nat, (a : Int) ≤ x.inp →
    (∃ k, ((x.row i).take a).foldl addS l ++ k = x.reach) → (∃ k, ((y.row i).take a).foldl addS l ++ k = y.reach) →
    ((x.row i).take a).foldl addS l = ((y.row i).take a).foldl addS l ∧ LCK x y (((x.row i).take a).foldl addS l)
  | 0, _, _, _ => ⟨rfl, h⟩
  | a + 1, ha, px, py => by
    have bx := h.bx i hl; have by1 := h.by_ i hl
    have rx : ((x.row i).length : Int) = x.inp := hx.ok.rl i.toNat (by omega)
    have ry : ((y.row i).length : Int) = y.inp := hy.ok.rl i.toNat (by omega)
    rw [fold_succ (by omega)] at px ⊢
    rw [fold_succ (by omega)] at py ⊢
    have px0 : ∃ k, ((x.row i).take a).foldl addS l ++ k = x.reach := by
      obtain ⟨k, e⟩ := px; obtain ⟨k2, e2⟩ := addS_pre (((x.row i).take a).foldl addS l) ((x.row i).getD a 0)
      exact ⟨k2 ++ k, by rw [← List.append_assoc, ← e2, e]⟩
    have py0 : ∃ k, ((y.row i).take a).foldl addS l ++ k = y.reach := by
      obtain ⟨k, e⟩ := py; obtain ⟨k2, e2⟩ := addS_pre (((y.row i).take a).foldl addS l) ((y.row i).getD a 0)
      exact ⟨k2 ++ k, by rw [← List.append_assoc, ← e2, e]⟩
    obtain ⟨e1, h1⟩ := can_fold hx hy hi h hl a (by omega) px0 py0
    rw [← e1] at py ⊢
    exact can_step hx hy hi h1 (hx.ok.nr i.toNat a (by omega) (by omega)) (hy.ok.nr i.toNat a (by omega) (by omega)) (eq2_nxt (h.eq i hl) (by omega)) px py
theorem can_rf {x y : Mly} (hx : CAN x) (hy : CAN y) (hi : x.inp = y.inp) : ∀ (f i : Nat) (l : List Int), LCK x y l → x.rf f i l = x.reach → y.rf f i l = y.reach → x.reach = y.reach ∧ LCK x y x.reach
  | 0, i, l, h, ex, ey => ⟨ex.symm.trans ey, by rw [← ex]; exact h⟩
  | f + 1, i, l, h, ex, ey => by
    by_cases hil : i < l.length
    · rw [rf_step x f i l hil] at ex
      rw [rf_step y f i l hil] at ey
      have hm : l.getD i 0 ∈ l := getD_mem hil
      have bx := h.bx _ hm; have by1 := h.by_ _ hm
      have rx : ((x.row (l.getD i 0)).length : Int) = x.inp := hx.ok.rl (l.getD i 0).toNat (by omega)
      have ry : ((y.row (l.getD i 0)).length : Int) = y.inp := hy.ok.rl (l.getD i 0).toNat (by omega)
      have hi1 := hx.ok.i1
      have tx : (x.row (l.getD i 0)).take x.inp.toNat = x.row (l.getD i 0) := List.take_of_length_le (by omega)
      have ty : (y.row (l.getD i 0)).take x.inp.toNat = y.row (l.getD i 0) := List.take_of_length_le (by omega)
      have px : ∃ k, ((x.row (l.getD i 0)).take x.inp.toNat).foldl addS l ++ k = x.reach := by
        rw [tx]; obtain ⟨k, e⟩ := rf_pre x f (i + 1) ((x.row (l.getD i 0)).foldl addS l); exact ⟨k, by rw [← e, ex]⟩
      have py : ∃ k, ((y.row (l.getD i 0)).take x.inp.toNat).foldl addS l ++ k = y.reach := by
        rw [ty]; obtain ⟨k, e⟩ := rf_pre y f (i + 1) ((y.row (l.getD i 0)).foldl addS l); exact ⟨k, by rw [← e, ey]⟩
      obtain ⟨e1, h1⟩ := can_fold hx hy hi h hm x.inp.toNat (by omega) px py
      rw [tx, ty] at e1
      rw [tx] at h1
      rw [← e1] at ey
      exact can_rf hx hy hi f (i + 1) _ h1 ex ey
    · rw [rf_end x _ _ _ (by omega)] at ex
      rw [rf_end y _ _ _ (by omega)] at ey
      exact ⟨ex.symm.trans ey, by rw [← ex]; exact h⟩
theorem can_eq {x y : Mly} (hx : CAN x) (hy : CAN y) (hi : x.inp = y.inp) (h : EQ2 x y 0 0) : x.nx = y.nx ∧ x.ot = y.ot := by
  have hn1 := hx.ok.n1; have hn2 := hy.ok.n1
  have ex : x.rf (x.nx.length + y.nx.length + 1) 0 [0] = x.reach := by
    rw [reach_ok (validE_of hx.ok), hx.st]
    have := rf_fuel hx.ok (x.nx.length + 1) 0 [0] (by have := rset_one hx.ok; rwa [hx.st] at this) (by omega) (x.nx.length + y.nx.length + 1) (by omega)
    exact this
  have ey : y.rf (x.nx.length + y.nx.length + 1) 0 [0] = y.reach := by
    rw [reach_ok (validE_of hy.ok), hy.st]
    have := rf_fuel hy.ok (y.nx.length + 1) 0 [0] (by have := rset_one hy.ok; rwa [hy.st] at this) (by omega) (x.nx.length + y.nx.length + 1) (by omega)
    exact this
  have h0 : LCK x y [0] := ⟨fun j hj => (by have : j = 0 := by simpa using hj
                                            subst this; exact h), fun j hj => (by have : j = 0 := by simpa using hj
                                                                                  subst this; omega), fun j hj => (by have : j = 0 := by simpa using hj
                                                                                                                      subst this; omega)⟩
  obtain ⟨e, hl⟩ := can_rf hx hy hi _ 0 [0] h0 ex ey
  have hlen : x.nx.length = y.nx.length := by
    have := congrArg List.length e
    rwa [hx.rc, hy.rc, rgI_len, rgI_len] at this
  have hq : ∀ j : Nat, j < x.nx.length → EQ2 x y j j := fun j hj => hl.eq j (by rw [hx.rc]; exact rgI_mem.2 ⟨by omega, by omega⟩)
  have hox := hx.ok.ol; have hoy := hy.ok.ol
  have hi1 := hx.ok.i1
  constructor
  · refine List.ext_getElem hlen fun j h1 h2 => ?_
    have r1 := hx.ok.rl j h1; have r2 := hy.ok.rl j h2
    have g1 : x.nx.getD j [] = x.nx[j] := by simp [List.getD, h1]
    have g2 : y.nx.getD j [] = y.nx[j] := by simp [List.getD, h2]
    rw [← g1, ← g2]
    refine List.ext_getElem (by omega) fun a a1 a2 => ?_
    have n1 := hx.ok.nr j a h1 (by omega); have n2 := hy.ok.nr j a h2 (by omega)
    have q1 := eq2_nxt (hq j h1) (a := a) (by omega)
    have m1 : x.nxt j a = (x.nx.getD j []).getD a 0 := rfl
    have m2 : y.nxt j a = (y.nx.getD j []).getD a 0 := rfl
    rw [m1, m2] at q1
    have q2 := hq ((x.nx.getD j []).getD a 0).toNat (by omega)
    rw [Int.toNat_of_nonneg n1.1] at q2
    have := hy.ds _ _ n1.1 (by omega) n2.1 n2.2 (eq2_right hi q2 q1)
    rw [← getD_get a1, ← getD_get a2]; exact this
  · refine List.ext_getElem (by omega) fun j h1 h2 => ?_
    have r1 := hx.ok.ql j (by omega); have r2 := hy.ok.ql j (by omega)
    have g1 : x.ot.getD j [] = x.ot[j] := by simp [List.getD, h1]
    have g2 : y.ot.getD j [] = y.ot[j] := by simp [List.getD, h2]
    rw [← g1, ← g2]
    refine List.ext_getElem (by omega) fun a a1 a2 => ?_
    have q1 := eq2_out (hq j (by omega)) (a := a) (by omega)
    have m1 : x.out j a = (x.ot.getD j []).getD a 0 := rfl
    have m2 : y.out j a = (y.ot.getD j []).getD a 0 := rfl
    rw [m1, m2] at q1
    rw [← getD_get a1, ← getD_get a2]; exact q1
end Go.AV
namespace Go.AV
open Nat (reduceEqDiff reduceAdd reduceLeDiff reduceLT reduceMul reduceSub)
open List (set_cons_zero set_cons_succ)
/-plain-/
/-! ### the document's Step -/
def oV (m : Mly) (cl : List Int) (p : Nat × Nat × Nat) (q : Nat) : Int := if cl.getD q 0 = cl.getD p.2.1 0 then m.inp + (lst (spl m cl p) q : Int) else cl.getD q 0
def oL (m : Mly) (cl : List Int) (p : Nat × Nat × Nat) (c : Nat) : List Int := (List.range cl.length).map fun q => if q < c then oV m cl p q else cl.getD q 0
theorem oL_len (m : Mly) (cl : List Int) (p : Nat × Nat × Nat) (c : Nat) : (oL m cl p c).length = cl.length := by simp [oL]
theorem oL_at {m : Mly} {cl : List Int} {p : Nat × Nat × Nat} {c q : Nat} (h : q < cl.length) : (oL m cl p c).getD q 0 = if q < c then oV m cl p q else cl.getD q 0 := by simp [oL, List.getD, h]
theorem ext_D {xs ys : List Int} (h : xs.length = ys.length) (h2 : ∀ i, i < xs.length → xs.getD i 0 = ys.getD i 0) : xs = ys := by
  refine List.ext_getElem h fun i h1 h3 => ?_
  have := h2 i h1
  simpa [List.getD, h1, h3] using this
theorem oL_zero (m : Mly) (cl : List Int) (p : Nat × Nat × Nat) : oL m cl p 0 = cl := ext_D (oL_len ..) fun i hi => by
  rw [oL_len] at hi
  rw [oL_at hi, if_neg (by omega)]
theorem getD_set {xs : List Int} {i j : Nat} {x : Int} (h : j < xs.length) : (xs.set i x).getD j 0 = if i = j then x else xs.getD j 0 := by
  by_cases e : i = j
  · subst e; simp [List.getD, h]
  · simp [List.getD, e]
theorem oL_set {m : Mly} {cl : List Int} {p : Nat × Nat × Nat} {c : Nat} (hc : c < cl.length) : (oL m cl p c).set c (oV m cl p c) = oL m cl p (c + 1) := ext_D (by rw [List.length_set, oL_len, oL_len]) fun i hi => by
  rw [List.length_set, oL_len] at hi
  rw [getD_set (by rw [oL_len]; exact hi), oL_at hi, oL_at hi]
  by_cases e : c = i
  · subst e; rw [if_pos rfl, if_pos (by omega)]
  · rw [if_neg e]
    by_cases e2 : i < c
    · rw [if_pos e2, if_pos (by omega)]
    · rw [if_neg e2, if_neg (by omega)]
theorem oL_skip {m : Mly} {cl : List Int} {p : Nat × Nat × Nat} {c : Nat} (h : ¬ cl.getD c 0 = cl.getD p.2.1 0) : oL m cl p (c + 1) = oL m cl p c := ext_D (by rw [oL_len, oL_len]) fun i hi => by
  rw [oL_len] at hi
  rw [oL_at hi, oL_at hi]
  by_cases e : i = c
  · subst e; rw [if_pos (by omega), if_neg (by omega)]; unfold oV; rw [if_neg h]
  · by_cases e2 : i < c
    · rw [if_pos e2, if_pos (by omega)]
    · rw [if_neg e2, if_neg (by omega)]
def LKQ (T : Nat → Nat → Bool) (c e : Nat) (k : Int) : Prop := (k = (c : Int) ∧ ∀ q, e ≤ q → q < c → T c q = false) ∨ ∃ q : Nat, e ≤ q ∧ q < c ∧ T c q = true ∧ k = (lst T q : Int) ∧ ∀ r, e ≤ r → r < q → T c r = false
theorem lkq_top (T : Nat → Nat → Bool) (c : Nat) : LKQ T c c c := .inl ⟨rfl, fun q h1 h2 => by omega⟩
theorem lkq_hit {T : Nat → Nat → Bool} {c e : Nat} (hc : e < c) (h : T c e = true) : LKQ T c e (lst T e : Int) := .inr ⟨e, Nat.le_refl _, hc, h, rfl, fun r h1 h2 => by omega⟩
theorem lkq_miss {T : Nat → Nat → Bool} {c e : Nat} {k : Int} (h0 : LKQ T c (e + 1) k) (h : T c e = false) : LKQ T c e k := by
  rcases h0 with ⟨h1, h2⟩ | ⟨q, h1, h2, h3, h4, h5⟩
  · refine .inl ⟨h1, fun q q1 q2 => ?_⟩
    by_cases e1 : q = e
    · rw [e1]; exact h
    · exact h2 q (by omega) q2
  · refine .inr ⟨q, by omega, h2, h3, h4, fun r r1 r2 => ?_⟩
    by_cases e1 : r = e
    · rw [e1]; exact h
    · exact h5 r (by omega) r2
theorem lkq_end {T : Nat → Nat → Bool} {n c : Nat} {k : Int} (hT : EQT T n) (hc : c < n) (h : LKQ T c 0 k) : k = (lst T c : Int) := by
  rcases h with ⟨h1, h2⟩ | ⟨q, h1, h2, h3, h4, h5⟩
  · unfold lst
    rw [find_none fun y hy => h2 y (by omega) hy]; exact h1
  · rw [h4, (lst_iff hT hc (by omega)).2 (hT.sy c q hc (by omega) h3)]
theorem o_num {m : Mly} {cl : List Int} {p : Nat × Nat × Nat} (hk : COK m cl) (hp : p.2.1 < cl.length) : nmS (eqL (oL m cl p cl.length)) m.inp.toNat = nmS (spl m cl p) m.inp.toNat := by
  have hlen := hk.len
  obtain ⟨⟨l1, l2⟩, hb⟩ := cntE_zero hk.ce
  have hT := spl_eqt m cl p m.inp.toNat
  have rng : ∀ q, q < cl.length → cl.getD q 0 < m.inp := fun q hq => by
    have h1 := hb q hq
    simp only [cBad, Bool.or_eq_false_iff, decide_eq_false_iff_not] at h1
    have h2 := cN_le hb q (by omega)
    omega
  refine nmS_congr _ fun d q h1 h2 => ?_
  unfold eqL
  rw [oL_at (by omega), oL_at (by omega), if_pos (by omega), if_pos (by omega)]
  have r1 := rng d (by omega); have r2 := rng q (by omega)
  unfold oV
  by_cases a : cl.getD d 0 = cl.getD p.2.1 0
  · by_cases b : cl.getD q 0 = cl.getD p.2.1 0
    · rw [if_pos a, if_pos b]
      have hi := lst_iff hT (c := q) (d := d) h2 (by omega)
      cases hs : spl m cl p d q with
      | true => rw [hi.2 hs]; exact decide_eq_true rfl
      | false => exact decide_eq_false fun e => by rw [hi.1 (by omega)] at hs; cases hs
    · rw [if_pos a, if_neg b, decide_eq_false (by omega)]
      unfold spl
      rw [decide_eq_false (show ¬ cl.getD d 0 = cl.getD q 0 from fun e => b (by rw [← e]; exact a))]; rfl
  · by_cases b : cl.getD q 0 = cl.getD p.2.1 0
    · rw [if_neg a, if_pos b, decide_eq_false (by omega)]
      unfold spl
      rw [decide_eq_false (show ¬ cl.getD d 0 = cl.getD q 0 from fun e => a (by rw [e]; exact b))]; rfl
    · rw [if_neg a, if_neg b]
      unfold spl
      rw [decide_eq_false a]; simp
theorem spl_K {m : Mly} {cl : List Int} {p : Nat × Nat × Nat} {c d : Nat} (h : cl.getD c 0 = cl.getD p.2.1 0) : spl m cl p c d = (decide (cl.getD d 0 = cl.getD p.2.1 0) && agrS m (m.exR.getD p.1 eX0).1 c d) := by
  unfold spl
  rw [decide_eq_true h, h, Bool.not_true, Bool.false_or]
  congr 1
  exact decide_eq_decide.2 ⟨fun e => e.symm, fun e => e.symm⟩
end Go.AV
namespace Go.AV
open Nat (reduceEqDiff reduceAdd reduceLeDiff reduceLT reduceMul reduceSub)
open List (set_cons_zero set_cons_succ)
/-plain-/
/-! ### the machine over the classes is numbered in the order of its access words -/
def dd (f : Int → Int) (l : List Int) : List Int := (l.map f).foldl addS []
theorem dd_app (f : Int → Int) (l : List Int) (x : Int) : dd f (l ++ [x]) = addS (dd f l) (f x) := by
  unfold dd; rw [List.map_append, List.foldl_append]; rfl
theorem dd_mem {f : Int → Int} {l : List Int} {y : Int} : y ∈ dd f l ↔ ∃ x, x ∈ l ∧ f x = y := by
  unfold dd; rw [foldS_mem, List.mem_map]; simp
theorem dd_fold (f : Int → Int) : ∀ (r l : List Int), (r.map f).foldl addS (dd f l) = dd f (r.foldl addS l)
  | [], _ => rfl
  | x :: r, l => by
    rw [List.map_cons, List.foldl_cons, List.foldl_cons, ← dd_fold f r (addS l x)]
    congr 1
    by_cases h : x ∈ l
    · rw [addS_in h, addS_in (dd_mem.2 ⟨x, h, rfl⟩)]
    · rw [addS_out h, dd_app]
theorem fold_in : ∀ (r l : List Int), (∀ x, x ∈ r → x ∈ l) → r.foldl addS l = l
  | [], _, _ => rfl
  | x :: r, l, h => by
    rw [List.foldl_cons, addS_in (h x (by simp))]
    exact fold_in r l fun y hy => h y (by simp [hy])
theorem cN_mono (c : List Int) {a : Nat} : ∀ {b : Nat}, a ≤ b → cN c a ≤ cN c b
  | 0, h => by
    have : a = 0 := by omega
    subst this; exact Int.le_refl _
  | b + 1, h => by
    by_cases e : a = b + 1
    · subst e; exact Int.le_refl _
    · have := cN_mono c (a := a) (b := b) (by omega)
      simp only [cN]; omega
theorem dd_can {t : Mly} (ht : MOK t) : ∀ k, k ≤ t.nx.length → dd t.f (rgI k) = rgI (cN t.eqc k).toNat
  | 0, _ => rfl
  | k + 1, h => by
    have hl := (eqc_stab ht).len
    have h1 := eqc_can ht k (by omega)
    simp only [cBad, Bool.or_eq_false_iff, decide_eq_false_iff_not] at h1
    have hn := cN_nn t.eqc k
    have hf : t.f (k : Int) = t.eqc.getD k 0 := by unfold Mly.f; rw [Int.toNat_natCast]
    rw [rgI_succ, dd_app, dd_can ht k (by omega), hf]
    by_cases e : t.eqc.getD k 0 = cN t.eqc k
    · rw [addS_out (fun hm => by have := rgI_mem.1 hm; omega), show (cN t.eqc (k + 1)).toNat = (cN t.eqc k).toNat + 1 by simp only [cN]; omega, rgI_succ, e, Int.toNat_of_nonneg hn]
    · rw [addS_in (rgI_mem.2 ⟨by omega, by omega⟩), show (cN t.eqc (k + 1)).toNat = (cN t.eqc k).toNat by simp only [cN]; omega]
theorem q_row_f {t : Mly} (ht : MOK t) {s : Int} (h0 : 0 ≤ s) (h1 : s < t.nx.length) : t.qm.row (t.f s) = (t.row s).map t.f := by
  have hf := f_rng ht h0 h1
  have hq := q_len t
  have hi1 := ht.i1
  have r1 : ((t.qm.row (t.f s)).length : Int) = t.inp := (q_ok ht).rl (t.f s).toNat (by omega)
  have r2 : ((t.row s).length : Int) = t.inp := ht.rl s.toNat (by omega)
  refine ext_D (by rw [List.length_map]; omega) fun a ha => ?_
  rw [getD_map t.f 0 0 (by omega)]
  have := (q_step ht h0 h1 (a := (a : Int)) ⟨by omega, by omega⟩).2
  exact this
theorem q_rf {t : Mly} (ht : MOK t) (hr : t.reach = rgI t.nx.length) : ∀ (g i : Nat) (L : List Int), t.nx.length < g + i → t.rf g i L = t.reach → L = rgI L.length → L.length ≤ t.nx.length → i ≤ L.length →
    (∀ j : Nat, j < i → ∀ x, x ∈ t.row j → x ∈ L) → ∀ F, t.reps.length < F + (cN t.eqc i).toNat → t.qm.rf F (cN t.eqc i).toNat (dd t.f L) = dd t.f t.reach
  | 0, i, L, hg, _, _, hL, hi, _, F, _ => by omega
  | g + 1, i, L, hg, hrf, hp, hL, hi, hcl, F, hF => by
    have hlen := (eqc_stab ht).len
    have hK := (reps_ok ht).len
    have hnn := cN_nn t.eqc i
    have hdd : dd t.f L = rgI (cN t.eqc L.length).toNat := by
      have := dd_can ht L.length hL
      rwa [← hp] at this
    by_cases hil : i < L.length
    · have hLi : L.getD i 0 = (i : Int) := by rw [hp]; exact rgI_at hil
      rw [rf_step t g i L hil, hLi] at hrf
      have hmi : (i : Int) ∈ L := by rw [← hLi]; exact getD_mem hil
      have h1 := eqc_can ht i (by omega)
      simp only [cBad, Bool.or_eq_false_iff, decide_eq_false_iff_not] at h1
      have hm1 := cN_mono t.eqc (a := i + 1) (b := L.length) (by omega)
      have hm2 := cN_mono t.eqc (a := i) (b := t.nx.length) (by omega)
      have hpre : ∃ k, (t.row i).foldl addS L ++ k = rgI t.nx.length := by
        obtain ⟨k, e⟩ := rf_pre t g (i + 1) ((t.row i).foldl addS L)
        exact ⟨k, by rw [← e, hrf, hr]⟩
      obtain ⟨k, hk⟩ := hpre
      have hp2 := rgI_pre hk
      have hL2 : ((t.row i).foldl addS L).length ≤ t.nx.length := by
        have := congrArg List.length hk
        rw [List.length_append, rgI_len] at this; omega
      have hge := fold_len_le (t.row i) L
      have hcl2 : ∀ j : Nat, j < i + 1 → ∀ x, x ∈ t.row j → x ∈ (t.row i).foldl addS L := fun j hj x hx => by
        by_cases e : j = i
        · subst e; exact foldS_mem.2 (.inr hx)
        · exact foldS_mem.2 (.inl (hcl j (by omega) x hx))
      have hfi : t.f (i : Int) = t.eqc.getD i 0 := by unfold Mly.f; rw [Int.toNat_natCast]
      have hfold := dd_fold t.f (t.row i) L
      by_cases e : t.eqc.getD i 0 = cN t.eqc i
      · have ec : (cN t.eqc (i + 1)).toNat = (cN t.eqc i).toNat + 1 := by simp only [cN]; omega
        have hKb : (cN t.eqc i).toNat < t.reps.length := by
          have := cN_mono t.eqc (a := i + 1) (b := t.nx.length) (by omega)
          unfold Mly.reps; omega
        obtain ⟨F2, rfl⟩ : ∃ F2, F = F2 + 1 := ⟨F - 1, by omega⟩
        have hlt : (cN t.eqc i).toNat < (dd t.f L).length := by rw [hdd, rgI_len]; omega
        rw [rf_step t.qm F2 _ _ hlt]
        have hat : (dd t.f L).getD (cN t.eqc i).toNat 0 = t.f (i : Int) := by
          rw [hdd, rgI_at (by rw [hdd, rgI_len] at hlt; exact hlt), hfi]; omega
        rw [hat, q_row_f ht (by omega) (by omega), hfold, ← ec]
        exact q_rf ht hr g (i + 1) _ (by omega) hrf hp2 hL2 (by omega) hcl2 F2 (by omega)
      · have ec : (cN t.eqc (i + 1)).toNat = (cN t.eqc i).toNat := by simp only [cN]; omega
        obtain ⟨q, q1, q2⟩ := cN_onto (eqc_can ht) i (by omega) (t.eqc.getD i 0) (by omega) (by omega)
        have hfq : t.f (q : Int) = t.f (i : Int) := by rw [hfi, ← q2]; unfold Mly.f; rw [Int.toNat_natCast]
        have hrow : (t.row i).map t.f = (t.row q).map t.f := by
          rw [← q_row_f ht (by omega) (by omega), ← q_row_f ht (by omega) (by omega), hfq]
        have hin : ((t.row i).map t.f).foldl addS (dd t.f L) = dd t.f L := fold_in _ _ fun y hy => by
          rw [hrow, List.mem_map] at hy
          obtain ⟨x, hx, rfl⟩ := hy
          exact dd_mem.2 ⟨x, hcl q q1 x hx, rfl⟩
        rw [hfold] at hin
        rw [← hin, ← ec]
        exact q_rf ht hr g (i + 1) _ (by omega) hrf hp2 hL2 (by omega) hcl2 F (by omega)
    · have hie : i = L.length := by omega
      rw [rf_end t _ _ _ (by omega)] at hrf
      rw [rf_end t.qm _ _ _ (by rw [hdd, rgI_len, hie]; exact Nat.le_refl _), ← hrf]
theorem q_can {t : Mly} (ht : MOK t) (hs : t.st = 0) (hr : t.reach = rgI t.nx.length) : CAN t.qm := by
  have hlen := (eqc_stab ht).len
  have hn1 := ht.n1
  have hK := (reps_ok ht).len
  refine ⟨q_ok ht, rfl, ?_, q_ds ht⟩
  have h0 := eqc_can ht 0 (by omega)
  simp only [cBad, Bool.or_eq_false_iff, decide_eq_false_iff_not] at h0
  have hz0 : cN t.eqc 0 = 0 := rfl
  have hf0 : t.f 0 = 0 := by unfold Mly.f; show t.eqc.getD 0 0 = 0; omega
  have hd0 : dd t.f [0] = [0] := by show addS [] (t.f 0) = _; rw [hf0]; rfl
  have hrf : t.rf (t.nx.length + 1) 0 [0] = t.reach := by rw [reach_ok (validE_of ht), hs]
  have := q_rf ht hr (t.nx.length + 1) 0 [0] (by omega) hrf rfl (by simpa using hn1) (by simp) (fun j hj => by omega) (t.reps.length + 1) (by simp only [cN]; omega)
  rw [hd0] at this
  rw [reach_ok (validE_of (q_ok ht)), q_len]
  show t.qm.rf (t.reps.length + 1) 0 [0] = _
  rw [show (cN t.eqc 0).toNat = 0 from rfl] at this
  rw [this, hr, dd_can ht _ (Nat.le_refl _)]
  congr 1
  unfold Mly.reps; omega
/-- The minimal machine. -/
def Mly.minm (m : Mly) : Mly := m.T.qm
theorem min_can {m : Mly} (hm : MOK m) : CAN m.minm := q_can (T_ok hm) rfl (by rw [T_reach hm, T_len]; rfl)
theorem min_go {m : Mly} (hm : MOK m) (w : List Int) (hw : ∀ i : Nat, i < w.length → 0 ≤ w.getD i 0 ∧ w.getD i 0 < m.inp) : (m.minm.go 0 w).2 = (m.go m.st w).2 := by
  have ht := T_ok hm
  have hn := ht.n1
  have hlen := (eqc_stab ht).len
  have h0 := eqc_can ht 0 (by omega)
  simp only [cBad, Bool.or_eq_false_iff, decide_eq_false_iff_not] at h0
  have hz0 : cN m.T.eqc 0 = 0 := rfl
  have hf0 : m.T.f 0 = 0 := by unfold Mly.f; show m.T.eqc.getD 0 0 = 0; omega
  have h1 := q_go ht w 0 (by omega) (by omega) hw
  rw [hf0] at h1
  obtain ⟨k, hk⟩ := reach_st hm
  have h2 := (T_go hm (s := m.st) (by rw [hk]; simp) w hw).2.2
  rw [ix_st hm] at h2
  exact h1.trans h2
theorem min_eq {a b : Mly} (ha : MOK a) (hb : MOK b) (hi : a.inp = b.inp) : EQ2 a b a.st b.st ↔ EQ2 a.minm b.minm 0 0 := by
  constructor
  · intro h w hw
    rw [min_go ha w hw, min_go hb w (by rw [← hi]; exact hw)]; exact h w hw
  · intro h w hw
    rw [← min_go ha w hw, ← min_go hb w (by rw [← hi]; exact hw)]; exact h w hw
theorem min_same {a b : Mly} (ha : MOK a) (hb : MOK b) (hi : a.inp = b.inp) : EQ2 a b a.st b.st ↔ a.minm = b.minm := by
  rw [min_eq ha hb hi]
  constructor
  · intro h
    obtain ⟨e1, e2⟩ := can_eq (min_can ha) (min_can hb) hi h
    show (⟨a.inp, 0, a.minm.nx, a.minm.ot⟩ : Mly) = ⟨b.inp, 0, b.minm.nx, b.minm.ot⟩
    rw [hi, e1, e2]
  · intro h w _
    rw [h]
end Go.AV
namespace Go.AV
open Nat (reduceEqDiff reduceAdd reduceLeDiff reduceLT reduceMul reduceSub)
open List (set_cons_zero set_cons_succ)
/-plain-/
/-! The minimal machine (min_same) as the loop lays it. -/
def Mly.qN (t : Mly) (k : Nat) : List (List Int) := (repL t.eqc k).map fun s => (t.nx.getD s []).map t.f
def Mly.qO (t : Mly) (k : Nat) : List (List Int) := (repL t.eqc k).map fun s => t.ot.getD s []
theorem qN_len (t : Mly) (k : Nat) : (t.qN k).length = (repL t.eqc k).length := by simp [Mly.qN]
theorem qO_len (t : Mly) (k : Nat) : (t.qO k).length = (repL t.eqc k).length := by simp [Mly.qO]
theorem qN_new {t : Mly} {k : Nat} (h : t.eqc.getD k 0 = cN t.eqc k) : t.qN (k + 1) = t.qN k ++ [(t.nx.getD k []).map t.f] ∧ t.qO (k + 1) = t.qO k ++ [t.ot.getD k []] := by
  unfold Mly.qN Mly.qO; rw [repL_new h, List.map_append, List.map_append]; exact ⟨rfl, rfl⟩
theorem qN_old {t : Mly} {k : Nat} (h : ¬ t.eqc.getD k 0 = cN t.eqc k) : t.qN (k + 1) = t.qN k ∧ t.qO (k + 1) = t.qO k := by
  unfold Mly.qN Mly.qO; rw [repL_old h]; exact ⟨rfl, rfl⟩
def Mly.mres (m : Mly) : Mly := if validE m = 0 then m.minm else ⟨0, 0, [], []⟩
theorem mres_bad {m : Mly} (h : ¬ validE m = 0) : m.mres = ⟨0, 0, [], []⟩ := if_neg h
theorem mres_ok {m : Mly} (h : validE m = 0) : m.mres = m.trim.qm := by unfold Mly.mres; rw [if_pos h, trim_T h]; rfl
theorem mapI_take_succ {l : List Int} (f : Int → Int) {j : Nat} (h : j < l.length) : (l.take (j + 1)).map f = (l.take j).map f ++ [f (l.getD j 0)] := by
  rw [take_succ_D h, List.map_append]; rfl
/-- The error of two machines. -/
def chqE (a b : Mly) : Int := if validE a = 0 then if validE b = 0 then if a.inp = b.inp then 0 else 15 else validE b else validE a
theorem chqE_ok {a b : Mly} (h : chqE a b = 0) : MOK a ∧ MOK b ∧ a.inp = b.inp := by
  unfold chqE at h
  split at h
  · rename_i h1
    split at h
    · rename_i h2
      split at h
      · rename_i h3; exact ⟨mok_of h1, mok_of h2, h3⟩
      · omega
    · contradiction
  · contradiction
def chm (a b : Mly) (k : Nat) : Mly := if k = 0 then a else b
theorem chm_cells (a b : Mly) {k : Nat} (h : k < 2) : ((([AC.int .i64 a.inp, .int .i64 a.st, .list (.list (.int .i64)) a.nx, .list (.list (.int .i64)) a.ot, .int .i64 b.inp, .int .i64 b.st, .list (.list (.int .i64)) b.nx, .list (.list (.int .i64)) b.ot] : List AC).drop (k * 4)).take 4) =
    [.int .i64 (chm a b k).inp, .int .i64 (chm a b k).st, .list (.list (.int .i64)) (chm a b k).nx, .list (.list (.int .i64)) (chm a b k).ot] := by
  rcases (show k = 0 ∨ k = 1 by omega) with rfl | rfl <;> rfl
def dqW (a b : Mly) : Option (List Int) := if chqE a b = 0 then seS a b a.st b.st else none
theorem dqW_bad {a b : Mly} (h : ¬ chqE a b = 0) : dqW a b = none := if_neg h
theorem dqW_ok {a b : Mly} (h : chqE a b = 0) : dqW a b = seS a b a.st b.st := if_pos h
def eqQ (a b : Mly) : Bool := decide (chqE a b = 0) && !(dqW a b).isSome
theorem repL_le (c : List Int) (k : Nat) : (repL c k).length ≤ k := by
  unfold repL; exact Nat.le_trans (List.length_filter_le _ _) (by simp)
end Go.AV
