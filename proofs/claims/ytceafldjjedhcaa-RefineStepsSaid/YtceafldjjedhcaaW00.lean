/- Contracts of functions of this seat, each out of a walk through its code, and plain facts on what they compute. Conditions: those that each theorem names. -/
import Derived.Test.YtceafldjjedhcaaTz
set_option linter.unusedSimpArgs false
set_option linter.unusedVariables false
namespace Go.AV
theorem zB : (∀ (p : Prop) [Decidable p], (decide p = true) = p) ∧ (∀ (p : Prop) [Decidable p], (decide p = false) = ¬p) ∧ ((!true) = false) ∧ ((!false) = true) ∧ (∀ b : Bool, (¬(b = true)) = (b = false)) ∧ (∀ b : Bool, (¬(b = false)) = (b = true)) ∧ (∀ a b : Bool, ((!a) = b) = (a = !b)) ∧ (∀ a b : Int, ¬a < b ↔ b ≤ a) ∧ (∀ a b : Int, ¬a ≤ b ↔ b < a) ∧ ((true = false) = False) ∧ ((false = true) = False) ∧ (∀ {α : Sort 1} (a b : α), (a ≠ b) = ¬(a = b)) ∧ (∀ (p : Prop) [Decidable p], ¬¬p ↔ p) ∧ (∀ b : Bool, ((!b) = true) = (b = false)) ∧ (∀ {α : Type} [BEq α] [LawfulBEq α] {a b : α}, (a != b) = true ↔ a ≠ b) ∧ (∀ a b : Bool, ((a || b) = true) = (a = true ∨ b = true)) ∧ (∀ a b : Bool, ((a && b) = true) = (a = true ∧ b = true)) ∧ (∀ a b : Bool, ((a || b) = false) = (a = false ∧ b = false)) ∧ (∀ a b : Bool, ((a && b) = false) = (a = false ∨ b = false)) :=
  ⟨fun p _ => decide_eq_true_eq, fun p _ => by simp, rfl, rfl, by simp, by simp, by decide, fun a b => Int.not_lt, fun a b => Int.not_le, by simp, by simp, fun _ _ => rfl, fun p _ => Decidable.not_not, by simp, bne_iff_ne, by simp, by simp, by simp, by simp⟩
theorem zS {α : Type} : (∀ (a b : α) (l : List α), (a :: l).set 0 b = b :: l) ∧ ∀ (a b : α) (n : Nat) (l : List α), (a :: l).set (n + 1) b = a :: l.set n b := ⟨fun _ _ _ => rfl, fun _ _ _ _ => rfl⟩
end Go.AV
namespace Go.Proofs.Ytceafldjjedhcaa
open Go Go.AV
open Nat (reduceEqDiff reduceAdd reduceLeDiff reduceLT reduceMul reduceSub)
open List (set_cons_zero set_cons_succ)
def Mof (d : Int × (Int × (List (List Int) × (List (List Int) × Unit)))) : Mly := ⟨d.1, d.2.1, d.2.2.1, d.2.2.2.1⟩
end Go.Proofs.Ytceafldjjedhcaa
namespace Go.Proofs.Ytceafldjjedhcaa
open Go Go.AV
open Nat (reduceEqDiff reduceAdd reduceLeDiff reduceLT reduceMul reduceSub)
open List (set_cons_zero set_cons_succ)
def gateM : Mly := ⟨2, 0, [[1, 0], [1, 0]], [[1, 0], [1, 2]]⟩
end Go.Proofs.Ytceafldjjedhcaa
namespace Go.AV
open Nat (reduceEqDiff reduceAdd reduceLeDiff reduceLT reduceMul reduceSub)
open List (set_cons_zero set_cons_succ)
/-plain-/
/-! ### classes of states -/
def Mly.sigP (m : Mly) (cl : List Int) (a s : Nat) : List Int := (List.range 128).map fun i =>
  if i < a then (m.ot.getD s []).getD i 0 else if 64 ≤ i ∧ i < 64 + a then cl.getD ((m.nx.getD s []).getD (i - 64) 0).toNat 0 else 0
def Mly.sig (m : Mly) (cl : List Int) (s : Nat) : List Int := m.sigP cl m.inp.toNat s
def Mly.nextL (m : Mly) (cl : List Int) : List Int := (List.range m.nx.length).map fun s => (pos (difs (m.sig cl) m.nx.length) (m.sig cl s) : Int)
def Mly.nextN (m : Mly) (cl : List Int) : Int := (difs (m.sig cl) m.nx.length).length
def Mly.cls (m : Mly) : Nat → List Int
  | 0 => List.replicate m.nx.length 0
  | i + 1 => m.nextL (m.cls i)
def Mly.cnt (m : Mly) : Nat → Int
  | 0 => 1
  | i + 1 => m.nextN (m.cls i)
/-- The first round that divides nothing; at most N. -/
def Mly.stopF (m : Mly) : Nat → Nat → Nat
  | 0, i => i
  | f + 1, i => if m.cnt (i + 1) = m.cnt i then i else m.stopF f (i + 1)
def refN (m : Mly) (k : Int) : Nat := (min (max k 0) (m.nx.length : Int)).toNat
def Mly.refC (m : Mly) (k : Int) : List Int := m.cls (m.stopF (refN m k) 0)
def Mly.refK (m : Mly) (k : Int) : Int := m.stopF (refN m k) 0
theorem sigP_len (m : Mly) (cl : List Int) (a s : Nat) : (m.sigP cl a s).length = 128 := by simp [Mly.sigP]
theorem sigP_zero (m : Mly) (cl : List Int) (s : Nat) : List.replicate 128 (0 : Int) = m.sigP cl 0 s := by
  apply List.ext_getElem
  · simp [Mly.sigP]
  · intro i h1 h2
    simp only [Mly.sigP, List.getElem_replicate, List.getElem_map, List.getElem_range]
    rw [if_neg (by omega), if_neg (by omega)]
theorem sigP_set (m : Mly) (cl : List Int) {a : Nat} (s : Nat) (h : a < 64) :
    ((m.sigP cl a s).set a ((m.ot.getD s []).getD a 0)).set (64 + a) (cl.getD ((m.nx.getD s []).getD a 0).toNat 0) = m.sigP cl (a + 1) s := by
  apply List.ext_getElem
  · simp [Mly.sigP]
  · intro i h1 h2
    simp only [Mly.sigP, List.getElem_set, List.getElem_map, List.getElem_range]
    by_cases e1 : 64 + a = i
    · subst e1
      rw [if_pos rfl, if_neg (by omega), if_pos (by omega), show 64 + a - 64 = a by omega]
    · rw [if_neg e1]
      by_cases e2 : a = i
      · subst e2; rw [if_pos rfl, if_pos (by omega)]
      · rw [if_neg e2]
        by_cases e3 : i < a
        · rw [if_pos e3, if_pos (by omega)]
        · rw [if_neg e3, if_neg (by omega : ¬ i < a + 1)]
          by_cases e4 : 64 ≤ i ∧ i < 64 + a
          · rw [if_pos e4, if_pos (by omega)]
          · rw [if_neg e4, if_neg (by omega)]
theorem sig_eq {m : Mly} (hm : MOK m) {cl : List Int} {s t : Nat} : m.sig cl s = m.sig cl t ↔
    ∀ a : Nat, (a : Int) < m.inp → (m.ot.getD s []).getD a 0 = (m.ot.getD t []).getD a 0 ∧ cl.getD ((m.nx.getD s []).getD a 0).toNat 0 = cl.getD ((m.nx.getD t []).getD a 0).toNat 0 := by
  have h2 := hm.i2
  unfold Mly.sig Mly.sigP
  constructor
  · intro h a ha
    have h1 := congrArg (fun l => l.getD a 0) h
    have h3 := congrArg (fun l => l.getD (64 + a) 0) h
    have e1 : a < 128 := by omega
    have e2 : 64 + a < 128 := by omega
    simp only [mr_getD _ _ e1] at h1
    simp only [mr_getD _ _ e2] at h3
    rw [if_pos (by omega), if_pos (by omega)] at h1
    rw [if_neg (show ¬ (64 + a < m.inp.toNat) by omega), if_neg (show ¬ (64 + a < m.inp.toNat) by omega), if_pos (show 64 ≤ 64 + a ∧ 64 + a < 64 + m.inp.toNat by omega), if_pos (show 64 ≤ 64 + a ∧ 64 + a < 64 + m.inp.toNat by omega), show 64 + a - 64 = a by omega] at h3
    exact ⟨h1, h3⟩
  · intro h
    refine List.map_congr_left fun i hi => ?_
    by_cases e1 : i < m.inp.toNat
    · rw [if_pos e1, if_pos e1]; exact (h i (by omega)).1
    · rw [if_neg e1, if_neg e1]
      by_cases e2 : 64 ≤ i ∧ i < 64 + m.inp.toNat
      · rw [if_pos e2, if_pos e2]; exact (h (i - 64) (by omega)).2
      · rw [if_neg e2, if_neg e2]
theorem nextL_len (m : Mly) (cl : List Int) : (m.nextL cl).length = m.nx.length := by simp [Mly.nextL]
theorem cls_len (m : Mly) : ∀ i, (m.cls i).length = m.nx.length
  | 0 => by simp [Mly.cls]
  | i + 1 => nextL_len _ _
theorem nextL_at {m : Mly} {cl : List Int} {s : Nat} (h : s < m.nx.length) : (m.nextL cl).getD s 0 = (pos (difs (m.sig cl) m.nx.length) (m.sig cl s) : Int) := by
  simp [Mly.nextL, List.getD, h]
theorem nextL_rng {m : Mly} {cl : List Int} {s : Nat} (h : s < m.nx.length) : 0 ≤ (m.nextL cl).getD s 0 ∧ (m.nextL cl).getD s 0 < m.nx.length := by
  rw [nextL_at h]
  have h1 := pos_lt (difs_mem (f := m.sig cl) (k := m.nx.length).2 ⟨s, h, rfl⟩)
  have h2 := difs_le (m.sig cl) m.nx.length
  omega
theorem nextL_eq {m : Mly} {cl : List Int} {s t : Nat} (hs : s < m.nx.length) (ht : t < m.nx.length) : (m.nextL cl).getD s 0 = (m.nextL cl).getD t 0 ↔ m.sig cl s = m.sig cl t := by
  rw [nextL_at hs, nextL_at ht]
  constructor
  · intro h
    exact pos_inj (difs_mem.2 ⟨s, hs, rfl⟩) (difs_mem.2 ⟨t, ht, rfl⟩) (by omega)
  · intro h; rw [h]
theorem cls_rng {m : Mly} (hm : MOK m) : ∀ i s, s < m.nx.length → 0 ≤ (m.cls i).getD s 0 ∧ (m.cls i).getD s 0 < m.nx.length
  | 0, s, h => by
    have : (m.cls 0).getD s 0 = 0 := by simp [Mly.cls, List.getD, h]
    rw [this]; have := hm.n1; omega
  | i + 1, s, h => nextL_rng h
theorem cls_fine {m : Mly} (hm : MOK m) : ∀ i s t, s < m.nx.length → t < m.nx.length → (m.cls (i + 1)).getD s 0 = (m.cls (i + 1)).getD t 0 → (m.cls i).getD s 0 = (m.cls i).getD t 0
  | 0, s, t, hs, ht, _ => by simp [Mly.cls, List.getD, hs, ht]
  | i + 1, s, t, hs, ht, h => by
    have h1 := (nextL_eq (cl := m.cls (i + 1)) hs ht).1 h
    rw [sig_eq hm] at h1
    refine (nextL_eq hs ht).2 ((sig_eq hm).2 fun a ha => ⟨(h1 a ha).1, ?_⟩)
    have n1 := hm.nr s a hs ha
    have n2 := hm.nr t a ht ha
    exact cls_fine hm i _ _ (by omega) (by omega) (h1 a ha).2

/-! ### how many classes -/
def firsts (f : Nat → Int) (n : Nat) : List Nat := (List.range n).filter fun s => decide (∀ t, t < s → f t ≠ f s)
theorem difs_firsts {α : Type} [DecidableEq α] (g : Nat → α) (f : Nat → Int) : ∀ n, (∀ s t, s < n → t < n → (f s = f t ↔ g s = g t)) → (difs g n).length = (firsts f n).length
  | 0, _ => rfl
  | n + 1, h => by
    have ih := difs_firsts g f n fun s t hs ht => h s t (by omega) (by omega)
    rw [difs_succ]
    unfold firsts
    rw [List.range_succ, List.filter_append, List.length_append]
    have e0 : (firsts f n).length = ((List.range n).filter fun s => decide (∀ t, t < s → f t ≠ f s)).length := rfl
    rw [← e0, ← ih]
    by_cases hm : g n ∈ difs g n
    · rw [addG_in hm]
      obtain ⟨i, hi, e⟩ := difs_mem.1 hm
      have : ¬ (∀ t, t < n → f t ≠ f n) := fun hh => hh i hi ((h i n (by omega) (by omega)).2 e)
      simp [this]
    · rw [addG_out hm]
      have : ∀ t, t < n → f t ≠ f n := fun t ht e => hm (difs_mem.2 ⟨t, ht, (h t n (by omega) (by omega)).1 e⟩)
      rw [List.filter_cons, if_pos (by simpa using this)]
      simp
theorem cnt_firsts {m : Mly} (hm : MOK m) : ∀ i, m.cnt i = ((firsts (fun s => (m.cls i).getD s 0) m.nx.length).length : Int)
  | 0 => by
    have h1 := hm.n1
    have : firsts (fun s => (m.cls 0).getD s 0) m.nx.length = [0] := by
      obtain ⟨n, hn⟩ : ∃ n, m.nx.length = n + 1 := ⟨m.nx.length - 1, by omega⟩
      unfold firsts
      rw [hn, List.range_succ_eq_map, List.filter_cons]
      have hz : ∀ s, s < n + 1 → (m.cls 0).getD s 0 = 0 := fun s hs => by simp [Mly.cls, List.getD, hn, hs]
      rw [if_pos (by simp)]
      have : (List.map Nat.succ (List.range n)).filter (fun s => decide (∀ t, t < s → (m.cls 0).getD t 0 ≠ (m.cls 0).getD s 0)) = [] := by
        rw [List.filter_eq_nil_iff]
        intro s hs
        obtain ⟨k, hk, rfl⟩ := List.mem_map.1 hs
        simp only [decide_eq_true_eq]
        intro hh
        have hk' : k < n := by simpa using hk
        exact hh 0 (by omega) (by rw [hz 0 (by omega), hz (k + 1) (by omega)])
      rw [this]
    rw [this]; rfl
  | i + 1 => by
    show ((difs (m.sig (m.cls i)) m.nx.length).length : Int) = _
    rw [difs_firsts (m.sig (m.cls i)) (fun s => (m.cls (i + 1)).getD s 0)]
    intro s t hs ht
    exact nextL_eq hs ht
theorem firsts_nodup (f : Nat → Int) (n : Nat) : (firsts f n).Nodup := List.Pairwise.filter _ List.nodup_range
theorem firsts_sub {f g : Nat → Int} {n : Nat} (h : ∀ s t, s < n → t < n → g s = g t → f s = f t) : ∀ x, x ∈ firsts f n → x ∈ firsts g n := by
  intro x hx
  simp only [firsts, List.mem_filter, List.mem_range, decide_eq_true_eq] at hx ⊢
  exact ⟨hx.1, fun t ht e => hx.2 t ht (h t x (by omega) hx.1 e)⟩
theorem firsts_of (f : Nat → Int) (n : Nat) : ∀ s, s < n → ∃ r, r ∈ firsts f n ∧ f r = f s := by
  intro s
  induction s using Nat.strongRecOn with
  | _ s ih =>
    intro hs
    by_cases h : ∀ t, t < s → f t ≠ f s
    · exact ⟨s, by simp only [firsts, List.mem_filter, List.mem_range, decide_eq_true_eq]; exact ⟨hs, h⟩, rfl⟩
    · obtain ⟨t, ht⟩ := Classical.not_forall.1 h
      rw [Classical.not_imp, Classical.not_not] at ht
      obtain ⟨r, hr, e⟩ := ih t ht.1 (by omega)
      exact ⟨r, hr, e.trans ht.2⟩
theorem same_count {f g : Nat → Int} {n : Nat} (h : ∀ s t, s < n → t < n → g s = g t → f s = f t) (hc : (firsts g n).length = (firsts f n).length) : ∀ s t, s < n → t < n → f s = f t → g s = g t := by
  intro s t hs ht e
  have hback : ∀ x, x ∈ firsts g n → x ∈ firsts f n := by
    intro x hx
    by_cases hm : x ∈ firsts f n
    · exact hm
    · exfalso
      have := nodup_sub (x :: firsts f n) (firsts g n) (List.nodup_cons.2 ⟨hm, firsts_nodup f n⟩) (fun y hy => by
        rcases List.mem_cons.1 hy with rfl | hy
        · exact hx
        · exact firsts_sub h y hy)
      simp only [List.length_cons] at this
      omega
  obtain ⟨r, hr, e1⟩ := firsts_of g n s hs
  obtain ⟨q, hq, e2⟩ := firsts_of g n t ht
  have hr' := hback r hr
  have hq' := hback q hq
  have hrl : r < n := by simp only [firsts, List.mem_filter, List.mem_range] at hr; exact hr.1
  have hql : q < n := by simp only [firsts, List.mem_filter, List.mem_range] at hq; exact hq.1
  have e3 : f r = f q := (h r s hrl hs e1).trans (e.trans (h q t hql ht e2).symm)
  have : r = q := by
    simp only [firsts, List.mem_filter, List.mem_range, decide_eq_true_eq] at hr' hq'
    rcases Nat.lt_trichotomy r q with hlt | heq | hgt
    · exact absurd e3 (hq'.2 r hlt)
    · exact heq
    · exact absurd e3.symm (hr'.2 q hgt)
  rw [← e1, ← e2, this]

theorem stopF_spec {m : Mly} : ∀ f i, (∃ j, i ≤ j ∧ m.stopF f i = j ∧ j < i + f ∧ m.cnt (j + 1) = m.cnt j ∧ ∀ k, i ≤ k → k < j → m.cnt (k + 1) ≠ m.cnt k) ∨ (m.stopF f i = i + f ∧ ∀ k, i ≤ k → k < i + f → m.cnt (k + 1) ≠ m.cnt k)
  | 0, i => .inr ⟨rfl, fun k h1 h2 => by omega⟩
  | f + 1, i => by
    simp only [Mly.stopF]
    by_cases h : m.cnt (i + 1) = m.cnt i
    · rw [if_pos h]
      exact .inl ⟨i, Nat.le_refl _, rfl, by omega, h, fun k h1 h2 => by omega⟩
    · rw [if_neg h]
      rcases stopF_spec (m := m) f (i + 1) with ⟨j, h1, h2, h3, h4, h5⟩ | ⟨h1, h2⟩
      · refine .inl ⟨j, by omega, h2, by omega, h4, fun k k1 k2 => ?_⟩
        by_cases e : k = i
        · subst e; exact h
        · exact h5 k (by omega) k2
      · refine .inr ⟨by rw [h1]; omega, fun k k1 k2 => ?_⟩
        by_cases e : k = i
        · subst e; exact h
        · exact h2 k (by omega) (by omega)
theorem cnt_mono {m : Mly} (hm : MOK m) (i : Nat) : m.cnt i ≤ m.cnt (i + 1) := by
  rw [cnt_firsts hm, cnt_firsts hm]
  have := nodup_sub (firsts (fun s => (m.cls i).getD s 0) m.nx.length) (firsts (fun s => (m.cls (i + 1)).getD s 0) m.nx.length) (firsts_nodup _ _) (firsts_sub (cls_fine hm i))
  omega
theorem cnt_le {m : Mly} (hm : MOK m) (i : Nat) : m.cnt i ≤ m.nx.length := by
  rw [cnt_firsts hm]
  have : (firsts (fun s => (m.cls i).getD s 0) m.nx.length).length ≤ (List.range m.nx.length).length := List.length_filter_le _ _
  rw [List.length_range] at this; omega

/-- The classes of equivalent states. -/
def Mly.eqc (m : Mly) : List Int := m.refC 128
structure STAB (m : Mly) (c : List Int) : Prop where
  len : c.length = m.nx.length
  rng : ∀ s, s < m.nx.length → 0 ≤ c.getD s 0 ∧ c.getD s 0 < m.nx.length
  step : ∀ s t : Nat, s < m.nx.length → t < m.nx.length → c.getD s 0 = c.getD t 0 → ∀ a : Nat, (a : Int) < m.inp →
    (m.ot.getD s []).getD a 0 = (m.ot.getD t []).getD a 0 ∧ c.getD ((m.nx.getD s []).getD a 0).toNat 0 = c.getD ((m.nx.getD t []).getD a 0).toNat 0
theorem eqc_stop {m : Mly} (hm : MOK m) : ∃ j, m.eqc = m.cls j ∧ j < m.nx.length ∧ m.cnt (j + 1) = m.cnt j := by
  have hN : refN m 128 = m.nx.length := by unfold refN; have := hm.n2; omega
  have hn1 := hm.n1
  unfold Mly.eqc Mly.refC
  rw [hN]
  rcases stopF_spec (m := m) m.nx.length 0 with ⟨j, h1, h2, h3, h4, _⟩ | ⟨h1, h2⟩
  · exact ⟨j, by rw [h2], by omega, h4⟩
  · exfalso
    have key : ∀ k, k ≤ m.nx.length → (k : Int) + 1 ≤ m.cnt k := by
      intro k
      induction k with
      | zero => intro _; show (0 : Int) + 1 ≤ 1; decide
      | succ k ih =>
        intro hk
        have := ih (by omega)
        have h3 := cnt_mono hm k
        have h4 := h2 k (by omega) (by omega)
        omega
    have := key m.nx.length (Nat.le_refl _)
    have := cnt_le hm m.nx.length
    omega
theorem eqc_stab {m : Mly} (hm : MOK m) : STAB m m.eqc := by
  obtain ⟨j, h1, h2, h3⟩ := eqc_stop hm
  rw [h1]
  refine ⟨cls_len m j, cls_rng hm j, fun s t hs ht e => ?_⟩
  rw [cnt_firsts hm, cnt_firsts hm] at h3
  have := same_count (cls_fine hm j) (by omega) s t hs ht e
  exact (sig_eq hm).1 ((nextL_eq hs ht).1 this)

/-! ### equivalent states -/
def EQV (m : Mly) (s t : Int) : Prop := ∀ w : List Int, (∀ i : Nat, i < w.length → 0 ≤ w.getD i 0 ∧ w.getD i 0 < m.inp) → (m.go s w).2 = (m.go t w).2
theorem go_cons (m : Mly) (s a : Int) (w : List Int) : m.go s (a :: w) = ((m.go (m.nxt s a) w).1, m.out s a :: (m.go (m.nxt s a) w).2) := by
  have := go_append m s [a] w
  simp only [List.cons_append, List.nil_append] at this
  rw [this]
  have h1 : m.go s [a] = (m.nxt s a, [m.out s a]) := rfl
  rw [h1]; rfl
theorem syms_tail {w : List Int} {a n : Int} (h : ∀ i : Nat, i < (a :: w).length → 0 ≤ (a :: w).getD i 0 ∧ (a :: w).getD i 0 < n) : (0 ≤ a ∧ a < n) ∧ ∀ i : Nat, i < w.length → 0 ≤ w.getD i 0 ∧ w.getD i 0 < n :=
  ⟨h 0 (by simp), fun i hi => by have := h (i + 1) (by simpa using hi); simpa [List.getD] using this⟩
theorem stab_eqv {m : Mly} (hm : MOK m) {c : List Int} (hc : STAB m c) : ∀ (w : List Int) (s t : Int), 0 ≤ s → s < m.nx.length → 0 ≤ t → t < m.nx.length → c.getD s.toNat 0 = c.getD t.toNat 0 →
    (∀ i : Nat, i < w.length → 0 ≤ w.getD i 0 ∧ w.getD i 0 < m.inp) → (m.go s w).2 = (m.go t w).2
  | [], _, _, _, _, _, _, _, _ => rfl
  | a :: w, s, t, s0, s1, t0, t1, e, hw => by
    obtain ⟨ha, hw'⟩ := syms_tail hw
    rw [go_cons, go_cons]
    have h1 := hc.step s.toNat t.toNat (by omega) (by omega) e a.toNat (by omega)
    have n1 := hm.nr s.toNat a.toNat (by omega) (by omega)
    have n2 := hm.nr t.toNat a.toNat (by omega) (by omega)
    have h2 := stab_eqv hm hc w (m.nxt s a) (m.nxt t a) n1.1 n1.2 n2.1 n2.2 h1.2 hw'
    show m.out s a :: _ = m.out t a :: _
    rw [h2]
    congr 1
    exact h1.1
theorem eqv_step {m : Mly} {s t a : Int} (h : EQV m s t) (ha : 0 ≤ a ∧ a < m.inp) : m.out s a = m.out t a ∧ EQV m (m.nxt s a) (m.nxt t a) := by
  constructor
  · have := h [a] (fun i hi => by simp at hi; subst hi; exact ha)
    have h1 : (m.go s [a]).2 = [m.out s a] := rfl
    have h2 : (m.go t [a]).2 = [m.out t a] := rfl
    rw [h1, h2] at this
    simpa using this
  · intro w hw
    have := h (a :: w) (fun i hi => by
      cases i with
      | zero => exact ha
      | succ i => have := hw i (by simpa using hi); simpa [List.getD] using this)
    rw [go_cons, go_cons] at this
    exact (List.cons.inj this).2
theorem eqv_cls {m : Mly} (hm : MOK m) : ∀ (i : Nat) (s t : Nat), s < m.nx.length → t < m.nx.length → EQV m s t → (m.cls i).getD s 0 = (m.cls i).getD t 0
  | 0, s, t, hs, ht, _ => by simp [Mly.cls, List.getD, hs, ht]
  | i + 1, s, t, hs, ht, h => by
    refine (nextL_eq hs ht).2 ((sig_eq hm).2 fun a ha => ?_)
    obtain ⟨h1, h2⟩ := eqv_step h (a := (a : Int)) ⟨by omega, ha⟩
    refine ⟨by simpa [Mly.out] using h1, ?_⟩
    have n1 := hm.nr s a hs ha
    have n2 := hm.nr t a ht ha
    refine eqv_cls hm i _ _ (by omega) (by omega) ?_
    have e1 : m.nxt (s : Int) (a : Int) = (((m.nx.getD s []).getD a 0).toNat : Int) := by show (m.nx.getD s []).getD a 0 = _; omega
    have e2 : m.nxt (t : Int) (a : Int) = (((m.nx.getD t []).getD a 0).toNat : Int) := by show (m.nx.getD t []).getD a 0 = _; omega
    rw [e1, e2] at h2
    exact h2
/-- Two states are in one class just if they are equivalent. -/
theorem eqc_iff {m : Mly} (hm : MOK m) {s t : Int} (s0 : 0 ≤ s) (s1 : s < m.nx.length) (t0 : 0 ≤ t) (t1 : t < m.nx.length) : m.eqc.getD s.toNat 0 = m.eqc.getD t.toNat 0 ↔ EQV m s t := by
  constructor
  · intro h w hw
    exact stab_eqv hm (eqc_stab hm) w s t s0 s1 t0 t1 h hw
  · intro h
    obtain ⟨j, h1, _⟩ := eqc_stop hm
    rw [h1]
    exact eqv_cls hm j s.toNat t.toNat (by omega) (by omega) (by rw [Int.toNat_of_nonneg s0, Int.toNat_of_nonneg t0]; exact h)

theorem sigP_take (m : Mly) (cl : List Int) (a s : Nat) : (m.sigP cl a s).take 128 = m.sigP cl a s := List.take_of_length_le (by rw [sigP_len]; exact Nat.le_refl _)
theorem sigP_rng {m : Mly} (hm : MOK m) {cl : List Int} (hr : ∀ s, s < m.nx.length → 0 ≤ cl.getD s 0 ∧ cl.getD s 0 < m.nx.length) {a s : Nat} (hs : s < m.nx.length) (ha : (a : Int) ≤ m.inp) : KVok (.arr 128) (.arr (m.sigP cl a s)) := by
  refine ⟨sigP_len m cl a s, fun x hx => ?_⟩
  obtain ⟨i, hi, rfl⟩ := List.mem_map.1 hx
  have h2 := hm.n2
  split
  · have := hm.or s i hs (by omega); omega
  · split
    · have h1 := hm.nr s (i - 64) hs (by omega)
      have := hr ((m.nx.getD s []).getD (i - 64) 0).toNat (by omega)
      omega
    · omega
theorem next_old {m : Mly} {cl : List Int} {k : Nat} (hk : k < m.nx.length) (h : m.sig cl k ∈ difs (m.sig cl) k) : pos (difs (m.sig cl) m.nx.length) (m.sig cl k) = pos (difs (m.sig cl) k) (m.sig cl k) := by
  rw [difs_idx (m.sig cl) (i := k) (k := k + 1) (by omega) _ (by omega), difs_succ, addG_in h]
theorem next_new {m : Mly} {cl : List Int} {k : Nat} (hk : k < m.nx.length) (h : m.sig cl k ∉ difs (m.sig cl) k) : pos (difs (m.sig cl) m.nx.length) (m.sig cl k) = (difs (m.sig cl) k).length := by
  rw [difs_idx (m.sig cl) (i := k) (k := k + 1) (by omega) _ (by omega), difs_succ, addG_out h, pos_last h]
theorem stopF_at {m : Mly} {N j : Nat} (hj : j < N) (h : m.cnt (j + 1) = m.cnt j) (hq : ∀ q, q < j → m.cnt (q + 1) ≠ m.cnt q) : m.stopF N 0 = j := by
  rcases stopF_spec (m := m) N 0 with ⟨i, h1, h2, h3, h4, h5⟩ | ⟨h1, h2⟩
  · rw [h2]
    rcases Nat.lt_trichotomy i j with hlt | heq | hgt
    · exact absurd h4 (hq i hlt)
    · exact heq
    · exact absurd h (h5 j (by omega) hgt)
  · exact absurd h (h2 j (by omega) (by omega))
theorem stopF_end {m : Mly} {N : Nat} (hq : ∀ q, q < N → m.cnt (q + 1) ≠ m.cnt q) : m.stopF N 0 = N := by
  rcases stopF_spec (m := m) N 0 with ⟨i, h1, h2, h3, h4, h5⟩ | ⟨h1, h2⟩
  · exact absurd h4 (hq i (by omega))
  · omega
end Go.AV
namespace Go.AV
open Nat (reduceEqDiff reduceAdd reduceLeDiff reduceLT reduceMul reduceSub)
open List (set_cons_zero set_cons_succ)
/-plain-/
/-! ### the search through pairs of states -/
abbrev S3 := Int × Int × List Int
def encP (e : S3) : (Int × Int × Unit) × List Int × Unit := ((e.1, (e.2.1, ())), (e.2.2, ()))
def encR (e : S3) : Int × Int × List Int × Unit := (e.1, (e.2.1, (e.2.2, ())))
def inS (l : List S3) (p q : Int) : Bool := l.any fun f => decide (f.1 = p) && decide (f.2.1 = q)
def stS (a b : Mly) (e : S3) (l : List S3) (x : Nat) : List S3 := if inS l (a.nxt e.1 x) (b.nxt e.2.1 x) = true then l else l ++ [(a.nxt e.1 x, b.nxt e.2.1 x, e.2.2 ++ [(x : Int)])]
def difS (a b : Mly) (e : S3) (x : Nat) : Bool := !decide (a.out e.1 x = b.out e.2.1 x)
def rowS (a b : Mly) (e : S3) (l : List S3) (x : Nat) : List S3 := (List.range x).foldl (stS a b e) l
def eS0 : S3 := (0, 0, [])
def srS (a b : Mly) : Nat → Nat → List S3 → Option (List Int)
  | 0, _, _ => none
  | f + 1, i, l => if i < l.length then
      match (List.range a.inp.toNat).find? (difS a b (l.getD i eS0)) with
      | some x => some ((l.getD i eS0).2.2 ++ [(x : Int)])
      | none => srS a b f (i + 1) (rowS a b (l.getD i eS0) l a.inp.toNat)
    else none
def fuS (a b : Mly) : Nat := a.nx.length * b.nx.length + 1
def seS (a b : Mly) (s t : Int) : Option (List Int) := srS a b (fuS a b) 0 [(s, t, [])]
theorem inS_iff {l : List S3} {p q : Int} : inS l p q = true ↔ ∃ e, e ∈ l ∧ e.1 = p ∧ e.2.1 = q := by
  simp [inS, List.any_eq_true]
theorem rowS_succ (a b : Mly) (e : S3) (l : List S3) (x : Nat) : rowS a b e l (x + 1) = stS a b e (rowS a b e l x) x := by
  unfold rowS; rw [List.range_succ, List.foldl_append]; rfl
theorem stS_pre (a b : Mly) (e : S3) (l : List S3) (x : Nat) : ∃ k, stS a b e l x = l ++ k := by
  unfold stS
  split
  · exact ⟨[], by simp⟩
  · exact ⟨_, rfl⟩
theorem rowS_pre (a b : Mly) (e : S3) (l : List S3) : ∀ x, ∃ k, rowS a b e l x = l ++ k
  | 0 => ⟨[], by simp [rowS]⟩
  | x + 1 => by
    obtain ⟨k1, h1⟩ := rowS_pre a b e l x
    obtain ⟨k2, h2⟩ := stS_pre a b e (rowS a b e l x) x
    exact ⟨k1 ++ k2, by rw [rowS_succ, h2, h1, List.append_assoc]⟩
theorem rowS_at (a b : Mly) (e : S3) {l : List S3} (x : Nat) {i : Nat} (h : i < l.length) : (rowS a b e l x).getD i eS0 = l.getD i eS0 := by
  obtain ⟨k, hk⟩ := rowS_pre a b e l x
  rw [hk]; simp [List.getD, List.getElem?_append_left h]
theorem rowS_ge (a b : Mly) (e : S3) (l : List S3) (x : Nat) : l.length ≤ (rowS a b e l x).length := by
  obtain ⟨k, hk⟩ := rowS_pre a b e l x
  rw [hk]; simp

structure WFS (a b : Mly) (l : List S3) : Prop where
  rng : ∀ e, e ∈ l → (0 ≤ e.1 ∧ e.1 < a.nx.length) ∧ 0 ≤ e.2.1 ∧ e.2.1 < b.nx.length
  len : ∀ e, e ∈ l → e.2.2.length ≤ l.length
  nd : (l.map fun e => e.1 * (b.nx.length : Int) + e.2.1).Nodup
theorem WFS.at_ {a b : Mly} {l : List S3} (h : WFS a b l) {i : Nat} (hi : i < l.length) : (0 ≤ (l.getD i eS0).1 ∧ (l.getD i eS0).1 < a.nx.length) ∧ 0 ≤ (l.getD i eS0).2.1 ∧ (l.getD i eS0).2.1 < b.nx.length := by
  refine h.rng _ ?_
  simp [List.getD, hi]
theorem WFS.wl {a b : Mly} {l : List S3} (h : WFS a b l) {i : Nat} (hi : i < l.length) : (l.getD i eS0).2.2.length ≤ l.length := by
  refine h.len _ ?_
  simp [List.getD, hi]
theorem code_lt {p q n m : Int} (hp : 0 ≤ p ∧ p < n) (hq : 0 ≤ q ∧ q < m) : 0 ≤ p * m + q ∧ p * m + q < n * m := by
  have h1 : 0 ≤ p * m := Int.mul_nonneg hp.1 (by omega)
  have h2 : (p + 1) * m ≤ n * m := Int.mul_le_mul_of_nonneg_right (by omega) (by omega)
  rw [Int.add_mul, Int.one_mul] at h2
  omega
theorem code_inj {p q p' q' m : Int} (hq : 0 ≤ q ∧ q < m) (hq' : 0 ≤ q' ∧ q' < m) (e : p * m + q = p' * m + q') : p = p' ∧ q = q' := by
  have h1 : (p * m + q) / m = p := by rw [Int.add_comm, Int.add_mul_ediv_right _ _ (by omega), Int.ediv_eq_zero_of_lt hq.1 hq.2]; omega
  have h2 : (p' * m + q') / m = p' := by rw [Int.add_comm, Int.add_mul_ediv_right _ _ (by omega), Int.ediv_eq_zero_of_lt hq'.1 hq'.2]; omega
  have : p = p' := by rw [← h1, ← h2, e]
  subst this
  exact ⟨rfl, by omega⟩
theorem WFS.le {a b : Mly} {l : List S3} (h : WFS a b l) : l.length ≤ a.nx.length * b.nx.length := by
  have := nodup_len (a.nx.length * b.nx.length) _ h.nd (fun x hx => by
    obtain ⟨e, he, rfl⟩ := List.mem_map.1 hx
    have hr := h.rng e he
    have := code_lt hr.1 hr.2
    rw [Int.natCast_mul]; exact this)
  simpa using this
theorem WFS.big {a b : Mly} (ha : MOK a) (hb : MOK b) {l : List S3} (h : WFS a b l) : l.length ≤ 16384 := by
  have h1 := h.le
  have h2 : a.nx.length * b.nx.length ≤ 128 * 128 := Nat.mul_le_mul ha.n2 hb.n2
  omega
theorem WFS.step {a b : Mly} (ha : MOK a) (hb : MOK b) (hi : a.inp = b.inp) {l : List S3} (h : WFS a b l) {e : S3} (he : (0 ≤ e.1 ∧ e.1 < a.nx.length) ∧ 0 ≤ e.2.1 ∧ e.2.1 < b.nx.length) (hw : e.2.2.length ≤ l.length) {x : Nat} (hx : (x : Int) < a.inp) : WFS a b (stS a b e l x) := by
  unfold stS
  split
  · exact h
  · rename_i hn
    have n1 := ha.nr e.1.toNat x (by omega) hx
    have n2 := hb.nr e.2.1.toNat x (by omega) (by omega)
    have n1' : 0 ≤ a.nxt e.1 x ∧ a.nxt e.1 x < a.nx.length := by simpa [Mly.nxt] using n1
    have n2' : 0 ≤ b.nxt e.2.1 x ∧ b.nxt e.2.1 x < b.nx.length := by simpa [Mly.nxt] using n2
    refine ⟨fun f hf => ?_, fun f hf => ?_, ?_⟩
    · rcases List.mem_append.1 hf with hf | hf
      · exact h.rng f hf
      · simp at hf; subst hf; exact ⟨n1', n2'⟩
    · simp only [List.length_append, List.length_cons, List.length_nil]
      rcases List.mem_append.1 hf with hf | hf
      · have := h.len f hf; omega
      · simp at hf; subst hf; simp; omega
    · rw [List.map_append, List.nodup_append]
      refine ⟨h.nd, by simp, fun u hu v hv => ?_⟩
      simp at hv; subst hv
      intro e'
      obtain ⟨f, hf, rfl⟩ := List.mem_map.1 hu
      have hr := h.rng f hf
      obtain ⟨e1, e2⟩ := code_inj hr.2 n2' e'
      exact hn (inS_iff.2 ⟨f, hf, e1, e2⟩)
theorem WFS.row {a b : Mly} (ha : MOK a) (hb : MOK b) (hi : a.inp = b.inp) {l : List S3} (h : WFS a b l) {i : Nat} (hil : i < l.length) : ∀ x : Nat, (x : Int) ≤ a.inp → WFS a b (rowS a b (l.getD i eS0) l x)
  | 0, _ => by simpa [rowS] using h
  | x + 1, hx => by
    rw [rowS_succ]
    have h1 := WFS.row ha hb hi h hil x (by omega)
    have h2 := rowS_ge a b (l.getD i eS0) l x
    have h3 := h.wl hil
    exact h1.step ha hb hi (h.at_ hil) (by omega) (by omega)
theorem wfs_one {a b : Mly} {s t : Int} (hs : 0 ≤ s ∧ s < a.nx.length) (ht : 0 ≤ t ∧ t < b.nx.length) : WFS a b [(s, t, [])] :=
  ⟨fun e he => by simp at he; subst he; exact ⟨hs, ht⟩, fun e he => by simp at he; subst he; simp, by simp⟩
theorem find_none {p : Nat → Bool} {n : Nat} (h : ∀ x, x < n → p x = false) : (List.range n).find? p = none := by
  rw [List.find?_eq_none]
  intro x hx
  have := h x (by simpa using hx)
  simp [this]
theorem find_some {p : Nat → Bool} {n x : Nat} (hx : x < n) (hp : p x = true) (h : ∀ y, y < x → p y = false) : (List.range n).find? p = some x := by
  rw [List.find?_eq_some_iff_getElem]
  refine ⟨hp, x, by simpa using hx, by simp, fun j hj => ?_⟩
  simp [h j hj]
theorem srS_end (a b : Mly) (f i : Nat) (l : List S3) (h : l.length ≤ i) : srS a b f i l = none := by
  cases f with
  | zero => rfl
  | succ f => simp only [srS]; rw [if_neg (by omega)]
theorem srS_next {a b : Mly} {f i : Nat} {l : List S3} (h : i < l.length) (hd : ∀ x, x < a.inp.toNat → difS a b (l.getD i eS0) x = false) : srS a b (f + 1) i l = srS a b f (i + 1) (rowS a b (l.getD i eS0) l a.inp.toNat) := by
  simp only [srS]; rw [if_pos h, find_none hd]
theorem srS_found {a b : Mly} {f i x : Nat} {l : List S3} (h : i < l.length) (hx : x < a.inp.toNat) (hp : difS a b (l.getD i eS0) x = true) (hd : ∀ y, y < x → difS a b (l.getD i eS0) y = false) : srS a b (f + 1) i l = some ((l.getD i eS0).2.2 ++ [(x : Int)]) := by
  simp only [srS]; rw [if_pos h, find_some hx hp hd]

/-! ### what it means -/
def EQ2 (a b : Mly) (s t : Int) : Prop := ∀ w : List Int, (∀ i : Nat, i < w.length → 0 ≤ w.getD i 0 ∧ w.getD i 0 < a.inp) → (a.go s w).2 = (b.go t w).2
structure TRS (a b : Mly) (s t : Int) (e : S3) : Prop where
  sy : ∀ i : Nat, i < e.2.2.length → 0 ≤ e.2.2.getD i 0 ∧ e.2.2.getD i 0 < a.inp
  l : (a.go s e.2.2).1 = e.1
  r : (b.go t e.2.2).1 = e.2.1
  o : (a.go s e.2.2).2 = (b.go t e.2.2).2
theorem syms_app {w : List Int} {x n : Int} (h : ∀ i : Nat, i < w.length → 0 ≤ w.getD i 0 ∧ w.getD i 0 < n) (hx : 0 ≤ x ∧ x < n) : ∀ i : Nat, i < (w ++ [x]).length → 0 ≤ (w ++ [x]).getD i 0 ∧ (w ++ [x]).getD i 0 < n := by
  intro i hi
  by_cases e : i < w.length
  · have := h i e
    simpa [List.getD, List.getElem?_append_left e] using this
  · have : i = w.length := by simp at hi; omega
    subst this
    simpa [List.getD] using hx
theorem TRS.next {a b : Mly} {s t : Int} {e : S3} (h : TRS a b s t e) {x : Nat} (hx : (x : Int) < a.inp) (hd : difS a b e x = false) : TRS a b s t (a.nxt e.1 x, b.nxt e.2.1 x, e.2.2 ++ [(x : Int)]) := by
  have ho : a.out e.1 x = b.out e.2.1 x := by simpa [difS] using hd
  refine ⟨syms_app h.sy ⟨by omega, hx⟩, ?_, ?_, ?_⟩
  · show (a.go s (e.2.2 ++ [(x : Int)])).1 = _
    rw [go_concat, h.l]
  · show (b.go t (e.2.2 ++ [(x : Int)])).1 = _
    rw [go_concat, h.r]
  · show (a.go s (e.2.2 ++ [(x : Int)])).2 = (b.go t (e.2.2 ++ [(x : Int)])).2
    rw [go_concat, go_concat, h.l, h.r, h.o, ho]
theorem rowS_trs {a b : Mly} {s t : Int} {e : S3} {l : List S3} (hl : ∀ f, f ∈ l → TRS a b s t f) (he : TRS a b s t e) : ∀ x : Nat, (x : Int) ≤ a.inp → (∀ y, y < x → difS a b e y = false) → ∀ f, f ∈ rowS a b e l x → TRS a b s t f
  | 0, _, _, f, hf => hl f (by simpa [rowS] using hf)
  | x + 1, hx, hd, f, hf => by
    rw [rowS_succ] at hf
    unfold stS at hf
    split at hf
    · exact rowS_trs hl he x (by omega) (fun y hy => hd y (by omega)) f hf
    · rcases List.mem_append.1 hf with hf | hf
      · exact rowS_trs hl he x (by omega) (fun y hy => hd y (by omega)) f hf
      · simp at hf; subst hf
        exact he.next (by omega) (hd x (by omega))
/-- A word that is found separates. -/
theorem srS_sound {a b : Mly} {s t : Int} : ∀ (f i : Nat) (l : List S3), (∀ e, e ∈ l → TRS a b s t e) → ∀ w, srS a b f i l = some w → (∀ i : Nat, i < w.length → 0 ≤ w.getD i 0 ∧ w.getD i 0 < a.inp) ∧ (a.go s w).2 ≠ (b.go t w).2 ∧ w ≠ []
  | 0, _, _, _, w, h => by cases h
  | f + 1, i, l, hl, w, h => by
    simp only [srS] at h
    split at h
    · rename_i hi
      have he : TRS a b s t (l.getD i eS0) := hl _ (by simp [List.getD, hi])
      split at h
      · rename_i x hx
        simp only [Option.some.injEq] at h; subst h
        have h1 := List.find?_some hx
        have h2 : x < a.inp.toNat := by simpa using List.mem_of_find?_eq_some hx
        refine ⟨syms_app he.sy ⟨by omega, by omega⟩, ?_, by simp⟩
        rw [go_concat, go_concat, he.l, he.r, he.o]
        intro hh
        have := (List.append_cancel_left hh)
        simp at this
        simp [difS, this] at h1
      · rename_i hx
        have hd : ∀ y, y < a.inp.toNat → difS a b (l.getD i eS0) y = false := fun y hy => by
          have := List.find?_eq_none.1 hx y (by simpa using hy)
          simpa using this
        by_cases hin : 0 ≤ a.inp
        · exact srS_sound f (i + 1) _ (rowS_trs hl he a.inp.toNat (by omega) hd) w h
        · have : rowS a b (l.getD i eS0) l a.inp.toNat = l := by rw [show a.inp.toNat = 0 by omega]; rfl
          rw [this] at h
          exact srS_sound f (i + 1) l hl w h
    · cases h
theorem trs_one (a b : Mly) (s t : Int) : ∀ e, e ∈ [((s, t, []) : S3)] → TRS a b s t e := fun e he => by
  simp at he; subst he
  exact ⟨fun i hi => by simp at hi, rfl, rfl, rfl⟩
theorem seS_sound {a b : Mly} {s t : Int} {w : List Int} (h : seS a b s t = some w) : (∀ i : Nat, i < w.length → 0 ≤ w.getD i 0 ∧ w.getD i 0 < a.inp) ∧ (a.go s w).2 ≠ (b.go t w).2 ∧ w ≠ [] := srS_sound _ _ _ (trs_one a b s t) w h
/-- The pairs from which nothing was found are closed. -/
def CLS (a b : Mly) (i : Nat) (l : List S3) : Prop := ∀ j, j < i → j < l.length → ∀ x : Nat, (x : Int) < a.inp → difS a b (l.getD j eS0) x = false ∧ inS l (a.nxt (l.getD j eS0).1 x) (b.nxt (l.getD j eS0).2.1 x) = true
theorem inS_app {l k : List S3} {p q : Int} (h : inS l p q = true) : inS (l ++ k) p q = true := by
  obtain ⟨e, he, h1, h2⟩ := inS_iff.1 h
  exact inS_iff.2 ⟨e, by simp [he], h1, h2⟩
theorem rowS_in {a b : Mly} {e : S3} {l : List S3} : ∀ (x y : Nat), y < x → inS (rowS a b e l x) (a.nxt e.1 y) (b.nxt e.2.1 y) = true
  | 0, y, h => by omega
  | x + 1, y, h => by
    rw [rowS_succ]
    by_cases hy : y = x
    · subst hy
      unfold stS
      split
      · rename_i hin; exact hin
      · exact inS_iff.2 ⟨_, List.mem_append_right _ (by simp; rfl), rfl, rfl⟩
    · obtain ⟨k, hk⟩ := stS_pre a b e (rowS a b e l x) x
      rw [hk]
      exact inS_app (rowS_in x y (by omega))
theorem srS_none {a b : Mly} (ha : MOK a) (hb : MOK b) (hi : a.inp = b.inp) : ∀ (f i : Nat) (l : List S3), WFS a b l → a.nx.length * b.nx.length < f + i → CLS a b i l → srS a b f i l = none → ∃ L, (∃ k, L = l ++ k) ∧ CLS a b L.length L
  | 0, i, l, hl, hf, hc, _ => by
    have := hl.le
    exact ⟨l, ⟨[], by simp⟩, fun j hj hj2 => hc j (by omega) hj2⟩
  | f + 1, i, l, hl, hf, hc, h => by
    simp only [srS] at h
    split at h
    · rename_i hil
      split at h
      · cases h
      · rename_i hx
        have hd : ∀ y, y < a.inp.toNat → difS a b (l.getD i eS0) y = false := fun y hy => by
          have := List.find?_eq_none.1 hx y (by simpa using hy)
          simpa using this
        have hi1 := ha.i1
        obtain ⟨k, hk⟩ := rowS_pre a b (l.getD i eS0) l a.inp.toNat
        obtain ⟨L, ⟨k2, hk2⟩, hL⟩ := srS_none ha hb hi f (i + 1) _ (hl.row ha hb hi hil a.inp.toNat (by omega)) (by omega) (fun j hj hjl x hx => by
          by_cases e : j = i
          · subst e
            rw [rowS_at a b _ _ hil]
            exact ⟨hd x (by omega), rowS_in a.inp.toNat x (by omega)⟩
          · have hjl2 : j < l.length := by omega
            rw [rowS_at a b _ _ hjl2]
            have := hc j (by omega) hjl2 x hx
            refine ⟨this.1, ?_⟩
            rw [hk]; exact inS_app this.2) h
        exact ⟨L, ⟨k ++ k2, by rw [hk2, hk, List.append_assoc]⟩, hL⟩
    · rename_i hil
      exact ⟨l, ⟨[], by simp⟩, fun j hj hj2 => hc j (by omega) hj2⟩
theorem cls_eq2 {a b : Mly} {L : List S3} (hL : CLS a b L.length L) : ∀ (w : List Int) (j : Nat), j < L.length → (∀ i : Nat, i < w.length → 0 ≤ w.getD i 0 ∧ w.getD i 0 < a.inp) → (a.go (L.getD j eS0).1 w).2 = (b.go (L.getD j eS0).2.1 w).2
  | [], _, _, _ => rfl
  | x :: w, j, hj, hw => by
    obtain ⟨hx, hw'⟩ := syms_tail hw
    rw [go_cons, go_cons]
    have h1 := hL j hj hj x.toNat (by omega)
    rw [Int.toNat_of_nonneg hx.1] at h1
    have ho : a.out (L.getD j eS0).1 x = b.out (L.getD j eS0).2.1 x := by
      have := h1.1
      simp only [difS, Int.toNat_of_nonneg hx.1] at this
      simpa using this
    obtain ⟨f, hf, e1, e2⟩ := inS_iff.1 h1.2
    obtain ⟨q, hq⟩ := List.getElem?_of_mem hf
    have hql := (List.getElem?_eq_some_iff.1 hq).1
    have hqd : L.getD q eS0 = f := by simp [List.getD, hq]
    have ih := cls_eq2 hL w q hql hw'
    rw [hqd, e1, e2] at ih
    show _ :: _ = _ :: _
    rw [ho, ih]
theorem seS_none {a b : Mly} (ha : MOK a) (hb : MOK b) (hi : a.inp = b.inp) {s t : Int} (hs : 0 ≤ s ∧ s < a.nx.length) (ht : 0 ≤ t ∧ t < b.nx.length) (h : seS a b s t = none) : EQ2 a b s t := by
  obtain ⟨L, ⟨k, hk⟩, hL⟩ := srS_none ha hb hi (fuS a b) 0 _ (wfs_one hs ht) (by unfold fuS; omega) (fun j hj => by omega) h
  intro w hw
  have := cls_eq2 hL w 0 (by rw [hk]; simp) hw
  rw [hk] at this
  exact this
theorem seS_iff {a b : Mly} (ha : MOK a) (hb : MOK b) (hi : a.inp = b.inp) {s t : Int} (hs : 0 ≤ s ∧ s < a.nx.length) (ht : 0 ≤ t ∧ t < b.nx.length) : seS a b s t = none ↔ EQ2 a b s t := by
  refine ⟨seS_none ha hb hi hs ht, fun h => ?_⟩
  cases hw : seS a b s t with
  | none => rfl
  | some w => exact absurd (h w (seS_sound hw).1) (seS_sound hw).2.1

end Go.AV
namespace Go.AV
open Nat (reduceEqDiff reduceAdd reduceLeDiff reduceLT reduceMul reduceSub)
open List (set_cons_zero set_cons_succ)
/-plain-/
/-! ### lists of classes -/
def cN (cl : List Int) : Nat → Int
  | 0 => 0
  | k + 1 => max (cN cl k) (cl.getD k 0 + 1)
def cBad (cl : List Int) (k : Nat) : Bool := decide (cl.getD k 0 < 0) || decide (cN cl k < cl.getD k 0)
def cntE (cl : List Int) : Int := if cl.length < 1 ∨ 64 < cl.length then 2 else if (List.range cl.length).any (cBad cl) = true then 1 else 0
def cntK (cl : List Int) : Int := if cntE cl = 0 then cN cl cl.length else 0
theorem cBad_no {cl : List Int} {k : Nat} (h1 : 0 ≤ cl.getD k 0) (h2 : cl.getD k 0 ≤ cN cl k) : cBad cl k = false := by
  unfold cBad; rw [decide_eq_false (by omega), decide_eq_false (by omega)]; rfl
theorem cBad_yes {cl : List Int} {k : Nat} (h : cl.getD k 0 < 0 ∨ cN cl k < cl.getD k 0) : cBad cl k = true := by
  unfold cBad; simp only [Bool.or_eq_true, decide_eq_true_eq]; exact h
theorem cntE_size {cl : List Int} (h : cl.length < 1 ∨ 64 < cl.length) : cntE cl = 2 := by unfold cntE; rw [if_pos h]
theorem cntE_bad {cl : List Int} (h : ¬ (cl.length < 1 ∨ 64 < cl.length)) {k : Nat} (hk : k < cl.length) (hb : cBad cl k = true) : cntE cl = 1 := by
  unfold cntE; rw [if_neg h, if_pos (List.any_eq_true.2 ⟨k, by simpa using hk, hb⟩)]
theorem cntE_ok {cl : List Int} (h : ¬ (cl.length < 1 ∨ 64 < cl.length)) (hb : ∀ k, k < cl.length → cBad cl k = false) : cntE cl = 0 := by
  unfold cntE; rw [if_neg h, if_neg]
  intro hh
  obtain ⟨k, hk, hc⟩ := List.any_eq_true.1 hh
  rw [hb k (by simpa using hk)] at hc
  cases hc
theorem cN_le {cl : List Int} (hb : ∀ q, q < cl.length → cBad cl q = false) : ∀ k, k ≤ cl.length → 0 ≤ cN cl k ∧ cN cl k ≤ k
  | 0, _ => ⟨Int.le_refl _, Int.le_refl _⟩
  | k + 1, hk => by
    have ih := cN_le hb k (by omega)
    have := hb k (by omega)
    simp only [cBad, Bool.or_eq_false_iff, decide_eq_false_iff_not] at this
    simp only [cN]; omega
theorem cN_le' {cl : List Int} {k : Nat} (hb : ∀ q, q < k → cBad cl q = false) : 0 ≤ cN cl k ∧ cN cl k ≤ k := by
  induction k with
  | zero => exact ⟨Int.le_refl _, Int.le_refl _⟩
  | succ k ih =>
    have h1 := ih fun q hq => hb q (by omega)
    have := hb k (by omega)
    simp only [cBad, Bool.or_eq_false_iff, decide_eq_false_iff_not] at this
    simp only [cN]; omega
theorem cntE_zero {cl : List Int} (h : cntE cl = 0) : (1 ≤ cl.length ∧ cl.length ≤ 64) ∧ ∀ k, k < cl.length → cBad cl k = false := by
  unfold cntE at h
  split at h
  · omega
  · rename_i h1
    split at h
    · omega
    · rename_i h2
      refine ⟨by omega, fun k hk => ?_⟩
      cases hc : cBad cl k with
      | false => rfl
      | true => exact absurd (List.any_eq_true.2 ⟨k, by simpa using hk, hc⟩) h2
def chkE (m : Mly) (cl : List Int) : Int := if validE m ≠ 0 then validE m else if cntE cl ≠ 0 then cntE cl else if (cl.length : Int) = m.inp then 0 else 15
structure COK (m : Mly) (cl : List Int) : Prop where
  ok : MOK m
  ce : cntE cl = 0
  len : (cl.length : Int) = m.inp
theorem cok_of {m : Mly} {cl : List Int} (h : chkE m cl = 0) : COK m cl := by
  unfold chkE at h
  split at h
  · contradiction
  · rename_i h1
    split at h
    · contradiction
    · rename_i h2
      split at h
      · rename_i h3; exact ⟨mok_of (Decidable.not_not.1 h1), Decidable.not_not.1 h2, h3⟩
      · omega

/-! ### states with their access words -/
abbrev S2 := Int × List Int
def eX0 : S2 := (0, [])
def fstX (l : List S2) : List Int := l.map (·.1)
def sndX (l : List S2) : List (List Int) := l.map (·.2)
def stX (m : Mly) (e : S2) (l : List S2) (x : Nat) : List S2 := if (m.row e.1).getD x 0 ∈ fstX l then l else l ++ [((m.row e.1).getD x 0, e.2 ++ [(x : Int)])]
def rowX (m : Mly) (e : S2) (l : List S2) (x : Nat) : List S2 := (List.range x).foldl (stX m e) l
def exF (m : Mly) : Nat → Nat → List S2 → List S2
  | 0, _, l => l
  | f + 1, i, l => if i < l.length then exF m f (i + 1) (rowX m (l.getD i eX0) l m.inp.toNat) else l
def Mly.exR (m : Mly) : List S2 := exF m (m.nx.length + 1) 0 [(m.st, [])]
theorem rowX_succ (m : Mly) (e : S2) (l : List S2) (x : Nat) : rowX m e l (x + 1) = stX m e (rowX m e l x) x := by
  unfold rowX; rw [List.range_succ, List.foldl_append]; rfl
theorem stX_pre (m : Mly) (e : S2) (l : List S2) (x : Nat) : ∃ k, stX m e l x = l ++ k := by
  unfold stX
  split
  · exact ⟨[], by simp⟩
  · exact ⟨_, rfl⟩
theorem rowX_pre (m : Mly) (e : S2) (l : List S2) : ∀ x, ∃ k, rowX m e l x = l ++ k
  | 0 => ⟨[], by simp [rowX]⟩
  | x + 1 => by
    obtain ⟨k1, h1⟩ := rowX_pre m e l x
    obtain ⟨k2, h2⟩ := stX_pre m e (rowX m e l x) x
    exact ⟨k1 ++ k2, by rw [rowX_succ, h2, h1, List.append_assoc]⟩
theorem rowX_at (m : Mly) (e : S2) {l : List S2} (x : Nat) {i : Nat} (h : i < l.length) : (rowX m e l x).getD i eX0 = l.getD i eX0 := by
  obtain ⟨k, hk⟩ := rowX_pre m e l x
  rw [hk]; simp [List.getD, List.getElem?_append_left h]
theorem rowX_ge (m : Mly) (e : S2) (l : List S2) (x : Nat) : l.length ≤ (rowX m e l x).length := by
  obtain ⟨k, hk⟩ := rowX_pre m e l x
  rw [hk]; simp
theorem exF_pre (m : Mly) : ∀ (f i : Nat) (l : List S2), ∃ k, exF m f i l = l ++ k
  | 0, i, l => ⟨[], by simp [exF]⟩
  | f + 1, i, l => by
    simp only [exF]
    split
    · obtain ⟨k1, h1⟩ := rowX_pre m (l.getD i eX0) l m.inp.toNat
      obtain ⟨k2, h2⟩ := exF_pre m f (i + 1) (rowX m (l.getD i eX0) l m.inp.toNat)
      exact ⟨k1 ++ k2, by rw [h2, h1, List.append_assoc]⟩
    · exact ⟨[], by simp⟩
theorem exF_end (m : Mly) (f i : Nat) (l : List S2) (h : l.length ≤ i) : exF m f i l = l := by
  cases f with
  | zero => rfl
  | succ f => simp only [exF]; rw [if_neg (by omega)]
theorem exF_step (m : Mly) (f i : Nat) (l : List S2) (h : i < l.length) : exF m (f + 1) i l = exF m f (i + 1) (rowX m (l.getD i eX0) l m.inp.toNat) := by
  simp only [exF]; rw [if_pos h]
structure WFX (m : Mly) (l : List S2) : Prop where
  rs : RSet m.nx.length (fstX l)
  wl : ∀ e, e ∈ l → e.2.length ≤ l.length
theorem fstX_len (l : List S2) : (fstX l).length = l.length := by simp [fstX]
theorem sndX_len (l : List S2) : (sndX l).length = l.length := by simp [sndX]
theorem fstX_at {l : List S2} {i : Nat} (h : i < l.length) : (fstX l).getD i 0 = (l.getD i eX0).1 := by simp [fstX, List.getD, h]
theorem sndX_at {l : List S2} {i : Nat} (h : i < l.length) : (sndX l).getD i [] = (l.getD i eX0).2 := by simp [sndX, List.getD, h]
theorem WFX.le {m : Mly} {l : List S2} (h : WFX m l) : l.length ≤ m.nx.length := by have := h.rs.len; rwa [fstX_len] at this
theorem WFX.at_ {m : Mly} {l : List S2} (h : WFX m l) {i : Nat} (hi : i < l.length) : 0 ≤ (l.getD i eX0).1 ∧ (l.getD i eX0).1 < m.nx.length := by
  rw [← fstX_at hi]; exact h.rs.at_ (by rw [fstX_len]; exact hi)
theorem mem_X {l : List S2} {i : Nat} (h : i < l.length) : l.getD i eX0 ∈ l := by simp [List.getD, h]
theorem WFX.step {m : Mly} (hm : MOK m) {l : List S2} (h : WFX m l) {e : S2} (he : 0 ≤ e.1 ∧ e.1 < m.nx.length) (hw : e.2.length ≤ l.length) {x : Nat} (hx : (x : Int) < m.inp) : WFX m (stX m e l x) := by
  unfold stX
  split
  · exact h
  · rename_i hn
    have n1 := hm.nr e.1.toNat x (by omega) hx
    refine ⟨?_, fun f hf => ?_⟩
    · have e1 : fstX (l ++ [((m.row e.1).getD x 0, e.2 ++ [(x : Int)])]) = addS (fstX l) ((m.row e.1).getD x 0) := by rw [addS_out hn]; simp [fstX]
      rw [e1]
      exact h.rs.add n1.1 n1.2
    · simp only [List.length_append, List.length_cons, List.length_nil]
      rcases List.mem_append.1 hf with hf | hf
      · have := h.wl f hf; omega
      · simp at hf; subst hf; simp; omega
theorem WFX.row {m : Mly} (hm : MOK m) {l : List S2} (h : WFX m l) {i : Nat} (hil : i < l.length) : ∀ x : Nat, (x : Int) ≤ m.inp → WFX m (rowX m (l.getD i eX0) l x)
  | 0, _ => by simpa [rowX] using h
  | x + 1, hx => by
    rw [rowX_succ]
    have h1 := WFX.row hm h hil x (by omega)
    have h2 := rowX_ge m (l.getD i eX0) l x
    have h3 := h.wl _ (mem_X hil)
    exact h1.step hm (h.at_ hil) (by omega) (by omega)
theorem wfx_one {m : Mly} (hm : MOK m) : WFX m [(m.st, [])] := ⟨rset_one hm, fun e he => by simp at he; subst he; simp⟩
theorem wfx_exF {m : Mly} (hm : MOK m) : ∀ (f i : Nat) (l : List S2), WFX m l → WFX m (exF m f i l)
  | 0, _, _, h => h
  | f + 1, i, l, h => by
    simp only [exF]
    split
    · rename_i hi
      have hi1 := hm.i1
      exact wfx_exF hm f (i + 1) _ (h.row hm hi m.inp.toNat (by omega))
    · exact h
theorem wfx_exR {m : Mly} (hm : MOK m) : WFX m m.exR := wfx_exF hm _ _ _ (wfx_one hm)
theorem fst_row (m : Mly) (e : S2) (l : List S2) : ∀ x, x ≤ (m.row e.1).length → fstX (rowX m e l x) = ((m.row e.1).take x).foldl addS (fstX l)
  | 0, _ => by simp [rowX]
  | x + 1, hx => by
    rw [rowX_succ, take_succ_D (by omega), List.foldl_append, ← fst_row m e l x (by omega)]
    simp only [List.foldl_cons, List.foldl_nil]
    unfold stX
    by_cases hh : (m.row e.1).getD x 0 ∈ fstX (rowX m e l x)
    · rw [if_pos hh, addS_in hh]
    · rw [if_neg hh, addS_out hh]; simp [fstX]
theorem fst_exF {m : Mly} (hm : MOK m) : ∀ (f i : Nat) (l : List S2), WFX m l → fstX (exF m f i l) = m.rf f i (fstX l)
  | 0, _, _, _ => rfl
  | f + 1, i, l, h => by
    simp only [exF, Mly.rf, fstX_len]
    split
    · rename_i hi
      have hi1 := hm.i1
      have hr := h.at_ hi
      have hl : ((m.row (l.getD i eX0).1).length : Int) = m.inp := hm.rl (l.getD i eX0).1.toNat (by omega)
      rw [fst_exF hm f (i + 1) _ (h.row hm hi m.inp.toNat (by omega)), fst_row m _ _ _ (by omega), fstX_at hi, List.take_of_length_le (by omega)]
    · rfl
theorem fst_exR {m : Mly} (hm : MOK m) : fstX m.exR = m.reach := by
  rw [reach_ok (validE_of hm)]; exact fst_exF hm _ _ _ (wfx_one hm)

/-! ### inputs that agree -/
def agrS (m : Mly) (s : Int) (c d : Nat) : Bool := decide (m.out s c = m.out s d) && decide (m.eqc.getD (m.nxt s c).toNat 0 = m.eqc.getD (m.nxt s d).toNat 0)
/-- The first place, in the order of the text. -/
def parS (m : Mly) (cl : List Int) (s : Int) (c d : Nat) : Bool := decide (cl.getD c 0 = cl.getD d 0) && !agrS m s c d
def finD (m : Mly) (cl : List Int) (s : Int) (c : Nat) : Option Nat := (List.range cl.length).find? fun d => decide (c < d) && parS m cl s c d
def finC (m : Mly) (cl : List Int) (s : Int) : Option (Nat × Nat) := (List.range cl.length).findSome? fun c => (finD m cl s c).map fun d => (c, d)
def finI (m : Mly) (cl : List Int) : Option (Nat × Nat × Nat) := (List.range m.exR.length).findSome? fun i => (finC m cl (m.exR.getD i eX0).1).map fun p => (i, p.1, p.2)
theorem fsome {α : Type} {f : Nat → Option α} {n k : Nat} {y : α} (hk : k < n) (h : ∀ q, q < k → f q = none) (e : f k = some y) : (List.range n).findSome? f = some y := by
  have : ∀ (l : List Nat) (r : List Nat), (∀ q, q ∈ l → f q = none) → (l ++ k :: r).findSome? f = some y := by
    intro l
    induction l with
    | nil => intro r _; simp [e]
    | cons a l ih => intro r hl; simp only [List.cons_append, List.findSome?_cons, hl a (by simp)]; exact ih r fun q hq => hl q (by simp [hq])
  have hr : List.range n = List.range k ++ k :: (List.range' (k + 1) (n - (k + 1))) := by
    rw [List.range_eq_range', List.range_eq_range', show n = k + (1 + (n - (k + 1))) by omega, ← List.range'_append_1, Nat.zero_add]
    congr 1
    rw [Nat.add_comm 1, List.range'_succ]
    congr 2; omega
  rw [hr]
  exact this _ _ fun q hq => h q (by simpa using hq)
theorem fnone {α : Type} {f : Nat → Option α} {n : Nat} (h : ∀ q, q < n → f q = none) : (List.range n).findSome? f = none := by
  rw [List.findSome?_eq_none_iff]
  intro q hq
  exact h q (by simpa using hq)
theorem finD_some {m : Mly} {cl : List Int} {s : Int} {c d : Nat} (hc : c < d) (hd : d < cl.length) (hp : parS m cl s c d = true) (h : ∀ q, c < q → q < d → parS m cl s c q = false) : finD m cl s c = some d := by
  unfold finD
  refine find_some hd (by simp [hc, hp]) fun y hy => ?_
  by_cases e : c < y
  · simp [h y e hy]
  · simp [e]
theorem finD_none {m : Mly} {cl : List Int} {s : Int} {c : Nat} (h : ∀ q, c < q → q < cl.length → parS m cl s c q = false) : finD m cl s c = none := by
  unfold finD
  refine find_none fun y hy => ?_
  by_cases e : c < y
  · simp [h y e hy]
  · simp [e]
theorem stX_out {m : Mly} {e : S2} {l : List S2} {x : Nat} (h : (m.row e.1).getD x 0 ∉ fstX l) : fstX (stX m e l x) = fstX l ++ [(m.row e.1).getD x 0] ∧ sndX (stX m e l x) = sndX l ++ [e.2 ++ [(x : Int)]] := by
  unfold stX; rw [if_neg h]; simp [fstX, sndX]
theorem stX_in {m : Mly} {e : S2} {l : List S2} {x : Nat} (h : (m.row e.1).getD x 0 ∈ fstX l) : stX m e l x = l := by unfold stX; rw [if_pos h]
def f3 (r : Option (Nat × Nat × Nat)) : Int × Int × Int := match r with | some p => (p.1, p.2.1, p.2.2) | none => (0, 0, 0)

/-! ### numbers of classes -/
def idxB (p : Int → Bool) (xs : List Int) : Int := match xs.findIdx? p with | some i => (i : Int) | none => -1
theorem idxB_at {p : Int → Bool} {xs : List Int} {k : Nat} (hk : k < xs.length) (h : ∀ q, q < k → p (xs.getD q 0) = false) (hp : p (xs.getD k 0) = true) : idxB p xs = k := by
  unfold idxB
  have : xs.findIdx? p = some k := by
    rw [List.findIdx?_eq_some_iff_getElem]
    refine ⟨hk, ?_, fun j hj => ?_⟩
    · simpa [List.getD, List.getElem?_eq_getElem hk] using hp
    · have := h j hj
      simpa [List.getD, List.getElem?_eq_getElem (Nat.lt_trans hj hk)] using this
  rw [this]
theorem idxB_none {p : Int → Bool} {xs : List Int} (h : ∀ q, q < xs.length → p (xs.getD q 0) = false) : idxB p xs = -1 := by
  unfold idxB
  have : xs.findIdx? p = none := by
    rw [List.findIdx?_eq_none_iff]
    intro a ha
    obtain ⟨i, hi⟩ := List.getElem?_of_mem ha
    have := h i (List.getElem?_eq_some_iff.1 hi).1
    simpa [List.getD, hi] using this
  rw [this]
theorem idxB_lt (p : Int → Bool) (xs : List Int) : -1 ≤ idxB p xs ∧ idxB p xs < xs.length := by
  unfold idxB
  cases h : xs.findIdx? p with
  | none => simp; omega
  | some i =>
    have := (List.findIdx?_eq_some_iff_getElem.1 h).1
    simp; omega
/-- The numbers so far, and the first element of each class. -/
def nmS (T : Nat → Nat → Bool) : Nat → List Int × List Int
  | 0 => ([], [])
  | c + 1 => if idxB (fun d => T d.toNat c) (nmS T c).2 < 0 then ((nmS T c).1 ++ [((nmS T c).2.length : Int)], (nmS T c).2 ++ [(c : Int)])
    else ((nmS T c).1 ++ [idxB (fun d => T d.toNat c) (nmS T c).2], (nmS T c).2)
theorem nmS_new {T : Nat → Nat → Bool} {c : Nat} (h : idxB (fun d => T d.toNat c) (nmS T c).2 < 0) : nmS T (c + 1) = ((nmS T c).1 ++ [((nmS T c).2.length : Int)], (nmS T c).2 ++ [(c : Int)]) := by
  show (if _ then _ else _) = _
  rw [if_pos h]
theorem nmS_old {T : Nat → Nat → Bool} {c : Nat} (h : ¬ idxB (fun d => T d.toNat c) (nmS T c).2 < 0) : nmS T (c + 1) = ((nmS T c).1 ++ [idxB (fun d => T d.toNat c) (nmS T c).2], (nmS T c).2) := by
  show (if _ then _ else _) = _
  rw [if_neg h]
theorem nmS_rng (T : Nat → Nat → Bool) : ∀ c, (nmS T c).1.length = c ∧ (nmS T c).2.length ≤ c ∧ ∀ x, x ∈ (nmS T c).2 → 0 ≤ x ∧ x < c
  | 0 => ⟨rfl, Nat.le_refl _, fun x h => by cases h⟩
  | c + 1 => by
    obtain ⟨h1, h2, h3⟩ := nmS_rng T c
    by_cases h : idxB (fun d => T d.toNat c) (nmS T c).2 < 0
    · rw [nmS_new h]
      refine ⟨by rw [List.length_append, h1]; rfl, by rw [List.length_append]; exact Nat.add_le_add_right h2 1, fun x hx => ?_⟩
      rcases List.mem_append.1 hx with hx | hx
      · have := h3 x hx; omega
      · have hxc : x = (c : Int) := by simpa using hx
        omega
    · rw [nmS_old h]
      refine ⟨by rw [List.length_append, h1]; rfl, Nat.le_succ_of_le h2, fun x hx => ?_⟩
      have := h3 x hx; omega
def togB (m : Mly) (c d : Nat) : Bool := !decide (0 ≤ idxB (fun s => !agrS m s c d) (fstX m.exR))
def spl (m : Mly) (cl : List Int) (p : Nat × Nat × Nat) (c d : Nat) : Bool := decide (cl.getD c 0 = cl.getD d 0) && (!decide (cl.getD c 0 = cl.getD p.2.1 0) || agrS m (m.exR.getD p.1 eX0).1 c d)
theorem map_capAV (ds : List ((t : Ty) × t.den)) : (ds.map fun p => Cap.pat p.1 p.2).map capAV = ds.map fun p => AV.one (.pat p.1 p.2 0) := by simp [capAV]
end Go.AV
namespace Go.AV
open Nat (reduceEqDiff reduceAdd reduceLeDiff reduceLT reduceMul reduceSub)
open List (set_cons_zero set_cons_succ)
/-plain-/
def runLm (m : Mly) : List Int := if validE m = 0 then (nmS (togB m) m.inp.toNat).1 else []
def runNm (m : Mly) : Int := if validE m = 0 then ((nmS (togB m) m.inp.toNat).2.length : Int) else 0
end Go.AV
namespace Go.Proofs.Ytceafldjjedhcaa
open Go Go.AV
open Nat (reduceEqDiff reduceAdd reduceLeDiff reduceLT reduceMul reduceSub)
open List (set_cons_zero set_cons_succ)
set_option maxRecDepth 100000 in
theorem mnext_c (m : Mly) (cl : List Int) (hm : MOK m) (hl : cl.length = m.nx.length) (hr : ∀ s, s < m.nx.length → 0 ≤ cl.getD s 0 ∧ cl.getD s 0 < m.nx.length) : PURE Try.prog 67 [m.av, .one (.list (.int .i64) cl)] (.tup [.one (.list (.int .i64) (m.nextL cl)), .one (.int .i64 (m.nextN cl))]) := by
  have hn2 := hm.n2; have hi2 := hm.i2; have hi1 := hm.i1; have hol := hm.ol
  refine pure_of_le Try.func67 rfl (by kernel_rfl) (Nat.le_of_ble_eq_true rfl) rfl fun C hP hN hB => ?_
  replace hN : C.N = 73 := hN
  simp only [argEnv, reduceAdd]
  refine awp_seq_k fun K1 hK1 => ?_
  refine awp_reg hP hN rfl ?_
  iterate 3 (refine rg_step rfl fun K0 hK0 => ?_; simp only [zE, op1, ev, lkp, avOf, acOf, opBox, cellsAV, reduceCtorEq, reduceEqDiff, reduceAdd, reduceLeDiff, reduceLT, reduceMul, reduceSub, Try.el25, Try.st24, Try.td24, Try.td25, Try.td3, Mly.av, icells_len, sigP_len, icells_take, sigP_take, icells_key, List.length_set]; (repeat refine And.intro (by first | omega | assumption | exact rfl) ?_); (first | refine hK0 _ ?_ | refine Or.inl (hK0 _ ?_)); clear hK0 K0; simp only [put, app, setAll, trOf, zE, zS, reduceAdd])
  refine rg_nil ?_
  refine hK1 _ ?_; clear hK1; refine awp_keep [0, 1, 2, 4, 5] ?_; simp only [keepEnv, lkp, zE, reduceCtorEq, reduceEqDiff, argEnv, reduceAdd]
  refine awp_seq_k fun K2 hK2 => ?_
  refine awp_reg hP hN rfl ?_
  iterate 2 (refine rg_step rfl fun K0 hK0 => ?_; simp only [zE, op1, ev, lkp, avOf, acOf, opMakeMap, reduceCtorEq, reduceEqDiff, reduceAdd, reduceLeDiff, reduceLT, reduceMul, reduceSub, Try.mk108, Mly.av, icells_len, sigP_len, icells_take, sigP_take, icells_key, List.length_set]; (repeat refine And.intro (by first | omega | assumption | exact rfl) ?_); (first | refine hK0 _ ?_ | refine Or.inl (hK0 _ ?_)); clear hK0 K0; simp only [put, app, setAll, trOf, zE, zS, reduceAdd])
  refine rg_nil ?_
  refine hK2 _ ?_; clear hK2; refine awp_keep [0, 1, 2, 4, 5, 6] ?_; simp only [keepEnv, lkp, zE, reduceCtorEq, reduceEqDiff, argEnv, reduceAdd]
  refine awp_seq_k fun K3 hK3 => ?_
  refine awp_reg hP hN rfl ?_
  iterate 4 (refine rg_step rfl fun K0 hK0 => ?_; simp only [zE, op1, ev, lkp, avOf, acOf, opCallAny, opMM, opLen, lenAC, lenOk, fpAC, Nat.div_one, opAppend, srcOf, Ty.size, datOf, dite_true, opMakeSlice, Ty.dflt, reduceCtorEq, reduceEqDiff, reduceAdd, reduceLeDiff, reduceLT, reduceMul, reduceSub, Try.el25, Try.td25, Try.td3, Mly.av, icells_len, sigP_len, icells_take, sigP_take, icells_key, List.length_set]; (repeat refine And.intro (by first | omega | assumption | exact rfl) ?_); (first | refine hK0 _ ?_ | refine Or.inl (hK0 _ ?_)); clear hK0 K0; simp only [put, app, setAll, trOf, zE, zS, reduceAdd])
  refine rg_nil ?_
  refine hK3 _ ?_; clear hK3; refine awp_keep [0, 1, 2, 4, 5, 6, 7] ?_; simp only [keepEnv, lkp, zE, reduceCtorEq, reduceEqDiff, argEnv, reduceAdd]
  refine awp_seq_k fun K4 hK4 => ?_
  refine awp_seq_k fun K5 hK5 => ?_
  refine awp_reg hP hN rfl ?_
  iterate 3 (refine rg_step rfl fun K0 hK0 => ?_; simp only [zE, op1, ev, lkp, avOf, acOf, opCallAny, opMM, opLen, lenAC, lenOk, fpAC, Nat.div_one, opAppend, srcOf, Ty.size, datOf, dite_true, reduceCtorEq, reduceEqDiff, reduceAdd, reduceLeDiff, reduceLT, reduceMul, reduceSub, Try.el25, Try.td25, Try.td3, Mly.av, icells_len, sigP_len, icells_take, sigP_take, icells_key, List.length_set]; (repeat refine And.intro (by first | omega | assumption | exact rfl) ?_); (first | refine hK0 _ ?_ | refine Or.inl (hK0 _ ?_)); clear hK0 K0; simp only [put, app, setAll, trOf, zE, zS, reduceAdd])
  refine rg_nil ?_
  refine hK5 _ ?_; clear hK5; refine awp_keep [0, 1, 2, 4, 5, 6, 7, 18, 19] ?_; simp only [keepEnv, lkp, zE, reduceCtorEq, reduceEqDiff, argEnv, reduceAdd]
  refine awp_block ?_
  refine awp_loop (fun n6 s6 => ∃ (k : Nat), (k ≤ m.nx.length) ∧ n6 = m.nx.length - k ∧ s6 = { env := [(1, .one (.list (.int .i64) cl)), (2, .one (.ptr 0 0 0 0)), (6, .one (.mpv 1)), (7, .one (.row 2 0)), (18, .one (.int .i64 (cl.length : Int))), (19, .one (.int .i64 (k : Int)))], L := [.vars 24 [.int .i64 m.inp, .int .i64 m.st, .list (.list (.int .i64)) m.nx, .list (.list (.int .i64)) m.ot], .mp 108 .int (mpOf (difs (m.sig cl) k)), .row (.int .i64) 3 0 (setF (fun s => (pos (difs (m.sig cl) m.nx.length) (m.sig cl s) : Int)) 0 m.nx.length k)] }) ?_ ?_
  · refine ⟨_, _, sub_keep [1, 2, 6, 7, 18, 19], 0, Nat.zero_le _, rfl, ?_⟩
    rw [setF_zero, hl]; rfl
  · rintro n6 s6 ⟨k, hk, rfl, rfl⟩
    refine awp_seq_k fun K7 hK7 => ?_
    refine awp_reg hP hN rfl ?_
    (refine rg_step rfl fun K0 hK0 => ?_; simp only [zE, op1, ev, lkp, avOf, acOf, opBin, arith, inK_i64, eqACs, eqAC, reduceCtorEq, reduceEqDiff, reduceAdd, reduceLeDiff, reduceLT, reduceMul, reduceSub, Try.td3, Mly.av, icells_len, sigP_len, icells_take, sigP_take, icells_key, List.length_set]; (repeat refine And.intro (by first | omega | assumption | exact rfl) ?_); (first | refine hK0 _ ?_ | refine Or.inl (hK0 _ ?_)); clear hK0 K0; simp only [put, app, setAll, trOf, zE, zS, reduceAdd])
    refine rg_nil ?_
    refine hK7 _ ?_; clear hK7; refine awp_keep [1, 2, 6, 7, 18, 19, 20] ?_; simp only [keepEnv, lkp, zE, reduceCtorEq, reduceEqDiff, argEnv, reduceAdd]
    refine awp_seq_k fun K8 hK8 => ?_
    refine awp_cond (by simp only [ev, keepEnv, lkp, zE, reduceCtorEq, reduceEqDiff, argEnv, reduceAdd]; exact rfl) (fun hc9 => ?_) (fun hc9 => ?_)
    · (try simp only [zB, reduceCtorEq] at hc9)
      refine awp_skip ?_
      refine hK8 _ ?_; clear hK8; refine awp_keep [1, 2, 6, 7, 18, 19, 20] ?_; simp only [keepEnv, lkp, zE, reduceCtorEq, reduceEqDiff, argEnv, reduceAdd]
      refine awp_seq_k fun K10 hK10 => ?_
      refine awp_block ?_
      refine awp_seq_k fun K11 hK11 => ?_
      refine awp_reg hP hN rfl ?_
      iterate 2 (refine rg_step rfl fun K0 hK0 => ?_; simp only [zE, op1, ev, lkp, avOf, acOf, ev, reduceCtorEq, reduceEqDiff, reduceAdd, reduceLeDiff, reduceLT, reduceMul, reduceSub, Try.td3, Mly.av, icells_len, sigP_len, icells_take, sigP_take, icells_key, List.length_set]; (repeat refine And.intro (by first | omega | assumption | exact rfl) ?_); (first | refine hK0 _ ?_ | refine Or.inl (hK0 _ ?_)); clear hK0 K0; simp only [put, app, setAll, trOf, zE, zS, reduceAdd])
      refine rg_nil ?_
      refine hK11 _ ?_; clear hK11; refine awp_keep [1, 2, 6, 7, 8, 18, 19, 20] ?_; simp only [keepEnv, lkp, zE, reduceCtorEq, reduceEqDiff, argEnv, reduceAdd]
      refine awp_seq_k fun K12 hK12 => ?_
      refine awp_reg hP hN rfl ?_
      (refine rg_step rfl fun K0 hK0 => ?_; simp only [zE, op1, ev, lkp, avOf, acOf, opAlloc, reduceCtorEq, reduceEqDiff, reduceAdd, reduceLeDiff, reduceLT, reduceMul, reduceSub, Try.ea110, Try.td110, Mly.av, icells_len, sigP_len, icells_take, sigP_take, icells_key, List.length_set]; (repeat refine And.intro (by first | omega | assumption | exact rfl) ?_); (first | refine hK0 _ ?_ | refine Or.inl (hK0 _ ?_)); clear hK0 K0; simp only [put, app, setAll, trOf, zE, zS, reduceAdd])
      refine rg_nil ?_
      refine hK12 _ ?_; clear hK12; refine awp_keep [1, 2, 6, 7, 8, 9, 18, 19, 20] ?_; simp only [keepEnv, lkp, zE, reduceCtorEq, reduceEqDiff, argEnv, reduceAdd]
      refine awp_seq_k fun K13 hK13 => ?_
      refine awp_seq_k fun K14 hK14 => ?_
      refine awp_reg hP hN rfl ?_
      iterate 3 (refine rg_step rfl fun K0 hK0 => ?_; simp only [zE, op1, ev, lkp, avOf, acOf, opFieldAddr, opLoad, Nat.mul_one, readAC, isAggK, acs, Ty.dflt, zG, cellsAt, reduceCtorEq, reduceEqDiff, reduceAdd, reduceLeDiff, reduceLT, reduceMul, reduceSub, Try.st24, Try.td24, Try.td3, Mly.av, icells_len, sigP_len, icells_take, sigP_take, icells_key, List.length_set]; (repeat refine And.intro (by first | omega | assumption | exact rfl) ?_); (first | refine hK0 _ ?_ | refine Or.inl (hK0 _ ?_)); clear hK0 K0; simp only [put, app, setAll, trOf, zE, zS, reduceAdd])
      refine rg_nil ?_
      refine hK14 _ ?_; clear hK14; refine awp_keep [1, 2, 6, 7, 8, 9, 18, 19, 20, 23, 24] ?_; simp only [keepEnv, lkp, zE, reduceCtorEq, reduceEqDiff, argEnv, reduceAdd]
      refine awp_block ?_
      refine awp_loop (fun n15 s15 => ∃ (a : Nat), ((a : Int) ≤ m.inp) ∧ n15 = m.inp.toNat - a ∧ s15 = { env := [(1, .one (.list (.int .i64) cl)), (2, .one (.ptr 0 0 0 0)), (6, .one (.mpv 1)), (7, .one (.row 2 0)), (8, .one (.int .i64 (k : Int))), (9, .one (.ptr 3 0 0 0)), (18, .one (.int .i64 (cl.length : Int))), (19, .one (.int .i64 (k : Int))), (23, .one (.int .i64 m.inp)), (24, .one (.int .i64 (a : Int)))], L := [.vars 24 [.int .i64 m.inp, .int .i64 m.st, .list (.list (.int .i64)) m.nx, .list (.list (.int .i64)) m.ot], .mp 108 .int (mpOf (difs (m.sig cl) k)), .row (.int .i64) 3 0 (setF (fun s => (pos (difs (m.sig cl) m.nx.length) (m.sig cl s) : Int)) 0 m.nx.length k), .vars 110 (icells (m.sigP cl a k))] }) ?_ ?_
      · refine ⟨_, _, sub_keep [1, 2, 6, 7, 8, 9, 18, 19, 23, 24], 0, by omega, rfl, ?_⟩
        rw [← sigP_zero, ← icells_rep]; rfl
      · rintro n15 s15 ⟨a, ha, rfl, rfl⟩
        refine awp_seq_k fun K16 hK16 => ?_
        refine awp_reg hP hN rfl ?_
        (refine rg_step rfl fun K0 hK0 => ?_; simp only [zE, op1, ev, lkp, avOf, acOf, opBin, arith, inK_i64, eqACs, eqAC, reduceCtorEq, reduceEqDiff, reduceAdd, reduceLeDiff, reduceLT, reduceMul, reduceSub, Try.td3, Try.td4, Mly.av, icells_len, sigP_len, icells_take, sigP_take, icells_key, List.length_set]; (repeat refine And.intro (by first | omega | assumption | exact rfl) ?_); (first | refine hK0 _ ?_ | refine Or.inl (hK0 _ ?_)); clear hK0 K0; simp only [put, app, setAll, trOf, zE, zS, reduceAdd])
        refine rg_nil ?_
        refine hK16 _ ?_; clear hK16; refine awp_keep [1, 2, 6, 7, 8, 9, 18, 19, 23, 24, 25] ?_; simp only [keepEnv, lkp, zE, reduceCtorEq, reduceEqDiff, argEnv, reduceAdd]
        refine awp_seq_k fun K17 hK17 => ?_
        refine awp_cond (by simp only [ev, keepEnv, lkp, zE, reduceCtorEq, reduceEqDiff, argEnv, reduceAdd]; exact rfl) (fun hc18 => ?_) (fun hc18 => ?_)
        · (try simp only [zB, reduceCtorEq] at hc18)
          refine awp_skip ?_
          refine hK17 _ ?_; clear hK17; refine awp_keep [1, 2, 6, 7, 8, 9, 18, 19, 23, 24, 25] ?_; simp only [keepEnv, lkp, zE, reduceCtorEq, reduceEqDiff, argEnv, reduceAdd]
          refine awp_seq_k fun K19 hK19 => ?_
          refine awp_block ?_
          refine awp_seq_k fun K20 hK20 => ?_
          refine awp_reg hP hN rfl ?_
          iterate 2 (refine rg_step rfl fun K0 hK0 => ?_; simp only [zE, op1, ev, lkp, avOf, acOf, ev, reduceCtorEq, reduceEqDiff, reduceAdd, reduceLeDiff, reduceLT, reduceMul, reduceSub, Try.td3, Mly.av, icells_len, sigP_len, icells_take, sigP_take, icells_key, List.length_set]; (repeat refine And.intro (by first | omega | assumption | exact rfl) ?_); (first | refine hK0 _ ?_ | refine Or.inl (hK0 _ ?_)); clear hK0 K0; simp only [put, app, setAll, trOf, zE, zS, reduceAdd])
          refine rg_nil ?_
          refine hK20 _ ?_; clear hK20; refine awp_keep [1, 2, 6, 7, 8, 9, 10, 18, 19, 23, 24, 25] ?_; simp only [keepEnv, lkp, zE, reduceCtorEq, reduceEqDiff, argEnv, reduceAdd]
          refine awp_seq_k fun K21 hK21 => ?_
          have hrl := hm.rl k (by omega); have hql := hm.ql k (by omega); have hnr := hm.nr k a (by omega) (by omega); have hw1 : ∀ v, writeAC (icells (m.sigP cl a k)) a [AC.int .i64 v] = icells ((m.sigP cl a k).set a v) := fun v => icells_write (by rw [sigP_len]; omega) v; have h64 : ((64 : Int) + (a : Int)).toNat = 64 + a := by omega
          refine awp_reg hP hN rfl ?_
          iterate 11 (refine rg_step rfl fun K0 hK0 => ?_; simp only [zE, op1, ev, lkp, avOf, acOf, opFieldAddr, opLoad, Nat.mul_one, readAC, isAggK, acs, Ty.dflt, zG, cellsAt, opIndexAddr, Ty.size, ne_eq, not_false_eq_true, Int.natCast_one, Int.mul_one, opStore, cellsAV, datOf, reduceCtorEq, reduceEqDiff, reduceAdd, reduceLeDiff, reduceLT, reduceMul, reduceSub, Try.ea110, Try.el22, Try.el25, Try.st24, Try.td110, Try.td22, Try.td24, Try.td25, Try.td3, Mly.av, icells_len, sigP_len, icells_take, sigP_take, icells_key, List.length_set, hw1]; (repeat refine And.intro (by first | omega | assumption | exact rfl) ?_); (first | refine hK0 _ ?_ | refine Or.inl (hK0 _ ?_)); clear hK0 K0; simp only [put, app, setAll, trOf, zE, zS, reduceAdd])
          refine rg_nil ?_
          refine hK21 _ ?_; clear hK21; refine awp_keep [1, 2, 6, 7, 8, 9, 10, 18, 19, 23, 24, 25] ?_; simp only [keepEnv, lkp, zE, reduceCtorEq, reduceEqDiff, argEnv, reduceAdd]
          refine awp_reg hP hN rfl ?_
          iterate 15 (refine rg_step rfl fun K0 hK0 => ?_; simp only [zE, op1, ev, lkp, avOf, acOf, opBin, arith, inK_i64, eqACs, eqAC, opFieldAddr, opLoad, Nat.mul_one, readAC, isAggK, acs, Ty.dflt, zG, cellsAt, opIndexAddr, Ty.size, ne_eq, not_false_eq_true, Int.natCast_one, Int.mul_one, opStore, cellsAV, datOf, reduceCtorEq, reduceEqDiff, reduceAdd, reduceLeDiff, reduceLT, reduceMul, reduceSub, Try.ea110, Try.el22, Try.el25, Try.st24, Try.td110, Try.td2, Try.td22, Try.td24, Try.td25, Try.td3, Mly.av, icells_len, sigP_len, icells_take, sigP_take, icells_key, List.length_set, hw1, h64]; (repeat refine And.intro (by first | omega | assumption | exact rfl) ?_); (first | refine hK0 _ ?_ | refine Or.inl (hK0 _ ?_)); clear hK0 K0; simp only [put, app, setAll, trOf, zE, zS, reduceAdd])
          refine rg_nil ?_
          refine hK19 _ ?_; clear hK19; refine awp_keep [1, 2, 6, 7, 8, 9, 10, 18, 19, 23, 24, 25] ?_; simp only [keepEnv, lkp, zE, reduceCtorEq, reduceEqDiff, argEnv, reduceAdd]
          refine awp_reg hP hN rfl ?_
          iterate 2 (refine rg_step rfl fun K0 hK0 => ?_; simp only [zE, op1, ev, lkp, avOf, acOf, opBin, arith, inK_i64, eqACs, eqAC, reduceCtorEq, reduceEqDiff, reduceAdd, reduceLeDiff, reduceLT, reduceMul, reduceSub, Try.td3, Mly.av, icells_len, sigP_len, icells_take, sigP_take, icells_key, List.length_set]; (repeat refine And.intro (by first | omega | assumption | exact rfl) ?_); (first | refine hK0 _ ?_ | refine Or.inl (hK0 _ ?_)); clear hK0 K0; simp only [put, app, setAll, trOf, zE, zS, reduceAdd])
          refine rg_nil ?_
          refine ⟨_, _, ?_, sub_keep [1, 2, 6, 7, 8, 9, 18, 19, 23, 24], a + 1, by omega, rfl, ?_⟩
          · omega
          · rw [icells_write (by simp [sigP_len]; omega), sigP_set m cl k (by omega)]; rfl
        · (try simp only [zB, reduceCtorEq] at hc18)
          refine awp_exit ?_
          refine hK13 _ ?_; clear hK13; refine awp_keep [1, 2, 6, 7, 8, 9, 18, 19, 23, 24, 25] ?_; simp only [keepEnv, lkp, zE, reduceCtorEq, reduceEqDiff, argEnv, reduceAdd]
          refine awp_seq_k fun K22 hK22 => ?_
          have hkey := sigP_rng hm hr (a := a) (s := k) (by omega) (by omega); have hsg : m.sigP cl a k = m.sig cl k := by unfold Mly.sig; rw [show m.inp.toNat = a by omega]
          rw [hsg] at hkey ⊢; have hdl := difs_le (m.sig cl) k; have hst : (m.sig cl k).take 128 = m.sig cl k := by rw [← hsg]; exact sigP_take _ _ _ _
          have hsl : (m.sig cl k).length = 128 := by rw [← hsg]; exact sigP_len _ _ _ _
          have hsf := setF_len (fun s => (pos (difs (m.sig cl) m.nx.length) (m.sig cl s) : Int)) 0 (n := m.nx.length) (k := k) (by omega)
          refine awp_reg hP hN rfl ?_
          iterate 8 (refine rg_step rfl fun K0 hK0 => ?_; simp only [zE, op1, ev, lkp, avOf, acOf, opLoad, Nat.mul_one, readAC, isAggK, acs, Ty.dflt, zG, cellsAt, opLookup, keyAV, VK.ac, opExtract, reduceCtorEq, reduceEqDiff, reduceAdd, reduceLeDiff, reduceLT, reduceMul, reduceSub, Try.ea110, Try.mk108, Try.td1, Try.td110, Try.td3, Try.td4, Mly.av, icells_len, sigP_len, icells_take, sigP_take, icells_key, List.length_set, hst, hsl]; (repeat refine And.intro (by first | omega | assumption | exact rfl) ?_); (first | refine hK0 _ ?_ | refine Or.inl (hK0 _ ?_)); clear hK0 K0; simp only [put, app, setAll, trOf, zE, zS, reduceAdd])
          refine rg_nil ?_
          refine hK22 _ ?_; clear hK22; refine awp_keep [1, 2, 6, 7, 8, 9, 11, 12, 18, 19, 23, 24, 25] ?_; simp only [keepEnv, lkp, zE, reduceCtorEq, reduceEqDiff, argEnv, reduceAdd]
          refine awp_seq_k fun K23 hK23 => ?_
          refine awp_seq_k fun K24 hK24 => ?_
          refine awp_reg hP hN rfl ?_
          iterate 2 (refine rg_step rfl fun K0 hK0 => ?_; simp only [zE, op1, ev, lkp, avOf, acOf, opUn, reduceCtorEq, reduceEqDiff, reduceAdd, reduceLeDiff, reduceLT, reduceMul, reduceSub, Try.td4, Mly.av, icells_len, sigP_len, icells_take, sigP_take, icells_key, List.length_set]; (repeat refine And.intro (by first | omega | assumption | exact rfl) ?_); (first | refine hK0 _ ?_ | refine Or.inl (hK0 _ ?_)); clear hK0 K0; simp only [put, app, setAll, trOf, zE, zS, reduceAdd])
          refine rg_nil ?_
          refine hK24 _ ?_; clear hK24; refine awp_keep [1, 2, 6, 7, 8, 9, 11, 12, 18, 19, 23, 24, 25, 59] ?_; simp only [keepEnv, lkp, zE, reduceCtorEq, reduceEqDiff, argEnv, reduceAdd]
          refine awp_cond (by simp only [ev, keepEnv, lkp, zE, reduceCtorEq, reduceEqDiff, argEnv, reduceAdd]; exact rfl) (fun hc25 => ?_) (fun hc25 => ?_)
          · (try simp only [zB, reduceCtorEq] at hc25)
            refine awp_seq_k fun K26 hK26 => ?_
            refine awp_reg hP hN rfl ?_
            iterate 3 (refine rg_step rfl fun K0 hK0 => ?_; simp only [zE, op1, ev, lkp, avOf, acOf, opCallAny, opMM, opLen, lenAC, lenOk, fpAC, Nat.div_one, opAppend, srcOf, Ty.size, datOf, dite_true, reduceCtorEq, reduceEqDiff, reduceAdd, reduceLeDiff, reduceLT, reduceMul, reduceSub, Try.mk108, Try.td3, Mly.av, icells_len, sigP_len, icells_take, sigP_take, icells_key, List.length_set, mpOf_len]; (repeat refine And.intro (by first | omega | assumption | exact rfl) ?_); (first | refine hK0 _ ?_ | refine Or.inl (hK0 _ ?_)); clear hK0 K0; simp only [put, app, setAll, trOf, zE, zS, reduceAdd])
            refine rg_nil ?_
            refine hK26 _ ?_; clear hK26; refine awp_keep [1, 2, 6, 7, 8, 9, 11, 12, 18, 19, 23, 24, 25, 59] ?_; simp only [keepEnv, lkp, zE, reduceCtorEq, reduceEqDiff, argEnv, reduceAdd]
            refine awp_reg hP hN rfl ?_
            iterate 4 (refine rg_step rfl fun K0 hK0 => ?_; simp only [zE, op1, ev, lkp, avOf, acOf, opLoad, Nat.mul_one, readAC, isAggK, acs, Ty.dflt, zG, cellsAt, opMapUpdate, keyAV, valOf, reduceCtorEq, reduceEqDiff, reduceAdd, reduceLeDiff, reduceLT, reduceMul, reduceSub, Try.ea110, Try.mk108, Try.td110, Try.td3, Mly.av, icells_len, sigP_len, icells_take, sigP_take, icells_key, List.length_set, hst, hsl]; (repeat refine And.intro (by first | omega | assumption | exact rfl) ?_); (first | refine hK0 _ ?_ | refine Or.inl (hK0 _ ?_)); clear hK0 K0; simp only [put, app, setAll, trOf, zE, zS, reduceAdd])
            refine rg_nil ?_
            refine hK23 _ ?_; clear hK23; refine awp_keep [1, 2, 6, 7, 8, 9, 11, 12, 18, 19, 23, 24, 25, 59] ?_; simp only [keepEnv, lkp, zE, reduceCtorEq, reduceEqDiff, argEnv, reduceAdd]
            refine awp_reg hP hN rfl ?_
            iterate 5 (refine rg_step rfl fun K0 hK0 => ?_; simp only [zE, op1, ev, lkp, avOf, acOf, opIndexAddr, zG, Ty.dflt, Ty.size, Nat.mul_one, ne_eq, not_false_eq_true, Int.natCast_one, Int.mul_one, opStore, cellsAV, writeAC, datOf, acs, reduceCtorEq, reduceEqDiff, reduceAdd, reduceLeDiff, reduceLT, reduceMul, reduceSub, Try.el25, Try.td25, Try.td3, Mly.av, icells_len, sigP_len, icells_take, sigP_take, icells_key, List.length_set, hsf]; (repeat refine And.intro (by first | omega | assumption | exact rfl) ?_); (first | refine hK0 _ ?_ | refine Or.inl (hK0 _ ?_)); clear hK0 K0; simp only [put, app, setAll, trOf, zE, zS, reduceAdd])
            refine rg_nil ?_
            refine hK10 _ ?_; clear hK10; refine awp_keep [1, 2, 6, 7, 8, 9, 11, 12, 18, 19, 23, 24, 25, 59] ?_; simp only [keepEnv, lkp, zE, reduceCtorEq, reduceEqDiff, argEnv, reduceAdd]
            refine awp_keep [1, 2, 6, 7, 18, 19] ?_; simp only [keepEnv, lkp, zE, reduceCtorEq, reduceEqDiff]
            refine awp_kill 3 rfl ?_; refine awp_drop (n := 3) (L1 := [_, _, _]) rfl rfl (by rw [hB]; decide) rfl rfl ?_
            refine awp_reg hP hN rfl ?_
            iterate 2 (refine rg_step rfl fun K0 hK0 => ?_; simp only [zE, op1, ev, lkp, avOf, acOf, opBin, arith, inK_i64, eqACs, eqAC, reduceCtorEq, reduceEqDiff, reduceAdd, reduceLeDiff, reduceLT, reduceMul, reduceSub, Try.td3, Mly.av, icells_len, sigP_len, icells_take, sigP_take, icells_key, List.length_set]; (repeat refine And.intro (by first | omega | assumption | exact rfl) ?_); (first | refine hK0 _ ?_ | refine Or.inl (hK0 _ ?_)); clear hK0 K0; simp only [put, app, setAll, trOf, zE, zS, reduceAdd])
            refine rg_nil ?_
            first
            | (have hin : m.sig cl k ∈ difs (m.sig cl) k := by
                 false_or_by_contra; rename_i hh; rw [mpOf_look, if_neg hh] at *; simp_all
               refine ⟨_, _, ?_, sub_keep [1, 2, 6, 7, 18, 19], k + 1, by omega, rfl, ?_⟩
               · omega
               · rw [difs_succ, addG_in hin, ← setF_set _ _ (by omega), next_old (by omega) hin, mpOf_look, if_pos hin]; rfl)
            | (have hin : m.sig cl k ∉ difs (m.sig cl) k := by
                 intro hh; rw [mpOf_look, if_pos hh] at *; simp_all
               refine ⟨_, _, ?_, sub_keep [1, 2, 6, 7, 18, 19], k + 1, by omega, rfl, ?_⟩
               · omega
               · rw [difs_succ, addG_out hin, ← setF_set _ _ (by omega), next_new (by omega) hin, mpOf_put hin]; rfl)
          · (try simp only [zB, reduceCtorEq] at hc25)
            refine awp_skip ?_
            refine hK23 _ ?_; clear hK23; refine awp_keep [1, 2, 6, 7, 8, 9, 11, 12, 18, 19, 23, 24, 25, 59] ?_; simp only [keepEnv, lkp, zE, reduceCtorEq, reduceEqDiff, argEnv, reduceAdd]
            refine awp_reg hP hN rfl ?_
            iterate 5 (refine rg_step rfl fun K0 hK0 => ?_; simp only [zE, op1, ev, lkp, avOf, acOf, opIndexAddr, zG, Ty.dflt, Ty.size, Nat.mul_one, ne_eq, not_false_eq_true, Int.natCast_one, Int.mul_one, opStore, cellsAV, writeAC, datOf, acs, reduceCtorEq, reduceEqDiff, reduceAdd, reduceLeDiff, reduceLT, reduceMul, reduceSub, Try.el25, Try.td25, Try.td3, Mly.av, icells_len, sigP_len, icells_take, sigP_take, icells_key, List.length_set, hsf]; (repeat refine And.intro (by first | omega | assumption | exact rfl) ?_); (first | refine hK0 _ ?_ | refine Or.inl (hK0 _ ?_)); clear hK0 K0; simp only [put, app, setAll, trOf, zE, zS, reduceAdd])
            refine rg_nil ?_
            refine hK10 _ ?_; clear hK10; refine awp_keep [1, 2, 6, 7, 8, 9, 11, 12, 18, 19, 23, 24, 25, 59] ?_; simp only [keepEnv, lkp, zE, reduceCtorEq, reduceEqDiff, argEnv, reduceAdd]
            refine awp_keep [1, 2, 6, 7, 18, 19] ?_; simp only [keepEnv, lkp, zE, reduceCtorEq, reduceEqDiff]
            refine awp_kill 3 rfl ?_; refine awp_drop (n := 3) (L1 := [_, _, _]) rfl rfl (by rw [hB]; decide) rfl rfl ?_
            refine awp_reg hP hN rfl ?_
            iterate 2 (refine rg_step rfl fun K0 hK0 => ?_; simp only [zE, op1, ev, lkp, avOf, acOf, opBin, arith, inK_i64, eqACs, eqAC, reduceCtorEq, reduceEqDiff, reduceAdd, reduceLeDiff, reduceLT, reduceMul, reduceSub, Try.td3, Mly.av, icells_len, sigP_len, icells_take, sigP_take, icells_key, List.length_set]; (repeat refine And.intro (by first | omega | assumption | exact rfl) ?_); (first | refine hK0 _ ?_ | refine Or.inl (hK0 _ ?_)); clear hK0 K0; simp only [put, app, setAll, trOf, zE, zS, reduceAdd])
            refine rg_nil ?_
            first
            | (have hin : m.sig cl k ∈ difs (m.sig cl) k := by
                 false_or_by_contra; rename_i hh; rw [mpOf_look, if_neg hh] at *; simp_all
               refine ⟨_, _, ?_, sub_keep [1, 2, 6, 7, 18, 19], k + 1, by omega, rfl, ?_⟩
               · omega
               · rw [difs_succ, addG_in hin, ← setF_set _ _ (by omega), next_old (by omega) hin, mpOf_look, if_pos hin]; rfl)
            | (have hin : m.sig cl k ∉ difs (m.sig cl) k := by
                 intro hh; rw [mpOf_look, if_pos hh] at *; simp_all
               refine ⟨_, _, ?_, sub_keep [1, 2, 6, 7, 18, 19], k + 1, by omega, rfl, ?_⟩
               · omega
               · rw [difs_succ, addG_out hin, ← setF_set _ _ (by omega), next_new (by omega) hin, mpOf_put hin]; rfl)
    · (try simp only [zB, reduceCtorEq] at hc9)
      refine awp_exit ?_
      refine hK4 _ ?_; clear hK4; refine awp_keep [1, 2, 6, 7, 18, 19, 20] ?_; simp only [keepEnv, lkp, zE, reduceCtorEq, reduceEqDiff, argEnv, reduceAdd]
      refine awp_seq_k fun K27 hK27 => ?_
      refine awp_reg hP hN rfl ?_
      iterate 5 (refine rg_step rfl fun K0 hK0 => ?_; simp only [zE, op1, ev, lkp, avOf, acOf, opCallAny, opMM, opLen, lenAC, lenOk, fpAC, Nat.div_one, opAppend, srcOf, Ty.size, datOf, dite_true, reduceCtorEq, reduceEqDiff, reduceAdd, reduceLeDiff, reduceLT, reduceMul, reduceSub, Try.el25, Try.mk108, Try.td25, Try.td3, Mly.av, icells_len, sigP_len, icells_take, sigP_take, icells_key, List.length_set]; (repeat refine And.intro (by first | omega | assumption | exact rfl) ?_); (first | refine hK0 _ ?_ | refine Or.inl (hK0 _ ?_)); clear hK0 K0; simp only [put, app, setAll, trOf, zE, zS, reduceAdd])
      refine rg_nil ?_
      refine hK27 _ ?_; clear hK27; refine awp_keep [1, 2, 4, 5, 6, 7, 18, 19, 20] ?_; simp only [keepEnv, lkp, zE, reduceCtorEq, reduceEqDiff, argEnv, reduceAdd]
      refine awp_ret ?_
      refine ⟨by first | exact .inl rfl | exact .inr rfl, _, rfl, ?_⟩; simp only [fzV, fz1, fzC, List.map_cons, List.map_nil, keepEnv, lkp, zE, reduceCtorEq, reduceEqDiff, argEnv, reduceAdd, Mly.av, icells_len, sigP_len, icells_take, sigP_take, icells_key, List.length_set]
      refine VLE.of_eq ?_
      have hkn : k = m.nx.length := by omega
      subst hkn
      rw [setF_all, mpOf_len]; rfl
end Go.Proofs.Ytceafldjjedhcaa
namespace Go.Proofs.Ytceafldjjedhcaa
open Go Go.AV
open Nat (reduceEqDiff reduceAdd reduceLeDiff reduceLT reduceMul reduceSub)
open List (set_cons_zero set_cons_succ)
set_option maxRecDepth 100000 in
theorem mrefine_c (m : Mly) (k : Int) (hm : MOK m) : PURE Try.prog 66 [m.av, .one (.int .i64 k)] (.tup [.one (.list (.int .i64) (m.refC k)), .one (.int .i64 (m.refK k))]) := by
  have hn2 := hm.n2; have hn1 := hm.n1; have hNN : ((refN m k : Nat) : Int) = min (max k 0) (m.nx.length : Int) := by unfold refN; omega
  refine pure_of_le Try.func66 rfl (by kernel_rfl) (Nat.le_of_ble_eq_true rfl) rfl fun C hP hN hB => ?_
  replace hN : C.N = 45 := hN
  simp only [argEnv, reduceAdd]
  refine awp_seq_k fun K1 hK1 => ?_
  refine awp_reg hP hN rfl ?_
  iterate 3 (refine rg_step rfl fun K0 hK0 => ?_; simp only [zE, op1, ev, lkp, avOf, acOf, opBox, cellsAV, reduceCtorEq, reduceEqDiff, reduceAdd, reduceLeDiff, reduceLT, reduceMul, reduceSub, Try.el25, Try.st24, Try.td24, Try.td25, Try.td3, Mly.av]; (repeat refine And.intro (by first | omega | assumption | exact rfl) ?_); (first | refine hK0 _ ?_ | refine Or.inl (hK0 _ ?_)); clear hK0 K0; simp only [put, app, setAll, trOf, zE, zS, reduceAdd])
  refine rg_nil ?_
  refine hK1 _ ?_; clear hK1; refine awp_keep [0, 1, 2, 4, 5] ?_; simp only [keepEnv, lkp, zE, reduceCtorEq, reduceEqDiff, argEnv, reduceAdd]
  refine awp_seq_k fun K2 hK2 => ?_
  refine awp_reg hP hN rfl ?_
  iterate 6 (refine rg_step rfl fun K0 hK0 => ?_; simp only [zE, op1, ev, lkp, avOf, acOf, opFieldAddr, opLoad, Nat.mul_one, readAC, isAggK, acs, Ty.dflt, zG, cellsAt, opCallAny, opMM, opLen, lenAC, lenOk, fpAC, Nat.div_one, opAppend, srcOf, Ty.size, datOf, dite_true, opMakeSlice, reduceCtorEq, reduceEqDiff, reduceAdd, reduceLeDiff, reduceLT, reduceMul, reduceSub, Try.el22, Try.el25, Try.st24, Try.td2, Try.td22, Try.td24, Try.td25, Try.td3, Mly.av]; (repeat refine And.intro (by first | omega | assumption | exact rfl) ?_); (first | refine hK0 _ ?_ | refine Or.inl (hK0 _ ?_)); clear hK0 K0; simp only [put, app, setAll, trOf, zE, zS, reduceAdd])
  refine rg_nil ?_
  refine hK2 _ ?_; clear hK2; refine awp_keep [0, 1, 2, 4, 5, 6, 7] ?_; simp only [keepEnv, lkp, zE, reduceCtorEq, reduceEqDiff, argEnv, reduceAdd]
  refine awp_seq_k fun K3 hK3 => ?_
  refine awp_seq_k fun K4 hK4 => ?_
  refine awp_freeze 1 rfl ?_; simp only [List.map_cons, List.map_nil, zS, reduceEqDiff, and_self, and_true, true_and, and_false, false_and, if_true, if_false, eq_self, reduceCtorEq, Nat.one_ne_zero, Nat.zero_ne_one]
  refine awp_reg hP hN rfl ?_
  iterate 7 (refine rg_step rfl fun K0 hK0 => ?_; simp only [zE, op1, ev, lkp, avOf, acOf, opCallAny, opMM, opLen, lenAC, lenOk, fpAC, Nat.div_one, opAppend, srcOf, Ty.size, datOf, dite_true, opFieldAddr, opLoad, Nat.mul_one, readAC, isAggK, acs, Ty.dflt, zG, cellsAt, reduceCtorEq, reduceEqDiff, reduceAdd, reduceLeDiff, reduceLT, reduceMul, reduceSub, Try.el22, Try.st24, Try.td2, Try.td22, Try.td24, Try.td3, Mly.av]; (repeat refine And.intro (by first | omega | assumption | exact rfl) ?_); (first | refine hK0 _ ?_ | refine Or.inl (hK0 _ ?_)); clear hK0 K0; simp only [put, app, setAll, trOf, zE, zS, reduceAdd])
  refine rg_nil ?_
  refine hK4 _ ?_; clear hK4; refine awp_keep [0, 1, 2, 4, 5, 6, 7, 20, 21] ?_; simp only [keepEnv, lkp, zE, reduceCtorEq, reduceEqDiff, argEnv, reduceAdd]
  refine awp_block ?_
  refine awp_loop (fun n5 s5 => ∃ (j : Nat), (j ≤ refN m k) ∧ (∀ q, q < j → m.cnt (q + 1) ≠ m.cnt q) ∧ n5 = refN m k - j ∧ s5 = { env := [(1, .one (.int .i64 k)), (2, .one (.ptr 0 0 0 0)), (6, .one (.list (.int .i64) (m.cls j))), (7, .one (.int .i64 (m.cnt j))), (20, .one (.int .i64 (min (max k 0) (m.nx.length : Int)))), (21, .one (.int .i64 (j : Int)))], L := [.vars 24 [.int .i64 m.inp, .int .i64 m.st, .list (.list (.int .i64)) m.nx, .list (.list (.int .i64)) m.ot], .dead 0] }) ?_ ?_
  · refine ⟨_, _, sub_keep [1, 2, 6, 7, 20, 21], 0, Nat.zero_le _, fun q hq => by omega, rfl, rfl⟩
  · rintro n5 s5 ⟨j, hj, hq, rfl, rfl⟩
    refine awp_seq_k fun K6 hK6 => ?_
    refine awp_reg hP hN rfl ?_
    (refine rg_step rfl fun K0 hK0 => ?_; simp only [zE, op1, ev, lkp, avOf, acOf, opBin, arith, inK_i64, eqACs, eqAC, reduceCtorEq, reduceEqDiff, reduceAdd, reduceLeDiff, reduceLT, reduceMul, reduceSub, Try.td3, Try.td4, Mly.av]; (repeat refine And.intro (by first | omega | assumption | exact rfl) ?_); (first | refine hK0 _ ?_ | refine Or.inl (hK0 _ ?_)); clear hK0 K0; simp only [put, app, setAll, trOf, zE, zS, reduceAdd])
    refine rg_nil ?_
    refine hK6 _ ?_; clear hK6; refine awp_keep [1, 2, 6, 7, 20, 21, 22] ?_; simp only [keepEnv, lkp, zE, reduceCtorEq, reduceEqDiff, argEnv, reduceAdd]
    refine awp_seq_k fun K7 hK7 => ?_
    refine awp_cond (by simp only [ev, keepEnv, lkp, zE, reduceCtorEq, reduceEqDiff, argEnv, reduceAdd]; exact rfl) (fun hc8 => ?_) (fun hc8 => ?_)
    · (try simp only [zB, reduceCtorEq] at hc8)
      refine awp_skip ?_
      refine hK7 _ ?_; clear hK7; refine awp_keep [1, 2, 6, 7, 20, 21, 22] ?_; simp only [keepEnv, lkp, zE, reduceCtorEq, reduceEqDiff, argEnv, reduceAdd]
      refine awp_seq_k fun K9 hK9 => ?_
      refine awp_block ?_
      refine awp_seq_k fun K10 hK10 => ?_
      refine awp_reg hP hN rfl ?_
      iterate 2 (refine rg_step rfl fun K0 hK0 => ?_; simp only [zE, op1, ev, lkp, avOf, acOf, ev, reduceCtorEq, reduceEqDiff, reduceAdd, reduceLeDiff, reduceLT, reduceMul, reduceSub, Try.td3, Mly.av]; (repeat refine And.intro (by first | omega | assumption | exact rfl) ?_); (first | refine hK0 _ ?_ | refine Or.inl (hK0 _ ?_)); clear hK0 K0; simp only [put, app, setAll, trOf, zE, zS, reduceAdd])
      refine rg_nil ?_
      refine hK10 _ ?_; clear hK10; refine awp_keep [1, 2, 6, 7, 8, 20, 21, 22] ?_; simp only [keepEnv, lkp, zE, reduceCtorEq, reduceEqDiff, argEnv, reduceAdd]
      refine awp_seq_k fun K11 hK11 => ?_
      refine awp_reg hP hN rfl ?_
      iterate 2 (refine rg_step rfl fun K0 hK0 => ?_; simp only [zE, op1, ev, lkp, avOf, acOf, opLoad, Nat.mul_one, readAC, isAggK, acs, Ty.dflt, zG, cellsAt, reduceCtorEq, reduceEqDiff, reduceAdd, reduceLeDiff, reduceLT, reduceMul, reduceSub, Try.el25, Try.st24, Try.td24, Try.td25, Mly.av]; (repeat refine And.intro (by first | omega | assumption | exact rfl) ?_); (first | refine hK0 _ ?_ | refine Or.inl (hK0 _ ?_)); clear hK0 K0; simp only [put, app, setAll, trOf, zE, zS, reduceAdd])
      refine rg_step rfl fun K0 hK0 => ?_
      refine op_call (h := call_of_pure (mnext_c m (m.cls j) hm (cls_len m j) (cls_rng hm j))) rfl rfl (by first | exact rfl | (simp only [ev, keepEnv, lkp, zE, reduceCtorEq, reduceEqDiff, argEnv, reduceAdd]; exact rfl)) (by simp only [zE, zG, op1, ev, lkp, avOf, acOf, cellsAV, acs, capAV, mv1, mvC, Ty.dflt, reduceCtorEq, reduceEqDiff, reduceAdd, reduceLeDiff, reduceLT, reduceMul, reduceSub, Mly.av]) ?_
      refine hK0 _ ?_; clear hK0 K0; simp only [put, app, setAll, trOf, zE, zS, reduceAdd]
      iterate 5 (refine rg_step rfl fun K0 hK0 => ?_; simp only [zE, op1, ev, lkp, avOf, acOf, opExtract, reduceCtorEq, reduceEqDiff, reduceAdd, reduceLeDiff, reduceLT, reduceMul, reduceSub, Try.el25, Try.td1, Try.td25, Try.td3, Mly.av]; (repeat refine And.intro (by first | omega | assumption | exact rfl) ?_); (first | refine hK0 _ ?_ | refine Or.inl (hK0 _ ?_)); clear hK0 K0; simp only [put, app, setAll, trOf, zE, zS, reduceAdd])
      refine rg_nil ?_
      refine hK11 _ ?_; clear hK11; refine awp_keep [1, 2, 6, 7, 8, 9, 10, 20, 21, 22] ?_; simp only [keepEnv, lkp, zE, reduceCtorEq, reduceEqDiff, argEnv, reduceAdd]
      refine awp_seq_k fun K12 hK12 => ?_
      refine awp_seq_k fun K13 hK13 => ?_
      refine awp_reg hP hN rfl ?_
      iterate 3 (refine rg_step rfl fun K0 hK0 => ?_; simp only [zE, op1, ev, lkp, avOf, acOf, opBin, arith, inK_i64, eqACs, eqAC, reduceCtorEq, reduceEqDiff, reduceAdd, reduceLeDiff, reduceLT, reduceMul, reduceSub, Try.td3, Try.td4, Mly.av]; (repeat refine And.intro (by first | omega | assumption | exact rfl) ?_); (first | refine hK0 _ ?_ | refine Or.inl (hK0 _ ?_)); clear hK0 K0; simp only [put, app, setAll, trOf, zE, zS, reduceAdd])
      refine rg_nil ?_
      refine hK13 _ ?_; clear hK13; refine awp_keep [1, 2, 6, 7, 8, 9, 10, 20, 21, 22, 32] ?_; simp only [keepEnv, lkp, zE, reduceCtorEq, reduceEqDiff, argEnv, reduceAdd]
      refine awp_cond (by simp only [ev, keepEnv, lkp, zE, reduceCtorEq, reduceEqDiff, argEnv, reduceAdd]; exact rfl) (fun hc14 => ?_) (fun hc14 => ?_)
      · (try simp only [zB, reduceCtorEq] at hc14)
        refine awp_seq_k fun K15 hK15 => ?_
        refine awp_reg hP hN rfl ?_
        iterate 4 (refine rg_step rfl fun K0 hK0 => ?_; simp only [zE, op1, ev, lkp, avOf, acOf, ev, reduceCtorEq, reduceEqDiff, reduceAdd, reduceLeDiff, reduceLT, reduceMul, reduceSub, Try.el25, Try.td25, Try.td3, Mly.av]; (repeat refine And.intro (by first | omega | assumption | exact rfl) ?_); (first | refine hK0 _ ?_ | refine Or.inl (hK0 _ ?_)); clear hK0 K0; simp only [put, app, setAll, trOf, zE, zS, reduceAdd])
        refine rg_nil ?_
        refine hK15 _ ?_; clear hK15; refine awp_keep [1, 2, 4, 5, 6, 7, 8, 9, 10, 20, 21, 22, 32] ?_; simp only [keepEnv, lkp, zE, reduceCtorEq, reduceEqDiff, argEnv, reduceAdd]
        refine awp_ret ?_
        refine ⟨by first | exact .inl rfl | exact .inr rfl, _, rfl, ?_⟩; simp only [fzV, fz1, fzC, List.map_cons, List.map_nil, keepEnv, lkp, zE, reduceCtorEq, reduceEqDiff, argEnv, reduceAdd, Mly.av]
        refine VLE.of_eq ?_
        first
        | (have hce : m.cnt (j + 1) = m.cnt j := by assumption
           have e := stopF_at (m := m) (N := refN m k) (j := j) (by omega) hce hq
           unfold Mly.refC Mly.refK; rw [e])
        | (have hjn : j = refN m k := by omega
           subst hjn
           have e := stopF_end hq
           unfold Mly.refC Mly.refK; rw [e, hNN])
      · (try simp only [zB, reduceCtorEq] at hc14)
        refine awp_skip ?_
        refine hK12 _ ?_; clear hK12; refine awp_keep [1, 2, 6, 7, 8, 9, 10, 20, 21, 22, 32] ?_; simp only [keepEnv, lkp, zE, reduceCtorEq, reduceEqDiff, argEnv, reduceAdd]
        refine awp_reg hP hN rfl ?_
        iterate 4 (refine rg_step rfl fun K0 hK0 => ?_; simp only [zE, op1, ev, lkp, avOf, acOf, ev, reduceCtorEq, reduceEqDiff, reduceAdd, reduceLeDiff, reduceLT, reduceMul, reduceSub, Try.el25, Try.td25, Try.td3, Mly.av]; (repeat refine And.intro (by first | omega | assumption | exact rfl) ?_); (first | refine hK0 _ ?_ | refine Or.inl (hK0 _ ?_)); clear hK0 K0; simp only [put, app, setAll, trOf, zE, zS, reduceAdd])
        refine rg_nil ?_
        refine hK9 _ ?_; clear hK9; refine awp_keep [1, 2, 6, 7, 8, 9, 10, 20, 21, 22, 32] ?_; simp only [keepEnv, lkp, zE, reduceCtorEq, reduceEqDiff, argEnv, reduceAdd]
        refine awp_reg hP hN rfl ?_
        iterate 2 (refine rg_step rfl fun K0 hK0 => ?_; simp only [zE, op1, ev, lkp, avOf, acOf, opBin, arith, inK_i64, eqACs, eqAC, reduceCtorEq, reduceEqDiff, reduceAdd, reduceLeDiff, reduceLT, reduceMul, reduceSub, Try.td3, Mly.av]; (repeat refine And.intro (by first | omega | assumption | exact rfl) ?_); (first | refine hK0 _ ?_ | refine Or.inl (hK0 _ ?_)); clear hK0 K0; simp only [put, app, setAll, trOf, zE, zS, reduceAdd])
        refine rg_nil ?_
        have hne : m.cnt (j + 1) ≠ m.cnt j := by first | assumption | (intro hh; simp_all [Mly.cnt])
        refine ⟨_, _, ?_, sub_keep [1, 2, 6, 7, 20, 21], j + 1, by omega, fun q hq2 => ?_, rfl, rfl⟩
        · omega
        · by_cases e : q = j
          · rw [e]; exact hne
          · exact hq q (by omega)
    · (try simp only [zB, reduceCtorEq] at hc8)
      refine awp_exit ?_
      refine hK3 _ ?_; clear hK3; refine awp_keep [1, 2, 6, 7, 20, 21, 22] ?_; simp only [keepEnv, lkp, zE, reduceCtorEq, reduceEqDiff, argEnv, reduceAdd]
      refine awp_seq_k fun K16 hK16 => ?_
      refine awp_drw hP hN Try.mixed rfl ?_
      iterate 9 (refine rg_step rfl fun K0 hK0 => ?_; simp only [zE, op1, ev, lkp, avOf, acOf, opCallAny, opMM, opLen, lenAC, lenOk, fpAC, Nat.div_one, opAppend, srcOf, Ty.size, datOf, dite_true, opFieldAddr, opLoad, Nat.mul_one, readAC, isAggK, acs, Ty.dflt, zG, cellsAt, reduceCtorEq, reduceEqDiff, reduceAdd, reduceLeDiff, reduceLT, reduceMul, reduceSub, Try.el22, Try.el25, Try.st24, Try.td2, Try.td22, Try.td24, Try.td25, Try.td3, Mly.av]; (repeat refine And.intro (by first | omega | assumption | exact rfl) ?_); (first | refine hK0 _ ?_ | refine Or.inl (hK0 _ ?_)); clear hK0 K0; simp only [put, app, setAll, trOf, zE, zS, reduceAdd])
      refine rg_nil ?_
      refine ⟨by kernel_rfl, ?_⟩
      refine hK16 _ ?_; clear hK16; refine awp_keep [1, 2, 4, 5, 6, 7, 20, 21, 22] ?_; simp only [keepEnv, lkp, zE, reduceCtorEq, reduceEqDiff, argEnv, reduceAdd]
      refine awp_ret ?_
      refine ⟨by first | exact .inl rfl | exact .inr rfl, _, rfl, ?_⟩; simp only [fzV, fz1, fzC, List.map_cons, List.map_nil, keepEnv, lkp, zE, reduceCtorEq, reduceEqDiff, argEnv, reduceAdd, Mly.av]
      refine VLE.of_eq ?_
      first
      | (have hce : m.cnt (j + 1) = m.cnt j := by assumption
         have e := stopF_at (m := m) (N := refN m k) (j := j) (by omega) hce hq
         unfold Mly.refC Mly.refK; rw [e])
      | (have hjn : j = refN m k := by omega
         subst hjn
         have e := stopF_end hq
         unfold Mly.refC Mly.refK; rw [e, hNN])
end Go.Proofs.Ytceafldjjedhcaa
namespace Go.Proofs.Ytceafldjjedhcaa
open Go Go.AV
open Nat (reduceEqDiff reduceAdd reduceLeDiff reduceLT reduceMul reduceSub)
open List (set_cons_zero set_cons_succ)
set_option maxRecDepth 100000 in
theorem valid_c (m : Mly) : PURE Try.prog 39 [m.av] (.one (.int .i64 (validE m))) := by
  refine pure_of_le Try.func39 rfl (by kernel_rfl) (Nat.le_of_ble_eq_true rfl) rfl fun C hP hN hB => ?_
  replace hN : C.N = 104 := hN
  simp only [argEnv, reduceAdd]
  refine awp_seq_k fun K1 hK1 => ?_
  refine awp_reg hP hN rfl ?_
  iterate 2 (refine rg_step rfl fun K0 hK0 => ?_; simp only [zE, op1, ev, lkp, avOf, acOf, opBox, cellsAV, reduceCtorEq, reduceEqDiff, reduceAdd, reduceLeDiff, reduceLT, reduceMul, reduceSub, Try.st24, Try.td24, Try.td28, Mly.av]; (repeat refine And.intro (by first | omega | assumption | exact rfl) ?_); (first | refine hK0 _ ?_ | refine Or.inl (hK0 _ ?_)); clear hK0 K0; simp only [put, app, setAll, trOf, zE, zS, reduceAdd])
  refine rg_nil ?_
  refine hK1 _ ?_; clear hK1; refine awp_keep [0, 1, 2] ?_; simp only [keepEnv, lkp, zE, reduceCtorEq, reduceEqDiff, argEnv, reduceAdd]
  refine awp_seq_k fun K2 hK2 => ?_
  refine awp_reg hP hN rfl ?_
  iterate 4 (refine rg_step rfl fun K0 hK0 => ?_; simp only [zE, op1, ev, lkp, avOf, acOf, opFieldAddr, opLoad, Nat.mul_one, readAC, isAggK, acs, Ty.dflt, zG, cellsAt, opCallAny, opMM, opLen, lenAC, lenOk, fpAC, Nat.div_one, opAppend, srcOf, Ty.size, datOf, dite_true, reduceCtorEq, reduceEqDiff, reduceAdd, reduceLeDiff, reduceLT, reduceMul, reduceSub, Try.el22, Try.st24, Try.td2, Try.td22, Try.td24, Try.td3, Mly.av]; (repeat refine And.intro (by first | omega | assumption | exact rfl) ?_); (first | refine hK0 _ ?_ | refine Or.inl (hK0 _ ?_)); clear hK0 K0; simp only [put, app, setAll, trOf, zE, zS, reduceAdd])
  refine rg_nil ?_
  refine hK2 _ ?_; clear hK2; refine awp_keep [0, 1, 2, 3] ?_; simp only [keepEnv, lkp, zE, reduceCtorEq, reduceEqDiff, argEnv, reduceAdd]
  refine awp_seq_k fun K3 hK3 => ?_
  refine awp_block ?_
  refine awp_seq_k fun K4 hK4 => ?_
  refine awp_reg hP hN rfl ?_
  iterate 3 (refine rg_step rfl fun K0 hK0 => ?_; simp only [zE, op1, ev, lkp, avOf, acOf, opFieldAddr, opLoad, Nat.mul_one, readAC, isAggK, acs, Ty.dflt, zG, cellsAt, opBin, arith, inK_i64, eqACs, eqAC, reduceCtorEq, reduceEqDiff, reduceAdd, reduceLeDiff, reduceLT, reduceMul, reduceSub, Try.st24, Try.td24, Try.td3, Try.td4, Mly.av]; (repeat refine And.intro (by first | omega | assumption | exact rfl) ?_); (first | refine hK0 _ ?_ | refine Or.inl (hK0 _ ?_)); clear hK0 K0; simp only [put, app, setAll, trOf, zE, zS, reduceAdd])
  (refine rg_step rfl fun K0 hK0 => ?_; simp only [zE, op1, ev, lkp, avOf, acOf, ev, reduceCtorEq, reduceEqDiff, reduceAdd, reduceLeDiff, reduceLT, reduceMul, reduceSub, Try.td4, Mly.av]; (repeat refine And.intro (by first | omega | assumption | exact rfl) ?_); (first | refine hK0 _ ?_ | refine Or.inl (hK0 _ ?_)); clear hK0 K0; simp only [put, app, setAll, trOf, zE, zS, reduceAdd])
  refine' rg_join_n (want := false) 3 rfl (m := 15) (by simp only [keepEnv, lkp, zE, reduceCtorEq, reduceEqDiff, argEnv, reduceAdd]; exact rfl) (by kernel_rfl) rfl rfl rfl rfl rfl (fun hg5 => ?a5) ?b5 ?c5
  case a5 =>
    have hq5 := hg5; (try simp only [zB, reduceCtorEq] at hg5); simp only [List.take_succ_cons, List.take_zero, List.cons_append, List.nil_append]
    (refine rg_do rfl fun K0 hK0 => ?_; simp only [zE, op1, ev, lkp, avOf, acOf, opFieldAddr, reduceCtorEq, reduceEqDiff, reduceAdd, reduceLeDiff, reduceLT, reduceMul, reduceSub, Try.st24, Try.td24, Mly.av]; (repeat refine And.intro (by first | omega | assumption | exact rfl) ?_); (first | refine hK0 _ ?_ | refine Or.inl (hK0 _ ?_)); clear hK0 K0; simp only [put, app, setAll, trOf, zE, zS, reduceAdd])
    (refine rg_do rfl fun K0 hK0 => ?_; simp only [zE, op1, ev, lkp, avOf, acOf, opLoad, Nat.mul_one, readAC, isAggK, acs, Ty.dflt, zG, cellsAt, reduceCtorEq, reduceEqDiff, reduceAdd, reduceLeDiff, reduceLT, reduceMul, reduceSub, Try.td3, Mly.av]; (repeat refine And.intro (by first | omega | assumption | exact rfl) ?_); (first | refine hK0 _ ?_ | refine Or.inl (hK0 _ ?_)); clear hK0 K0; simp only [put, app, setAll, trOf, zE, zS, reduceAdd])
    (refine rg_do rfl fun K0 hK0 => ?_; simp only [zE, op1, ev, lkp, avOf, acOf, opBin, arith, inK_i64, eqACs, eqAC, reduceCtorEq, reduceEqDiff, reduceAdd, reduceLeDiff, reduceLT, reduceMul, reduceSub, Try.td3, Try.td4, Mly.av]; (repeat refine And.intro (by first | omega | assumption | exact rfl) ?_); (first | refine hK0 _ ?_ | refine Or.inl (hK0 _ ?_)); clear hK0 K0; simp only [put, app, setAll, trOf, zE, zS, reduceAdd])
    (refine rg_step rfl fun K0 hK0 => ?_; simp only [zE, op1, ev, lkp, avOf, acOf, opPick, reduceCtorEq, reduceEqDiff, reduceAdd, reduceLeDiff, reduceLT, reduceMul, reduceSub, Try.td4, Mly.av]; (repeat refine And.intro (by first | omega | assumption | exact rfl) ?_); (first | refine hK0 _ ?_ | refine Or.inl (hK0 _ ?_)); clear hK0 K0; simp only [put, app, setAll, trOf, zE, zS, reduceAdd])
    refine rg_nil ?_
    refine ⟨by simp only [keepEnv, lkp, zE, reduceCtorEq, reduceEqDiff, argEnv, reduceAdd]; exact rfl, rfl, ?_, rfl⟩; (repeat refine keep_cons rfl ?_); exact keep_m (by exact rfl) hq5
  case b5 => exact tle_of (by first | rfl | (simp [tleB]; done) | decide)
  simp only [join_or, join_and]
  (refine rg_step rfl fun K0 hK0 => ?_; simp only [zE, op1, ev, lkp, avOf, acOf, ev, reduceCtorEq, reduceEqDiff, reduceAdd, reduceLeDiff, reduceLT, reduceMul, reduceSub, Try.td4, Mly.av]; (repeat refine And.intro (by first | omega | assumption | exact rfl) ?_); (first | refine hK0 _ ?_ | refine Or.inl (hK0 _ ?_)); clear hK0 K0; simp only [put, app, setAll, trOf, zE, zS, reduceAdd])
  refine rg_nil ?_
  refine hK4 _ ?_; clear hK4; refine awp_keep [0, 1, 2, 3, 11] ?_; simp only [keepEnv, lkp, zE, reduceCtorEq, reduceEqDiff, argEnv, reduceAdd]
  refine awp_cond (by simp only [ev, keepEnv, lkp, zE, reduceCtorEq, reduceEqDiff, argEnv, reduceAdd]; exact rfl) (fun hc6 => ?_) (fun hc6 => ?_)
  · (try simp only [zB, reduceCtorEq] at hc6)
    refine awp_seq_k fun K7 hK7 => ?_
    refine awp_reg hP hN rfl ?_
    (refine rg_step rfl fun K0 hK0 => ?_; simp only [zE, op1, ev, lkp, avOf, acOf, ev, reduceCtorEq, reduceEqDiff, reduceAdd, reduceLeDiff, reduceLT, reduceMul, reduceSub, Try.td28, Mly.av]; (repeat refine And.intro (by first | omega | assumption | exact rfl) ?_); (first | refine hK0 _ ?_ | refine Or.inl (hK0 _ ?_)); clear hK0 K0; simp only [put, app, setAll, trOf, zE, zS, reduceAdd])
    refine rg_nil ?_
    refine hK7 _ ?_; clear hK7; refine awp_keep [0, 1, 2, 3, 11] ?_; simp only [keepEnv, lkp, zE, reduceCtorEq, reduceEqDiff, argEnv, reduceAdd]
    refine awp_ret ?_
    refine ⟨by first | exact .inl rfl | exact .inr rfl, _, rfl, ?_⟩; simp only [fzV, fz1, fzC, List.map_cons, List.map_nil, keepEnv, lkp, zE, reduceCtorEq, reduceEqDiff, argEnv, reduceAdd, Mly.av]
    refine VLE.of_eq ?_
    refine congrArg (fun n => AV.one (AC.int IntKind.i64 n)) ?_
    symm
    unfold validE
    first
    | (rw [if_pos (by omega)]; done)
    | (rw [if_neg (by omega), if_pos (by omega)]; done)
    | (rw [if_neg (by omega), if_neg (by omega), if_pos (by omega)]; done)
    | (rw [if_neg (by omega), if_neg (by omega), if_neg (by omega), if_pos (by omega)]; done)
    | (rw [if_neg (by omega), if_neg (by omega), if_neg (by omega), if_neg (by omega), if_pos (by omega)]; done)
    | (rw [if_neg (by omega), if_neg (by omega), if_neg (by omega), if_neg (by omega), if_neg (by omega)]
       first
       | exact (firstE_at hrows (by omega) (by rw [rowE_bad2 hc32.1 hc32.2 (j := j) (by omega) (by unfold cellBad; omega)]; decide)).trans (rowE_bad2 hc32.1 hc32.2 (by omega) (by unfold cellBad; omega))
       | exact (firstE_at hrows (by omega) (by rw [rowE_bad1 hc32]; decide)).trans (rowE_bad1 hc32)
       | exact firstE_zero fun i hi => hrows i (by omega))
  · (try simp only [zB, reduceCtorEq] at hc6)
    refine awp_seq_k fun K8 hK8 => ?_
    refine awp_reg hP hN rfl ?_
    iterate 3 (refine rg_step rfl fun K0 hK0 => ?_; simp only [zE, op1, ev, lkp, avOf, acOf, opBin, arith, inK_i64, eqACs, eqAC, reduceCtorEq, reduceEqDiff, reduceAdd, reduceLeDiff, reduceLT, reduceMul, reduceSub, Try.td3, Try.td4, Mly.av]; (repeat refine And.intro (by first | omega | assumption | exact rfl) ?_); (first | refine hK0 _ ?_ | refine Or.inl (hK0 _ ?_)); clear hK0 K0; simp only [put, app, setAll, trOf, zE, zS, reduceAdd])
    refine rg_nil ?_
    refine hK8 _ ?_; clear hK8; refine awp_keep [0, 1, 2, 3, 11, 20] ?_; simp only [keepEnv, lkp, zE, reduceCtorEq, reduceEqDiff, argEnv, reduceAdd]
    refine awp_cond (by simp only [ev, keepEnv, lkp, zE, reduceCtorEq, reduceEqDiff, argEnv, reduceAdd]; exact rfl) (fun hc9 => ?_) (fun hc9 => ?_)
    · (try simp only [zB, reduceCtorEq] at hc9)
      refine awp_seq_k fun K10 hK10 => ?_
      refine awp_reg hP hN rfl ?_
      (refine rg_step rfl fun K0 hK0 => ?_; simp only [zE, op1, ev, lkp, avOf, acOf, ev, reduceCtorEq, reduceEqDiff, reduceAdd, reduceLeDiff, reduceLT, reduceMul, reduceSub, Try.td28, Mly.av]; (repeat refine And.intro (by first | omega | assumption | exact rfl) ?_); (first | refine hK0 _ ?_ | refine Or.inl (hK0 _ ?_)); clear hK0 K0; simp only [put, app, setAll, trOf, zE, zS, reduceAdd])
      refine rg_nil ?_
      refine hK10 _ ?_; clear hK10; refine awp_keep [0, 1, 2, 3, 11, 20] ?_; simp only [keepEnv, lkp, zE, reduceCtorEq, reduceEqDiff, argEnv, reduceAdd]
      refine awp_ret ?_
      refine ⟨by first | exact .inl rfl | exact .inr rfl, _, rfl, ?_⟩; simp only [fzV, fz1, fzC, List.map_cons, List.map_nil, keepEnv, lkp, zE, reduceCtorEq, reduceEqDiff, argEnv, reduceAdd, Mly.av]
      refine VLE.of_eq ?_
      refine congrArg (fun n => AV.one (AC.int IntKind.i64 n)) ?_
      symm
      unfold validE
      first
      | (rw [if_pos (by omega)]; done)
      | (rw [if_neg (by omega), if_pos (by omega)]; done)
      | (rw [if_neg (by omega), if_neg (by omega), if_pos (by omega)]; done)
      | (rw [if_neg (by omega), if_neg (by omega), if_neg (by omega), if_pos (by omega)]; done)
      | (rw [if_neg (by omega), if_neg (by omega), if_neg (by omega), if_neg (by omega), if_pos (by omega)]; done)
      | (rw [if_neg (by omega), if_neg (by omega), if_neg (by omega), if_neg (by omega), if_neg (by omega)]
         first
         | exact (firstE_at hrows (by omega) (by rw [rowE_bad2 hc32.1 hc32.2 (j := j) (by omega) (by unfold cellBad; omega)]; decide)).trans (rowE_bad2 hc32.1 hc32.2 (by omega) (by unfold cellBad; omega))
         | exact (firstE_at hrows (by omega) (by rw [rowE_bad1 hc32]; decide)).trans (rowE_bad1 hc32)
         | exact firstE_zero fun i hi => hrows i (by omega))
    · (try simp only [zB, reduceCtorEq] at hc9)
      refine awp_seq_k fun K11 hK11 => ?_
      refine awp_reg hP hN rfl ?_
      iterate 3 (refine rg_step rfl fun K0 hK0 => ?_; simp only [zE, op1, ev, lkp, avOf, acOf, opBin, arith, inK_i64, eqACs, eqAC, reduceCtorEq, reduceEqDiff, reduceAdd, reduceLeDiff, reduceLT, reduceMul, reduceSub, Try.td3, Try.td4, Mly.av]; (repeat refine And.intro (by first | omega | assumption | exact rfl) ?_); (first | refine hK0 _ ?_ | refine Or.inl (hK0 _ ?_)); clear hK0 K0; simp only [put, app, setAll, trOf, zE, zS, reduceAdd])
      refine rg_nil ?_
      refine hK11 _ ?_; clear hK11; refine awp_keep [0, 1, 2, 3, 11, 20, 23] ?_; simp only [keepEnv, lkp, zE, reduceCtorEq, reduceEqDiff, argEnv, reduceAdd]
      refine awp_cond (by simp only [ev, keepEnv, lkp, zE, reduceCtorEq, reduceEqDiff, argEnv, reduceAdd]; exact rfl) (fun hc12 => ?_) (fun hc12 => ?_)
      · (try simp only [zB, reduceCtorEq] at hc12)
        refine awp_seq_k fun K13 hK13 => ?_
        refine awp_reg hP hN rfl ?_
        (refine rg_step rfl fun K0 hK0 => ?_; simp only [zE, op1, ev, lkp, avOf, acOf, ev, reduceCtorEq, reduceEqDiff, reduceAdd, reduceLeDiff, reduceLT, reduceMul, reduceSub, Try.td28, Mly.av]; (repeat refine And.intro (by first | omega | assumption | exact rfl) ?_); (first | refine hK0 _ ?_ | refine Or.inl (hK0 _ ?_)); clear hK0 K0; simp only [put, app, setAll, trOf, zE, zS, reduceAdd])
        refine rg_nil ?_
        refine hK13 _ ?_; clear hK13; refine awp_keep [0, 1, 2, 3, 11, 20, 23] ?_; simp only [keepEnv, lkp, zE, reduceCtorEq, reduceEqDiff, argEnv, reduceAdd]
        refine awp_ret ?_
        refine ⟨by first | exact .inl rfl | exact .inr rfl, _, rfl, ?_⟩; simp only [fzV, fz1, fzC, List.map_cons, List.map_nil, keepEnv, lkp, zE, reduceCtorEq, reduceEqDiff, argEnv, reduceAdd, Mly.av]
        refine VLE.of_eq ?_
        refine congrArg (fun n => AV.one (AC.int IntKind.i64 n)) ?_
        symm
        unfold validE
        first
        | (rw [if_pos (by omega)]; done)
        | (rw [if_neg (by omega), if_pos (by omega)]; done)
        | (rw [if_neg (by omega), if_neg (by omega), if_pos (by omega)]; done)
        | (rw [if_neg (by omega), if_neg (by omega), if_neg (by omega), if_pos (by omega)]; done)
        | (rw [if_neg (by omega), if_neg (by omega), if_neg (by omega), if_neg (by omega), if_pos (by omega)]; done)
        | (rw [if_neg (by omega), if_neg (by omega), if_neg (by omega), if_neg (by omega), if_neg (by omega)]
           first
           | exact (firstE_at hrows (by omega) (by rw [rowE_bad2 hc32.1 hc32.2 (j := j) (by omega) (by unfold cellBad; omega)]; decide)).trans (rowE_bad2 hc32.1 hc32.2 (by omega) (by unfold cellBad; omega))
           | exact (firstE_at hrows (by omega) (by rw [rowE_bad1 hc32]; decide)).trans (rowE_bad1 hc32)
           | exact firstE_zero fun i hi => hrows i (by omega))
      · (try simp only [zB, reduceCtorEq] at hc12)
        refine awp_seq_k fun K14 hK14 => ?_
        refine awp_reg hP hN rfl ?_
        iterate 3 (refine rg_step rfl fun K0 hK0 => ?_; simp only [zE, op1, ev, lkp, avOf, acOf, opFieldAddr, opLoad, Nat.mul_one, readAC, isAggK, acs, Ty.dflt, zG, cellsAt, opBin, arith, inK_i64, eqACs, eqAC, reduceCtorEq, reduceEqDiff, reduceAdd, reduceLeDiff, reduceLT, reduceMul, reduceSub, Try.st24, Try.td1, Try.td24, Try.td3, Try.td4, Mly.av]; (repeat refine And.intro (by first | omega | assumption | exact rfl) ?_); (first | refine hK0 _ ?_ | refine Or.inl (hK0 _ ?_)); clear hK0 K0; simp only [put, app, setAll, trOf, zE, zS, reduceAdd])
        (refine rg_step rfl fun K0 hK0 => ?_; simp only [zE, op1, ev, lkp, avOf, acOf, ev, reduceCtorEq, reduceEqDiff, reduceAdd, reduceLeDiff, reduceLT, reduceMul, reduceSub, Try.td4, Mly.av]; (repeat refine And.intro (by first | omega | assumption | exact rfl) ?_); (first | refine hK0 _ ?_ | refine Or.inl (hK0 _ ?_)); clear hK0 K0; simp only [put, app, setAll, trOf, zE, zS, reduceAdd])
        refine' rg_join_n (want := false) 4 rfl (m := 30) (by simp only [keepEnv, lkp, zE, reduceCtorEq, reduceEqDiff, argEnv, reduceAdd]; exact rfl) (by kernel_rfl) rfl rfl rfl rfl rfl (fun hg15 => ?a15) ?b15 ?c15
        case a15 =>
          have hq15 := hg15; (try simp only [zB, reduceCtorEq] at hg15); simp only [List.take_succ_cons, List.take_zero, List.cons_append, List.nil_append]
          (refine rg_do rfl fun K0 hK0 => ?_; simp only [zE, op1, ev, lkp, avOf, acOf, opFieldAddr, reduceCtorEq, reduceEqDiff, reduceAdd, reduceLeDiff, reduceLT, reduceMul, reduceSub, Try.st24, Try.td1, Try.td24, Mly.av]; (repeat refine And.intro (by first | omega | assumption | exact rfl) ?_); (first | refine hK0 _ ?_ | refine Or.inl (hK0 _ ?_)); clear hK0 K0; simp only [put, app, setAll, trOf, zE, zS, reduceAdd])
          (refine rg_do rfl fun K0 hK0 => ?_; simp only [zE, op1, ev, lkp, avOf, acOf, opLoad, Nat.mul_one, readAC, isAggK, acs, Ty.dflt, zG, cellsAt, reduceCtorEq, reduceEqDiff, reduceAdd, reduceLeDiff, reduceLT, reduceMul, reduceSub, Try.td3, Mly.av]; (repeat refine And.intro (by first | omega | assumption | exact rfl) ?_); (first | refine hK0 _ ?_ | refine Or.inl (hK0 _ ?_)); clear hK0 K0; simp only [put, app, setAll, trOf, zE, zS, reduceAdd])
          (refine rg_do rfl fun K0 hK0 => ?_; simp only [zE, op1, ev, lkp, avOf, acOf, ev, reduceCtorEq, reduceEqDiff, reduceAdd, reduceLeDiff, reduceLT, reduceMul, reduceSub, Try.td3, Mly.av]; (repeat refine And.intro (by first | omega | assumption | exact rfl) ?_); (first | refine hK0 _ ?_ | refine Or.inl (hK0 _ ?_)); clear hK0 K0; simp only [put, app, setAll, trOf, zE, zS, reduceAdd])
          (refine rg_do rfl fun K0 hK0 => ?_; simp only [zE, op1, ev, lkp, avOf, acOf, opBin, arith, inK_i64, eqACs, eqAC, reduceCtorEq, reduceEqDiff, reduceAdd, reduceLeDiff, reduceLT, reduceMul, reduceSub, Try.td3, Try.td4, Mly.av]; (repeat refine And.intro (by first | omega | assumption | exact rfl) ?_); (first | refine hK0 _ ?_ | refine Or.inl (hK0 _ ?_)); clear hK0 K0; simp only [put, app, setAll, trOf, zE, zS, reduceAdd])
          (refine rg_step rfl fun K0 hK0 => ?_; simp only [zE, op1, ev, lkp, avOf, acOf, opPick, reduceCtorEq, reduceEqDiff, reduceAdd, reduceLeDiff, reduceLT, reduceMul, reduceSub, Try.td4, Mly.av]; (repeat refine And.intro (by first | omega | assumption | exact rfl) ?_); (first | refine hK0 _ ?_ | refine Or.inl (hK0 _ ?_)); clear hK0 K0; simp only [put, app, setAll, trOf, zE, zS, reduceAdd])
          refine rg_nil ?_
          refine ⟨by simp only [keepEnv, lkp, zE, reduceCtorEq, reduceEqDiff, argEnv, reduceAdd]; exact rfl, rfl, ?_, rfl⟩; (repeat refine keep_cons rfl ?_); exact keep_m (by exact rfl) hq15
        case b15 => exact tle_of (by first | rfl | (simp [tleB]; done) | decide)
        simp only [join_or, join_and]
        (refine rg_step rfl fun K0 hK0 => ?_; simp only [zE, op1, ev, lkp, avOf, acOf, ev, reduceCtorEq, reduceEqDiff, reduceAdd, reduceLeDiff, reduceLT, reduceMul, reduceSub, Try.td4, Mly.av]; (repeat refine And.intro (by first | omega | assumption | exact rfl) ?_); (first | refine hK0 _ ?_ | refine Or.inl (hK0 _ ?_)); clear hK0 K0; simp only [put, app, setAll, trOf, zE, zS, reduceAdd])
        refine rg_nil ?_
        refine hK14 _ ?_; clear hK14; refine awp_keep [0, 1, 2, 3, 11, 20, 23, 26] ?_; simp only [keepEnv, lkp, zE, reduceCtorEq, reduceEqDiff, argEnv, reduceAdd]
        refine awp_cond (by simp only [ev, keepEnv, lkp, zE, reduceCtorEq, reduceEqDiff, argEnv, reduceAdd]; exact rfl) (fun hc16 => ?_) (fun hc16 => ?_)
        · (try simp only [zB, reduceCtorEq] at hc16)
          refine awp_seq_k fun K17 hK17 => ?_
          refine awp_reg hP hN rfl ?_
          (refine rg_step rfl fun K0 hK0 => ?_; simp only [zE, op1, ev, lkp, avOf, acOf, ev, reduceCtorEq, reduceEqDiff, reduceAdd, reduceLeDiff, reduceLT, reduceMul, reduceSub, Try.td28, Mly.av]; (repeat refine And.intro (by first | omega | assumption | exact rfl) ?_); (first | refine hK0 _ ?_ | refine Or.inl (hK0 _ ?_)); clear hK0 K0; simp only [put, app, setAll, trOf, zE, zS, reduceAdd])
          refine rg_nil ?_
          refine hK17 _ ?_; clear hK17; refine awp_keep [0, 1, 2, 3, 11, 20, 23, 26] ?_; simp only [keepEnv, lkp, zE, reduceCtorEq, reduceEqDiff, argEnv, reduceAdd]
          refine awp_ret ?_
          refine ⟨by first | exact .inl rfl | exact .inr rfl, _, rfl, ?_⟩; simp only [fzV, fz1, fzC, List.map_cons, List.map_nil, keepEnv, lkp, zE, reduceCtorEq, reduceEqDiff, argEnv, reduceAdd, Mly.av]
          refine VLE.of_eq ?_
          refine congrArg (fun n => AV.one (AC.int IntKind.i64 n)) ?_
          symm
          unfold validE
          first
          | (rw [if_pos (by omega)]; done)
          | (rw [if_neg (by omega), if_pos (by omega)]; done)
          | (rw [if_neg (by omega), if_neg (by omega), if_pos (by omega)]; done)
          | (rw [if_neg (by omega), if_neg (by omega), if_neg (by omega), if_pos (by omega)]; done)
          | (rw [if_neg (by omega), if_neg (by omega), if_neg (by omega), if_neg (by omega), if_pos (by omega)]; done)
          | (rw [if_neg (by omega), if_neg (by omega), if_neg (by omega), if_neg (by omega), if_neg (by omega)]
             first
             | exact (firstE_at hrows (by omega) (by rw [rowE_bad2 hc32.1 hc32.2 (j := j) (by omega) (by unfold cellBad; omega)]; decide)).trans (rowE_bad2 hc32.1 hc32.2 (by omega) (by unfold cellBad; omega))
             | exact (firstE_at hrows (by omega) (by rw [rowE_bad1 hc32]; decide)).trans (rowE_bad1 hc32)
             | exact firstE_zero fun i hi => hrows i (by omega))
        · (try simp only [zB, reduceCtorEq] at hc16)
          refine awp_seq_k fun K18 hK18 => ?_
          refine awp_reg hP hN rfl ?_
          iterate 6 (refine rg_step rfl fun K0 hK0 => ?_; simp only [zE, op1, ev, lkp, avOf, acOf, opFieldAddr, opLoad, Nat.mul_one, readAC, isAggK, acs, Ty.dflt, zG, cellsAt, opCallAny, opMM, opLen, lenAC, lenOk, fpAC, Nat.div_one, opAppend, srcOf, Ty.size, datOf, dite_true, opBin, arith, inK_i64, eqACs, eqAC, reduceCtorEq, reduceEqDiff, reduceAdd, reduceLeDiff, reduceLT, reduceMul, reduceSub, Try.el22, Try.st24, Try.td22, Try.td24, Try.td3, Try.td4, Mly.av]; (repeat refine And.intro (by first | omega | assumption | exact rfl) ?_); (first | refine hK0 _ ?_ | refine Or.inl (hK0 _ ?_)); clear hK0 K0; simp only [put, app, setAll, trOf, zE, zS, reduceAdd])
          refine rg_nil ?_
          refine hK18 _ ?_; clear hK18; refine awp_keep [0, 1, 2, 3, 11, 20, 23, 26, 36] ?_; simp only [keepEnv, lkp, zE, reduceCtorEq, reduceEqDiff, argEnv, reduceAdd]
          refine awp_cond (by simp only [ev, keepEnv, lkp, zE, reduceCtorEq, reduceEqDiff, argEnv, reduceAdd]; exact rfl) (fun hc19 => ?_) (fun hc19 => ?_)
          · (try simp only [zB, reduceCtorEq] at hc19)
            refine awp_seq_k fun K20 hK20 => ?_
            refine awp_reg hP hN rfl ?_
            (refine rg_step rfl fun K0 hK0 => ?_; simp only [zE, op1, ev, lkp, avOf, acOf, ev, reduceCtorEq, reduceEqDiff, reduceAdd, reduceLeDiff, reduceLT, reduceMul, reduceSub, Try.td28, Mly.av]; (repeat refine And.intro (by first | omega | assumption | exact rfl) ?_); (first | refine hK0 _ ?_ | refine Or.inl (hK0 _ ?_)); clear hK0 K0; simp only [put, app, setAll, trOf, zE, zS, reduceAdd])
            refine rg_nil ?_
            refine hK20 _ ?_; clear hK20; refine awp_keep [0, 1, 2, 3, 11, 20, 23, 26, 36] ?_; simp only [keepEnv, lkp, zE, reduceCtorEq, reduceEqDiff, argEnv, reduceAdd]
            refine awp_ret ?_
            refine ⟨by first | exact .inl rfl | exact .inr rfl, _, rfl, ?_⟩; simp only [fzV, fz1, fzC, List.map_cons, List.map_nil, keepEnv, lkp, zE, reduceCtorEq, reduceEqDiff, argEnv, reduceAdd, Mly.av]
            refine VLE.of_eq ?_
            refine congrArg (fun n => AV.one (AC.int IntKind.i64 n)) ?_
            symm
            unfold validE
            first
            | (rw [if_pos (by omega)]; done)
            | (rw [if_neg (by omega), if_pos (by omega)]; done)
            | (rw [if_neg (by omega), if_neg (by omega), if_pos (by omega)]; done)
            | (rw [if_neg (by omega), if_neg (by omega), if_neg (by omega), if_pos (by omega)]; done)
            | (rw [if_neg (by omega), if_neg (by omega), if_neg (by omega), if_neg (by omega), if_pos (by omega)]; done)
            | (rw [if_neg (by omega), if_neg (by omega), if_neg (by omega), if_neg (by omega), if_neg (by omega)]
               first
               | exact (firstE_at hrows (by omega) (by rw [rowE_bad2 hc32.1 hc32.2 (j := j) (by omega) (by unfold cellBad; omega)]; decide)).trans (rowE_bad2 hc32.1 hc32.2 (by omega) (by unfold cellBad; omega))
               | exact (firstE_at hrows (by omega) (by rw [rowE_bad1 hc32]; decide)).trans (rowE_bad1 hc32)
               | exact firstE_zero fun i hi => hrows i (by omega))
          · (try simp only [zB, reduceCtorEq] at hc19)
            refine awp_skip ?_
            refine hK3 _ ?_; clear hK3; refine awp_keep [0, 1, 2, 3, 11, 20, 23, 26, 36] ?_; simp only [keepEnv, lkp, zE, reduceCtorEq, reduceEqDiff, argEnv, reduceAdd]
            refine awp_seq_k fun K21 hK21 => ?_
            refine awp_seq_k fun K22 hK22 => ?_
            refine awp_reg hP hN rfl ?_
            iterate 2 (refine rg_step rfl fun K0 hK0 => ?_; simp only [zE, op1, ev, lkp, avOf, acOf, ev, reduceCtorEq, reduceEqDiff, reduceAdd, reduceLeDiff, reduceLT, reduceMul, reduceSub, Try.td3, Mly.av]; (repeat refine And.intro (by first | omega | assumption | exact rfl) ?_); (first | refine hK0 _ ?_ | refine Or.inl (hK0 _ ?_)); clear hK0 K0; simp only [put, app, setAll, trOf, zE, zS, reduceAdd])
            refine rg_nil ?_
            refine hK22 _ ?_; clear hK22; refine awp_keep [0, 1, 2, 3, 11, 20, 23, 26, 36, 42, 43] ?_; simp only [keepEnv, lkp, zE, reduceCtorEq, reduceEqDiff, argEnv, reduceAdd]
            refine awp_block ?_
            refine awp_loop (fun n23 s23 => ∃ (k : Nat), (k ≤ m.nx.length) ∧ (∀ i, i < k → rowE m i = 0) ∧ n23 = m.nx.length - k ∧ s23 = { env := [(1, .one (.ptr 0 0 0 0)), (3, .one (.int .i64 (m.nx.length : Int))), (42, .one (.int .i64 (m.nx.length : Int))), (43, .one (.int .i64 (k : Int)))], L := [.vars 24 [.int .i64 m.inp, .int .i64 m.st, .list (.list (.int .i64)) m.nx, .list (.list (.int .i64)) m.ot]] }) ?_ ?_
            · exact ⟨_, _, sub_keep [1, 3, 42, 43], 0, Nat.zero_le _, fun i hi => by omega, rfl, rfl⟩
            · rintro n23 s23 ⟨k, hk, hrows, rfl, rfl⟩
              refine awp_seq_k fun K24 hK24 => ?_
              refine awp_reg hP hN rfl ?_
              (refine rg_step rfl fun K0 hK0 => ?_; simp only [zE, op1, ev, lkp, avOf, acOf, opBin, arith, inK_i64, eqACs, eqAC, reduceCtorEq, reduceEqDiff, reduceAdd, reduceLeDiff, reduceLT, reduceMul, reduceSub, Try.td3, Try.td4, Mly.av]; (repeat refine And.intro (by first | omega | assumption | exact rfl) ?_); (first | refine hK0 _ ?_ | refine Or.inl (hK0 _ ?_)); clear hK0 K0; simp only [put, app, setAll, trOf, zE, zS, reduceAdd])
              refine rg_nil ?_
              refine hK24 _ ?_; clear hK24; refine awp_keep [1, 3, 42, 43, 44] ?_; simp only [keepEnv, lkp, zE, reduceCtorEq, reduceEqDiff, argEnv, reduceAdd]
              refine awp_seq_k fun K25 hK25 => ?_
              refine awp_cond (by simp only [ev, keepEnv, lkp, zE, reduceCtorEq, reduceEqDiff, argEnv, reduceAdd]; exact rfl) (fun hc26 => ?_) (fun hc26 => ?_)
              · (try simp only [zB, reduceCtorEq] at hc26)
                refine awp_skip ?_
                refine hK25 _ ?_; clear hK25; refine awp_keep [1, 3, 42, 43, 44] ?_; simp only [keepEnv, lkp, zE, reduceCtorEq, reduceEqDiff, argEnv, reduceAdd]
                refine awp_seq_k fun K27 hK27 => ?_
                refine awp_block ?_
                refine awp_seq_k fun K28 hK28 => ?_
                refine awp_reg hP hN rfl ?_
                iterate 2 (refine rg_step rfl fun K0 hK0 => ?_; simp only [zE, op1, ev, lkp, avOf, acOf, ev, reduceCtorEq, reduceEqDiff, reduceAdd, reduceLeDiff, reduceLT, reduceMul, reduceSub, Try.td3, Mly.av]; (repeat refine And.intro (by first | omega | assumption | exact rfl) ?_); (first | refine hK0 _ ?_ | refine Or.inl (hK0 _ ?_)); clear hK0 K0; simp only [put, app, setAll, trOf, zE, zS, reduceAdd])
                refine rg_nil ?_
                refine hK28 _ ?_; clear hK28; refine awp_keep [1, 3, 4, 42, 43, 44] ?_; simp only [keepEnv, lkp, zE, reduceCtorEq, reduceEqDiff, argEnv, reduceAdd]
                refine awp_seq_k fun K29 hK29 => ?_
                refine awp_seq_k fun K30 hK30 => ?_
                refine awp_drw hP hN Try.mixed rfl ?_
                iterate 9 (refine rg_step rfl fun K0 hK0 => ?_; simp only [zE, op1, ev, lkp, avOf, acOf, opFieldAddr, opLoad, Nat.mul_one, readAC, isAggK, acs, Ty.dflt, zG, cellsAt, opIndexAddr, Ty.size, ne_eq, not_false_eq_true, Int.natCast_one, Int.mul_one, opCallAny, opMM, opLen, lenAC, lenOk, fpAC, Nat.div_one, opAppend, srcOf, datOf, dite_true, opBin, arith, inK_i64, eqACs, eqAC, reduceCtorEq, reduceEqDiff, reduceAdd, reduceLeDiff, reduceLT, reduceMul, reduceSub, Try.el22, Try.el25, Try.st24, Try.td2, Try.td22, Try.td24, Try.td25, Try.td3, Try.td4, Mly.av]; (repeat refine And.intro (by first | omega | assumption | exact rfl) ?_); (first | refine hK0 _ ?_ | refine Or.inl (hK0 _ ?_)); clear hK0 K0; simp only [put, app, setAll, trOf, zE, zS, reduceAdd])
                (refine rg_step rfl fun K0 hK0 => ?_; simp only [zE, op1, ev, lkp, avOf, acOf, ev, reduceCtorEq, reduceEqDiff, reduceAdd, reduceLeDiff, reduceLT, reduceMul, reduceSub, Try.td4, Mly.av]; (repeat refine And.intro (by first | omega | assumption | exact rfl) ?_); (first | refine hK0 _ ?_ | refine Or.inl (hK0 _ ?_)); clear hK0 K0; simp only [put, app, setAll, trOf, zE, zS, reduceAdd])
                refine' rg_join_n (want := false) 9 rfl (m := 55) (by simp only [keepEnv, lkp, zE, reduceCtorEq, reduceEqDiff, argEnv, reduceAdd]; exact rfl) (by kernel_rfl) rfl rfl rfl rfl rfl (fun hg31 => ?a31) ?b31 ?c31
                case a31 =>
                  have hq31 := hg31; (try simp only [zB, reduceCtorEq] at hg31); simp only [List.take_succ_cons, List.take_zero, List.cons_append, List.nil_append]
                  (refine rg_do rfl fun K0 hK0 => ?_; simp only [zE, op1, ev, lkp, avOf, acOf, opFieldAddr, reduceCtorEq, reduceEqDiff, reduceAdd, reduceLeDiff, reduceLT, reduceMul, reduceSub, Try.st24, Try.td24, Try.td3, Mly.av]; (repeat refine And.intro (by first | omega | assumption | exact rfl) ?_); (first | refine hK0 _ ?_ | refine Or.inl (hK0 _ ?_)); clear hK0 K0; simp only [put, app, setAll, trOf, zE, zS, reduceAdd])
                  (refine rg_do rfl fun K0 hK0 => ?_; simp only [zE, op1, ev, lkp, avOf, acOf, opLoad, Nat.mul_one, readAC, isAggK, acs, Ty.dflt, zG, cellsAt, reduceCtorEq, reduceEqDiff, reduceAdd, reduceLeDiff, reduceLT, reduceMul, reduceSub, Try.el22, Try.td22, Mly.av]; (repeat refine And.intro (by first | omega | assumption | exact rfl) ?_); (first | refine hK0 _ ?_ | refine Or.inl (hK0 _ ?_)); clear hK0 K0; simp only [put, app, setAll, trOf, zE, zS, reduceAdd])
                  (refine rg_do rfl fun K0 hK0 => ?_; simp only [zE, op1, ev, lkp, avOf, acOf, ev, reduceCtorEq, reduceEqDiff, reduceAdd, reduceLeDiff, reduceLT, reduceMul, reduceSub, Try.td3, Mly.av]; (repeat refine And.intro (by first | omega | assumption | exact rfl) ?_); (first | refine hK0 _ ?_ | refine Or.inl (hK0 _ ?_)); clear hK0 K0; simp only [put, app, setAll, trOf, zE, zS, reduceAdd])
                  (refine rg_do rfl fun K0 hK0 => ?_; simp only [zE, op1, ev, lkp, avOf, acOf, opIndexAddr, zG, Ty.dflt, Ty.size, Nat.mul_one, ne_eq, not_false_eq_true, Int.natCast_one, Int.mul_one, reduceCtorEq, reduceEqDiff, reduceAdd, reduceLeDiff, reduceLT, reduceMul, reduceSub, Try.el22, Try.td22, Mly.av]; (repeat refine And.intro (by first | omega | assumption | exact rfl) ?_); (first | refine hK0 _ ?_ | refine Or.inl (hK0 _ ?_)); clear hK0 K0; simp only [put, app, setAll, trOf, zE, zS, reduceAdd])
                  (refine rg_do rfl fun K0 hK0 => ?_; simp only [zE, op1, ev, lkp, avOf, acOf, opLoad, Nat.mul_one, readAC, isAggK, acs, Ty.dflt, zG, cellsAt, reduceCtorEq, reduceEqDiff, reduceAdd, reduceLeDiff, reduceLT, reduceMul, reduceSub, Try.el25, Try.td25, Mly.av]; (repeat refine And.intro (by first | omega | assumption | exact rfl) ?_); (first | refine hK0 _ ?_ | refine Or.inl (hK0 _ ?_)); clear hK0 K0; simp only [put, app, setAll, trOf, zE, zS, reduceAdd])
                  (refine rg_do rfl fun K0 hK0 => ?_; simp only [zE, op1, ev, lkp, avOf, acOf, opCallAny, opMM, opLen, lenAC, lenOk, fpAC, Nat.div_one, opAppend, srcOf, Ty.size, datOf, dite_true, reduceCtorEq, reduceEqDiff, reduceAdd, reduceLeDiff, reduceLT, reduceMul, reduceSub, Try.el25, Try.td25, Try.td3, Mly.av]; (repeat refine And.intro (by first | omega | assumption | exact rfl) ?_); (first | refine hK0 _ ?_ | refine Or.inl (hK0 _ ?_)); clear hK0 K0; simp only [put, app, setAll, trOf, zE, zS, reduceAdd])
                  (refine rg_do rfl fun K0 hK0 => ?_; simp only [zE, op1, ev, lkp, avOf, acOf, opFieldAddr, reduceCtorEq, reduceEqDiff, reduceAdd, reduceLeDiff, reduceLT, reduceMul, reduceSub, Try.st24, Try.td24, Mly.av]; (repeat refine And.intro (by first | omega | assumption | exact rfl) ?_); (first | refine hK0 _ ?_ | refine Or.inl (hK0 _ ?_)); clear hK0 K0; simp only [put, app, setAll, trOf, zE, zS, reduceAdd])
                  (refine rg_do rfl fun K0 hK0 => ?_; simp only [zE, op1, ev, lkp, avOf, acOf, opLoad, Nat.mul_one, readAC, isAggK, acs, Ty.dflt, zG, cellsAt, reduceCtorEq, reduceEqDiff, reduceAdd, reduceLeDiff, reduceLT, reduceMul, reduceSub, Try.td3, Mly.av]; (repeat refine And.intro (by first | omega | assumption | exact rfl) ?_); (first | refine hK0 _ ?_ | refine Or.inl (hK0 _ ?_)); clear hK0 K0; simp only [put, app, setAll, trOf, zE, zS, reduceAdd])
                  (refine rg_do rfl fun K0 hK0 => ?_; simp only [zE, op1, ev, lkp, avOf, acOf, opBin, arith, inK_i64, eqACs, eqAC, reduceCtorEq, reduceEqDiff, reduceAdd, reduceLeDiff, reduceLT, reduceMul, reduceSub, Try.td3, Try.td4, Mly.av]; (repeat refine And.intro (by first | omega | assumption | exact rfl) ?_); (first | refine hK0 _ ?_ | refine Or.inl (hK0 _ ?_)); clear hK0 K0; simp only [put, app, setAll, trOf, zE, zS, reduceAdd])
                  (refine rg_step rfl fun K0 hK0 => ?_; simp only [zE, op1, ev, lkp, avOf, acOf, opPick, reduceCtorEq, reduceEqDiff, reduceAdd, reduceLeDiff, reduceLT, reduceMul, reduceSub, Try.td4, Mly.av]; (repeat refine And.intro (by first | omega | assumption | exact rfl) ?_); (first | refine hK0 _ ?_ | refine Or.inl (hK0 _ ?_)); clear hK0 K0; simp only [put, app, setAll, trOf, zE, zS, reduceAdd])
                  refine rg_nil ?_
                  refine ⟨by simp only [keepEnv, lkp, zE, reduceCtorEq, reduceEqDiff, argEnv, reduceAdd]; exact rfl, rfl, ?_, rfl⟩; (repeat refine keep_cons rfl ?_); exact keep_m (by exact rfl) hq31
                case b31 => exact tle_of (by first | rfl | (simp [tleB]; done) | decide)
                simp only [join_or, join_and]
                refine rg_nil ?_
                refine ⟨by kernel_rfl, ?_⟩
                refine hK30 _ ?_; clear hK30; refine awp_keep [1, 3, 4, 42, 43, 44, 65] ?_; simp only [keepEnv, lkp, zE, reduceCtorEq, reduceEqDiff, argEnv, reduceAdd]
                refine awp_cond (by simp only [ev, keepEnv, lkp, zE, reduceCtorEq, reduceEqDiff, argEnv, reduceAdd]; exact rfl) (fun hc32 => ?_) (fun hc32 => ?_)
                · (try simp only [zB, reduceCtorEq] at hc32)
                  refine awp_seq_k fun K33 hK33 => ?_
                  refine awp_reg hP hN rfl ?_
                  (refine rg_step rfl fun K0 hK0 => ?_; simp only [zE, op1, ev, lkp, avOf, acOf, ev, reduceCtorEq, reduceEqDiff, reduceAdd, reduceLeDiff, reduceLT, reduceMul, reduceSub, Try.td28, Mly.av]; (repeat refine And.intro (by first | omega | assumption | exact rfl) ?_); (first | refine hK0 _ ?_ | refine Or.inl (hK0 _ ?_)); clear hK0 K0; simp only [put, app, setAll, trOf, zE, zS, reduceAdd])
                  refine rg_nil ?_
                  refine hK33 _ ?_; clear hK33; refine awp_keep [1, 2, 3, 4, 42, 43, 44, 65] ?_; simp only [keepEnv, lkp, zE, reduceCtorEq, reduceEqDiff, argEnv, reduceAdd]
                  refine awp_ret ?_
                  refine ⟨by first | exact .inl rfl | exact .inr rfl, _, rfl, ?_⟩; simp only [fzV, fz1, fzC, List.map_cons, List.map_nil, keepEnv, lkp, zE, reduceCtorEq, reduceEqDiff, argEnv, reduceAdd, Mly.av]
                  refine VLE.of_eq ?_
                  refine congrArg (fun n => AV.one (AC.int IntKind.i64 n)) ?_
                  symm
                  unfold validE
                  first
                  | (rw [if_pos (by omega)]; done)
                  | (rw [if_neg (by omega), if_pos (by omega)]; done)
                  | (rw [if_neg (by omega), if_neg (by omega), if_pos (by omega)]; done)
                  | (rw [if_neg (by omega), if_neg (by omega), if_neg (by omega), if_pos (by omega)]; done)
                  | (rw [if_neg (by omega), if_neg (by omega), if_neg (by omega), if_neg (by omega), if_pos (by omega)]; done)
                  | (rw [if_neg (by omega), if_neg (by omega), if_neg (by omega), if_neg (by omega), if_neg (by omega)]
                     first
                     | exact (firstE_at hrows (by omega) (by rw [rowE_bad2 hc32.1 hc32.2 (j := j) (by omega) (by unfold cellBad; omega)]; decide)).trans (rowE_bad2 hc32.1 hc32.2 (by omega) (by unfold cellBad; omega))
                     | exact (firstE_at hrows (by omega) (by rw [rowE_bad1 hc32]; decide)).trans (rowE_bad1 hc32)
                     | exact firstE_zero fun i hi => hrows i (by omega))
                · (try simp only [zB, reduceCtorEq] at hc32)
                  refine awp_skip ?_
                  refine hK29 _ ?_; clear hK29; refine awp_keep [1, 3, 4, 42, 43, 44, 65] ?_; simp only [keepEnv, lkp, zE, reduceCtorEq, reduceEqDiff, argEnv, reduceAdd]
                  refine awp_seq_k fun K34 hK34 => ?_
                  refine awp_reg hP hN rfl ?_
                  iterate 3 (refine rg_step rfl fun K0 hK0 => ?_; simp only [zE, op1, ev, lkp, avOf, acOf, opFieldAddr, opLoad, Nat.mul_one, readAC, isAggK, acs, Ty.dflt, zG, cellsAt, reduceCtorEq, reduceEqDiff, reduceAdd, reduceLeDiff, reduceLT, reduceMul, reduceSub, Try.st24, Try.td24, Try.td3, Mly.av]; (repeat refine And.intro (by first | omega | assumption | exact rfl) ?_); (first | refine hK0 _ ?_ | refine Or.inl (hK0 _ ?_)); clear hK0 K0; simp only [put, app, setAll, trOf, zE, zS, reduceAdd])
                  refine rg_nil ?_
                  refine hK34 _ ?_; clear hK34; refine awp_keep [1, 3, 4, 42, 43, 44, 65, 67, 68] ?_; simp only [keepEnv, lkp, zE, reduceCtorEq, reduceEqDiff, argEnv, reduceAdd]
                  refine awp_block ?_
                  refine awp_loop (fun n35 s35 => ∃ (j : Nat), ((j : Int) ≤ m.inp) ∧ (∀ a, a < j → ¬ cellBad m k a) ∧ n35 = m.inp.toNat - j ∧ s35 = { env := [(1, .one (.ptr 0 0 0 0)), (3, .one (.int .i64 (m.nx.length : Int))), (4, .one (.int .i64 (k : Int))), (42, .one (.int .i64 (m.nx.length : Int))), (43, .one (.int .i64 (k : Int))), (67, .one (.int .i64 m.inp)), (68, .one (.int .i64 (j : Int)))], L := [.vars 24 [.int .i64 m.inp, .int .i64 m.st, .list (.list (.int .i64)) m.nx, .list (.list (.int .i64)) m.ot]] }) ?_ ?_
                  · refine ⟨_, _, sub_keep [1, 3, 4, 42, 43, 67, 68], 0, ?_, fun i hi => by omega, rfl, rfl⟩; omega
                  · rintro n35 s35 ⟨j, hj, hcells, rfl, rfl⟩
                    refine awp_seq_k fun K36 hK36 => ?_
                    refine awp_reg hP hN rfl ?_
                    (refine rg_step rfl fun K0 hK0 => ?_; simp only [zE, op1, ev, lkp, avOf, acOf, opBin, arith, inK_i64, eqACs, eqAC, reduceCtorEq, reduceEqDiff, reduceAdd, reduceLeDiff, reduceLT, reduceMul, reduceSub, Try.td3, Try.td4, Mly.av]; (repeat refine And.intro (by first | omega | assumption | exact rfl) ?_); (first | refine hK0 _ ?_ | refine Or.inl (hK0 _ ?_)); clear hK0 K0; simp only [put, app, setAll, trOf, zE, zS, reduceAdd])
                    refine rg_nil ?_
                    refine hK36 _ ?_; clear hK36; refine awp_keep [1, 3, 4, 42, 43, 67, 68, 69] ?_; simp only [keepEnv, lkp, zE, reduceCtorEq, reduceEqDiff, argEnv, reduceAdd]
                    refine awp_seq_k fun K37 hK37 => ?_
                    refine awp_cond (by simp only [ev, keepEnv, lkp, zE, reduceCtorEq, reduceEqDiff, argEnv, reduceAdd]; exact rfl) (fun hc38 => ?_) (fun hc38 => ?_)
                    · (try simp only [zB, reduceCtorEq] at hc38)
                      refine awp_skip ?_
                      refine hK37 _ ?_; clear hK37; refine awp_keep [1, 3, 4, 42, 43, 67, 68, 69] ?_; simp only [keepEnv, lkp, zE, reduceCtorEq, reduceEqDiff, argEnv, reduceAdd]
                      refine awp_seq_k fun K39 hK39 => ?_
                      refine awp_block ?_
                      refine awp_seq_k fun K40 hK40 => ?_
                      refine awp_reg hP hN rfl ?_
                      iterate 2 (refine rg_step rfl fun K0 hK0 => ?_; simp only [zE, op1, ev, lkp, avOf, acOf, ev, reduceCtorEq, reduceEqDiff, reduceAdd, reduceLeDiff, reduceLT, reduceMul, reduceSub, Try.td3, Mly.av]; (repeat refine And.intro (by first | omega | assumption | exact rfl) ?_); (first | refine hK0 _ ?_ | refine Or.inl (hK0 _ ?_)); clear hK0 K0; simp only [put, app, setAll, trOf, zE, zS, reduceAdd])
                      refine rg_nil ?_
                      refine hK40 _ ?_; clear hK40; refine awp_keep [1, 3, 4, 5, 42, 43, 67, 68, 69] ?_; simp only [keepEnv, lkp, zE, reduceCtorEq, reduceEqDiff, argEnv, reduceAdd]
                      refine awp_seq_k fun K41 hK41 => ?_
                      refine awp_drw hP hN Try.mixed rfl ?_
                      iterate 18 (refine rg_step rfl fun K0 hK0 => ?_; simp only [zE, op1, ev, lkp, avOf, acOf, opFieldAddr, opLoad, Nat.mul_one, readAC, isAggK, acs, Ty.dflt, zG, cellsAt, opIndexAddr, Ty.size, ne_eq, not_false_eq_true, Int.natCast_one, Int.mul_one, reduceCtorEq, reduceEqDiff, reduceAdd, reduceLeDiff, reduceLT, reduceMul, reduceSub, Try.el22, Try.el25, Try.st24, Try.td2, Try.td22, Try.td24, Try.td25, Try.td3, Mly.av]; (repeat refine And.intro (by first | omega | assumption | exact rfl) ?_); (first | refine hK0 _ ?_ | refine Or.inl (hK0 _ ?_)); clear hK0 K0; simp only [put, app, setAll, trOf, zE, zS, reduceAdd])
                      refine rg_nil ?_
                      refine ⟨by kernel_rfl, ?_⟩
                      refine hK41 _ ?_; clear hK41; refine awp_keep [1, 3, 4, 5, 6, 7, 42, 43, 67, 68, 69] ?_; simp only [keepEnv, lkp, zE, reduceCtorEq, reduceEqDiff, argEnv, reduceAdd]
                      refine awp_seq_k fun K42 hK42 => ?_
                      refine awp_reg hP hN rfl ?_
                      iterate 2 (refine rg_step rfl fun K0 hK0 => ?_; simp only [zE, op1, ev, lkp, avOf, acOf, opBin, arith, inK_i64, eqACs, eqAC, reduceCtorEq, reduceEqDiff, reduceAdd, reduceLeDiff, reduceLT, reduceMul, reduceSub, Try.td3, Try.td4, Mly.av]; (repeat refine And.intro (by first | omega | assumption | exact rfl) ?_); (first | refine hK0 _ ?_ | refine Or.inl (hK0 _ ?_)); clear hK0 K0; simp only [put, app, setAll, trOf, zE, zS, reduceAdd])
                      (refine rg_step rfl fun K0 hK0 => ?_; simp only [zE, op1, ev, lkp, avOf, acOf, ev, reduceCtorEq, reduceEqDiff, reduceAdd, reduceLeDiff, reduceLT, reduceMul, reduceSub, Try.td4, Mly.av]; (repeat refine And.intro (by first | omega | assumption | exact rfl) ?_); (first | refine hK0 _ ?_ | refine Or.inl (hK0 _ ?_)); clear hK0 K0; simp only [put, app, setAll, trOf, zE, zS, reduceAdd])
                      refine' rg_join_n (want := false) 3 rfl (m := 89) (by simp only [keepEnv, lkp, zE, reduceCtorEq, reduceEqDiff, argEnv, reduceAdd]; exact rfl) (by kernel_rfl) rfl rfl rfl rfl rfl (fun hg43 => ?a43) ?b43 ?c43
                      case a43 =>
                        have hq43 := hg43; (try simp only [zB, reduceCtorEq] at hg43); simp only [List.take_succ_cons, List.take_zero, List.cons_append, List.nil_append]
                        (refine rg_do rfl fun K0 hK0 => ?_; simp only [zE, op1, ev, lkp, avOf, acOf, ev, reduceCtorEq, reduceEqDiff, reduceAdd, reduceLeDiff, reduceLT, reduceMul, reduceSub, Try.td3, Mly.av]; (repeat refine And.intro (by first | omega | assumption | exact rfl) ?_); (first | refine hK0 _ ?_ | refine Or.inl (hK0 _ ?_)); clear hK0 K0; simp only [put, app, setAll, trOf, zE, zS, reduceAdd])
                        (refine rg_do rfl fun K0 hK0 => ?_; simp only [zE, op1, ev, lkp, avOf, acOf, ev, reduceCtorEq, reduceEqDiff, reduceAdd, reduceLeDiff, reduceLT, reduceMul, reduceSub, Try.td3, Mly.av]; (repeat refine And.intro (by first | omega | assumption | exact rfl) ?_); (first | refine hK0 _ ?_ | refine Or.inl (hK0 _ ?_)); clear hK0 K0; simp only [put, app, setAll, trOf, zE, zS, reduceAdd])
                        (refine rg_do rfl fun K0 hK0 => ?_; simp only [zE, op1, ev, lkp, avOf, acOf, opBin, arith, inK_i64, eqACs, eqAC, reduceCtorEq, reduceEqDiff, reduceAdd, reduceLeDiff, reduceLT, reduceMul, reduceSub, Try.td3, Try.td4, Mly.av]; (repeat refine And.intro (by first | omega | assumption | exact rfl) ?_); (first | refine hK0 _ ?_ | refine Or.inl (hK0 _ ?_)); clear hK0 K0; simp only [put, app, setAll, trOf, zE, zS, reduceAdd])
                        (refine rg_step rfl fun K0 hK0 => ?_; simp only [zE, op1, ev, lkp, avOf, acOf, opPick, reduceCtorEq, reduceEqDiff, reduceAdd, reduceLeDiff, reduceLT, reduceMul, reduceSub, Try.td4, Mly.av]; (repeat refine And.intro (by first | omega | assumption | exact rfl) ?_); (first | refine hK0 _ ?_ | refine Or.inl (hK0 _ ?_)); clear hK0 K0; simp only [put, app, setAll, trOf, zE, zS, reduceAdd])
                        refine rg_nil ?_
                        refine ⟨by simp only [keepEnv, lkp, zE, reduceCtorEq, reduceEqDiff, argEnv, reduceAdd]; exact rfl, rfl, ?_, rfl⟩; (repeat refine keep_cons rfl ?_); exact keep_m (by exact rfl) hq43
                      case b43 => exact tle_of (by first | rfl | (simp [tleB]; done) | decide)
                      simp only [join_or, join_and]
                      (refine rg_step rfl fun K0 hK0 => ?_; simp only [zE, op1, ev, lkp, avOf, acOf, ev, reduceCtorEq, reduceEqDiff, reduceAdd, reduceLeDiff, reduceLT, reduceMul, reduceSub, Try.td4, Mly.av]; (repeat refine And.intro (by first | omega | assumption | exact rfl) ?_); (first | refine hK0 _ ?_ | refine Or.inl (hK0 _ ?_)); clear hK0 K0; simp only [put, app, setAll, trOf, zE, zS, reduceAdd])
                      refine' rg_join_n (want := false) 2 rfl (m := 94) (by simp only [keepEnv, lkp, zE, reduceCtorEq, reduceEqDiff, argEnv, reduceAdd]; exact rfl) (by kernel_rfl) rfl rfl rfl rfl rfl (fun hg44 => ?a44) ?b44 ?c44
                      case a44 =>
                        have hq44 := hg44; (try simp only [zB, reduceCtorEq] at hg44); simp only [List.take_succ_cons, List.take_zero, List.cons_append, List.nil_append]
                        (refine rg_do rfl fun K0 hK0 => ?_; simp only [zE, op1, ev, lkp, avOf, acOf, ev, reduceCtorEq, reduceEqDiff, reduceAdd, reduceLeDiff, reduceLT, reduceMul, reduceSub, Try.td3, Mly.av]; (repeat refine And.intro (by first | omega | assumption | exact rfl) ?_); (first | refine hK0 _ ?_ | refine Or.inl (hK0 _ ?_)); clear hK0 K0; simp only [put, app, setAll, trOf, zE, zS, reduceAdd])
                        (refine rg_do rfl fun K0 hK0 => ?_; simp only [zE, op1, ev, lkp, avOf, acOf, opBin, arith, inK_i64, eqACs, eqAC, reduceCtorEq, reduceEqDiff, reduceAdd, reduceLeDiff, reduceLT, reduceMul, reduceSub, Try.td3, Try.td4, Mly.av]; (repeat refine And.intro (by first | omega | assumption | exact rfl) ?_); (first | refine hK0 _ ?_ | refine Or.inl (hK0 _ ?_)); clear hK0 K0; simp only [put, app, setAll, trOf, zE, zS, reduceAdd])
                        (refine rg_step rfl fun K0 hK0 => ?_; simp only [zE, op1, ev, lkp, avOf, acOf, opPick, reduceCtorEq, reduceEqDiff, reduceAdd, reduceLeDiff, reduceLT, reduceMul, reduceSub, Try.td4, Mly.av]; (repeat refine And.intro (by first | omega | assumption | exact rfl) ?_); (first | refine hK0 _ ?_ | refine Or.inl (hK0 _ ?_)); clear hK0 K0; simp only [put, app, setAll, trOf, zE, zS, reduceAdd])
                        refine rg_nil ?_
                        refine ⟨by simp only [keepEnv, lkp, zE, reduceCtorEq, reduceEqDiff, argEnv, reduceAdd]; exact rfl, rfl, ?_, rfl⟩; (repeat refine keep_cons rfl ?_); exact keep_m (by exact rfl) hq44
                      case b44 => exact tle_of (by first | rfl | (simp [tleB]; done) | decide)
                      simp only [join_or, join_and]
                      (refine rg_step rfl fun K0 hK0 => ?_; simp only [zE, op1, ev, lkp, avOf, acOf, ev, reduceCtorEq, reduceEqDiff, reduceAdd, reduceLeDiff, reduceLT, reduceMul, reduceSub, Try.td4, Mly.av]; (repeat refine And.intro (by first | omega | assumption | exact rfl) ?_); (first | refine hK0 _ ?_ | refine Or.inl (hK0 _ ?_)); clear hK0 K0; simp only [put, app, setAll, trOf, zE, zS, reduceAdd])
                      refine' rg_join_n (want := false) 2 rfl (m := 98) (by simp only [keepEnv, lkp, zE, reduceCtorEq, reduceEqDiff, argEnv, reduceAdd]; exact rfl) (by kernel_rfl) rfl rfl rfl rfl rfl (fun hg45 => ?a45) ?b45 ?c45
                      case a45 =>
                        have hq45 := hg45; (try simp only [zB, reduceCtorEq] at hg45); simp only [List.take_succ_cons, List.take_zero, List.cons_append, List.nil_append]
                        (refine rg_do rfl fun K0 hK0 => ?_; simp only [zE, op1, ev, lkp, avOf, acOf, ev, reduceCtorEq, reduceEqDiff, reduceAdd, reduceLeDiff, reduceLT, reduceMul, reduceSub, Try.td3, Mly.av]; (repeat refine And.intro (by first | omega | assumption | exact rfl) ?_); (first | refine hK0 _ ?_ | refine Or.inl (hK0 _ ?_)); clear hK0 K0; simp only [put, app, setAll, trOf, zE, zS, reduceAdd])
                        (refine rg_do rfl fun K0 hK0 => ?_; simp only [zE, op1, ev, lkp, avOf, acOf, opBin, arith, inK_i64, eqACs, eqAC, reduceCtorEq, reduceEqDiff, reduceAdd, reduceLeDiff, reduceLT, reduceMul, reduceSub, Try.td3, Try.td4, Mly.av]; (repeat refine And.intro (by first | omega | assumption | exact rfl) ?_); (first | refine hK0 _ ?_ | refine Or.inl (hK0 _ ?_)); clear hK0 K0; simp only [put, app, setAll, trOf, zE, zS, reduceAdd])
                        (refine rg_step rfl fun K0 hK0 => ?_; simp only [zE, op1, ev, lkp, avOf, acOf, opPick, reduceCtorEq, reduceEqDiff, reduceAdd, reduceLeDiff, reduceLT, reduceMul, reduceSub, Try.td4, Mly.av]; (repeat refine And.intro (by first | omega | assumption | exact rfl) ?_); (first | refine hK0 _ ?_ | refine Or.inl (hK0 _ ?_)); clear hK0 K0; simp only [put, app, setAll, trOf, zE, zS, reduceAdd])
                        refine rg_nil ?_
                        refine ⟨by simp only [keepEnv, lkp, zE, reduceCtorEq, reduceEqDiff, argEnv, reduceAdd]; exact rfl, rfl, ?_, rfl⟩; (repeat refine keep_cons rfl ?_); exact keep_m (by exact rfl) hq45
                      case b45 => exact tle_of (by first | rfl | (simp [tleB]; done) | decide)
                      simp only [join_or, join_and]
                      refine rg_nil ?_
                      refine hK42 _ ?_; clear hK42; refine awp_keep [1, 3, 4, 5, 6, 7, 42, 43, 67, 68, 69, 101] ?_; simp only [keepEnv, lkp, zE, reduceCtorEq, reduceEqDiff, argEnv, reduceAdd]
                      refine awp_cond (by simp only [ev, keepEnv, lkp, zE, reduceCtorEq, reduceEqDiff, argEnv, reduceAdd]; exact rfl) (fun hc46 => ?_) (fun hc46 => ?_)
                      · (try simp only [zB, reduceCtorEq] at hc46)
                        refine awp_seq_k fun K47 hK47 => ?_
                        refine awp_reg hP hN rfl ?_
                        (refine rg_step rfl fun K0 hK0 => ?_; simp only [zE, op1, ev, lkp, avOf, acOf, ev, reduceCtorEq, reduceEqDiff, reduceAdd, reduceLeDiff, reduceLT, reduceMul, reduceSub, Try.td28, Mly.av]; (repeat refine And.intro (by first | omega | assumption | exact rfl) ?_); (first | refine hK0 _ ?_ | refine Or.inl (hK0 _ ?_)); clear hK0 K0; simp only [put, app, setAll, trOf, zE, zS, reduceAdd])
                        refine rg_nil ?_
                        refine hK47 _ ?_; clear hK47; refine awp_keep [1, 2, 3, 4, 5, 6, 7, 42, 43, 67, 68, 69, 101] ?_; simp only [keepEnv, lkp, zE, reduceCtorEq, reduceEqDiff, argEnv, reduceAdd]
                        refine awp_ret ?_
                        refine ⟨by first | exact .inl rfl | exact .inr rfl, _, rfl, ?_⟩; simp only [fzV, fz1, fzC, List.map_cons, List.map_nil, keepEnv, lkp, zE, reduceCtorEq, reduceEqDiff, argEnv, reduceAdd, Mly.av]
                        refine VLE.of_eq ?_
                        refine congrArg (fun n => AV.one (AC.int IntKind.i64 n)) ?_
                        symm
                        unfold validE
                        first
                        | (rw [if_pos (by omega)]; done)
                        | (rw [if_neg (by omega), if_pos (by omega)]; done)
                        | (rw [if_neg (by omega), if_neg (by omega), if_pos (by omega)]; done)
                        | (rw [if_neg (by omega), if_neg (by omega), if_neg (by omega), if_pos (by omega)]; done)
                        | (rw [if_neg (by omega), if_neg (by omega), if_neg (by omega), if_neg (by omega), if_pos (by omega)]; done)
                        | (rw [if_neg (by omega), if_neg (by omega), if_neg (by omega), if_neg (by omega), if_neg (by omega)]
                           first
                           | exact (firstE_at hrows (by omega) (by rw [rowE_bad2 hc32.1 hc32.2 (j := j) (by omega) (by unfold cellBad; omega)]; decide)).trans (rowE_bad2 hc32.1 hc32.2 (by omega) (by unfold cellBad; omega))
                           | exact (firstE_at hrows (by omega) (by rw [rowE_bad1 hc32]; decide)).trans (rowE_bad1 hc32)
                           | exact firstE_zero fun i hi => hrows i (by omega))
                      · (try simp only [zB, reduceCtorEq] at hc46)
                        refine awp_skip ?_
                        refine hK39 _ ?_; clear hK39; refine awp_keep [1, 3, 4, 5, 6, 7, 42, 43, 67, 68, 69, 101] ?_; simp only [keepEnv, lkp, zE, reduceCtorEq, reduceEqDiff, argEnv, reduceAdd]
                        refine awp_reg hP hN rfl ?_
                        iterate 2 (refine rg_step rfl fun K0 hK0 => ?_; simp only [zE, op1, ev, lkp, avOf, acOf, opBin, arith, inK_i64, eqACs, eqAC, reduceCtorEq, reduceEqDiff, reduceAdd, reduceLeDiff, reduceLT, reduceMul, reduceSub, Try.td3, Mly.av]; (repeat refine And.intro (by first | omega | assumption | exact rfl) ?_); (first | refine hK0 _ ?_ | refine Or.inl (hK0 _ ?_)); clear hK0 K0; simp only [put, app, setAll, trOf, zE, zS, reduceAdd])
                        refine rg_nil ?_
                        refine ⟨_, _, ?_, sub_keep [1, 3, 4, 42, 43, 67, 68], j + 1, ?_, fun a ha => ?_, rfl, rfl⟩
                        · omega
                        · omega
                        · by_cases e : a = j
                          · rw [e]; unfold cellBad; omega
                          · exact hcells a (by omega)
                    · (try simp only [zB, reduceCtorEq] at hc38)
                      refine awp_exit ?_
                      refine hK27 _ ?_; clear hK27; refine awp_keep [1, 3, 4, 42, 43, 67, 68, 69] ?_; simp only [keepEnv, lkp, zE, reduceCtorEq, reduceEqDiff, argEnv, reduceAdd]
                      refine awp_reg hP hN rfl ?_
                      iterate 2 (refine rg_step rfl fun K0 hK0 => ?_; simp only [zE, op1, ev, lkp, avOf, acOf, opBin, arith, inK_i64, eqACs, eqAC, reduceCtorEq, reduceEqDiff, reduceAdd, reduceLeDiff, reduceLT, reduceMul, reduceSub, Try.td3, Mly.av]; (repeat refine And.intro (by first | omega | assumption | exact rfl) ?_); (first | refine hK0 _ ?_ | refine Or.inl (hK0 _ ?_)); clear hK0 K0; simp only [put, app, setAll, trOf, zE, zS, reduceAdd])
                      refine rg_nil ?_
                      refine ⟨_, _, ?_, sub_keep [1, 3, 42, 43], k + 1, by omega, fun i hi => ?_, rfl, rfl⟩
                      · omega
                      · by_cases e : i = k
                        · rw [e]; exact rowE_ok hc32.1 hc32.2 fun a ha => hcells a (by omega)
                        · exact hrows i (by omega)
              · (try simp only [zB, reduceCtorEq] at hc26)
                refine awp_exit ?_
                refine hK21 _ ?_; clear hK21; refine awp_keep [1, 3, 42, 43, 44] ?_; simp only [keepEnv, lkp, zE, reduceCtorEq, reduceEqDiff, argEnv, reduceAdd]
                refine awp_seq_k fun K48 hK48 => ?_
                refine awp_reg hP hN rfl ?_
                (refine rg_step rfl fun K0 hK0 => ?_; simp only [zE, op1, ev, lkp, avOf, acOf, ev, reduceCtorEq, reduceEqDiff, reduceAdd, reduceLeDiff, reduceLT, reduceMul, reduceSub, Try.td28, Mly.av]; (repeat refine And.intro (by first | omega | assumption | exact rfl) ?_); (first | refine hK0 _ ?_ | refine Or.inl (hK0 _ ?_)); clear hK0 K0; simp only [put, app, setAll, trOf, zE, zS, reduceAdd])
                refine rg_nil ?_
                refine hK48 _ ?_; clear hK48; refine awp_keep [1, 2, 3, 42, 43, 44] ?_; simp only [keepEnv, lkp, zE, reduceCtorEq, reduceEqDiff, argEnv, reduceAdd]
                refine awp_ret ?_
                refine ⟨by first | exact .inl rfl | exact .inr rfl, _, rfl, ?_⟩; simp only [fzV, fz1, fzC, List.map_cons, List.map_nil, keepEnv, lkp, zE, reduceCtorEq, reduceEqDiff, argEnv, reduceAdd, Mly.av]
                refine VLE.of_eq ?_
                refine congrArg (fun n => AV.one (AC.int IntKind.i64 n)) ?_
                symm
                unfold validE
                first
                | (rw [if_pos (by omega)]; done)
                | (rw [if_neg (by omega), if_pos (by omega)]; done)
                | (rw [if_neg (by omega), if_neg (by omega), if_pos (by omega)]; done)
                | (rw [if_neg (by omega), if_neg (by omega), if_neg (by omega), if_pos (by omega)]; done)
                | (rw [if_neg (by omega), if_neg (by omega), if_neg (by omega), if_neg (by omega), if_pos (by omega)]; done)
                | (rw [if_neg (by omega), if_neg (by omega), if_neg (by omega), if_neg (by omega), if_neg (by omega)]
                   first
                   | exact (firstE_at hrows (by omega) (by rw [rowE_bad2 hc32.1 hc32.2 (j := j) (by omega) (by unfold cellBad; omega)]; decide)).trans (rowE_bad2 hc32.1 hc32.2 (by omega) (by unfold cellBad; omega))
                   | exact (firstE_at hrows (by omega) (by rw [rowE_bad1 hc32]; decide)).trans (rowE_bad1 hc32)
                   | exact firstE_zero fun i hi => hrows i (by omega))
end Go.Proofs.Ytceafldjjedhcaa
namespace Go.Proofs.Ytceafldjjedhcaa
open Go Go.AV
open Nat (reduceEqDiff reduceAdd reduceLeDiff reduceLT reduceMul reduceSub)
open List (set_cons_zero set_cons_succ)
set_option maxRecDepth 100000 in
theorem part_c (m : Mly) (k : Int) : PURE Try.prog 61 [m.av, .one (.int .i64 k)] (.tup [.one (.list (.int .i64) (if validE m = 0 then m.refC k else [])), .one (.int .i64 (validE m))]) := by
  refine pure_of_le Try.func61 rfl (by kernel_rfl) (Nat.le_of_ble_eq_true rfl) rfl fun C hP hN hB => ?_
  replace hN : C.N = 21 := hN
  simp only [argEnv, reduceAdd]
  refine awp_seq_k fun K1 hK1 => ?_
  refine awp_reg hP hN rfl ?_
  iterate 3 (refine rg_step rfl fun K0 hK0 => ?_; simp only [zE, op1, ev, lkp, avOf, acOf, opBox, cellsAV, reduceCtorEq, reduceEqDiff, reduceAdd, reduceLeDiff, reduceLT, reduceMul, reduceSub, Try.el25, Try.st24, Try.td24, Try.td25, Try.td28, Mly.av]; (repeat refine And.intro (by first | omega | assumption | exact rfl) ?_); (first | refine hK0 _ ?_ | refine Or.inl (hK0 _ ?_)); clear hK0 K0; simp only [put, app, setAll, trOf, zE, zS, reduceAdd])
  refine rg_nil ?_
  refine hK1 _ ?_; clear hK1; refine awp_keep [0, 1, 2, 4, 5] ?_; simp only [keepEnv, lkp, zE, reduceCtorEq, reduceEqDiff, argEnv, reduceAdd]
  refine awp_seq_k fun K2 hK2 => ?_
  refine awp_seq_k fun K3 hK3 => ?_
  refine awp_reg hP hN rfl ?_
  (refine rg_step rfl fun K0 hK0 => ?_; simp only [zE, op1, ev, lkp, avOf, acOf, opLoad, Nat.mul_one, readAC, isAggK, acs, Ty.dflt, zG, cellsAt, reduceCtorEq, reduceEqDiff, reduceAdd, reduceLeDiff, reduceLT, reduceMul, reduceSub, Try.st24, Try.td24, Mly.av]; (repeat refine And.intro (by first | omega | assumption | exact rfl) ?_); (first | refine hK0 _ ?_ | refine Or.inl (hK0 _ ?_)); clear hK0 K0; simp only [put, app, setAll, trOf, zE, zS, reduceAdd])
  refine rg_step rfl fun K0 hK0 => ?_
  refine op_call (h := call_of_pure (valid_c m)) rfl rfl (by first | exact rfl | (simp only [ev, keepEnv, lkp, zE, reduceCtorEq, reduceEqDiff, argEnv, reduceAdd]; exact rfl)) (by simp only [zE, zG, op1, ev, lkp, avOf, acOf, cellsAV, acs, capAV, mv1, mvC, Ty.dflt, reduceCtorEq, reduceEqDiff, reduceAdd, reduceLeDiff, reduceLT, reduceMul, reduceSub, Mly.av]) ?_
  refine hK0 _ ?_; clear hK0 K0; simp only [put, app, setAll, trOf, zE, zS, reduceAdd]
  (refine rg_step rfl fun K0 hK0 => ?_; simp only [zE, op1, ev, lkp, avOf, acOf, ev, reduceCtorEq, reduceEqDiff, reduceAdd, reduceLeDiff, reduceLT, reduceMul, reduceSub, Try.td28, Mly.av]; (repeat refine And.intro (by first | omega | assumption | exact rfl) ?_); (first | refine hK0 _ ?_ | refine Or.inl (hK0 _ ?_)); clear hK0 K0; simp only [put, app, setAll, trOf, zE, zS, reduceAdd])
  refine rg_nil ?_
  refine hK3 _ ?_; clear hK3; refine awp_keep [0, 1, 2, 4, 5, 6] ?_; simp only [keepEnv, lkp, zE, reduceCtorEq, reduceEqDiff, argEnv, reduceAdd]
  refine awp_seq_k fun K4 hK4 => ?_
  refine awp_reg hP hN rfl ?_
  iterate 2 (refine rg_step rfl fun K0 hK0 => ?_; simp only [zE, op1, ev, lkp, avOf, acOf, opBin, arith, inK_i64, eqACs, eqAC, reduceCtorEq, reduceEqDiff, reduceAdd, reduceLeDiff, reduceLT, reduceMul, reduceSub, Try.td28, Try.td4, Mly.av]; (repeat refine And.intro (by first | omega | assumption | exact rfl) ?_); (first | refine hK0 _ ?_ | refine Or.inl (hK0 _ ?_)); clear hK0 K0; simp only [put, app, setAll, trOf, zE, zS, reduceAdd])
  refine rg_nil ?_
  refine hK4 _ ?_; clear hK4; refine awp_keep [0, 1, 2, 4, 5, 6, 12] ?_; simp only [keepEnv, lkp, zE, reduceCtorEq, reduceEqDiff, argEnv, reduceAdd]
  refine awp_cond (by simp only [ev, keepEnv, lkp, zE, reduceCtorEq, reduceEqDiff, argEnv, reduceAdd]; exact rfl) (fun hc5 => ?_) (fun hc5 => ?_)
  · (try simp only [zB, reduceCtorEq] at hc5)
    refine awp_seq_k fun K6 hK6 => ?_
    refine awp_reg hP hN rfl ?_
    iterate 3 (refine rg_step rfl fun K0 hK0 => ?_; simp only [zE, op1, ev, lkp, avOf, acOf, ev, reduceCtorEq, reduceEqDiff, reduceAdd, reduceLeDiff, reduceLT, reduceMul, reduceSub, Try.el25, Try.td25, Try.td28, Mly.av]; (repeat refine And.intro (by first | omega | assumption | exact rfl) ?_); (first | refine hK0 _ ?_ | refine Or.inl (hK0 _ ?_)); clear hK0 K0; simp only [put, app, setAll, trOf, zE, zS, reduceAdd])
    refine rg_nil ?_
    refine hK6 _ ?_; clear hK6; refine awp_keep [0, 1, 2, 4, 5, 6, 12] ?_; simp only [keepEnv, lkp, zE, reduceCtorEq, reduceEqDiff, argEnv, reduceAdd]
    refine awp_ret ?_
    refine ⟨by first | exact .inl rfl | exact .inr rfl, _, rfl, ?_⟩; simp only [fzV, fz1, fzC, List.map_cons, List.map_nil, keepEnv, lkp, zE, reduceCtorEq, reduceEqDiff, argEnv, reduceAdd, Mly.av]
    first
    | (rw [if_neg ‹¬validE m = 0›]; exact vle_tup ⟨vle1_one (cle_nils rfl), vle1_one (.refl _), trivial⟩)
    | (rw [if_pos ‹validE m = 0›, ‹validE m = 0›]; exact vle_tup ⟨vle1_one (.refl _), vle1_one (.refl _), trivial⟩)
  · (try simp only [zB, reduceCtorEq] at hc5)
    refine awp_skip ?_
    refine hK2 _ ?_; clear hK2; refine awp_keep [0, 1, 2, 4, 5, 6, 12] ?_; simp only [keepEnv, lkp, zE, reduceCtorEq, reduceEqDiff, argEnv, reduceAdd]
    refine awp_seq_k fun K7 hK7 => ?_
    refine awp_reg hP hN rfl ?_
    iterate 2 (refine rg_step rfl fun K0 hK0 => ?_; simp only [zE, op1, ev, lkp, avOf, acOf, opLoad, Nat.mul_one, readAC, isAggK, acs, Ty.dflt, zG, cellsAt, reduceCtorEq, reduceEqDiff, reduceAdd, reduceLeDiff, reduceLT, reduceMul, reduceSub, Try.st24, Try.td24, Try.td3, Mly.av]; (repeat refine And.intro (by first | omega | assumption | exact rfl) ?_); (first | refine hK0 _ ?_ | refine Or.inl (hK0 _ ?_)); clear hK0 K0; simp only [put, app, setAll, trOf, zE, zS, reduceAdd])
    refine rg_step rfl fun K0 hK0 => ?_
    refine op_call (h := call_of_pure (mrefine_c m k (mok_of (by assumption)))) rfl rfl (by first | exact rfl | (simp only [ev, keepEnv, lkp, zE, reduceCtorEq, reduceEqDiff, argEnv, reduceAdd]; exact rfl)) (by simp only [zE, zG, op1, ev, lkp, avOf, acOf, cellsAV, acs, capAV, mv1, mvC, Ty.dflt, reduceCtorEq, reduceEqDiff, reduceAdd, reduceLeDiff, reduceLT, reduceMul, reduceSub, Mly.av]) ?_
    refine hK0 _ ?_; clear hK0 K0; simp only [put, app, setAll, trOf, zE, zS, reduceAdd]
    iterate 5 (refine rg_step rfl fun K0 hK0 => ?_; simp only [zE, op1, ev, lkp, avOf, acOf, opExtract, reduceCtorEq, reduceEqDiff, reduceAdd, reduceLeDiff, reduceLT, reduceMul, reduceSub, Try.el25, Try.td1, Try.td25, Try.td3, Mly.av]; (repeat refine And.intro (by first | omega | assumption | exact rfl) ?_); (first | refine hK0 _ ?_ | refine Or.inl (hK0 _ ?_)); clear hK0 K0; simp only [put, app, setAll, trOf, zE, zS, reduceAdd])
    refine rg_nil ?_
    refine hK7 _ ?_; clear hK7; refine awp_keep [0, 1, 2, 4, 5, 6, 7, 12] ?_; simp only [keepEnv, lkp, zE, reduceCtorEq, reduceEqDiff, argEnv, reduceAdd]
    refine awp_seq_k fun K8 hK8 => ?_
    refine awp_reg hP hN rfl ?_
    iterate 3 (refine rg_step rfl fun K0 hK0 => ?_; simp only [zE, op1, ev, lkp, avOf, acOf, ev, reduceCtorEq, reduceEqDiff, reduceAdd, reduceLeDiff, reduceLT, reduceMul, reduceSub, Try.el25, Try.td25, Try.td28, Mly.av]; (repeat refine And.intro (by first | omega | assumption | exact rfl) ?_); (first | refine hK0 _ ?_ | refine Or.inl (hK0 _ ?_)); clear hK0 K0; simp only [put, app, setAll, trOf, zE, zS, reduceAdd])
    refine rg_nil ?_
    refine hK8 _ ?_; clear hK8; refine awp_keep [0, 1, 2, 4, 5, 6, 7, 12] ?_; simp only [keepEnv, lkp, zE, reduceCtorEq, reduceEqDiff, argEnv, reduceAdd]
    refine awp_ret ?_
    refine ⟨by first | exact .inl rfl | exact .inr rfl, _, rfl, ?_⟩; simp only [fzV, fz1, fzC, List.map_cons, List.map_nil, keepEnv, lkp, zE, reduceCtorEq, reduceEqDiff, argEnv, reduceAdd, Mly.av]
    first
    | (rw [if_neg ‹¬validE m = 0›]; exact vle_tup ⟨vle1_one (cle_nils rfl), vle1_one (.refl _), trivial⟩)
    | (rw [if_pos ‹validE m = 0›, ‹validE m = 0›]; exact vle_tup ⟨vle1_one (.refl _), vle1_one (.refl _), trivial⟩)
end Go.Proofs.Ytceafldjjedhcaa
namespace Go.Proofs.Ytceafldjjedhcaa
open Go Go.AV
open Nat (reduceEqDiff reduceAdd reduceLeDiff reduceLT reduceMul reduceSub)
open List (set_cons_zero set_cons_succ)
set_option maxRecDepth 100000 in
theorem classes_c (m : Mly) : PURE Try.prog 49 [m.av] (.tup [.one (.list (.int .i64) (if validE m = 0 then m.eqc else [])), .one (.int .i64 (validE m))]) := by
  refine pure_of_le Try.func49 rfl (by kernel_rfl) (Nat.le_of_ble_eq_true rfl) rfl fun C hP hN hB => ?_
  replace hN : C.N = 8 := hN
  simp only [argEnv, reduceAdd]
  refine awp_seq_k fun K1 hK1 => ?_
  refine awp_reg hP hN rfl ?_
  iterate 3 (refine rg_step rfl fun K0 hK0 => ?_; simp only [zE, op1, ev, lkp, avOf, acOf, opBox, cellsAV, reduceCtorEq, reduceEqDiff, reduceAdd, reduceLeDiff, reduceLT, reduceMul, reduceSub, Try.el25, Try.st24, Try.td24, Try.td25, Try.td28, Mly.av]; (repeat refine And.intro (by first | omega | assumption | exact rfl) ?_); (first | refine hK0 _ ?_ | refine Or.inl (hK0 _ ?_)); clear hK0 K0; simp only [put, app, setAll, trOf, zE, zS, reduceAdd])
  refine rg_nil ?_
  refine hK1 _ ?_; clear hK1; refine awp_keep [0, 1, 2, 3] ?_; simp only [keepEnv, lkp, zE, reduceCtorEq, reduceEqDiff, argEnv, reduceAdd]
  refine awp_seq_k fun K2 hK2 => ?_
  refine awp_reg hP hN rfl ?_
  (refine rg_step rfl fun K0 hK0 => ?_; simp only [zE, op1, ev, lkp, avOf, acOf, opLoad, Nat.mul_one, readAC, isAggK, acs, Ty.dflt, zG, cellsAt, reduceCtorEq, reduceEqDiff, reduceAdd, reduceLeDiff, reduceLT, reduceMul, reduceSub, Try.st24, Try.td24, Mly.av]; (repeat refine And.intro (by first | omega | assumption | exact rfl) ?_); (first | refine hK0 _ ?_ | refine Or.inl (hK0 _ ?_)); clear hK0 K0; simp only [put, app, setAll, trOf, zE, zS, reduceAdd])
  refine rg_step rfl fun K0 hK0 => ?_
  refine op_call (h := call_of_pure (part_c m 128)) rfl rfl (by first | exact rfl | (simp only [ev, keepEnv, lkp, zE, reduceCtorEq, reduceEqDiff, argEnv, reduceAdd]; exact rfl)) (by simp only [zE, zG, op1, ev, lkp, avOf, acOf, cellsAV, acs, capAV, mv1, mvC, Ty.dflt, reduceCtorEq, reduceEqDiff, reduceAdd, reduceLeDiff, reduceLT, reduceMul, reduceSub, Mly.av]) ?_
  refine hK0 _ ?_; clear hK0 K0; simp only [put, app, setAll, trOf, zE, zS, reduceAdd]
  iterate 4 (refine rg_step rfl fun K0 hK0 => ?_; simp only [zE, op1, ev, lkp, avOf, acOf, opExtract, reduceCtorEq, reduceEqDiff, reduceAdd, reduceLeDiff, reduceLT, reduceMul, reduceSub, Try.el25, Try.td1, Try.td25, Try.td28, Mly.av]; (repeat refine And.intro (by first | omega | assumption | exact rfl) ?_); (first | refine hK0 _ ?_ | refine Or.inl (hK0 _ ?_)); clear hK0 K0; simp only [put, app, setAll, trOf, zE, zS, reduceAdd])
  refine rg_nil ?_
  refine hK2 _ ?_; clear hK2; refine awp_keep [0, 1, 2, 3] ?_; simp only [keepEnv, lkp, zE, reduceCtorEq, reduceEqDiff, argEnv, reduceAdd]
  refine awp_ret ?_
  refine ⟨by first | exact .inl rfl | exact .inr rfl, _, rfl, ?_⟩; simp only [fzV, fz1, fzC, List.map_cons, List.map_nil, keepEnv, lkp, zE, reduceCtorEq, reduceEqDiff, argEnv, reduceAdd, Mly.av]
  refine VLE.of_eq ?_
  rfl
end Go.Proofs.Ytceafldjjedhcaa
namespace Go.Proofs.Ytceafldjjedhcaa
open Go Go.AV
open Nat (reduceEqDiff reduceAdd reduceLeDiff reduceLT reduceMul reduceSub)
open List (set_cons_zero set_cons_succ)
theorem classesK_c (m : Mly) (hv : validE m = 0) : PURE Try.prog 49 [m.av] (.tup [.one (.list (.int .i64) m.eqc), .one (.int .i64 0)]) := by
  have h := classes_c m
  rw [if_pos hv, hv] at h
  exact h

end Go.Proofs.Ytceafldjjedhcaa
namespace Go.AV
open Nat (reduceEqDiff reduceAdd reduceLeDiff reduceLT reduceMul reduceSub)
open List (set_cons_zero set_cons_succ)
/-plain-/
theorem flat2_len (w : List Int) (x : Int) : [w, [x]].flatten.length = w.length + 1 := by simp
theorem mem_of_getD {xs : List Int} {k : Nat} {x : Int} (h : k < xs.length) (e : x = xs.getD k 0) : x ∈ xs := by rw [e]; exact getD_mem h
theorem pos_first {xs : List Int} {x : Int} : ∀ {k : Nat}, k < xs.length → x = xs.getD k 0 → (∀ q, q < k → xs.getD q 0 ≠ x) → pos xs x = k := by
  induction xs with
  | nil => intro k h; cases h
  | cons y xs ih =>
    intro k h e hq
    cases k with
    | zero => simp [List.getD] at e; simp [pos, e]
    | succ k =>
      have h0 := hq 0 (by omega)
      simp [List.getD] at h0
      simp only [pos]
      rw [if_neg h0, ih (by simpa using h) (by simpa [List.getD] using e) (fun q hq2 => by have := hq (q + 1) (by omega); simpa [List.getD] using this)]
theorem not_mem_of {xs : List Int} {x : Int} {k : Nat} (hq : ∀ q, q < k → xs.getD q 0 ≠ x) (h : xs.length ≤ k) : x ∉ xs := by
  intro hm
  obtain ⟨i, hi⟩ := List.getElem?_of_mem hm
  have := (List.getElem?_eq_some_iff.1 hi).1
  exact hq i (by omega) (by simp [List.getD, hi])
end Go.AV
namespace Go.Proofs.Ytceafldjjedhcaa
open Go Go.AV
open Nat (reduceEqDiff reduceAdd reduceLeDiff reduceLT reduceMul reduceSub)
open List (set_cons_zero set_cons_succ)
set_option maxRecDepth 100000 in
theorem index_c (xs : List Int) (x : Int) : PURE Try.prog 62 [.one (.list (.int .i64) xs), .one (.int .i64 x)] (.one (.int .i64 (if x ∈ xs then (pos xs x : Int) else -1))) := by
  refine pure_of_le Try.func62 rfl (by kernel_rfl) (Nat.le_of_ble_eq_true rfl) rfl fun C hP hN hB => ?_
  replace hN : C.N = 19 := hN
  simp only [argEnv, reduceAdd]
  refine awp_fit 0 rfl fun hf0 => ?_; simp only [lkp, if_true, if_false, reduceCtorEq, reduceEqDiff, eq_self, Nat.one_ne_zero, Nat.zero_ne_one, fitV, fitC, fitL, Fit, and_true, implies_true, true_and] at hf0
  refine awp_seq_k fun K1 hK1 => ?_
  refine awp_reg hP hN rfl ?_
  (refine rg_step rfl fun K0 hK0 => ?_; simp only [zE, op1, ev, lkp, avOf, acOf, ev, reduceCtorEq, reduceEqDiff, reduceAdd, reduceLeDiff, reduceLT, reduceMul, reduceSub, Try.td3]; (repeat refine And.intro (by first | omega | assumption | exact rfl) ?_); (first | refine hK0 _ ?_ | refine Or.inl (hK0 _ ?_)); clear hK0 K0; simp only [put, app, setAll, trOf, zE, zS, reduceAdd])
  refine rg_nil ?_
  refine hK1 _ ?_; clear hK1; refine awp_keep [0, 1, 4] ?_; simp only [keepEnv, lkp, zE, reduceCtorEq, reduceEqDiff, argEnv, reduceAdd]
  refine awp_seq_k fun K2 hK2 => ?_
  refine awp_seq_k fun K3 hK3 => ?_
  refine awp_reg hP hN rfl ?_
  iterate 3 (refine rg_step rfl fun K0 hK0 => ?_; simp only [zE, op1, ev, lkp, avOf, acOf, opCallAny, opMM, opLen, lenAC, lenOk, fpAC, Nat.div_one, opAppend, srcOf, Ty.size, datOf, dite_true, reduceCtorEq, reduceEqDiff, reduceAdd, reduceLeDiff, reduceLT, reduceMul, reduceSub, Try.el25, Try.td25, Try.td3]; (repeat refine And.intro (by first | omega | assumption | exact rfl) ?_); (first | refine hK0 _ ?_ | refine Or.inl (hK0 _ ?_)); clear hK0 K0; simp only [put, app, setAll, trOf, zE, zS, reduceAdd])
  refine rg_nil ?_
  refine hK3 _ ?_; clear hK3; refine awp_keep [0, 1, 4, 7, 8] ?_; simp only [keepEnv, lkp, zE, reduceCtorEq, reduceEqDiff, argEnv, reduceAdd]
  refine awp_block ?_
  refine awp_loop (fun n4 s4 => ∃ (k : Nat), (k ≤ xs.length) ∧ (∀ q, q < k → xs.getD q 0 ≠ x) ∧ n4 = xs.length - k ∧ s4 = { env := [(0, .one (.list (.int .i64) xs)), (1, .one (.int .i64 x)), (7, .one (.int .i64 (xs.length : Int))), (8, .one (.int .i64 (k : Int)))], L := [] }) ?_ ?_
  · exact ⟨_, _, sub_keep [0, 1, 7, 8], 0, Nat.zero_le _, fun q hq => by omega, rfl, rfl⟩
  · rintro n4 s4 ⟨k, hk, hq, rfl, rfl⟩
    refine awp_seq_k fun K5 hK5 => ?_
    refine awp_reg hP hN rfl ?_
    (refine rg_step rfl fun K0 hK0 => ?_; simp only [zE, op1, ev, lkp, avOf, acOf, opBin, arith, inK_i64, eqACs, eqAC, reduceCtorEq, reduceEqDiff, reduceAdd, reduceLeDiff, reduceLT, reduceMul, reduceSub, Try.td3]; (repeat refine And.intro (by first | omega | assumption | exact rfl) ?_); (first | refine hK0 _ ?_ | refine Or.inl (hK0 _ ?_)); clear hK0 K0; simp only [put, app, setAll, trOf, zE, zS, reduceAdd])
    refine rg_nil ?_
    refine hK5 _ ?_; clear hK5; refine awp_keep [0, 1, 7, 8, 9] ?_; simp only [keepEnv, lkp, zE, reduceCtorEq, reduceEqDiff, argEnv, reduceAdd]
    refine awp_seq_k fun K6 hK6 => ?_
    refine awp_cond (by simp only [ev, keepEnv, lkp, zE, reduceCtorEq, reduceEqDiff, argEnv, reduceAdd]; exact rfl) (fun hc7 => ?_) (fun hc7 => ?_)
    · (try simp only [zB, reduceCtorEq] at hc7)
      refine awp_skip ?_
      refine hK6 _ ?_; clear hK6; refine awp_keep [0, 1, 7, 8, 9] ?_; simp only [keepEnv, lkp, zE, reduceCtorEq, reduceEqDiff, argEnv, reduceAdd]
      refine awp_seq_k fun K8 hK8 => ?_
      refine awp_block ?_
      refine awp_seq_k fun K9 hK9 => ?_
      refine awp_reg hP hN rfl ?_
      iterate 2 (refine rg_step rfl fun K0 hK0 => ?_; simp only [zE, op1, ev, lkp, avOf, acOf, ev, reduceCtorEq, reduceEqDiff, reduceAdd, reduceLeDiff, reduceLT, reduceMul, reduceSub, Try.td3]; (repeat refine And.intro (by first | omega | assumption | exact rfl) ?_); (first | refine hK0 _ ?_ | refine Or.inl (hK0 _ ?_)); clear hK0 K0; simp only [put, app, setAll, trOf, zE, zS, reduceAdd])
      refine rg_nil ?_
      refine hK9 _ ?_; clear hK9; refine awp_keep [0, 1, 5, 7, 8, 9] ?_; simp only [keepEnv, lkp, zE, reduceCtorEq, reduceEqDiff, argEnv, reduceAdd]
      refine awp_seq_k fun K10 hK10 => ?_
      refine awp_reg hP hN rfl ?_
      iterate 6 (refine rg_step rfl fun K0 hK0 => ?_; simp only [zE, op1, ev, lkp, avOf, acOf, opIndexAddr, zG, Ty.dflt, Ty.size, Nat.mul_one, ne_eq, not_false_eq_true, Int.natCast_one, Int.mul_one, opLoad, readAC, isAggK, acs, cellsAt, opBin, arith, inK_i64, eqACs, eqAC, reduceCtorEq, reduceEqDiff, reduceAdd, reduceLeDiff, reduceLT, reduceMul, reduceSub, Try.el25, Try.td25, Try.td3, Try.td4]; (repeat refine And.intro (by first | omega | assumption | exact rfl) ?_); (first | refine hK0 _ ?_ | refine Or.inl (hK0 _ ?_)); clear hK0 K0; simp only [put, app, setAll, trOf, zE, zS, reduceAdd])
      refine rg_nil ?_
      refine hK10 _ ?_; clear hK10; refine awp_keep [0, 1, 5, 7, 8, 9, 16] ?_; simp only [keepEnv, lkp, zE, reduceCtorEq, reduceEqDiff, argEnv, reduceAdd]
      refine awp_cond (by simp only [ev, keepEnv, lkp, zE, reduceCtorEq, reduceEqDiff, argEnv, reduceAdd]; exact rfl) (fun hc11 => ?_) (fun hc11 => ?_)
      · (try simp only [zB, reduceCtorEq] at hc11)
        refine awp_seq_k fun K12 hK12 => ?_
        refine awp_reg hP hN rfl ?_
        iterate 2 (refine rg_step rfl fun K0 hK0 => ?_; simp only [zE, op1, ev, lkp, avOf, acOf, ev, reduceCtorEq, reduceEqDiff, reduceAdd, reduceLeDiff, reduceLT, reduceMul, reduceSub, Try.td3]; (repeat refine And.intro (by first | omega | assumption | exact rfl) ?_); (first | refine hK0 _ ?_ | refine Or.inl (hK0 _ ?_)); clear hK0 K0; simp only [put, app, setAll, trOf, zE, zS, reduceAdd])
        refine rg_nil ?_
        refine hK12 _ ?_; clear hK12; refine awp_keep [0, 1, 4, 5, 7, 8, 9, 16] ?_; simp only [keepEnv, lkp, zE, reduceCtorEq, reduceEqDiff, argEnv, reduceAdd]
        refine awp_ret ?_
        refine ⟨by first | exact .inl rfl | exact .inr rfl, _, rfl, ?_⟩; simp only [fzV, fz1, fzC, List.map_cons, List.map_nil, keepEnv, lkp, zE, reduceCtorEq, reduceEqDiff, argEnv, reduceAdd]
        refine VLE.of_eq ?_
        refine congrArg (fun n => AV.one (AC.int IntKind.i64 n)) ?_
        first
        | (rw [if_pos (mem_of_getD (k := k) (by omega) (by omega)), pos_first (k := k) (by omega) (by omega) hq]; done)
        | (rw [if_neg (not_mem_of hq (by omega))]; done)
      · (try simp only [zB, reduceCtorEq] at hc11)
        refine awp_skip ?_
        refine hK8 _ ?_; clear hK8; refine awp_keep [0, 1, 5, 7, 8, 9, 16] ?_; simp only [keepEnv, lkp, zE, reduceCtorEq, reduceEqDiff, argEnv, reduceAdd]
        refine awp_reg hP hN rfl ?_
        iterate 2 (refine rg_step rfl fun K0 hK0 => ?_; simp only [zE, op1, ev, lkp, avOf, acOf, opBin, arith, inK_i64, eqACs, eqAC, reduceCtorEq, reduceEqDiff, reduceAdd, reduceLeDiff, reduceLT, reduceMul, reduceSub, Try.td3]; (repeat refine And.intro (by first | omega | assumption | exact rfl) ?_); (first | refine hK0 _ ?_ | refine Or.inl (hK0 _ ?_)); clear hK0 K0; simp only [put, app, setAll, trOf, zE, zS, reduceAdd])
        refine rg_nil ?_
        refine ⟨_, _, ?_, sub_keep [0, 1, 7, 8], k + 1, by omega, fun q hq2 => ?_, rfl, rfl⟩
        · omega
        · by_cases e : q = k
          · rw [e]; intro hh; simp_all
          · exact hq q (by omega)
    · (try simp only [zB, reduceCtorEq] at hc7)
      refine awp_exit ?_
      refine hK2 _ ?_; clear hK2; refine awp_keep [0, 1, 7, 8, 9] ?_; simp only [keepEnv, lkp, zE, reduceCtorEq, reduceEqDiff, argEnv, reduceAdd]
      refine awp_seq_k fun K13 hK13 => ?_
      refine awp_reg hP hN rfl ?_
      (refine rg_step rfl fun K0 hK0 => ?_; simp only [zE, op1, ev, lkp, avOf, acOf, ev, reduceCtorEq, reduceEqDiff, reduceAdd, reduceLeDiff, reduceLT, reduceMul, reduceSub, Try.td3]; (repeat refine And.intro (by first | omega | assumption | exact rfl) ?_); (first | refine hK0 _ ?_ | refine Or.inl (hK0 _ ?_)); clear hK0 K0; simp only [put, app, setAll, trOf, zE, zS, reduceAdd])
      refine rg_nil ?_
      refine hK13 _ ?_; clear hK13; refine awp_keep [0, 1, 4, 7, 8, 9] ?_; simp only [keepEnv, lkp, zE, reduceCtorEq, reduceEqDiff, argEnv, reduceAdd]
      refine awp_ret ?_
      refine ⟨by first | exact .inl rfl | exact .inr rfl, _, rfl, ?_⟩; simp only [fzV, fz1, fzC, List.map_cons, List.map_nil, keepEnv, lkp, zE, reduceCtorEq, reduceEqDiff, argEnv, reduceAdd]
      refine VLE.of_eq ?_
      refine congrArg (fun n => AV.one (AC.int IntKind.i64 n)) ?_
      first
      | (rw [if_pos (mem_of_getD (k := k) (by omega) (by omega)), pos_first (k := k) (by omega) (by omega) hq]; done)
      | (rw [if_neg (not_mem_of hq (by omega))]; done)
end Go.Proofs.Ytceafldjjedhcaa
namespace Go.Proofs.Ytceafldjjedhcaa
open Go Go.AV
open Nat (reduceEqDiff reduceAdd reduceLeDiff reduceLT reduceMul reduceSub)
open List (set_cons_zero set_cons_succ)
set_option maxRecDepth 100000 in
theorem contains_c (xs : List Int) (x : Int) : PURE Try.prog 50 [.one (.list (.int .i64) xs), .one (.int .i64 x)] (.one (.bool (decide (x ∈ xs)))) := by
  refine pure_of_le Try.func50 rfl (by kernel_rfl) (Nat.le_of_ble_eq_true rfl) rfl fun C hP hN hB => ?_
  replace hN : C.N = 9 := hN
  simp only [argEnv, reduceAdd]
  refine awp_seq_k fun K1 hK1 => ?_
  refine awp_reg hP hN rfl ?_
  (refine rg_step rfl fun K0 hK0 => ?_; simp only [zE, op1, ev, lkp, avOf, acOf, ev, reduceCtorEq, reduceEqDiff, reduceAdd, reduceLeDiff, reduceLT, reduceMul, reduceSub, Try.td4]; (repeat refine And.intro (by first | omega | assumption | exact rfl) ?_); (first | refine hK0 _ ?_ | refine Or.inl (hK0 _ ?_)); clear hK0 K0; simp only [put, app, setAll, trOf, zE, zS, reduceAdd])
  refine rg_nil ?_
  refine hK1 _ ?_; clear hK1; refine awp_keep [0, 1, 4] ?_; simp only [keepEnv, lkp, zE, reduceCtorEq, reduceEqDiff, argEnv, reduceAdd]
  refine awp_seq_k fun K2 hK2 => ?_
  refine awp_reg hP hN rfl ?_
  iterate 2 (refine rg_step rfl fun K0 hK0 => ?_; simp only [zE, op1, ev, lkp, avOf, acOf, ev, reduceCtorEq, reduceEqDiff, reduceAdd, reduceLeDiff, reduceLT, reduceMul, reduceSub, Try.el25, Try.td25, Try.td3]; (repeat refine And.intro (by first | omega | assumption | exact rfl) ?_); (first | refine hK0 _ ?_ | refine Or.inl (hK0 _ ?_)); clear hK0 K0; simp only [put, app, setAll, trOf, zE, zS, reduceAdd])
  refine rg_step rfl fun K0 hK0 => ?_
  refine op_call (h := call_of_pure (index_c xs x)) rfl rfl (by first | exact rfl | (simp only [ev, keepEnv, lkp, zE, reduceCtorEq, reduceEqDiff, argEnv, reduceAdd]; exact rfl)) (by simp only [zE, zG, op1, ev, lkp, avOf, acOf, cellsAV, acs, capAV, mv1, mvC, Ty.dflt, reduceCtorEq, reduceEqDiff, reduceAdd, reduceLeDiff, reduceLT, reduceMul, reduceSub]) ?_
  refine hK0 _ ?_; clear hK0 K0; simp only [put, app, setAll, trOf, zE, zS, reduceAdd]
  iterate 2 (refine rg_step rfl fun K0 hK0 => ?_; simp only [zE, op1, ev, lkp, avOf, acOf, opBin, arith, inK_i64, eqACs, eqAC, reduceCtorEq, reduceEqDiff, reduceAdd, reduceLeDiff, reduceLT, reduceMul, reduceSub, Try.td3, Try.td4]; (repeat refine And.intro (by first | omega | assumption | exact rfl) ?_); (first | refine hK0 _ ?_ | refine Or.inl (hK0 _ ?_)); clear hK0 K0; simp only [put, app, setAll, trOf, zE, zS, reduceAdd])
  refine rg_nil ?_
  refine hK2 _ ?_; clear hK2; refine awp_keep [0, 1, 4] ?_; simp only [keepEnv, lkp, zE, reduceCtorEq, reduceEqDiff, argEnv, reduceAdd]
  refine awp_ret ?_
  refine ⟨by first | exact .inl rfl | exact .inr rfl, _, rfl, ?_⟩; simp only [fzV, fz1, fzC, List.map_cons, List.map_nil, keepEnv, lkp, zE, reduceCtorEq, reduceEqDiff, argEnv, reduceAdd]
  refine VLE.of_eq ?_
  refine congrArg (fun b => AV.one (AC.bool b)) ?_
  by_cases h : x ∈ xs
  · rw [if_pos h]; simp [h]; try omega
  · rw [if_neg h]; simp [h]
end Go.Proofs.Ytceafldjjedhcaa
namespace Go.Proofs.Ytceafldjjedhcaa
open Go Go.AV
open Nat (reduceEqDiff reduceAdd reduceLeDiff reduceLT reduceMul reduceSub)
open List (set_cons_zero set_cons_succ)
set_option maxRecDepth 100000 in
theorem grow_c (n : Int) (h0 : 0 ≤ n) (h1 : n ≤ 1000000) : OWNS Try.prog 63 [.one .nils, .one (.int .i64 n)] (.int .i64) 3 (([] : List Int)) := by
  refine owns_of_awp Try.func63 rfl (by kernel_rfl) (Nat.le_of_ble_eq_true rfl) rfl fun C hP hN hB => ?_
  replace hN : C.N = 27 := hN
  simp only [argEnv, reduceAdd]
  refine awp_seq_k fun K1 hK1 => ?_
  refine awp_reg hP hN rfl ?_
  (refine rg_step rfl fun K0 hK0 => ?_; simp only [zE, op1, ev, lkp, avOf, acOf, ev, reduceCtorEq, reduceEqDiff, reduceAdd, reduceLeDiff, reduceLT, reduceMul, reduceSub, Try.el25, Try.td25]; (repeat refine And.intro (by first | omega | assumption | exact rfl) ?_); (first | refine hK0 _ ?_ | refine Or.inl (hK0 _ ?_)); clear hK0 K0; simp only [put, app, setAll, trOf, zE, zS, reduceAdd])
  refine rg_nil ?_
  refine hK1 _ ?_; clear hK1; refine awp_keep [0, 1, 4] ?_; simp only [keepEnv, lkp, zE, reduceCtorEq, reduceEqDiff, argEnv, reduceAdd]
  refine awp_seq_k fun K2 hK2 => ?_
  refine awp_seq_k fun K3 hK3 => ?_
  refine awp_reg hP hN rfl ?_
  iterate 2 (refine rg_step rfl fun K0 hK0 => ?_; simp only [zE, op1, ev, lkp, avOf, acOf, opBin, arith, inK_i64, eqACs, eqAC, reduceCtorEq, reduceEqDiff, reduceAdd, reduceLeDiff, reduceLT, reduceMul, reduceSub, Try.td3, Try.td4]; (repeat refine And.intro (by first | omega | assumption | exact rfl) ?_); (first | refine hK0 _ ?_ | refine Or.inl (hK0 _ ?_)); clear hK0 K0; simp only [put, app, setAll, trOf, zE, zS, reduceAdd])
  refine rg_nil ?_
  refine hK3 _ ?_; clear hK3; refine awp_keep [0, 1, 4, 6] ?_; simp only [keepEnv, lkp, zE, reduceCtorEq, reduceEqDiff, argEnv, reduceAdd]
  refine awp_cond (by simp only [ev, keepEnv, lkp, zE, reduceCtorEq, reduceEqDiff, argEnv, reduceAdd]; exact rfl) (fun hc4 => ?_) (fun hc4 => ?_)
  · exfalso; (try simp only [zB, reduceCtorEq] at hc4); all_goals (first | (cases hc4; done) | omega | (simp at hc4; done) | (simp_all; done))
  · (try simp only [zB, reduceCtorEq] at hc4)
    refine awp_skip ?_
    refine hK2 _ ?_; clear hK2; refine awp_keep [0, 1, 4, 6] ?_; simp only [keepEnv, lkp, zE, reduceCtorEq, reduceEqDiff, argEnv, reduceAdd]
    refine awp_seq_k fun K5 hK5 => ?_
    refine awp_seq_k fun K6 hK6 => ?_
    refine awp_reg hP hN rfl ?_
    iterate 8 (refine rg_step rfl fun K0 hK0 => ?_; simp only [zE, op1, ev, lkp, avOf, acOf, opCallAny, opMM, opLen, lenAC, lenOk, fpAC, Nat.div_one, opAppend, srcOf, Ty.size, datOf, dite_true, opBin, arith, inK_i64, eqACs, eqAC, reduceCtorEq, reduceEqDiff, reduceAdd, reduceLeDiff, reduceLT, reduceMul, reduceSub, Try.el25, Try.td25, Try.td3]; (repeat refine And.intro (by first | omega | assumption | exact rfl) ?_); (first | refine hK0 _ ?_ | refine Or.inl (hK0 _ ?_)); clear hK0 K0; simp only [put, app, setAll, trOf, zE, zS, reduceAdd])
    refine rg_nil ?_
    refine hK6 _ ?_; clear hK6; refine awp_keep [0, 1, 4, 6] ?_; simp only [keepEnv, lkp, zE, reduceCtorEq, reduceEqDiff, argEnv, reduceAdd]
    refine awp_seq_k fun K7 hK7 => ?_
    refine awp_reg hP hN rfl ?_
    iterate 2 (refine rg_step rfl fun K0 hK0 => ?_; simp only [zE, op1, ev, lkp, avOf, acOf, opBin, arith, inK_i64, eqACs, eqAC, reduceCtorEq, reduceEqDiff, reduceAdd, reduceLeDiff, reduceLT, reduceMul, reduceSub, Try.td3, Try.td4]; (repeat refine And.intro (by first | omega | assumption | exact rfl) ?_); (first | refine hK0 _ ?_ | refine Or.inl (hK0 _ ?_)); clear hK0 K0; simp only [put, app, setAll, trOf, zE, zS, reduceAdd])
    refine rg_nil ?_
    refine hK7 _ ?_; clear hK7; refine awp_keep [0, 1, 4, 6, 16] ?_; simp only [keepEnv, lkp, zE, reduceCtorEq, reduceEqDiff, argEnv, reduceAdd]
    refine awp_cond (by simp only [ev, keepEnv, lkp, zE, reduceCtorEq, reduceEqDiff, argEnv, reduceAdd]; exact rfl) (fun hc8 => ?_) (fun hc8 => ?_)
    · (try simp only [zB, reduceCtorEq] at hc8)
      refine awp_reg hP hN rfl ?_
      iterate 10 (refine rg_step rfl fun K0 hK0 => ?_; simp only [zE, op1, ev, lkp, avOf, acOf, opCallAny, opMM, opLen, lenAC, lenOk, fpAC, Nat.div_one, opAppend, srcOf, Ty.size, datOf, dite_true, opSlice, bnd, reduceCtorEq, reduceEqDiff, reduceAdd, reduceLeDiff, reduceLT, reduceMul, reduceSub, Try.el25, Try.td25, Try.td3]; (repeat refine And.intro (by first | omega | assumption | exact rfl) ?_); (first | refine hK0 _ ?_ | refine Or.inl (hK0 _ ?_)); clear hK0 K0; simp only [put, app, setAll, trOf, zE, zS, reduceAdd])
      refine rg_nil ?_
      refine hK5 _ ?_; clear hK5; refine awp_keep [0, 1, 4, 6, 16] ?_; simp only [keepEnv, lkp, zE, reduceCtorEq, reduceEqDiff, argEnv, reduceAdd]
      refine awp_seq_k fun K9 hK9 => ?_
      first | (refine awp_own 0 (.int .i64) 3 (by decide) rfl ?_; simp only [List.length_cons, List.length_nil, List.cons_append, List.nil_append, Nat.zero_add, reduceAdd]) | skip
      refine awp_reg hP hN rfl ?_
      iterate 2 (refine rg_step rfl fun K0 hK0 => ?_; simp only [zE, op1, ev, lkp, avOf, acOf, ev, reduceCtorEq, reduceEqDiff, reduceAdd, reduceLeDiff, reduceLT, reduceMul, reduceSub, Try.el25, Try.td25]; (repeat refine And.intro (by first | omega | assumption | exact rfl) ?_); (first | refine hK0 _ ?_ | refine Or.inl (hK0 _ ?_)); clear hK0 K0; simp only [put, app, setAll, trOf, zE, zS, reduceAdd])
      refine rg_nil ?_
      refine hK9 _ ?_; clear hK9; refine awp_keep [0, 1, 4, 6, 16] ?_; simp only [keepEnv, lkp, zE, reduceCtorEq, reduceEqDiff, argEnv, reduceAdd]
      refine awp_ret ?_
      refine ⟨by first | exact .inl rfl | exact .inr rfl, _, rfl, _, _, rfl, ?_⟩
      first | rfl | simp
    · (try simp only [zB, reduceCtorEq] at hc8)
      refine awp_skip ?_
      refine hK5 _ ?_; clear hK5; refine awp_keep [0, 1, 4, 6, 16] ?_; simp only [keepEnv, lkp, zE, reduceCtorEq, reduceEqDiff, argEnv, reduceAdd]
      refine awp_seq_k fun K10 hK10 => ?_
      first | (refine awp_own 0 (.int .i64) 3 (by decide) rfl ?_; simp only [List.length_cons, List.length_nil, List.cons_append, List.nil_append, Nat.zero_add, reduceAdd]) | skip
      refine awp_reg hP hN rfl ?_
      iterate 2 (refine rg_step rfl fun K0 hK0 => ?_; simp only [zE, op1, ev, lkp, avOf, acOf, ev, reduceCtorEq, reduceEqDiff, reduceAdd, reduceLeDiff, reduceLT, reduceMul, reduceSub, Try.el25, Try.td25]; (repeat refine And.intro (by first | omega | assumption | exact rfl) ?_); (first | refine hK0 _ ?_ | refine Or.inl (hK0 _ ?_)); clear hK0 K0; simp only [put, app, setAll, trOf, zE, zS, reduceAdd])
      refine rg_nil ?_
      refine hK10 _ ?_; clear hK10; refine awp_keep [0, 1, 4, 6, 16] ?_; simp only [keepEnv, lkp, zE, reduceCtorEq, reduceEqDiff, argEnv, reduceAdd]
      refine awp_ret ?_
      refine ⟨by first | exact .inl rfl | exact .inr rfl, _, rfl, _, _, rfl, ?_⟩
      first | rfl | simp
end Go.Proofs.Ytceafldjjedhcaa
namespace Go.Proofs.Ytceafldjjedhcaa
open Go Go.AV
open Nat (reduceEqDiff reduceAdd reduceLeDiff reduceLT reduceMul reduceSub)
open List (set_cons_zero set_cons_succ)
set_option maxRecDepth 100000 in
theorem concat_c (ls : List (List Int)) (hb : ls.flatten.length ≤ 1000000) : PURE Try.prog 51 [.one (.list (.list (.int .i64)) ls)] (.one (.list (.int .i64) ls.flatten)) := by
  refine pure_of_le Try.func51 rfl (by kernel_rfl) (Nat.le_of_ble_eq_true rfl) rfl fun C hP hN hB => ?_
  replace hN : C.N = 36 := hN
  simp only [argEnv, reduceAdd]
  refine awp_fit 0 rfl fun hf0 => ?_; simp only [lkp, if_true, if_false, reduceCtorEq, reduceEqDiff, eq_self, Nat.one_ne_zero, Nat.zero_ne_one, fitV, fitC, fitL, Fit, and_true, implies_true, true_and] at hf0
  refine awp_seq_k fun K1 hK1 => ?_
  refine awp_reg hP hN rfl ?_
  (refine rg_step rfl fun K0 hK0 => ?_; simp only [zE, op1, ev, lkp, avOf, acOf, ev, reduceCtorEq, reduceEqDiff, reduceAdd, reduceLeDiff, reduceLT, reduceMul, reduceSub, Try.el25, Try.td25]; (repeat refine And.intro (by first | omega | assumption | exact rfl) ?_); (first | refine hK0 _ ?_ | refine Or.inl (hK0 _ ?_)); clear hK0 K0; simp only [put, app, setAll, trOf, zE, zS, reduceAdd])
  refine rg_nil ?_
  refine hK1 _ ?_; clear hK1; refine awp_keep [0, 2] ?_; simp only [keepEnv, lkp, zE, reduceCtorEq, reduceEqDiff, argEnv, reduceAdd]
  refine awp_seq_k fun K2 hK2 => ?_
  refine awp_reg hP hN rfl ?_
  (refine rg_step rfl fun K0 hK0 => ?_; simp only [zE, op1, ev, lkp, avOf, acOf, ev, reduceCtorEq, reduceEqDiff, reduceAdd, reduceLeDiff, reduceLT, reduceMul, reduceSub, Try.td3]; (repeat refine And.intro (by first | omega | assumption | exact rfl) ?_); (first | refine hK0 _ ?_ | refine Or.inl (hK0 _ ?_)); clear hK0 K0; simp only [put, app, setAll, trOf, zE, zS, reduceAdd])
  refine rg_nil ?_
  refine hK2 _ ?_; clear hK2; refine awp_keep [0, 2, 3] ?_; simp only [keepEnv, lkp, zE, reduceCtorEq, reduceEqDiff, argEnv, reduceAdd]
  refine awp_seq_k fun K3 hK3 => ?_
  refine awp_seq_k fun K4 hK4 => ?_
  refine awp_reg hP hN rfl ?_
  iterate 3 (refine rg_step rfl fun K0 hK0 => ?_; simp only [zE, op1, ev, lkp, avOf, acOf, opCallAny, opMM, opLen, lenAC, lenOk, fpAC, Nat.div_one, opAppend, srcOf, Ty.size, datOf, dite_true, reduceCtorEq, reduceEqDiff, reduceAdd, reduceLeDiff, reduceLT, reduceMul, reduceSub, Try.el22, Try.td22, Try.td3]; (repeat refine And.intro (by first | omega | assumption | exact rfl) ?_); (first | refine hK0 _ ?_ | refine Or.inl (hK0 _ ?_)); clear hK0 K0; simp only [put, app, setAll, trOf, zE, zS, reduceAdd])
  refine rg_nil ?_
  refine hK4 _ ?_; clear hK4; refine awp_keep [0, 2, 3, 9, 10, 11] ?_; simp only [keepEnv, lkp, zE, reduceCtorEq, reduceEqDiff, argEnv, reduceAdd]
  refine awp_block ?_
  refine awp_loop (fun n5 s5 => ∃ (k : Nat), (k ≤ ls.length) ∧ n5 = ls.length - k ∧ s5 = { env := [(0, .one (.list (.list (.int .i64)) ls)), (3, .one (.int .i64 (((ls.take k).flatten.length : Nat) : Int))), (9, .one (.list (.list (.int .i64)) ls)), (10, .one (.int .i64 (ls.length : Int))), (11, .one (.int .i64 (k : Int)))], L := [] }) ?_ ?_
  · exact ⟨_, _, sub_keep [0, 3, 9, 10, 11], 0, Nat.zero_le _, rfl, rfl⟩
  · rintro n5 s5 ⟨k, hk, rfl, rfl⟩
    refine awp_seq_k fun K6 hK6 => ?_
    refine awp_reg hP hN rfl ?_
    (refine rg_step rfl fun K0 hK0 => ?_; simp only [zE, op1, ev, lkp, avOf, acOf, opBin, arith, inK_i64, eqACs, eqAC, reduceCtorEq, reduceEqDiff, reduceAdd, reduceLeDiff, reduceLT, reduceMul, reduceSub, Try.td3]; (repeat refine And.intro (by first | omega | assumption | exact rfl) ?_); (first | refine hK0 _ ?_ | refine Or.inl (hK0 _ ?_)); clear hK0 K0; simp only [put, app, setAll, trOf, zE, zS, reduceAdd])
    refine rg_nil ?_
    refine hK6 _ ?_; clear hK6; refine awp_keep [0, 3, 9, 10, 11, 12] ?_; simp only [keepEnv, lkp, zE, reduceCtorEq, reduceEqDiff, argEnv, reduceAdd]
    refine awp_seq_k fun K7 hK7 => ?_
    refine awp_cond (by simp only [ev, keepEnv, lkp, zE, reduceCtorEq, reduceEqDiff, argEnv, reduceAdd]; exact rfl) (fun hc8 => ?_) (fun hc8 => ?_)
    · (try simp only [zB, reduceCtorEq] at hc8)
      refine awp_skip ?_
      refine hK7 _ ?_; clear hK7; refine awp_keep [0, 3, 9, 10, 11, 12] ?_; simp only [keepEnv, lkp, zE, reduceCtorEq, reduceEqDiff, argEnv, reduceAdd]
      refine awp_seq_k fun K9 hK9 => ?_
      refine awp_block ?_
      refine awp_seq_k fun K10 hK10 => ?_
      refine awp_reg hP hN rfl ?_
      iterate 3 (refine rg_step rfl fun K0 hK0 => ?_; simp only [zE, op1, ev, lkp, avOf, acOf, opIndexAddr, zG, Ty.dflt, Ty.size, Nat.mul_one, ne_eq, not_false_eq_true, Int.natCast_one, Int.mul_one, opLoad, readAC, isAggK, acs, cellsAt, reduceCtorEq, reduceEqDiff, reduceAdd, reduceLeDiff, reduceLT, reduceMul, reduceSub, Try.el22, Try.el25, Try.td22, Try.td25]; (repeat refine And.intro (by first | omega | assumption | exact rfl) ?_); (first | refine hK0 _ ?_ | refine Or.inl (hK0 _ ?_)); clear hK0 K0; simp only [put, app, setAll, trOf, zE, zS, reduceAdd])
      refine rg_nil ?_
      refine hK10 _ ?_; clear hK10; refine awp_keep [0, 3, 5, 9, 10, 11, 12] ?_; simp only [keepEnv, lkp, zE, reduceCtorEq, reduceEqDiff, argEnv, reduceAdd]
      refine awp_seq_k fun K11 hK11 => ?_
      have hfl := flat_take_le ls (k + 1); have hfe : (ls.take (k + 1)).flatten.length = (ls.take k).flatten.length + (ls.getD k []).length := by rw [flat_take_succ ls (by omega), List.length_append]
      refine awp_reg hP hN rfl ?_
      iterate 5 (refine rg_step rfl fun K0 hK0 => ?_; simp only [zE, op1, ev, lkp, avOf, acOf, opCallAny, opMM, opLen, lenAC, lenOk, fpAC, Nat.div_one, opAppend, srcOf, Ty.size, datOf, dite_true, opBin, arith, inK_i64, eqACs, eqAC, reduceCtorEq, reduceEqDiff, reduceAdd, reduceLeDiff, reduceLT, reduceMul, reduceSub, Try.el25, Try.td25, Try.td3]; (repeat refine And.intro (by first | omega | assumption | exact rfl) ?_); (first | refine hK0 _ ?_ | refine Or.inl (hK0 _ ?_)); clear hK0 K0; simp only [put, app, setAll, trOf, zE, zS, reduceAdd])
      refine rg_nil ?_
      refine hK11 _ ?_; clear hK11; refine awp_keep [0, 3, 5, 9, 10, 11, 12] ?_; simp only [keepEnv, lkp, zE, reduceCtorEq, reduceEqDiff, argEnv, reduceAdd]
      refine awp_seq_k fun K12 hK12 => ?_
      refine awp_reg hP hN rfl ?_
      iterate 2 (refine rg_step rfl fun K0 hK0 => ?_; simp only [zE, op1, ev, lkp, avOf, acOf, opBin, arith, inK_i64, eqACs, eqAC, reduceCtorEq, reduceEqDiff, reduceAdd, reduceLeDiff, reduceLT, reduceMul, reduceSub, Try.td3, Try.td4]; (repeat refine And.intro (by first | omega | assumption | exact rfl) ?_); (first | refine hK0 _ ?_ | refine Or.inl (hK0 _ ?_)); clear hK0 K0; simp only [put, app, setAll, trOf, zE, zS, reduceAdd])
      refine rg_nil ?_
      refine hK12 _ ?_; clear hK12; refine awp_keep [0, 3, 5, 9, 10, 11, 12, 20] ?_; simp only [keepEnv, lkp, zE, reduceCtorEq, reduceEqDiff, argEnv, reduceAdd]
      refine awp_cond (by simp only [ev, keepEnv, lkp, zE, reduceCtorEq, reduceEqDiff, argEnv, reduceAdd]; exact rfl) (fun hc13 => ?_) (fun hc13 => ?_)
      · exfalso; (try simp only [zB, reduceCtorEq] at hc13); all_goals (first | (cases hc13; done) | omega | (simp at hc13; done) | (simp_all; done))
      · (try simp only [zB, reduceCtorEq] at hc13)
        refine awp_skip ?_
        refine hK9 _ ?_; clear hK9; refine awp_keep [0, 3, 5, 9, 10, 11, 12, 20] ?_; simp only [keepEnv, lkp, zE, reduceCtorEq, reduceEqDiff, argEnv, reduceAdd]
        refine awp_reg hP hN rfl ?_
        iterate 2 (refine rg_step rfl fun K0 hK0 => ?_; simp only [zE, op1, ev, lkp, avOf, acOf, opBin, arith, inK_i64, eqACs, eqAC, reduceCtorEq, reduceEqDiff, reduceAdd, reduceLeDiff, reduceLT, reduceMul, reduceSub, Try.td3]; (repeat refine And.intro (by first | omega | assumption | exact rfl) ?_); (first | refine hK0 _ ?_ | refine Or.inl (hK0 _ ?_)); clear hK0 K0; simp only [put, app, setAll, trOf, zE, zS, reduceAdd])
        refine rg_nil ?_
        refine ⟨_, _, ?_, sub_keep [0, 3, 9, 10, 11], k + 1, by omega, rfl, ?_⟩
        · omega
        · rw [hfe]; simp only [Int.natCast_add]; rfl
    · (try simp only [zB, reduceCtorEq] at hc8)
      refine awp_exit ?_
      refine hK3 _ ?_; clear hK3; refine awp_keep [0, 3, 9, 10, 11, 12] ?_; simp only [keepEnv, lkp, zE, reduceCtorEq, reduceEqDiff, argEnv, reduceAdd]
      refine awp_seq_k fun K14 hK14 => ?_
      have hfl := flat_take_le ls k
      refine awp_reg hP hN rfl ?_
      (refine rg_step rfl fun K0 hK0 => ?_; simp only [zE, op1, ev, lkp, avOf, acOf, ev, reduceCtorEq, reduceEqDiff, reduceAdd, reduceLeDiff, reduceLT, reduceMul, reduceSub, Try.td3]; (repeat refine And.intro (by first | omega | assumption | exact rfl) ?_); (first | refine hK0 _ ?_ | refine Or.inl (hK0 _ ?_)); clear hK0 K0; simp only [put, app, setAll, trOf, zE, zS, reduceAdd])
      refine rg_step rfl fun K0 hK0 => ?_
      refine op_call (h := call_owns (grow_c (((ls.take k).flatten.length : Nat) : Int) (by omega) (by omega))) rfl rfl (by first | exact rfl | (simp only [ev, keepEnv, lkp, zE, reduceCtorEq, reduceEqDiff, argEnv, reduceAdd]; exact rfl)) (by simp only [zE, zG, op1, ev, lkp, avOf, acOf, cellsAV, acs, capAV, mv1, mvC, Ty.dflt, reduceCtorEq, reduceEqDiff, reduceAdd, reduceLeDiff, reduceLT, reduceMul, reduceSub]) ?_
      refine hK0 _ ?_; clear hK0 K0; simp only [put, app, setAll, trOf, zE, zS, reduceAdd]
      (refine rg_step rfl fun K0 hK0 => ?_; simp only [zE, op1, ev, lkp, avOf, acOf, ev, reduceCtorEq, reduceEqDiff, reduceAdd, reduceLeDiff, reduceLT, reduceMul, reduceSub, Try.el25, Try.td25]; (repeat refine And.intro (by first | omega | assumption | exact rfl) ?_); (first | refine hK0 _ ?_ | refine Or.inl (hK0 _ ?_)); clear hK0 K0; simp only [put, app, setAll, trOf, zE, zS, reduceAdd])
      refine rg_nil ?_
      refine hK14 _ ?_; clear hK14; refine awp_keep [0, 3, 6, 9, 10, 11, 12] ?_; simp only [keepEnv, lkp, zE, reduceCtorEq, reduceEqDiff, argEnv, reduceAdd]
      refine awp_seq_k fun K15 hK15 => ?_
      refine awp_seq_k fun K16 hK16 => ?_
      refine awp_reg hP hN rfl ?_
      iterate 3 (refine rg_step rfl fun K0 hK0 => ?_; simp only [zE, op1, ev, lkp, avOf, acOf, opCallAny, opMM, opLen, lenAC, lenOk, fpAC, Nat.div_one, opAppend, srcOf, Ty.size, datOf, dite_true, reduceCtorEq, reduceEqDiff, reduceAdd, reduceLeDiff, reduceLT, reduceMul, reduceSub, Try.el22, Try.td22, Try.td3]; (repeat refine And.intro (by first | omega | assumption | exact rfl) ?_); (first | refine hK0 _ ?_ | refine Or.inl (hK0 _ ?_)); clear hK0 K0; simp only [put, app, setAll, trOf, zE, zS, reduceAdd])
      refine rg_nil ?_
      refine hK16 _ ?_; clear hK16; refine awp_keep [0, 3, 6, 9, 10, 11, 12, 25, 26, 27] ?_; simp only [keepEnv, lkp, zE, reduceCtorEq, reduceEqDiff, argEnv, reduceAdd]
      refine awp_block ?_
      refine awp_loop (fun n17 s17 => ∃ (k : Nat) (v : Nat), (k ≤ ls.length) ∧ n17 = ls.length - k ∧ s17 = { env := [(6, .one (.row 0 v)), (25, .one (.list (.list (.int .i64)) ls)), (26, .one (.int .i64 (ls.length : Int))), (27, .one (.int .i64 (k : Int)))], L := [.row (.int .i64) 3 v (ls.take k).flatten] }) ?_ ?_
      · exact ⟨_, _, sub_keep [6, 25, 26, 27], 0, 0, Nat.zero_le _, rfl, rfl⟩
      · rintro n17 s17 ⟨k, v, hk, rfl, rfl⟩
        refine awp_seq_k fun K18 hK18 => ?_
        refine awp_reg hP hN rfl ?_
        (refine rg_step rfl fun K0 hK0 => ?_; simp only [zE, op1, ev, lkp, avOf, acOf, opBin, arith, inK_i64, eqACs, eqAC, reduceCtorEq, reduceEqDiff, reduceAdd, reduceLeDiff, reduceLT, reduceMul, reduceSub, Try.td3]; (repeat refine And.intro (by first | omega | assumption | exact rfl) ?_); (first | refine hK0 _ ?_ | refine Or.inl (hK0 _ ?_)); clear hK0 K0; simp only [put, app, setAll, trOf, zE, zS, reduceAdd])
        refine rg_nil ?_
        refine hK18 _ ?_; clear hK18; refine awp_keep [6, 25, 26, 27, 28] ?_; simp only [keepEnv, lkp, zE, reduceCtorEq, reduceEqDiff, argEnv, reduceAdd]
        refine awp_seq_k fun K19 hK19 => ?_
        refine awp_cond (by simp only [ev, keepEnv, lkp, zE, reduceCtorEq, reduceEqDiff, argEnv, reduceAdd]; exact rfl) (fun hc20 => ?_) (fun hc20 => ?_)
        · (try simp only [zB, reduceCtorEq] at hc20)
          refine awp_skip ?_
          refine hK19 _ ?_; clear hK19; refine awp_keep [6, 25, 26, 27, 28] ?_; simp only [keepEnv, lkp, zE, reduceCtorEq, reduceEqDiff, argEnv, reduceAdd]
          refine awp_seq_k fun K21 hK21 => ?_
          refine awp_block ?_
          refine awp_seq_k fun K22 hK22 => ?_
          refine awp_reg hP hN rfl ?_
          iterate 3 (refine rg_step rfl fun K0 hK0 => ?_; simp only [zE, op1, ev, lkp, avOf, acOf, opIndexAddr, zG, Ty.dflt, Ty.size, Nat.mul_one, ne_eq, not_false_eq_true, Int.natCast_one, Int.mul_one, opLoad, readAC, isAggK, acs, cellsAt, reduceCtorEq, reduceEqDiff, reduceAdd, reduceLeDiff, reduceLT, reduceMul, reduceSub, Try.el22, Try.el25, Try.td22, Try.td25]; (repeat refine And.intro (by first | omega | assumption | exact rfl) ?_); (first | refine hK0 _ ?_ | refine Or.inl (hK0 _ ?_)); clear hK0 K0; simp only [put, app, setAll, trOf, zE, zS, reduceAdd])
          refine rg_nil ?_
          refine hK22 _ ?_; clear hK22; refine awp_keep [6, 8, 25, 26, 27, 28] ?_; simp only [keepEnv, lkp, zE, reduceCtorEq, reduceEqDiff, argEnv, reduceAdd]
          have hfl := flat_take_le ls (k + 1); have hfe : (ls.take (k + 1)).flatten.length = (ls.take k).flatten.length + (ls.getD k []).length := by rw [flat_take_succ ls (by omega), List.length_append]
          refine awp_reg hP hN rfl ?_
          iterate 4 (refine rg_step rfl fun K0 hK0 => ?_; simp only [zE, op1, ev, lkp, avOf, acOf, opCallAny, opMM, opLen, lenAC, lenOk, fpAC, Nat.div_one, opAppend, srcOf, Ty.size, datOf, dite_true, reduceCtorEq, reduceEqDiff, reduceAdd, reduceLeDiff, reduceLT, reduceMul, reduceSub, Try.el25, Try.td25]; (repeat refine And.intro (by first | omega | assumption | exact rfl) ?_); (first | refine hK0 _ ?_ | refine Or.inl (hK0 _ ?_)); clear hK0 K0; simp only [put, app, setAll, trOf, zE, zS, reduceAdd])
          refine rg_nil ?_
          refine hK21 _ ?_; clear hK21; refine awp_keep [6, 8, 25, 26, 27, 28] ?_; simp only [keepEnv, lkp, zE, reduceCtorEq, reduceEqDiff, argEnv, reduceAdd]
          refine awp_reg hP hN rfl ?_
          iterate 2 (refine rg_step rfl fun K0 hK0 => ?_; simp only [zE, op1, ev, lkp, avOf, acOf, opBin, arith, inK_i64, eqACs, eqAC, reduceCtorEq, reduceEqDiff, reduceAdd, reduceLeDiff, reduceLT, reduceMul, reduceSub, Try.td3]; (repeat refine And.intro (by first | omega | assumption | exact rfl) ?_); (first | refine hK0 _ ?_ | refine Or.inl (hK0 _ ?_)); clear hK0 K0; simp only [put, app, setAll, trOf, zE, zS, reduceAdd])
          refine rg_nil ?_
          refine ⟨_, _, ?_, sub_keep [6, 25, 26, 27], k + 1, v + 1, by omega, rfl, ?_⟩
          · omega
          · rw [flat_take_succ ls (by omega)]; rfl
        · (try simp only [zB, reduceCtorEq] at hc20)
          refine awp_exit ?_
          refine hK15 _ ?_; clear hK15; refine awp_keep [6, 25, 26, 27, 28] ?_; simp only [keepEnv, lkp, zE, reduceCtorEq, reduceEqDiff, argEnv, reduceAdd]
          refine awp_seq_k fun K23 hK23 => ?_
          refine awp_reg hP hN rfl ?_
          iterate 2 (refine rg_step rfl fun K0 hK0 => ?_; simp only [zE, op1, ev, lkp, avOf, acOf, ev, reduceCtorEq, reduceEqDiff, reduceAdd, reduceLeDiff, reduceLT, reduceMul, reduceSub, Try.el25, Try.td25]; (repeat refine And.intro (by first | omega | assumption | exact rfl) ?_); (first | refine hK0 _ ?_ | refine Or.inl (hK0 _ ?_)); clear hK0 K0; simp only [put, app, setAll, trOf, zE, zS, reduceAdd])
          refine rg_nil ?_
          refine hK23 _ ?_; clear hK23; refine awp_keep [2, 6, 25, 26, 27, 28] ?_; simp only [keepEnv, lkp, zE, reduceCtorEq, reduceEqDiff, argEnv, reduceAdd]
          refine awp_ret ?_
          refine ⟨by first | exact .inl rfl | exact .inr rfl, _, rfl, ?_⟩; simp only [fzV, fz1, fzC, List.map_cons, List.map_nil, keepEnv, lkp, zE, reduceCtorEq, reduceEqDiff, argEnv, reduceAdd]
          refine VLE.of_eq ?_
          have htk : ls.take k = ls := by rw [show k = ls.length by omega, List.take_length]
          rw [htk]
end Go.Proofs.Ytceafldjjedhcaa
