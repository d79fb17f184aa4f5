/- Words and runs of machines. -/
import Derived.Test.YtfbnhgefkdhiaaaLs
set_option linter.unusedSimpArgs false
set_option linter.unusedVariables false
namespace Go.AV

/-- The error of a word. -/
def wordBad (n a : Int) : Prop := a < 0 ∨ n ≤ a
instance (n a : Int) : Decidable (wordBad n a) := by unfold wordBad; exact inferInstance
def wordE (w : List Int) (n : Int) : Int := if n < 1 ∨ 1024 < n then 2 else if 1024 < w.length then 3 else if ∃ a, a ∈ w ∧ wordBad n a then 1 else 0
structure WOK (w : List Int) (n : Int) : Prop where
  len : w.length ≤ 1024
  sym : ∀ i : Nat, i < w.length → 0 ≤ w.getD i 0 ∧ w.getD i 0 < n
theorem getD_mem {w : List Int} {i : Nat} (h : i < w.length) : w.getD i 0 ∈ w := by
  simp [List.getD, List.getElem?_eq_getElem h]
theorem wok_of {w : List Int} {n : Int} (h : wordE w n = 0) : WOK w n := by
  unfold wordE at h
  split at h
  · omega
  split at h
  · omega
  split at h
  · omega
  rename_i hn
  refine ⟨by omega, fun i hi => ?_⟩
  have : ¬ wordBad n (w.getD i 0) := fun hb => hn ⟨_, getD_mem hi, hb⟩
  unfold wordBad at this; omega
theorem wordE_bad {w : List Int} {n : Int} (h1 : 1 ≤ n) (h2 : n ≤ 1024) (h3 : w.length ≤ 1024) {i : Nat} (hi : i < w.length) (hb : w.getD i 0 < 0 ∨ n ≤ w.getD i 0) : wordE w n = 1 := by
  unfold wordE
  rw [if_neg (by omega), if_neg (by omega), if_pos ⟨_, getD_mem hi, hb⟩]
theorem wordE_ok {w : List Int} {n : Int} (h1 : 1 ≤ n) (h2 : n ≤ 1024) (h : WOK w n) : wordE w n = 0 := by
  unfold wordE
  have := h.len
  rw [if_neg (by omega), if_neg (by omega), if_neg ?_]
  rintro ⟨a, ha, hb⟩
  obtain ⟨i, hi⟩ := List.getElem?_of_mem ha
  have hl : i < w.length := (List.getElem?_eq_some_iff.1 hi).1
  have := h.sym i hl
  simp only [List.getD, hi, Option.getD_some] at this
  unfold wordBad at hb; omega

/-- One step, and a run. -/
def Mly.nxt (m : Mly) (s a : Int) : Int := (m.nx.getD s.toNat []).getD a.toNat 0
def Mly.out (m : Mly) (s a : Int) : Int := (m.ot.getD s.toNat []).getD a.toNat 0
def Mly.go (m : Mly) (s : Int) (w : List Int) : Int × List Int := w.foldl (fun p a => (m.nxt p.1 a, p.2 ++ [m.out p.1 a])) (s, [])
theorem go_nil (m : Mly) (s : Int) : m.go s [] = (s, []) := rfl
theorem go_concat (m : Mly) (s : Int) (w : List Int) (a : Int) : m.go s (w ++ [a]) = (m.nxt (m.go s w).1 a, (m.go s w).2 ++ [m.out (m.go s w).1 a]) := by
  simp [Mly.go, List.foldl_append]
theorem take_succ_D {w : List Int} {k : Nat} (h : k < w.length) : w.take (k + 1) = w.take k ++ [w.getD k 0] := by
  rw [List.take_add_one, List.getElem?_eq_getElem h]; simp [List.getD, List.getElem?_eq_getElem h]
theorem go_succ (m : Mly) (s : Int) {w : List Int} {k : Nat} (h : k < w.length) : m.go s (w.take (k + 1)) = (m.nxt (m.go s (w.take k)).1 (w.getD k 0), (m.go s (w.take k)).2 ++ [m.out (m.go s (w.take k)).1 (w.getD k 0)]) := by
  rw [take_succ_D h, go_concat]
theorem go_len (m : Mly) (s : Int) (w : List Int) : (m.go s w).2.length = w.length := by
  have : ∀ (w : List Int) (p : Int × List Int), (w.foldl (fun p a => (m.nxt p.1 a, p.2 ++ [m.out p.1 a])) p).2.length = p.2.length + w.length := by
    intro w
    induction w with
    | nil => intro p; simp
    | cons a w ih => intro p; simp only [List.foldl_cons]; rw [ih]; simp; omega
  have := this w (s, [])
  simp only [List.length_nil, Nat.zero_add] at this
  exact this
theorem go_ok {m : Mly} (hm : MOK m) {s : Int} (h0 : 0 ≤ s) (h1 : s < m.nx.length) {w : List Int} (hw : WOK w m.inp) : ∀ k, k ≤ w.length → 0 ≤ (m.go s (w.take k)).1 ∧ (m.go s (w.take k)).1 < m.nx.length := by
  intro k
  induction k with
  | zero => intro _; simpa [go_nil] using ⟨h0, h1⟩
  | succ k ih =>
    intro hk
    have := ih (by omega)
    rw [go_succ m s (by omega)]
    have h2 := hw.sym k (by omega)
    have h3 := hm.nr (m.go s (w.take k)).1.toNat (w.getD k 0).toNat (by omega) (by omega)
    exact h3

def fromE (m : Mly) (s : Int) (w : List Int) : Int :=
  if validE m ≠ 0 then validE m else if s < 0 ∨ (m.nx.length : Int) ≤ s then 2 else wordE w m.inp
def fromV (m : Mly) (s : Int) (w : List Int) : List Int := if fromE m s w = 0 then (m.go s w).2 else []
def fromS (m : Mly) (s : Int) (w : List Int) : Int := if fromE m s w = 0 then (m.go s w).1 else 0
def stateE (m : Mly) (s : Int) : Int := if validE m ≠ 0 then validE m else if s < 0 ∨ (m.nx.length : Int) ≤ s then 2 else 0
theorem fromE_state {m : Mly} {s : Int} {w : List Int} (h : stateE m s ≠ 0) : fromE m s w = stateE m s := by
  unfold fromE stateE at *
  split
  · rfl
  · rename_i hv; rw [if_neg hv] at h
    split
    · rfl
    · rename_i hs; rw [if_neg hs] at h; exact absurd rfl h
theorem fromE_word {m : Mly} {s : Int} {w : List Int} (h : stateE m s = 0) : fromE m s w = wordE w m.inp := by
  unfold fromE stateE at *
  split
  · rename_i hv; rw [if_pos hv] at h; exact absurd h hv
  · rename_i hv; rw [if_neg hv] at h
    split
    · rename_i hs; rw [if_pos hs] at h; omega
    · rfl
structure SOK (m : Mly) (s : Int) : Prop where
  ok : MOK m
  s0 : 0 ≤ s
  s1 : s < m.nx.length
theorem sok_of {m : Mly} {s : Int} (h : stateE m s = 0) : SOK m s := by
  unfold stateE at h
  split at h
  · contradiction
  · rename_i hv
    split at h
    · omega
    · exact ⟨mok_of (Decidable.not_not.1 hv), by omega, by omega⟩

/-- The place of the first bad symbol, or -1. -/
def idxE (w : List Int) (n : Int) : Int := match w.findIdx? (fun a => decide (wordBad n a)) with | some i => i | none => -1
theorem idxE_at {w : List Int} {n : Int} {k : Nat} (hk : k < w.length) (h : ∀ i, i < k → ¬ wordBad n (w.getD i 0)) (hb : wordBad n (w.getD k 0)) : idxE w n = k := by
  unfold idxE
  have : w.findIdx? (fun a => decide (wordBad n a)) = some k := by
    rw [List.findIdx?_eq_some_iff_getElem]
    refine ⟨hk, ?_, fun j hj => ?_⟩
    · simpa [List.getD, List.getElem?_eq_getElem hk] using hb
    · have := h j hj
      simpa [List.getD, List.getElem?_eq_getElem (Nat.lt_trans hj hk)] using this
  rw [this]
theorem idxE_none {w : List Int} {n : Int} (h : ∀ i, i < w.length → ¬ wordBad n (w.getD i 0)) : idxE w n = -1 := by
  unfold idxE
  have : w.findIdx? (fun a => decide (wordBad n a)) = none := by
    rw [List.findIdx?_eq_none_iff]
    intro a ha
    obtain ⟨i, hi⟩ := List.getElem?_of_mem ha
    have := h i (List.getElem?_eq_some_iff.1 hi).1
    simpa [List.getD, hi] using this
  rw [this]
theorem idxE_spec (w : List Int) (n : Int) : (0 ≤ idxE w n ∧ ∃ a, a ∈ w ∧ wordBad n a) ∨ (idxE w n < 0 ∧ ¬ ∃ a, a ∈ w ∧ wordBad n a) := by
  by_cases h : ∃ a, a ∈ w ∧ wordBad n a
  · refine .inl ⟨?_, h⟩
    unfold idxE
    obtain ⟨a, ha, hb⟩ := h
    cases hf : w.findIdx? (fun a => decide (wordBad n a)) with
    | some i => simp
    | none =>
      rw [List.findIdx?_eq_none_iff] at hf
      have := hf a ha
      simp [hb] at this
  · refine .inr ⟨?_, h⟩
    rw [idxE_none fun i hi hb => h ⟨_, getD_mem hi, hb⟩]; decide
theorem wordE_idx {w : List Int} {n : Int} (h1 : 1 ≤ n) (h2 : n ≤ 1024) (h3 : w.length ≤ 1024) (h : 0 ≤ idxE w n) : wordE w n = 1 := by
  unfold wordE
  rcases idxE_spec w n with ⟨_, hs⟩ | ⟨h', _⟩
  · rw [if_neg (by omega), if_neg (by omega), if_pos hs]
  · omega
theorem wordE_noidx {w : List Int} {n : Int} (h1 : 1 ≤ n) (h2 : n ≤ 1024) (h3 : w.length ≤ 1024) (h : idxE w n < 0) : wordE w n = 0 := by
  unfold wordE
  rcases idxE_spec w n with ⟨h', _⟩ | ⟨_, hs⟩
  · omega
  · rw [if_neg (by omega), if_neg (by omega), if_neg hs]

theorem fromE_v {m : Mly} {s : Int} {w : List Int} (h : ¬ validE m = 0) : fromE m s w = validE m := by unfold fromE; rw [if_pos h]
theorem fromE_s {m : Mly} {s : Int} {w : List Int} (h : validE m = 0) (h2 : s < 0 ∨ (m.nx.length : Int) ≤ s) : fromE m s w = 2 := by unfold fromE; rw [if_neg (fun k => k h), if_pos h2]
theorem fromE_w {m : Mly} {s : Int} {w : List Int} (h : validE m = 0) (h2 : ¬ (s < 0 ∨ (m.nx.length : Int) ≤ s)) : fromE m s w = wordE w m.inp := by unfold fromE; rw [if_neg (fun k => k h), if_neg h2]

def stepE (m : Mly) (s a : Int) : Int := if validE m ≠ 0 then validE m else if s < 0 ∨ (m.nx.length : Int) ≤ s ∨ a < 0 ∨ m.inp ≤ a then 2 else 0
def stepS (m : Mly) (s a : Int) : Int := if stepE m s a = 0 then m.nxt s a else 0
def stepO (m : Mly) (s a : Int) : Int := if stepE m s a = 0 then m.out s a else 0
theorem stepE_v {m : Mly} {s a : Int} (h : ¬ validE m = 0) : stepE m s a = validE m := by unfold stepE; rw [if_pos h]
theorem stepE_b {m : Mly} {s a : Int} (h : validE m = 0) (h2 : s < 0 ∨ (m.nx.length : Int) ≤ s ∨ a < 0 ∨ m.inp ≤ a) : stepE m s a = 2 := by unfold stepE; rw [if_neg (fun k => k h), if_pos h2]
theorem stepE_k {m : Mly} {s a : Int} (h : validE m = 0) (h2 : ¬ (s < 0 ∨ (m.nx.length : Int) ≤ s ∨ a < 0 ∨ m.inp ≤ a)) : stepE m s a = 0 := by unfold stepE; rw [if_neg (fun k => k h), if_neg h2]
theorem stepE_state {m : Mly} {s a : Int} (h : ¬ stateE m s = 0) : stepE m s a = stateE m s := by
  unfold stateE at *
  split
  · rename_i hv; exact stepE_v hv
  · rename_i hv
    rw [if_neg hv] at h
    split
    · rename_i h2; exact stepE_b (Decidable.not_not.1 hv) (by omega)
    · rename_i h2; rw [if_neg h2] at h; exact absurd rfl h
theorem stepE_bad {m : Mly} {s a : Int} (h : stateE m s = 0) (h2 : a < 0 ∨ m.inp ≤ a) : stepE m s a = 2 := by
  have := sok_of h
  exact stepE_b (validE_of this.ok) (by omega)
theorem stepE_ok {m : Mly} {s a : Int} (h : stateE m s = 0) (h2 : ¬ (a < 0 ∨ m.inp ≤ a)) : stepE m s a = 0 := by
  have := sok_of h
  have h3 := this.s0; have h4 := this.s1
  exact stepE_k (validE_of this.ok) (by omega)

def mlySame (m n : Mly) : Bool := decide (m.inp = n.inp) && decide (m.st = n.st) && decide (m.nx = n.nx) && decide (m.ot = n.ot)

theorem flat_take_succ (ls : List (List Int)) {k : Nat} (h : k < ls.length) : (ls.take (k + 1)).flatten = (ls.take k).flatten ++ ls.getD k [] := by
  have e : ls.take (k + 1) = ls.take k ++ [ls.getD k []] := by
    rw [List.take_add_one, List.getElem?_eq_getElem h]; simp [List.getD, List.getElem?_eq_getElem h]
  rw [e, List.flatten_append, List.flatten_cons, List.flatten_nil, List.append_nil]
theorem flat_take_le (ls : List (List Int)) (k : Nat) : (ls.take k).flatten.length ≤ ls.flatten.length := by
  have h : ls.flatten = (ls.take k).flatten ++ (ls.drop k).flatten := by rw [← List.flatten_append, List.take_append_drop]
  rw [h, List.length_append]; omega
theorem go_append (m : Mly) (s : Int) (u v : List Int) : m.go s (u ++ v) = ((m.go (m.go s u).1 v).1, (m.go s u).2 ++ (m.go (m.go s u).1 v).2) := by
  have key : ∀ (v : List Int) (p : Int × List Int), v.foldl (fun p a => (m.nxt p.1 a, p.2 ++ [m.out p.1 a])) p = ((m.go p.1 v).1, p.2 ++ (m.go p.1 v).2) := by
    intro v
    induction v with
    | nil => intro p; simp [Mly.go]
    | cons a v ih =>
      intro p
      simp only [List.foldl_cons, Mly.go]
      rw [ih, ih]
      simp [Mly.go]
  have h := key v (m.go s u)
  unfold Mly.go at h ⊢
  rw [List.foldl_append]
  exact h

theorem fromE_zero {m : Mly} {s : Int} {w : List Int} (h : fromE m s w = 0) : SOK m s ∧ WOK w m.inp := by
  unfold fromE at h
  split at h
  · contradiction
  · rename_i hv
    split at h
    · omega
    · exact ⟨⟨mok_of (Decidable.not_not.1 hv), by omega, by omega⟩, wok_of h⟩
theorem wok_append {u v : List Int} {n : Int} (hu : WOK u n) (hv : WOK v n) (h : u.length + v.length ≤ 1024) : WOK (u ++ v) n := by
  refine ⟨by simp; omega, fun i hi => ?_⟩
  by_cases e : i < u.length
  · have := hu.sym i e
    have e2 : (u ++ v).getD i 0 = u.getD i 0 := by simp [List.getD, List.getElem?_append_left e]
    rw [e2]; exact this
  · have := hv.sym (i - u.length) (by simp at hi; omega)
    have e2 : (u ++ v).getD i 0 = v.getD (i - u.length) 0 := by simp [List.getD, List.getElem?_append_right (Nat.le_of_not_lt e)]
    rw [e2]; exact this
/-- A run of two words is the run of the first and then of the second. -/
theorem from_join {m : Mly} {u v : List Int} (h1 : fromE m m.st u = 0) (h2 : fromE m (fromS m m.st u) v = 0) (h3 : u.length + v.length ≤ 1024) :
    fromE m m.st [u, v].flatten = 0 ∧ fromS m m.st [u, v].flatten = fromS m (fromS m m.st u) v ∧ fromV m m.st [u, v].flatten = fromV m m.st u ++ fromV m (fromS m m.st u) v ∧ (fromV m m.st u).length = u.length ∧ (fromV m (fromS m m.st u) v).length = v.length := by
  have e : [u, v].flatten = u ++ v := by simp
  rw [e]
  obtain ⟨s1, w1⟩ := fromE_zero h1
  obtain ⟨s2, w2⟩ := fromE_zero h2
  have hE : fromE m m.st (u ++ v) = 0 := by
    rw [fromE_w (validE_of s1.ok) (by have := s1.s0; have := s1.s1; omega)]
    have := s1.ok.i1; have := s1.ok.i2
    exact wordE_ok (by omega) (by omega) (wok_append w1 w2 h3)
  have a1 : fromS m m.st u = (m.go m.st u).1 := by unfold fromS; rw [if_pos h1]
  refine ⟨hE, ?_, ?_, ?_, ?_⟩
  · unfold fromS at h2 ⊢; rw [if_pos hE, if_pos h1]; rw [if_pos h1] at h2; rw [if_pos h2, go_append]
  · unfold fromV; rw [if_pos hE, if_pos h1, if_pos h2, go_append, a1]
  · unfold fromV; rw [if_pos h1, go_len]
  · unfold fromV; rw [if_pos h2, go_len]

end Go.AV
