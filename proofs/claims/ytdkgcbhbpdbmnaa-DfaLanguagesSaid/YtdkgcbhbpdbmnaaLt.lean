/- Words and runs of machines. -/
import Derived.Test.YtdkgcbhbpdbmnaaLs
set_option linter.unusedSimpArgs false
set_option linter.unusedVariables false
namespace Go.AV

/-- The error of a word. -/
def cq (n a : Int) : Prop := a < 0 ∨ n ≤ a
instance (n a : Int) : Decidable (cq n a) := by unfold cq; exact inferInstance
def bW (w : List Int) (n : Int) : Int := if n < 1 ∨ 1024 < n then 2 else if 1024 < w.length then 3 else if ∃ a, a ∈ w ∧ cq n a then 1 else 0
structure WOK (w : List Int) (n : Int) : Prop where
  len : w.length ≤ 1024
  sym : ∀ i : Nat, i < w.length → 0 ≤ w.getD i 0 ∧ w.getD i 0 < n
theorem dZ {w : List Int} {i : Nat} (h : i < w.length) : w.getD i 0 ∈ w := by
  simp [List.getD, List.getElem?_eq_getElem h]
theorem oO {w : List Int} {n : Int} (h : bW w n = 0) : WOK w n := by
  unfold bW at h
  split at h
  · omega
  split at h
  · omega
  split at h
  · omega
  rename_i hn
  refine ⟨by omega, fun i hi => ?_⟩
  have : ¬ cq n (w.getD i 0) := fun hb => hn ⟨_, dZ hi, hb⟩
  unfold cq at this; omega
theorem fI {w : List Int} {n : Int} (h1 : 1 ≤ n) (h2 : n ≤ 1024) (h3 : w.length ≤ 1024) {i : Nat} (hi : i < w.length) (hb : w.getD i 0 < 0 ∨ n ≤ w.getD i 0) : bW w n = 1 := by
  unfold bW
  rw [if_neg (by omega), if_neg (by omega), if_pos ⟨_, dZ hi, hb⟩]
theorem fu {w : List Int} {n : Int} (h1 : 1 ≤ n) (h2 : n ≤ 1024) (h : WOK w n) : bW w n = 0 := by
  unfold bW
  have := h.len
  rw [if_neg (by omega), if_neg (by omega), if_neg ?_]
  rintro ⟨a, ha, hb⟩
  obtain ⟨i, hi⟩ := List.getElem?_of_mem ha
  have hl : i < w.length := (List.getElem?_eq_some_iff.1 hi).1
  have := h.sym i hl
  simp only [List.getD, hi, Option.getD_some] at this
  unfold cq at hb; omega

/-- One step, and a run. -/
def Mly.nxt (m : Mly) (s a : Int) : Int := (m.nx.getD s.toNat []).getD a.toNat 0
def Mly.out (m : Mly) (s a : Int) : Int := (m.ot.getD s.toNat []).getD a.toNat 0
def Mly.go (m : Mly) (s : Int) (w : List Int) : Int × List Int := w.foldl (fun p a => (m.nxt p.1 a, p.2 ++ [m.out p.1 a])) (s, [])
theorem ly {w : List Int} {k : Nat} (h : k < w.length) : w.take (k + 1) = w.take k ++ [w.getD k 0] := by
  rw [List.take_add_one, List.getElem?_eq_getElem h]; simp [List.getD, List.getElem?_eq_getElem h]
structure SOK (m : Mly) (s : Int) : Prop where
  ok : MOK m
  s0 : 0 ≤ s
  s1 : s < m.nx.length
/-- The place of the first bad symbol, or -1. -/
def fV (w : List Int) (n : Int) : Int := match w.findIdx? (fun a => decide (cq n a)) with | some i => i | none => -1
theorem mz {w : List Int} {n : Int} {k : Nat} (hk : k < w.length) (h : ∀ i, i < k → ¬ cq n (w.getD i 0)) (hb : cq n (w.getD k 0)) : fV w n = k := by
  unfold fV
  have : w.findIdx? (fun a => decide (cq n a)) = some k := by
    rw [List.findIdx?_eq_some_iff_getElem]
    refine ⟨hk, ?_, fun j hj => ?_⟩
    · simpa [List.getD, List.getElem?_eq_getElem hk] using hb
    · have := h j hj
      simpa [List.getD, List.getElem?_eq_getElem (Nat.lt_trans hj hk)] using this
  rw [this]
theorem gZ {w : List Int} {n : Int} (h : ∀ i, i < w.length → ¬ cq n (w.getD i 0)) : fV w n = -1 := by
  unfold fV
  have : w.findIdx? (fun a => decide (cq n a)) = none := by
    rw [List.findIdx?_eq_none_iff]
    intro a ha
    obtain ⟨i, hi⟩ := List.getElem?_of_mem ha
    have := h i (List.getElem?_eq_some_iff.1 hi).1
    simpa [List.getD, hi] using this
  rw [this]
theorem jJ (w : List Int) (n : Int) : (0 ≤ fV w n ∧ ∃ a, a ∈ w ∧ cq n a) ∨ (fV w n < 0 ∧ ¬ ∃ a, a ∈ w ∧ cq n a) := by
  by_cases h : ∃ a, a ∈ w ∧ cq n a
  · refine .inl ⟨?_, h⟩
    unfold fV
    obtain ⟨a, ha, hb⟩ := h
    cases hf : w.findIdx? (fun a => decide (cq n a)) with
    | some i => simp
    | none =>
      rw [List.findIdx?_eq_none_iff] at hf
      have := hf a ha
      simp [hb] at this
  · refine .inr ⟨?_, h⟩
    rw [gZ fun i hi hb => h ⟨_, dZ hi, hb⟩]; decide
theorem fJ {w : List Int} {n : Int} (h1 : 1 ≤ n) (h2 : n ≤ 1024) (h3 : w.length ≤ 1024) (h : 0 ≤ fV w n) : bW w n = 1 := by
  unfold bW
  rcases jJ w n with ⟨_, hs⟩ | ⟨h', _⟩
  · rw [if_neg (by omega), if_neg (by omega), if_pos hs]
  · omega
theorem ey {w : List Int} {n : Int} (h1 : 1 ≤ n) (h2 : n ≤ 1024) (h3 : w.length ≤ 1024) (h : fV w n < 0) : bW w n = 0 := by
  unfold bW
  rcases jJ w n with ⟨h', _⟩ | ⟨_, hs⟩
  · omega
  · rw [if_neg (by omega), if_neg (by omega), if_neg hs]

theorem cP (ls : List (List Int)) {k : Nat} (h : k < ls.length) : (ls.take (k + 1)).flatten = (ls.take k).flatten ++ ls.getD k [] := by
  have e : ls.take (k + 1) = ls.take k ++ [ls.getD k []] := by
    rw [List.take_add_one, List.getElem?_eq_getElem h]; simp [List.getD, List.getElem?_eq_getElem h]
  rw [e, List.flatten_append, List.flatten_cons, List.flatten_nil, List.append_nil]
theorem fh (ls : List (List Int)) (k : Nat) : (ls.take k).flatten.length ≤ ls.flatten.length := by
  have h : ls.flatten = (ls.take k).flatten ++ (ls.drop k).flatten := by rw [← List.flatten_append, List.take_append_drop]
  rw [h, List.length_append]; omega
end Go.AV
