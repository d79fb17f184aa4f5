/- Words and runs of machines. -/
import Derived.Test.YtfakhaagbimljaaDoorLs
set_option linter.unusedSimpArgs false
set_option linter.unusedVariables false
namespace Go.AV

def bH (n a : Int) : Prop := a < 0 ∨ n ≤ a
instance (n a : Int) : Decidable (bH n a) := by unfold bH; exact inferInstance
def aW (w : List Int) (n : Int) : Int := if n < 1 ∨ 1024 < n then 2 else if 1024 < w.length then 3 else if ∃ a, a ∈ w ∧ bH n a then 1 else 0
structure WOK (w : List Int) (n : Int) : Prop where
  len : w.length ≤ 1024
  sym : ∀ i : Nat, i < w.length → 0 ≤ w.getD i 0 ∧ w.getD i 0 < n
theorem fc {w : List Int} {i : Nat} (h : i < w.length) : w.getD i 0 ∈ w := by
  simp [List.getD, List.getElem?_eq_getElem h]
theorem ef {w : List Int} {n : Int} (h : aW w n = 0) : WOK w n := by
  unfold aW at h
  split at h
  · omega
  split at h
  · omega
  split at h
  · omega
  rename_i hn
  refine ⟨by omega, fun i hi => ?_⟩
  have : ¬ bH n (w.getD i 0) := fun hb => hn ⟨_, fc hi, hb⟩
  unfold bH at this; omega
theorem fl {w : List Int} {n : Int} (h1 : 1 ≤ n) (h2 : n ≤ 1024) (h3 : w.length ≤ 1024) {i : Nat} (hi : i < w.length) (hb : w.getD i 0 < 0 ∨ n ≤ w.getD i 0) : aW w n = 1 := by
  unfold aW
  rw [if_neg (by omega), if_neg (by omega), if_pos ⟨_, fc hi, hb⟩]
theorem gK {w : List Int} {n : Int} (h1 : 1 ≤ n) (h2 : n ≤ 1024) (h : WOK w n) : aW w n = 0 := by
  unfold aW
  have := h.len
  rw [if_neg (by omega), if_neg (by omega), if_neg ?_]
  rintro ⟨a, ha, hb⟩
  obtain ⟨i, hi⟩ := List.getElem?_of_mem ha
  have hl : i < w.length := (List.getElem?_eq_some_iff.1 hi).1
  have := h.sym i hl
  simp only [List.getD, hi, Option.getD_some] at this
  unfold bH at hb; omega

def Mly.nxt (m : Mly) (s a : Int) : Int := (m.nx.getD s.toNat []).getD a.toNat 0
def Mly.out (m : Mly) (s a : Int) : Int := (m.ot.getD s.toNat []).getD a.toNat 0
def Mly.go (m : Mly) (s : Int) (w : List Int) : Int × List Int := w.foldl (fun p a => (m.nxt p.1 a, p.2 ++ [m.out p.1 a])) (s, [])
theorem mP {w : List Int} {k : Nat} (h : k < w.length) : w.take (k + 1) = w.take k ++ [w.getD k 0] := by
  rw [List.take_add_one, List.getElem?_eq_getElem h]; simp [List.getD, List.getElem?_eq_getElem h]
structure SOK (m : Mly) (s : Int) : Prop where
  ok : MOK m
  s0 : 0 ≤ s
  s1 : s < m.nx.length
def gi (w : List Int) (n : Int) : Int := match w.findIdx? (fun a => decide (bH n a)) with | some i => i | none => -1
theorem oW {w : List Int} {n : Int} {k : Nat} (hk : k < w.length) (h : ∀ i, i < k → ¬ bH n (w.getD i 0)) (hb : bH n (w.getD k 0)) : gi w n = k := by
  unfold gi
  have : w.findIdx? (fun a => decide (bH n a)) = some k := by
    rw [List.findIdx?_eq_some_iff_getElem]
    refine ⟨hk, ?_, fun j hj => ?_⟩
    · simpa [List.getD, List.getElem?_eq_getElem hk] using hb
    · have := h j hj
      simpa [List.getD, List.getElem?_eq_getElem (Nat.lt_trans hj hk)] using this
  rw [this]
theorem ib {w : List Int} {n : Int} (h : ∀ i, i < w.length → ¬ bH n (w.getD i 0)) : gi w n = -1 := by
  unfold gi
  have : w.findIdx? (fun a => decide (bH n a)) = none := by
    rw [List.findIdx?_eq_none_iff]
    intro a ha
    obtain ⟨i, hi⟩ := List.getElem?_of_mem ha
    have := h i (List.getElem?_eq_some_iff.1 hi).1
    simpa [List.getD, hi] using this
  rw [this]
theorem l9 (w : List Int) (n : Int) : (0 ≤ gi w n ∧ ∃ a, a ∈ w ∧ bH n a) ∨ (gi w n < 0 ∧ ¬ ∃ a, a ∈ w ∧ bH n a) := by
  by_cases h : ∃ a, a ∈ w ∧ bH n a
  · refine .inl ⟨?_, h⟩
    unfold gi
    obtain ⟨a, ha, hb⟩ := h
    cases hf : w.findIdx? (fun a => decide (bH n a)) with
    | some i => simp
    | none =>
      rw [List.findIdx?_eq_none_iff] at hf
      have := hf a ha
      simp [hb] at this
  · refine .inr ⟨?_, h⟩
    rw [ib fun i hi hb => h ⟨_, fc hi, hb⟩]; decide
theorem fq {w : List Int} {n : Int} (h1 : 1 ≤ n) (h2 : n ≤ 1024) (h3 : w.length ≤ 1024) (h : 0 ≤ gi w n) : aW w n = 1 := by
  unfold aW
  rcases l9 w n with ⟨_, hs⟩ | ⟨h', _⟩
  · rw [if_neg (by omega), if_neg (by omega), if_pos hs]
  · omega
theorem eo {w : List Int} {n : Int} (h1 : 1 ≤ n) (h2 : n ≤ 1024) (h3 : w.length ≤ 1024) (h : gi w n < 0) : aW w n = 0 := by
  unfold aW
  rcases l9 w n with ⟨h', _⟩ | ⟨_, hs⟩
  · omega
  · rw [if_neg (by omega), if_neg (by omega), if_neg hs]

theorem fL (ls : List (List Int)) {k : Nat} (h : k < ls.length) : (ls.take (k + 1)).flatten = (ls.take k).flatten ++ ls.getD k [] := by
  have e : ls.take (k + 1) = ls.take k ++ [ls.getD k []] := by
    rw [List.take_add_one, List.getElem?_eq_getElem h]; simp [List.getD, List.getElem?_eq_getElem h]
  rw [e, List.flatten_append, List.flatten_cons, List.flatten_nil, List.append_nil]
theorem lQ (ls : List (List Int)) (k : Nat) : (ls.take k).flatten.length ≤ ls.flatten.length := by
  have h : ls.flatten = (ls.take k).flatten ++ (ls.drop k).flatten := by rw [← List.flatten_append, List.take_append_drop]
  rw [h, List.length_append]; omega
end Go.AV
