/- Words and runs of machines. -/
import Derived.Test.YtfakhaagbimljaaDoorLs
set_option linter.unusedSimpArgs false
set_option linter.unusedVariables false
namespace Go.AV

def bE (n a : Int) : Prop := a < 0 ∨ n ≤ a
instance (n a : Int) : Decidable (bE n a) := by unfold bE; exact inferInstance
def bp (w : List Int) (n : Int) : Int := if n < 1 ∨ 1024 < n then 2 else if 1024 < w.length then 3 else if ∃ a, a ∈ w ∧ bE n a then 1 else 0
structure WOK (w : List Int) (n : Int) : Prop where
  len : w.length ≤ 1024
  sym : ∀ i : Nat, i < w.length → 0 ≤ w.getD i 0 ∧ w.getD i 0 < n
theorem gF {w : List Int} {i : Nat} (h : i < w.length) : w.getD i 0 ∈ w := by
  simp [List.getD, List.getElem?_eq_getElem h]
theorem dI {w : List Int} {n : Int} (h : bp w n = 0) : WOK w n := by
  unfold bp at h
  split at h
  · omega
  split at h
  · omega
  split at h
  · omega
  rename_i hn
  refine ⟨by omega, fun i hi => ?_⟩
  have : ¬ bE n (w.getD i 0) := fun hb => hn ⟨_, gF hi, hb⟩
  unfold bE at this; omega
theorem rA {w : List Int} {n : Int} (h1 : 1 ≤ n) (h2 : n ≤ 1024) (h : WOK w n) : bp w n = 0 := by
  unfold bp
  have := h.len
  rw [if_neg (by omega), if_neg (by omega), if_neg ?_]
  rintro ⟨a, ha, hb⟩
  obtain ⟨i, hi⟩ := List.getElem?_of_mem ha
  have hl : i < w.length := (List.getElem?_eq_some_iff.1 hi).1
  have := h.sym i hl
  simp only [List.getD, hi, Option.getD_some] at this
  unfold bE at hb; omega

def Mly.nxt (m : Mly) (s a : Int) : Int := (m.nx.getD s.toNat []).getD a.toNat 0
def Mly.out (m : Mly) (s a : Int) : Int := (m.ot.getD s.toNat []).getD a.toNat 0
def Mly.go (m : Mly) (s : Int) (w : List Int) : Int × List Int := w.foldl (fun p a => (m.nxt p.1 a, p.2 ++ [m.out p.1 a])) (s, [])
theorem nB {w : List Int} {k : Nat} (h : k < w.length) : w.take (k + 1) = w.take k ++ [w.getD k 0] := by
  rw [List.take_add_one, List.getElem?_eq_getElem h]; simp [List.getD, List.getElem?_eq_getElem h]
structure SOK (m : Mly) (s : Int) : Prop where
  ok : MOK m
  s0 : 0 ≤ s
  s1 : s < m.nx.length
def gz (w : List Int) (n : Int) : Int := match w.findIdx? (fun a => decide (bE n a)) with | some i => i | none => -1
theorem oU {w : List Int} {n : Int} {k : Nat} (hk : k < w.length) (h : ∀ i, i < k → ¬ bE n (w.getD i 0)) (hb : bE n (w.getD k 0)) : gz w n = k := by
  unfold gz
  have : w.findIdx? (fun a => decide (bE n a)) = some k := by
    rw [List.findIdx?_eq_some_iff_getElem]
    refine ⟨hk, ?_, fun j hj => ?_⟩
    · simpa [List.getD, List.getElem?_eq_getElem hk] using hb
    · have := h j hj
      simpa [List.getD, List.getElem?_eq_getElem (Nat.lt_trans hj hk)] using this
  rw [this]
theorem ic {w : List Int} {n : Int} (h : ∀ i, i < w.length → ¬ bE n (w.getD i 0)) : gz w n = -1 := by
  unfold gz
  have : w.findIdx? (fun a => decide (bE n a)) = none := by
    rw [List.findIdx?_eq_none_iff]
    intro a ha
    obtain ⟨i, hi⟩ := List.getElem?_of_mem ha
    have := h i (List.getElem?_eq_some_iff.1 hi).1
    simpa [List.getD, hi] using this
  rw [this]
theorem lu (w : List Int) (n : Int) : (0 ≤ gz w n ∧ ∃ a, a ∈ w ∧ bE n a) ∨ (gz w n < 0 ∧ ¬ ∃ a, a ∈ w ∧ bE n a) := by
  by_cases h : ∃ a, a ∈ w ∧ bE n a
  · refine .inl ⟨?_, h⟩
    unfold gz
    obtain ⟨a, ha, hb⟩ := h
    cases hf : w.findIdx? (fun a => decide (bE n a)) with
    | some i => simp
    | none =>
      rw [List.findIdx?_eq_none_iff] at hf
      have := hf a ha
      simp [hb] at this
  · refine .inr ⟨?_, h⟩
    rw [ic fun i hi hb => h ⟨_, gF hi, hb⟩]; decide
theorem fG {w : List Int} {n : Int} (h1 : 1 ≤ n) (h2 : n ≤ 1024) (h3 : w.length ≤ 1024) (h : 0 ≤ gz w n) : bp w n = 1 := by
  unfold bp
  rcases lu w n with ⟨_, hs⟩ | ⟨h', _⟩
  · rw [if_neg (by omega), if_neg (by omega), if_pos hs]
  · omega
theorem eo {w : List Int} {n : Int} (h1 : 1 ≤ n) (h2 : n ≤ 1024) (h3 : w.length ≤ 1024) (h : gz w n < 0) : bp w n = 0 := by
  unfold bp
  rcases lu w n with ⟨h', _⟩ | ⟨_, hs⟩
  · omega
  · rw [if_neg (by omega), if_neg (by omega), if_neg hs]

end Go.AV
