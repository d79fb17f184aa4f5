/- Words and runs of machines. -/
import Derived.Test.YtfakhaagbimljaaDoorLs
set_option linter.unusedSimpArgs false
set_option linter.unusedVariables false
namespace Go.AV

def bK (n a : Int) : Prop := a < 0 ∨ n ≤ a
instance (n a : Int) : Decidable (bK n a) := by unfold bK; exact inferInstance
def bv (w : List Int) (n : Int) : Int := if n < 1 ∨ 1024 < n then 2 else if 1024 < w.length then 3 else if ∃ a, a ∈ w ∧ bK n a then 1 else 0
structure WOK (w : List Int) (n : Int) : Prop where
  len : w.length ≤ 1024
  sym : ∀ i : Nat, i < w.length → 0 ≤ w.getD i 0 ∧ w.getD i 0 < n
theorem gN {w : List Int} {i : Nat} (h : i < w.length) : w.getD i 0 ∈ w := by
  simp [List.getD, List.getElem?_eq_getElem h]
theorem eS {w : List Int} {n : Int} (h : bv w n = 0) : WOK w n := by
  unfold bv at h
  split at h
  · omega
  split at h
  · omega
  split at h
  · omega
  rename_i hn
  refine ⟨by omega, fun i hi => ?_⟩
  have : ¬ bK n (w.getD i 0) := fun hb => hn ⟨_, gN hi, hb⟩
  unfold bK at this; omega
def Mly.nxt (m : Mly) (s a : Int) : Int := (m.nx.getD s.toNat []).getD a.toNat 0
def Mly.out (m : Mly) (s a : Int) : Int := (m.ot.getD s.toNat []).getD a.toNat 0
def Mly.go (m : Mly) (s : Int) (w : List Int) : Int × List Int := w.foldl (fun p a => (m.nxt p.1 a, p.2 ++ [m.out p.1 a])) (s, [])
theorem mT {w : List Int} {k : Nat} (h : k < w.length) : w.take (k + 1) = w.take k ++ [w.getD k 0] := by
  rw [List.take_add_one, List.getElem?_eq_getElem h]; simp [List.getD, List.getElem?_eq_getElem h]
structure SOK (m : Mly) (s : Int) : Prop where
  ok : MOK m
  s0 : 0 ≤ s
  s1 : s < m.nx.length
def gf (w : List Int) (n : Int) : Int := match w.findIdx? (fun a => decide (bK n a)) with | some i => i | none => -1
theorem oy {w : List Int} {n : Int} {k : Nat} (hk : k < w.length) (h : ∀ i, i < k → ¬ bK n (w.getD i 0)) (hb : bK n (w.getD k 0)) : gf w n = k := by
  unfold gf
  have : w.findIdx? (fun a => decide (bK n a)) = some k := by
    rw [List.findIdx?_eq_some_iff_getElem]
    refine ⟨hk, ?_, fun j hj => ?_⟩
    · simpa [List.getD, List.getElem?_eq_getElem hk] using hb
    · have := h j hj
      simpa [List.getD, List.getElem?_eq_getElem (Nat.lt_trans hj hk)] using this
  rw [this]
theorem ia {w : List Int} {n : Int} (h : ∀ i, i < w.length → ¬ bK n (w.getD i 0)) : gf w n = -1 := by
  unfold gf
  have : w.findIdx? (fun a => decide (bK n a)) = none := by
    rw [List.findIdx?_eq_none_iff]
    intro a ha
    obtain ⟨i, hi⟩ := List.getElem?_of_mem ha
    have := h i (List.getElem?_eq_some_iff.1 hi).1
    simpa [List.getD, hi] using this
  rw [this]
theorem kE (w : List Int) (n : Int) : (0 ≤ gf w n ∧ ∃ a, a ∈ w ∧ bK n a) ∨ (gf w n < 0 ∧ ¬ ∃ a, a ∈ w ∧ bK n a) := by
  by_cases h : ∃ a, a ∈ w ∧ bK n a
  · refine .inl ⟨?_, h⟩
    unfold gf
    obtain ⟨a, ha, hb⟩ := h
    cases hf : w.findIdx? (fun a => decide (bK n a)) with
    | some i => simp
    | none =>
      rw [List.findIdx?_eq_none_iff] at hf
      have := hf a ha
      simp [hb] at this
  · refine .inr ⟨?_, h⟩
    rw [ia fun i hi hb => h ⟨_, gN hi, hb⟩]; decide
theorem fI {w : List Int} {n : Int} (h1 : 1 ≤ n) (h2 : n ≤ 1024) (h3 : w.length ≤ 1024) (h : 0 ≤ gf w n) : bv w n = 1 := by
  unfold bv
  rcases kE w n with ⟨_, hs⟩ | ⟨h', _⟩
  · rw [if_neg (by omega), if_neg (by omega), if_pos hs]
  · omega
theorem ep {w : List Int} {n : Int} (h1 : 1 ≤ n) (h2 : n ≤ 1024) (h3 : w.length ≤ 1024) (h : gf w n < 0) : bv w n = 0 := by
  unfold bv
  rcases kE w n with ⟨h', _⟩ | ⟨_, hs⟩
  · omega
  · rw [if_neg (by omega), if_neg (by omega), if_neg hs]

end Go.AV
