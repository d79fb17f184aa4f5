/- Words and runs of machines. -/
import Derived.Test.YtfakhaagbimljaaDoorLs
set_option linter.unusedSimpArgs false
set_option linter.unusedVariables false
namespace Go.AV

def bD (n a : Int) : Prop := a < 0 ∨ n ≤ a
instance (n a : Int) : Decidable (bD n a) := by unfold bD; exact inferInstance
def br (w : List Int) (n : Int) : Int := if n < 1 ∨ 1024 < n then 2 else if 1024 < w.length then 3 else if ∃ a, a ∈ w ∧ bD n a then 1 else 0
structure WOK (w : List Int) (n : Int) : Prop where
  len : w.length ≤ 1024
  sym : ∀ i : Nat, i < w.length → 0 ≤ w.getD i 0 ∧ w.getD i 0 < n
theorem gy {w : List Int} {i : Nat} (h : i < w.length) : w.getD i 0 ∈ w := by
  simp [List.getD, List.getElem?_eq_getElem h]
theorem ex {w : List Int} {n : Int} (h : br w n = 0) : WOK w n := by
  unfold br at h
  split at h
  · omega
  split at h
  · omega
  split at h
  · omega
  rename_i hn
  refine ⟨by omega, fun i hi => ?_⟩
  have : ¬ bD n (w.getD i 0) := fun hb => hn ⟨_, gy hi, hb⟩
  unfold bD at this; omega
def Mly.nxt (m : Mly) (s a : Int) : Int := (m.nx.getD s.toNat []).getD a.toNat 0
def Mly.out (m : Mly) (s a : Int) : Int := (m.ot.getD s.toNat []).getD a.toNat 0
def Mly.go (m : Mly) (s : Int) (w : List Int) : Int × List Int := w.foldl (fun p a => (m.nxt p.1 a, p.2 ++ [m.out p.1 a])) (s, [])
theorem mw {w : List Int} {k : Nat} (h : k < w.length) : w.take (k + 1) = w.take k ++ [w.getD k 0] := by
  rw [List.take_add_one, List.getElem?_eq_getElem h]; simp [List.getD, List.getElem?_eq_getElem h]
structure SOK (m : Mly) (s : Int) : Prop where
  ok : MOK m
  s0 : 0 ≤ s
  s1 : s < m.nx.length
def fO (w : List Int) (n : Int) : Int := match w.findIdx? (fun a => decide (bD n a)) with | some i => i | none => -1
theorem nR {w : List Int} {n : Int} {k : Nat} (hk : k < w.length) (h : ∀ i, i < k → ¬ bD n (w.getD i 0)) (hb : bD n (w.getD k 0)) : fO w n = k := by
  unfold fO
  have : w.findIdx? (fun a => decide (bD n a)) = some k := by
    rw [List.findIdx?_eq_some_iff_getElem]
    refine ⟨hk, ?_, fun j hj => ?_⟩
    · simpa [List.getD, List.getElem?_eq_getElem hk] using hb
    · have := h j hj
      simpa [List.getD, List.getElem?_eq_getElem (Nat.lt_trans hj hk)] using this
  rw [this]
theorem gW {w : List Int} {n : Int} (h : ∀ i, i < w.length → ¬ bD n (w.getD i 0)) : fO w n = -1 := by
  unfold fO
  have : w.findIdx? (fun a => decide (bD n a)) = none := by
    rw [List.findIdx?_eq_none_iff]
    intro a ha
    obtain ⟨i, hi⟩ := List.getElem?_of_mem ha
    have := h i (List.getElem?_eq_some_iff.1 hi).1
    simpa [List.getD, hi] using this
  rw [this]
theorem km (w : List Int) (n : Int) : (0 ≤ fO w n ∧ ∃ a, a ∈ w ∧ bD n a) ∨ (fO w n < 0 ∧ ¬ ∃ a, a ∈ w ∧ bD n a) := by
  by_cases h : ∃ a, a ∈ w ∧ bD n a
  · refine .inl ⟨?_, h⟩
    unfold fO
    obtain ⟨a, ha, hb⟩ := h
    cases hf : w.findIdx? (fun a => decide (bD n a)) with
    | some i => simp
    | none =>
      rw [List.findIdx?_eq_none_iff] at hf
      have := hf a ha
      simp [hb] at this
  · refine .inr ⟨?_, h⟩
    rw [gW fun i hi hb => h ⟨_, gy hi, hb⟩]; decide
theorem fg {w : List Int} {n : Int} (h1 : 1 ≤ n) (h2 : n ≤ 1024) (h3 : w.length ≤ 1024) (h : 0 ≤ fO w n) : br w n = 1 := by
  unfold br
  rcases km w n with ⟨_, hs⟩ | ⟨h', _⟩
  · rw [if_neg (by omega), if_neg (by omega), if_pos hs]
  · omega
theorem dU {w : List Int} {n : Int} (h1 : 1 ≤ n) (h2 : n ≤ 1024) (h3 : w.length ≤ 1024) (h : fO w n < 0) : br w n = 0 := by
  unfold br
  rcases km w n with ⟨h', _⟩ | ⟨_, hs⟩
  · omega
  · rw [if_neg (by omega), if_neg (by omega), if_neg hs]

end Go.AV
