/- Words and runs of machines. -/
import Derived.Test.YtgmgnkmgofkfpaaDoorLs
set_option linter.unusedSimpArgs false
set_option linter.unusedVariables false
namespace Go.AV

/-- The error of a word. -/
def cr (n a : Int) : Prop := a < 0 ∨ n ≤ a
instance (n a : Int) : Decidable (cr n a) := by unfold cr; exact inferInstance
def cm (w : List Int) (n : Int) : Int := if n < 1 ∨ 1024 < n then 2 else if 1024 < w.length then 3 else if ∃ a, a ∈ w ∧ cr n a then 1 else 0
structure WOK (w : List Int) (n : Int) : Prop where
  len : w.length ≤ 1024
  sym : ∀ i : Nat, i < w.length → 0 ≤ w.getD i 0 ∧ w.getD i 0 < n
theorem dU {w : List Int} {i : Nat} (h : i < w.length) : w.getD i 0 ∈ w := by
  simp [List.getD, List.getElem?_eq_getElem h]
theorem iZ {w : List Int} {n : Int} (h : cm w n = 0) : WOK w n := by
  unfold cm at h
  split at h
  · omega
  split at h
  · omega
  split at h
  · omega
  rename_i hn
  refine ⟨by omega, fun i hi => ?_⟩
  have : ¬ cr n (w.getD i 0) := fun hb => hn ⟨_, dU hi, hb⟩
  unfold cr at this; omega
theorem oF {w : List Int} {n : Int} (h1 : 1 ≤ n) (h2 : n ≤ 1024) (h : WOK w n) : cm w n = 0 := by
  unfold cm
  have := h.len
  rw [if_neg (by omega), if_neg (by omega), if_neg ?_]
  rintro ⟨a, ha, hb⟩
  obtain ⟨i, hi⟩ := List.getElem?_of_mem ha
  have hl : i < w.length := (List.getElem?_eq_some_iff.1 hi).1
  have := h.sym i hl
  simp only [List.getD, hi, Option.getD_some] at this
  unfold cr at hb; omega

/-- One step, and a run. -/
def Mly.nxt (m : Mly) (s a : Int) : Int := (m.nx.getD s.toNat []).getD a.toNat 0
def Mly.out (m : Mly) (s a : Int) : Int := (m.ot.getD s.toNat []).getD a.toNat 0
def Mly.go (m : Mly) (s : Int) (w : List Int) : Int × List Int := w.foldl (fun p a => (m.nxt p.1 a, p.2 ++ [m.out p.1 a])) (s, [])
structure SOK (m : Mly) (s : Int) : Prop where
  ok : MOK m
  s0 : 0 ≤ s
  s1 : s < m.nx.length
/-- The place of the first bad symbol, or -1. -/
def ff (w : List Int) (n : Int) : Int := match w.findIdx? (fun a => decide (cr n a)) with | some i => i | none => -1
theorem lS {w : List Int} {n : Int} {k : Nat} (hk : k < w.length) (h : ∀ i, i < k → ¬ cr n (w.getD i 0)) (hb : cr n (w.getD k 0)) : ff w n = k := by
  unfold ff
  have : w.findIdx? (fun a => decide (cr n a)) = some k := by
    rw [List.findIdx?_eq_some_iff_getElem]
    refine ⟨hk, ?_, fun j hj => ?_⟩
    · simpa [List.getD, List.getElem?_eq_getElem hk] using hb
    · have := h j hj
      simpa [List.getD, List.getElem?_eq_getElem (Nat.lt_trans hj hk)] using this
  rw [this]
theorem ge {w : List Int} {n : Int} (h : ∀ i, i < w.length → ¬ cr n (w.getD i 0)) : ff w n = -1 := by
  unfold ff
  have : w.findIdx? (fun a => decide (cr n a)) = none := by
    rw [List.findIdx?_eq_none_iff]
    intro a ha
    obtain ⟨i, hi⟩ := List.getElem?_of_mem ha
    have := h i (List.getElem?_eq_some_iff.1 hi).1
    simpa [List.getD, hi] using this
  rw [this]
theorem jF (w : List Int) (n : Int) : (0 ≤ ff w n ∧ ∃ a, a ∈ w ∧ cr n a) ∨ (ff w n < 0 ∧ ¬ ∃ a, a ∈ w ∧ cr n a) := by
  by_cases h : ∃ a, a ∈ w ∧ cr n a
  · refine .inl ⟨?_, h⟩
    unfold ff
    obtain ⟨a, ha, hb⟩ := h
    cases hf : w.findIdx? (fun a => decide (cr n a)) with
    | some i => simp
    | none =>
      rw [List.findIdx?_eq_none_iff] at hf
      have := hf a ha
      simp [hb] at this
  · refine .inr ⟨?_, h⟩
    rw [ge fun i hi hb => h ⟨_, dU hi, hb⟩]; decide
theorem eX {w : List Int} {n : Int} (h1 : 1 ≤ n) (h2 : n ≤ 1024) (h3 : w.length ≤ 1024) (h : 0 ≤ ff w n) : cm w n = 1 := by
  unfold cm
  rcases jF w n with ⟨_, hs⟩ | ⟨h', _⟩
  · rw [if_neg (by omega), if_neg (by omega), if_pos hs]
  · omega
theorem dS {w : List Int} {n : Int} (h1 : 1 ≤ n) (h2 : n ≤ 1024) (h3 : w.length ≤ 1024) (h : ff w n < 0) : cm w n = 0 := by
  unfold cm
  rcases jF w n with ⟨h', _⟩ | ⟨_, hs⟩
  · omega
  · rw [if_neg (by omega), if_neg (by omega), if_neg hs]

def pQ (m n : Mly) : Bool := decide (m.inp = n.inp) && decide (m.st = n.st) && decide (m.nx = n.nx) && decide (m.ot = n.ot)

theorem dI (ls : List (List Int)) {k : Nat} (h : k < ls.length) : (ls.take (k + 1)).flatten = (ls.take k).flatten ++ ls.getD k [] := by
  have e : ls.take (k + 1) = ls.take k ++ [ls.getD k []] := by
    rw [List.take_add_one, List.getElem?_eq_getElem h]; simp [List.getD, List.getElem?_eq_getElem h]
  rw [e, List.flatten_append, List.flatten_cons, List.flatten_nil, List.append_nil]
theorem ey (ls : List (List Int)) (k : Nat) : (ls.take k).flatten.length ≤ ls.flatten.length := by
  have h : ls.flatten = (ls.take k).flatten ++ (ls.drop k).flatten := by rw [← List.flatten_append, List.take_append_drop]
  rw [h, List.length_append]; omega
end Go.AV
