/- Words and runs of machines. -/
import Derived.Test.YtgmgnkmgofkfpaaDoorLs
set_option linter.unusedSimpArgs false
set_option linter.unusedVariables false
namespace Go.AV

/-- The error of a word. -/
def cm (n a : Int) : Prop := a < 0 ∨ n ≤ a
instance (n a : Int) : Decidable (cm n a) := by unfold cm; exact inferInstance
def bY (w : List Int) (n : Int) : Int := if n < 1 ∨ 1024 < n then 2 else if 1024 < w.length then 3 else if ∃ a, a ∈ w ∧ cm n a then 1 else 0
structure WOK (w : List Int) (n : Int) : Prop where
  len : w.length ≤ 1024
  sym : ∀ i : Nat, i < w.length → 0 ≤ w.getD i 0 ∧ w.getD i 0 < n
theorem dc {w : List Int} {i : Nat} (h : i < w.length) : w.getD i 0 ∈ w := by
  simp [List.getD, List.getElem?_eq_getElem h]
theorem nc {w : List Int} {n : Int} (h : bY w n = 0) : WOK w n := by
  unfold bY at h
  split at h
  · omega
  split at h
  · omega
  split at h
  · omega
  rename_i hn
  refine ⟨by omega, fun i hi => ?_⟩
  have : ¬ cm n (w.getD i 0) := fun hb => hn ⟨_, dc hi, hb⟩
  unfold cm at this; omega
theorem eV {w : List Int} {n : Int} (h1 : 1 ≤ n) (h2 : n ≤ 1024) (h3 : w.length ≤ 1024) {i : Nat} (hi : i < w.length) (hb : w.getD i 0 < 0 ∨ n ≤ w.getD i 0) : bY w n = 1 := by
  unfold bY
  rw [if_neg (by omega), if_neg (by omega), if_pos ⟨_, dc hi, hb⟩]
theorem eC {w : List Int} {n : Int} (h1 : 1 ≤ n) (h2 : n ≤ 1024) (h : WOK w n) : bY w n = 0 := by
  unfold bY
  have := h.len
  rw [if_neg (by omega), if_neg (by omega), if_neg ?_]
  rintro ⟨a, ha, hb⟩
  obtain ⟨i, hi⟩ := List.getElem?_of_mem ha
  have hl : i < w.length := (List.getElem?_eq_some_iff.1 hi).1
  have := h.sym i hl
  simp only [List.getD, hi, Option.getD_some] at this
  unfold cm at hb; omega

/-- One step, and a run. -/
def Mly.nxt (m : Mly) (s a : Int) : Int := (m.nx.getD s.toNat []).getD a.toNat 0
def Mly.out (m : Mly) (s a : Int) : Int := (m.ot.getD s.toNat []).getD a.toNat 0
def Mly.go (m : Mly) (s : Int) (w : List Int) : Int × List Int := w.foldl (fun p a => (m.nxt p.1 a, p.2 ++ [m.out p.1 a])) (s, [])
structure SOK (m : Mly) (s : Int) : Prop where
  ok : MOK m
  s0 : 0 ≤ s
  s1 : s < m.nx.length
/-- The place of the first bad symbol, or -1. -/
def fi (w : List Int) (n : Int) : Int := match w.findIdx? (fun a => decide (cm n a)) with | some i => i | none => -1
theorem lR {w : List Int} {n : Int} {k : Nat} (hk : k < w.length) (h : ∀ i, i < k → ¬ cm n (w.getD i 0)) (hb : cm n (w.getD k 0)) : fi w n = k := by
  unfold fi
  have : w.findIdx? (fun a => decide (cm n a)) = some k := by
    rw [List.findIdx?_eq_some_iff_getElem]
    refine ⟨hk, ?_, fun j hj => ?_⟩
    · simpa [List.getD, List.getElem?_eq_getElem hk] using hb
    · have := h j hj
      simpa [List.getD, List.getElem?_eq_getElem (Nat.lt_trans hj hk)] using this
  rw [this]
theorem gj {w : List Int} {n : Int} (h : ∀ i, i < w.length → ¬ cm n (w.getD i 0)) : fi w n = -1 := by
  unfold fi
  have : w.findIdx? (fun a => decide (cm n a)) = none := by
    rw [List.findIdx?_eq_none_iff]
    intro a ha
    obtain ⟨i, hi⟩ := List.getElem?_of_mem ha
    have := h i (List.getElem?_eq_some_iff.1 hi).1
    simpa [List.getD, hi] using this
  rw [this]
theorem jN (w : List Int) (n : Int) : (0 ≤ fi w n ∧ ∃ a, a ∈ w ∧ cm n a) ∨ (fi w n < 0 ∧ ¬ ∃ a, a ∈ w ∧ cm n a) := by
  by_cases h : ∃ a, a ∈ w ∧ cm n a
  · refine .inl ⟨?_, h⟩
    unfold fi
    obtain ⟨a, ha, hb⟩ := h
    cases hf : w.findIdx? (fun a => decide (cm n a)) with
    | some i => simp
    | none =>
      rw [List.findIdx?_eq_none_iff] at hf
      have := hf a ha
      simp [hb] at this
  · refine .inr ⟨?_, h⟩
    rw [gj fun i hi hb => h ⟨_, dc hi, hb⟩]; decide
theorem fa {w : List Int} {n : Int} (h1 : 1 ≤ n) (h2 : n ≤ 1024) (h3 : w.length ≤ 1024) (h : 0 ≤ fi w n) : bY w n = 1 := by
  unfold bY
  rcases jN w n with ⟨_, hs⟩ | ⟨h', _⟩
  · rw [if_neg (by omega), if_neg (by omega), if_pos hs]
  · omega
theorem dH {w : List Int} {n : Int} (h1 : 1 ≤ n) (h2 : n ≤ 1024) (h3 : w.length ≤ 1024) (h : fi w n < 0) : bY w n = 0 := by
  unfold bY
  rcases jN w n with ⟨h', _⟩ | ⟨_, hs⟩
  · omega
  · rw [if_neg (by omega), if_neg (by omega), if_neg hs]

def p5 (m n : Mly) : Bool := decide (m.inp = n.inp) && decide (m.st = n.st) && decide (m.nx = n.nx) && decide (m.ot = n.ot)

theorem dF (ls : List (List Int)) {k : Nat} (h : k < ls.length) : (ls.take (k + 1)).flatten = (ls.take k).flatten ++ ls.getD k [] := by
  have e : ls.take (k + 1) = ls.take k ++ [ls.getD k []] := by
    rw [List.take_add_one, List.getElem?_eq_getElem h]; simp [List.getD, List.getElem?_eq_getElem h]
  rw [e, List.flatten_append, List.flatten_cons, List.flatten_nil, List.append_nil]
theorem er (ls : List (List Int)) (k : Nat) : (ls.take k).flatten.length ≤ ls.flatten.length := by
  have h : ls.flatten = (ls.take k).flatten ++ (ls.drop k).flatten := by rw [← List.flatten_append, List.take_append_drop]
  rw [h, List.length_append]; omega
end Go.AV
