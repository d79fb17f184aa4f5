/- Words and runs of machines. -/
import Derived.Test.YtgmgnkmgofkfpaaDoorLs
set_option linter.unusedSimpArgs false
set_option linter.unusedVariables false
namespace Go.AV

/-- The error of a word. -/
def cq (n a : Int) : Prop := a < 0 ∨ n ≤ a
instance (n a : Int) : Decidable (cq n a) := by unfold cq; exact inferInstance
def cw (w : List Int) (n : Int) : Int := if n < 1 ∨ 1024 < n then 2 else if 1024 < w.length then 3 else if ∃ a, a ∈ w ∧ cq n a then 1 else 0
structure WOK (w : List Int) (n : Int) : Prop where
  len : w.length ≤ 1024
  sym : ∀ i : Nat, i < w.length → 0 ≤ w.getD i 0 ∧ w.getD i 0 < n
theorem cJ {w : List Int} {i : Nat} (h : i < w.length) : w.getD i 0 ∈ w := by
  simp [List.getD, List.getElem?_eq_getElem h]
theorem nz {w : List Int} {n : Int} (h : cw w n = 0) : WOK w n := by
  unfold cw at h
  split at h
  · omega
  split at h
  · omega
  split at h
  · omega
  rename_i hn
  refine ⟨by omega, fun i hi => ?_⟩
  have : ¬ cq n (w.getD i 0) := fun hb => hn ⟨_, cJ hi, hb⟩
  unfold cq at this; omega
/-- One step, and a run. -/
def Mly.nxt (m : Mly) (s a : Int) : Int := (m.nx.getD s.toNat []).getD a.toNat 0
def Mly.out (m : Mly) (s a : Int) : Int := (m.ot.getD s.toNat []).getD a.toNat 0
def Mly.go (m : Mly) (s : Int) (w : List Int) : Int × List Int := w.foldl (fun p a => (m.nxt p.1 a, p.2 ++ [m.out p.1 a])) (s, [])
theorem dV {w : List Int} {k : Nat} (h : k < w.length) : w.take (k + 1) = w.take k ++ [w.getD k 0] := by
  rw [List.take_add_one, List.getElem?_eq_getElem h]; simp [List.getD, List.getElem?_eq_getElem h]
structure SOK (m : Mly) (s : Int) : Prop where
  ok : MOK m
  s0 : 0 ≤ s
  s1 : s < m.nx.length
/-- The place of the first bad symbol, or -1. -/
def fP (w : List Int) (n : Int) : Int := match w.findIdx? (fun a => decide (cq n a)) with | some i => i | none => -1
theorem me {w : List Int} {n : Int} {k : Nat} (hk : k < w.length) (h : ∀ i, i < k → ¬ cq n (w.getD i 0)) (hb : cq n (w.getD k 0)) : fP w n = k := by
  unfold fP
  have : w.findIdx? (fun a => decide (cq n a)) = some k := by
    rw [List.findIdx?_eq_some_iff_getElem]
    refine ⟨hk, ?_, fun j hj => ?_⟩
    · simpa [List.getD, List.getElem?_eq_getElem hk] using hb
    · have := h j hj
      simpa [List.getD, List.getElem?_eq_getElem (Nat.lt_trans hj hk)] using this
  rw [this]
theorem gr {w : List Int} {n : Int} (h : ∀ i, i < w.length → ¬ cq n (w.getD i 0)) : fP w n = -1 := by
  unfold fP
  have : w.findIdx? (fun a => decide (cq n a)) = none := by
    rw [List.findIdx?_eq_none_iff]
    intro a ha
    obtain ⟨i, hi⟩ := List.getElem?_of_mem ha
    have := h i (List.getElem?_eq_some_iff.1 hi).1
    simpa [List.getD, hi] using this
  rw [this]
theorem jS (w : List Int) (n : Int) : (0 ≤ fP w n ∧ ∃ a, a ∈ w ∧ cq n a) ∨ (fP w n < 0 ∧ ¬ ∃ a, a ∈ w ∧ cq n a) := by
  by_cases h : ∃ a, a ∈ w ∧ cq n a
  · refine .inl ⟨?_, h⟩
    unfold fP
    obtain ⟨a, ha, hb⟩ := h
    cases hf : w.findIdx? (fun a => decide (cq n a)) with
    | some i => simp
    | none =>
      rw [List.findIdx?_eq_none_iff] at hf
      have := hf a ha
      simp [hb] at this
  · refine .inr ⟨?_, h⟩
    rw [gr fun i hi hb => h ⟨_, cJ hi, hb⟩]; decide
theorem eX {w : List Int} {n : Int} (h1 : 1 ≤ n) (h2 : n ≤ 1024) (h3 : w.length ≤ 1024) (h : 0 ≤ fP w n) : cw w n = 1 := by
  unfold cw
  rcases jS w n with ⟨_, hs⟩ | ⟨h', _⟩
  · rw [if_neg (by omega), if_neg (by omega), if_pos hs]
  · omega
theorem dX {w : List Int} {n : Int} (h1 : 1 ≤ n) (h2 : n ≤ 1024) (h3 : w.length ≤ 1024) (h : fP w n < 0) : cw w n = 0 := by
  unfold cw
  rcases jS w n with ⟨h', _⟩ | ⟨_, hs⟩
  · omega
  · rw [if_neg (by omega), if_neg (by omega), if_neg hs]

def jD (m n : Mly) : Bool := decide (m.inp = n.inp) && decide (m.st = n.st) && decide (m.nx = n.nx) && decide (m.ot = n.ot)

theorem cX (ls : List (List Int)) {k : Nat} (h : k < ls.length) : (ls.take (k + 1)).flatten = (ls.take k).flatten ++ ls.getD k [] := by
  have e : ls.take (k + 1) = ls.take k ++ [ls.getD k []] := by
    rw [List.take_add_one, List.getElem?_eq_getElem h]; simp [List.getD, List.getElem?_eq_getElem h]
  rw [e, List.flatten_append, List.flatten_cons, List.flatten_nil, List.append_nil]
theorem dH (ls : List (List Int)) (k : Nat) : (ls.take k).flatten.length ≤ ls.flatten.length := by
  have h : ls.flatten = (ls.take k).flatten ++ (ls.drop k).flatten := by rw [← List.flatten_append, List.take_append_drop]
  rw [h, List.length_append]; omega
end Go.AV
