/- Words and runs of machines. -/
import Derived.Test.YtceafldjjedhcaaDoorLs
set_option linter.unusedSimpArgs false
set_option linter.unusedVariables false
namespace Go.AV

/-- The error of a word. -/
def gi (n a : Int) : Prop := a < 0 ∨ n ≤ a
instance (n a : Int) : Decidable (gi n a) := by unfold gi; exact inferInstance
def d4 (w : List Int) (n : Int) : Int := if n < 1 ∨ 1024 < n then 2 else if 1024 < w.length then 3 else if ∃ a, a ∈ w ∧ gi n a then 1 else 0
structure WOK (w : List Int) (n : Int) : Prop where
  len : w.length ≤ 1024
  sym : ∀ i : Nat, i < w.length → 0 ≤ w.getD i 0 ∧ w.getD i 0 < n
theorem cU {w : List Int} {i : Nat} (h : i < w.length) : w.getD i 0 ∈ w := by
  simp [List.getD, List.getElem?_eq_getElem h]
theorem pl {w : List Int} {n : Int} (h : d4 w n = 0) : WOK w n := by
  unfold d4 at h
  split at h
  · omega
  split at h
  · omega
  split at h
  · omega
  rename_i hn
  refine ⟨by omega, fun i hi => ?_⟩
  have : ¬ gi n (w.getD i 0) := fun hb => hn ⟨_, cU hi, hb⟩
  unfold gi at this; omega
theorem u6 {w : List Int} {n : Int} (h1 : 1 ≤ n) (h2 : n ≤ 1024) (h : WOK w n) : d4 w n = 0 := by
  unfold d4
  have := h.len
  rw [if_neg (by omega), if_neg (by omega), if_neg ?_]
  rintro ⟨a, ha, hb⟩
  obtain ⟨i, hi⟩ := List.getElem?_of_mem ha
  have hl : i < w.length := (List.getElem?_eq_some_iff.1 hi).1
  have := h.sym i hl
  simp only [List.getD, hi, Option.getD_some] at this
  unfold gi at hb; omega

/-- One step, and a run. -/
def Mly.nxt (m : Mly) (s a : Int) : Int := (m.nx.getD s.toNat []).getD a.toNat 0
def Mly.out (m : Mly) (s a : Int) : Int := (m.ot.getD s.toNat []).getD a.toNat 0
def Mly.go (m : Mly) (s : Int) (w : List Int) : Int × List Int := w.foldl (fun p a => (m.nxt p.1 a, p.2 ++ [m.out p.1 a])) (s, [])
theorem wr (m : Mly) (s : Int) : m.go s [] = (s, []) := rfl
theorem eB (m : Mly) (s : Int) (w : List Int) (a : Int) : m.go s (w ++ [a]) = (m.nxt (m.go s w).1 a, (m.go s w).2 ++ [m.out (m.go s w).1 a]) := by
  simp [Mly.go, List.foldl_append]
theorem gV {w : List Int} {k : Nat} (h : k < w.length) : w.take (k + 1) = w.take k ++ [w.getD k 0] := by
  rw [List.take_add_one, List.getElem?_eq_getElem h]; simp [List.getD, List.getElem?_eq_getElem h]
theorem qA (m : Mly) (s : Int) {w : List Int} {k : Nat} (h : k < w.length) : m.go s (w.take (k + 1)) = (m.nxt (m.go s (w.take k)).1 (w.getD k 0), (m.go s (w.take k)).2 ++ [m.out (m.go s (w.take k)).1 (w.getD k 0)]) := by
  rw [gV h, eB]
def gg (m : Mly) (s : Int) (w : List Int) : Int :=
  if bj m ≠ 0 then bj m else if s < 0 ∨ (m.nx.length : Int) ≤ s then 2 else d4 w m.inp
def dV (m : Mly) (s : Int) (w : List Int) : List Int := if gg m s w = 0 then (m.go s w).2 else []
structure SOK (m : Mly) (s : Int) : Prop where
  ok : MOK m
  s0 : 0 ≤ s
  s1 : s < m.nx.length
theorem fo (ls : List (List Int)) {k : Nat} (h : k < ls.length) : (ls.take (k + 1)).flatten = (ls.take k).flatten ++ ls.getD k [] := by
  have e : ls.take (k + 1) = ls.take k ++ [ls.getD k []] := by
    rw [List.take_add_one, List.getElem?_eq_getElem h]; simp [List.getD, List.getElem?_eq_getElem h]
  rw [e, List.flatten_append, List.flatten_cons, List.flatten_nil, List.append_nil]
theorem gf (ls : List (List Int)) (k : Nat) : (ls.take k).flatten.length ≤ ls.flatten.length := by
  have h : ls.flatten = (ls.take k).flatten ++ (ls.drop k).flatten := by rw [← List.flatten_append, List.take_append_drop]
  rw [h, List.length_append]; omega
theorem j9 (m : Mly) (s : Int) (u v : List Int) : m.go s (u ++ v) = ((m.go (m.go s u).1 v).1, (m.go s u).2 ++ (m.go (m.go s u).1 v).2) := by
  have key : ∀ (v : List Int) (p : Int × List Int), v.foldl (fun p a => (m.nxt p.1 a, p.2 ++ [m.out p.1 a])) p = ((m.go p.1 v).1, p.2 ++ (m.go p.1 v).2) := by
    intro v
    induction v with
    | nil => intro p; simp [Mly.go]
    | cons a v ih =>
      intro p
      simp only [List.foldl_cons, Mly.go]
      rw [ih, ih]
      simp [Mly.go]
  have h := key v (m.go s u)
  unfold Mly.go at h ⊢
  rw [List.foldl_append]
  exact h

end Go.AV
