/- Words and runs of machines. -/
import Derived.Test.YtoahhklogohehaaLs
set_option linter.unusedSimpArgs false
set_option linter.unusedVariables false
namespace Go.AV

def pR (n a : Int) : Prop := a < 0 ∨ n ≤ a
instance (n a : Int) : Decidable (pR n a) := by unfold pR; exact inferInstance
def gv (w : List Int) (n : Int) : Int := if n < 1 ∨ 1024 < n then 2 else if 1024 < w.length then 3 else if ∃ a, a ∈ w ∧ pR n a then 1 else 0
structure WOK (w : List Int) (n : Int) : Prop where
  len : w.length ≤ 1024
  sym : ∀ i : Nat, i < w.length → 0 ≤ w.getD i 0 ∧ w.getD i 0 < n
theorem bh {w : List Int} {i : Nat} (h : i < w.length) : w.getD i 0 ∈ w := by
  simp [List.getD, List.getElem?_eq_getElem h]
def Mly.nxt (m : Mly) (s a : Int) : Int := (m.nx.getD s.toNat []).getD a.toNat 0
def Mly.out (m : Mly) (s a : Int) : Int := (m.ot.getD s.toNat []).getD a.toNat 0
def Mly.go (m : Mly) (s : Int) (w : List Int) : Int × List Int := w.foldl (fun p a => (m.nxt p.1 a, p.2 ++ [m.out p.1 a])) (s, [])
theorem AL (m : Mly) (s : Int) : m.go s [] = (s, []) := rfl
theorem wh (m : Mly) (s : Int) (w : List Int) (a : Int) : m.go s (w ++ [a]) = (m.nxt (m.go s w).1 a, (m.go s w).2 ++ [m.out (m.go s w).1 a]) := by
  simp [Mly.go, List.foldl_append]
theorem cY {w : List Int} {k : Nat} (h : k < w.length) : w.take (k + 1) = w.take k ++ [w.getD k 0] := by
  rw [List.take_add_one, List.getElem?_eq_getElem h]; simp [List.getD, List.getElem?_eq_getElem h]
theorem uB (m : Mly) (s : Int) {w : List Int} {k : Nat} (h : k < w.length) : m.go s (w.take (k + 1)) = (m.nxt (m.go s (w.take k)).1 (w.getD k 0), (m.go s (w.take k)).2 ++ [m.out (m.go s (w.take k)).1 (w.getD k 0)]) := by
  rw [cY h, wh]
def iR (m : Mly) (s : Int) (w : List Int) : Int :=
  if aR m ≠ 0 then aR m else if s < 0 ∨ (m.nx.length : Int) ≤ s then 2 else gv w m.inp
def fe (m : Mly) (s : Int) (w : List Int) : List Int := if iR m s w = 0 then (m.go s w).2 else []
structure SOK (m : Mly) (s : Int) : Prop where
  ok : MOK m
  s0 : 0 ≤ s
  s1 : s < m.nx.length
theorem vY (m : Mly) (s : Int) (u v : List Int) : m.go s (u ++ v) = ((m.go (m.go s u).1 v).1, (m.go s u).2 ++ (m.go (m.go s u).1 v).2) := by
  have key : ∀ (v : List Int) (p : Int × List Int), v.foldl (fun p a => (m.nxt p.1 a, p.2 ++ [m.out p.1 a])) p = ((m.go p.1 v).1, p.2 ++ (m.go p.1 v).2) := by
    intro v
    induction v with
    | nil => intro p; simp [Mly.go]
    | cons a v ih =>
      intro p
      simp only [List.foldl_cons, Mly.go]
      rw [ih, ih]
      simp [Mly.go]
  have h := key v (m.go s u)
  unfold Mly.go at h ⊢
  rw [List.foldl_append]
  exact h

end Go.AV
