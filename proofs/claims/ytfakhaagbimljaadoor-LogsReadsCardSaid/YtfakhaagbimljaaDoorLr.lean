/- Mealy machines as data, and the error of a machine. -/
import Derived.Test.YtfakhaagbimljaaDoorLq
set_option linter.unusedSimpArgs false
set_option linter.unusedVariables false
namespace Go.AV

structure Mly where
  inp : Int
  st : Int
  nx : List (List Int)
  ot : List (List Int)

@[reducible] def Mly.av (m : Mly) : AV := .agg [.int .i64 m.inp, .int .i64 m.st, .list (.list (.int .i64)) m.nx, .list (.list (.int .i64)) m.ot]

def lN (m : Mly) (s a : Nat) : Prop :=
  (m.nx.getD s []).getD a 0 < 0 ∨ (m.nx.length : Int) ≤ (m.nx.getD s []).getD a 0 ∨ (m.ot.getD s []).getD a 0 < 0 ∨ 1048576 < (m.ot.getD s []).getD a 0
def ne (m : Mly) (s : Nat) : Prop := ¬ ((m.nx.getD s []).length : Int) = m.inp ∨ ¬ ((m.ot.getD s []).length : Int) = m.inp
instance (m : Mly) (s a : Nat) : Decidable (lN m s a) := by unfold lN; exact inferInstance
instance (m : Mly) (s : Nat) : Decidable (ne m s) := by unfold ne; exact inferInstance

def bJ (f : Nat → Int) : Nat → Int
  | 0 => 0
  | n + 1 => if bJ f n ≠ 0 then bJ f n else f n
theorem df {f : Nat → Int} {k n : Nat} (h : ∀ i, i < k → f i = 0) (hk : k < n) (hf : f k ≠ 0) : bJ f n = f k := by
  induction n with
  | zero => omega
  | succ n ih =>
    have h0 : ∀ j, j ≤ k → bJ f j = 0 := by
      intro j
      induction j with
      | zero => intro _; rfl
      | succ j ih => intro hj; simp only [bJ, ih (by omega)]; simp [h j (by omega)]
    simp only [bJ]
    by_cases e : n = k
    · subst e; simp [h0 n (Nat.le_refl _)]
    · rw [ih (by omega)]; simp [hf]
theorem cD {f : Nat → Int} {n : Nat} (h : ∀ i, i < n → f i = 0) : bJ f n = 0 := by
  induction n with
  | zero => rfl
  | succ n ih => simp only [bJ, ih fun i hi => h i (by omega)]; simp [h n (by omega)]
theorem mU {f : Nat → Int} {n : Nat} (h : bJ f n = 0) : ∀ i, i < n → f i = 0 := by
  induction n with
  | zero => intro i hi; omega
  | succ n ih =>
    simp only [bJ] at h
    by_cases e : bJ f n = 0
    · simp [e] at h
      intro i hi
      by_cases ei : i = n
      · rw [ei]; exact h
      · exact ih e i (by omega)
    · simp [e] at h

def v4 (m : Mly) (s : Nat) : Int := if ne m s then 1 else bJ (fun a => if lN m s a then 2 else 0) m.inp.toNat
def qg (m : Mly) : Int :=
  if m.inp < 1 ∨ 64 < m.inp then 2 else if m.nx.length = 0 then 19 else if 128 < m.nx.length then 11
  else if m.st < 0 ∨ (m.nx.length : Int) ≤ m.st then 2 else if m.ot.length ≠ m.nx.length then 1 else bJ (v4 m) m.nx.length

structure MOK (m : Mly) : Prop where
  i1 : 1 ≤ m.inp
  i2 : m.inp ≤ 64
  n1 : 1 ≤ m.nx.length
  n2 : m.nx.length ≤ 128
  s1 : 0 ≤ m.st
  s2 : m.st < m.nx.length
  ol : m.ot.length = m.nx.length
  rl : ∀ s, s < m.nx.length → ((m.nx.getD s []).length : Int) = m.inp
  ql : ∀ s, s < m.nx.length → ((m.ot.getD s []).length : Int) = m.inp
  nr : ∀ s a : Nat, s < m.nx.length → (a : Int) < m.inp → 0 ≤ (m.nx.getD s []).getD a 0 ∧ (m.nx.getD s []).getD a 0 < m.nx.length
  or : ∀ s a : Nat, s < m.nx.length → (a : Int) < m.inp → 0 ≤ (m.ot.getD s []).getD a 0 ∧ (m.ot.getD s []).getD a 0 ≤ 1048576

end Go.AV
