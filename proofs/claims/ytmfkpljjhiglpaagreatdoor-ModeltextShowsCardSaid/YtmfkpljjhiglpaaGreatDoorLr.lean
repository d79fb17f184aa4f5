/- Mealy machines as data, and the error of a machine. -/
import Derived.Test.YtmfkpljjhiglpaaGreatDoorLq
set_option linter.unusedSimpArgs false
set_option linter.unusedVariables false
namespace Go.AV

structure Mly where
  inp : Int
  st : Int
  nx : List (List Int)
  ot : List (List Int)

@[reducible] def Mly.av (m : Mly) : AV := .agg [.int .i64 m.inp, .int .i64 m.st, .list (.list (.int .i64)) m.nx, .list (.list (.int .i64)) m.ot]

def aZ (m : Mly) (s a : Nat) : Prop :=
  (m.nx.getD s []).getD a 0 < 0 ∨ (m.nx.length : Int) ≤ (m.nx.getD s []).getD a 0 ∨ (m.ot.getD s []).getD a 0 < 0 ∨ 1048576 < (m.ot.getD s []).getD a 0
def fm (m : Mly) (s : Nat) : Prop := ¬ ((m.nx.getD s []).length : Int) = m.inp ∨ ¬ ((m.ot.getD s []).length : Int) = m.inp
instance (m : Mly) (s a : Nat) : Decidable (aZ m s a) := by unfold aZ; exact inferInstance
instance (m : Mly) (s : Nat) : Decidable (fm m s) := by unfold fm; exact inferInstance

def bZ (f : Nat → Int) : Nat → Int
  | 0 => 0
  | n + 1 => if bZ f n ≠ 0 then bZ f n else f n
theorem aV {f : Nat → Int} {k n : Nat} (h : ∀ i, i < k → f i = 0) (hk : k < n) (hf : f k ≠ 0) : bZ f n = f k := by
  induction n with
  | zero => omega
  | succ n ih =>
    have h0 : ∀ j, j ≤ k → bZ f j = 0 := by
      intro j
      induction j with
      | zero => intro _; rfl
      | succ j ih => intro hj; simp only [bZ, ih (by omega)]; simp [h j (by omega)]
    simp only [bZ]
    by_cases e : n = k
    · subst e; simp [h0 n (Nat.le_refl _)]
    · rw [ih (by omega)]; simp [hf]
theorem bf {f : Nat → Int} {n : Nat} (h : ∀ i, i < n → f i = 0) : bZ f n = 0 := by
  induction n with
  | zero => rfl
  | succ n ih => simp only [bZ, ih fun i hi => h i (by omega)]; simp [h n (by omega)]
theorem fI {f : Nat → Int} {n : Nat} (h : bZ f n = 0) : ∀ i, i < n → f i = 0 := by
  induction n with
  | zero => intro i hi; omega
  | succ n ih =>
    simp only [bZ] at h
    by_cases e : bZ f n = 0
    · simp [e] at h
      intro i hi
      by_cases ei : i = n
      · rw [ei]; exact h
      · exact ih e i (by omega)
    · simp [e] at h

def fU (m : Mly) (s : Nat) : Int := if fm m s then 1 else bZ (fun a => if aZ m s a then 2 else 0) m.inp.toNat
def b0 (m : Mly) : Int :=
  if m.inp < 1 ∨ 64 < m.inp then 2 else if m.nx.length = 0 then 19 else if 128 < m.nx.length then 11
  else if m.st < 0 ∨ (m.nx.length : Int) ≤ m.st then 2 else if m.ot.length ≠ m.nx.length then 1 else bZ (fU m) m.nx.length

structure MOK (m : Mly) : Prop where
  i1 : 1 ≤ m.inp
  i2 : m.inp ≤ 64
  n1 : 1 ≤ m.nx.length
  n2 : m.nx.length ≤ 128
  s1 : 0 ≤ m.st
  s2 : m.st < m.nx.length
  ol : m.ot.length = m.nx.length
  rl : ∀ s, s < m.nx.length → ((m.nx.getD s []).length : Int) = m.inp
  ql : ∀ s, s < m.nx.length → ((m.ot.getD s []).length : Int) = m.inp
  nr : ∀ s a : Nat, s < m.nx.length → (a : Int) < m.inp → 0 ≤ (m.nx.getD s []).getD a 0 ∧ (m.nx.getD s []).getD a 0 < m.nx.length
  or : ∀ s a : Nat, s < m.nx.length → (a : Int) < m.inp → 0 ≤ (m.ot.getD s []).getD a 0 ∧ (m.ot.getD s []).getD a 0 ≤ 1048576

theorem pT {m : Mly} {s : Nat} (h : fU m s = 0) : ((m.nx.getD s []).length : Int) = m.inp ∧ ((m.ot.getD s []).length : Int) = m.inp ∧
    ∀ a : Nat, (a : Int) < m.inp → ¬ aZ m s a := by
  unfold fU at h
  split at h
  · omega
  · rename_i hl
    unfold fm at hl
    refine ⟨by omega, by omega, fun a ha hb => ?_⟩
    have := fI h a (by omega)
    simp [hb] at this

theorem iI {m : Mly} {s : Nat} (h1 : ((m.nx.getD s []).length : Int) = m.inp) (h2 : ((m.ot.getD s []).length : Int) = m.inp) (h3 : ∀ a : Nat, (a : Int) < m.inp → ¬ aZ m s a) : fU m s = 0 := by
  unfold fU
  rw [if_neg (by unfold fm; omega)]
  exact bf fun a ha => by rw [if_neg (h3 a (by omega))]
theorem bv {m : Mly} {s : Nat} (h : ¬ ((m.nx.getD s []).length : Int) = m.inp ∨ ¬ ((m.ot.getD s []).length : Int) = m.inp) : fU m s = 1 := by
  unfold fU
  rw [if_pos (show fm m s from h)]
theorem bu {m : Mly} {s j : Nat} (h1 : ((m.nx.getD s []).length : Int) = m.inp) (h2 : ((m.ot.getD s []).length : Int) = m.inp) (hj : (j : Int) < m.inp) (hb : aZ m s j) : fU m s = 2 := by
  have : ∀ n : Nat, j < n → bZ (fun a => if aZ m s a then 2 else 0) n = 2 := by
    intro n
    induction n with
    | zero => intro h; omega
    | succ n ih =>
      intro h
      simp only [bZ]
      by_cases e : n = j
      · subst e
        split
        · rename_i hne
          have : ∀ k : Nat, bZ (fun a => if aZ m s a then 2 else 0) k = 0 ∨ bZ (fun a => if aZ m s a then 2 else 0) k = 2 := by
            intro k
            induction k with
            | zero => exact .inl rfl
            | succ k ih2 =>
              simp only [bZ]
              split
              · exact ih2
              · split
                · exact .inr rfl
                · exact .inl rfl
          rcases this n with h0 | h0
          · exact absurd h0 hne
          · exact h0
        · simp [hb]
      · rw [ih (by omega)]; simp
  unfold fU
  rw [if_neg (by unfold fm; omega)]
  exact this _ (by omega)

theorem gO {m : Mly} (h : b0 m = 0) : MOK m := by
  unfold b0 at h
  split at h
  · omega
  split at h
  · omega
  split at h
  · omega
  split at h
  · omega
  split at h
  · omega
  have hr := fun s (hs : s < m.nx.length) => pT (fI h s hs)
  refine ⟨by omega, by omega, by omega, by omega, by omega, by omega, by omega, fun s hs => (hr s hs).1, fun s hs => (hr s hs).2.1, fun s a hs ha => ?_, fun s a hs ha => ?_⟩
  · have := (hr s hs).2.2 a ha; unfold aZ at this; omega
  · have := (hr s hs).2.2 a ha; unfold aZ at this; omega

end Go.AV
