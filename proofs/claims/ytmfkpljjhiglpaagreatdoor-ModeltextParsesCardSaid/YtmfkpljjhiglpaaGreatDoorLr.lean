/- Mealy machines as data, and the error of a machine. -/
import Derived.Test.YtmfkpljjhiglpaaGreatDoorLq
set_option linter.unusedSimpArgs false
set_option linter.unusedVariables false
namespace Go.AV

structure Mly where
  inp : Int
  st : Int
  nx : List (List Int)
  ot : List (List Int)

@[reducible] def Mly.av (m : Mly) : AV := .agg [.int .i64 m.inp, .int .i64 m.st, .list (.list (.int .i64)) m.nx, .list (.list (.int .i64)) m.ot]

def bu (m : Mly) (s a : Nat) : Prop :=
  (m.nx.getD s []).getD a 0 < 0 ∨ (m.nx.length : Int) ≤ (m.nx.getD s []).getD a 0 ∨ (m.ot.getD s []).getD a 0 < 0 ∨ 1048576 < (m.ot.getD s []).getD a 0
def gK (m : Mly) (s : Nat) : Prop := ¬ ((m.nx.getD s []).length : Int) = m.inp ∨ ¬ ((m.ot.getD s []).length : Int) = m.inp
instance (m : Mly) (s a : Nat) : Decidable (bu m s a) := by unfold bu; exact inferInstance
instance (m : Mly) (s : Nat) : Decidable (gK m s) := by unfold gK; exact inferInstance

def cp (f : Nat → Int) : Nat → Int
  | 0 => 0
  | n + 1 => if cp f n ≠ 0 then cp f n else f n
theorem bC {f : Nat → Int} {k n : Nat} (h : ∀ i, i < k → f i = 0) (hk : k < n) (hf : f k ≠ 0) : cp f n = f k := by
  induction n with
  | zero => omega
  | succ n ih =>
    have h0 : ∀ j, j ≤ k → cp f j = 0 := by
      intro j
      induction j with
      | zero => intro _; rfl
      | succ j ih => intro hj; simp only [cp, ih (by omega)]; simp [h j (by omega)]
    simp only [cp]
    by_cases e : n = k
    · subst e; simp [h0 n (Nat.le_refl _)]
    · rw [ih (by omega)]; simp [hf]
theorem bW {f : Nat → Int} {n : Nat} (h : ∀ i, i < n → f i = 0) : cp f n = 0 := by
  induction n with
  | zero => rfl
  | succ n ih => simp only [cp, ih fun i hi => h i (by omega)]; simp [h n (by omega)]
theorem gP {f : Nat → Int} {n : Nat} (h : cp f n = 0) : ∀ i, i < n → f i = 0 := by
  induction n with
  | zero => intro i hi; omega
  | succ n ih =>
    simp only [cp] at h
    by_cases e : cp f n = 0
    · simp [e] at h
      intro i hi
      by_cases ei : i = n
      · rw [ei]; exact h
      · exact ih e i (by omega)
    · simp [e] at h

def jc (m : Mly) (s : Nat) : Int := if gK m s then 1 else cp (fun a => if bu m s a then 2 else 0) m.inp.toNat
def bJ (m : Mly) : Int :=
  if m.inp < 1 ∨ 64 < m.inp then 2 else if m.nx.length = 0 then 19 else if 128 < m.nx.length then 11
  else if m.st < 0 ∨ (m.nx.length : Int) ≤ m.st then 2 else if m.ot.length ≠ m.nx.length then 1 else cp (jc m) m.nx.length

structure MOK (m : Mly) : Prop where
  i1 : 1 ≤ m.inp
  i2 : m.inp ≤ 64
  n1 : 1 ≤ m.nx.length
  n2 : m.nx.length ≤ 128
  s1 : 0 ≤ m.st
  s2 : m.st < m.nx.length
  ol : m.ot.length = m.nx.length
  rl : ∀ s, s < m.nx.length → ((m.nx.getD s []).length : Int) = m.inp
  ql : ∀ s, s < m.nx.length → ((m.ot.getD s []).length : Int) = m.inp
  nr : ∀ s a : Nat, s < m.nx.length → (a : Int) < m.inp → 0 ≤ (m.nx.getD s []).getD a 0 ∧ (m.nx.getD s []).getD a 0 < m.nx.length
  or : ∀ s a : Nat, s < m.nx.length → (a : Int) < m.inp → 0 ≤ (m.ot.getD s []).getD a 0 ∧ (m.ot.getD s []).getD a 0 ≤ 1048576

theorem rK {m : Mly} {s : Nat} (h : jc m s = 0) : ((m.nx.getD s []).length : Int) = m.inp ∧ ((m.ot.getD s []).length : Int) = m.inp ∧
    ∀ a : Nat, (a : Int) < m.inp → ¬ bu m s a := by
  unfold jc at h
  split at h
  · omega
  · rename_i hl
    unfold gK at hl
    refine ⟨by omega, by omega, fun a ha hb => ?_⟩
    have := gP h a (by omega)
    simp [hb] at this

theorem uP {m : Mly} {s : Nat} (h1 : ((m.nx.getD s []).length : Int) = m.inp) (h2 : ((m.ot.getD s []).length : Int) = m.inp) (h3 : ∀ a : Nat, (a : Int) < m.inp → ¬ bu m s a) : jc m s = 0 := by
  unfold jc
  rw [if_neg (by unfold gK; omega)]
  exact bW fun a ha => by rw [if_neg (h3 a (by omega))]
theorem bQ {m : Mly} {s : Nat} (h : ¬ ((m.nx.getD s []).length : Int) = m.inp ∨ ¬ ((m.ot.getD s []).length : Int) = m.inp) : jc m s = 1 := by
  unfold jc
  rw [if_pos (show gK m s from h)]
theorem bS {m : Mly} {s j : Nat} (h1 : ((m.nx.getD s []).length : Int) = m.inp) (h2 : ((m.ot.getD s []).length : Int) = m.inp) (hj : (j : Int) < m.inp) (hb : bu m s j) : jc m s = 2 := by
  have : ∀ n : Nat, j < n → cp (fun a => if bu m s a then 2 else 0) n = 2 := by
    intro n
    induction n with
    | zero => intro h; omega
    | succ n ih =>
      intro h
      simp only [cp]
      by_cases e : n = j
      · subst e
        split
        · rename_i hne
          have : ∀ k : Nat, cp (fun a => if bu m s a then 2 else 0) k = 0 ∨ cp (fun a => if bu m s a then 2 else 0) k = 2 := by
            intro k
            induction k with
            | zero => exact .inl rfl
            | succ k ih2 =>
              simp only [cp]
              split
              · exact ih2
              · split
                · exact .inr rfl
                · exact .inl rfl
          rcases this n with h0 | h0
          · exact absurd h0 hne
          · exact h0
        · simp [hb]
      · rw [ih (by omega)]; simp
  unfold jc
  rw [if_neg (by unfold gK; omega)]
  exact this _ (by omega)

theorem pH {m : Mly} (h : bJ m = 0) : MOK m := by
  unfold bJ at h
  split at h
  · omega
  split at h
  · omega
  split at h
  · omega
  split at h
  · omega
  split at h
  · omega
  have hr := fun s (hs : s < m.nx.length) => rK (gP h s hs)
  refine ⟨by omega, by omega, by omega, by omega, by omega, by omega, by omega, fun s hs => (hr s hs).1, fun s hs => (hr s hs).2.1, fun s a hs ha => ?_, fun s a hs ha => ?_⟩
  · have := (hr s hs).2.2 a ha; unfold bu at this; omega
  · have := (hr s hs).2.2 a ha; unfold bu at this; omega

end Go.AV
