/- Words and runs of machines. -/
import Derived.Test.YtdkgcbhbpdbmnaaLs
set_option linter.unusedSimpArgs false
set_option linter.unusedVariables false
namespace Go.AV

/-- The error of a word. -/
def cr (n a : Int) : Prop := a < 0 ∨ n ≤ a
instance (n a : Int) : Decidable (cr n a) := by unfold cr; exact inferInstance
def bH (w : List Int) (n : Int) : Int := if n < 1 ∨ 1024 < n then 2 else if 1024 < w.length then 3 else if ∃ a, a ∈ w ∧ cr n a then 1 else 0
structure WOK (w : List Int) (n : Int) : Prop where
  len : w.length ≤ 1024
  sym : ∀ i : Nat, i < w.length → 0 ≤ w.getD i 0 ∧ w.getD i 0 < n
theorem dO {w : List Int} {i : Nat} (h : i < w.length) : w.getD i 0 ∈ w := by
  simp [List.getD, List.getElem?_eq_getElem h]
theorem jq {w : List Int} {n : Int} (h : bH w n = 0) : WOK w n := by
  unfold bH at h
  split at h
  · omega
  split at h
  · omega
  split at h
  · omega
  rename_i hn
  refine ⟨by omega, fun i hi => ?_⟩
  have : ¬ cr n (w.getD i 0) := fun hb => hn ⟨_, dO hi, hb⟩
  unfold cr at this; omega
theorem fG {w : List Int} {n : Int} (h1 : 1 ≤ n) (h2 : n ≤ 1024) (h3 : w.length ≤ 1024) {i : Nat} (hi : i < w.length) (hb : w.getD i 0 < 0 ∨ n ≤ w.getD i 0) : bH w n = 1 := by
  unfold bH
  rw [if_neg (by omega), if_neg (by omega), if_pos ⟨_, dO hi, hb⟩]
theorem fb {w : List Int} {n : Int} (h1 : 1 ≤ n) (h2 : n ≤ 1024) (h : WOK w n) : bH w n = 0 := by
  unfold bH
  have := h.len
  rw [if_neg (by omega), if_neg (by omega), if_neg ?_]
  rintro ⟨a, ha, hb⟩
  obtain ⟨i, hi⟩ := List.getElem?_of_mem ha
  have hl : i < w.length := (List.getElem?_eq_some_iff.1 hi).1
  have := h.sym i hl
  simp only [List.getD, hi, Option.getD_some] at this
  unfold cr at hb; omega

/-- One step, and a run. -/
def Mly.nxt (m : Mly) (s a : Int) : Int := (m.nx.getD s.toNat []).getD a.toNat 0
def Mly.out (m : Mly) (s a : Int) : Int := (m.ot.getD s.toNat []).getD a.toNat 0
def Mly.go (m : Mly) (s : Int) (w : List Int) : Int × List Int := w.foldl (fun p a => (m.nxt p.1 a, p.2 ++ [m.out p.1 a])) (s, [])
theorem rX (m : Mly) (s : Int) : m.go s [] = (s, []) := rfl
theorem nM (m : Mly) (s : Int) (w : List Int) (a : Int) : m.go s (w ++ [a]) = (m.nxt (m.go s w).1 a, (m.go s w).2 ++ [m.out (m.go s w).1 a]) := by
  simp [Mly.go, List.foldl_append]
theorem iw {w : List Int} {k : Nat} (h : k < w.length) : w.take (k + 1) = w.take k ++ [w.getD k 0] := by
  rw [List.take_add_one, List.getElem?_eq_getElem h]; simp [List.getD, List.getElem?_eq_getElem h]
theorem mL (m : Mly) (s : Int) {w : List Int} {k : Nat} (h : k < w.length) : m.go s (w.take (k + 1)) = (m.nxt (m.go s (w.take k)).1 (w.getD k 0), (m.go s (w.take k)).2 ++ [m.out (m.go s (w.take k)).1 (w.getD k 0)]) := by
  rw [iw h, nM]
theorem ov (m : Mly) (s : Int) (w : List Int) : (m.go s w).2.length = w.length := by
  have : ∀ (w : List Int) (p : Int × List Int), (w.foldl (fun p a => (m.nxt p.1 a, p.2 ++ [m.out p.1 a])) p).2.length = p.2.length + w.length := by
    intro w
    induction w with
    | nil => intro p; simp
    | cons a w ih => intro p; simp only [List.foldl_cons]; rw [ih]; simp; omega
  have := this w (s, [])
  simp only [List.length_nil, Nat.zero_add] at this
  exact this
theorem sR {m : Mly} (hm : MOK m) {s : Int} (h0 : 0 ≤ s) (h1 : s < m.nx.length) {w : List Int} (hw : WOK w m.inp) : ∀ k, k ≤ w.length → 0 ≤ (m.go s (w.take k)).1 ∧ (m.go s (w.take k)).1 < m.nx.length := by
  intro k
  induction k with
  | zero => intro _; simpa [rX] using ⟨h0, h1⟩
  | succ k ih =>
    intro hk
    have := ih (by omega)
    rw [mL m s (by omega)]
    have h2 := hw.sym k (by omega)
    have h3 := hm.nr (m.go s (w.take k)).1.toNat (w.getD k 0).toNat (by omega) (by omega)
    exact h3

def cQ (m : Mly) (s : Int) (w : List Int) : Int :=
  if bl m ≠ 0 then bl m else if s < 0 ∨ (m.nx.length : Int) ≤ s then 2 else bH w m.inp
def ci (m : Mly) (s : Int) (w : List Int) : List Int := if cQ m s w = 0 then (m.go s w).2 else []
def dN (m : Mly) (s : Int) (w : List Int) : Int := if cQ m s w = 0 then (m.go s w).1 else 0
structure SOK (m : Mly) (s : Int) : Prop where
  ok : MOK m
  s0 : 0 ≤ s
  s1 : s < m.nx.length
/-- The place of the first bad symbol, or -1. -/
def ga (w : List Int) (n : Int) : Int := match w.findIdx? (fun a => decide (cr n a)) with | some i => i | none => -1
theorem mN {w : List Int} {n : Int} {k : Nat} (hk : k < w.length) (h : ∀ i, i < k → ¬ cr n (w.getD i 0)) (hb : cr n (w.getD k 0)) : ga w n = k := by
  unfold ga
  have : w.findIdx? (fun a => decide (cr n a)) = some k := by
    rw [List.findIdx?_eq_some_iff_getElem]
    refine ⟨hk, ?_, fun j hj => ?_⟩
    · simpa [List.getD, List.getElem?_eq_getElem hk] using hb
    · have := h j hj
      simpa [List.getD, List.getElem?_eq_getElem (Nat.lt_trans hj hk)] using this
  rw [this]
theorem gP {w : List Int} {n : Int} (h : ∀ i, i < w.length → ¬ cr n (w.getD i 0)) : ga w n = -1 := by
  unfold ga
  have : w.findIdx? (fun a => decide (cr n a)) = none := by
    rw [List.findIdx?_eq_none_iff]
    intro a ha
    obtain ⟨i, hi⟩ := List.getElem?_of_mem ha
    have := h i (List.getElem?_eq_some_iff.1 hi).1
    simpa [List.getD, hi] using this
  rw [this]
theorem jW (w : List Int) (n : Int) : (0 ≤ ga w n ∧ ∃ a, a ∈ w ∧ cr n a) ∨ (ga w n < 0 ∧ ¬ ∃ a, a ∈ w ∧ cr n a) := by
  by_cases h : ∃ a, a ∈ w ∧ cr n a
  · refine .inl ⟨?_, h⟩
    unfold ga
    obtain ⟨a, ha, hb⟩ := h
    cases hf : w.findIdx? (fun a => decide (cr n a)) with
    | some i => simp
    | none =>
      rw [List.findIdx?_eq_none_iff] at hf
      have := hf a ha
      simp [hb] at this
  · refine .inr ⟨?_, h⟩
    rw [gP fun i hi hb => h ⟨_, dO hi, hb⟩]; decide
theorem fv {w : List Int} {n : Int} (h1 : 1 ≤ n) (h2 : n ≤ 1024) (h3 : w.length ≤ 1024) (h : 0 ≤ ga w n) : bH w n = 1 := by
  unfold bH
  rcases jW w n with ⟨_, hs⟩ | ⟨h', _⟩
  · rw [if_neg (by omega), if_neg (by omega), if_pos hs]
  · omega
theorem eh {w : List Int} {n : Int} (h1 : 1 ≤ n) (h2 : n ≤ 1024) (h3 : w.length ≤ 1024) (h : ga w n < 0) : bH w n = 0 := by
  unfold bH
  rcases jW w n with ⟨h', _⟩ | ⟨_, hs⟩
  · omega
  · rw [if_neg (by omega), if_neg (by omega), if_neg hs]

theorem iB {m : Mly} {s : Int} {w : List Int} (h : ¬ bl m = 0) : cQ m s w = bl m := by unfold cQ; rw [if_pos h]
theorem ip {m : Mly} {s : Int} {w : List Int} (h : bl m = 0) (h2 : s < 0 ∨ (m.nx.length : Int) ≤ s) : cQ m s w = 2 := by unfold cQ; rw [if_neg (fun k => k h), if_pos h2]
theorem fZ {m : Mly} {s : Int} {w : List Int} (h : bl m = 0) (h2 : ¬ (s < 0 ∨ (m.nx.length : Int) ≤ s)) : cQ m s w = bH w m.inp := by unfold cQ; rw [if_neg (fun k => k h), if_neg h2]

theorem cO (ls : List (List Int)) {k : Nat} (h : k < ls.length) : (ls.take (k + 1)).flatten = (ls.take k).flatten ++ ls.getD k [] := by
  have e : ls.take (k + 1) = ls.take k ++ [ls.getD k []] := by
    rw [List.take_add_one, List.getElem?_eq_getElem h]; simp [List.getD, List.getElem?_eq_getElem h]
  rw [e, List.flatten_append, List.flatten_cons, List.flatten_nil, List.append_nil]
theorem eX (ls : List (List Int)) (k : Nat) : (ls.take k).flatten.length ≤ ls.flatten.length := by
  have h : ls.flatten = (ls.take k).flatten ++ (ls.drop k).flatten := by rw [← List.flatten_append, List.take_append_drop]
  rw [h, List.length_append]; omega
theorem nG (m : Mly) (s : Int) (u v : List Int) : m.go s (u ++ v) = ((m.go (m.go s u).1 v).1, (m.go s u).2 ++ (m.go (m.go s u).1 v).2) := by
  have key : ∀ (v : List Int) (p : Int × List Int), v.foldl (fun p a => (m.nxt p.1 a, p.2 ++ [m.out p.1 a])) p = ((m.go p.1 v).1, p.2 ++ (m.go p.1 v).2) := by
    intro v
    induction v with
    | nil => intro p; simp [Mly.go]
    | cons a v ih =>
      intro p
      simp only [List.foldl_cons, Mly.go]
      rw [ih, ih]
      simp [Mly.go]
  have h := key v (m.go s u)
  unfold Mly.go at h ⊢
  rw [List.foldl_append]
  exact h

end Go.AV
