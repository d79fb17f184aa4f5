/- Reachable states and trimmed machines. -/
import Derived.Test.YtfakhaagbimljaaDoorLt
set_option linter.unusedSimpArgs false
set_option linter.unusedVariables false
namespace Go.AV

def jQ (l : List Int) (t : Int) : List Int := if t ∈ l then l else l ++ [t]
@[reducible] def Mly.row (m : Mly) (s : Int) : List Int := m.nx.getD s.toNat []
def Mly.rf (m : Mly) : Nat → Nat → List Int → List Int
  | 0, _, l => l
  | f + 1, i, l => if i < l.length then m.rf f (i + 1) ((m.row (l.getD i 0)).foldl jQ l) else l
def Mly.reach (m : Mly) : List Int := if qg m = 0 then m.rf (m.nx.length + 1) 0 [m.st] else []

structure RSet (n : Nat) (l : List Int) : Prop where
  nd : l.Nodup
  rng : ∀ x, x ∈ l → 0 ≤ x ∧ x < n

theorem fH : ∀ (n : Nat) (l : List Int), l.Nodup → (∀ x, x ∈ l → 0 ≤ x ∧ x < n) → l.length ≤ n
  | 0, l, _, h => by
    cases l with
    | nil => simp
    | cons x l => have := h x (by simp); omega
  | n + 1, l, hn, h => by
    have h1 : (l.erase (n : Int)).length ≤ n := by
      refine fH n _ (hn.erase _) fun x hx => ?_
      rw [hn.mem_erase_iff] at hx
      have := h x hx.2
      have : x ≠ n := hx.1
      omega
    have : l.length ≤ (l.erase (n : Int)).length + 1 := by
      rw [List.length_erase]; split <;> omega
    omega
theorem RSet.len {n : Nat} {l : List Int} (h : RSet n l) : l.length ≤ n := fH n l h.nd h.rng
theorem RSet.at_ {n : Nat} {l : List Int} (h : RSet n l) {i : Nat} (hi : i < l.length) : 0 ≤ l.getD i 0 ∧ l.getD i 0 < n := h.rng _ (gF hi)
theorem qD {l : List Int} {t : Int} (h : t ∉ l) : jQ l t = l ++ [t] := by unfold jQ; rw [if_neg h]
theorem RSet.add {n : Nat} {l : List Int} (h : RSet n l) {t : Int} (h0 : 0 ≤ t) (h1 : t < n) : RSet n (jQ l t) := by
  unfold jQ
  split
  · exact h
  · rename_i ht
    refine ⟨?_, fun x hx => ?_⟩
    · rw [List.nodup_append]
      refine ⟨h.nd, by simp, fun a ha b hb => ?_⟩
      simp at hb; subst hb
      intro e; subst e; exact ht ha
    · rcases List.mem_append.1 hx with hx | hx
      · exact h.rng x hx
      · simp at hx; subst hx; exact ⟨h0, h1⟩
theorem RSet.fold {n : Nat} : ∀ {r l : List Int}, RSet n l → (∀ x, x ∈ r → 0 ≤ x ∧ x < n) → RSet n (r.foldl jQ l)
  | [], _, h, _ => h
  | t :: r, l, h, hr => by
    simp only [List.foldl_cons]
    exact RSet.fold (h.add (hr t (by simp)).1 (hr t (by simp)).2) fun x hx => hr x (by simp [hx])
theorem t9 {m : Mly} (hm : MOK m) {s : Int} (h0 : 0 ≤ s) (h1 : s < m.nx.length) : ∀ x, x ∈ m.row s → 0 ≤ x ∧ x < m.nx.length := by
  intro x hx
  obtain ⟨i, hi⟩ := List.getElem?_of_mem hx
  have hl := (List.getElem?_eq_some_iff.1 hi).1
  have := hm.rl s.toNat (by omega)
  have h2 := hm.nr s.toNat i (by omega) (by unfold Mly.row at hl; omega)
  have : (m.nx.getD s.toNat []).getD i 0 = x := by
    unfold Mly.row at hi
    rw [List.getD, hi]; rfl
  rw [this] at h2
  exact h2
theorem RSet.take {m : Mly} (hm : MOK m) {l : List Int} (h : RSet m.nx.length l) {s : Int} (h0 : 0 ≤ s) (h1 : s < m.nx.length) (j : Nat) : RSet m.nx.length (((m.row s).take j).foldl jQ l) :=
  h.fold fun x hx => t9 hm h0 h1 x (List.mem_of_mem_take hx)

def uA (n : Nat) (l : List Int) : Nat → List Int
  | 0 => List.replicate n 0
  | k + 1 => (uA n l k).set (l.getD k 0).toNat (k : Int)
def Mly.num (m : Mly) : List Int := uA m.nx.length m.reach m.reach.length
def Mly.tnx (m : Mly) : List (List Int) := m.reach.map fun s => (m.row s).map fun t => m.num.getD t.toNat 0
def Mly.tot (m : Mly) : List (List Int) := m.reach.map fun s => m.ot.getD s.toNat []
end Go.AV
