/- Contracts of functions of this seat, each out of a walk through its code, and plain facts on what they compute. Conditions: those that each theorem names. -/
import Derived.Test.YtgmgnkmgofkfpaaDoorTz
import Derived.Lib.ItoaNum
import Derived.Lib.Join
import Derived.Shelf.Lay
import Derived.Shelf.Slices.CompactI
import Derived.Shelf.Sort.Plain
set_option linter.unusedSimpArgs false
set_option linter.unusedVariables false
namespace Go.AV
theorem zB : (∀ (p : Prop) [Decidable p], (decide p = true) = p) ∧ (∀ (p : Prop) [Decidable p], (decide p = false) = ¬p) ∧ ((!true) = false) ∧ ((!false) = true) ∧ (∀ b : Bool, (¬(b = true)) = (b = false)) ∧ (∀ b : Bool, (¬(b = false)) = (b = true)) ∧ (∀ a b : Bool, ((!a) = b) = (a = !b)) ∧ (∀ a b : Int, ¬a < b ↔ b ≤ a) ∧ (∀ a b : Int, ¬a ≤ b ↔ b < a) ∧ ((true = false) = False) ∧ ((false = true) = False) ∧ (∀ {α : Sort 1} (a b : α), (a ≠ b) = ¬(a = b)) ∧ (∀ (p : Prop) [Decidable p], ¬¬p ↔ p) ∧ (∀ b : Bool, ((!b) = true) = (b = false)) ∧ (∀ {α : Type} [BEq α] [LawfulBEq α] {a b : α}, (a != b) = true ↔ a ≠ b) ∧ (∀ a b : Bool, ((a || b) = true) = (a = true ∨ b = true)) ∧ (∀ a b : Bool, ((a && b) = true) = (a = true ∧ b = true)) ∧ (∀ a b : Bool, ((a || b) = false) = (a = false ∧ b = false)) ∧ (∀ a b : Bool, ((a && b) = false) = (a = false ∨ b = false)) :=
  ⟨fun p _ => decide_eq_true_eq, fun p _ => by simp, rfl, rfl, by simp, by simp, by decide, fun a b => Int.not_lt, fun a b => Int.not_le, by simp, by simp, fun _ _ => rfl, fun p _ => Decidable.not_not, by simp, bne_iff_ne, by simp, by simp, by simp, by simp⟩
theorem zS {α : Type} : (∀ (a b : α) (l : List α), (a :: l).set 0 b = b :: l) ∧ ∀ (a b : α) (n : Nat) (l : List α), (a :: l).set (n + 1) b = a :: l.set n b := ⟨fun _ _ _ => rfl, fun _ _ _ _ => rfl⟩
end Go.AV
namespace Go.Proofs.YtgmgnkmgofkfpaaDoor
open Go Go.AV
open Nat renaming reduceEqDiff → E, reduceAdd → D, reduceLeDiff → J, reduceLT → Y, reduceMul → U, reduceSub → V
open List renaming set_cons_zero → aq, set_cons_succ → ao
def Mof (d : Int × (Int × (List (List Int) × (List (List Int) × Unit)))) : Mly := ⟨d.1, d.2.1, d.2.2.1, d.2.2.2.1⟩
end Go.Proofs.YtgmgnkmgofkfpaaDoor
namespace Go.AV
open Nat renaming reduceEqDiff → E, reduceAdd → D, reduceLeDiff → J, reduceLT → Y, reduceMul → U, reduceSub → V
open List renaming set_cons_zero → aq, set_cons_succ → ao
/-plain-/
/-! ### classes of states -/
def Mly.sigP (m : Mly) (cl : List Int) (a s : Nat) : List Int := (List.range 128).map fun i =>
  if i < a then (m.ot.getD s []).getD i 0 else if 64 ≤ i ∧ i < 64 + a then cl.getD ((m.nx.getD s []).getD (i - 64) 0).toNat 0 else 0
def Mly.sig (m : Mly) (cl : List Int) (s : Nat) : List Int := m.sigP cl m.inp.toNat s
def Mly.nextL (m : Mly) (cl : List Int) : List Int := (List.range m.nx.length).map fun s => (pos (p8 (m.sig cl) m.nx.length) (m.sig cl s) : Int)
def Mly.cls (m : Mly) : Nat → List Int
  | 0 => List.replicate m.nx.length 0
  | i + 1 => m.nextL (m.cls i)
/-! ### how many classes -/
structure STAB (m : Mly) (c : List Int) : Prop where
  len : c.length = m.nx.length
  rng : ∀ s, s < m.nx.length → 0 ≤ c.getD s 0 ∧ c.getD s 0 < m.nx.length
  step : ∀ s t : Nat, s < m.nx.length → t < m.nx.length → c.getD s 0 = c.getD t 0 → ∀ a : Nat, (a : Int) < m.inp →
    (m.ot.getD s []).getD a 0 = (m.ot.getD t []).getD a 0 ∧ c.getD ((m.nx.getD s []).getD a 0).toNat 0 = c.getD ((m.nx.getD t []).getD a 0).toNat 0
/-! ### equivalent states -/
def EQV (m : Mly) (s t : Int) : Prop := ∀ w : List Int, (∀ i : Nat, i < w.length → 0 ≤ w.getD i 0 ∧ w.getD i 0 < m.inp) → (m.go s w).2 = (m.go t w).2
end Go.AV
namespace Go.AV
open Nat renaming reduceEqDiff → E, reduceAdd → D, reduceLeDiff → J, reduceLT → Y, reduceMul → U, reduceSub → V
open List renaming set_cons_zero → aq, set_cons_succ → ao
/-plain-/
/-! ### the search through pairs of states -/
abbrev S3 := Int × Int × List Int
def inS (l : List S3) (p q : Int) : Bool := l.any fun f => decide (f.1 = p) && decide (f.2.1 = q)
def stS (a b : Mly) (e : S3) (l : List S3) (x : Nat) : List S3 := if inS l (a.nxt e.1 x) (b.nxt e.2.1 x) = true then l else l ++ [(a.nxt e.1 x, b.nxt e.2.1 x, e.2.2 ++ [(x : Int)])]
def gP (a b : Mly) (e : S3) (l : List S3) (x : Nat) : List S3 := (List.range x).foldl (stS a b e) l
def eS0 : S3 := (0, 0, [])
theorem oU {l : List S3} {p q : Int} : inS l p q = true ↔ ∃ e, e ∈ l ∧ e.1 = p ∧ e.2.1 = q := by
  simp [inS, List.any_eq_true]
theorem j4 (a b : Mly) (e : S3) (l : List S3) (x : Nat) : gP a b e l (x + 1) = stS a b e (gP a b e l x) x := by
  unfold gP; rw [List.range_succ, List.foldl_append]; rfl
theorem ou (a b : Mly) (e : S3) (l : List S3) (x : Nat) : ∃ k, stS a b e l x = l ++ k := by
  unfold stS
  split
  · exact ⟨[], by simp⟩
  · exact ⟨_, rfl⟩
theorem kA (a b : Mly) (e : S3) (l : List S3) : ∀ x, ∃ k, gP a b e l x = l ++ k
  | 0 => ⟨[], by simp [gP]⟩
  | x + 1 => by
    obtain ⟨k1, h1⟩ := kA a b e l x
    obtain ⟨k2, h2⟩ := ou a b e (gP a b e l x) x
    exact ⟨k1 ++ k2, by rw [j4, h2, h1, List.append_assoc]⟩
theorem oq (a b : Mly) (e : S3) (l : List S3) (x : Nat) : l.length ≤ (gP a b e l x).length := by
  obtain ⟨k, hk⟩ := kA a b e l x
  rw [hk]; simp

structure WFS (a b : Mly) (l : List S3) : Prop where
  rng : ∀ e, e ∈ l → (0 ≤ e.1 ∧ e.1 < a.nx.length) ∧ 0 ≤ e.2.1 ∧ e.2.1 < b.nx.length
  len : ∀ e, e ∈ l → e.2.2.length ≤ l.length
  nd : (l.map fun e => e.1 * (b.nx.length : Int) + e.2.1).Nodup
theorem WFS.at_ {a b : Mly} {l : List S3} (h : WFS a b l) {i : Nat} (hi : i < l.length) : (0 ≤ (l.getD i eS0).1 ∧ (l.getD i eS0).1 < a.nx.length) ∧ 0 ≤ (l.getD i eS0).2.1 ∧ (l.getD i eS0).2.1 < b.nx.length := by
  refine h.rng _ ?_
  simp [List.getD, hi]
theorem WFS.wl {a b : Mly} {l : List S3} (h : WFS a b l) {i : Nat} (hi : i < l.length) : (l.getD i eS0).2.2.length ≤ l.length := by
  refine h.len _ ?_
  simp [List.getD, hi]
theorem lT {p q n m : Int} (hp : 0 ≤ p ∧ p < n) (hq : 0 ≤ q ∧ q < m) : 0 ≤ p * m + q ∧ p * m + q < n * m := by
  have h1 : 0 ≤ p * m := Int.mul_nonneg hp.1 (by omega)
  have h2 : (p + 1) * m ≤ n * m := Int.mul_le_mul_of_nonneg_right (by omega) (by omega)
  rw [Int.add_mul, Int.one_mul] at h2
  omega
theorem ke {p q p' q' m : Int} (hq : 0 ≤ q ∧ q < m) (hq' : 0 ≤ q' ∧ q' < m) (e : p * m + q = p' * m + q') : p = p' ∧ q = q' := by
  have h1 : (p * m + q) / m = p := by rw [Int.add_comm, Int.add_mul_ediv_right _ _ (by omega), Int.ediv_eq_zero_of_lt hq.1 hq.2]; omega
  have h2 : (p' * m + q') / m = p' := by rw [Int.add_comm, Int.add_mul_ediv_right _ _ (by omega), Int.ediv_eq_zero_of_lt hq'.1 hq'.2]; omega
  have : p = p' := by rw [← h1, ← h2, e]
  subst this
  exact ⟨rfl, by omega⟩
theorem WFS.le {a b : Mly} {l : List S3} (h : WFS a b l) : l.length ≤ a.nx.length * b.nx.length := by
  have := eP (a.nx.length * b.nx.length) _ h.nd (fun x hx => by
    obtain ⟨e, he, rfl⟩ := List.mem_map.1 hx
    have hr := h.rng e he
    have := lT hr.1 hr.2
    rw [Int.natCast_mul]; exact this)
  simpa using this
theorem WFS.step {a b : Mly} (ha : MOK a) (hb : MOK b) (hi : a.inp = b.inp) {l : List S3} (h : WFS a b l) {e : S3} (he : (0 ≤ e.1 ∧ e.1 < a.nx.length) ∧ 0 ≤ e.2.1 ∧ e.2.1 < b.nx.length) (hw : e.2.2.length ≤ l.length) {x : Nat} (hx : (x : Int) < a.inp) : WFS a b (stS a b e l x) := by
  unfold stS
  split
  · exact h
  · rename_i hn
    have n1 := ha.nr e.1.toNat x (by omega) hx
    have n2 := hb.nr e.2.1.toNat x (by omega) (by omega)
    have n1' : 0 ≤ a.nxt e.1 x ∧ a.nxt e.1 x < a.nx.length := by simpa [Mly.nxt] using n1
    have n2' : 0 ≤ b.nxt e.2.1 x ∧ b.nxt e.2.1 x < b.nx.length := by simpa [Mly.nxt] using n2
    refine ⟨fun f hf => ?_, fun f hf => ?_, ?_⟩
    · rcases List.mem_append.1 hf with hf | hf
      · exact h.rng f hf
      · simp at hf; subst hf; exact ⟨n1', n2'⟩
    · simp only [List.length_append, List.length_cons, List.length_nil]
      rcases List.mem_append.1 hf with hf | hf
      · have := h.len f hf; omega
      · simp at hf; subst hf; simp; omega
    · rw [List.map_append, List.nodup_append]
      refine ⟨h.nd, by simp, fun u hu v hv => ?_⟩
      simp at hv; subst hv
      intro e'
      obtain ⟨f, hf, rfl⟩ := List.mem_map.1 hu
      have hr := h.rng f hf
      obtain ⟨e1, e2⟩ := ke hr.2 n2' e'
      exact hn (oU.2 ⟨f, hf, e1, e2⟩)
theorem WFS.row {a b : Mly} (ha : MOK a) (hb : MOK b) (hi : a.inp = b.inp) {l : List S3} (h : WFS a b l) {i : Nat} (hil : i < l.length) : ∀ x : Nat, (x : Int) ≤ a.inp → WFS a b (gP a b (l.getD i eS0) l x)
  | 0, _ => by simpa [gP] using h
  | x + 1, hx => by
    rw [j4]
    have h1 := WFS.row ha hb hi h hil x (by omega)
    have h2 := oq a b (l.getD i eS0) l x
    have h3 := h.wl hil
    exact h1.step ha hb hi (h.at_ hil) (by omega) (by omega)
theorem mE {p : Nat → Bool} {n : Nat} (h : ∀ x, x < n → p x = false) : (List.range n).find? p = none := by
  rw [List.find?_eq_none]
  intro x hx
  have := h x (by simpa using hx)
  simp [this]
theorem mw {p : Nat → Bool} {n x : Nat} (hx : x < n) (hp : p x = true) (h : ∀ y, y < x → p y = false) : (List.range n).find? p = some x := by
  rw [List.find?_eq_some_iff_getElem]
  refine ⟨hp, x, by simpa using hx, by simp, fun j hj => ?_⟩
  simp [h j hj]
/-! ### what it means -/
def EQ2 (a b : Mly) (s t : Int) : Prop := ∀ w : List Int, (∀ i : Nat, i < w.length → 0 ≤ w.getD i 0 ∧ w.getD i 0 < a.inp) → (a.go s w).2 = (b.go t w).2
structure TRS (a b : Mly) (s t : Int) (e : S3) : Prop where
  sy : ∀ i : Nat, i < e.2.2.length → 0 ≤ e.2.2.getD i 0 ∧ e.2.2.getD i 0 < a.inp
  l : (a.go s e.2.2).1 = e.1
  r : (b.go t e.2.2).1 = e.2.1
  o : (a.go s e.2.2).2 = (b.go t e.2.2).2
end Go.AV
namespace Go.AV
open Nat renaming reduceEqDiff → E, reduceAdd → D, reduceLeDiff → J, reduceLT → Y, reduceMul → U, reduceSub → V
open List renaming set_cons_zero → aq, set_cons_succ → ao
/-plain-/
/-! ### lists of classes -/
def cN (cl : List Int) : Nat → Int
  | 0 => 0
  | k + 1 => max (cN cl k) (cl.getD k 0 + 1)
def fb (cl : List Int) (k : Nat) : Bool := decide (cl.getD k 0 < 0) || decide (cN cl k < cl.getD k 0)
def dm (cl : List Int) : Int := if cl.length < 1 ∨ 64 < cl.length then 2 else if (List.range cl.length).any (fb cl) = true then 1 else 0
def jz (cl : List Int) : Int := if dm cl = 0 then cN cl cl.length else 0
theorem oL {cl : List Int} {k : Nat} (h1 : 0 ≤ cl.getD k 0) (h2 : cl.getD k 0 ≤ cN cl k) : fb cl k = false := by
  unfold fb; rw [decide_eq_false (by omega), decide_eq_false (by omega)]; rfl
theorem nP {cl : List Int} {k : Nat} (h : cl.getD k 0 < 0 ∨ cN cl k < cl.getD k 0) : fb cl k = true := by
  unfold fb; simp only [Bool.or_eq_true, decide_eq_true_eq]; exact h
theorem gh {cl : List Int} (h : cl.length < 1 ∨ 64 < cl.length) : dm cl = 2 := by unfold dm; rw [if_pos h]
theorem ii {cl : List Int} (h : ¬ (cl.length < 1 ∨ 64 < cl.length)) {k : Nat} (hk : k < cl.length) (hb : fb cl k = true) : dm cl = 1 := by
  unfold dm; rw [if_neg h, if_pos (List.any_eq_true.2 ⟨k, by simpa using hk, hb⟩)]
theorem jF {cl : List Int} (h : ¬ (cl.length < 1 ∨ 64 < cl.length)) (hb : ∀ k, k < cl.length → fb cl k = false) : dm cl = 0 := by
  unfold dm; rw [if_neg h, if_neg]
  intro hh
  obtain ⟨k, hk, hc⟩ := List.any_eq_true.1 hh
  rw [hb k (by simpa using hk)] at hc
  cases hc
theorem qs {cl : List Int} {k : Nat} (hb : ∀ q, q < k → fb cl q = false) : 0 ≤ cN cl k ∧ cN cl k ≤ k := by
  induction k with
  | zero => exact ⟨Int.le_refl _, Int.le_refl _⟩
  | succ k ih =>
    have h1 := ih fun q hq => hb q (by omega)
    have := hb k (by omega)
    simp only [fb, Bool.or_eq_false_iff, decide_eq_false_iff_not] at this
    simp only [cN]; omega
structure COK (m : Mly) (cl : List Int) : Prop where
  ok : MOK m
  ce : dm cl = 0
  len : (cl.length : Int) = m.inp
/-! ### states with their access words -/
abbrev S2 := Int × List Int
def eX0 : S2 := (0, [])
def gF (l : List S2) : List Int := l.map (·.1)
def stX (m : Mly) (e : S2) (l : List S2) (x : Nat) : List S2 := if (m.row e.1).getD x 0 ∈ gF l then l else l ++ [((m.row e.1).getD x 0, e.2 ++ [(x : Int)])]
def gG (m : Mly) (e : S2) (l : List S2) (x : Nat) : List S2 := (List.range x).foldl (stX m e) l
theorem jy (m : Mly) (e : S2) (l : List S2) (x : Nat) : gG m e l (x + 1) = stX m e (gG m e l x) x := by
  unfold gG; rw [List.range_succ, List.foldl_append]; rfl
theorem oJ (m : Mly) (e : S2) (l : List S2) (x : Nat) : ∃ k, stX m e l x = l ++ k := by
  unfold stX
  split
  · exact ⟨[], by simp⟩
  · exact ⟨_, rfl⟩
theorem jY (m : Mly) (e : S2) (l : List S2) : ∀ x, ∃ k, gG m e l x = l ++ k
  | 0 => ⟨[], by simp [gG]⟩
  | x + 1 => by
    obtain ⟨k1, h1⟩ := jY m e l x
    obtain ⟨k2, h2⟩ := oJ m e (gG m e l x) x
    exact ⟨k1 ++ k2, by rw [jy, h2, h1, List.append_assoc]⟩
theorem oZ (m : Mly) (e : S2) (l : List S2) (x : Nat) : l.length ≤ (gG m e l x).length := by
  obtain ⟨k, hk⟩ := jY m e l x
  rw [hk]; simp
structure WFX (m : Mly) (l : List S2) : Prop where
  rs : RSet m.nx.length (gF l)
  wl : ∀ e, e ∈ l → e.2.length ≤ l.length
theorem km (l : List S2) : (gF l).length = l.length := by simp [gF]
theorem p3 {l : List S2} {i : Nat} (h : i < l.length) : (gF l).getD i 0 = (l.getD i eX0).1 := by simp [gF, List.getD, h]
theorem WFX.le {m : Mly} {l : List S2} (h : WFX m l) : l.length ≤ m.nx.length := by have := h.rs.len; rwa [km] at this
theorem WFX.at_ {m : Mly} {l : List S2} (h : WFX m l) {i : Nat} (hi : i < l.length) : 0 ≤ (l.getD i eX0).1 ∧ (l.getD i eX0).1 < m.nx.length := by
  rw [← p3 hi]; exact h.rs.at_ (by rw [km]; exact hi)
theorem re {l : List S2} {i : Nat} (h : i < l.length) : l.getD i eX0 ∈ l := by simp [List.getD, h]
theorem WFX.step {m : Mly} (hm : MOK m) {l : List S2} (h : WFX m l) {e : S2} (he : 0 ≤ e.1 ∧ e.1 < m.nx.length) (hw : e.2.length ≤ l.length) {x : Nat} (hx : (x : Int) < m.inp) : WFX m (stX m e l x) := by
  unfold stX
  split
  · exact h
  · rename_i hn
    have n1 := hm.nr e.1.toNat x (by omega) hx
    refine ⟨?_, fun f hf => ?_⟩
    · have e1 : gF (l ++ [((m.row e.1).getD x 0, e.2 ++ [(x : Int)])]) = iw (gF l) ((m.row e.1).getD x 0) := by rw [nN hn]; simp [gF]
      rw [e1]
      exact h.rs.add n1.1 n1.2
    · simp only [List.length_append, List.length_cons, List.length_nil]
      rcases List.mem_append.1 hf with hf | hf
      · have := h.wl f hf; omega
      · simp at hf; subst hf; simp; omega
theorem WFX.row {m : Mly} (hm : MOK m) {l : List S2} (h : WFX m l) {i : Nat} (hil : i < l.length) : ∀ x : Nat, (x : Int) ≤ m.inp → WFX m (gG m (l.getD i eX0) l x)
  | 0, _ => by simpa [gG] using h
  | x + 1, hx => by
    rw [jy]
    have h1 := WFX.row hm h hil x (by omega)
    have h2 := oZ m (l.getD i eX0) l x
    have h3 := h.wl _ (re hil)
    exact h1.step hm (h.at_ hil) (by omega) (by omega)
/-! ### inputs that agree -/
/-! ### numbers of classes -/
def oO (p : Int → Bool) (xs : List Int) : Int := match xs.findIdx? p with | some i => (i : Int) | none => -1
/-- The numbers so far, and the first element of each class. -/
def nmS (T : Nat → Nat → Bool) : Nat → List Int × List Int
  | 0 => ([], [])
  | c + 1 => if oO (fun d => T d.toNat c) (nmS T c).2 < 0 then ((nmS T c).1 ++ [((nmS T c).2.length : Int)], (nmS T c).2 ++ [(c : Int)])
    else ((nmS T c).1 ++ [oO (fun d => T d.toNat c) (nmS T c).2], (nmS T c).2)
end Go.AV
namespace Go.AV
open Nat renaming reduceEqDiff → E, reduceAdd → D, reduceLeDiff → J, reduceLT → Y, reduceMul → U, reduceSub → V
open List renaming set_cons_zero → aq, set_cons_succ → ao
/-plain-/
/-! ### numbers of classes: an equivalence, and the list that a least member gives -/
structure EQT (T : Nat → Nat → Bool) (n : Nat) : Prop where
  rf : ∀ a, a < n → T a a = true
  sy : ∀ a b, a < n → b < n → T a b = true → T b a = true
  tr : ∀ a b c, a < n → b < n → c < n → T a b = true → T b c = true → T a c = true
structure NMP (T : Nat → Nat → Bool) (c : Nat) : Prop where
  at_ : ∀ q, q < c → 0 ≤ (nmS T c).1.getD q 0 ∧ (nmS T c).1.getD q 0 < (nmS T c).2.length ∧ T ((nmS T c).2.getD ((nmS T c).1.getD q 0).toNat 0).toNat q = true
  ap : ∀ x y, x < y → y < (nmS T c).2.length → T ((nmS T c).2.getD x 0).toNat ((nmS T c).2.getD y 0).toNat = false
end Go.AV
namespace Go.AV
open Nat renaming reduceEqDiff → E, reduceAdd → D, reduceLeDiff → J, reduceLT → Y, reduceMul → U, reduceSub → V
open List renaming set_cons_zero → aq, set_cons_succ → ao
/-plain-/
structure Dfa where
  inp : Int
  st : Int
  nx : List (List Int)
  acc : List Bool
def Dfa.av (d : Dfa) : AV := .agg [.int .i64 d.inp, .int .i64 d.st, .list (.list (.int .i64)) d.nx, .list .bool d.acc]
def Dfa.row (d : Dfa) (s : Int) : List Int := d.nx.getD s.toNat []
def Dfa.dl (d : Dfa) (s a : Int) : Int := (d.row s).getD a.toNat 0
def Dfa.ac (d : Dfa) (s : Int) : Bool := d.acc.getD s.toNat false
def Dfa.run (d : Dfa) (s : Int) (w : List Int) : Int := w.foldl (fun s a => d.dl s a) s
def pB (n : Int) (t : Int) : Bool := decide (t < 0) || decide (n ≤ t)
def rM (d : Dfa) (s : Nat) : Int := if ¬ ((d.row s).length : Int) = d.inp then 1 else if 0 ≤ oO (pB d.nx.length) (d.row s) then 2 else 0
def cZ (d : Dfa) : Int := if d.inp < 1 ∨ 1024 < d.inp then 2 else if d.nx.length = 0 then 19 else if 128 < d.nx.length then 11 else if d.st < 0 ∨ (d.nx.length : Int) ≤ d.st then 2 else if ¬ d.acc.length = d.nx.length then 1 else cu (rM d) d.nx.length
structure DOK (d : Dfa) : Prop where
  i1 : 1 ≤ d.inp
  i2 : d.inp ≤ 1024
  n1 : 1 ≤ d.nx.length
  n2 : d.nx.length ≤ 128
  s1 : 0 ≤ d.st
  s2 : d.st < d.nx.length
  al : d.acc.length = d.nx.length
  rl : ∀ s : Nat, s < d.nx.length → ((d.row s).length : Int) = d.inp
  cl : ∀ s a : Nat, s < d.nx.length → (a : Int) < d.inp → 0 ≤ (d.row s).getD a 0 ∧ (d.row s).getD a 0 < d.nx.length
theorem DOK.dl {d : Dfa} (h : DOK d) {s a : Int} (hs : 0 ≤ s ∧ s < d.nx.length) (ha : 0 ≤ a ∧ a < d.inp) : 0 ≤ d.dl s a ∧ d.dl s a < d.nx.length := by
  have := h.cl s.toNat a.toNat (by omega) (by omega)
  unfold Dfa.dl
  have e : d.row (s.toNat : Int) = d.row s := by unfold Dfa.row; rw [Int.toNat_natCast]
  rw [e] at this; exact this
theorem DOK.rli {d : Dfa} (h : DOK d) {s : Int} (hs : 0 ≤ s ∧ s < d.nx.length) : ((d.row s).length : Int) = d.inp := by
  have := h.rl s.toNat (by omega)
  have e : d.row (s.toNat : Int) = d.row s := by unfold Dfa.row; rw [Int.toNat_natCast]
  rw [e] at this; exact this
theorem mj {w : List Int} {n : Int} (hw : ∀ i : Nat, i < w.length → 0 ≤ w.getD i 0 ∧ w.getD i 0 < n) (k : Nat) : ∀ i : Nat, i < (w.take k).length → 0 ≤ (w.take k).getD i 0 ∧ (w.take k).getD i 0 < n := fun i hi => by
  rw [List.length_take] at hi
  have e : (w.take k).getD i 0 = w.getD i 0 := by rw [List.getD, List.getD, List.getElem?_take_of_lt (by omega)]
  rw [e]; exact hw i (by omega)
def acE (d : Dfa) (w : List Int) : Int := if ¬ cZ d = 0 then cZ d else bY w d.inp
def acV (d : Dfa) (w : List Int) : Bool := if acE d w = 0 then d.ac (d.run d.st w) else false
def Dfa.co (d : Dfa) : Dfa := ⟨d.inp, d.st, d.nx, d.acc.map (!·)⟩
def nj : Dfa := ⟨0, 0, [], []⟩
def coD (d : Dfa) : Dfa := if cZ d = 0 then d.co else nj
def Dfa.om1 (d : Dfa) (r : List Int) : List Int := r.map fun t => if d.ac t = true then 1 else 0
def Dfa.om (d : Dfa) : List (List Int) := d.nx.map d.om1
def toE (d : Dfa) : Int := if ¬ cZ d = 0 then cZ d else if 64 < d.inp then 2 else 0
def toM (d : Dfa) : Mly := if toE d = 0 then ⟨d.inp, d.st, d.nx, d.om⟩ else ⟨0, 0, [], []⟩
theorem dC {α : Type} (dv : α) {l : List α} {k : Nat} (h : k < l.length) : l.take (k + 1) = l.take k ++ [l.getD k dv] := by
  rw [List.take_add_one, List.getElem?_eq_getElem h]; simp [List.getD, h]
end Go.AV
namespace Go.AV
open Nat renaming reduceEqDiff → E, reduceAdd → D, reduceLeDiff → J, reduceLT → Y, reduceMul → U, reduceSub → V
open List renaming set_cons_zero → aq, set_cons_succ → ao
/-plain-/
/-! Mappers. On dfaTh. -/
structure Mpr where
  inp : Int
  ab : Int
  st : Int
  nx : List (List Int)
  sy : List (List Int)
def Mpr.av (p : Mpr) : AV := .agg [.int .i64 p.inp, .int .i64 p.ab, .int .i64 p.st, .list (.list (.int .i64)) p.nx, .list (.list (.int .i64)) p.sy]
def jA : Mpr := ⟨0, 0, 0, [], []⟩
def Mpr.bad (p : Mpr) (s c : Nat) : Prop := (p.nx.getD s []).getD c 0 < 0 ∨ (p.nx.length : Int) ≤ (p.nx.getD s []).getD c 0 ∨ (p.sy.getD s []).getD c 0 < 0 ∨ p.ab ≤ (p.sy.getD s []).getD c 0
instance (p : Mpr) (s c : Nat) : Decidable (p.bad s c) := by unfold Mpr.bad; infer_instance
def gE (p : Mpr) (s : Nat) : Int := if ¬ ((p.nx.getD s []).length : Int) = p.inp ∨ ¬ ((p.sy.getD s []).length : Int) = p.inp then 1 else if (List.range p.inp.toNat).any (fun c => decide (p.bad s c)) = true then 2 else 0
def bP (p : Mpr) : Int := if (p.inp < 1 ∨ 64 < p.inp) ∨ p.ab < 1 ∨ 64 < p.ab then 2 else if p.nx.length = 0 then 19 else if 128 < p.nx.length then 11 else if p.st < 0 ∨ (p.nx.length : Int) ≤ p.st then 2 else if ¬ p.sy.length = p.nx.length then 1 else cu (gE p) p.nx.length
theorem cH {p : Mpr} {s : Nat} (h : ¬ ((p.nx.getD s []).length : Int) = p.inp ∨ ¬ ((p.sy.getD s []).length : Int) = p.inp) : gE p s = 1 := if_pos h
theorem cI {p : Mpr} {s c : Nat} (h : ((p.nx.getD s []).length : Int) = p.inp ∧ ((p.sy.getD s []).length : Int) = p.inp) (hc : (c : Int) < p.inp) (hb : p.bad s c) : gE p s = 2 := by
  unfold gE
  rw [if_neg (by omega), if_pos (List.any_eq_true.2 ⟨c, List.mem_range.2 (by omega), by simpa using hb⟩)]
theorem qM {p : Mpr} {s : Nat} (h : ((p.nx.getD s []).length : Int) = p.inp ∧ ((p.sy.getD s []).length : Int) = p.inp) (hb : ∀ c : Nat, (c : Int) < p.inp → ¬ p.bad s c) : gE p s = 0 := by
  unfold gE
  rw [if_neg (by omega), if_neg]
  intro hh
  obtain ⟨c, hc, h2⟩ := List.any_eq_true.1 hh
  have := List.mem_range.1 hc
  exact hb c (by omega) (by simpa using h2)
theorem eZ {p : Mpr} {s : Nat} (h : gE p s = 0) : (((p.nx.getD s []).length : Int) = p.inp ∧ ((p.sy.getD s []).length : Int) = p.inp) ∧ ∀ c : Nat, (c : Int) < p.inp → ¬ p.bad s c := by
  unfold gE at h
  split at h
  · omega
  · rename_i h1
    split at h
    · omega
    · rename_i h2
      refine ⟨by omega, fun c hc hb => h2 (List.any_eq_true.2 ⟨c, List.mem_range.2 (by omega), by simpa using hb⟩)⟩
structure POK (p : Mpr) : Prop where
  i1 : 1 ≤ p.inp
  i2 : p.inp ≤ 64
  b1 : 1 ≤ p.ab
  b2 : p.ab ≤ 64
  n1 : 1 ≤ p.nx.length
  n2 : p.nx.length ≤ 128
  s1 : 0 ≤ p.st
  s2 : p.st < p.nx.length
  sl : p.sy.length = p.nx.length
  rl : ∀ s : Nat, s < p.nx.length → ((p.nx.getD s []).length : Int) = p.inp
  ql : ∀ s : Nat, s < p.nx.length → ((p.sy.getD s []).length : Int) = p.inp
  cl : ∀ s c : Nat, s < p.nx.length → (c : Int) < p.inp → 0 ≤ (p.nx.getD s []).getD c 0 ∧ (p.nx.getD s []).getD c 0 < p.nx.length
  yl : ∀ s c : Nat, s < p.nx.length → (c : Int) < p.inp → 0 ≤ (p.sy.getD s []).getD c 0 ∧ (p.sy.getD s []).getD c 0 < p.ab
theorem iU {p : Mpr} (h : bP p = 0) : POK p := by
  unfold bP at h
  split at h
  · omega
  · split at h
    · omega
    · split at h
      · omega
      · split at h
        · omega
        · split at h
          · omega
          · have h3 := eS h
            refine ⟨by omega, by omega, by omega, by omega, by omega, by omega, by omega, by omega, by omega, fun s hs => (eZ (h3 s hs)).1.1, fun s hs => (eZ (h3 s hs)).1.2, fun s c hs hc => ?_, fun s c hs hc => ?_⟩
            · have := (eZ (h3 s hs)).2 c hc; unfold Mpr.bad at this; omega
            · have := (eZ (h3 s hs)).2 c hc; unfold Mpr.bad at this; omega
def Mpr.tx (p : Mpr) (s c : Int) : Int := (p.nx.getD s.toNat []).getD c.toNat 0
def Mpr.sx (p : Mpr) (s c : Int) : Int := (p.sy.getD s.toNat []).getD c.toNat 0
theorem POK.tx {p : Mpr} (h : POK p) {s c : Int} (hs : 0 ≤ s ∧ s < p.nx.length) (hc : 0 ≤ c ∧ c < p.inp) : 0 ≤ p.tx s c ∧ p.tx s c < p.nx.length := h.cl s.toNat c.toNat (by omega) (by omega)
theorem POK.sx {p : Mpr} (h : POK p) {s c : Int} (hs : 0 ≤ s ∧ s < p.nx.length) (hc : 0 ≤ c ∧ c < p.inp) : 0 ≤ p.sx s c ∧ p.sx s c < p.ab := h.yl s.toNat c.toNat (by omega) (by omega)
theorem POK.rli {p : Mpr} (h : POK p) {s : Int} (hs : 0 ≤ s ∧ s < p.nx.length) : ((p.nx.getD s.toNat []).length : Int) = p.inp ∧ ((p.sy.getD s.toNat []).length : Int) = p.inp := ⟨h.rl s.toNat (by omega), h.ql s.toNat (by omega)⟩
/-! The abstract word. -/
def Mpr.rn (p : Mpr) (s : Int) (w : List Int) : Int := w.foldl (fun s c => p.tx s c) s
def Mpr.im (p : Mpr) : Int → List Int → List Int
  | _, [] => []
  | s, c :: w => p.sx s c :: p.im (p.tx s c) w
theorem ne (p : Mpr) : ∀ (w : List Int) (s : Int), (p.im s w).length = w.length
  | [], _ => rfl
  | _ :: w, _ => by simp [Mpr.im, ne p w]
theorem n6 (p : Mpr) : ∀ (u v : List Int) (s : Int), p.im s (u ++ v) = p.im s u ++ p.im (p.rn s u) v
  | [], _, _ => rfl
  | c :: u, v, s => by
    show p.sx s c :: p.im (p.tx s c) (u ++ v) = _
    rw [n6 p u v]; rfl
theorem qP (p : Mpr) (u v : List Int) (s : Int) : p.rn s (u ++ v) = p.rn (p.rn s u) v := by unfold Mpr.rn; rw [List.foldl_append]
theorem oI {p : Mpr} {s : Int} {w : List Int} {k : Nat} (h : k < w.length) : p.im s (w.take (k + 1)) = p.im s (w.take k) ++ [p.sx (p.rn s (w.take k)) (w.getD k 0)] := by
  rw [dC 0 h, n6]; rfl
theorem jB {p : Mpr} {s : Int} {w : List Int} {k : Nat} (h : k < w.length) : p.rn s (w.take (k + 1)) = p.tx (p.rn s (w.take k)) (w.getD k 0) := by
  rw [dC 0 h, qP]; rfl
theorem pR {p : Mpr} (h : POK p) {s : Int} (hs : 0 ≤ s ∧ s < p.nx.length) : ∀ {w : List Int}, (∀ i : Nat, i < w.length → 0 ≤ w.getD i 0 ∧ w.getD i 0 < p.inp) → 0 ≤ p.rn s w ∧ p.rn s w < p.nx.length
  | [], _ => hs
  | a :: w, hw => by
    have ha : 0 ≤ a ∧ a < p.inp := by have := hw 0 (by simp); simpa [List.getD] using this
    exact pR h (h.tx hs ha) (w := w) fun i hi => by have := hw (i + 1) (by simp; omega); simpa [List.getD] using this
def abE (p : Mpr) (w : List Int) : Int := if ¬ bP p = 0 then bP p else bY w p.inp
def abV (p : Mpr) (w : List Int) : List Int := if abE p w = 0 then p.im p.st w else []
theorem pu {p : Mpr} {w : List Int} (h : ¬ bP p = 0) : abE p w = bP p ∧ abV p w = [] := by
  have e : abE p w = bP p := if_pos h
  exact ⟨e, by unfold abV; rw [e, if_neg h]⟩
theorem pj {p : Mpr} {w : List Int} (h : bP p = 0) (h2 : ¬ bY w p.inp = 0) : abE p w = bY w p.inp ∧ abV p w = [] := by
  have e : abE p w = bY w p.inp := if_neg (fun k => k h)
  exact ⟨e, by unfold abV; rw [e, if_neg h2]⟩
theorem mn {p : Mpr} {w : List Int} (h : bP p = 0) (h2 : bY w p.inp = 0) : abE p w = 0 ∧ abV p w = p.im p.st w := by
  have e : abE p w = 0 := by unfold abE; rw [if_neg (fun k => k h), h2]
  exact ⟨e, by unfold abV; rw [if_pos e]⟩
/-! The first concrete word. -/
def fcP (p : Mpr) (can : List Bool) (x : Int) (s c : Nat) : Bool := decide ((p.sy.getD s []).getD c 0 = x) && can.getD ((p.nx.getD s []).getD c 0).toNat false
def fcV (p : Mpr) (can : List Bool) (x : Int) (s : Nat) : Nat := ((List.range p.inp.toNat).find? (fcP p can x s)).getD p.inp.toNat
def stC (p : Mpr) (can : List Bool) (x : Int) : List Bool := (List.range p.nx.length).map fun s => decide (fcV p can x s < p.inp.toNat)
def cnP (p : Mpr) : List Int → List Bool
  | [] => List.replicate p.nx.length true
  | x :: w => stC p (cnP p w) x
theorem fx (p : Mpr) : ∀ w, (cnP p w).length = p.nx.length
  | [] => by simp [cnP]
  | _ :: _ => by simp [cnP, stC]
theorem qA {p : Mpr} {can : List Bool} {x : Int} {s c : Nat} (hc : c ≤ p.inp.toNat) (hq : ∀ q, q < c → fcP p can x s q = false) (h : c < p.inp.toNat → fcP p can x s c = true) : fcV p can x s = c := by
  unfold fcV
  by_cases e : c < p.inp.toNat
  · rw [mw e (h e) hq]; rfl
  · have : c = p.inp.toNat := by omega
    subst this
    rw [mE hq]; rfl
theorem qR {p : Mpr} {can : List Bool} {x : Int} {s : Nat} (h : fcV p can x s < p.inp.toNat) : fcP p can x s (fcV p can x s) = true ∧ ∀ q, q < fcV p can x s → fcP p can x s q = false := by
  unfold fcV at h ⊢
  cases e : (List.range p.inp.toNat).find? (fcP p can x s) with
  | none => rw [e] at h; simp at h
  | some c =>
    rw [List.find?_eq_some_iff_getElem] at e
    obtain ⟨hp, i, hi, e1, hm⟩ := e
    simp at hi e1
    subst e1
    exact ⟨hp, fun q hq => by have := hm q hq; simpa using this⟩
theorem qx {p : Mpr} {can : List Bool} {x : Int} {s : Nat} (h : s < p.nx.length) : (stC p can x).getD s false = decide (fcV p can x s < p.inp.toNat) := m6 _ false h
def coW (p : Mpr) : Int → List Int → List Int
  | _, [] => []
  | s, x :: w => (fcV p (cnP p w) x s.toNat : Int) :: coW p (p.tx s (fcV p (cnP p w) x s.toNat)) w
def pcE (p : Mpr) (w : List Int) : Int := if ¬ bP p = 0 then bP p else bY w p.ab
def pcB (p : Mpr) (w : List Int) : Bool := if pcE p w = 0 then (cnP p w).getD p.st.toNat false else false
def pcW (p : Mpr) (w : List Int) : List Int := if pcB p w = true then coW p p.st w else []
/-! One state. -/
def dt (cl : List Int) : Mpr := if dm cl = 0 then ⟨cl.length, jz cl, 0, [List.replicate cl.length 0], [cl]⟩ else jA
end Go.AV
namespace Go.Proofs.YtgmgnkmgofkfpaaDoor
open Go Go.AV
open Nat renaming reduceEqDiff → E, reduceAdd → D, reduceLeDiff → J, reduceLT → Y, reduceMul → U, reduceSub → V
open List renaming set_cons_zero → aq, set_cons_succ → ao
def Pof (d : Int × (Int × (Int × (List (List Int) × (List (List Int) × Unit))))) : Mpr := ⟨d.1, d.2.1, d.2.2.1, d.2.2.2.1, d.2.2.2.2.1⟩
/- mapTh -/
end Go.Proofs.YtgmgnkmgofkfpaaDoor
namespace Go.AV
open Nat renaming reduceEqDiff → E, reduceAdd → D, reduceLeDiff → J, reduceLT → Y, reduceMul → U, reduceSub → V
open List renaming set_cons_zero → aq, set_cons_succ → ao
/-plain-/
theorem bH (n : Int) : inK .u64 n ↔ 0 ≤ n ∧ n ≤ 18446744073709551615 := by
  simp [inK, IntKind.min, IntKind.max, IntKind.signed, IntKind.bits]
def pl : List UInt8 := [48, 49, 50, 51, 52, 53, 54, 55, 56, 57, 97, 98, 99, 100, 101, 102, 103, 104, 105, 106, 107, 108, 109, 110, 111, 112, 113, 114, 115, 116, 117, 118, 119, 120, 121, 122]
def c36 (n : Nat) : Int := ((pl.getD n 0).toNat : Int)
def dS : Nat → Nat → List Int
  | 0, n => [c36 n]
  | f + 1, n => if n < 36 then [c36 n] else dS f (n / 36) ++ [c36 (n % 36)]
def d36 (n : Nat) : List Int := dS 3 n
theorem jk {f n : Nat} (h : 36 ≤ n) : dS (f + 1) n = dS f (n / 36) ++ [c36 (n % 36)] := by simp only [dS]; rw [if_neg (by omega)]
theorem j1 {f n : Nat} (h : n < 36) : dS f n = [c36 n] := by
  cases f with
  | zero => rfl
  | succ f => simp only [dS]; rw [if_pos h]
def bcl (l : List Int) : List AC := l.map (AC.int .u8)
theorem bU (l : List Int) : (bcl l).length = l.length := by simp [bcl]
theorem bS (n : Nat) (z : Int) : List.replicate n (AC.int .u8 z) = bcl (List.replicate n z) := by simp [bcl]
theorem jK {l : List Int} {off : Nat} (h : off < l.length) (v : Int) : aQ (bcl l) off [.int .u8 v] = bcl (l.set off v) := by
  unfold aQ bcl
  rw [List.set_eq_take_append_cons_drop, if_pos h]
  simp [List.map_take, List.map_drop]
theorem la {l : List Int} {i j : Nat} (h : i < j) (v : Int) : (l.set i v).drop j = l.drop j := by
  rw [List.drop_set]; rw [if_pos h]
theorem gB {l : List Int} {i : Nat} (h : i < l.length) (v : Int) : (l.set i v).drop i = v :: l.drop (i + 1) := by
  rw [List.drop_eq_getElem_cons (by simpa using h)]
  rw [List.getElem_set_self, la (by omega)]
def B36 (j u : Nat) : Prop := (j = 0 ∧ u < 1679616) ∨ (j = 1 ∧ u < 46656) ∨ (j = 2 ∧ u < 1296) ∨ (j = 3 ∧ u < 36)
theorem oa {j u : Nat} (h : B36 j u) (hu : 36 ≤ u) : B36 (j + 1) (u / 36) ∧ j ≤ 2 := by unfold B36 at *; omega
theorem kP {j u : Nat} (h : B36 j u) : j ≤ 3 ∧ u < 1679616 := by unfold B36 at h; omega
/-- What is written after j digits: u is left. -/
structure BUF (n u j : Nat) (l : List Int) : Prop where
  b : B36 j u
  len : l.length = 65
  eq : d36 n = dS (3 - j) u ++ l.drop (65 - j)
theorem nI {n u j : Nat} {l : List Int} (h : BUF n u j l) (hu : 36 ≤ u) : BUF n (u / 36) (j + 1) (l.set (64 - j) (c36 (u % 36))) := by
  obtain ⟨b1, b2⟩ := oa h.b hu
  have hl := h.len
  refine ⟨b1, by simpa using hl, ?_⟩
  have e := h.eq
  rw [show 3 - j = (3 - (j + 1)) + 1 by omega, jk hu, List.append_assoc] at e
  rw [e, show 65 - (j + 1) = 64 - j by omega, gB (by omega), show 64 - j + 1 = 65 - j by omega]; rfl
theorem oc {n u j : Nat} {l : List Int} (h : BUF n u j l) (hu : u < 36) : d36 n = (l.set (64 - j) (c36 u)).drop (64 - j) := by
  have hl := h.len
  have hb := kP h.b
  rw [h.eq, j1 hu, gB (by omega), show 64 - j + 1 = 65 - j by omega]; rfl
theorem ri {n : Nat} (h : n < 1679616) : BUF n n 0 (List.replicate 65 0) := ⟨.inl ⟨rfl, h⟩, by simp, by simp [d36]⟩
theorem jC {n : Nat} : (d36 n).length ≤ 4 := by
  have key : ∀ f n, (dS f n).length ≤ f + 1 := fun f => by
    induction f with
    | zero => intro n; simp [dS]
    | succ f ih =>
      intro n
      simp only [dS]
      split
      · simp
      · rw [List.length_append]; have := ih (n / 36); simp; omega
  exact key 3 n
end Go.AV
namespace Go.AV
open Nat renaming reduceEqDiff → E, reduceAdd → D, reduceLeDiff → J, reduceLT → Y, reduceMul → U, reduceSub → V
open List renaming set_cons_zero → aq, set_cons_succ → ao
/-plain-/
/-! On d36Th: the key of a set. -/
def gB8 (n : Int) : UInt8 := UInt8.ofNat n.toNat
def kI (x : Int) : List Int := d36 x.toNat ++ [32]
def eI (xs : List Int) : List Int := xs.flatMap kI
def du (xs : List Int) : List UInt8 := (eI xs).map fun n => UInt8.ofNat n.toNat
def KB (xs : List Int) : Prop := ∀ x ∈ xs, 0 ≤ x ∧ x < 1679616
theorem mJ {xs : List Int} {k n : Nat} (h : k < xs.length) (hn : xs.getD k 0 = (n : Int)) : eI (xs.take (k + 1)) = (eI (xs.take k) ++ d36 n) ++ [32] := by
  unfold eI
  rw [dC 0 h, List.flatMap_append, List.flatMap_singleton, hn]
  unfold kI
  rw [Int.toNat_natCast, List.append_assoc]
theorem i5 (xs : List Int) : (eI xs).length ≤ 5 * xs.length := by
  unfold eI
  induction xs with
  | nil => simp
  | cons x xs ih =>
    rw [List.flatMap_cons, List.length_append, List.length_cons]
    unfold kI at ih ⊢
    rw [List.length_append]
    have := jC (n := x.toNat)
    simp only [List.length_cons, List.length_nil]
    omega
def dvB (c : UInt8) : Nat := pl.findIdx (· == c)
def kF (l : List UInt8) : Nat := l.foldl (fun a c => a * 36 + dvB c) 0
theorem mN (d : Nat) (h : d < 36) : dvB (gB8 (c36 d)) = d ∧ gB8 (c36 d) ≠ 32 := by
  have key : ∀ d : Fin 36, dvB (gB8 (c36 d.val)) = d.val ∧ gB8 (c36 d.val) ≠ 32 := by decide
  exact key ⟨d, h⟩
theorem eG : ∀ (f n : Nat), n < 36 ^ (f + 1) → kF ((dS f n).map gB8) = n ∧ ∀ c ∈ (dS f n).map gB8, c ≠ 32
  | 0, n, h => by
    have := mN n (by simpa using h)
    refine ⟨by simp [dS, kF, this.1], fun c hc => ?_⟩
    simp only [dS, List.map_cons, List.map_nil, List.mem_singleton] at hc
    rw [hc]; exact this.2
  | f + 1, n, h => by
    by_cases e : n < 36
    · rw [j1 e]
      have := mN n e
      refine ⟨by simp [kF, this.1], fun c hc => ?_⟩
      simp only [List.map_cons, List.map_nil, List.mem_singleton] at hc
      rw [hc]; exact this.2
    · rw [jk (by omega)]
      obtain ⟨i1, i2⟩ := eG f (n / 36) (by rw [Nat.pow_succ] at h; omega)
      have := mN (n % 36) (by omega)
      refine ⟨?_, fun c hc => ?_⟩
      · unfold kF at i1 ⊢
        rw [List.map_append, List.foldl_append, i1]
        simp only [List.map_cons, List.map_nil, List.foldl_cons, List.foldl_nil, this.1]
        omega
      · rw [List.map_append, List.mem_append] at hc
        rcases hc with hc | hc
        · exact i2 c hc
        · simp only [List.map_cons, List.map_nil, List.mem_singleton] at hc
          rw [hc]; exact this.2
theorem oT {a b : Nat} (ha : a < 1679616) (hb : b < 1679616) (h : (d36 a).map gB8 = (d36 b).map gB8) : a = b := by
  have e1 := (eG 3 a (by simpa using ha)).1
  have e2 := (eG 3 b (by simpa using hb)).1
  unfold d36 at h
  rw [← e1, ← e2, h]
theorem ky : ∀ {u v a b : List UInt8}, (∀ c ∈ u, c ≠ 32) → (∀ c ∈ v, c ≠ 32) → u ++ 32 :: a = v ++ 32 :: b → u = v ∧ a = b
  | [], [], _, _, _, _, h => ⟨rfl, (List.cons.inj h).2⟩
  | [], y :: _, _, _, _, h2, h => absurd (List.cons.inj h).1.symm (h2 y (List.mem_cons_self ..))
  | x :: _, [], _, _, h1, _, h => absurd (List.cons.inj h).1 (h1 x (List.mem_cons_self ..))
  | x :: u, y :: v, a, b, h1, h2, h => by
    obtain ⟨e1, e2⟩ := List.cons.inj h
    obtain ⟨i1, i2⟩ := ky (fun c hc => h1 c (List.mem_cons_of_mem _ hc)) (fun c hc => h2 c (List.mem_cons_of_mem _ hc)) e2
    exact ⟨by rw [e1, i1], i2⟩
theorem eY (x : Int) (xs : List Int) : du (x :: xs) = (d36 x.toNat).map gB8 ++ 32 :: du xs := by
  unfold du eI
  rw [List.flatMap_cons, List.map_append]
  unfold kI
  rw [List.map_append, List.append_assoc]; rfl
theorem kw : ∀ {xs ys : List Int}, KB xs → KB ys → du xs = du ys → xs = ys
  | [], [], _, _, _ => rfl
  | [], y :: ys, _, _, h => by
    rw [eY] at h
    have := congrArg List.length h
    simp [du, eI] at this
  | x :: xs, [], _, _, h => by
    rw [eY] at h
    have := congrArg List.length h
    simp [du, eI] at this
  | x :: xs, y :: ys, hx, hy, h => by
    have hx0 := hx x (List.mem_cons_self ..)
    have hy0 := hy y (List.mem_cons_self ..)
    rw [eY, eY] at h
    obtain ⟨e1, e2⟩ := ky (eG 3 x.toNat (by simp; omega)).2 (eG 3 y.toNat (by simp; omega)).2 h
    have e3 := oT (by omega) (by omega) e1
    rw [show x = y by omega, kw (fun z hz => hx z (List.mem_cons_of_mem _ hz)) (fun z hz => hy z (List.mem_cons_of_mem _ hz)) e2]
end Go.AV
namespace Go.AV
open Nat renaming reduceEqDiff → E, reduceAdd → D, reduceLeDiff → J, reduceLT → Y, reduceMul → U, reduceSub → V
open List renaming set_cons_zero → aq, set_cons_succ → ao
/-plain-/
/-! ### the numbers -/
/-! ### the trimmed machine -/
def Mly.T (m : Mly) : Mly := ⟨m.inp, 0, m.tnx, m.tot⟩
end Go.AV
namespace Go.AV
open Nat renaming reduceEqDiff → E, reduceAdd → D, reduceLeDiff → J, reduceLT → Y, reduceMul → U, reduceSub → V
open List renaming set_cons_zero → aq, set_cons_succ → ao
/-plain-/
/-! Sorted lists without repetition. -/
theorem iB : ∀ {xs ys : List Int}, xs.Pairwise (· < ·) → ys.Pairwise (· < ·) → (∀ x, x ∈ xs ↔ x ∈ ys) → xs = ys
  | [], [], _, _, _ => rfl
  | [], y :: ys, _, _, h => by have := (h y).2 (by simp); simp at this
  | x :: xs, [], _, _, h => by have := (h x).1 (by simp); simp at this
  | x :: xs, y :: ys, hx, hy, h => by
    rw [List.pairwise_cons] at hx hy
    have e : x = y := by
      have h1 := (h x).1 (by simp)
      have h2 := (h y).2 (by simp)
      rw [List.mem_cons] at h1 h2
      rcases h1 with h1 | h1
      · exact h1
      · rcases h2 with h2 | h2
        · exact h2.symm
        · have a := hx.1 y h2; have b := hy.1 x h1; omega
    subst e
    rw [iB hx.2 hy.2 fun z => ?_]
    constructor
    · intro hz
      have := (h z).1 (List.mem_cons_of_mem _ hz)
      rw [List.mem_cons] at this
      rcases this with e | h3
      · have := hx.1 z hz; omega
      · exact h3
    · intro hz
      have := (h z).2 (List.mem_cons_of_mem _ hz)
      rw [List.mem_cons] at this
      rcases this with e | h3
      · have := hy.1 z hz; omega
      · exact h3
theorem fH (xs : List Int) (j : Nat) : xs.toArray[j]! = xs.getD j 0 := by
  by_cases h : j < xs.length
  · rw [getElem!_pos _ _ (by simpa using h)]; simp [List.getD, h]
  · rw [getElem!_neg _ _ (by simpa using h)]; simp [List.getD, h]
theorem lO (xs : List Int) (hs : ∀ i j, i ≤ j → j < xs.length → xs.getD i 0 ≤ xs.getD j 0) : ∀ m, m ≤ xs.length →
    (Lib.compactUpTo xs.toArray m).Pairwise (· < ·) ∧ ∀ x, x ∈ Lib.compactUpTo xs.toArray m ↔ ∃ j, j < m ∧ xs.getD j 0 = x
  | 0, _ => by simp [Lib.compactUpTo]
  | m + 1, hm => by
    obtain ⟨h1, h2⟩ := lO xs hs m (by omega)
    rw [Lib.compactUpTo_succ]
    cases hk : Lib.keeps xs.toArray m with
    | true =>
      simp only [if_true]
      have hb : m = 0 ∨ xs.getD m 0 ≠ xs.getD (m - 1) 0 := by
        have := of_decide_eq_true hk
        rwa [fH, fH] at this
      refine ⟨?_, fun x => ?_⟩
      · rw [List.pairwise_append]
        refine ⟨h1, by simp, fun a ha b hb2 => ?_⟩
        obtain ⟨j, hj, e⟩ := (h2 a).1 ha
        rw [List.mem_singleton, fH] at hb2
        rw [hb2, ← e]
        have q1 := hs j (m - 1) (by omega) (by omega)
        have q2 := hs (m - 1) m (by omega) (by omega)
        omega
      · rw [List.mem_append, h2, List.mem_singleton, fH]
        constructor
        · rintro (⟨j, hj, e⟩ | e)
          · exact ⟨j, by omega, e⟩
          · exact ⟨m, by omega, e.symm⟩
        · rintro ⟨j, hj, e⟩
          by_cases hjm : j = m
          · exact .inr (by rw [← e, hjm])
          · exact .inl ⟨j, by omega, e⟩
    | false =>
      simp only [Bool.false_eq_true, if_false, List.append_nil]
      have hb : m ≠ 0 ∧ xs.getD m 0 = xs.getD (m - 1) 0 := by
        have := of_decide_eq_false hk
        rw [fH, fH] at this
        refine ⟨fun e => this (.inl e), ?_⟩
        false_or_by_contra
        rename_i hh
        exact this (.inr hh)
      refine ⟨h1, fun x => ?_⟩
      rw [h2]
      constructor
      · rintro ⟨j, hj, e⟩; exact ⟨j, by omega, e⟩
      · rintro ⟨j, hj, e⟩
        by_cases hjm : j = m
        · exact ⟨m - 1, by omega, by rw [← e, hjm, hb.2]⟩
        · exact ⟨j, by omega, e⟩
theorem kg {xs : List Int} {x : Int} : x ∈ xs ↔ ∃ j, j < xs.length ∧ xs.getD j 0 = x := by
  constructor
  · intro h
    obtain ⟨j, hj⟩ := List.getElem?_of_mem h
    exact ⟨j, (List.getElem?_eq_some_iff.1 hj).1, by simp [List.getD, hj]⟩
  · rintro ⟨j, hj, e⟩; rw [← e]; exact dc hj
def da (xs : List Int) : List Int := xs.mergeSort fun x y => decide (x ≤ y)
theorem nJ (xs : List Int) : ∀ i j, i ≤ j → j < (da xs).length → (da xs).getD i 0 ≤ (da xs).getD j 0 := by
  intro i j hij hj
  by_cases e : i = j
  · rw [e]; omega
  · have hp : (da xs).Pairwise (fun x y => decide (x ≤ y) = true) := List.pairwise_mergeSort (le := fun x y => decide (x ≤ y)) (fun a b c h1 h2 => by simp at *; omega) (fun a b => by simp; omega) xs
    have := List.pairwise_iff_getElem.1 hp i j (by omega) hj (by omega)
    simp [List.getD, hj, show i < (da xs).length by omega]
    simpa using this
theorem mm {xs : List Int} {x : Int} : x ∈ da xs ↔ x ∈ xs := List.mem_mergeSort
theorem cY (xs : List Int) : (da xs).length = xs.length := List.length_mergeSort _
def eB (xs : List Int) : List Int := Lib.compact (da xs)
theorem cX (xs : List Int) : (eB xs).Pairwise (· < ·) ∧ ∀ x, x ∈ eB xs ↔ x ∈ xs := by
  obtain ⟨h1, h2⟩ := lO (da xs) (nJ xs) _ (Nat.le_refl _)
  refine ⟨h1, fun x => ?_⟩
  rw [eB, Lib.compact, h2, ← kg, mm]
theorem dL {xs : List Int} : (Lib.compact xs).length ≤ xs.length := by
  unfold Lib.compact Lib.compactUpTo
  rw [List.length_map]
  exact Nat.le_trans (List.length_filter_le _ _) (by simp)
/-! Insertion. -/
def iy (l : List Int) (n : Int) : List Int := if n ∈ l then l else l.filter (fun x => decide (x < n)) ++ n :: l.filter (fun x => decide (n < x))
theorem o4 {l : List Int} {n x : Int} : x ∈ iy l n ↔ x ∈ l ∨ x = n := by
  unfold iy
  split
  · rename_i h
    constructor
    · exact .inl
    · rintro (h1 | h1)
      · exact h1
      · rw [h1]; exact h
  · simp only [List.mem_append, List.mem_filter, List.mem_cons, decide_eq_true_eq]
    constructor
    · rintro (h1 | h1 | h1)
      · exact .inl h1.1
      · exact .inr h1
      · exact .inl h1.1
    · rintro (h1 | h1)
      · by_cases e : x = n
        · exact .inr (.inl e)
        · by_cases e2 : x < n
          · exact .inl ⟨h1, e2⟩
          · exact .inr (.inr ⟨h1, by omega⟩)
      · exact .inr (.inl h1)
theorem kG {l : List Int} {n : Int} (h : l.Pairwise (· < ·)) : (iy l n).Pairwise (· < ·) := by
  unfold iy
  split
  · exact h
  · rw [List.pairwise_append]
    refine ⟨h.filter _, ?_, fun a ha b hb => ?_⟩
    · rw [List.pairwise_cons]
      refine ⟨fun a ha => by simpa using (List.mem_filter.1 ha).2, h.filter _⟩
    · have h1 : a < n := by simpa using (List.mem_filter.1 ha).2
      rw [List.mem_cons] at hb
      rcases hb with hb | hb
      · omega
      · have : n < b := by simpa using (List.mem_filter.1 hb).2
        omega
theorem kL (r : List Int) : ∀ {l : List Int}, l.Pairwise (· < ·) → (r.foldl iy l).Pairwise (· < ·) := by
  induction r with
  | nil => intro l h; exact h
  | cons a r ih => intro l h; exact ih (kG h)
theorem o2 (r : List Int) : ∀ {l : List Int} {x : Int}, x ∈ r.foldl iy l ↔ x ∈ l ∨ x ∈ r := by
  induction r with
  | nil => intro l x; simp
  | cons a r ih => intro l x; rw [List.foldl_cons, ih, o4, List.mem_cons, or_assoc]
theorem kf (xs : List Int) : xs.foldl iy [] = eB xs :=
  iB (kL xs (by simp)) (cX xs).1 fun x => by rw [o2, (cX xs).2]; simp
/-! The reference's trimmed machine. -/
/-! Traces. -/
end Go.AV
namespace Go.AV
open Nat renaming reduceEqDiff → E, reduceAdd → D, reduceLeDiff → J, reduceLT → Y, reduceMul → U, reduceSub → V
open List renaming set_cons_zero → aq, set_cons_succ → ao
/-plain-/
/-! Models of mappers. On mapTh, shapesTh, keyTh. -/
abbrev SS := List Int × List Int
def ss0 : SS := ([], [])
/-! A set's number. -/
def cT : List SS → List Int → Nat
  | [], _ => 0
  | s :: S, x => if s.1 = x then 0 else cT S x + 1
def esG : Nat → List SS → List (KV × Int)
  | _, [] => []
  | i, s :: S => (KV.str (du s.1), (i : Int)) :: esG (i + 1) S
def esS (S : List SS) : List (KV × Int) := esG 0 S
theorem m4 (s : SS) : ∀ (S : List SS) (i : Nat), esG i (S ++ [s]) = esG i S ++ [(KV.str (du s.1), ((i + S.length : Nat) : Int))]
  | [], i => by simp [esG]
  | t :: S, i => by
    show _ :: esG (i + 1) (S ++ [s]) = _
    rw [m4 s S (i + 1)]
    simp only [esG, List.cons_append, List.length_cons]
    rw [show i + 1 + S.length = i + (S.length + 1) by omega]
theorem je {x : List Int} (hx : KB x) : ∀ (S : List SS) (i : Nat), (∀ s ∈ S, KB s.1) → cz (esG i S) (.str (du x)) = if cT S x < S.length then some ((i + cT S x : Nat) : Int) else none
  | [], i, _ => rfl
  | s :: S, i, h => by
    by_cases e : s.1 = x
    · have p1 : cT (s :: S) x = 0 := if_pos e
      rw [p1, if_pos (by simp)]
      simp only [esG, cz]
      rw [if_pos (by rw [e])]; rfl
    · have p1 : cT (s :: S) x = cT S x + 1 := if_neg e
      rw [p1]
      simp only [esG, cz]
      rw [if_neg (fun k => e (kw (h s (List.mem_cons_self ..)) hx (KV.str.inj k))), je hx S (i + 1) fun t ht => h t (List.mem_cons_of_mem _ ht)]
      by_cases e2 : cT S x < S.length
      · rw [if_pos e2, if_pos (by simp; omega)]
        exact congrArg (fun z : Nat => some (z : Int)) (by omega)
      · rw [if_neg e2, if_neg (by simp; omega)]
def sgK (S : List SS) (x : List Int) : Int := if cT S x < S.length then (cT S x : Int) else if S.length = 128 then 0 else (S.length : Int)
def sgB (S : List SS) (x : List Int) : Bool := decide (cT S x < S.length ∨ ¬ S.length = 128)
def sgS (S : List SS) (x w : List Int) : List SS := if cT S x < S.length ∨ S.length = 128 then S else S ++ [(x, w)]
theorem j3 {S : List SS} {x : List Int} (hS : ∀ s ∈ S, KB s.1) (hx : KB x) : (cz (esS S) (.str (du x))).isSome = decide (cT S x < S.length) ∧ (cz (esS S) (.str (du x))).getD 0 = if cT S x < S.length then (cT S x : Int) else 0 := by
  unfold esS
  rw [je hx S 0 hS]
  by_cases e : cT S x < S.length
  · rw [if_pos e, if_pos e]; simp [e]
  · rw [if_neg e, if_neg e]; simp [e]
theorem fQ {S : List SS} {x w : List Int} (hS : ∀ s ∈ S, KB s.1) (hx : KB x) (h : ¬ cT S x < S.length) : dU (esS S) (.str (du x)) (S.length : Int) = esS (S ++ [(x, w)]) := by
  unfold dU
  rw [(j3 hS hx).1, if_neg (by simpa using h)]
  unfold esS
  rw [m4]; simp
theorem fR {S : List SS} {x w : List Int} (h : cT S x < S.length) : sgK S x = (cT S x : Int) ∧ sgB S x = true ∧ sgS S x w = S := ⟨if_pos h, by simp [sgB, h], if_pos (.inl h)⟩
theorem eE {S : List SS} {x w : List Int} (h : ¬ cT S x < S.length) (h2 : S.length = 128) : sgK S x = 0 ∧ sgB S x = false ∧ sgS S x w = S := ⟨by unfold sgK; rw [if_neg h, if_pos h2], by unfold sgB; rw [decide_eq_false_iff_not]; omega, if_pos (.inr h2)⟩
theorem fG {S : List SS} {x w : List Int} (h : ¬ cT S x < S.length) (h2 : ¬ S.length = 128) : sgK S x = (S.length : Int) ∧ sgB S x = true ∧ sgS S x w = S ++ [(x, w)] := ⟨by unfold sgK; rw [if_neg h, if_neg h2], by unfold sgB; rw [decide_eq_true_eq]; exact .inr h2, if_neg (by omega)⟩
theorem qh {S : List SS} {x w : List Int} (h : S.length ≤ 128) : (sgS S x w).length ≤ 128 := by
  unfold sgS
  split
  · exact h
  · rw [List.length_append]; simp; omega
theorem jo {S : List SS} {x w : List Int} {s : SS} (h : s ∈ sgS S x w) : s ∈ S ∨ s = (x, w) := by
  unfold sgS at h
  split at h
  · exact .inl h
  · simpa using h
/-! What a set of pairs does on an abstract symbol. -/
def qe (p : Mpr) (q : Nat) (a : Int) (c : Nat) : Bool := decide ((p.sy.getD q []).getD c 0 = a)
def cK (p : Mpr) (q : Nat) (a : Int) (i : Nat) : List Nat := (List.range i).filter (qe p q a)
theorem kH {p : Mpr} {q : Nat} {a : Int} {c : Nat} (h : (p.sy.getD q []).getD c 0 = a) : cK p q a (c + 1) = cK p q a c ++ [c] := by
  unfold cK
  rw [List.range_succ, List.filter_append, List.filter_cons_of_pos (by simpa [qe] using h), List.filter_nil]
theorem mq {p : Mpr} {q : Nat} {a : Int} {c : Nat} (h : ¬ (p.sy.getD q []).getD c 0 = a) : cK p q a (c + 1) = cK p q a c := by
  unfold cK
  rw [List.range_succ, List.filter_append, List.filter_cons_of_neg (by simpa [qe] using h), List.filter_nil, List.append_nil]
theorem lc (p : Mpr) (q : Nat) (a : Int) (i : Nat) : (cK p q a i).length ≤ i := by
  unfold cK
  exact Nat.le_trans (List.length_filter_le _ _) (by simp)
def qxN (m : Mly) (x : Int) : Nat := x.toNat / m.nx.length
def sxN (m : Mly) (x : Int) : Nat := x.toNat % m.nx.length
def oC (m : Mly) (x : Int) (c : Nat) : Int := 1 + (m.ot.getD (sxN m x) []).getD c 0
def nC (m : Mly) (p : Mpr) (x : Int) (c : Nat) : Int := (p.nx.getD (qxN m x) []).getD c 0 * (m.nx.length : Int) + (m.nx.getD (sxN m x) []).getD c 0
def oK (m : Mly) (p : Mpr) (x a : Int) (i : Nat) : List Int := (cK p (qxN m x) a i).map (oC m x)
def nK (m : Mly) (p : Mpr) (x a : Int) (i : Nat) : List Int := (cK p (qxN m x) a i).map (nC m p x)
def oK1 (m : Mly) (p : Mpr) (x a : Int) : List Int := if cK p (qxN m x) a p.inp.toNat = [] then [0] else oK m p x a p.inp.toNat
def oA (m : Mly) (p : Mpr) (xs : List Int) (a : Int) : List Int := xs.flatMap fun x => oK1 m p x a
def nA (m : Mly) (p : Mpr) (xs : List Int) (a : Int) : List Int := xs.flatMap fun x => nK m p x a p.inp.toNat
def aO (m : Mly) (p : Mpr) (xs : List Int) (a : Int) : List Int := eB (oA m p xs a)
def aN (m : Mly) (p : Mpr) (xs : List Int) (a : Int) : List Int := eB (if nA m p xs a = [] then xs else nA m p xs a)
theorem pL (m : Mly) (p : Mpr) (x a : Int) : oK m p x a 0 = [] := rfl
theorem pw (m : Mly) (p : Mpr) (x a : Int) : nK m p x a 0 = [] := rfl
theorem nB {m : Mly} {p : Mpr} {x a : Int} {c : Nat} (h : (p.sy.getD (qxN m x) []).getD c 0 = a) : oK m p x a (c + 1) = oK m p x a c ++ [oC m x c] := by
  unfold oK; rw [kH h, List.map_append]; rfl
theorem na {m : Mly} {p : Mpr} {x a : Int} {c : Nat} (h : (p.sy.getD (qxN m x) []).getD c 0 = a) : nK m p x a (c + 1) = nK m p x a c ++ [nC m p x c] := by
  unfold nK; rw [kH h, List.map_append]; rfl
theorem kT {m : Mly} {p : Mpr} {x a : Int} {c : Nat} (h : ¬ (p.sy.getD (qxN m x) []).getD c 0 = a) : oK m p x a (c + 1) = oK m p x a c ∧ nK m p x a (c + 1) = nK m p x a c := by
  unfold oK nK; rw [mq h]; exact ⟨rfl, rfl⟩
theorem lz {f : Int → List Int} {xs : List Int} {k : Nat} (h : k < xs.length) : (xs.take (k + 1)).flatMap f = (xs.take k).flatMap f ++ f (xs.getD k 0) := by
  rw [dC 0 h, List.flatMap_append, List.flatMap_singleton]
theorem lG {m : Mly} {p : Mpr} {xs : List Int} {a : Int} {k : Nat} (h : k < xs.length) : oA m p (xs.take (k + 1)) a = oA m p (xs.take k) a ++ oK1 m p (xs.getD k 0) a := lz h
theorem gC {m : Mly} {p : Mpr} {xs : List Int} {a : Int} {k : Nat} (h : k < xs.length) : nA m p (xs.take (k + 1)) a = nA m p (xs.take k) a ++ nK m p (xs.getD k 0) a p.inp.toNat := lz h
theorem lH {m : Mly} {p : Mpr} (hp : p.inp ≤ 64) (x a : Int) : (oK1 m p x a).length ≤ 64 ∧ 1 ≤ (oK1 m p x a).length := by
  unfold oK1
  split
  · simp
  · rename_i h
    have := lc p (qxN m x) a p.inp.toNat
    have h2 : (cK p (qxN m x) a p.inp.toNat).length ≠ 0 := fun e => h (List.eq_nil_of_length_eq_zero e)
    simp only [oK, List.length_map]
    omega
theorem kX {m : Mly} {p : Mpr} (x a : Int) (i : Nat) : (oK m p x a i).length ≤ i ∧ (nK m p x a i).length ≤ i := by
  unfold oK nK
  rw [List.length_map, List.length_map]
  exact ⟨lc .., lc ..⟩
theorem lg {f : Int → List Int} (h : ∀ x, (f x).length ≤ 64) : ∀ xs : List Int, (xs.flatMap f).length ≤ 64 * xs.length
  | [] => by simp
  | x :: xs => by
    rw [List.flatMap_cons, List.length_append, List.length_cons]
    have := lg h xs; have := h x; omega
theorem nn {m : Mly} {p : Mpr} (hp : p.inp ≤ 64) (xs : List Int) (a : Int) : (oA m p xs a).length ≤ 64 * xs.length ∧ (nA m p xs a).length ≤ 64 * xs.length :=
  ⟨lg (fun x => (lH hp x a).1) xs, lg (fun x => by have := (kX (m := m) (p := p) x a p.inp.toNat).2; omega) xs⟩
theorem mU {m : Mly} {p : Mpr} (hp : p.inp ≤ 64) {xs : List Int} (h : 0 < xs.length) (a : Int) : 0 < (oA m p xs a).length := by
  match xs, h with
  | x :: xs, _ =>
    show 0 < ((x :: xs).flatMap fun x => oK1 m p x a).length
    rw [List.flatMap_cons, List.length_append]
    have := (lH (m := m) hp x a).2; omega
/-! Sets. -/
structure SB (m : Mly) (p : Mpr) (xs : List Int) : Prop where
  ord : xs.Pairwise (· < ·)
  pos : 0 < xs.length
  rng : ∀ x ∈ xs, 0 ≤ x ∧ x < p.nx.length * m.nx.length
theorem iX {m : Mly} {p : Mpr} (hm : MOK m) (hp : POK p) (hi : m.inp = p.inp) {x : Int} (hx : 0 ≤ x ∧ x < p.nx.length * m.nx.length) {c : Nat} (hc : (c : Int) < p.inp) :
    (qxN m x < p.nx.length ∧ sxN m x < m.nx.length) ∧ (0 ≤ (p.nx.getD (qxN m x) []).getD c 0 * (m.nx.length : Int) ∧ (p.nx.getD (qxN m x) []).getD c 0 * (m.nx.length : Int) ≤ 16384) ∧ 0 ≤ nC m p x c ∧ nC m p x c < p.nx.length * m.nx.length := by
  have hn := hm.n1
  have h1 : qxN m x < p.nx.length := by
    unfold qxN
    rw [Nat.div_lt_iff_lt_mul hn]
    have : ((x.toNat : Nat) : Int) < ((p.nx.length * m.nx.length : Nat) : Int) := by push_cast; omega
    omega
  have h2 : sxN m x < m.nx.length := Nat.mod_lt _ hn
  have h3 := hp.cl _ c h1 hc
  have h4 := hm.nr _ c h2 (by omega)
  have h5 : (p.nx.getD (qxN m x) []).getD c 0 * (m.nx.length : Int) ≤ (p.nx.length - 1 : Int) * m.nx.length := Int.mul_le_mul_of_nonneg_right (by omega) (by omega)
  have h6 : 0 ≤ (p.nx.getD (qxN m x) []).getD c 0 * (m.nx.length : Int) := Int.mul_nonneg h3.1 (by omega)
  have h7 : (p.nx.length - 1 : Int) * m.nx.length = p.nx.length * m.nx.length - m.nx.length := by rw [Int.sub_mul, Int.one_mul]
  have h8 : (p.nx.length : Int) * m.nx.length ≤ 128 * 128 := Int.mul_le_mul (by have := hp.n2; omega) (by have := hm.n2; omega) (by omega) (by omega)
  refine ⟨⟨h1, h2⟩, ⟨h6, by omega⟩, ?_⟩
  unfold nC
  omega
theorem SB.kb {m : Mly} {p : Mpr} {xs : List Int} (h : SB m p xs) (hm : MOK m) (hp : POK p) : KB xs := fun x hx => by
  have := h.rng x hx
  have h8 : (p.nx.length : Int) * m.nx.length ≤ 128 * 128 := Int.mul_le_mul (by have := hp.n2; omega) (by have := hm.n2; omega) (by omega) (by omega)
  omega
theorem iC : ∀ {xs : List Int} {a b : Int}, xs.Pairwise (· < ·) → (∀ x ∈ xs, a ≤ x ∧ x < b) → (xs.length : Int) ≤ b - a ∨ xs = []
  | [], _, _, _, _ => .inr rfl
  | x :: xs, a, b, h, hr => .inl (by
    obtain ⟨h1, h2⟩ := List.pairwise_cons.1 h
    have hx := hr x (List.mem_cons_self ..)
    rcases iC (a := x + 1) (b := b) h2 (fun y hy => ⟨by have := h1 y hy; omega, (hr y (List.mem_cons_of_mem _ hy)).2⟩) with e | e
    · simp only [List.length_cons]; omega
    · rw [e]; simp only [List.length_cons, List.length_nil]; omega)
theorem SB.len {m : Mly} {p : Mpr} {xs : List Int} (h : SB m p xs) (hm : MOK m) (hp : POK p) : xs.length ≤ 16384 := by
  have h8 : (p.nx.length : Int) * m.nx.length ≤ 128 * 128 := Int.mul_le_mul (by have := hp.n2; omega) (by have := hm.n2; omega) (by omega) (by omega)
  rcases iC h.ord h.rng with e | e
  · omega
  · rw [e]; simp
theorem pf {m : Mly} {p : Mpr} {xs : List Int} (h : SB m p xs) (hm : MOK m) (hp : POK p) (hi : m.inp = p.inp) (a : Int) : SB m p (aN m p xs a) := by
  unfold aN
  have hr : ∀ y ∈ (if nA m p xs a = [] then xs else nA m p xs a), 0 ≤ y ∧ y < p.nx.length * m.nx.length := by
    intro y hy
    split at hy
    · exact h.rng y hy
    · unfold nA at hy
      obtain ⟨x, hx, hy⟩ := List.mem_flatMap.1 hy
      unfold nK at hy
      obtain ⟨c, hc, rfl⟩ := List.mem_map.1 hy
      unfold cK at hc
      have hc2 := List.mem_range.1 (List.mem_filter.1 hc).1
      exact (iX hm hp hi (h.rng x hx) (c := c) (by omega)).2.2
  have hne : (if nA m p xs a = [] then xs else nA m p xs a) ≠ [] := by
    split
    · intro e; have := h.pos; rw [e] at this; simp at this
    · assumption
  refine ⟨(cX _).1, ?_, fun x hx => hr x (((cX _).2 x).1 hx)⟩
  rcases hu : eB (if nA m p xs a = [] then xs else nA m p xs a) with _ | ⟨y, l⟩
  · exfalso
    obtain ⟨y, l, e⟩ := List.exists_cons_of_ne_nil hne
    have := ((cX _).2 y).2 (show y ∈ (if nA m p xs a = [] then xs else nA m p xs a) by rw [e]; exact List.mem_cons_self ..)
    rw [hu] at this; cases this
  · simp
theorem mA {xs : List Int} (h : 0 < xs.length) : 0 < (eB xs).length := by
  match xs, h with
  | x :: xs, _ => exact List.length_pos_of_mem (((cX (x :: xs)).2 x).2 (List.mem_cons_self ..))
def dq (s : SS) : List Int × (List Int × Unit) := (s.1, (s.2, ()))
theorem qk {m : Mly} {x : Int} (h : 0 ≤ x) : x.tdiv (m.nx.length : Int) = (qxN m x : Int) ∧ x.tmod (m.nx.length : Int) = (sxN m x : Int) := by
  obtain ⟨y, rfl⟩ := Int.eq_ofNat_of_zero_le h
  exact ⟨rfl, rfl⟩
theorem r0 {m : Mly} {p : Mpr} {xs : List Int} {a : Int} {k : Nat} (h : k < xs.length) (e : cK p (qxN m (xs.getD k 0)) a p.inp.toNat = []) : oA m p (xs.take (k + 1)) a = oA m p (xs.take k) a ++ oK m p (xs.getD k 0) a p.inp.toNat ++ [0] := by
  rw [lG h]; unfold oK1 oK
  rw [if_pos e, e]; simp
theorem r8 {m : Mly} {p : Mpr} {xs : List Int} {a : Int} {k : Nat} (h : k < xs.length) (e : ¬ cK p (qxN m (xs.getD k 0)) a p.inp.toNat = []) : oA m p (xs.take (k + 1)) a = oA m p (xs.take k) a ++ oK m p (xs.getD k 0) a p.inp.toNat := by
  rw [lG h]; unfold oK1
  rw [if_neg e]
theorem qb {p : Mpr} {q : Nat} {a : Int} {c : Nat} (h : (p.sy.getD q []).getD c 0 = a) : (cK p q a (c + 1)).isEmpty = false := by rw [kH h]; simp
theorem rG {m : Mly} {p : Mpr} {xs : List Int} {a : Int} (h : (nA m p xs a).length = 0) : aN m p xs a = Lib.compact (da xs) := by
  unfold aN; rw [if_pos (List.eq_nil_of_length_eq_zero h)]; rfl
theorem rQ {m : Mly} {p : Mpr} {xs : List Int} {a : Int} (h : ¬ (nA m p xs a).length = 0) : aN m p xs a = Lib.compact (da (nA m p xs a)) := by
  unfold aN; rw [if_neg (fun e => h (by rw [e]; rfl))]; rfl
/-! The model. -/
structure Mres where
  my : Mly
  w : List Int
  a : Int
  b : Int
  f : Bool
  e : Int
def ij : Mly := ⟨0, 0, [], []⟩
def fm (e : Int) : Mres := ⟨ij, [], 0, 0, false, e⟩
structure MS where
  S : List SS
  N : List (List Int)
  O : List (List Int)
  nr : List Int
  os : List Int
def cwM (s : MS) (i : Nat) (a : Nat) : List Int := (s.S.getD i ss0).2 ++ [(a : Int)]
def cxM (s : MS) (i : Nat) : List Int := (s.S.getD i ss0).1
def lL (m : Mly) (p : Mpr) (i : Nat) (s : MS) (a : Nat) : MS :=
  { S := sgS s.S (aN m p (cxM s i) a) (cwM s i a), N := s.N, O := s.O, nr := s.nr ++ [sgK s.S (aN m p (cxM s i) a)], os := s.os ++ [(aO m p (cxM s i) a).getD 0 0] }
def ct (m : Mly) (p : Mpr) (i : Nat) (s : MS) (a : Nat) : Option Mres :=
  if 1 < (aO m p (cxM s i) a).length then some ⟨ij, cwM s i a, (aO m p (cxM s i) a).getD 0 0, (aO m p (cxM s i) a).getD 1 0, false, 0⟩
  else if 1048576 < (aO m p (cxM s i) a).getD 0 0 then some (fm 2)
  else if sgB s.S (aN m p (cxM s i) a) = false then some (fm 11) else none
def c9 (m : Mly) (p : Mpr) : Nat → MS
  | 0 => ⟨[([p.st * (m.nx.length : Int) + m.st], [])], [], [], [], []⟩
  | i + 1 => let s := (List.range p.ab.toNat).foldl (lL m p i) (c9 m p i); ⟨s.S, s.N ++ [s.nr], s.O ++ [s.os], [], []⟩
def bG (m : Mly) (p : Mpr) (i a : Nat) : MS := (List.range a).foldl (lL m p i) (c9 m p i)
theorem mI (m : Mly) (p : Mpr) (i : Nat) : bG m p i 0 = c9 m p i := rfl
theorem dY (m : Mly) (p : Mpr) (i a : Nat) : bG m p i (a + 1) = lL m p i (bG m p i a) a := by
  unfold bG; rw [List.range_succ, List.foldl_append]; rfl
theorem eM (m : Mly) (p : Mpr) (i : Nat) : c9 m p (i + 1) = ⟨(bG m p i p.ab.toNat).S, (bG m p i p.ab.toNat).N ++ [(bG m p i p.ab.toNat).nr], (bG m p i p.ab.toNat).O ++ [(bG m p i p.ab.toNat).os], [], []⟩ := rfl
def iD (p : Mpr) (s : MS) : Mres := ⟨⟨p.ab, 0, s.N, s.O⟩, [], 0, 0, true, 0⟩
def goM (m : Mly) (p : Mpr) : Nat → Nat → Mres
  | 0, i => iD p (c9 m p i)
  | f + 1, i => if i < (c9 m p i).S.length then match (List.range p.ab.toNat).findSome? (fun a => ct m p i (bG m p i a) a) with
      | some r => r
      | none => goM m p f (i + 1) else iD p (c9 m p i)
def dT (m : Mly) (p : Mpr) : Int := if ¬ ci m = 0 then ci m else if ¬ bP p = 0 then bP p else if ¬ m.inp = p.inp then 15 else 0
def mdl (m : Mly) (p : Mpr) : Mres := if dT m p = 0 then goM m p 129 0 else fm (dT m p)
def RIM (m : Mly) (p : Mpr) (i : Nat) : Prop := ∀ j, j < i → j < (c9 m p j).S.length ∧ ∀ a, a < p.ab.toNat → ct m p j (bG m p j a) a = none
theorem iE {f : Nat → Option Mres} {n : Nat} (h : ∀ a, a < n → f a = none) : (List.range n).findSome? f = none := by
  rw [List.findSome?_eq_none_iff]
  intro a ha; exact h a (List.mem_range.1 ha)
theorem lD {f : Nat → Option Mres} {n a : Nat} {r : Mres} (hn : a < n) (h : ∀ b, b < a → f b = none) (h2 : f a = some r) : (List.range n).findSome? f = some r := by
  have e : List.range n = List.range a ++ (List.range (n - a)).map (a + ·) := by rw [← List.range_add]; congr 1; omega
  rw [e, List.findSome?_append, iE h]
  rw [show n - a = (n - a - 1) + 1 by omega, List.range_succ_eq_map]
  simp [h2]
theorem hE {m : Mly} {p : Mpr} : ∀ {i : Nat}, i ≤ 129 → RIM m p i → goM m p 129 0 = goM m p (129 - i) i
  | 0, _, _ => rfl
  | i + 1, hi, h => by
    rw [hE (i := i) (by omega) fun j hj => h j (by omega)]
    obtain ⟨h1, h2⟩ := h i (by omega)
    rw [show 129 - i = (129 - (i + 1)) + 1 by omega]
    show (if _ then _ else _) = _
    rw [if_pos h1, iE h2]
theorem p4 {m : Mly} {p : Mpr} {i : Nat} (hi : i ≤ 128) (h : RIM m p i) (h2 : ¬ i < (c9 m p i).S.length) : goM m p 129 0 = iD p (c9 m p i) := by
  rw [hE (by omega) h, show 129 - i = (128 - i) + 1 by omega]
  show (if _ then _ else _) = _
  rw [if_neg h2]
theorem hO {m : Mly} {p : Mpr} {i a : Nat} {r : Mres} (hi : i ≤ 128) (h : RIM m p i) (h2 : i < (c9 m p i).S.length) (ha : a < p.ab.toNat) (h3 : ∀ b, b < a → ct m p i (bG m p i b) b = none) (h4 : ct m p i (bG m p i a) a = some r) : goM m p 129 0 = r := by
  rw [hE (by omega) h, show 129 - i = (128 - i) + 1 by omega]
  show (if _ then _ else _) = _
  rw [if_pos h2, lD ha h3 h4]
theorem ib {m : Mly} {p : Mpr} {i : Nat} (h : RIM m p i) (h2 : i < (c9 m p i).S.length) (h3 : ∀ b, b < p.ab.toNat → ct m p i (bG m p i b) b = none) : RIM m p (i + 1) := fun j hj => by
  by_cases e : j = i
  · rw [e]; exact ⟨h2, h3⟩
  · exact h j (by omega)
/-- What holds of the sets. -/
structure SVM (m : Mly) (p : Mpr) (k : Nat) (S : List SS) : Prop where
  sb : ∀ s ∈ S, SB m p s.1
  wl : ∀ s ∈ S, s.2.length ≤ k
  le : S.length ≤ 128
theorem i6 {m : Mly} {p : Mpr} (hm : MOK m) (hp : POK p) : SB m p [p.st * (m.nx.length : Int) + m.st] := by
  have h1 := hp.s1; have h2 := hp.s2; have h3 := hm.s1; have h4 := hm.s2
  have h5 : p.st * (m.nx.length : Int) ≤ (p.nx.length - 1 : Int) * m.nx.length := Int.mul_le_mul_of_nonneg_right (by omega) (by omega)
  have h6 : 0 ≤ p.st * (m.nx.length : Int) := Int.mul_nonneg h1 (by omega)
  have h7 : (p.nx.length - 1 : Int) * m.nx.length = p.nx.length * m.nx.length - m.nx.length := by rw [Int.sub_mul, Int.one_mul]
  refine ⟨by simp, by simp, fun x hx => ?_⟩
  rw [List.mem_singleton] at hx
  rw [hx]; omega
theorem SVM.at_ {m : Mly} {p : Mpr} {k i : Nat} {S : List SS} (h : SVM m p k S) (hi : i < S.length) : SB m p (S.getD i ss0).1 ∧ (S.getD i ss0).2.length ≤ k := by
  have : S.getD i ss0 ∈ S := by simp [List.getD, hi]
  exact ⟨h.sb _ this, h.wl _ this⟩
theorem SVM.kb {m : Mly} {p : Mpr} {k : Nat} {S : List SS} (h : SVM m p k S) (hm : MOK m) (hp : POK p) : ∀ s ∈ S, KB s.1 := fun s hs => (h.sb s hs).kb hm hp
theorem qD (S : List SS) (x w : List Int) : S.length ≤ (sgS S x w).length := by
  unfold sgS
  split
  · exact Nat.le_refl _
  · simp
theorem fo {m : Mly} {p : Mpr} {i : Nat} : ∀ a, (c9 m p i).S.length ≤ (bG m p i a).S.length
  | 0 => Nat.le_refl _
  | a + 1 => by rw [dY]; exact Nat.le_trans (fo a) (qD _ _ _)
theorem qJ {S : List SS} {x w : List Int} {i : Nat} (h : i < S.length) : (sgS S x w).getD i ss0 = S.getD i ss0 := by
  unfold sgS
  split
  · rfl
  · simp [List.getD, List.getElem?_append_left h]
/-- Up to a column. -/
theorem gW {m : Mly} {p : Mpr} (hm : MOK m) (hp : POK p) (hi : m.inp = p.inp) {i : Nat} (h0 : SVM m p i (c9 m p i).S) (h1 : i < (c9 m p i).S.length) : ∀ a, SVM m p (i + 1) (bG m p i a).S ∧ (bG m p i a).S.getD i ss0 = (c9 m p i).S.getD i ss0
  | 0 => ⟨⟨h0.sb, fun s hs => by have := h0.wl s hs; omega, h0.le⟩, rfl⟩
  | a + 1 => by
    obtain ⟨h2, h3⟩ := gW hm hp hi h0 h1 a
    have h4 := fo (m := m) (p := p) (i := i) a
    rw [dY]
    refine ⟨⟨fun s hs => ?_, fun s hs => ?_, qh h2.le⟩, (qJ (by omega)).trans h3⟩
    · rcases jo hs with h | h
      · exact h2.sb s h
      · rw [h]; exact pf (h2.at_ (by omega)).1 hm hp hi _
    · rcases jo hs with h | h
      · exact h2.wl s h
      · rw [h]
        show (((bG m p i a).S.getD i ss0).2 ++ [(a : Int)]).length ≤ _
        rw [List.length_append, h3]; have := (h0.at_ h1).2; simp only [List.length_cons, List.length_nil]; omega
theorem fz {m : Mly} {p : Mpr} (hm : MOK m) (hp : POK p) (hi : m.inp = p.inp) : ∀ {i : Nat}, RIM m p i → SVM m p i (c9 m p i).S
  | 0, _ => ⟨fun s hs => by
      have : s = ([p.st * (m.nx.length : Int) + m.st], []) := List.mem_singleton.1 hs
      rw [this]; exact i6 hm hp, fun s hs => by
      have : s = ([p.st * (m.nx.length : Int) + m.st], []) := List.mem_singleton.1 hs
      rw [this]; exact Nat.le_refl _, by show 1 ≤ 128; omega⟩
  | i + 1, h => by
    rw [eM]
    exact (gW hm hp hi (fz hm hp hi fun j hj => h j (by omega)) (h i (by omega)).1 _).1
theorem eQ {m : Mly} {p : Mpr} (hm : MOK m) (hp : POK p) (hi : m.inp = p.inp) {i : Nat} (h : RIM m p i) : i ≤ 128 := by
  match i, h with
  | 0, _ => omega
  | i + 1, h =>
    have h1 := h i (by omega)
    have := (fz (i := i) hm hp hi fun j hj => h j (by omega)).le
    omega
/-! How long the rows are. -/
theorem gH {m : Mly} {p : Mpr} {i : Nat} : ∀ a, (bG m p i a).N = (c9 m p i).N ∧ (bG m p i a).O = (c9 m p i).O ∧ (bG m p i a).nr.length = (c9 m p i).nr.length + a ∧ (bG m p i a).os.length = (c9 m p i).os.length + a
  | 0 => ⟨rfl, rfl, rfl, rfl⟩
  | a + 1 => by
    obtain ⟨h1, h2, h3, h4⟩ := gH (i := i) a
    rw [dY]
    refine ⟨h1, h2, ?_, ?_⟩
    · show (_ ++ [_]).length = _
      rw [List.length_append, h3]; simp; omega
    · show (_ ++ [_]).length = _
      rw [List.length_append, h4]; simp; omega
theorem fj (m : Mly) (p : Mpr) : ∀ i, (c9 m p i).nr = [] ∧ (c9 m p i).os = [] ∧ (c9 m p i).N.length = i ∧ (c9 m p i).O.length = i
  | 0 => ⟨rfl, rfl, rfl, rfl⟩
  | i + 1 => by
    obtain ⟨_, _, h3, h4⟩ := fj m p i
    obtain ⟨h1, h2, _, _⟩ := gH (m := m) (p := p) (i := i) p.ab.toNat
    rw [eM]
    refine ⟨rfl, rfl, ?_, ?_⟩
    · show (_ ++ [_]).length = _
      rw [List.length_append, h1, h3]; rfl
    · show (_ ++ [_]).length = _
      rw [List.length_append, h2, h4]; rfl
def Mres.av (r : Mres) : AV := .tup [r.my.av, .agg [.list (.int .i64) r.w, .int .i64 r.a, .int .i64 r.b], .one (.bool r.f), .one (.int .i64 r.e)]
theorem rd {m : Mly} {p : Mpr} (h : ¬ ci m = 0) : mdl m p = fm (ci m) := by
  have e : dT m p = ci m := if_pos h
  unfold mdl; rw [e, if_neg h]
theorem ro {m : Mly} {p : Mpr} (h0 : ci m = 0) (h : ¬ bP p = 0) : mdl m p = fm (bP p) := by
  have e : dT m p = bP p := by unfold dT; rw [if_neg (fun k => k h0), if_pos h]
  unfold mdl; rw [e, if_neg h]
theorem rm {m : Mly} {p : Mpr} (h0 : ci m = 0) (h1 : bP p = 0) (h : ¬ m.inp = p.inp) : mdl m p = fm 15 := by
  have e : dT m p = 15 := by unfold dT; rw [if_neg (fun k => k h0), if_neg (fun k => k h1), if_pos h]
  unfold mdl; rw [e, if_neg (by decide)]
theorem iV {m : Mly} {p : Mpr} (h0 : ci m = 0) (h1 : bP p = 0) (h : m.inp = p.inp) : mdl m p = goM m p 129 0 := by
  have e : dT m p = 0 := by unfold dT; rw [if_neg (fun k => k h0), if_neg (fun k => k h1), if_neg (fun k => k h)]
  unfold mdl; rw [if_pos e]
theorem qH {m : Mly} {p : Mpr} {i a : Nat} {s : MS} (h : 1 < (aO m p (cxM s i) a).length) : ct m p i s a = some ⟨ij, cwM s i a, (aO m p (cxM s i) a).getD 0 0, (aO m p (cxM s i) a).getD 1 0, false, 0⟩ := if_pos h
theorem qr {m : Mly} {p : Mpr} {i a : Nat} {s : MS} (h0 : ¬ 1 < (aO m p (cxM s i) a).length) (h : 1048576 < (aO m p (cxM s i) a).getD 0 0) : ct m p i s a = some (fm 2) := by
  unfold ct; rw [if_neg h0, if_pos h]
theorem qn {m : Mly} {p : Mpr} {i a : Nat} {s : MS} (h0 : ¬ 1 < (aO m p (cxM s i) a).length) (h1 : ¬ 1048576 < (aO m p (cxM s i) a).getD 0 0) (h : sgB s.S (aN m p (cxM s i) a) = false) : ct m p i s a = some (fm 11) := by
  unfold ct; rw [if_neg h0, if_neg h1, if_pos h]
theorem pr {m : Mly} {p : Mpr} {i a : Nat} {s : MS} (h0 : ¬ 1 < (aO m p (cxM s i) a).length) (h1 : ¬ 1048576 < (aO m p (cxM s i) a).getD 0 0) (h : sgB s.S (aN m p (cxM s i) a) = true) : ct m p i s a = none := by
  unfold ct; rw [if_neg h0, if_neg h1, if_neg (by rw [h]; decide)]
theorem mO {m : Mly} {p : Mpr} {i a : Nat} (h : ∀ b, b < a → ct m p i (bG m p i b) b = none) (h2 : ct m p i (bG m p i a) a = none) : ∀ b, b < a + 1 → ct m p i (bG m p i b) b = none := fun b hb => by
  by_cases e : b = a
  · rw [e]; exact h2
  · exact h b (by omega)
theorem qp {m : Mly} {p : Mpr} (hp : POK p) {xs : List Int} (h : 0 < xs.length) (a : Int) : 0 < (aO m p xs a).length := mA (mU hp.i2 h a)
theorem qE {S : List SS} {k : Nat} (h : k < S.length) (d : List Int × (List Int × Unit)) : (List.map dq S).getD k d = ((S.getD k ss0).1, ((S.getD k ss0).2, ())) := by
  simp [List.getD, h, dq]
theorem qG {m : Mly} {p : Mpr} (hm : MOK m) (hp : POK p) : 0 ≤ p.st * (m.nx.length : Int) ∧ p.st * (m.nx.length : Int) ≤ 16384 := by
  have h1 := hp.s1; have h2 := hp.s2
  have h5 : p.st * (m.nx.length : Int) ≤ 128 * 128 := Int.mul_le_mul (by have := hp.n2; omega) (by have := hm.n2; omega) (by omega) (by omega)
  exact ⟨Int.mul_nonneg h1 (by omega), by omega⟩
/-! The reference's sets. -/
theorem pC {l : List Int} (h : ∀ y ∈ l, 0 ≤ y) : ∀ y ∈ eB l, 0 ≤ y := fun y hy => h y (((cX l).2 y).1 hy)
end Go.AV
namespace Go.AV
open Nat renaming reduceEqDiff → E, reduceAdd → D, reduceLeDiff → J, reduceLT → Y, reduceMul → U, reduceSub → V
open List renaming set_cons_zero → aq, set_cons_succ → ao
/-plain-/
/-! Models, to be counted out. On pmdTh. -/
def bh : Mly := ⟨2, 0, [[1, 0], [1, 0]], [[1, 0], [1, 2]]⟩
def bq : Mpr := ⟨2, 2, 0, [[1, 0], [1, 0]], [[0, 1], [1, 0]]⟩
def uqF (xs : List Int) : List Int := xs.foldl iy []
def aOF (m : Mly) (p : Mpr) (xs : List Int) (a : Int) : List Int := uqF (oA m p xs a)
def aNF (m : Mly) (p : Mpr) (xs : List Int) (a : Int) : List Int := uqF (if nA m p xs a = [] then xs else nA m p xs a)
theorem ni : aOF = aO := by funext m p xs a; exact kf _
theorem n9 : aNF = aN := by funext m p xs a; exact kf _
def nz (m : Mly) (p : Mpr) (i : Nat) (s : MS) (a : Nat) : MS :=
  { S := sgS s.S (aNF m p (cxM s i) a) (cwM s i a), N := s.N, O := s.O, nr := s.nr ++ [sgK s.S (aNF m p (cxM s i) a)], os := s.os ++ [(aOF m p (cxM s i) a).getD 0 0] }
theorem lv : nz = lL := by funext m p i s a; unfold nz lL; rw [ni, n9]
def mL (m : Mly) (p : Mpr) (i : Nat) (s : MS) (a : Nat) : Option Mres :=
  if 1 < (aOF m p (cxM s i) a).length then some ⟨ij, cwM s i a, (aOF m p (cxM s i) a).getD 0 0, (aOF m p (cxM s i) a).getD 1 0, false, 0⟩
  else if 1048576 < (aOF m p (cxM s i) a).getD 0 0 then some (fm 2)
  else if sgB s.S (aNF m p (cxM s i) a) = false then some (fm 11) else none
theorem nH : mL = ct := by funext m p i s a; unfold mL ct; rw [ni, n9]
def jI (m : Mly) (p : Mpr) : Nat → MS
  | 0 => ⟨[([p.st * (m.nx.length : Int) + m.st], [])], [], [], [], []⟩
  | i + 1 => let s := (List.range p.ab.toNat).foldl (nz m p i) (jI m p i); ⟨s.S, s.N ++ [s.nr], s.O ++ [s.os], [], []⟩
theorem gM (m : Mly) (p : Mpr) : ∀ i, jI m p i = c9 m p i
  | 0 => rfl
  | i + 1 => by unfold jI c9; rw [gM m p i, lv]
def qi (m : Mly) (p : Mpr) (i a : Nat) : MS := (List.range a).foldl (nz m p i) (jI m p i)
theorem px : qi = bG := by funext m p i a; unfold qi bG; rw [gM, lv]
def kK (m : Mly) (p : Mpr) : Nat → Nat → Mres
  | 0, i => iD p (jI m p i)
  | f + 1, i => if i < (jI m p i).S.length then match (List.range p.ab.toNat).findSome? (fun a => mL m p i (qi m p i a) a) with
      | some r => r
      | none => kK m p f (i + 1) else iD p (jI m p i)
theorem i9 (m : Mly) (p : Mpr) : ∀ f i, kK m p f i = goM m p f i
  | 0, i => by unfold kK goM; rw [gM]
  | f + 1, i => by
    unfold kK goM
    rw [gM, nH, px]
    simp only [i9 m p f (i + 1)]
    all_goals rfl
theorem qt : mdl bh (dt [0, 0]) = ⟨ij, [0], 1, 2, false, 0⟩ := by
  have e : dT bh (dt [0, 0]) = 0 := by decide +kernel
  unfold mdl; rw [if_pos e, ← i9]
  rfl
theorem qo : mdl bh bq = ⟨⟨2, 0, [[1, 0], [0, 1]], [[2, 1], [3, 2]]⟩, [], 0, 0, true, 0⟩ := by
  have e : dT bh bq = 0 := by decide +kernel
  unfold mdl; rw [if_pos e, ← i9]
  rfl
end Go.AV
namespace Go.Proofs.YtgmgnkmgofkfpaaDoor
open Go Go.AV
open Nat renaming reduceEqDiff → E, reduceAdd → D, reduceLeDiff → J, reduceLT → Y, reduceMul → U, reduceSub → V
open List renaming set_cons_zero → aq, set_cons_succ → ao
set_option maxRecDepth 100000 in
theorem kn  : cj Tryd.prog 35 [] (bh.av) := by
 refine bu Tryd.func35 rfl (by kernel_rfl) (Nat.le_of_ble_eq_true rfl) rfl fun C hP hN hB => ?_
 replace hN : C.N = 8 := hN
 simp only [a9, D]
 refine ae fun K1 hK1 => ?_
 refine ak hP hN rfl ?_
 (refine ad rfl fun K0 Z => ?_; simp only [zE, op1, ev, lkp, ai, ah, cp, reduceCtorEq, E, D, J, Y, U, V, Tryd.st47, Tryd.td47, Mly.av, bh]; (repeat refine And.intro (by first | omega | assumption | exact rfl) ?_); (first | refine Z _ ?_ | refine Or.inl (Z _ ?_)); clear Z K0; simp only [put, app, aa, ag, zE, zS, D])
 refine aj ?_
 refine hK1 _ ?_; clear hK1; refine af [0] ?_; simp only [a8, lkp, zE, reduceCtorEq, E, a9, D]
 refine ae fun K2 hK2 => ?_
 refine ak hP hN rfl ?_
 iterate 8 (refine ad rfl fun K0 Z => ?_; simp only [zE, op1, ev, lkp, ai, ah, b8, bf, bV, rep, aI, aQ, au, Ty.size, cq, bK, Nat.mul_one, acs, Ty.dflt, zG, reduceCtorEq, E, D, J, Y, U, V, Tryd.el22, Tryd.el25, Tryd.st47, Tryd.td2, Tryd.td22, Tryd.td25, Tryd.td47, Mly.av, bh]; (repeat refine And.intro (by first | omega | assumption | exact rfl) ?_); (first | refine Z _ ?_ | refine Or.inl (Z _ ?_)); clear Z K0; simp only [put, app, aa, ag, zE, zS, D])
 refine aj ?_
 refine hK2 _ ?_; clear hK2; refine af [0] ?_; simp only [a8, lkp, zE, reduceCtorEq, E, a9, D]
 refine aJ ?_
 refine ⟨by first | exact .inl rfl | exact .inr rfl, _, rfl, ?_⟩; simp only [fzV, fz1, fzC, List.map_cons, List.map_nil, a8, lkp, zE, reduceCtorEq, E, a9, D, Mly.av, bh]
 refine VLE.of_eq ?_
 rfl
end Go.Proofs.YtgmgnkmgofkfpaaDoor
namespace Go.Proofs.YtgmgnkmgofkfpaaDoor
open Go Go.AV
open Nat renaming reduceEqDiff → E, reduceAdd → D, reduceLeDiff → J, reduceLT → Y, reduceMul → U, reduceSub → V
open List renaming set_cons_zero → aq, set_cons_succ → ao
set_option maxRecDepth 100000 in
theorem iY (xs ys : List Int) : cj Tryd.prog 20 [.one (.list (.int .i64) xs), .one (.list (.int .i64) ys)] (.one (.bool (decide (xs = ys)))) := by
 refine bu Tryd.func20 rfl (by kernel_rfl) (Nat.le_of_ble_eq_true rfl) rfl fun C hP hN hB => ?_
 replace hN : C.N = 26 := hN
 simp only [a9, D]
 refine jO 0 rfl fun hf0 => ?_; simp only [lkp, if_true, if_false, reduceCtorEq, E, eq_self, Nat.one_ne_zero, Nat.zero_ne_one, lS, kD, ka, Fit, and_true, implies_true, true_and] at hf0
 refine ae fun K1 hK1 => ?_
 refine ak hP hN rfl ?_
 (refine ad rfl fun K0 Z => ?_; simp only [zE, op1, ev, lkp, ai, ah, ev, reduceCtorEq, E, D, J, Y, U, V, Tryd.td4]; refine Z _ ?_; clear Z K0; simp only [put, app, aa, ag, zE, zS, D])
 refine aj ?_
 refine hK1 _ ?_; clear hK1; refine af [0, 1, 4] ?_; simp only [a8, lkp, zE, reduceCtorEq, E, a9, D]
 refine ae fun K2 hK2 => ?_
 refine ae fun K3 hK3 => ?_
 refine ak hP hN rfl ?_
 iterate 5 (refine ad rfl fun K0 Z => ?_; simp only [zE, op1, ev, lkp, ai, ah, aH, bE, br, bl, bn, bI, Nat.div_one, aP, bp, Ty.size, aI, dite_true, aD, aE, aF, ar, aB, aS, reduceCtorEq, E, D, J, Y, U, V, Tryd.el25, Tryd.td25, Tryd.td3, Tryd.td4]; (repeat refine And.intro (by first | omega | assumption | exact rfl) ?_); (first | refine Z _ ?_ | refine Or.inl (Z _ ?_)); clear Z K0; simp only [put, app, aa, ag, zE, zS, D])
 refine aj ?_
 refine hK3 _ ?_; clear hK3; refine af [0, 1, 4, 10] ?_; simp only [a8, lkp, zE, reduceCtorEq, E, a9, D]
 refine aG (by simp only [ev, a8, lkp, zE, reduceCtorEq, E, a9, D]; exact rfl) (fun hc4 => ?_) (fun hc4 => ?_)
 ·(try simp only [zB, reduceCtorEq] at hc4)
  refine ae fun K5 hK5 => ?_
  refine ak hP hN rfl ?_
  (refine ad rfl fun K0 Z => ?_; simp only [zE, op1, ev, lkp, ai, ah, ev, reduceCtorEq, E, D, J, Y, U, V, Tryd.td4]; refine Z _ ?_; clear Z K0; simp only [put, app, aa, ag, zE, zS, D])
  refine aj ?_
  refine hK5 _ ?_; clear hK5; refine af [0, 1, 4, 10] ?_; simp only [a8, lkp, zE, reduceCtorEq, E, a9, D]
  refine aJ ?_
  refine ⟨by first | exact .inl rfl | exact .inr rfl, _, rfl, ?_⟩; simp only [fzV, fz1, fzC, List.map_cons, List.map_nil, a8, lkp, zE, reduceCtorEq, E, a9, D]
  refine VLE.of_eq ?_
  first
  | (refine dh ?_; rintro rfl; first | exact absurd rfl ‹¬ _› | omega)
  | (refine dw ?_; have hk1 : k = xs.length := by omega
     have hk2 : k = ys.length := by omega
     rw [hk1, List.take_length, ← hk1, hk2, List.take_length] at hT; exact hT)
 ·(try simp only [zB, reduceCtorEq] at hc4)
  refine aM ?_
  refine hK2 _ ?_; clear hK2; refine af [0, 1, 4, 10] ?_; simp only [a8, lkp, zE, reduceCtorEq, E, a9, D]
  refine ae fun K6 hK6 => ?_
  refine ae fun K7 hK7 => ?_
  refine ak hP hN rfl ?_
  (refine ad rfl fun K0 Z => ?_; simp only [zE, op1, ev, lkp, ai, ah, ev, reduceCtorEq, E, D, J, Y, U, V, Tryd.td3]; refine Z _ ?_; clear Z K0; simp only [put, app, aa, ag, zE, zS, D])
  refine aj ?_
  refine hK7 _ ?_; clear hK7; refine af [0, 1, 4, 5, 10] ?_; simp only [a8, lkp, zE, reduceCtorEq, E, a9, D]
  refine aZ ?_
  refine c8 (fun n8 s8 => ∃ (k : Nat), (k ≤ xs.length) ∧ (xs.take k = ys.take k) ∧ n8 = xs.length - k ∧ s8 = { env := [(0, .one (.list (.int .i64) xs)), (1, .one (.list (.int .i64) ys)), (5, .one (.int .i64 (k : Int)))], L := [] }) ?_ ?_
  ·exact ⟨_, _, bb [0, 1, 5], 0, Nat.zero_le _, rfl, rfl, rfl⟩
  ·rintro n8 s8 ⟨k, hk, hT, rfl, rfl⟩
   refine ae fun K9 hK9 => ?_
   refine ae fun K10 hK10 => ?_
   refine ak hP hN rfl ?_
   iterate 4 (refine ad rfl fun K0 Z => ?_; simp only [zE, op1, ev, lkp, ai, ah, aH, bE, br, bl, bn, bI, Nat.div_one, aP, bp, Ty.size, aI, dite_true, aD, aE, aF, ar, aB, aS, reduceCtorEq, E, D, J, Y, U, V, Tryd.el25, Tryd.td25, Tryd.td3, Tryd.td4]; (repeat refine And.intro (by first | omega | assumption | exact rfl) ?_); (first | refine Z _ ?_ | refine Or.inl (Z _ ?_)); clear Z K0; simp only [put, app, aa, ag, zE, zS, D])
   refine aj ?_
   refine hK10 _ ?_; clear hK10; refine af [0, 1, 5, 14] ?_; simp only [a8, lkp, zE, reduceCtorEq, E, a9, D]
   refine aG (by simp only [ev, a8, lkp, zE, reduceCtorEq, E, a9, D]; exact rfl) (fun hc11 => ?_) (fun hc11 => ?_)
   ·(try simp only [zB, reduceCtorEq] at hc11)
    refine aM ?_
    refine hK9 _ ?_; clear hK9; refine af [0, 1, 5, 14] ?_; simp only [a8, lkp, zE, reduceCtorEq, E, a9, D]
    refine ae fun K12 hK12 => ?_
    refine aZ ?_
    refine ae fun K13 hK13 => ?_
    refine ch hP hN Tryd.mixed rfl ?_
    iterate 9 (refine ad rfl fun K0 Z => ?_; simp only [zE, op1, ev, lkp, ai, ah, aU, zG, Ty.dflt, Ty.size, Nat.mul_one, ne_eq, not_false_eq_true, Int.natCast_one, Int.mul_one, aC, az, aA, acs, ax, aD, aE, aF, ar, aB, aS, reduceCtorEq, E, D, J, Y, U, V, Tryd.el25, Tryd.td25, Tryd.td3, Tryd.td4]; (repeat refine And.intro (by first | omega | assumption | exact rfl) ?_); refine Z _ ?_; clear Z K0; simp only [put, app, aa, ag, zE, zS, D])
    refine aj ?_
    refine ⟨by kernel_rfl, ?_⟩
    refine hK13 _ ?_; clear hK13; refine af [0, 1, 5, 14, 25] ?_; simp only [a8, lkp, zE, reduceCtorEq, E, a9, D]
    refine aG (by simp only [ev, a8, lkp, zE, reduceCtorEq, E, a9, D]; exact rfl) (fun hc14 => ?_) (fun hc14 => ?_)
    ·(try simp only [zB, reduceCtorEq] at hc14)
     refine ae fun K15 hK15 => ?_
     refine ak hP hN rfl ?_
     (refine ad rfl fun K0 Z => ?_; simp only [zE, op1, ev, lkp, ai, ah, ev, reduceCtorEq, E, D, J, Y, U, V, Tryd.td4]; refine Z _ ?_; clear Z K0; simp only [put, app, aa, ag, zE, zS, D])
     refine aj ?_
     refine hK15 _ ?_; clear hK15; refine af [0, 1, 4, 5, 14, 25] ?_; simp only [a8, lkp, zE, reduceCtorEq, E, a9, D]
     refine aJ ?_
     refine ⟨by first | exact .inl rfl | exact .inr rfl, _, rfl, ?_⟩; simp only [fzV, fz1, fzC, List.map_cons, List.map_nil, a8, lkp, zE, reduceCtorEq, E, a9, D]
     refine VLE.of_eq ?_
     first
     | (refine dh ?_; rintro rfl; first | exact absurd rfl ‹¬ _› | omega)
     | (refine dw ?_; have hk1 : k = xs.length := by omega
        have hk2 : k = ys.length := by omega
        rw [hk1, List.take_length, ← hk1, hk2, List.take_length] at hT; exact hT)
    ·(try simp only [zB, reduceCtorEq] at hc14)
     refine aM ?_
     refine hK12 _ ?_; clear hK12; refine af [0, 1, 5, 14, 25] ?_; simp only [a8, lkp, zE, reduceCtorEq, E, a9, D]
     refine ak hP hN rfl ?_
     iterate 3 (refine ad rfl fun K0 Z => ?_; simp only [zE, op1, ev, lkp, ai, ah, aD, aE, aF, ar, aB, aS, reduceCtorEq, E, D, J, Y, U, V, Tryd.td3]; (repeat refine And.intro (by first | omega | assumption | exact rfl) ?_); refine Z _ ?_; clear Z K0; simp only [put, app, aa, ag, zE, zS, D])
     refine aj ?_
     refine ⟨_, _, ?_, bb [0, 1, 5], k + 1, by omega, ga (d := 0) hT (by omega) (by omega) ?_, rfl, rfl⟩
     · omega
     · first | assumption | omega
   ·(try simp only [zB, reduceCtorEq] at hc11)
    refine bZ ?_
    refine hK6 _ ?_; clear hK6; refine af [0, 1, 5, 14] ?_; simp only [a8, lkp, zE, reduceCtorEq, E, a9, D]
    refine ae fun K16 hK16 => ?_
    refine ak hP hN rfl ?_
    (refine ad rfl fun K0 Z => ?_; simp only [zE, op1, ev, lkp, ai, ah, ev, reduceCtorEq, E, D, J, Y, U, V, Tryd.td4]; refine Z _ ?_; clear Z K0; simp only [put, app, aa, ag, zE, zS, D])
    refine aj ?_
    refine hK16 _ ?_; clear hK16; refine af [0, 1, 4, 5, 14] ?_; simp only [a8, lkp, zE, reduceCtorEq, E, a9, D]
    refine aJ ?_
    refine ⟨by first | exact .inl rfl | exact .inr rfl, _, rfl, ?_⟩; simp only [fzV, fz1, fzC, List.map_cons, List.map_nil, a8, lkp, zE, reduceCtorEq, E, a9, D]
    refine VLE.of_eq ?_
    first
    | (refine dh ?_; rintro rfl; first | exact absurd rfl ‹¬ _› | omega)
    | (refine dw ?_; have hk1 : k = xs.length := by omega
       have hk2 : k = ys.length := by omega
       rw [hk1, List.take_length, ← hk1, hk2, List.take_length] at hT; exact hT)
end Go.Proofs.YtgmgnkmgofkfpaaDoor
namespace Go.Proofs.YtgmgnkmgofkfpaaDoor
open Go Go.AV
open Nat renaming reduceEqDiff → E, reduceAdd → D, reduceLeDiff → J, reduceLT → Y, reduceMul → U, reduceSub → V
open List renaming set_cons_zero → aq, set_cons_succ → ao
set_option maxRecDepth 100000 in
theorem o7 (xs : List Int) (h0 : 0 < xs.length) (h1 : xs.length ≤ 10000000000000) : nu Tryd.prog 30 [.one (.list (.int .i64) xs)] (.int .i64) 3 (xs) := by
 refine gx Tryd.func30 rfl (by kernel_rfl) (Nat.le_of_ble_eq_true rfl) rfl fun C hP hN hB => ?_
 replace hN : C.N = 8 := hN
 simp only [a9, D]
 refine ae fun K1 hK1 => ?_
 refine ak hP hN rfl ?_
 (refine ad rfl fun K0 Z => ?_; simp only [zE, op1, ev, lkp, ai, ah, ev, reduceCtorEq, E, D, J, Y, U, V, Tryd.el25, Tryd.td25]; refine Z _ ?_; clear Z K0; simp only [put, app, aa, ag, zE, zS, D])
 refine aj ?_
 refine hK1 _ ?_; clear hK1; refine af [0, 2] ?_; simp only [a8, lkp, zE, reduceCtorEq, E, a9, D]
 refine ae fun K2 hK2 => ?_
 refine ae fun K3 hK3 => ?_
 refine ak hP hN rfl ?_
 iterate 2 (refine ad rfl fun K0 Z => ?_; simp only [zE, op1, ev, lkp, ai, ah, aD, aE, aF, ar, aB, aS, reduceCtorEq, E, D, J, Y, U, V, Tryd.el25, Tryd.td25, Tryd.td4]; (repeat refine And.intro (by first | omega | assumption | exact rfl) ?_); refine Z _ ?_; clear Z K0; simp only [put, app, aa, ag, zE, zS, D])
 refine aj ?_
 refine hK3 _ ?_; clear hK3; refine af [0, 2, 4] ?_; simp only [a8, lkp, zE, reduceCtorEq, E, a9, D]
 refine aG (by simp only [ev, a8, lkp, zE, reduceCtorEq, E, a9, D]; exact rfl) (fun hc4 => ?_) (fun hc4 => ?_)
 · exfalso; (try simp only [zB, reduceCtorEq] at hc4); all_goals (first | (cases hc4; done) | omega | (simp at hc4; done) | (simp_all; done))
 ·(try simp only [zB, reduceCtorEq] at hc4)
  refine aM ?_
  refine hK2 _ ?_; clear hK2; refine af [0, 2, 4] ?_; simp only [a8, lkp, zE, reduceCtorEq, E, a9, D]
  refine ae fun K5 hK5 => ?_
  refine ak hP hN rfl ?_
  (refine ad rfl fun K0 Z => ?_; simp only [zE, op1, ev, lkp, ai, ah, b8, bf, bV, rep, aI, aQ, au, Ty.size, reduceCtorEq, E, D, J, Y, U, V, Tryd.el25, Tryd.td25]; (repeat refine And.intro (by first | omega | assumption | exact rfl) ?_); refine Or.inr (Or.inl (Z _ ?_)); clear Z K0; simp only [put, app, aa, ag, zE, zS, D])
  iterate 3 (refine ad rfl fun K0 Z => ?_; simp only [zE, op1, ev, lkp, ai, ah, aH, bE, br, bl, bn, bI, Nat.div_one, aP, bp, Ty.size, aI, dite_true, reduceCtorEq, E, D, J, Y, U, V, Tryd.el25, Tryd.td25]; (repeat refine And.intro (by first | omega | assumption | exact rfl) ?_); (first | refine Z _ ?_ | refine Or.inl (Z _ ?_)); clear Z K0; simp only [put, app, aa, ag, zE, zS, D])
  refine aj ?_
  refine hK5 _ ?_; clear hK5; refine af [0, 2, 4] ?_; simp only [a8, lkp, zE, reduceCtorEq, E, a9, D]
  refine aJ ?_
  refine ⟨by first | exact .inl rfl | exact .inr rfl, _, rfl, _, _, rfl, ?_⟩
  rfl
end Go.Proofs.YtgmgnkmgofkfpaaDoor
namespace Go.Proofs.YtgmgnkmgofkfpaaDoor
open Go Go.AV
open Nat renaming reduceEqDiff → E, reduceAdd → D, reduceLeDiff → J, reduceLT → Y, reduceMul → U, reduceSub → V
open List renaming set_cons_zero → aq, set_cons_succ → ao
open Go.Shelf in
def Tryd.laysNm220_ren : Go.Shelf.Ren := ⟨fun | 20 => 57 | n => n, fun | 22 => 25 | 3 => 3 | 4 => 4 | 0 => 0 | n => n, fun | n => n⟩
theorem Tryd.laysNm220 : Go.Proofs.Lays2.n20 Tryd.prog Tryd.laysNm220_ren := {
  mixed := by kernel_rfl,
  f20 := Tryd.func57.trans (congrArg some (by kernel_rfl)),
  t0 := Tryd.underlying0,
  a0 := Tryd.isAgg0,
  z0 := Tryd.sizeOf0,
  v0 := Tryd.zeroValue0,
  t3 := Tryd.underlying3,
  a3 := Tryd.isAgg3,
  z3 := Tryd.sizeOf3,
  v3 := Tryd.zeroValue3,
  t4 := Tryd.underlying4,
  a4 := Tryd.isAgg4,
  z4 := Tryd.sizeOf4,
  v4 := Tryd.zeroValue4,
  t22 := Tryd.underlying25,
  a22 := Tryd.isAgg25,
  z22 := Tryd.sizeOf25,
  v22 := Tryd.zeroValue25,
  i3 := by kernel_rfl }
theorem ef : kr Tryd.prog 57 := ⟨⟨Tryd.f57, Tryd.func57, by kernel_rfl, by kernel_rfl⟩, fun blk off cap zs w hH hb hz => Any.slices_Compact_int Tryd.laysNm220 blk off cap zs w hH hb hz⟩
end Go.Proofs.YtgmgnkmgofkfpaaDoor
namespace Go.Proofs.YtgmgnkmgofkfpaaDoor
open Go Go.AV
open Nat renaming reduceEqDiff → E, reduceAdd → D, reduceLeDiff → J, reduceLT → Y, reduceMul → U, reduceSub → V
open List renaming set_cons_zero → aq, set_cons_succ → ao
open Go.Shelf in
def Tryd.lays189_ren : Go.Shelf.Ren := ⟨fun | 189 => 56 | 125 => 66 | 257 => 65 | 128 => 77 | 129 => 78 | 294 => 68 | 295 => 69 | 296 => 70 | 297 => 71 | 298 => 72 | 299 => 73 | 216 => 74 | 300 => 75 | 301 => 76 | 328 => 80 | 329 => 81 | 330 => 82 | 331 => 83 | 332 => 84 | 215 => 85 | 343 => 90 | n => n, fun | 28 => 25 | 3 => 3 | 46 => 114 | 0 => 0 | 51 => 124 | 53 => 126 | 4 => 4 | 183 => 117 | 182 => 116 | 131 => 86 | 5 => 5 | 9 => 9 | 218 => 128 | 222 => 132 | 228 => 139 | 229 => 64 | n => n, fun | n => n⟩
theorem Tryd.lays189 : Go.Proofs.Lays.n189 Tryd.prog Tryd.lays189_ren := {
  mixed := by kernel_rfl,
  f125 := Tryd.func66.trans (congrArg some (by kernel_rfl)),
  f128 := Tryd.func77.trans (congrArg some (by kernel_rfl)),
  f129 := Tryd.func78.trans (congrArg some (by kernel_rfl)),
  f189 := Tryd.func56.trans (congrArg some (by kernel_rfl)),
  f215 := Tryd.func85.trans (congrArg some (by kernel_rfl)),
  f216 := Tryd.func74.trans (congrArg some (by kernel_rfl)),
  f257 := Tryd.func65.trans (congrArg some (by kernel_rfl)),
  f294 := Tryd.func68.trans (congrArg some (by kernel_rfl)),
  f295 := Tryd.func69.trans (congrArg some (by kernel_rfl)),
  f296 := Tryd.func70.trans (congrArg some (by kernel_rfl)),
  f297 := Tryd.func71.trans (congrArg some (by kernel_rfl)),
  f298 := Tryd.func72.trans (congrArg some (by kernel_rfl)),
  f299 := Tryd.func73.trans (congrArg some (by kernel_rfl)),
  f300 := Tryd.func75.trans (congrArg some (by kernel_rfl)),
  f301 := Tryd.func76.trans (congrArg some (by kernel_rfl)),
  f328 := Tryd.func80.trans (congrArg some (by kernel_rfl)),
  f329 := Tryd.func81.trans (congrArg some (by kernel_rfl)),
  f330 := Tryd.func82.trans (congrArg some (by kernel_rfl)),
  f331 := Tryd.func83.trans (congrArg some (by kernel_rfl)),
  f332 := Tryd.func84.trans (congrArg some (by kernel_rfl)),
  f343 := Tryd.func90.trans (congrArg some (by kernel_rfl)),
  t0 := Tryd.underlying0,
  a0 := Tryd.isAgg0,
  z0 := Tryd.sizeOf0,
  v0 := Tryd.zeroValue0,
  t3 := Tryd.underlying3,
  a3 := Tryd.isAgg3,
  z3 := Tryd.sizeOf3,
  v3 := Tryd.zeroValue3,
  t4 := Tryd.underlying4,
  a4 := Tryd.isAgg4,
  z4 := Tryd.sizeOf4,
  v4 := Tryd.zeroValue4,
  t5 := Tryd.underlying5,
  a5 := Tryd.isAgg5,
  z5 := Tryd.sizeOf5,
  v5 := Tryd.zeroValue5,
  t9 := Tryd.underlying9,
  a9 := Tryd.isAgg9,
  z9 := Tryd.sizeOf9,
  v9 := Tryd.zeroValue9,
  t28 := Tryd.underlying25,
  a28 := Tryd.isAgg25,
  z28 := Tryd.sizeOf25,
  v28 := Tryd.zeroValue25,
  t46 := Tryd.underlying114,
  a46 := Tryd.isAgg114,
  z46 := Tryd.sizeOf114,
  v46 := Tryd.zeroValue114,
  t51 := Tryd.underlying124,
  a51 := Tryd.isAgg124,
  z51 := Tryd.sizeOf124,
  v51 := Tryd.zeroValue124,
  t53 := Tryd.underlying126,
  a53 := Tryd.isAgg126,
  z53 := Tryd.sizeOf126,
  v53 := Tryd.zeroValue126,
  t131 := Tryd.underlying86,
  a131 := Tryd.isAgg86,
  z131 := Tryd.sizeOf86,
  v131 := Tryd.zeroValue86,
  t182 := Tryd.underlying116,
  a182 := Tryd.isAgg116,
  z182 := Tryd.sizeOf116,
  v182 := Tryd.zeroValue116,
  t183 := Tryd.underlying117,
  a183 := Tryd.isAgg117,
  z183 := Tryd.sizeOf117,
  v183 := Tryd.zeroValue117,
  t218 := Tryd.underlying128,
  a218 := Tryd.isAgg128,
  z218 := Tryd.sizeOf128,
  v218 := Tryd.zeroValue128,
  t222 := Tryd.underlying132,
  a222 := Tryd.isAgg132,
  z222 := Tryd.sizeOf132,
  v222 := Tryd.zeroValue132,
  t228 := Tryd.underlying139,
  a228 := Tryd.isAgg139,
  z228 := Tryd.sizeOf139,
  v228 := Tryd.zeroValue139,
  t229 := Tryd.underlying64,
  a229 := Tryd.isAgg64,
  z229 := Tryd.sizeOf64,
  v229 := Tryd.zeroValue64 }
theorem gr : pI Tryd.prog 56 := ⟨⟨Tryd.f56, Tryd.func56, by kernel_rfl, by kernel_rfl⟩, fun blk off cap zs w hH hb hz => Any.slices_Sort_int Tryd.lays189 blk off cap zs w hH hb hz⟩
end Go.Proofs.YtgmgnkmgofkfpaaDoor
