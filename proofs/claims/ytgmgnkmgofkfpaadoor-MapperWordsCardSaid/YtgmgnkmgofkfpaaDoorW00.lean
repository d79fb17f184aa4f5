/- Contracts of functions of this seat, each out of a walk through its code, and plain facts on what they compute. Conditions: those that each theorem names. -/
import Derived.Test.YtgmgnkmgofkfpaaDoorTz
import Derived.Shelf.Lay
import Derived.Shelf.Slices.CompactI
import Derived.Shelf.Sort.Plain
set_option linter.unusedSimpArgs false
set_option linter.unusedVariables false
namespace Go.AV
theorem zB : (∀ (p : Prop) [Decidable p], (decide p = true) = p) ∧ (∀ (p : Prop) [Decidable p], (decide p = false) = ¬p) ∧ ((!true) = false) ∧ ((!false) = true) ∧ (∀ b : Bool, (¬(b = true)) = (b = false)) ∧ (∀ b : Bool, (¬(b = false)) = (b = true)) ∧ (∀ a b : Bool, ((!a) = b) = (a = !b)) ∧ (∀ a b : Int, ¬a < b ↔ b ≤ a) ∧ (∀ a b : Int, ¬a ≤ b ↔ b < a) ∧ ((true = false) = False) ∧ ((false = true) = False) ∧ (∀ {α : Sort 1} (a b : α), (a ≠ b) = ¬(a = b)) ∧ (∀ (p : Prop) [Decidable p], ¬¬p ↔ p) ∧ (∀ b : Bool, ((!b) = true) = (b = false)) ∧ (∀ {α : Type} [BEq α] [LawfulBEq α] {a b : α}, (a != b) = true ↔ a ≠ b) ∧ (∀ a b : Bool, ((a || b) = true) = (a = true ∨ b = true)) ∧ (∀ a b : Bool, ((a && b) = true) = (a = true ∧ b = true)) ∧ (∀ a b : Bool, ((a || b) = false) = (a = false ∧ b = false)) ∧ (∀ a b : Bool, ((a && b) = false) = (a = false ∨ b = false)) :=
  ⟨fun p _ => decide_eq_true_eq, fun p _ => by simp, rfl, rfl, by simp, by simp, by decide, fun a b => Int.not_lt, fun a b => Int.not_le, by simp, by simp, fun _ _ => rfl, fun p _ => Decidable.not_not, by simp, bne_iff_ne, by simp, by simp, by simp, by simp⟩
theorem zS {α : Type} : (∀ (a b : α) (l : List α), (a :: l).set 0 b = b :: l) ∧ ∀ (a b : α) (n : Nat) (l : List α), (a :: l).set (n + 1) b = a :: l.set n b := ⟨fun _ _ _ => rfl, fun _ _ _ _ => rfl⟩
end Go.AV
namespace Go.AV
open Nat renaming reduceEqDiff → E, reduceAdd → D, reduceLeDiff → G, reduceLT → U, reduceMul → J, reduceSub → M
open List renaming set_cons_zero → ax, set_cons_succ → aw
/-plain-/
/-! ### classes of states -/
/-! ### how many classes -/
structure STAB (m : Mly) (c : List Int) : Prop where
  len : c.length = m.nx.length
  rng : ∀ s, s < m.nx.length → 0 ≤ c.getD s 0 ∧ c.getD s 0 < m.nx.length
  step : ∀ s t : Nat, s < m.nx.length → t < m.nx.length → c.getD s 0 = c.getD t 0 → ∀ a : Nat, (a : Int) < m.inp →
    (m.ot.getD s []).getD a 0 = (m.ot.getD t []).getD a 0 ∧ c.getD ((m.nx.getD s []).getD a 0).toNat 0 = c.getD ((m.nx.getD t []).getD a 0).toNat 0
/-! ### equivalent states -/
def EQV (m : Mly) (s t : Int) : Prop := ∀ w : List Int, (∀ i : Nat, i < w.length → 0 ≤ w.getD i 0 ∧ w.getD i 0 < m.inp) → (m.go s w).2 = (m.go t w).2
end Go.AV
namespace Go.AV
open Nat renaming reduceEqDiff → E, reduceAdd → D, reduceLeDiff → G, reduceLT → U, reduceMul → J, reduceSub → M
open List renaming set_cons_zero → ax, set_cons_succ → aw
/-plain-/
/-! ### the search through pairs of states -/
abbrev S3 := Int × Int × List Int
def inS (l : List S3) (p q : Int) : Bool := l.any fun f => decide (f.1 = p) && decide (f.2.1 = q)
def stS (a b : Mly) (e : S3) (l : List S3) (x : Nat) : List S3 := if inS l (a.nxt e.1 x) (b.nxt e.2.1 x) = true then l else l ++ [(a.nxt e.1 x, b.nxt e.2.1 x, e.2.2 ++ [(x : Int)])]
def gr (a b : Mly) (e : S3) (l : List S3) (x : Nat) : List S3 := (List.range x).foldl (stS a b e) l
def eS0 : S3 := (0, 0, [])
theorem oG {l : List S3} {p q : Int} : inS l p q = true ↔ ∃ e, e ∈ l ∧ e.1 = p ∧ e.2.1 = q := by
  simp [inS, List.any_eq_true]
theorem jG (a b : Mly) (e : S3) (l : List S3) (x : Nat) : gr a b e l (x + 1) = stS a b e (gr a b e l x) x := by
  unfold gr; rw [List.range_succ, List.foldl_append]; rfl
theorem oh (a b : Mly) (e : S3) (l : List S3) (x : Nat) : ∃ k, stS a b e l x = l ++ k := by
  unfold stS
  split
  · exact ⟨[], by simp⟩
  · exact ⟨_, rfl⟩
theorem ki (a b : Mly) (e : S3) (l : List S3) : ∀ x, ∃ k, gr a b e l x = l ++ k
  | 0 => ⟨[], by simp [gr]⟩
  | x + 1 => by
    obtain ⟨k1, h1⟩ := ki a b e l x
    obtain ⟨k2, h2⟩ := oh a b e (gr a b e l x) x
    exact ⟨k1 ++ k2, by rw [jG, h2, h1, List.append_assoc]⟩
theorem oe (a b : Mly) (e : S3) (l : List S3) (x : Nat) : l.length ≤ (gr a b e l x).length := by
  obtain ⟨k, hk⟩ := ki a b e l x
  rw [hk]; simp

structure WFS (a b : Mly) (l : List S3) : Prop where
  rng : ∀ e, e ∈ l → (0 ≤ e.1 ∧ e.1 < a.nx.length) ∧ 0 ≤ e.2.1 ∧ e.2.1 < b.nx.length
  len : ∀ e, e ∈ l → e.2.2.length ≤ l.length
  nd : (l.map fun e => e.1 * (b.nx.length : Int) + e.2.1).Nodup
theorem WFS.at_ {a b : Mly} {l : List S3} (h : WFS a b l) {i : Nat} (hi : i < l.length) : (0 ≤ (l.getD i eS0).1 ∧ (l.getD i eS0).1 < a.nx.length) ∧ 0 ≤ (l.getD i eS0).2.1 ∧ (l.getD i eS0).2.1 < b.nx.length := by
  refine h.rng _ ?_
  simp [List.getD, hi]
theorem WFS.wl {a b : Mly} {l : List S3} (h : WFS a b l) {i : Nat} (hi : i < l.length) : (l.getD i eS0).2.2.length ≤ l.length := by
  refine h.len _ ?_
  simp [List.getD, hi]
theorem lO {p q n m : Int} (hp : 0 ≤ p ∧ p < n) (hq : 0 ≤ q ∧ q < m) : 0 ≤ p * m + q ∧ p * m + q < n * m := by
  have h1 : 0 ≤ p * m := Int.mul_nonneg hp.1 (by omega)
  have h2 : (p + 1) * m ≤ n * m := Int.mul_le_mul_of_nonneg_right (by omega) (by omega)
  rw [Int.add_mul, Int.one_mul] at h2
  omega
theorem kh {p q p' q' m : Int} (hq : 0 ≤ q ∧ q < m) (hq' : 0 ≤ q' ∧ q' < m) (e : p * m + q = p' * m + q') : p = p' ∧ q = q' := by
  have h1 : (p * m + q) / m = p := by rw [Int.add_comm, Int.add_mul_ediv_right _ _ (by omega), Int.ediv_eq_zero_of_lt hq.1 hq.2]; omega
  have h2 : (p' * m + q') / m = p' := by rw [Int.add_comm, Int.add_mul_ediv_right _ _ (by omega), Int.ediv_eq_zero_of_lt hq'.1 hq'.2]; omega
  have : p = p' := by rw [← h1, ← h2, e]
  subst this
  exact ⟨rfl, by omega⟩
theorem WFS.le {a b : Mly} {l : List S3} (h : WFS a b l) : l.length ≤ a.nx.length * b.nx.length := by
  have := eB (a.nx.length * b.nx.length) _ h.nd (fun x hx => by
    obtain ⟨e, he, rfl⟩ := List.mem_map.1 hx
    have hr := h.rng e he
    have := lO hr.1 hr.2
    rw [Int.natCast_mul]; exact this)
  simpa using this
theorem WFS.step {a b : Mly} (ha : MOK a) (hb : MOK b) (hi : a.inp = b.inp) {l : List S3} (h : WFS a b l) {e : S3} (he : (0 ≤ e.1 ∧ e.1 < a.nx.length) ∧ 0 ≤ e.2.1 ∧ e.2.1 < b.nx.length) (hw : e.2.2.length ≤ l.length) {x : Nat} (hx : (x : Int) < a.inp) : WFS a b (stS a b e l x) := by
  unfold stS
  split
  · exact h
  · rename_i hn
    have n1 := ha.nr e.1.toNat x (by omega) hx
    have n2 := hb.nr e.2.1.toNat x (by omega) (by omega)
    have n1' : 0 ≤ a.nxt e.1 x ∧ a.nxt e.1 x < a.nx.length := by simpa [Mly.nxt] using n1
    have n2' : 0 ≤ b.nxt e.2.1 x ∧ b.nxt e.2.1 x < b.nx.length := by simpa [Mly.nxt] using n2
    refine ⟨fun f hf => ?_, fun f hf => ?_, ?_⟩
    · rcases List.mem_append.1 hf with hf | hf
      · exact h.rng f hf
      · simp at hf; subst hf; exact ⟨n1', n2'⟩
    · simp only [List.length_append, List.length_cons, List.length_nil]
      rcases List.mem_append.1 hf with hf | hf
      · have := h.len f hf; omega
      · simp at hf; subst hf; simp; omega
    · rw [List.map_append, List.nodup_append]
      refine ⟨h.nd, by simp, fun u hu v hv => ?_⟩
      simp at hv; subst hv
      intro e'
      obtain ⟨f, hf, rfl⟩ := List.mem_map.1 hu
      have hr := h.rng f hf
      obtain ⟨e1, e2⟩ := kh hr.2 n2' e'
      exact hn (oG.2 ⟨f, hf, e1, e2⟩)
theorem WFS.row {a b : Mly} (ha : MOK a) (hb : MOK b) (hi : a.inp = b.inp) {l : List S3} (h : WFS a b l) {i : Nat} (hil : i < l.length) : ∀ x : Nat, (x : Int) ≤ a.inp → WFS a b (gr a b (l.getD i eS0) l x)
  | 0, _ => by simpa [gr] using h
  | x + 1, hx => by
    rw [jG]
    have h1 := WFS.row ha hb hi h hil x (by omega)
    have h2 := oe a b (l.getD i eS0) l x
    have h3 := h.wl hil
    exact h1.step ha hb hi (h.at_ hil) (by omega) (by omega)
theorem mM {p : Nat → Bool} {n : Nat} (h : ∀ x, x < n → p x = false) : (List.range n).find? p = none := by
  rw [List.find?_eq_none]
  intro x hx
  have := h x (by simpa using hx)
  simp [this]
theorem mJ {p : Nat → Bool} {n x : Nat} (hx : x < n) (hp : p x = true) (h : ∀ y, y < x → p y = false) : (List.range n).find? p = some x := by
  rw [List.find?_eq_some_iff_getElem]
  refine ⟨hp, x, by simpa using hx, by simp, fun j hj => ?_⟩
  simp [h j hj]
/-! ### what it means -/
def EQ2 (a b : Mly) (s t : Int) : Prop := ∀ w : List Int, (∀ i : Nat, i < w.length → 0 ≤ w.getD i 0 ∧ w.getD i 0 < a.inp) → (a.go s w).2 = (b.go t w).2
structure TRS (a b : Mly) (s t : Int) (e : S3) : Prop where
  sy : ∀ i : Nat, i < e.2.2.length → 0 ≤ e.2.2.getD i 0 ∧ e.2.2.getD i 0 < a.inp
  l : (a.go s e.2.2).1 = e.1
  r : (b.go t e.2.2).1 = e.2.1
  o : (a.go s e.2.2).2 = (b.go t e.2.2).2
end Go.AV
namespace Go.AV
open Nat renaming reduceEqDiff → E, reduceAdd → D, reduceLeDiff → G, reduceLT → U, reduceMul → J, reduceSub → M
open List renaming set_cons_zero → ax, set_cons_succ → aw
/-plain-/
/-! ### lists of classes -/
def cN (cl : List Int) : Nat → Int
  | 0 => 0
  | k + 1 => max (cN cl k) (cl.getD k 0 + 1)
def eT (cl : List Int) (k : Nat) : Bool := decide (cl.getD k 0 < 0) || decide (cN cl k < cl.getD k 0)
def dd (cl : List Int) : Int := if cl.length < 1 ∨ 64 < cl.length then 2 else if (List.range cl.length).any (eT cl) = true then 1 else 0
def jp (cl : List Int) : Int := if dd cl = 0 then cN cl cl.length else 0
theorem o5 {cl : List Int} {k : Nat} (h1 : 0 ≤ cl.getD k 0) (h2 : cl.getD k 0 ≤ cN cl k) : eT cl k = false := by
  unfold eT; rw [decide_eq_false (by omega), decide_eq_false (by omega)]; rfl
theorem o2 {cl : List Int} {k : Nat} (h : cl.getD k 0 < 0 ∨ cN cl k < cl.getD k 0) : eT cl k = true := by
  unfold eT; simp only [Bool.or_eq_true, decide_eq_true_eq]; exact h
theorem gf {cl : List Int} (h : cl.length < 1 ∨ 64 < cl.length) : dd cl = 2 := by unfold dd; rw [if_pos h]
theorem ib {cl : List Int} (h : ¬ (cl.length < 1 ∨ 64 < cl.length)) {k : Nat} (hk : k < cl.length) (hb : eT cl k = true) : dd cl = 1 := by
  unfold dd; rw [if_neg h, if_pos (List.any_eq_true.2 ⟨k, by simpa using hk, hb⟩)]
theorem iV {cl : List Int} (h : ¬ (cl.length < 1 ∨ 64 < cl.length)) (hb : ∀ k, k < cl.length → eT cl k = false) : dd cl = 0 := by
  unfold dd; rw [if_neg h, if_neg]
  intro hh
  obtain ⟨k, hk, hc⟩ := List.any_eq_true.1 hh
  rw [hb k (by simpa using hk)] at hc
  cases hc
theorem qg {cl : List Int} {k : Nat} (hb : ∀ q, q < k → eT cl q = false) : 0 ≤ cN cl k ∧ cN cl k ≤ k := by
  induction k with
  | zero => exact ⟨Int.le_refl _, Int.le_refl _⟩
  | succ k ih =>
    have h1 := ih fun q hq => hb q (by omega)
    have := hb k (by omega)
    simp only [eT, Bool.or_eq_false_iff, decide_eq_false_iff_not] at this
    simp only [cN]; omega
structure COK (m : Mly) (cl : List Int) : Prop where
  ok : MOK m
  ce : dd cl = 0
  len : (cl.length : Int) = m.inp
/-! ### states with their access words -/
abbrev S2 := Int × List Int
def eX0 : S2 := (0, [])
def gz (l : List S2) : List Int := l.map (·.1)
def stX (m : Mly) (e : S2) (l : List S2) (x : Nat) : List S2 := if (m.row e.1).getD x 0 ∈ gz l then l else l ++ [((m.row e.1).getD x 0, e.2 ++ [(x : Int)])]
def gH (m : Mly) (e : S2) (l : List S2) (x : Nat) : List S2 := (List.range x).foldl (stX m e) l
theorem jD (m : Mly) (e : S2) (l : List S2) (x : Nat) : gH m e l (x + 1) = stX m e (gH m e l x) x := by
  unfold gH; rw [List.range_succ, List.foldl_append]; rfl
theorem pB (m : Mly) (e : S2) (l : List S2) (x : Nat) : ∃ k, stX m e l x = l ++ k := by
  unfold stX
  split
  · exact ⟨[], by simp⟩
  · exact ⟨_, rfl⟩
theorem ka (m : Mly) (e : S2) (l : List S2) : ∀ x, ∃ k, gH m e l x = l ++ k
  | 0 => ⟨[], by simp [gH]⟩
  | x + 1 => by
    obtain ⟨k1, h1⟩ := ka m e l x
    obtain ⟨k2, h2⟩ := pB m e (gH m e l x) x
    exact ⟨k1 ++ k2, by rw [jD, h2, h1, List.append_assoc]⟩
theorem oJ (m : Mly) (e : S2) (l : List S2) (x : Nat) : l.length ≤ (gH m e l x).length := by
  obtain ⟨k, hk⟩ := ka m e l x
  rw [hk]; simp
structure WFX (m : Mly) (l : List S2) : Prop where
  rs : RSet m.nx.length (gz l)
  wl : ∀ e, e ∈ l → e.2.length ≤ l.length
theorem kx (l : List S2) : (gz l).length = l.length := by simp [gz]
theorem p8 {l : List S2} {i : Nat} (h : i < l.length) : (gz l).getD i 0 = (l.getD i eX0).1 := by simp [gz, List.getD, h]
theorem WFX.le {m : Mly} {l : List S2} (h : WFX m l) : l.length ≤ m.nx.length := by have := h.rs.len; rwa [kx] at this
theorem WFX.at_ {m : Mly} {l : List S2} (h : WFX m l) {i : Nat} (hi : i < l.length) : 0 ≤ (l.getD i eX0).1 ∧ (l.getD i eX0).1 < m.nx.length := by
  rw [← p8 hi]; exact h.rs.at_ (by rw [kx]; exact hi)
theorem qF {l : List S2} {i : Nat} (h : i < l.length) : l.getD i eX0 ∈ l := by simp [List.getD, h]
theorem WFX.step {m : Mly} (hm : MOK m) {l : List S2} (h : WFX m l) {e : S2} (he : 0 ≤ e.1 ∧ e.1 < m.nx.length) (hw : e.2.length ≤ l.length) {x : Nat} (hx : (x : Int) < m.inp) : WFX m (stX m e l x) := by
  unfold stX
  split
  · exact h
  · rename_i hn
    have n1 := hm.nr e.1.toNat x (by omega) hx
    refine ⟨?_, fun f hf => ?_⟩
    · have e1 : gz (l ++ [((m.row e.1).getD x 0, e.2 ++ [(x : Int)])]) = ii (gz l) ((m.row e.1).getD x 0) := by rw [nk hn]; simp [gz]
      rw [e1]
      exact h.rs.add n1.1 n1.2
    · simp only [List.length_append, List.length_cons, List.length_nil]
      rcases List.mem_append.1 hf with hf | hf
      · have := h.wl f hf; omega
      · simp at hf; subst hf; simp; omega
theorem WFX.row {m : Mly} (hm : MOK m) {l : List S2} (h : WFX m l) {i : Nat} (hil : i < l.length) : ∀ x : Nat, (x : Int) ≤ m.inp → WFX m (gH m (l.getD i eX0) l x)
  | 0, _ => by simpa [gH] using h
  | x + 1, hx => by
    rw [jD]
    have h1 := WFX.row hm h hil x (by omega)
    have h2 := oJ m (l.getD i eX0) l x
    have h3 := h.wl _ (qF hil)
    exact h1.step hm (h.at_ hil) (by omega) (by omega)
/-! ### inputs that agree -/
/-! ### numbers of classes -/
def qu (p : Int → Bool) (xs : List Int) : Int := match xs.findIdx? p with | some i => (i : Int) | none => -1
/-- The numbers so far, and the first element of each class. -/
def nmS (T : Nat → Nat → Bool) : Nat → List Int × List Int
  | 0 => ([], [])
  | c + 1 => if qu (fun d => T d.toNat c) (nmS T c).2 < 0 then ((nmS T c).1 ++ [((nmS T c).2.length : Int)], (nmS T c).2 ++ [(c : Int)])
    else ((nmS T c).1 ++ [qu (fun d => T d.toNat c) (nmS T c).2], (nmS T c).2)
end Go.AV
namespace Go.AV
open Nat renaming reduceEqDiff → E, reduceAdd → D, reduceLeDiff → G, reduceLT → U, reduceMul → J, reduceSub → M
open List renaming set_cons_zero → ax, set_cons_succ → aw
/-plain-/
/-! ### numbers of classes: an equivalence, and the list that a least member gives -/
structure EQT (T : Nat → Nat → Bool) (n : Nat) : Prop where
  rf : ∀ a, a < n → T a a = true
  sy : ∀ a b, a < n → b < n → T a b = true → T b a = true
  tr : ∀ a b c, a < n → b < n → c < n → T a b = true → T b c = true → T a c = true
structure NMP (T : Nat → Nat → Bool) (c : Nat) : Prop where
  at_ : ∀ q, q < c → 0 ≤ (nmS T c).1.getD q 0 ∧ (nmS T c).1.getD q 0 < (nmS T c).2.length ∧ T ((nmS T c).2.getD ((nmS T c).1.getD q 0).toNat 0).toNat q = true
  ap : ∀ x y, x < y → y < (nmS T c).2.length → T ((nmS T c).2.getD x 0).toNat ((nmS T c).2.getD y 0).toNat = false
end Go.AV
namespace Go.AV
open Nat renaming reduceEqDiff → E, reduceAdd → D, reduceLeDiff → G, reduceLT → U, reduceMul → J, reduceSub → M
open List renaming set_cons_zero → ax, set_cons_succ → aw
/-plain-/
structure Dfa where
  inp : Int
  st : Int
  nx : List (List Int)
  acc : List Bool
def Dfa.av (d : Dfa) : AV := .agg [.int .i64 d.inp, .int .i64 d.st, .list (.list (.int .i64)) d.nx, .list .bool d.acc]
def Dfa.row (d : Dfa) (s : Int) : List Int := d.nx.getD s.toNat []
def Dfa.ac (d : Dfa) (s : Int) : Bool := d.acc.getD s.toNat false
structure DOK (d : Dfa) : Prop where
  i1 : 1 ≤ d.inp
  i2 : d.inp ≤ 1024
  n1 : 1 ≤ d.nx.length
  n2 : d.nx.length ≤ 128
  s1 : 0 ≤ d.st
  s2 : d.st < d.nx.length
  al : d.acc.length = d.nx.length
  rl : ∀ s : Nat, s < d.nx.length → ((d.row s).length : Int) = d.inp
  cl : ∀ s a : Nat, s < d.nx.length → (a : Int) < d.inp → 0 ≤ (d.row s).getD a 0 ∧ (d.row s).getD a 0 < d.nx.length
theorem DOK.rli {d : Dfa} (h : DOK d) {s : Int} (hs : 0 ≤ s ∧ s < d.nx.length) : ((d.row s).length : Int) = d.inp := by
  have := h.rl s.toNat (by omega)
  have e : d.row (s.toNat : Int) = d.row s := by unfold Dfa.row; rw [Int.toNat_natCast]
  rw [e] at this; exact this
theorem fV {w : List Int} {n : Int} (hw : ∀ i : Nat, i < w.length → 0 ≤ w.getD i 0 ∧ w.getD i 0 < n) (k : Nat) : ∀ i : Nat, i < (w.take k).length → 0 ≤ (w.take k).getD i 0 ∧ (w.take k).getD i 0 < n := fun i hi => by
  rw [List.length_take] at hi
  have e : (w.take k).getD i 0 = w.getD i 0 := by rw [List.getD, List.getD, List.getElem?_take_of_lt (by omega)]
  rw [e]; exact hw i (by omega)
theorem da {α : Type} (dv : α) {l : List α} {k : Nat} (h : k < l.length) : l.take (k + 1) = l.take k ++ [l.getD k dv] := by
  rw [List.take_add_one, List.getElem?_eq_getElem h]; simp [List.getD, h]
end Go.AV
namespace Go.AV
open Nat renaming reduceEqDiff → E, reduceAdd → D, reduceLeDiff → G, reduceLT → U, reduceMul → J, reduceSub → M
open List renaming set_cons_zero → ax, set_cons_succ → aw
/-plain-/
/-! Mappers. On dfaTh. -/
structure Mpr where
  inp : Int
  ab : Int
  st : Int
  nx : List (List Int)
  sy : List (List Int)
def Mpr.av (p : Mpr) : AV := .agg [.int .i64 p.inp, .int .i64 p.ab, .int .i64 p.st, .list (.list (.int .i64)) p.nx, .list (.list (.int .i64)) p.sy]
def jn : Mpr := ⟨0, 0, 0, [], []⟩
def Mpr.bad (p : Mpr) (s c : Nat) : Prop := (p.nx.getD s []).getD c 0 < 0 ∨ (p.nx.length : Int) ≤ (p.nx.getD s []).getD c 0 ∨ (p.sy.getD s []).getD c 0 < 0 ∨ p.ab ≤ (p.sy.getD s []).getD c 0
instance (p : Mpr) (s c : Nat) : Decidable (p.bad s c) := by unfold Mpr.bad; infer_instance
def f8 (p : Mpr) (s : Nat) : Int := if ¬ ((p.nx.getD s []).length : Int) = p.inp ∨ ¬ ((p.sy.getD s []).length : Int) = p.inp then 1 else if (List.range p.inp.toNat).any (fun c => decide (p.bad s c)) = true then 2 else 0
def bD (p : Mpr) : Int := if (p.inp < 1 ∨ 64 < p.inp) ∨ p.ab < 1 ∨ 64 < p.ab then 2 else if p.nx.length = 0 then 19 else if 128 < p.nx.length then 11 else if p.st < 0 ∨ (p.nx.length : Int) ≤ p.st then 2 else if ¬ p.sy.length = p.nx.length then 1 else cq (f8 p) p.nx.length
theorem bZ {p : Mpr} {s : Nat} (h : ¬ ((p.nx.getD s []).length : Int) = p.inp ∨ ¬ ((p.sy.getD s []).length : Int) = p.inp) : f8 p s = 1 := if_pos h
theorem c0 {p : Mpr} {s c : Nat} (h : ((p.nx.getD s []).length : Int) = p.inp ∧ ((p.sy.getD s []).length : Int) = p.inp) (hc : (c : Int) < p.inp) (hb : p.bad s c) : f8 p s = 2 := by
  unfold f8
  rw [if_neg (by omega), if_pos (List.any_eq_true.2 ⟨c, List.mem_range.2 (by omega), by simpa using hb⟩)]
theorem iR {p : Mpr} {s : Nat} (h : ((p.nx.getD s []).length : Int) = p.inp ∧ ((p.sy.getD s []).length : Int) = p.inp) (hb : ∀ c : Nat, (c : Int) < p.inp → ¬ p.bad s c) : f8 p s = 0 := by
  unfold f8
  rw [if_neg (by omega), if_neg]
  intro hh
  obtain ⟨c, hc, h2⟩ := List.any_eq_true.1 hh
  have := List.mem_range.1 hc
  exact hb c (by omega) (by simpa using h2)
theorem eF {p : Mpr} {s : Nat} (h : f8 p s = 0) : (((p.nx.getD s []).length : Int) = p.inp ∧ ((p.sy.getD s []).length : Int) = p.inp) ∧ ∀ c : Nat, (c : Int) < p.inp → ¬ p.bad s c := by
  unfold f8 at h
  split at h
  · omega
  · rename_i h1
    split at h
    · omega
    · rename_i h2
      refine ⟨by omega, fun c hc hb => h2 (List.any_eq_true.2 ⟨c, List.mem_range.2 (by omega), by simpa using hb⟩)⟩
structure POK (p : Mpr) : Prop where
  i1 : 1 ≤ p.inp
  i2 : p.inp ≤ 64
  b1 : 1 ≤ p.ab
  b2 : p.ab ≤ 64
  n1 : 1 ≤ p.nx.length
  n2 : p.nx.length ≤ 128
  s1 : 0 ≤ p.st
  s2 : p.st < p.nx.length
  sl : p.sy.length = p.nx.length
  rl : ∀ s : Nat, s < p.nx.length → ((p.nx.getD s []).length : Int) = p.inp
  ql : ∀ s : Nat, s < p.nx.length → ((p.sy.getD s []).length : Int) = p.inp
  cl : ∀ s c : Nat, s < p.nx.length → (c : Int) < p.inp → 0 ≤ (p.nx.getD s []).getD c 0 ∧ (p.nx.getD s []).getD c 0 < p.nx.length
  yl : ∀ s c : Nat, s < p.nx.length → (c : Int) < p.inp → 0 ≤ (p.sy.getD s []).getD c 0 ∧ (p.sy.getD s []).getD c 0 < p.ab
theorem gq {p : Mpr} (h : bD p = 0) : POK p := by
  unfold bD at h
  split at h
  · omega
  · split at h
    · omega
    · split at h
      · omega
      · split at h
        · omega
        · split at h
          · omega
          · have h3 := ex h
            refine ⟨by omega, by omega, by omega, by omega, by omega, by omega, by omega, by omega, by omega, fun s hs => (eF (h3 s hs)).1.1, fun s hs => (eF (h3 s hs)).1.2, fun s c hs hc => ?_, fun s c hs hc => ?_⟩
            · have := (eF (h3 s hs)).2 c hc; unfold Mpr.bad at this; omega
            · have := (eF (h3 s hs)).2 c hc; unfold Mpr.bad at this; omega
def Mpr.tx (p : Mpr) (s c : Int) : Int := (p.nx.getD s.toNat []).getD c.toNat 0
def Mpr.sx (p : Mpr) (s c : Int) : Int := (p.sy.getD s.toNat []).getD c.toNat 0
theorem POK.tx {p : Mpr} (h : POK p) {s c : Int} (hs : 0 ≤ s ∧ s < p.nx.length) (hc : 0 ≤ c ∧ c < p.inp) : 0 ≤ p.tx s c ∧ p.tx s c < p.nx.length := h.cl s.toNat c.toNat (by omega) (by omega)
theorem POK.sx {p : Mpr} (h : POK p) {s c : Int} (hs : 0 ≤ s ∧ s < p.nx.length) (hc : 0 ≤ c ∧ c < p.inp) : 0 ≤ p.sx s c ∧ p.sx s c < p.ab := h.yl s.toNat c.toNat (by omega) (by omega)
theorem POK.rli {p : Mpr} (h : POK p) {s : Int} (hs : 0 ≤ s ∧ s < p.nx.length) : ((p.nx.getD s.toNat []).length : Int) = p.inp ∧ ((p.sy.getD s.toNat []).length : Int) = p.inp := ⟨h.rl s.toNat (by omega), h.ql s.toNat (by omega)⟩
/-! The abstract word. -/
def Mpr.rn (p : Mpr) (s : Int) (w : List Int) : Int := w.foldl (fun s c => p.tx s c) s
def Mpr.im (p : Mpr) : Int → List Int → List Int
  | _, [] => []
  | s, c :: w => p.sx s c :: p.im (p.tx s c) w
theorem l8 (p : Mpr) : ∀ (w : List Int) (s : Int), (p.im s w).length = w.length
  | [], _ => rfl
  | _ :: w, _ => by simp [Mpr.im, l8 p w]
theorem nb (p : Mpr) : ∀ (u v : List Int) (s : Int), p.im s (u ++ v) = p.im s u ++ p.im (p.rn s u) v
  | [], _, _ => rfl
  | c :: u, v, s => by
    show p.sx s c :: p.im (p.tx s c) (u ++ v) = _
    rw [nb p u v]; rfl
theorem qd (p : Mpr) (u v : List Int) (s : Int) : p.rn s (u ++ v) = p.rn (p.rn s u) v := by unfold Mpr.rn; rw [List.foldl_append]
theorem ln {p : Mpr} {s : Int} {w : List Int} {k : Nat} (h : k < w.length) : p.im s (w.take (k + 1)) = p.im s (w.take k) ++ [p.sx (p.rn s (w.take k)) (w.getD k 0)] := by
  rw [da 0 h, nb]; rfl
theorem fb {p : Mpr} {s : Int} {w : List Int} {k : Nat} (h : k < w.length) : p.rn s (w.take (k + 1)) = p.tx (p.rn s (w.take k)) (w.getD k 0) := by
  rw [da 0 h, qd]; rfl
theorem l6 {p : Mpr} (h : POK p) {s : Int} (hs : 0 ≤ s ∧ s < p.nx.length) : ∀ {w : List Int}, (∀ i : Nat, i < w.length → 0 ≤ w.getD i 0 ∧ w.getD i 0 < p.inp) → 0 ≤ p.rn s w ∧ p.rn s w < p.nx.length
  | [], _ => hs
  | a :: w, hw => by
    have ha : 0 ≤ a ∧ a < p.inp := by have := hw 0 (by simp); simpa [List.getD] using this
    exact l6 h (h.tx hs ha) (w := w) fun i hi => by have := hw (i + 1) (by simp; omega); simpa [List.getD] using this
def abE (p : Mpr) (w : List Int) : Int := if ¬ bD p = 0 then bD p else c9 w p.inp
def abV (p : Mpr) (w : List Int) : List Int := if abE p w = 0 then p.im p.st w else []
theorem km {p : Mpr} {w : List Int} (h : ¬ bD p = 0) : abE p w = bD p ∧ abV p w = [] := by
  have e : abE p w = bD p := if_pos h
  exact ⟨e, by unfold abV; rw [e, if_neg h]⟩
theorem kj {p : Mpr} {w : List Int} (h : bD p = 0) (h2 : ¬ c9 w p.inp = 0) : abE p w = c9 w p.inp ∧ abV p w = [] := by
  have e : abE p w = c9 w p.inp := if_neg (fun k => k h)
  exact ⟨e, by unfold abV; rw [e, if_neg h2]⟩
theorem i7 {p : Mpr} {w : List Int} (h : bD p = 0) (h2 : c9 w p.inp = 0) : abE p w = 0 ∧ abV p w = p.im p.st w := by
  have e : abE p w = 0 := by unfold abE; rw [if_neg (fun k => k h), h2]
  exact ⟨e, by unfold abV; rw [if_pos e]⟩
/-! The first concrete word. -/
def fcP (p : Mpr) (can : List Bool) (x : Int) (s c : Nat) : Bool := decide ((p.sy.getD s []).getD c 0 = x) && can.getD ((p.nx.getD s []).getD c 0).toNat false
def fcV (p : Mpr) (can : List Bool) (x : Int) (s : Nat) : Nat := ((List.range p.inp.toNat).find? (fcP p can x s)).getD p.inp.toNat
def stC (p : Mpr) (can : List Bool) (x : Int) : List Bool := (List.range p.nx.length).map fun s => decide (fcV p can x s < p.inp.toNat)
def cnP (p : Mpr) : List Int → List Bool
  | [] => List.replicate p.nx.length true
  | x :: w => stC p (cnP p w) x
theorem dw (p : Mpr) : ∀ w, (cnP p w).length = p.nx.length
  | [] => by simp [cnP]
  | _ :: _ => by simp [cnP, stC]
theorem qf {p : Mpr} {can : List Bool} {x : Int} {s c : Nat} (hc : c ≤ p.inp.toNat) (hq : ∀ q, q < c → fcP p can x s q = false) (h : c < p.inp.toNat → fcP p can x s c = true) : fcV p can x s = c := by
  unfold fcV
  by_cases e : c < p.inp.toNat
  · rw [mJ e (h e) hq]; rfl
  · have : c = p.inp.toNat := by omega
    subst this
    rw [mM hq]; rfl
theorem l7 {p : Mpr} {can : List Bool} {x : Int} {s : Nat} (h : fcV p can x s < p.inp.toNat) : fcP p can x s (fcV p can x s) = true ∧ ∀ q, q < fcV p can x s → fcP p can x s q = false := by
  unfold fcV at h ⊢
  cases e : (List.range p.inp.toNat).find? (fcP p can x s) with
  | none => rw [e] at h; simp at h
  | some c =>
    rw [List.find?_eq_some_iff_getElem] at e
    obtain ⟨hp, i, hi, e1, hm⟩ := e
    simp at hi e1
    subst e1
    exact ⟨hp, fun q hq => by have := hm q hq; simpa using this⟩
theorem pJ {p : Mpr} {can : List Bool} {x : Int} {s : Nat} (h : s < p.nx.length) : (stC p can x).getD s false = decide (fcV p can x s < p.inp.toNat) := jL _ false h
def coW (p : Mpr) : Int → List Int → List Int
  | _, [] => []
  | s, x :: w => (fcV p (cnP p w) x s.toNat : Int) :: coW p (p.tx s (fcV p (cnP p w) x s.toNat)) w
def pcE (p : Mpr) (w : List Int) : Int := if ¬ bD p = 0 then bD p else c9 w p.ab
def pcB (p : Mpr) (w : List Int) : Bool := if pcE p w = 0 then (cnP p w).getD p.st.toNat false else false
def pcW (p : Mpr) (w : List Int) : List Int := if pcB p w = true then coW p p.st w else []
/-! One state. -/
def dj (cl : List Int) : Mpr := if dd cl = 0 then ⟨cl.length, jp cl, 0, [List.replicate cl.length 0], [cl]⟩ else jn
end Go.AV
namespace Go.Proofs.YtgmgnkmgofkfpaaDoor
open Go Go.AV
open Nat renaming reduceEqDiff → E, reduceAdd → D, reduceLeDiff → G, reduceLT → U, reduceMul → J, reduceSub → M
open List renaming set_cons_zero → ax, set_cons_succ → aw
def Pof (d : Int × (Int × (Int × (List (List Int) × (List (List Int) × Unit))))) : Mpr := ⟨d.1, d.2.1, d.2.2.1, d.2.2.2.1, d.2.2.2.2.1⟩
/- mapTh -/
end Go.Proofs.YtgmgnkmgofkfpaaDoor
namespace Go.AV
open Nat renaming reduceEqDiff → E, reduceAdd → D, reduceLeDiff → G, reduceLT → U, reduceMul → J, reduceSub → M
open List renaming set_cons_zero → ax, set_cons_succ → aw
/-plain-/
theorem bI (n : Int) : inK .u64 n ↔ 0 ≤ n ∧ n ≤ 18446744073709551615 := by
  simp [inK, IntKind.min, IntKind.max, IntKind.signed, IntKind.bits]
def oW : List UInt8 := [48, 49, 50, 51, 52, 53, 54, 55, 56, 57, 97, 98, 99, 100, 101, 102, 103, 104, 105, 106, 107, 108, 109, 110, 111, 112, 113, 114, 115, 116, 117, 118, 119, 120, 121, 122]
def c36 (n : Nat) : Int := ((oW.getD n 0).toNat : Int)
def dM : Nat → Nat → List Int
  | 0, n => [c36 n]
  | f + 1, n => if n < 36 then [c36 n] else dM f (n / 36) ++ [c36 (n % 36)]
def d36 (n : Nat) : List Int := dM 3 n
theorem iX {f n : Nat} (h : 36 ≤ n) : dM (f + 1) n = dM f (n / 36) ++ [c36 (n % 36)] := by simp only [dM]; rw [if_neg (by omega)]
theorem jH {f n : Nat} (h : n < 36) : dM f n = [c36 n] := by
  cases f with
  | zero => rfl
  | succ f => simp only [dM]; rw [if_pos h]
def bcl (l : List Int) : List AC := l.map (AC.int .u8)
theorem bV (l : List Int) : (bcl l).length = l.length := by simp [bcl]
theorem bU (n : Nat) (z : Int) : List.replicate n (AC.int .u8 z) = bcl (List.replicate n z) := by simp [bcl]
theorem iU {l : List Int} {off : Nat} (h : off < l.length) (v : Int) : aS (bcl l) off [.int .u8 v] = bcl (l.set off v) := by
  unfold aS bcl
  rw [List.set_eq_take_append_cons_drop, if_pos h]
  simp [List.map_take, List.map_drop]
theorem kS {l : List Int} {i j : Nat} (h : i < j) (v : Int) : (l.set i v).drop j = l.drop j := by
  rw [List.drop_set]; rw [if_pos h]
theorem gx {l : List Int} {i : Nat} (h : i < l.length) (v : Int) : (l.set i v).drop i = v :: l.drop (i + 1) := by
  rw [List.drop_eq_getElem_cons (by simpa using h)]
  rw [List.getElem_set_self, kS (by omega)]
def B36 (j u : Nat) : Prop := (j = 0 ∧ u < 1679616) ∨ (j = 1 ∧ u < 46656) ∨ (j = 2 ∧ u < 1296) ∨ (j = 3 ∧ u < 36)
theorem nG {j u : Nat} (h : B36 j u) (hu : 36 ≤ u) : B36 (j + 1) (u / 36) ∧ j ≤ 2 := by unfold B36 at *; omega
theorem lm {j u : Nat} (h : B36 j u) : j ≤ 3 ∧ u < 1679616 := by unfold B36 at h; omega
/-- What is written after j digits: u is left. -/
structure BUF (n u j : Nat) (l : List Int) : Prop where
  b : B36 j u
  len : l.length = 65
  eq : d36 n = dM (3 - j) u ++ l.drop (65 - j)
theorem nM {n u j : Nat} {l : List Int} (h : BUF n u j l) (hu : 36 ≤ u) : BUF n (u / 36) (j + 1) (l.set (64 - j) (c36 (u % 36))) := by
  obtain ⟨b1, b2⟩ := nG h.b hu
  have hl := h.len
  refine ⟨b1, by simpa using hl, ?_⟩
  have e := h.eq
  rw [show 3 - j = (3 - (j + 1)) + 1 by omega, iX hu, List.append_assoc] at e
  rw [e, show 65 - (j + 1) = 64 - j by omega, gx (by omega), show 64 - j + 1 = 65 - j by omega]; rfl
theorem nQ {n u j : Nat} {l : List Int} (h : BUF n u j l) (hu : u < 36) : d36 n = (l.set (64 - j) (c36 u)).drop (64 - j) := by
  have hl := h.len
  have hb := lm h.b
  rw [h.eq, jH hu, gx (by omega), show 64 - j + 1 = 65 - j by omega]; rfl
theorem qC {n : Nat} (h : n < 1679616) : BUF n n 0 (List.replicate 65 0) := ⟨.inl ⟨rfl, h⟩, by simp, by simp [d36]⟩
theorem jy {n : Nat} : (d36 n).length ≤ 4 := by
  have key : ∀ f n, (dM f n).length ≤ f + 1 := fun f => by
    induction f with
    | zero => intro n; simp [dM]
    | succ f ih =>
      intro n
      simp only [dM]
      split
      · simp
      · rw [List.length_append]; have := ih (n / 36); simp; omega
  exact key 3 n
end Go.AV
namespace Go.AV
open Nat renaming reduceEqDiff → E, reduceAdd → D, reduceLeDiff → G, reduceLT → U, reduceMul → J, reduceSub → M
open List renaming set_cons_zero → ax, set_cons_succ → aw
/-plain-/
/-! On d36Th: the key of a set. -/
def gB8 (n : Int) : UInt8 := UInt8.ofNat n.toNat
def kI (x : Int) : List Int := d36 x.toNat ++ [32]
def eh (xs : List Int) : List Int := xs.flatMap kI
def dk (xs : List Int) : List UInt8 := (eh xs).map fun n => UInt8.ofNat n.toNat
def KB (xs : List Int) : Prop := ∀ x ∈ xs, 0 ≤ x ∧ x < 1679616
theorem mw {xs : List Int} {k n : Nat} (h : k < xs.length) (hn : xs.getD k 0 = (n : Int)) : eh (xs.take (k + 1)) = (eh (xs.take k) ++ d36 n) ++ [32] := by
  unfold eh
  rw [da 0 h, List.flatMap_append, List.flatMap_singleton, hn]
  unfold kI
  rw [Int.toNat_natCast, List.append_assoc]
theorem hZ (xs : List Int) : (eh xs).length ≤ 5 * xs.length := by
  unfold eh
  induction xs with
  | nil => simp
  | cons x xs ih =>
    rw [List.flatMap_cons, List.length_append, List.length_cons]
    unfold kI at ih ⊢
    rw [List.length_append]
    have := jy (n := x.toNat)
    simp only [List.length_cons, List.length_nil]
    omega
def dvB (c : UInt8) : Nat := oW.findIdx (· == c)
def kG (l : List UInt8) : Nat := l.foldl (fun a c => a * 36 + dvB c) 0
theorem mo (d : Nat) (h : d < 36) : dvB (gB8 (c36 d)) = d ∧ gB8 (c36 d) ≠ 32 := by
  have key : ∀ d : Fin 36, dvB (gB8 (c36 d.val)) = d.val ∧ gB8 (c36 d.val) ≠ 32 := by decide
  exact key ⟨d, h⟩
theorem et : ∀ (f n : Nat), n < 36 ^ (f + 1) → kG ((dM f n).map gB8) = n ∧ ∀ c ∈ (dM f n).map gB8, c ≠ 32
  | 0, n, h => by
    have := mo n (by simpa using h)
    refine ⟨by simp [dM, kG, this.1], fun c hc => ?_⟩
    simp only [dM, List.map_cons, List.map_nil, List.mem_singleton] at hc
    rw [hc]; exact this.2
  | f + 1, n, h => by
    by_cases e : n < 36
    · rw [jH e]
      have := mo n e
      refine ⟨by simp [kG, this.1], fun c hc => ?_⟩
      simp only [List.map_cons, List.map_nil, List.mem_singleton] at hc
      rw [hc]; exact this.2
    · rw [iX (by omega)]
      obtain ⟨i1, i2⟩ := et f (n / 36) (by rw [Nat.pow_succ] at h; omega)
      have := mo (n % 36) (by omega)
      refine ⟨?_, fun c hc => ?_⟩
      · unfold kG at i1 ⊢
        rw [List.map_append, List.foldl_append, i1]
        simp only [List.map_cons, List.map_nil, List.foldl_cons, List.foldl_nil, this.1]
        omega
      · rw [List.map_append, List.mem_append] at hc
        rcases hc with hc | hc
        · exact i2 c hc
        · simp only [List.map_cons, List.map_nil, List.mem_singleton] at hc
          rw [hc]; exact this.2
theorem p9 {a b : Nat} (ha : a < 1679616) (hb : b < 1679616) (h : (d36 a).map gB8 = (d36 b).map gB8) : a = b := by
  have e1 := (et 3 a (by simpa using ha)).1
  have e2 := (et 3 b (by simpa using hb)).1
  unfold d36 at h
  rw [← e1, ← e2, h]
theorem jU : ∀ {u v a b : List UInt8}, (∀ c ∈ u, c ≠ 32) → (∀ c ∈ v, c ≠ 32) → u ++ 32 :: a = v ++ 32 :: b → u = v ∧ a = b
  | [], [], _, _, _, _, h => ⟨rfl, (List.cons.inj h).2⟩
  | [], y :: _, _, _, _, h2, h => absurd (List.cons.inj h).1.symm (h2 y (List.mem_cons_self ..))
  | x :: _, [], _, _, h1, _, h => absurd (List.cons.inj h).1 (h1 x (List.mem_cons_self ..))
  | x :: u, y :: v, a, b, h1, h2, h => by
    obtain ⟨e1, e2⟩ := List.cons.inj h
    obtain ⟨i1, i2⟩ := jU (fun c hc => h1 c (List.mem_cons_of_mem _ hc)) (fun c hc => h2 c (List.mem_cons_of_mem _ hc)) e2
    exact ⟨by rw [e1, i1], i2⟩
theorem ey (x : Int) (xs : List Int) : dk (x :: xs) = (d36 x.toNat).map gB8 ++ 32 :: dk xs := by
  unfold dk eh
  rw [List.flatMap_cons, List.map_append]
  unfold kI
  rw [List.map_append, List.append_assoc]; rfl
theorem ku : ∀ {xs ys : List Int}, KB xs → KB ys → dk xs = dk ys → xs = ys
  | [], [], _, _, _ => rfl
  | [], y :: ys, _, _, h => by
    rw [ey] at h
    have := congrArg List.length h
    simp [dk, eh] at this
  | x :: xs, [], _, _, h => by
    rw [ey] at h
    have := congrArg List.length h
    simp [dk, eh] at this
  | x :: xs, y :: ys, hx, hy, h => by
    have hx0 := hx x (List.mem_cons_self ..)
    have hy0 := hy y (List.mem_cons_self ..)
    rw [ey, ey] at h
    obtain ⟨e1, e2⟩ := jU (et 3 x.toNat (by simp; omega)).2 (et 3 y.toNat (by simp; omega)).2 h
    have e3 := p9 (by omega) (by omega) e1
    rw [show x = y by omega, ku (fun z hz => hx z (List.mem_cons_of_mem _ hz)) (fun z hz => hy z (List.mem_cons_of_mem _ hz)) e2]
end Go.AV
namespace Go.AV
open Nat renaming reduceEqDiff → E, reduceAdd → D, reduceLeDiff → G, reduceLT → U, reduceMul → J, reduceSub → M
open List renaming set_cons_zero → ax, set_cons_succ → aw
/-plain-/
/-! ### the numbers -/
/-! ### the trimmed machine -/
def Mly.T (m : Mly) : Mly := ⟨m.inp, 0, m.tnx, m.tot⟩
end Go.AV
namespace Go.AV
open Nat renaming reduceEqDiff → E, reduceAdd → D, reduceLeDiff → G, reduceLT → U, reduceMul → J, reduceSub → M
open List renaming set_cons_zero → ax, set_cons_succ → aw
/-plain-/
/-! Sorted lists without repetition. -/
theorem ir : ∀ {xs ys : List Int}, xs.Pairwise (· < ·) → ys.Pairwise (· < ·) → (∀ x, x ∈ xs ↔ x ∈ ys) → xs = ys
  | [], [], _, _, _ => rfl
  | [], y :: ys, _, _, h => by have := (h y).2 (by simp); simp at this
  | x :: xs, [], _, _, h => by have := (h x).1 (by simp); simp at this
  | x :: xs, y :: ys, hx, hy, h => by
    rw [List.pairwise_cons] at hx hy
    have e : x = y := by
      have h1 := (h x).1 (by simp)
      have h2 := (h y).2 (by simp)
      rw [List.mem_cons] at h1 h2
      rcases h1 with h1 | h1
      · exact h1
      · rcases h2 with h2 | h2
        · exact h2.symm
        · have a := hx.1 y h2; have b := hy.1 x h1; omega
    subst e
    rw [ir hx.2 hy.2 fun z => ?_]
    constructor
    · intro hz
      have := (h z).1 (List.mem_cons_of_mem _ hz)
      rw [List.mem_cons] at this
      rcases this with e | h3
      · have := hx.1 z hz; omega
      · exact h3
    · intro hz
      have := (h z).2 (List.mem_cons_of_mem _ hz)
      rw [List.mem_cons] at this
      rcases this with e | h3
      · have := hy.1 z hz; omega
      · exact h3
theorem fo (xs : List Int) (j : Nat) : xs.toArray[j]! = xs.getD j 0 := by
  by_cases h : j < xs.length
  · rw [getElem!_pos _ _ (by simpa using h)]; simp [List.getD, h]
  · rw [getElem!_neg _ _ (by simpa using h)]; simp [List.getD, h]
theorem m4 (xs : List Int) (hs : ∀ i j, i ≤ j → j < xs.length → xs.getD i 0 ≤ xs.getD j 0) : ∀ m, m ≤ xs.length →
    (Lib.compactUpTo xs.toArray m).Pairwise (· < ·) ∧ ∀ x, x ∈ Lib.compactUpTo xs.toArray m ↔ ∃ j, j < m ∧ xs.getD j 0 = x
  | 0, _ => by simp [Lib.compactUpTo]
  | m + 1, hm => by
    obtain ⟨h1, h2⟩ := m4 xs hs m (by omega)
    rw [Lib.compactUpTo_succ]
    cases hk : Lib.keeps xs.toArray m with
    | true =>
      simp only [if_true]
      have hb : m = 0 ∨ xs.getD m 0 ≠ xs.getD (m - 1) 0 := by
        have := of_decide_eq_true hk
        rwa [fo, fo] at this
      refine ⟨?_, fun x => ?_⟩
      · rw [List.pairwise_append]
        refine ⟨h1, by simp, fun a ha b hb2 => ?_⟩
        obtain ⟨j, hj, e⟩ := (h2 a).1 ha
        rw [List.mem_singleton, fo] at hb2
        rw [hb2, ← e]
        have q1 := hs j (m - 1) (by omega) (by omega)
        have q2 := hs (m - 1) m (by omega) (by omega)
        omega
      · rw [List.mem_append, h2, List.mem_singleton, fo]
        constructor
        · rintro (⟨j, hj, e⟩ | e)
          · exact ⟨j, by omega, e⟩
          · exact ⟨m, by omega, e.symm⟩
        · rintro ⟨j, hj, e⟩
          by_cases hjm : j = m
          · exact .inr (by rw [← e, hjm])
          · exact .inl ⟨j, by omega, e⟩
    | false =>
      simp only [Bool.false_eq_true, if_false, List.append_nil]
      have hb : m ≠ 0 ∧ xs.getD m 0 = xs.getD (m - 1) 0 := by
        have := of_decide_eq_false hk
        rw [fo, fo] at this
        refine ⟨fun e => this (.inl e), ?_⟩
        false_or_by_contra
        rename_i hh
        exact this (.inr hh)
      refine ⟨h1, fun x => ?_⟩
      rw [h2]
      constructor
      · rintro ⟨j, hj, e⟩; exact ⟨j, by omega, e⟩
      · rintro ⟨j, hj, e⟩
        by_cases hjm : j = m
        · exact ⟨m - 1, by omega, by rw [← e, hjm, hb.2]⟩
        · exact ⟨j, by omega, e⟩
theorem ny {xs : List Int} {x : Int} : x ∈ xs ↔ ∃ j, j < xs.length ∧ xs.getD j 0 = x := by
  constructor
  · intro h
    obtain ⟨j, hj⟩ := List.getElem?_of_mem h
    exact ⟨j, (List.getElem?_eq_some_iff.1 hj).1, by simp [List.getD, hj]⟩
  · rintro ⟨j, hj, e⟩; rw [← e]; exact dp hj
def d4 (xs : List Int) : List Int := xs.mergeSort fun x y => decide (x ≤ y)
theorem nU (xs : List Int) : ∀ i j, i ≤ j → j < (d4 xs).length → (d4 xs).getD i 0 ≤ (d4 xs).getD j 0 := by
  intro i j hij hj
  by_cases e : i = j
  · rw [e]; omega
  · have hp : (d4 xs).Pairwise (fun x y => decide (x ≤ y) = true) := List.pairwise_mergeSort (le := fun x y => decide (x ≤ y)) (fun a b c h1 h2 => by simp at *; omega) (fun a b => by simp; omega) xs
    have := List.pairwise_iff_getElem.1 hp i j (by omega) hj (by omega)
    simp [List.getD, hj, show i < (d4 xs).length by omega]
    simpa using this
theorem mr {xs : List Int} {x : Int} : x ∈ d4 xs ↔ x ∈ xs := List.mem_mergeSort
theorem cP (xs : List Int) : (d4 xs).length = xs.length := List.length_mergeSort _
def ig (xs : List Int) : List Int := Lib.compact (d4 xs)
theorem dn (xs : List Int) : (ig xs).Pairwise (· < ·) ∧ ∀ x, x ∈ ig xs ↔ x ∈ xs := by
  obtain ⟨h1, h2⟩ := m4 (d4 xs) (nU xs) _ (Nat.le_refl _)
  refine ⟨h1, fun x => ?_⟩
  rw [ig, Lib.compact, h2, ← ny, mr]
theorem dG {xs : List Int} : (Lib.compact xs).length ≤ xs.length := by
  unfold Lib.compact Lib.compactUpTo
  rw [List.length_map]
  exact Nat.le_trans (List.length_filter_le _ _) (by simp)
/-! Insertion. -/
def iv (l : List Int) (n : Int) : List Int := if n ∈ l then l else l.filter (fun x => decide (x < n)) ++ n :: l.filter (fun x => decide (n < x))
theorem nI {l : List Int} {n x : Int} : x ∈ iv l n ↔ x ∈ l ∨ x = n := by
  unfold iv
  split
  · rename_i h
    constructor
    · exact .inl
    · rintro (h1 | h1)
      · exact h1
      · rw [h1]; exact h
  · simp only [List.mem_append, List.mem_filter, List.mem_cons, decide_eq_true_eq]
    constructor
    · rintro (h1 | h1 | h1)
      · exact .inl h1.1
      · exact .inr h1
      · exact .inl h1.1
    · rintro (h1 | h1)
      · by_cases e : x = n
        · exact .inr (.inl e)
        · by_cases e2 : x < n
          · exact .inl ⟨h1, e2⟩
          · exact .inr (.inr ⟨h1, by omega⟩)
      · exact .inr (.inl h1)
theorem kE {l : List Int} {n : Int} (h : l.Pairwise (· < ·)) : (iv l n).Pairwise (· < ·) := by
  unfold iv
  split
  · exact h
  · rw [List.pairwise_append]
    refine ⟨h.filter _, ?_, fun a ha b hb => ?_⟩
    · rw [List.pairwise_cons]
      refine ⟨fun a ha => by simpa using (List.mem_filter.1 ha).2, h.filter _⟩
    · have h1 : a < n := by simpa using (List.mem_filter.1 ha).2
      rw [List.mem_cons] at hb
      rcases hb with hb | hb
      · omega
      · have : n < b := by simpa using (List.mem_filter.1 hb).2
        omega
theorem kC (r : List Int) : ∀ {l : List Int}, l.Pairwise (· < ·) → (r.foldl iv l).Pairwise (· < ·) := by
  induction r with
  | nil => intro l h; exact h
  | cons a r ih => intro l h; exact ih (kE h)
theorem o0 (r : List Int) : ∀ {l : List Int} {x : Int}, x ∈ r.foldl iv l ↔ x ∈ l ∨ x ∈ r := by
  induction r with
  | nil => intro l x; simp
  | cons a r ih => intro l x; rw [List.foldl_cons, ih, nI, List.mem_cons, or_assoc]
theorem kt (xs : List Int) : xs.foldl iv [] = ig xs :=
  ir (kC xs (by simp)) (dn xs).1 fun x => by rw [o0, (dn xs).2]; simp
/-! The reference's trimmed machine. -/
/-! Traces. -/
end Go.AV
namespace Go.AV
open Nat renaming reduceEqDiff → E, reduceAdd → D, reduceLeDiff → G, reduceLT → U, reduceMul → J, reduceSub → M
open List renaming set_cons_zero → ax, set_cons_succ → aw
/-plain-/
/-! Models of mappers. On mapTh, shapesTh, keyTh. -/
abbrev SS := List Int × List Int
def ss0 : SS := ([], [])
/-! A set's number. -/
def cO : List SS → List Int → Nat
  | [], _ => 0
  | s :: S, x => if s.1 = x then 0 else cO S x + 1
def esG : Nat → List SS → List (KV × Int)
  | _, [] => []
  | i, s :: S => (KV.str (dk s.1), (i : Int)) :: esG (i + 1) S
def esS (S : List SS) : List (KV × Int) := esG 0 S
theorem mc (s : SS) : ∀ (S : List SS) (i : Nat), esG i (S ++ [s]) = esG i S ++ [(KV.str (dk s.1), ((i + S.length : Nat) : Int))]
  | [], i => by simp [esG]
  | t :: S, i => by
    show _ :: esG (i + 1) (S ++ [s]) = _
    rw [mc s S (i + 1)]
    simp only [esG, List.cons_append, List.length_cons]
    rw [show i + 1 + S.length = i + (S.length + 1) by omega]
theorem jC {x : List Int} (hx : KB x) : ∀ (S : List SS) (i : Nat), (∀ s ∈ S, KB s.1) → cz (esG i S) (.str (dk x)) = if cO S x < S.length then some ((i + cO S x : Nat) : Int) else none
  | [], i, _ => rfl
  | s :: S, i, h => by
    by_cases e : s.1 = x
    · have p1 : cO (s :: S) x = 0 := if_pos e
      rw [p1, if_pos (by simp)]
      simp only [esG, cz]
      rw [if_pos (by rw [e])]; rfl
    · have p1 : cO (s :: S) x = cO S x + 1 := if_neg e
      rw [p1]
      simp only [esG, cz]
      rw [if_neg (fun k => e (ku (h s (List.mem_cons_self ..)) hx (KV.str.inj k))), jC hx S (i + 1) fun t ht => h t (List.mem_cons_of_mem _ ht)]
      by_cases e2 : cO S x < S.length
      · rw [if_pos e2, if_pos (by simp; omega)]
        exact congrArg (fun z : Nat => some (z : Int)) (by omega)
      · rw [if_neg e2, if_neg (by simp; omega)]
def sgK (S : List SS) (x : List Int) : Int := if cO S x < S.length then (cO S x : Int) else if S.length = 128 then 0 else (S.length : Int)
def sgB (S : List SS) (x : List Int) : Bool := decide (cO S x < S.length ∨ ¬ S.length = 128)
def sgS (S : List SS) (x w : List Int) : List SS := if cO S x < S.length ∨ S.length = 128 then S else S ++ [(x, w)]
theorem jl {S : List SS} {x : List Int} (hS : ∀ s ∈ S, KB s.1) (hx : KB x) : (cz (esS S) (.str (dk x))).isSome = decide (cO S x < S.length) ∧ (cz (esS S) (.str (dk x))).getD 0 = if cO S x < S.length then (cO S x : Int) else 0 := by
  unfold esS
  rw [jC hx S 0 hS]
  by_cases e : cO S x < S.length
  · rw [if_pos e, if_pos e]; simp [e]
  · rw [if_neg e, if_neg e]; simp [e]
theorem fu {S : List SS} {x w : List Int} (hS : ∀ s ∈ S, KB s.1) (hx : KB x) (h : ¬ cO S x < S.length) : dK (esS S) (.str (dk x)) (S.length : Int) = esS (S ++ [(x, w)]) := by
  unfold dK
  rw [(jl hS hx).1, if_neg (by simpa using h)]
  unfold esS
  rw [mc]; simp
theorem fw {S : List SS} {x w : List Int} (h : cO S x < S.length) : sgK S x = (cO S x : Int) ∧ sgB S x = true ∧ sgS S x w = S := ⟨if_pos h, by simp [sgB, h], if_pos (.inl h)⟩
theorem er {S : List SS} {x w : List Int} (h : ¬ cO S x < S.length) (h2 : S.length = 128) : sgK S x = 0 ∧ sgB S x = false ∧ sgS S x w = S := ⟨by unfold sgK; rw [if_neg h, if_pos h2], by unfold sgB; rw [decide_eq_false_iff_not]; omega, if_pos (.inr h2)⟩
theorem fH {S : List SS} {x w : List Int} (h : ¬ cO S x < S.length) (h2 : ¬ S.length = 128) : sgK S x = (S.length : Int) ∧ sgB S x = true ∧ sgS S x w = S ++ [(x, w)] := ⟨by unfold sgK; rw [if_neg h, if_neg h2], by unfold sgB; rw [decide_eq_true_eq]; exact .inr h2, if_neg (by omega)⟩
theorem oQ {S : List SS} {x w : List Int} (h : S.length ≤ 128) : (sgS S x w).length ≤ 128 := by
  unfold sgS
  split
  · exact h
  · rw [List.length_append]; simp; omega
theorem m9 {S : List SS} {x w : List Int} {s : SS} (h : s ∈ sgS S x w) : s ∈ S ∨ s = (x, w) := by
  unfold sgS at h
  split at h
  · exact .inl h
  · simpa using h
/-! What a set of pairs does on an abstract symbol. -/
def oS (p : Mpr) (q : Nat) (a : Int) (c : Nat) : Bool := decide ((p.sy.getD q []).getD c 0 = a)
def cK (p : Mpr) (q : Nat) (a : Int) (i : Nat) : List Nat := (List.range i).filter (oS p q a)
theorem kL {p : Mpr} {q : Nat} {a : Int} {c : Nat} (h : (p.sy.getD q []).getD c 0 = a) : cK p q a (c + 1) = cK p q a c ++ [c] := by
  unfold cK
  rw [List.range_succ, List.filter_append, List.filter_cons_of_pos (by simpa [oS] using h), List.filter_nil]
theorem mG {p : Mpr} {q : Nat} {a : Int} {c : Nat} (h : ¬ (p.sy.getD q []).getD c 0 = a) : cK p q a (c + 1) = cK p q a c := by
  unfold cK
  rw [List.range_succ, List.filter_append, List.filter_cons_of_neg (by simpa [oS] using h), List.filter_nil, List.append_nil]
theorem kF (p : Mpr) (q : Nat) (a : Int) (i : Nat) : (cK p q a i).length ≤ i := by
  unfold cK
  exact Nat.le_trans (List.length_filter_le _ _) (by simp)
def qxN (m : Mly) (x : Int) : Nat := x.toNat / m.nx.length
def sxN (m : Mly) (x : Int) : Nat := x.toNat % m.nx.length
def oC (m : Mly) (x : Int) (c : Nat) : Int := 1 + (m.ot.getD (sxN m x) []).getD c 0
def nC (m : Mly) (p : Mpr) (x : Int) (c : Nat) : Int := (p.nx.getD (qxN m x) []).getD c 0 * (m.nx.length : Int) + (m.nx.getD (sxN m x) []).getD c 0
def oK (m : Mly) (p : Mpr) (x a : Int) (i : Nat) : List Int := (cK p (qxN m x) a i).map (oC m x)
def nK (m : Mly) (p : Mpr) (x a : Int) (i : Nat) : List Int := (cK p (qxN m x) a i).map (nC m p x)
def oK1 (m : Mly) (p : Mpr) (x a : Int) : List Int := if cK p (qxN m x) a p.inp.toNat = [] then [0] else oK m p x a p.inp.toNat
def oA (m : Mly) (p : Mpr) (xs : List Int) (a : Int) : List Int := xs.flatMap fun x => oK1 m p x a
def nA (m : Mly) (p : Mpr) (xs : List Int) (a : Int) : List Int := xs.flatMap fun x => nK m p x a p.inp.toNat
def aO (m : Mly) (p : Mpr) (xs : List Int) (a : Int) : List Int := ig (oA m p xs a)
def aN (m : Mly) (p : Mpr) (xs : List Int) (a : Int) : List Int := ig (if nA m p xs a = [] then xs else nA m p xs a)
theorem oB (m : Mly) (p : Mpr) (x a : Int) : oK m p x a 0 = [] := rfl
theorem ou (m : Mly) (p : Mpr) (x a : Int) : nK m p x a 0 = [] := rfl
theorem mS {m : Mly} {p : Mpr} {x a : Int} {c : Nat} (h : (p.sy.getD (qxN m x) []).getD c 0 = a) : oK m p x a (c + 1) = oK m p x a c ++ [oC m x c] := by
  unfold oK; rw [kL h, List.map_append]; rfl
theorem na {m : Mly} {p : Mpr} {x a : Int} {c : Nat} (h : (p.sy.getD (qxN m x) []).getD c 0 = a) : nK m p x a (c + 1) = nK m p x a c ++ [nC m p x c] := by
  unfold nK; rw [kL h, List.map_append]; rfl
theorem l5 {m : Mly} {p : Mpr} {x a : Int} {c : Nat} (h : ¬ (p.sy.getD (qxN m x) []).getD c 0 = a) : oK m p x a (c + 1) = oK m p x a c ∧ nK m p x a (c + 1) = nK m p x a c := by
  unfold oK nK; rw [mG h]; exact ⟨rfl, rfl⟩
theorem lU {f : Int → List Int} {xs : List Int} {k : Nat} (h : k < xs.length) : (xs.take (k + 1)).flatMap f = (xs.take k).flatMap f ++ f (xs.getD k 0) := by
  rw [da 0 h, List.flatMap_append, List.flatMap_singleton]
theorem lv {m : Mly} {p : Mpr} {xs : List Int} {a : Int} {k : Nat} (h : k < xs.length) : oA m p (xs.take (k + 1)) a = oA m p (xs.take k) a ++ oK1 m p (xs.getD k 0) a := lU h
theorem gQ {m : Mly} {p : Mpr} {xs : List Int} {a : Int} {k : Nat} (h : k < xs.length) : nA m p (xs.take (k + 1)) a = nA m p (xs.take k) a ++ nK m p (xs.getD k 0) a p.inp.toNat := lU h
theorem lG {m : Mly} {p : Mpr} (hp : p.inp ≤ 64) (x a : Int) : (oK1 m p x a).length ≤ 64 ∧ 1 ≤ (oK1 m p x a).length := by
  unfold oK1
  split
  · simp
  · rename_i h
    have := kF p (qxN m x) a p.inp.toNat
    have h2 : (cK p (qxN m x) a p.inp.toNat).length ≠ 0 := fun e => h (List.eq_nil_of_length_eq_zero e)
    simp only [oK, List.length_map]
    omega
theorem lb {m : Mly} {p : Mpr} (x a : Int) (i : Nat) : (oK m p x a i).length ≤ i ∧ (nK m p x a i).length ≤ i := by
  unfold oK nK
  rw [List.length_map, List.length_map]
  exact ⟨kF .., kF ..⟩
theorem kR {f : Int → List Int} (h : ∀ x, (f x).length ≤ 64) : ∀ xs : List Int, (xs.flatMap f).length ≤ 64 * xs.length
  | [] => by simp
  | x :: xs => by
    rw [List.flatMap_cons, List.length_append, List.length_cons]
    have := kR h xs; have := h x; omega
theorem mY {m : Mly} {p : Mpr} (hp : p.inp ≤ 64) (xs : List Int) (a : Int) : (oA m p xs a).length ≤ 64 * xs.length ∧ (nA m p xs a).length ≤ 64 * xs.length :=
  ⟨kR (fun x => (lG hp x a).1) xs, kR (fun x => by have := (lb (m := m) (p := p) x a p.inp.toNat).2; omega) xs⟩
theorem mT {m : Mly} {p : Mpr} (hp : p.inp ≤ 64) {xs : List Int} (h : 0 < xs.length) (a : Int) : 0 < (oA m p xs a).length := by
  match xs, h with
  | x :: xs, _ =>
    show 0 < ((x :: xs).flatMap fun x => oK1 m p x a).length
    rw [List.flatMap_cons, List.length_append]
    have := (lG (m := m) hp x a).2; omega
/-! Sets. -/
structure SB (m : Mly) (p : Mpr) (xs : List Int) : Prop where
  ord : xs.Pairwise (· < ·)
  pos : 0 < xs.length
  rng : ∀ x ∈ xs, 0 ≤ x ∧ x < p.nx.length * m.nx.length
theorem kX {m : Mly} {p : Mpr} (hm : MOK m) (hp : POK p) (hi : m.inp = p.inp) {x : Int} (hx : 0 ≤ x ∧ x < p.nx.length * m.nx.length) {c : Nat} (hc : (c : Int) < p.inp) :
    (qxN m x < p.nx.length ∧ sxN m x < m.nx.length) ∧ (0 ≤ (p.nx.getD (qxN m x) []).getD c 0 * (m.nx.length : Int) ∧ (p.nx.getD (qxN m x) []).getD c 0 * (m.nx.length : Int) ≤ 16384) ∧ 0 ≤ nC m p x c ∧ nC m p x c < p.nx.length * m.nx.length := by
  have hn := hm.n1
  have h1 : qxN m x < p.nx.length := by
    unfold qxN
    rw [Nat.div_lt_iff_lt_mul hn]
    have : ((x.toNat : Nat) : Int) < ((p.nx.length * m.nx.length : Nat) : Int) := by push_cast; omega
    omega
  have h2 : sxN m x < m.nx.length := Nat.mod_lt _ hn
  have h3 := hp.cl _ c h1 hc
  have h4 := hm.nr _ c h2 (by omega)
  have h5 : (p.nx.getD (qxN m x) []).getD c 0 * (m.nx.length : Int) ≤ (p.nx.length - 1 : Int) * m.nx.length := Int.mul_le_mul_of_nonneg_right (by omega) (by omega)
  have h6 : 0 ≤ (p.nx.getD (qxN m x) []).getD c 0 * (m.nx.length : Int) := Int.mul_nonneg h3.1 (by omega)
  have h7 : (p.nx.length - 1 : Int) * m.nx.length = p.nx.length * m.nx.length - m.nx.length := by rw [Int.sub_mul, Int.one_mul]
  have h8 : (p.nx.length : Int) * m.nx.length ≤ 128 * 128 := Int.mul_le_mul (by have := hp.n2; omega) (by have := hm.n2; omega) (by omega) (by omega)
  refine ⟨⟨h1, h2⟩, ⟨h6, by omega⟩, ?_⟩
  unfold nC
  omega
theorem SB.kb {m : Mly} {p : Mpr} {xs : List Int} (h : SB m p xs) (hm : MOK m) (hp : POK p) : KB xs := fun x hx => by
  have := h.rng x hx
  have h8 : (p.nx.length : Int) * m.nx.length ≤ 128 * 128 := Int.mul_le_mul (by have := hp.n2; omega) (by have := hm.n2; omega) (by omega) (by omega)
  omega
theorem iA : ∀ {xs : List Int} {a b : Int}, xs.Pairwise (· < ·) → (∀ x ∈ xs, a ≤ x ∧ x < b) → (xs.length : Int) ≤ b - a ∨ xs = []
  | [], _, _, _, _ => .inr rfl
  | x :: xs, a, b, h, hr => .inl (by
    obtain ⟨h1, h2⟩ := List.pairwise_cons.1 h
    have hx := hr x (List.mem_cons_self ..)
    rcases iA (a := x + 1) (b := b) h2 (fun y hy => ⟨by have := h1 y hy; omega, (hr y (List.mem_cons_of_mem _ hy)).2⟩) with e | e
    · simp only [List.length_cons]; omega
    · rw [e]; simp only [List.length_cons, List.length_nil]; omega)
theorem SB.len {m : Mly} {p : Mpr} {xs : List Int} (h : SB m p xs) (hm : MOK m) (hp : POK p) : xs.length ≤ 16384 := by
  have h8 : (p.nx.length : Int) * m.nx.length ≤ 128 * 128 := Int.mul_le_mul (by have := hp.n2; omega) (by have := hm.n2; omega) (by omega) (by omega)
  rcases iA h.ord h.rng with e | e
  · omega
  · rw [e]; simp
theorem p6 {m : Mly} {p : Mpr} {xs : List Int} (h : SB m p xs) (hm : MOK m) (hp : POK p) (hi : m.inp = p.inp) (a : Int) : SB m p (aN m p xs a) := by
  unfold aN
  have hr : ∀ y ∈ (if nA m p xs a = [] then xs else nA m p xs a), 0 ≤ y ∧ y < p.nx.length * m.nx.length := by
    intro y hy
    split at hy
    · exact h.rng y hy
    · unfold nA at hy
      obtain ⟨x, hx, hy⟩ := List.mem_flatMap.1 hy
      unfold nK at hy
      obtain ⟨c, hc, rfl⟩ := List.mem_map.1 hy
      unfold cK at hc
      have hc2 := List.mem_range.1 (List.mem_filter.1 hc).1
      exact (kX hm hp hi (h.rng x hx) (c := c) (by omega)).2.2
  have hne : (if nA m p xs a = [] then xs else nA m p xs a) ≠ [] := by
    split
    · intro e; have := h.pos; rw [e] at this; simp at this
    · assumption
  refine ⟨(dn _).1, ?_, fun x hx => hr x (((dn _).2 x).1 hx)⟩
  rcases hu : ig (if nA m p xs a = [] then xs else nA m p xs a) with _ | ⟨y, l⟩
  · exfalso
    obtain ⟨y, l, e⟩ := List.exists_cons_of_ne_nil hne
    have := ((dn _).2 y).2 (show y ∈ (if nA m p xs a = [] then xs else nA m p xs a) by rw [e]; exact List.mem_cons_self ..)
    rw [hu] at this; cases this
  · simp
theorem mz {xs : List Int} (h : 0 < xs.length) : 0 < (ig xs).length := by
  match xs, h with
  | x :: xs, _ => exact List.length_pos_of_mem (((dn (x :: xs)).2 x).2 (List.mem_cons_self ..))
def dh (s : SS) : List Int × (List Int × Unit) := (s.1, (s.2, ()))
theorem pX {m : Mly} {x : Int} (h : 0 ≤ x) : x.tdiv (m.nx.length : Int) = (qxN m x : Int) ∧ x.tmod (m.nx.length : Int) = (sxN m x : Int) := by
  obtain ⟨y, rfl⟩ := Int.eq_ofNat_of_zero_le h
  exact ⟨rfl, rfl⟩
theorem qt {m : Mly} {p : Mpr} {xs : List Int} {a : Int} {k : Nat} (h : k < xs.length) (e : cK p (qxN m (xs.getD k 0)) a p.inp.toNat = []) : oA m p (xs.take (k + 1)) a = oA m p (xs.take k) a ++ oK m p (xs.getD k 0) a p.inp.toNat ++ [0] := by
  rw [lv h]; unfold oK1 oK
  rw [if_pos e, e]; simp
theorem qs {m : Mly} {p : Mpr} {xs : List Int} {a : Int} {k : Nat} (h : k < xs.length) (e : ¬ cK p (qxN m (xs.getD k 0)) a p.inp.toNat = []) : oA m p (xs.take (k + 1)) a = oA m p (xs.take k) a ++ oK m p (xs.getD k 0) a p.inp.toNat := by
  rw [lv h]; unfold oK1
  rw [if_neg e]
theorem oy {p : Mpr} {q : Nat} {a : Int} {c : Nat} (h : (p.sy.getD q []).getD c 0 = a) : (cK p q a (c + 1)).isEmpty = false := by rw [kL h]; simp
theorem qJ {m : Mly} {p : Mpr} {xs : List Int} {a : Int} (h : (nA m p xs a).length = 0) : aN m p xs a = Lib.compact (d4 xs) := by
  unfold aN; rw [if_pos (List.eq_nil_of_length_eq_zero h)]; rfl
theorem qH {m : Mly} {p : Mpr} {xs : List Int} {a : Int} (h : ¬ (nA m p xs a).length = 0) : aN m p xs a = Lib.compact (d4 (nA m p xs a)) := by
  unfold aN; rw [if_neg (fun e => h (by rw [e]; rfl))]; rfl
/-! The model. -/
structure Mres where
  my : Mly
  w : List Int
  a : Int
  b : Int
  f : Bool
  e : Int
def ju : Mly := ⟨0, 0, [], []⟩
def fQ (e : Int) : Mres := ⟨ju, [], 0, 0, false, e⟩
structure MS where
  S : List SS
  N : List (List Int)
  O : List (List Int)
  nr : List Int
  os : List Int
def cwM (s : MS) (i : Nat) (a : Nat) : List Int := (s.S.getD i ss0).2 ++ [(a : Int)]
def cxM (s : MS) (i : Nat) : List Int := (s.S.getD i ss0).1
def lu (m : Mly) (p : Mpr) (i : Nat) (s : MS) (a : Nat) : MS :=
  { S := sgS s.S (aN m p (cxM s i) a) (cwM s i a), N := s.N, O := s.O, nr := s.nr ++ [sgK s.S (aN m p (cxM s i) a)], os := s.os ++ [(aO m p (cxM s i) a).getD 0 0] }
def cM (m : Mly) (p : Mpr) (i : Nat) (s : MS) (a : Nat) : Option Mres :=
  if 1 < (aO m p (cxM s i) a).length then some ⟨ju, cwM s i a, (aO m p (cxM s i) a).getD 0 0, (aO m p (cxM s i) a).getD 1 0, false, 0⟩
  else if 1048576 < (aO m p (cxM s i) a).getD 0 0 then some (fQ 2)
  else if sgB s.S (aN m p (cxM s i) a) = false then some (fQ 11) else none
def cj (m : Mly) (p : Mpr) : Nat → MS
  | 0 => ⟨[([p.st * (m.nx.length : Int) + m.st], [])], [], [], [], []⟩
  | i + 1 => let s := (List.range p.ab.toNat).foldl (lu m p i) (cj m p i); ⟨s.S, s.N ++ [s.nr], s.O ++ [s.os], [], []⟩
def c8 (m : Mly) (p : Mpr) (i a : Nat) : MS := (List.range a).foldl (lu m p i) (cj m p i)
theorem mq (m : Mly) (p : Mpr) (i : Nat) : c8 m p i 0 = cj m p i := rfl
theorem eC (m : Mly) (p : Mpr) (i a : Nat) : c8 m p i (a + 1) = lu m p i (c8 m p i a) a := by
  unfold c8; rw [List.range_succ, List.foldl_append]; rfl
theorem g8 (m : Mly) (p : Mpr) (i : Nat) : cj m p (i + 1) = ⟨(c8 m p i p.ab.toNat).S, (c8 m p i p.ab.toNat).N ++ [(c8 m p i p.ab.toNat).nr], (c8 m p i p.ab.toNat).O ++ [(c8 m p i p.ab.toNat).os], [], []⟩ := rfl
def m8 (p : Mpr) (s : MS) : Mres := ⟨⟨p.ab, 0, s.N, s.O⟩, [], 0, 0, true, 0⟩
def goM (m : Mly) (p : Mpr) : Nat → Nat → Mres
  | 0, i => m8 p (cj m p i)
  | f + 1, i => if i < (cj m p i).S.length then match (List.range p.ab.toNat).findSome? (fun a => cM m p i (c8 m p i a) a) with
      | some r => r
      | none => goM m p f (i + 1) else m8 p (cj m p i)
def fh (m : Mly) (p : Mpr) : Int := if ¬ ck m = 0 then ck m else if ¬ bD p = 0 then bD p else if ¬ m.inp = p.inp then 15 else 0
def mdl (m : Mly) (p : Mpr) : Mres := if fh m p = 0 then goM m p 129 0 else fQ (fh m p)
def RIM (m : Mly) (p : Mpr) (i : Nat) : Prop := ∀ j, j < i → j < (cj m p j).S.length ∧ ∀ a, a < p.ab.toNat → cM m p j (c8 m p j a) a = none
theorem iq {f : Nat → Option Mres} {n : Nat} (h : ∀ a, a < n → f a = none) : (List.range n).findSome? f = none := by
  rw [List.findSome?_eq_none_iff]
  intro a ha; exact h a (List.mem_range.1 ha)
theorem lE {f : Nat → Option Mres} {n a : Nat} {r : Mres} (hn : a < n) (h : ∀ b, b < a → f b = none) (h2 : f a = some r) : (List.range n).findSome? f = some r := by
  have e : List.range n = List.range a ++ (List.range (n - a)).map (a + ·) := by rw [← List.range_add]; congr 1; omega
  rw [e, List.findSome?_append, iq h]
  rw [show n - a = (n - a - 1) + 1 by omega, List.range_succ_eq_map]
  simp [h2]
theorem ic {m : Mly} {p : Mpr} : ∀ {i : Nat}, i ≤ 129 → RIM m p i → goM m p 129 0 = goM m p (129 - i) i
  | 0, _, _ => rfl
  | i + 1, hi, h => by
    rw [ic (i := i) (by omega) fun j hj => h j (by omega)]
    obtain ⟨h1, h2⟩ := h i (by omega)
    rw [show 129 - i = (129 - (i + 1)) + 1 by omega]
    show (if _ then _ else _) = _
    rw [if_pos h1, iq h2]
theorem oI {m : Mly} {p : Mpr} {i : Nat} (hi : i ≤ 128) (h : RIM m p i) (h2 : ¬ i < (cj m p i).S.length) : goM m p 129 0 = m8 p (cj m p i) := by
  rw [ic (by omega) h, show 129 - i = (128 - i) + 1 by omega]
  show (if _ then _ else _) = _
  rw [if_neg h2]
theorem ia {m : Mly} {p : Mpr} {i a : Nat} {r : Mres} (hi : i ≤ 128) (h : RIM m p i) (h2 : i < (cj m p i).S.length) (ha : a < p.ab.toNat) (h3 : ∀ b, b < a → cM m p i (c8 m p i b) b = none) (h4 : cM m p i (c8 m p i a) a = some r) : goM m p 129 0 = r := by
  rw [ic (by omega) h, show 129 - i = (128 - i) + 1 by omega]
  show (if _ then _ else _) = _
  rw [if_pos h2, lE ha h3 h4]
theorem kv {m : Mly} {p : Mpr} {i : Nat} (h : RIM m p i) (h2 : i < (cj m p i).S.length) (h3 : ∀ b, b < p.ab.toNat → cM m p i (c8 m p i b) b = none) : RIM m p (i + 1) := fun j hj => by
  by_cases e : j = i
  · rw [e]; exact ⟨h2, h3⟩
  · exact h j (by omega)
/-- What holds of the sets. -/
structure SVM (m : Mly) (p : Mpr) (k : Nat) (S : List SS) : Prop where
  sb : ∀ s ∈ S, SB m p s.1
  wl : ∀ s ∈ S, s.2.length ≤ k
  le : S.length ≤ 128
theorem hD {m : Mly} {p : Mpr} (hm : MOK m) (hp : POK p) : SB m p [p.st * (m.nx.length : Int) + m.st] := by
  have h1 := hp.s1; have h2 := hp.s2; have h3 := hm.s1; have h4 := hm.s2
  have h5 : p.st * (m.nx.length : Int) ≤ (p.nx.length - 1 : Int) * m.nx.length := Int.mul_le_mul_of_nonneg_right (by omega) (by omega)
  have h6 : 0 ≤ p.st * (m.nx.length : Int) := Int.mul_nonneg h1 (by omega)
  have h7 : (p.nx.length - 1 : Int) * m.nx.length = p.nx.length * m.nx.length - m.nx.length := by rw [Int.sub_mul, Int.one_mul]
  refine ⟨by simp, by simp, fun x hx => ?_⟩
  rw [List.mem_singleton] at hx
  rw [hx]; omega
theorem SVM.at_ {m : Mly} {p : Mpr} {k i : Nat} {S : List SS} (h : SVM m p k S) (hi : i < S.length) : SB m p (S.getD i ss0).1 ∧ (S.getD i ss0).2.length ≤ k := by
  have : S.getD i ss0 ∈ S := by simp [List.getD, hi]
  exact ⟨h.sb _ this, h.wl _ this⟩
theorem SVM.kb {m : Mly} {p : Mpr} {k : Nat} {S : List SS} (h : SVM m p k S) (hm : MOK m) (hp : POK p) : ∀ s ∈ S, KB s.1 := fun s hs => (h.sb s hs).kb hm hp
theorem pT (S : List SS) (x w : List Int) : S.length ≤ (sgS S x w).length := by
  unfold sgS
  split
  · exact Nat.le_refl _
  · simp
theorem j9 {m : Mly} {p : Mpr} {i : Nat} : ∀ a, (cj m p i).S.length ≤ (c8 m p i a).S.length
  | 0 => Nat.le_refl _
  | a + 1 => by rw [eC]; exact Nat.le_trans (j9 a) (pT _ _ _)
theorem qj {S : List SS} {x w : List Int} {i : Nat} (h : i < S.length) : (sgS S x w).getD i ss0 = S.getD i ss0 := by
  unfold sgS
  split
  · rfl
  · simp [List.getD, List.getElem?_append_left h]
/-- Up to a column. -/
theorem jb {m : Mly} {p : Mpr} (hm : MOK m) (hp : POK p) (hi : m.inp = p.inp) {i : Nat} (h0 : SVM m p i (cj m p i).S) (h1 : i < (cj m p i).S.length) : ∀ a, SVM m p (i + 1) (c8 m p i a).S ∧ (c8 m p i a).S.getD i ss0 = (cj m p i).S.getD i ss0
  | 0 => ⟨⟨h0.sb, fun s hs => by have := h0.wl s hs; omega, h0.le⟩, rfl⟩
  | a + 1 => by
    obtain ⟨h2, h3⟩ := jb hm hp hi h0 h1 a
    have h4 := j9 (m := m) (p := p) (i := i) a
    rw [eC]
    refine ⟨⟨fun s hs => ?_, fun s hs => ?_, oQ h2.le⟩, (qj (by omega)).trans h3⟩
    · rcases m9 hs with h | h
      · exact h2.sb s h
      · rw [h]; exact p6 (h2.at_ (by omega)).1 hm hp hi _
    · rcases m9 hs with h | h
      · exact h2.wl s h
      · rw [h]
        show (((c8 m p i a).S.getD i ss0).2 ++ [(a : Int)]).length ≤ _
        rw [List.length_append, h3]; have := (h0.at_ h1).2; simp only [List.length_cons, List.length_nil]; omega
theorem gG {m : Mly} {p : Mpr} (hm : MOK m) (hp : POK p) (hi : m.inp = p.inp) : ∀ {i : Nat}, RIM m p i → SVM m p i (cj m p i).S
  | 0, _ => ⟨fun s hs => by
      have : s = ([p.st * (m.nx.length : Int) + m.st], []) := List.mem_singleton.1 hs
      rw [this]; exact hD hm hp, fun s hs => by
      have : s = ([p.st * (m.nx.length : Int) + m.st], []) := List.mem_singleton.1 hs
      rw [this]; exact Nat.le_refl _, by show 1 ≤ 128; omega⟩
  | i + 1, h => by
    rw [g8]
    exact (jb hm hp hi (gG hm hp hi fun j hj => h j (by omega)) (h i (by omega)).1 _).1
theorem gR {m : Mly} {p : Mpr} (hm : MOK m) (hp : POK p) (hi : m.inp = p.inp) {i : Nat} (h : RIM m p i) : i ≤ 128 := by
  match i, h with
  | 0, _ => omega
  | i + 1, h =>
    have h1 := h i (by omega)
    have := (gG (i := i) hm hp hi fun j hj => h j (by omega)).le
    omega
/-! How long the rows are. -/
theorem gD {m : Mly} {p : Mpr} {i : Nat} : ∀ a, (c8 m p i a).N = (cj m p i).N ∧ (c8 m p i a).O = (cj m p i).O ∧ (c8 m p i a).nr.length = (cj m p i).nr.length + a ∧ (c8 m p i a).os.length = (cj m p i).os.length + a
  | 0 => ⟨rfl, rfl, rfl, rfl⟩
  | a + 1 => by
    obtain ⟨h1, h2, h3, h4⟩ := gD (i := i) a
    rw [eC]
    refine ⟨h1, h2, ?_, ?_⟩
    · show (_ ++ [_]).length = _
      rw [List.length_append, h3]; simp; omega
    · show (_ ++ [_]).length = _
      rw [List.length_append, h4]; simp; omega
theorem fi (m : Mly) (p : Mpr) : ∀ i, (cj m p i).nr = [] ∧ (cj m p i).os = [] ∧ (cj m p i).N.length = i ∧ (cj m p i).O.length = i
  | 0 => ⟨rfl, rfl, rfl, rfl⟩
  | i + 1 => by
    obtain ⟨_, _, h3, h4⟩ := fi m p i
    obtain ⟨h1, h2, _, _⟩ := gD (m := m) (p := p) (i := i) p.ab.toNat
    rw [g8]
    refine ⟨rfl, rfl, ?_, ?_⟩
    · show (_ ++ [_]).length = _
      rw [List.length_append, h1, h3]; rfl
    · show (_ ++ [_]).length = _
      rw [List.length_append, h2, h4]; rfl
def Mres.av (r : Mres) : AV := .tup [r.my.av, .agg [.list (.int .i64) r.w, .int .i64 r.a, .int .i64 r.b], .one (.bool r.f), .one (.int .i64 r.e)]
theorem qx {m : Mly} {p : Mpr} (h : ¬ ck m = 0) : mdl m p = fQ (ck m) := by
  have e : fh m p = ck m := if_pos h
  unfold mdl; rw [e, if_neg h]
theorem qG {m : Mly} {p : Mpr} (h0 : ck m = 0) (h : ¬ bD p = 0) : mdl m p = fQ (bD p) := by
  have e : fh m p = bD p := by unfold fh; rw [if_neg (fun k => k h0), if_pos h]
  unfold mdl; rw [e, if_neg h]
theorem qw {m : Mly} {p : Mpr} (h0 : ck m = 0) (h1 : bD p = 0) (h : ¬ m.inp = p.inp) : mdl m p = fQ 15 := by
  have e : fh m p = 15 := by unfold fh; rw [if_neg (fun k => k h0), if_neg (fun k => k h1), if_pos h]
  unfold mdl; rw [e, if_neg (by decide)]
theorem iS {m : Mly} {p : Mpr} (h0 : ck m = 0) (h1 : bD p = 0) (h : m.inp = p.inp) : mdl m p = goM m p 129 0 := by
  have e : fh m p = 0 := by unfold fh; rw [if_neg (fun k => k h0), if_neg (fun k => k h1), if_neg (fun k => k h)]
  unfold mdl; rw [if_pos e]
theorem qo {m : Mly} {p : Mpr} {i a : Nat} {s : MS} (h : 1 < (aO m p (cxM s i) a).length) : cM m p i s a = some ⟨ju, cwM s i a, (aO m p (cxM s i) a).getD 0 0, (aO m p (cxM s i) a).getD 1 0, false, 0⟩ := if_pos h
theorem pK {m : Mly} {p : Mpr} {i a : Nat} {s : MS} (h0 : ¬ 1 < (aO m p (cxM s i) a).length) (h : 1048576 < (aO m p (cxM s i) a).getD 0 0) : cM m p i s a = some (fQ 2) := by
  unfold cM; rw [if_neg h0, if_pos h]
theorem pL {m : Mly} {p : Mpr} {i a : Nat} {s : MS} (h0 : ¬ 1 < (aO m p (cxM s i) a).length) (h1 : ¬ 1048576 < (aO m p (cxM s i) a).getD 0 0) (h : sgB s.S (aN m p (cxM s i) a) = false) : cM m p i s a = some (fQ 11) := by
  unfold cM; rw [if_neg h0, if_neg h1, if_pos h]
theorem pm {m : Mly} {p : Mpr} {i a : Nat} {s : MS} (h0 : ¬ 1 < (aO m p (cxM s i) a).length) (h1 : ¬ 1048576 < (aO m p (cxM s i) a).getD 0 0) (h : sgB s.S (aN m p (cxM s i) a) = true) : cM m p i s a = none := by
  unfold cM; rw [if_neg h0, if_neg h1, if_neg (by rw [h]; decide)]
theorem mH {m : Mly} {p : Mpr} {i a : Nat} (h : ∀ b, b < a → cM m p i (c8 m p i b) b = none) (h2 : cM m p i (c8 m p i a) a = none) : ∀ b, b < a + 1 → cM m p i (c8 m p i b) b = none := fun b hb => by
  by_cases e : b = a
  · rw [e]; exact h2
  · exact h b (by omega)
theorem qb {m : Mly} {p : Mpr} (hp : POK p) {xs : List Int} (h : 0 < xs.length) (a : Int) : 0 < (aO m p xs a).length := mz (mT hp.i2 h a)
theorem pW {S : List SS} {k : Nat} (h : k < S.length) (d : List Int × (List Int × Unit)) : (List.map dh S).getD k d = ((S.getD k ss0).1, ((S.getD k ss0).2, ())) := by
  simp [List.getD, h, dh]
theorem pZ {m : Mly} {p : Mpr} (hm : MOK m) (hp : POK p) : 0 ≤ p.st * (m.nx.length : Int) ∧ p.st * (m.nx.length : Int) ≤ 16384 := by
  have h1 := hp.s1; have h2 := hp.s2
  have h5 : p.st * (m.nx.length : Int) ≤ 128 * 128 := Int.mul_le_mul (by have := hp.n2; omega) (by have := hm.n2; omega) (by omega) (by omega)
  exact ⟨Int.mul_nonneg h1 (by omega), by omega⟩
/-! The reference's sets. -/
end Go.AV
namespace Go.AV
open Nat renaming reduceEqDiff → E, reduceAdd → D, reduceLeDiff → G, reduceLT → U, reduceMul → J, reduceSub → M
open List renaming set_cons_zero → ax, set_cons_succ → aw
/-plain-/
/-! Models, to be counted out. On pmdTh. -/
def bo : Mly := ⟨2, 0, [[1, 0], [1, 0]], [[1, 0], [1, 2]]⟩
def bu : Mpr := ⟨2, 2, 0, [[1, 0], [1, 0]], [[0, 1], [1, 0]]⟩
def uqF (xs : List Int) : List Int := xs.foldl iv []
def aOF (m : Mly) (p : Mpr) (xs : List Int) (a : Int) : List Int := uqF (oA m p xs a)
def aNF (m : Mly) (p : Mpr) (xs : List Int) (a : Int) : List Int := uqF (if nA m p xs a = [] then xs else nA m p xs a)
theorem nf : aOF = aO := by funext m p xs a; exact kt _
theorem nc : aNF = aN := by funext m p xs a; exact kt _
def mV (m : Mly) (p : Mpr) (i : Nat) (s : MS) (a : Nat) : MS :=
  { S := sgS s.S (aNF m p (cxM s i) a) (cwM s i a), N := s.N, O := s.O, nr := s.nr ++ [sgK s.S (aNF m p (cxM s i) a)], os := s.os ++ [(aOF m p (cxM s i) a).getD 0 0] }
theorem m3 : mV = lu := by funext m p i s a; unfold mV lu; rw [nf, nc]
def mE (m : Mly) (p : Mpr) (i : Nat) (s : MS) (a : Nat) : Option Mres :=
  if 1 < (aOF m p (cxM s i) a).length then some ⟨ju, cwM s i a, (aOF m p (cxM s i) a).getD 0 0, (aOF m p (cxM s i) a).getD 1 0, false, 0⟩
  else if 1048576 < (aOF m p (cxM s i) a).getD 0 0 then some (fQ 2)
  else if sgB s.S (aNF m p (cxM s i) a) = false then some (fQ 11) else none
theorem nt : mE = cM := by funext m p i s a; unfold mE cM; rw [nf, nc]
def iZ (m : Mly) (p : Mpr) : Nat → MS
  | 0 => ⟨[([p.st * (m.nx.length : Int) + m.st], [])], [], [], [], []⟩
  | i + 1 => let s := (List.range p.ab.toNat).foldl (mV m p i) (iZ m p i); ⟨s.S, s.N ++ [s.nr], s.O ++ [s.os], [], []⟩
theorem gn (m : Mly) (p : Mpr) : ∀ i, iZ m p i = cj m p i
  | 0 => rfl
  | i + 1 => by unfold iZ cj; rw [gn m p i, m3]
def pe (m : Mly) (p : Mpr) (i a : Nat) : MS := (List.range a).foldl (mV m p i) (iZ m p i)
theorem oT : pe = c8 := by funext m p i a; unfold pe c8; rw [gn, m3]
def ld (m : Mly) (p : Mpr) : Nat → Nat → Mres
  | 0, i => m8 p (iZ m p i)
  | f + 1, i => if i < (iZ m p i).S.length then match (List.range p.ab.toNat).findSome? (fun a => mE m p i (pe m p i a) a) with
      | some r => r
      | none => ld m p f (i + 1) else m8 p (iZ m p i)
theorem hJ (m : Mly) (p : Mpr) : ∀ f i, ld m p f i = goM m p f i
  | 0, i => by unfold ld goM; rw [gn]
  | f + 1, i => by
    unfold ld goM
    rw [gn, nt, oT]
    simp only [hJ m p f (i + 1)]
    all_goals rfl
theorem qa : mdl bo (dj [0, 0]) = ⟨ju, [0], 1, 2, false, 0⟩ := by
  have e : fh bo (dj [0, 0]) = 0 := by decide +kernel
  unfold mdl; rw [if_pos e, ← hJ]
  rfl
theorem pN : mdl bo bu = ⟨⟨2, 0, [[1, 0], [0, 1]], [[2, 1], [3, 2]]⟩, [], 0, 0, true, 0⟩ := by
  have e : fh bo bu = 0 := by decide +kernel
  unfold mdl; rw [if_pos e, ← hJ]
  rfl
theorem du (m : Mly) : jd m m = true := by simp [jd]
end Go.AV
namespace Go.Proofs.YtgmgnkmgofkfpaaDoor
open Go Go.AV
open Nat renaming reduceEqDiff → E, reduceAdd → D, reduceLeDiff → G, reduceLT → U, reduceMul → J, reduceSub → M
open List renaming set_cons_zero → ax, set_cons_succ → aw
set_option maxRecDepth 100000 in
theorem jX  : cd Tryd.prog 35 [] (bo.av) := by
 refine bn Tryd.func35 rfl (by kernel_rfl) (Nat.le_of_ble_eq_true rfl) rfl fun C hP hN hB => ?_
 replace hN : C.N = 8 := hN
 simp only [a8, D]
 refine aa fun K1 hK1 => ?_
 refine ai hP hN rfl ?_
 (refine a9 rfl fun K0 V => ?_; simp only [zE, op1, ev, lkp, ag, af, co, reduceCtorEq, E, D, G, U, J, M, Tryd.st47, Tryd.td47, Mly.av, bo]; (repeat refine And.intro (by first | omega | assumption | exact rfl) ?_); (first | refine V _ ?_ | refine Or.inl (V _ ?_)); clear V K0; simp only [put, app, Z, ae, zE, zS, D])
 refine ah ?_
 refine hK1 _ ?_; clear hK1; refine ad [0] ?_; simp only [Y, lkp, zE, reduceCtorEq, E, a8, D]
 refine aa fun K2 hK2 => ?_
 refine ai hP hN rfl ?_
 iterate 8 (refine a9 rfl fun K0 V => ?_; simp only [zE, op1, ev, lkp, ag, af, aZ, bj, bM, rep, aI, aS, ar, Ty.size, cm, bK, Nat.mul_one, acs, Ty.dflt, zG, reduceCtorEq, E, D, G, U, J, M, Tryd.el22, Tryd.el25, Tryd.st47, Tryd.td2, Tryd.td22, Tryd.td25, Tryd.td47, Mly.av, bo]; (repeat refine And.intro (by first | omega | assumption | exact rfl) ?_); (first | refine V _ ?_ | refine Or.inl (V _ ?_)); clear V K0; simp only [put, app, Z, ae, zE, zS, D])
 refine ah ?_
 refine hK2 _ ?_; clear hK2; refine ad [0] ?_; simp only [Y, lkp, zE, reduceCtorEq, E, a8, D]
 refine aL ?_
 refine ⟨by first | exact .inl rfl | exact .inr rfl, _, rfl, ?_⟩; simp only [fzV, fz1, fzC, List.map_cons, List.map_nil, Y, lkp, zE, reduceCtorEq, E, a8, D, Mly.av, bo]
 refine VLE.of_eq ?_
 rfl
end Go.Proofs.YtgmgnkmgofkfpaaDoor
namespace Go.Proofs.YtgmgnkmgofkfpaaDoor
open Go Go.AV
open Nat renaming reduceEqDiff → E, reduceAdd → D, reduceLeDiff → G, reduceLT → U, reduceMul → J, reduceSub → M
open List renaming set_cons_zero → ax, set_cons_succ → aw
set_option maxRecDepth 100000 in
theorem fA (xs ys : List Int) : cd Tryd.prog 20 [.one (.list (.int .i64) xs), .one (.list (.int .i64) ys)] (.one (.bool (decide (xs = ys)))) := by
 refine bn Tryd.func20 rfl (by kernel_rfl) (Nat.le_of_ble_eq_true rfl) rfl fun C hP hN hB => ?_
 replace hN : C.N = 26 := hN
 simp only [a8, D]
 refine jj 0 rfl fun hf0 => ?_; simp only [lkp, if_true, if_false, reduceCtorEq, E, eq_self, Nat.one_ne_zero, Nat.zero_ne_one, lD, jW, kw, Fit, and_true, implies_true, true_and] at hf0
 refine aa fun K1 hK1 => ?_
 refine ai hP hN rfl ?_
 (refine a9 rfl fun K0 V => ?_; simp only [zE, op1, ev, lkp, ag, af, ev, reduceCtorEq, E, D, G, U, J, M, Tryd.td4]; refine V _ ?_; clear V K0; simp only [put, app, Z, ae, zE, zS, D])
 refine ah ?_
 refine hK1 _ ?_; clear hK1; refine ad [0, 1, 4] ?_; simp only [Y, lkp, zE, reduceCtorEq, E, a8, D]
 refine aa fun K2 hK2 => ?_
 refine aa fun K3 hK3 => ?_
 refine ai hP hN rfl ?_
 iterate 5 (refine a9 rfl fun K0 V => ?_; simp only [zE, op1, ev, lkp, ag, af, aF, bz, bi, ba, bc, bv, Nat.div_one, aK, bg, Ty.size, aI, dite_true, aD, aC, aB, ak, aA, aP, reduceCtorEq, E, D, G, U, J, M, Tryd.el25, Tryd.td25, Tryd.td3, Tryd.td4]; (repeat refine And.intro (by first | omega | assumption | exact rfl) ?_); (first | refine V _ ?_ | refine Or.inl (V _ ?_)); clear V K0; simp only [put, app, Z, ae, zE, zS, D])
 refine ah ?_
 refine hK3 _ ?_; clear hK3; refine ad [0, 1, 4, 10] ?_; simp only [Y, lkp, zE, reduceCtorEq, E, a8, D]
 refine aE (by simp only [ev, Y, lkp, zE, reduceCtorEq, E, a8, D]; exact rfl) (fun hc4 => ?_) (fun hc4 => ?_)
 ·(try simp only [zB, reduceCtorEq] at hc4)
  refine aa fun K5 hK5 => ?_
  refine ai hP hN rfl ?_
  (refine a9 rfl fun K0 V => ?_; simp only [zE, op1, ev, lkp, ag, af, ev, reduceCtorEq, E, D, G, U, J, M, Tryd.td4]; refine V _ ?_; clear V K0; simp only [put, app, Z, ae, zE, zS, D])
  refine ah ?_
  refine hK5 _ ?_; clear hK5; refine ad [0, 1, 4, 10] ?_; simp only [Y, lkp, zE, reduceCtorEq, E, a8, D]
  refine aL ?_
  refine ⟨by first | exact .inl rfl | exact .inr rfl, _, rfl, ?_⟩; simp only [fzV, fz1, fzC, List.map_cons, List.map_nil, Y, lkp, zE, reduceCtorEq, E, a8, D]
  refine VLE.of_eq ?_
  first
  | (refine d9 ?_; rintro rfl; first | exact absurd rfl ‹¬ _› | omega)
  | (refine dl ?_; have hk1 : k = xs.length := by omega
     have hk2 : k = ys.length := by omega
     rw [hk1, List.take_length, ← hk1, hk2, List.take_length] at hT; exact hT)
 ·(try simp only [zB, reduceCtorEq] at hc4)
  refine aH ?_
  refine hK2 _ ?_; clear hK2; refine ad [0, 1, 4, 10] ?_; simp only [Y, lkp, zE, reduceCtorEq, E, a8, D]
  refine aa fun K6 hK6 => ?_
  refine aa fun K7 hK7 => ?_
  refine ai hP hN rfl ?_
  (refine a9 rfl fun K0 V => ?_; simp only [zE, op1, ev, lkp, ag, af, ev, reduceCtorEq, E, D, G, U, J, M, Tryd.td3]; refine V _ ?_; clear V K0; simp only [put, app, Z, ae, zE, zS, D])
  refine ah ?_
  refine hK7 _ ?_; clear hK7; refine ad [0, 1, 4, 5, 10] ?_; simp only [Y, lkp, zE, reduceCtorEq, E, a8, D]
  refine aR ?_
  refine bH (fun n8 s8 => ∃ (k : Nat), (k ≤ xs.length) ∧ (xs.take k = ys.take k) ∧ n8 = xs.length - k ∧ s8 = { env := [(0, .one (.list (.int .i64) xs)), (1, .one (.list (.int .i64) ys)), (5, .one (.int .i64 (k : Int)))], L := [] }) ?_ ?_
  ·exact ⟨_, _, aT [0, 1, 5], 0, Nat.zero_le _, rfl, rfl, rfl⟩
  ·rintro n8 s8 ⟨k, hk, hT, rfl, rfl⟩
   refine aa fun K9 hK9 => ?_
   refine aa fun K10 hK10 => ?_
   refine ai hP hN rfl ?_
   iterate 4 (refine a9 rfl fun K0 V => ?_; simp only [zE, op1, ev, lkp, ag, af, aF, bz, bi, ba, bc, bv, Nat.div_one, aK, bg, Ty.size, aI, dite_true, aD, aC, aB, ak, aA, aP, reduceCtorEq, E, D, G, U, J, M, Tryd.el25, Tryd.td25, Tryd.td3, Tryd.td4]; (repeat refine And.intro (by first | omega | assumption | exact rfl) ?_); (first | refine V _ ?_ | refine Or.inl (V _ ?_)); clear V K0; simp only [put, app, Z, ae, zE, zS, D])
   refine ah ?_
   refine hK10 _ ?_; clear hK10; refine ad [0, 1, 5, 14] ?_; simp only [Y, lkp, zE, reduceCtorEq, E, a8, D]
   refine aE (by simp only [ev, Y, lkp, zE, reduceCtorEq, E, a8, D]; exact rfl) (fun hc11 => ?_) (fun hc11 => ?_)
   ·(try simp only [zB, reduceCtorEq] at hc11)
    refine aH ?_
    refine hK9 _ ?_; clear hK9; refine ad [0, 1, 5, 14] ?_; simp only [Y, lkp, zE, reduceCtorEq, E, a8, D]
    refine aa fun K12 hK12 => ?_
    refine aR ?_
    refine aa fun K13 hK13 => ?_
    refine bW hP hN Tryd.mixed rfl ?_
    iterate 9 (refine a9 rfl fun K0 V => ?_; simp only [zE, op1, ev, lkp, ag, af, aG, zG, Ty.dflt, Ty.size, Nat.mul_one, ne_eq, not_false_eq_true, Int.natCast_one, Int.mul_one, az, au, ay, acs, ao, aD, aC, aB, ak, aA, aP, reduceCtorEq, E, D, G, U, J, M, Tryd.el25, Tryd.td25, Tryd.td3, Tryd.td4]; (repeat refine And.intro (by first | omega | assumption | exact rfl) ?_); refine V _ ?_; clear V K0; simp only [put, app, Z, ae, zE, zS, D])
    refine ah ?_
    refine ⟨by kernel_rfl, ?_⟩
    refine hK13 _ ?_; clear hK13; refine ad [0, 1, 5, 14, 25] ?_; simp only [Y, lkp, zE, reduceCtorEq, E, a8, D]
    refine aE (by simp only [ev, Y, lkp, zE, reduceCtorEq, E, a8, D]; exact rfl) (fun hc14 => ?_) (fun hc14 => ?_)
    ·(try simp only [zB, reduceCtorEq] at hc14)
     refine aa fun K15 hK15 => ?_
     refine ai hP hN rfl ?_
     (refine a9 rfl fun K0 V => ?_; simp only [zE, op1, ev, lkp, ag, af, ev, reduceCtorEq, E, D, G, U, J, M, Tryd.td4]; refine V _ ?_; clear V K0; simp only [put, app, Z, ae, zE, zS, D])
     refine ah ?_
     refine hK15 _ ?_; clear hK15; refine ad [0, 1, 4, 5, 14, 25] ?_; simp only [Y, lkp, zE, reduceCtorEq, E, a8, D]
     refine aL ?_
     refine ⟨by first | exact .inl rfl | exact .inr rfl, _, rfl, ?_⟩; simp only [fzV, fz1, fzC, List.map_cons, List.map_nil, Y, lkp, zE, reduceCtorEq, E, a8, D]
     refine VLE.of_eq ?_
     first
     | (refine d9 ?_; rintro rfl; first | exact absurd rfl ‹¬ _› | omega)
     | (refine dl ?_; have hk1 : k = xs.length := by omega
        have hk2 : k = ys.length := by omega
        rw [hk1, List.take_length, ← hk1, hk2, List.take_length] at hT; exact hT)
    ·(try simp only [zB, reduceCtorEq] at hc14)
     refine aH ?_
     refine hK12 _ ?_; clear hK12; refine ad [0, 1, 5, 14, 25] ?_; simp only [Y, lkp, zE, reduceCtorEq, E, a8, D]
     refine ai hP hN rfl ?_
     iterate 3 (refine a9 rfl fun K0 V => ?_; simp only [zE, op1, ev, lkp, ag, af, aD, aC, aB, ak, aA, aP, reduceCtorEq, E, D, G, U, J, M, Tryd.td3]; (repeat refine And.intro (by first | omega | assumption | exact rfl) ?_); refine V _ ?_; clear V K0; simp only [put, app, Z, ae, zE, zS, D])
     refine ah ?_
     refine ⟨_, _, ?_, aT [0, 1, 5], k + 1, by omega, fO (d := 0) hT (by omega) (by omega) ?_, rfl, rfl⟩
     · omega
     · first | assumption | omega
   ·(try simp only [zB, reduceCtorEq] at hc11)
    refine bG ?_
    refine hK6 _ ?_; clear hK6; refine ad [0, 1, 5, 14] ?_; simp only [Y, lkp, zE, reduceCtorEq, E, a8, D]
    refine aa fun K16 hK16 => ?_
    refine ai hP hN rfl ?_
    (refine a9 rfl fun K0 V => ?_; simp only [zE, op1, ev, lkp, ag, af, ev, reduceCtorEq, E, D, G, U, J, M, Tryd.td4]; refine V _ ?_; clear V K0; simp only [put, app, Z, ae, zE, zS, D])
    refine ah ?_
    refine hK16 _ ?_; clear hK16; refine ad [0, 1, 4, 5, 14] ?_; simp only [Y, lkp, zE, reduceCtorEq, E, a8, D]
    refine aL ?_
    refine ⟨by first | exact .inl rfl | exact .inr rfl, _, rfl, ?_⟩; simp only [fzV, fz1, fzC, List.map_cons, List.map_nil, Y, lkp, zE, reduceCtorEq, E, a8, D]
    refine VLE.of_eq ?_
    first
    | (refine d9 ?_; rintro rfl; first | exact absurd rfl ‹¬ _› | omega)
    | (refine dl ?_; have hk1 : k = xs.length := by omega
       have hk2 : k = ys.length := by omega
       rw [hk1, List.take_length, ← hk1, hk2, List.take_length] at hT; exact hT)
end Go.Proofs.YtgmgnkmgofkfpaaDoor
namespace Go.Proofs.YtgmgnkmgofkfpaaDoor
open Go Go.AV
open Nat renaming reduceEqDiff → E, reduceAdd → D, reduceLeDiff → G, reduceLT → U, reduceMul → J, reduceSub → M
open List renaming set_cons_zero → ax, set_cons_succ → aw
set_option maxRecDepth 100000 in
theorem nP (xs : List Int) (h0 : 0 < xs.length) (h1 : xs.length ≤ 10000000000000) : mP Tryd.prog 30 [.one (.list (.int .i64) xs)] (.int .i64) 3 (xs) := by
 refine gL Tryd.func30 rfl (by kernel_rfl) (Nat.le_of_ble_eq_true rfl) rfl fun C hP hN hB => ?_
 replace hN : C.N = 8 := hN
 simp only [a8, D]
 refine aa fun K1 hK1 => ?_
 refine ai hP hN rfl ?_
 (refine a9 rfl fun K0 V => ?_; simp only [zE, op1, ev, lkp, ag, af, ev, reduceCtorEq, E, D, G, U, J, M, Tryd.el25, Tryd.td25]; refine V _ ?_; clear V K0; simp only [put, app, Z, ae, zE, zS, D])
 refine ah ?_
 refine hK1 _ ?_; clear hK1; refine ad [0, 2] ?_; simp only [Y, lkp, zE, reduceCtorEq, E, a8, D]
 refine aa fun K2 hK2 => ?_
 refine aa fun K3 hK3 => ?_
 refine ai hP hN rfl ?_
 iterate 2 (refine a9 rfl fun K0 V => ?_; simp only [zE, op1, ev, lkp, ag, af, aD, aC, aB, ak, aA, aP, reduceCtorEq, E, D, G, U, J, M, Tryd.el25, Tryd.td25, Tryd.td4]; (repeat refine And.intro (by first | omega | assumption | exact rfl) ?_); refine V _ ?_; clear V K0; simp only [put, app, Z, ae, zE, zS, D])
 refine ah ?_
 refine hK3 _ ?_; clear hK3; refine ad [0, 2, 4] ?_; simp only [Y, lkp, zE, reduceCtorEq, E, a8, D]
 refine aE (by simp only [ev, Y, lkp, zE, reduceCtorEq, E, a8, D]; exact rfl) (fun hc4 => ?_) (fun hc4 => ?_)
 · exfalso; (try simp only [zB, reduceCtorEq] at hc4); all_goals (first | (cases hc4; done) | omega | (simp at hc4; done) | (simp_all; done))
 ·(try simp only [zB, reduceCtorEq] at hc4)
  refine aH ?_
  refine hK2 _ ?_; clear hK2; refine ad [0, 2, 4] ?_; simp only [Y, lkp, zE, reduceCtorEq, E, a8, D]
  refine aa fun K5 hK5 => ?_
  refine ai hP hN rfl ?_
  (refine a9 rfl fun K0 V => ?_; simp only [zE, op1, ev, lkp, ag, af, aZ, bj, bM, rep, aI, aS, ar, Ty.size, reduceCtorEq, E, D, G, U, J, M, Tryd.el25, Tryd.td25]; (repeat refine And.intro (by first | omega | assumption | exact rfl) ?_); refine Or.inr (Or.inl (V _ ?_)); clear V K0; simp only [put, app, Z, ae, zE, zS, D])
  iterate 3 (refine a9 rfl fun K0 V => ?_; simp only [zE, op1, ev, lkp, ag, af, aF, bz, bi, ba, bc, bv, Nat.div_one, aK, bg, Ty.size, aI, dite_true, reduceCtorEq, E, D, G, U, J, M, Tryd.el25, Tryd.td25]; (repeat refine And.intro (by first | omega | assumption | exact rfl) ?_); (first | refine V _ ?_ | refine Or.inl (V _ ?_)); clear V K0; simp only [put, app, Z, ae, zE, zS, D])
  refine ah ?_
  refine hK5 _ ?_; clear hK5; refine ad [0, 2, 4] ?_; simp only [Y, lkp, zE, reduceCtorEq, E, a8, D]
  refine aL ?_
  refine ⟨by first | exact .inl rfl | exact .inr rfl, _, rfl, _, _, rfl, ?_⟩
  rfl
end Go.Proofs.YtgmgnkmgofkfpaaDoor
namespace Go.Proofs.YtgmgnkmgofkfpaaDoor
open Go Go.AV
open Nat renaming reduceEqDiff → E, reduceAdd → D, reduceLeDiff → G, reduceLT → U, reduceMul → J, reduceSub → M
open List renaming set_cons_zero → ax, set_cons_succ → aw
open Go.Shelf in
def Tryd.laysNm220_ren : Go.Shelf.Ren := ⟨fun | 20 => 57 | n => n, fun | 22 => 25 | 3 => 3 | 4 => 4 | 0 => 0 | n => n, fun | n => n⟩
theorem Tryd.laysNm220 : Go.Proofs.Lays2.n20 Tryd.prog Tryd.laysNm220_ren := {
  mixed := by kernel_rfl,
  f20 := Tryd.func57.trans (congrArg some (by kernel_rfl)),
  t0 := Tryd.underlying0,
  a0 := Tryd.isAgg0,
  z0 := Tryd.sizeOf0,
  v0 := Tryd.zeroValue0,
  t3 := Tryd.underlying3,
  a3 := Tryd.isAgg3,
  z3 := Tryd.sizeOf3,
  v3 := Tryd.zeroValue3,
  t4 := Tryd.underlying4,
  a4 := Tryd.isAgg4,
  z4 := Tryd.sizeOf4,
  v4 := Tryd.zeroValue4,
  t22 := Tryd.underlying25,
  a22 := Tryd.isAgg25,
  z22 := Tryd.sizeOf25,
  v22 := Tryd.zeroValue25,
  i3 := by kernel_rfl }
theorem dY : kc Tryd.prog 57 := ⟨⟨Tryd.f57, Tryd.func57, by kernel_rfl, by kernel_rfl⟩, fun blk off cap zs w hH hb hz => Any.slices_Compact_int Tryd.laysNm220 blk off cap zs w hH hb hz⟩
end Go.Proofs.YtgmgnkmgofkfpaaDoor
namespace Go.Proofs.YtgmgnkmgofkfpaaDoor
open Go Go.AV
open Nat renaming reduceEqDiff → E, reduceAdd → D, reduceLeDiff → G, reduceLT → U, reduceMul → J, reduceSub → M
open List renaming set_cons_zero → ax, set_cons_succ → aw
open Go.Shelf in
def Tryd.lays189_ren : Go.Shelf.Ren := ⟨fun | 189 => 56 | 125 => 66 | 257 => 65 | 128 => 77 | 129 => 78 | 294 => 68 | 295 => 69 | 296 => 70 | 297 => 71 | 298 => 72 | 299 => 73 | 216 => 74 | 300 => 75 | 301 => 76 | 328 => 80 | 329 => 81 | 330 => 82 | 331 => 83 | 332 => 84 | 215 => 85 | 343 => 90 | n => n, fun | 28 => 25 | 3 => 3 | 46 => 114 | 0 => 0 | 51 => 124 | 53 => 126 | 4 => 4 | 183 => 117 | 182 => 116 | 131 => 86 | 5 => 5 | 9 => 9 | 218 => 128 | 222 => 132 | 228 => 139 | 229 => 64 | n => n, fun | n => n⟩
theorem Tryd.lays189 : Go.Proofs.Lays.n189 Tryd.prog Tryd.lays189_ren := {
  mixed := by kernel_rfl,
  f125 := Tryd.func66.trans (congrArg some (by kernel_rfl)),
  f128 := Tryd.func77.trans (congrArg some (by kernel_rfl)),
  f129 := Tryd.func78.trans (congrArg some (by kernel_rfl)),
  f189 := Tryd.func56.trans (congrArg some (by kernel_rfl)),
  f215 := Tryd.func85.trans (congrArg some (by kernel_rfl)),
  f216 := Tryd.func74.trans (congrArg some (by kernel_rfl)),
  f257 := Tryd.func65.trans (congrArg some (by kernel_rfl)),
  f294 := Tryd.func68.trans (congrArg some (by kernel_rfl)),
  f295 := Tryd.func69.trans (congrArg some (by kernel_rfl)),
  f296 := Tryd.func70.trans (congrArg some (by kernel_rfl)),
  f297 := Tryd.func71.trans (congrArg some (by kernel_rfl)),
  f298 := Tryd.func72.trans (congrArg some (by kernel_rfl)),
  f299 := Tryd.func73.trans (congrArg some (by kernel_rfl)),
  f300 := Tryd.func75.trans (congrArg some (by kernel_rfl)),
  f301 := Tryd.func76.trans (congrArg some (by kernel_rfl)),
  f328 := Tryd.func80.trans (congrArg some (by kernel_rfl)),
  f329 := Tryd.func81.trans (congrArg some (by kernel_rfl)),
  f330 := Tryd.func82.trans (congrArg some (by kernel_rfl)),
  f331 := Tryd.func83.trans (congrArg some (by kernel_rfl)),
  f332 := Tryd.func84.trans (congrArg some (by kernel_rfl)),
  f343 := Tryd.func90.trans (congrArg some (by kernel_rfl)),
  t0 := Tryd.underlying0,
  a0 := Tryd.isAgg0,
  z0 := Tryd.sizeOf0,
  v0 := Tryd.zeroValue0,
  t3 := Tryd.underlying3,
  a3 := Tryd.isAgg3,
  z3 := Tryd.sizeOf3,
  v3 := Tryd.zeroValue3,
  t4 := Tryd.underlying4,
  a4 := Tryd.isAgg4,
  z4 := Tryd.sizeOf4,
  v4 := Tryd.zeroValue4,
  t5 := Tryd.underlying5,
  a5 := Tryd.isAgg5,
  z5 := Tryd.sizeOf5,
  v5 := Tryd.zeroValue5,
  t9 := Tryd.underlying9,
  a9 := Tryd.isAgg9,
  z9 := Tryd.sizeOf9,
  v9 := Tryd.zeroValue9,
  t28 := Tryd.underlying25,
  a28 := Tryd.isAgg25,
  z28 := Tryd.sizeOf25,
  v28 := Tryd.zeroValue25,
  t46 := Tryd.underlying114,
  a46 := Tryd.isAgg114,
  z46 := Tryd.sizeOf114,
  v46 := Tryd.zeroValue114,
  t51 := Tryd.underlying124,
  a51 := Tryd.isAgg124,
  z51 := Tryd.sizeOf124,
  v51 := Tryd.zeroValue124,
  t53 := Tryd.underlying126,
  a53 := Tryd.isAgg126,
  z53 := Tryd.sizeOf126,
  v53 := Tryd.zeroValue126,
  t131 := Tryd.underlying86,
  a131 := Tryd.isAgg86,
  z131 := Tryd.sizeOf86,
  v131 := Tryd.zeroValue86,
  t182 := Tryd.underlying116,
  a182 := Tryd.isAgg116,
  z182 := Tryd.sizeOf116,
  v182 := Tryd.zeroValue116,
  t183 := Tryd.underlying117,
  a183 := Tryd.isAgg117,
  z183 := Tryd.sizeOf117,
  v183 := Tryd.zeroValue117,
  t218 := Tryd.underlying128,
  a218 := Tryd.isAgg128,
  z218 := Tryd.sizeOf128,
  v218 := Tryd.zeroValue128,
  t222 := Tryd.underlying132,
  a222 := Tryd.isAgg132,
  z222 := Tryd.sizeOf132,
  v222 := Tryd.zeroValue132,
  t228 := Tryd.underlying139,
  a228 := Tryd.isAgg139,
  z228 := Tryd.sizeOf139,
  v228 := Tryd.zeroValue139,
  t229 := Tryd.underlying64,
  a229 := Tryd.isAgg64,
  z229 := Tryd.sizeOf64,
  v229 := Tryd.zeroValue64 }
theorem gK : pu Tryd.prog 56 := ⟨⟨Tryd.f56, Tryd.func56, by kernel_rfl, by kernel_rfl⟩, fun blk off cap zs w hH hb hz => Any.slices_Sort_int Tryd.lays189 blk off cap zs w hH hb hz⟩
end Go.Proofs.YtgmgnkmgofkfpaaDoor
