/- Contracts of functions of this seat, each out of a walk through its code, and plain facts on what they compute. Conditions: those that each theorem names. -/
import Derived.Test.YtlehgfchljdbjaaDoorTz
import Derived.Lib.ItoaNum
import Derived.Lib.Join
import Derived.Shelf.Lay
import Derived.Shelf.Strconv.Itoa3
import Derived.Shelf.Strings.OnBuilder
set_option linter.unusedSimpArgs false
set_option linter.unusedVariables false
namespace Go.AV
theorem zB : (∀ (p : Prop) [Decidable p], (decide p = true) = p) ∧ (∀ (p : Prop) [Decidable p], (decide p = false) = ¬p) ∧ ((!true) = false) ∧ ((!false) = true) ∧ (∀ b : Bool, (¬(b = true)) = (b = false)) ∧ (∀ b : Bool, (¬(b = false)) = (b = true)) ∧ (∀ a b : Bool, ((!a) = b) = (a = !b)) ∧ (∀ a b : Int, ¬a < b ↔ b ≤ a) ∧ (∀ a b : Int, ¬a ≤ b ↔ b < a) ∧ ((true = false) = False) ∧ ((false = true) = False) ∧ (∀ {α : Sort 1} (a b : α), (a ≠ b) = ¬(a = b)) ∧ (∀ (p : Prop) [Decidable p], ¬¬p ↔ p) ∧ (∀ b : Bool, ((!b) = true) = (b = false)) ∧ (∀ {α : Type} [BEq α] [LawfulBEq α] {a b : α}, (a != b) = true ↔ a ≠ b) ∧ (∀ a b : Bool, ((a || b) = true) = (a = true ∨ b = true)) ∧ (∀ a b : Bool, ((a && b) = true) = (a = true ∧ b = true)) ∧ (∀ a b : Bool, ((a || b) = false) = (a = false ∧ b = false)) ∧ (∀ a b : Bool, ((a && b) = false) = (a = false ∨ b = false)) :=
  ⟨fun p _ => decide_eq_true_eq, fun p _ => by simp, rfl, rfl, by simp, by simp, by decide, fun a b => Int.not_lt, fun a b => Int.not_le, by simp, by simp, fun _ _ => rfl, fun p _ => Decidable.not_not, by simp, bne_iff_ne, by simp, by simp, by simp, by simp⟩
theorem zS {α : Type} : (∀ (a b : α) (l : List α), (a :: l).set 0 b = b :: l) ∧ ∀ (a b : α) (n : Nat) (l : List α), (a :: l).set (n + 1) b = a :: l.set n b := ⟨fun _ _ _ => rfl, fun _ _ _ _ => rfl⟩
end Go.AV
namespace Go.AV
open Nat (reduceEqDiff reduceAdd reduceLeDiff reduceLT reduceMul reduceSub)
open List (set_cons_zero set_cons_succ)
/-plain-/
/-! ### classes of states -/
/-! ### how many classes -/
structure STAB (m : Mly) (c : List Int) : Prop where
  len : c.length = m.nx.length
  rng : ∀ s, s < m.nx.length → 0 ≤ c.getD s 0 ∧ c.getD s 0 < m.nx.length
  step : ∀ s t : Nat, s < m.nx.length → t < m.nx.length → c.getD s 0 = c.getD t 0 → ∀ a : Nat, (a : Int) < m.inp →
    (m.ot.getD s []).getD a 0 = (m.ot.getD t []).getD a 0 ∧ c.getD ((m.nx.getD s []).getD a 0).toNat 0 = c.getD ((m.nx.getD t []).getD a 0).toNat 0
/-! ### equivalent states -/
def EQV (m : Mly) (s t : Int) : Prop := ∀ w : List Int, (∀ i : Nat, i < w.length → 0 ≤ w.getD i 0 ∧ w.getD i 0 < m.inp) → (m.go s w).2 = (m.go t w).2
end Go.AV
namespace Go.AV
open Nat (reduceEqDiff reduceAdd reduceLeDiff reduceLT reduceMul reduceSub)
open List (set_cons_zero set_cons_succ)
/-plain-/
/-! ### the search through pairs of states -/
abbrev S3 := Int × Int × List Int
def inS (l : List S3) (p q : Int) : Bool := l.any fun f => decide (f.1 = p) && decide (f.2.1 = q)
def stS (a b : Mly) (e : S3) (l : List S3) (x : Nat) : List S3 := if inS l (a.nxt e.1 x) (b.nxt e.2.1 x) = true then l else l ++ [(a.nxt e.1 x, b.nxt e.2.1 x, e.2.2 ++ [(x : Int)])]
def rowS (a b : Mly) (e : S3) (l : List S3) (x : Nat) : List S3 := (List.range x).foldl (stS a b e) l
def eS0 : S3 := (0, 0, [])
theorem inS_iff {l : List S3} {p q : Int} : inS l p q = true ↔ ∃ e, e ∈ l ∧ e.1 = p ∧ e.2.1 = q := by
  simp [inS, List.any_eq_true]
theorem rowS_succ (a b : Mly) (e : S3) (l : List S3) (x : Nat) : rowS a b e l (x + 1) = stS a b e (rowS a b e l x) x := by
  unfold rowS; rw [List.range_succ, List.foldl_append]; rfl
theorem stS_pre (a b : Mly) (e : S3) (l : List S3) (x : Nat) : ∃ k, stS a b e l x = l ++ k := by
  unfold stS
  split
  · exact ⟨[], by simp⟩
  · exact ⟨_, rfl⟩
theorem rowS_pre (a b : Mly) (e : S3) (l : List S3) : ∀ x, ∃ k, rowS a b e l x = l ++ k
  | 0 => ⟨[], by simp [rowS]⟩
  | x + 1 => by
    obtain ⟨k1, h1⟩ := rowS_pre a b e l x
    obtain ⟨k2, h2⟩ := stS_pre a b e (rowS a b e l x) x
    exact ⟨k1 ++ k2, by rw [rowS_succ, h2, h1, List.append_assoc]⟩
theorem rowS_ge (a b : Mly) (e : S3) (l : List S3) (x : Nat) : l.length ≤ (rowS a b e l x).length := by
  obtain ⟨k, hk⟩ := rowS_pre a b e l x
  rw [hk]; simp

structure WFS (a b : Mly) (l : List S3) : Prop where
  rng : ∀ e, e ∈ l → (0 ≤ e.1 ∧ e.1 < a.nx.length) ∧ 0 ≤ e.2.1 ∧ e.2.1 < b.nx.length
  len : ∀ e, e ∈ l → e.2.2.length ≤ l.length
  nd : (l.map fun e => e.1 * (b.nx.length : Int) + e.2.1).Nodup
theorem WFS.at_ {a b : Mly} {l : List S3} (h : WFS a b l) {i : Nat} (hi : i < l.length) : (0 ≤ (l.getD i eS0).1 ∧ (l.getD i eS0).1 < a.nx.length) ∧ 0 ≤ (l.getD i eS0).2.1 ∧ (l.getD i eS0).2.1 < b.nx.length := by
  refine h.rng _ ?_
  simp [List.getD, hi]
theorem WFS.wl {a b : Mly} {l : List S3} (h : WFS a b l) {i : Nat} (hi : i < l.length) : (l.getD i eS0).2.2.length ≤ l.length := by
  refine h.len _ ?_
  simp [List.getD, hi]
theorem code_lt {p q n m : Int} (hp : 0 ≤ p ∧ p < n) (hq : 0 ≤ q ∧ q < m) : 0 ≤ p * m + q ∧ p * m + q < n * m := by
  have h1 : 0 ≤ p * m := Int.mul_nonneg hp.1 (by omega)
  have h2 : (p + 1) * m ≤ n * m := Int.mul_le_mul_of_nonneg_right (by omega) (by omega)
  rw [Int.add_mul, Int.one_mul] at h2
  omega
theorem code_inj {p q p' q' m : Int} (hq : 0 ≤ q ∧ q < m) (hq' : 0 ≤ q' ∧ q' < m) (e : p * m + q = p' * m + q') : p = p' ∧ q = q' := by
  have h1 : (p * m + q) / m = p := by rw [Int.add_comm, Int.add_mul_ediv_right _ _ (by omega), Int.ediv_eq_zero_of_lt hq.1 hq.2]; omega
  have h2 : (p' * m + q') / m = p' := by rw [Int.add_comm, Int.add_mul_ediv_right _ _ (by omega), Int.ediv_eq_zero_of_lt hq'.1 hq'.2]; omega
  have : p = p' := by rw [← h1, ← h2, e]
  subst this
  exact ⟨rfl, by omega⟩
theorem WFS.le {a b : Mly} {l : List S3} (h : WFS a b l) : l.length ≤ a.nx.length * b.nx.length := by
  have := nodup_len (a.nx.length * b.nx.length) _ h.nd (fun x hx => by
    obtain ⟨e, he, rfl⟩ := List.mem_map.1 hx
    have hr := h.rng e he
    have := code_lt hr.1 hr.2
    rw [Int.natCast_mul]; exact this)
  simpa using this
theorem WFS.step {a b : Mly} (ha : MOK a) (hb : MOK b) (hi : a.inp = b.inp) {l : List S3} (h : WFS a b l) {e : S3} (he : (0 ≤ e.1 ∧ e.1 < a.nx.length) ∧ 0 ≤ e.2.1 ∧ e.2.1 < b.nx.length) (hw : e.2.2.length ≤ l.length) {x : Nat} (hx : (x : Int) < a.inp) : WFS a b (stS a b e l x) := by
  unfold stS
  split
  · exact h
  · rename_i hn
    have n1 := ha.nr e.1.toNat x (by omega) hx
    have n2 := hb.nr e.2.1.toNat x (by omega) (by omega)
    have n1' : 0 ≤ a.nxt e.1 x ∧ a.nxt e.1 x < a.nx.length := by simpa [Mly.nxt] using n1
    have n2' : 0 ≤ b.nxt e.2.1 x ∧ b.nxt e.2.1 x < b.nx.length := by simpa [Mly.nxt] using n2
    refine ⟨fun f hf => ?_, fun f hf => ?_, ?_⟩
    · rcases List.mem_append.1 hf with hf | hf
      · exact h.rng f hf
      · simp at hf; subst hf; exact ⟨n1', n2'⟩
    · simp only [List.length_append, List.length_cons, List.length_nil]
      rcases List.mem_append.1 hf with hf | hf
      · have := h.len f hf; omega
      · simp at hf; subst hf; simp; omega
    · rw [List.map_append, List.nodup_append]
      refine ⟨h.nd, by simp, fun u hu v hv => ?_⟩
      simp at hv; subst hv
      intro e'
      obtain ⟨f, hf, rfl⟩ := List.mem_map.1 hu
      have hr := h.rng f hf
      obtain ⟨e1, e2⟩ := code_inj hr.2 n2' e'
      exact hn (inS_iff.2 ⟨f, hf, e1, e2⟩)
theorem WFS.row {a b : Mly} (ha : MOK a) (hb : MOK b) (hi : a.inp = b.inp) {l : List S3} (h : WFS a b l) {i : Nat} (hil : i < l.length) : ∀ x : Nat, (x : Int) ≤ a.inp → WFS a b (rowS a b (l.getD i eS0) l x)
  | 0, _ => by simpa [rowS] using h
  | x + 1, hx => by
    rw [rowS_succ]
    have h1 := WFS.row ha hb hi h hil x (by omega)
    have h2 := rowS_ge a b (l.getD i eS0) l x
    have h3 := h.wl hil
    exact h1.step ha hb hi (h.at_ hil) (by omega) (by omega)
/-! ### what it means -/
def EQ2 (a b : Mly) (s t : Int) : Prop := ∀ w : List Int, (∀ i : Nat, i < w.length → 0 ≤ w.getD i 0 ∧ w.getD i 0 < a.inp) → (a.go s w).2 = (b.go t w).2
structure TRS (a b : Mly) (s t : Int) (e : S3) : Prop where
  sy : ∀ i : Nat, i < e.2.2.length → 0 ≤ e.2.2.getD i 0 ∧ e.2.2.getD i 0 < a.inp
  l : (a.go s e.2.2).1 = e.1
  r : (b.go t e.2.2).1 = e.2.1
  o : (a.go s e.2.2).2 = (b.go t e.2.2).2
end Go.AV
namespace Go.AV
open Nat (reduceEqDiff reduceAdd reduceLeDiff reduceLT reduceMul reduceSub)
open List (set_cons_zero set_cons_succ)
/-plain-/
/-! ### the numbers -/
/-! ### the trimmed machine -/
end Go.AV
namespace Go.AV
open Nat (reduceEqDiff reduceAdd reduceLeDiff reduceLT reduceMul reduceSub)
open List (set_cons_zero set_cons_succ)
/-plain-/
/-! ### canonical machines: numbered in the order of their access words, and no two states equivalent -/
def rgI (n : Nat) : List Int := (List.range n).map fun (i : Nat) => (i : Int)
structure CAN (x : Mly) : Prop where
  ok : MOK x
  st : x.st = 0
  rc : x.reach = rgI x.nx.length
  ds : ∀ i j : Int, 0 ≤ i → i < x.nx.length → 0 ≤ j → j < x.nx.length → EQV x i j → i = j
/-- Both machines have met the same states, and these are equivalent one by one. -/
structure LCK (x y : Mly) (l : List Int) : Prop where
  eq : ∀ j, j ∈ l → EQ2 x y j j
  bx : ∀ j, j ∈ l → 0 ≤ j ∧ j < x.nx.length
  by_ : ∀ j, j ∈ l → 0 ≤ j ∧ j < y.nx.length
end Go.AV
namespace Go.AV
open Nat (reduceEqDiff reduceAdd reduceLeDiff reduceLT reduceMul reduceSub)
open List (set_cons_zero set_cons_succ)
/-plain-/
/-! The machine of the reachable pairs. -/
abbrev PP := Int × Int
abbrev SYS := PP → Nat → PP × Int
def d0 : PP := (0, 0)
def bL (F : SYS) (p : PP) (l : List PP) (x : Nat) : List PP := (List.range x).foldl (fun l y => addG l (F p y).1) l
def bN (F : SYS) (p : PP) (l : List PP) (x : Nat) : List Int := (List.range x).map fun y => (pos (bL F p l y) (F p y).1 : Int)
def bO (F : SYS) (p : PP) (x : Nat) : List Int := (List.range x).map fun y => (F p y).2
def bX (F : SYS) (p : PP) (l : List PP) (y : Nat) : Bool := decide (128 < (bL F p l (y + 1)).length) || decide (1048576 < (F p y).2)
abbrev BST := List PP × (List (List Int) × List (List Int))
def bA (F : SYS) (n i : Nat) (s : BST) : BST := (bL F (s.1.getD i d0) s.1 n, s.2.1 ++ [bN F (s.1.getD i d0) s.1 n], s.2.2 ++ [bO F (s.1.getD i d0) n])
def bF (F : SYS) (n : Nat) : Nat → Nat → BST → Option BST
  | 0, _, _ => none
  | f + 1, i, s => if i < s.1.length then if (List.range n).any (bX F (s.1.getD i d0) s.1) = true then none else bF F n f (i + 1) (bA F n i s) else some s
def bR (F : SYS) (n : Nat) (p0 : PP) : Option BST := bF F n 130 0 ([p0], [], [])
theorem bL_succ (F : SYS) (p : PP) (l : List PP) (x : Nat) : bL F p l (x + 1) = addG (bL F p l x) (F p x).1 := by
  unfold bL; rw [List.range_succ, List.foldl_append]; rfl
theorem addG_pre {α : Type} [DecidableEq α] (l : List α) (x : α) : ∃ k, addG l x = l ++ k := foldG_pre [x] l
theorem bL_pre (F : SYS) (p : PP) (l : List PP) : ∀ x, ∃ k, bL F p l x = l ++ k
  | 0 => ⟨[], by simp [bL]⟩
  | x + 1 => by
    obtain ⟨k, e⟩ := bL_pre F p l x
    obtain ⟨k', e'⟩ := addG_pre (bL F p l x) (F p x).1
    exact ⟨k ++ k', by rw [bL_succ, e', e, List.append_assoc]⟩
theorem bL_more (F : SYS) (p : PP) (l : List PP) (x : Nat) : ∀ d, ∃ k, bL F p l (x + d) = bL F p l x ++ k
  | 0 => ⟨[], by simp⟩
  | d + 1 => by
    obtain ⟨k, e⟩ := bL_more F p l x d
    obtain ⟨k', e'⟩ := addG_pre (bL F p l (x + d)) (F p (x + d)).1
    exact ⟨k ++ k', by rw [← Nat.add_assoc, bL_succ, e', e, List.append_assoc]⟩
theorem bL_ge (F : SYS) (p : PP) (l : List PP) (x : Nat) : l.length ≤ (bL F p l x).length := by
  obtain ⟨k, e⟩ := bL_pre F p l x
  rw [e, List.length_append]; omega
theorem bL_at (F : SYS) (p : PP) {l : List PP} (x : Nat) {i : Nat} (h : i < l.length) : (bL F p l x).getD i d0 = l.getD i d0 := by
  obtain ⟨k, e⟩ := bL_pre F p l x
  rw [e]; simp [List.getD, List.getElem?_append_left h]
theorem bL_in (F : SYS) (p : PP) (l : List PP) {x y : Nat} (h : y < x) : (F p y).1 ∈ bL F p l x := by
  obtain ⟨k, e⟩ := bL_more F p l (y + 1) (x - (y + 1))
  rw [show x = y + 1 + (x - (y + 1)) by omega, e, List.mem_append, bL_succ, addG_mem]
  exact .inl (.inr rfl)
theorem bL_nodup (F : SYS) (p : PP) {l : List PP} (h : l.Nodup) : ∀ x, (bL F p l x).Nodup
  | 0 => by simpa [bL] using h
  | x + 1 => by rw [bL_succ]; exact addG_nodup (bL_nodup F p h x) _
theorem pos_add {α : Type} [DecidableEq α] (l : List α) (x : α) : pos (addG l x) x = pos l x := by
  by_cases h : x ∈ l
  · rw [addG_in h]
  · rw [addG_out h, pos_last h, pos_out h]
theorem bL_pos (F : SYS) (p : PP) (l : List PP) {x y : Nat} (h : y < x) : pos (bL F p l x) (F p y).1 = pos (bL F p l y) (F p y).1 := by
  obtain ⟨k, e⟩ := bL_more F p l (y + 1) (x - (y + 1))
  rw [show x = y + 1 + (x - (y + 1)) by omega, e, pos_append _ (bL_in F p l (Nat.lt_succ_self y)), bL_succ, pos_add]
structure BOK (F : SYS) (n : Nat) (p0 : PP) (i : Nat) (s : BST) : Prop where
  nd : s.1.Nodup
  le : s.1.length ≤ 128
  nl : s.2.1.length = i
  ol : s.2.2.length = i
  il : i ≤ s.1.length
  hd : s.1.getD 0 d0 = p0
  h0 : 0 < s.1.length
  nx : ∀ j, j < i → s.2.1.getD j [] = (List.range n).map fun x => (pos s.1 (F (s.1.getD j d0) x).1 : Int)
  ot : ∀ j, j < i → s.2.2.getD j [] = (List.range n).map fun x => (F (s.1.getD j d0) x).2
  cl : ∀ j x, j < i → x < n → (F (s.1.getD j d0) x).1 ∈ s.1
  bd : ∀ j x, j < i → x < n → (F (s.1.getD j d0) x).2 ≤ 1048576
theorem getD_snoc_lt {α : Type} {l : List α} {y d : α} {i : Nat} (h : i < l.length) : (l ++ [y]).getD i d = l.getD i d := by simp [List.getD, List.getElem?_append_left h]
theorem getD_snoc_eq {α : Type} {l : List α} {y d : α} {i : Nat} (h : i = l.length) : (l ++ [y]).getD i d = y := by subst h; simp [List.getD]
theorem bX_no {F : SYS} {p : PP} {l : List PP} {n : Nat} (h : (List.range n).any (bX F p l) = false) {y : Nat} (hy : y < n) : (bL F p l (y + 1)).length ≤ 128 ∧ (F p y).2 ≤ 1048576 := by
  rw [List.any_eq_false] at h
  have := h y (by simpa using hy)
  simp only [bX, Bool.not_eq_true, Bool.or_eq_false_iff, decide_eq_false_iff_not] at this
  omega
theorem bL_le {F : SYS} {p : PP} {l : List PP} {n : Nat} (hl : l.length ≤ 128) (h : (List.range n).any (bX F p l) = false) : (bL F p l n).length ≤ 128 := by
  cases n with
  | zero => simpa [bL] using hl
  | succ n => exact (bX_no h (Nat.lt_succ_self n)).1
theorem BOK.step {F : SYS} {n : Nat} {p0 : PP} {i : Nat} {s : BST} (h : BOK F n p0 i s) (hi : i < s.1.length) (hb : (List.range n).any (bX F (s.1.getD i d0) s.1) = false) : BOK F n p0 (i + 1) (bA F n i s) where
  nd := bL_nodup F _ h.nd n
  le := bL_le h.le hb
  nl := by simp [bA, h.nl]
  ol := by simp [bA, h.ol]
  il := Nat.le_trans hi (bL_ge F _ s.1 n)
  hd := by simp only [bA]; rw [bL_at F _ n h.h0]; exact h.hd
  h0 := Nat.lt_of_lt_of_le h.h0 (bL_ge F _ s.1 n)
  nx := fun j hj => by
    simp only [bA]
    rw [bL_at F _ n (show j < s.1.length by omega)]
    by_cases e : j = i
    · rw [getD_snoc_eq (by rw [h.nl, e]), e]
      exact List.map_congr_left fun x hx => by rw [bL_pos F _ s.1 (List.mem_range.1 hx)]
    · have hji : j < i := by omega
      rw [getD_snoc_lt (by rw [h.nl]; exact hji), h.nx j hji]
      refine List.map_congr_left fun x hx => ?_
      obtain ⟨k, ek⟩ := bL_pre F (s.1.getD i d0) s.1 n
      rw [ek, pos_append _ (h.cl j x hji (List.mem_range.1 hx))]
  ot := fun j hj => by
    simp only [bA]
    rw [bL_at F _ n (show j < s.1.length by omega)]
    by_cases e : j = i
    · rw [getD_snoc_eq (by rw [h.ol, e]), e]; rfl
    · rw [getD_snoc_lt (by rw [h.ol]; omega), h.ot j (by omega)]
  cl := fun j x hj hx => by
    simp only [bA]
    rw [bL_at F _ n (show j < s.1.length by omega)]
    by_cases e : j = i
    · rw [e]; exact bL_in F _ s.1 hx
    · obtain ⟨k, ek⟩ := bL_pre F (s.1.getD i d0) s.1 n
      rw [ek, List.mem_append]
      exact .inl (h.cl j x (by omega) hx)
  bd := fun j x hj hx => by
    simp only [bA]
    rw [bL_at F _ n (show j < s.1.length by omega)]
    by_cases e : j = i
    · rw [e]; exact (bX_no hb hx).2
    · exact h.bd j x (by omega) hx
/-! Runs. -/
section
variable {F : SYS} {n : Nat} {p0 : PP} {s : BST} (h : bR F n p0 = some s)
include h
end
/-! For the walks. -/
end Go.AV
namespace Go.AV
open Nat (reduceEqDiff reduceAdd reduceLeDiff reduceLT reduceMul reduceSub)
open List (set_cons_zero set_cons_succ)
/-plain-/
/-! Sorted lists without repetition. -/
theorem mem_getD {xs : List Int} {x : Int} : x ∈ xs ↔ ∃ j, j < xs.length ∧ xs.getD j 0 = x := by
  constructor
  · intro h
    obtain ⟨j, hj⟩ := List.getElem?_of_mem h
    exact ⟨j, (List.getElem?_eq_some_iff.1 hj).1, by simp [List.getD, hj]⟩
  · rintro ⟨j, hj, e⟩; rw [← e]; exact getD_mem hj
/-! Insertion. -/
/-! The reference's trimmed machine. -/
/-! Traces. -/
end Go.AV
namespace Go.AV
open Nat (reduceEqDiff reduceAdd reduceLeDiff reduceLT reduceMul reduceSub)
open List (set_cons_zero set_cons_succ)
/-plain-/
/-! The greatest output. -/
/-! The systems. -/
def IP (a b : Mly) (p : PP) : Prop := (0 ≤ p.1 ∧ p.1 < a.nx.length) ∧ 0 ≤ p.2 ∧ p.2 < b.nx.length
def IS (m : Mly) (p : PP) : Prop := (0 ≤ p.1 ∧ p.1 < m.nx.length) ∧ p.2 = 0
theorem IP.st {a b : Mly} (ha : MOK a) (hb : MOK b) : IP a b (a.st, b.st) := ⟨⟨ha.s1, ha.s2⟩, hb.s1, hb.s2⟩
theorem IS.st {m : Mly} (hm : MOK m) : IS m (m.st, 0) := ⟨⟨hm.s1, hm.s2⟩, rfl⟩
/-! What the functions return. -/
/-! Restrict and Map: the trimmed machine. -/
/-! The machine of pairs (s, 0) is the trimmed machine. -/
structure SNG (X : Mly) (F : SYS) : Prop where
  st : ∀ s x : Nat, s < X.nx.length → (x : Int) < X.inp → F ((s : Int), 0) x = ((X.nxt s x, 0), X.out s x)
end Go.AV
namespace Go.AV
open Nat (reduceEqDiff reduceAdd reduceLeDiff reduceLT reduceMul reduceSub)
open List (set_cons_zero set_cons_succ)
/-plain-/
abbrev Bs := List UInt8
def bt (s : Bs) (k : Nat) : Int := ((s.getD k 0).toNat : Int)
theorem ba_get (s : Bs) (k : Nat) : (⟨s.toArray⟩ : ByteArray).get! k = s.getD k 0 := by
  show s.toArray[k]! = _
  by_cases h : k < s.length
  · rw [getElem!_pos _ _ (by simpa using h)]; simp [List.getD, h]
  · rw [getElem!_neg _ _ (by simpa using h)]; simp [List.getD, h]; rfl
theorem dec_lt {s : Bs} {pos : Nat} (ha : bt s pos < 128) : (((dec s pos).1 : Nat) : Int) = bt s pos ∧ (dec s pos).2 = 1 := by
  unfold bt at ha ⊢
  have h0 : (s.getD pos 0).toNat < 128 := by omega
  unfold dec
  simp only [Utf8.decode, Nat.add_zero, ba_get, h0, if_true]
  exact ⟨trivial, trivial⟩
theorem dec_ge {s : Bs} {pos : Nat} (ha : 128 ≤ bt s pos) : 128 ≤ (((dec s pos).1 : Nat) : Int) := by
  unfold bt at ha
  have h0 : ¬ (s.getD pos 0).toNat < 128 := by omega
  unfold dec
  simp only [Utf8.decode, Nat.add_zero, ba_get, h0, if_false]
  repeat' split
  all_goals simp_all [Utf8.runeError]
  all_goals omega
theorem dec_wid {s : Bs} {pos : Nat} (h : pos < s.length) : (1 ≤ (dec s pos).2 ∧ pos + (dec s pos).2 ≤ s.length) ∧ ∀ j, 1 ≤ j → j < (dec s pos).2 → 128 ≤ bt s (pos + j) := by
  have hsz : (⟨s.toArray⟩ : ByteArray).size = s.length := by simp [ByteArray.size]
  unfold dec bt
  simp only [Utf8.decode, ba_get, hsz, Bool.and_eq_true, decide_eq_true_eq, beq_iff_eq, Nat.add_zero]
  repeat' split
  all_goals refine ⟨⟨by simp only []; omega, by simp only []; omega⟩, fun j h1 h2 => ?_⟩
  all_goals simp only [] at h2
  all_goals first
    | omega
    | (rcases (show j = 1 ∨ j = 2 ∨ j = 3 by omega) with rfl | rfl | rfl <;> omega)
def okI (c : Int) : Prop := (97 ≤ c ∧ c ≤ 122) ∨ (65 ≤ c ∧ c ≤ 90) ∨ (48 ≤ c ∧ c ≤ 57) ∨ c = 95 ∨ c = 45 ∨ c = 46
instance (c : Int) : Decidable (okI c) := by unfold okI; exact inferInstance
def nameB (s : Bs) : Bool := s.all (fun b => decide (okI (b.toNat : Int))) && decide (1 ≤ s.length) && decide (s.length ≤ 32)
theorem dec_ok {s : Bs} {k : Nat} (ho : okI (((dec s k).1 : Nat) : Int)) : okI (bt s k) ∧ (dec s k).2 = 1 := by
  by_cases h : bt s k < 128
  · have := dec_lt h
    rw [this.1] at ho; exact ⟨ho, this.2⟩
  · have := dec_ge (s := s) (pos := k) (by omega)
    unfold okI at ho; omega
theorem dec_no {s : Bs} {k : Nat} (ho : ¬ okI (((dec s k).1 : Nat) : Int)) : ¬ okI (bt s k) := by
  by_cases h : bt s k < 128
  · have := dec_lt h
    rw [this.1] at ho; exact ho
  · unfold okI; omega
theorem bt_mem {s : Bs} {k : Nat} (h : k < s.length) : s.getD k 0 ∈ s := by simp [List.getD, h]
theorem name_bad {s : Bs} {k : Nat} (h : k < s.length) (hb : ¬ okI (bt s k)) : nameB s = false := by
  unfold nameB
  have : s.all (fun b => decide (okI (b.toNat : Int))) = false := by
    rw [List.all_eq_false]
    exact ⟨_, bt_mem h, by simp only [decide_eq_true_eq]; exact hb⟩
  rw [this]; rfl
theorem name_end {s : Bs} (h : ∀ j, j < s.length → okI (bt s j)) : nameB s = (decide (1 ≤ (s.length : Int)) && decide ((s.length : Int) ≤ 32)) := by
  unfold nameB
  have : s.all (fun b => decide (okI (b.toNat : Int))) = true := by
    rw [List.all_eq_true]
    intro b hb
    obtain ⟨j, hj⟩ := List.getElem?_of_mem hb
    have h1 := h j (List.getElem?_eq_some_iff.1 hj).1
    unfold bt at h1
    have e : s.getD j 0 = b := by simp [List.getD, hj]
    rw [e] at h1; simpa using h1
  rw [this, Bool.true_and]
  congr 1
  · exact decide_eq_decide.2 (by omega)
  · exact decide_eq_decide.2 (by omega)
theorem name_spec {s : Bs} (h : nameB s = true) : (∀ b, b ∈ s → okI (b.toNat : Int)) ∧ 1 ≤ s.length ∧ s.length ≤ 32 := by
  unfold nameB at h
  simp only [Bool.and_eq_true, decide_eq_true_eq, List.all_eq_true] at h
  exact ⟨h.1.1, h.1.2, h.2⟩
/-! Alphabets. -/
def nmE (xs : List Bs) (i : Nat) : Int := if nameB (xs.getD i []) = false then 9 else if xs.getD i [] ∈ xs.take i then 7 else 0
def alE (xs : List Bs) : Int := if xs.length = 0 then 19 else if 64 < xs.length then 3 else firstE (nmE xs) xs.length
theorem alE_0 {xs : List Bs} (h : xs.length = 0) : alE xs = 19 := if_pos h
theorem alE_64 {xs : List Bs} (h : ¬ xs.length = 0) (h2 : 64 < xs.length) : alE xs = 3 := by unfold alE; rw [if_neg h, if_pos h2]
theorem alE_9 {xs : List Bs} (h : ¬ xs.length = 0) (h2 : ¬ 64 < xs.length) {k : Nat} (hk : k < xs.length) (hq : ∀ q, q < k → nmE xs q = 0) (hb : nameB (xs.getD k []) = false) : alE xs = 9 := by
  have e : nmE xs k = 9 := if_pos hb
  unfold alE; rw [if_neg h, if_neg h2, firstE_at hq hk (by rw [e]; decide), e]
theorem alE_7 {xs : List Bs} (h : ¬ xs.length = 0) (h2 : ¬ 64 < xs.length) {k : Nat} (hk : k < xs.length) (hq : ∀ q, q < k → nmE xs q = 0) (hb : nameB (xs.getD k []) = true) (hi : xs.getD k [] ∈ xs.take k) : alE xs = 7 := by
  have e : nmE xs k = 7 := by unfold nmE; rw [if_neg (by rw [hb]; decide), if_pos hi]
  unfold alE; rw [if_neg h, if_neg h2, firstE_at hq hk (by rw [e]; decide), e]
theorem nmE_0 {xs : List Bs} {k : Nat} (hb : nameB (xs.getD k []) = true) (hi : xs.getD k [] ∉ xs.take k) : nmE xs k = 0 := by unfold nmE; rw [if_neg (by rw [hb]; decide), if_neg hi]
theorem alE_ok {xs : List Bs} (h : ¬ xs.length = 0) (h2 : ¬ 64 < xs.length) (hq : ∀ q, q < xs.length → nmE xs q = 0) : alE xs = 0 := by
  unfold alE; rw [if_neg h, if_neg h2, firstE_zero hq]
structure AOK (xs : List Bs) : Prop where
  n0 : 1 ≤ xs.length
  n1 : xs.length ≤ 64
  nm : ∀ k, k < xs.length → nameB (xs.getD k []) = true
  nw : ∀ k, k < xs.length → xs.getD k [] ∉ xs.take k
theorem aok_of {xs : List Bs} (h : alE xs = 0) : AOK xs := by
  unfold alE at h
  split at h
  · omega
  · split at h
    · omega
    · have h3 := firstE_none h
      have h4 : ∀ k, k < xs.length → nameB (xs.getD k []) = true ∧ xs.getD k [] ∉ xs.take k := fun k hk => by
        have := h3 k hk
        unfold nmE at this
        split at this
        · omega
        · split at this
          · omega
          · rename_i q1 q2; exact ⟨by simpa using q1, q2⟩
      exact ⟨by omega, by omega, fun k hk => (h4 k hk).1, fun k hk => (h4 k hk).2⟩
theorem getDB_mem {xs : List Bs} {k : Nat} (h : k < xs.length) : xs.getD k [] ∈ xs := by simp [List.getD, h]
theorem memB {xs : List Bs} {x : Bs} : x ∈ xs ↔ ∃ j, j < xs.length ∧ xs.getD j [] = x := by
  constructor
  · intro h
    obtain ⟨j, hj⟩ := List.getElem?_of_mem h
    exact ⟨j, (List.getElem?_eq_some_iff.1 hj).1, by simp [List.getD, hj]⟩
  · rintro ⟨j, hj, e⟩; rw [← e]; exact getDB_mem hj
theorem takeB_get {xs : List Bs} {i k : Nat} (hi : i < k) : (xs.take k).getD i [] = xs.getD i [] := by simp [List.getD, List.getElem?_take, hi]
theorem posB_ne {q : Bs} : ∀ {l : List Bs} {k : Nat}, k < pos l q → l.getD k [] ≠ q
  | [], k, h => by simp [pos] at h
  | y :: l, k, h => by
    simp only [pos] at h
    split at h
    · omega
    · rename_i e
      cases k with
      | zero => simpa [List.getD] using e
      | succ k =>
        have := posB_ne (q := q) (l := l) (k := k) (by omega)
        simpa [List.getD] using this
theorem atB_pos {l : List Bs} {q : Bs} (h : q ∈ l) : l.getD (pos l q) [] = q := by rw [List.getD, get_pos h]; rfl
theorem posB {l : List Bs} {q : Bs} {k : Nat} (hq : ∀ j, j < k → l.getD j [] ≠ q) (hk : k < l.length) (h : l.getD k [] = q) : pos l q = k ∧ q ∈ l := by
  have hm : q ∈ l := by rw [← h]; exact getDB_mem hk
  refine ⟨?_, hm⟩
  rcases Nat.lt_trichotomy k (pos l q) with h2 | h2 | h2
  · exact absurd h (posB_ne h2)
  · exact h2.symm
  · exact absurd (atB_pos hm) (hq _ h2)
theorem notB {l : List Bs} {q : Bs} (hq : ∀ j, j < l.length → l.getD j [] ≠ q) : q ∉ l := fun hm => hq _ (pos_lt hm) (atB_pos hm)
theorem AOK.pos {xs : List Bs} (h : AOK xs) {k : Nat} (hk : k < xs.length) : pos xs (xs.getD k []) = k :=
  (posB (fun j hj e => h.nw k hk (by rw [memB]; exact ⟨j, by rw [List.length_take]; omega, by rw [takeB_get hj, e]⟩)) hk rfl).1
def idA (xs : List Bs) (x : Bs) : Int := if x ∈ xs then (pos xs x : Int) else 0
/-! Cutting at spaces. -/
def cutS (s : Bs) : Nat → List Bs × Nat
  | 0 => ([], 0)
  | k + 1 => if bt s k = 32 then ((cutS s k).1 ++ [(s.take k).drop (cutS s k).2], k + 1) else cutS s k
theorem cut_yes {s : Bs} {k : Nat} (h : bt s k = 32) : cutS s (k + 1) = ((cutS s k).1 ++ [(s.take k).drop (cutS s k).2], k + 1) := if_pos h
theorem cut_no {s : Bs} {k : Nat} (h : ¬ bt s k = 32) : cutS s (k + 1) = cutS s k := if_neg h
theorem cut_from (s : Bs) : ∀ k, (cutS s k).2 ≤ k
  | 0 => Nat.le_refl _
  | k + 1 => by
    have := cut_from s k
    simp only [cutS]
    split
    · exact Nat.le_refl _
    · omega
theorem cut_len (s : Bs) : ∀ k, (cutS s k).1.length ≤ k
  | 0 => Nat.le_refl _
  | k + 1 => by
    have := cut_len s k
    simp only [cutS]
    split
    · rw [List.length_append]; simp only [List.length_cons, List.length_nil]; omega
    · omega
theorem cut_skip {s : Bs} {p : Nat} : ∀ d, (∀ j, 1 ≤ j → j < 1 + d → ¬ bt s (p + j) = 32) → cutS s (p + 1 + d) = cutS s (p + 1)
  | 0, _ => rfl
  | d + 1, h => by
    have h1 := h (1 + d) (by omega) (by omega)
    have h2 : cutS s (p + 1 + d + 1) = cutS s (p + 1 + d) := cut_no (by rw [show p + 1 + d = p + (1 + d) by omega]; exact h1)
    rw [show p + 1 + (d + 1) = p + 1 + d + 1 by omega, h2]
    exact cut_skip d fun j a b => h j a (by omega)
theorem cut_rune {s : Bs} {p : Nat} (h : p < s.length) : cutS s (p + (dec s p).2) = cutS s (p + 1) := by
  obtain ⟨⟨h1, _⟩, h2⟩ := dec_wid h
  have := cut_skip (s := s) (p := p) ((dec s p).2 - 1) fun j a b => by have := h2 j a (by omega); omega
  rw [show p + 1 + ((dec s p).2 - 1) = p + (dec s p).2 by omega] at this
  exact this
theorem rune_32 {s : Bs} {p : Nat} : (((dec s p).1 : Nat) : Int) = 32 ↔ bt s p = 32 := by
  by_cases h : bt s p < 128
  · rw [(dec_lt h).1]
  · have := dec_ge (s := s) (pos := p) (by omega)
    constructor <;> intro h2 <;> omega
def spl (s : Bs) : List Bs := (cutS s s.length).1 ++ [s.drop (cutS s s.length).2]
def parts (s : Bs) : List Bs := if s = [] then [] else spl s
theorem parts_len (s : Bs) : (parts s).length ≤ s.length + 1 := by
  unfold parts spl
  split
  · simp
  · rw [List.length_append]; have := cut_len s s.length; simp only [List.length_cons, List.length_nil]; omega
/-! .. as a fold. -/
/-! Words and texts. -/
def wpE (xs : List Bs) (s : Bs) (i : Nat) : Int := if (parts s).getD i [] ∈ xs then 0 else 8
def wdE (xs : List Bs) (s : Bs) : Int := if ¬ alE xs = 0 then alE xs else if 1048576 < s.length then 3 else if [] ∈ parts s then 5 else if 1024 < (parts s).length then 3 else firstE (wpE xs s) (parts s).length
def wdL (xs : List Bs) (s : Bs) : List Int := (parts s).map fun x => (pos xs x : Int)
def wdV (xs : List Bs) (s : Bs) : List Int := if wdE xs s = 0 then wdL xs s else []
def txE (xs : List Bs) (w : List Int) : Int := if ¬ alE xs = 0 then alE xs else wordE w xs.length
def txL (xs : List Bs) (w : List Int) : List Bs := w.map fun i => xs.getD i.toNat []
def txV (xs : List Bs) (w : List Int) : Bs := if txE xs w = 0 then Lib.join (txL xs w) [32] else []
def nuE (p : Bs) (n : Int) : Int := if nameB p = false ∨ 30 < p.length then 9 else if n < 1 ∨ 64 < n then 2 else 0
def nuL (p : Bs) (k : Nat) : List Bs := (List.range k).map fun i => p ++ Lib.decDigits i
def nuV (p : Bs) (n : Int) : List Bs := if nuE p n = 0 then nuL p n.toNat else []
theorem wd_a {xs : List Bs} {s : Bs} (h : ¬ alE xs = 0) : wdE xs s = alE xs ∧ wdV xs s = [] := by
  have e : wdE xs s = alE xs := if_pos h
  exact ⟨e, by unfold wdV; rw [e, if_neg h]⟩
theorem wd_l {xs : List Bs} {s : Bs} (h : alE xs = 0) (h2 : 1048576 < s.length) : wdE xs s = 3 ∧ wdV xs s = [] := by
  have e : wdE xs s = 3 := by unfold wdE; rw [if_neg (fun k => k h), if_pos h2]
  exact ⟨e, by unfold wdV; rw [e, if_neg (by decide)]⟩
theorem wd_s {xs : List Bs} {s : Bs} (h : alE xs = 0) (h2 : ¬ 1048576 < s.length) (h3 : [] ∈ parts s) : wdE xs s = 5 ∧ wdV xs s = [] := by
  have e : wdE xs s = 5 := by unfold wdE; rw [if_neg (fun k => k h), if_neg h2, if_pos h3]
  exact ⟨e, by unfold wdV; rw [e, if_neg (by decide)]⟩
theorem wd_n {xs : List Bs} {s : Bs} (h : alE xs = 0) (h2 : ¬ 1048576 < s.length) (h3 : [] ∉ parts s) (h4 : 1024 < (parts s).length) : wdE xs s = 3 ∧ wdV xs s = [] := by
  have e : wdE xs s = 3 := by unfold wdE; rw [if_neg (fun k => k h), if_neg h2, if_neg h3, if_pos h4]
  exact ⟨e, by unfold wdV; rw [e, if_neg (by decide)]⟩
theorem wd_f {xs : List Bs} {s : Bs} (h : alE xs = 0) (h2 : ¬ 1048576 < s.length) (h3 : [] ∉ parts s) (h4 : ¬ 1024 < (parts s).length) {k : Nat} (hk : k < (parts s).length) (hq : ∀ q, q < k → wpE xs s q = 0) (hb : (parts s).getD k [] ∉ xs) : wdE xs s = 8 ∧ wdV xs s = [] := by
  have e1 : wpE xs s k = 8 := if_neg hb
  have e : wdE xs s = 8 := by unfold wdE; rw [if_neg (fun k => k h), if_neg h2, if_neg h3, if_neg h4, firstE_at hq hk (by rw [e1]; decide), e1]
  exact ⟨e, by unfold wdV; rw [e, if_neg (by decide)]⟩
theorem wd_ok {xs : List Bs} {s : Bs} (h : alE xs = 0) (h2 : ¬ 1048576 < s.length) (h3 : [] ∉ parts s) (h4 : ¬ 1024 < (parts s).length) (hq : ∀ q, q < (parts s).length → wpE xs s q = 0) : wdE xs s = 0 ∧ wdV xs s = wdL xs s := by
  have e : wdE xs s = 0 := by unfold wdE; rw [if_neg (fun k => k h), if_neg h2, if_neg h3, if_neg h4, firstE_zero hq]
  exact ⟨e, by unfold wdV; rw [if_pos e]⟩
theorem tx_a {xs : List Bs} {w : List Int} (h : ¬ alE xs = 0) : txE xs w = alE xs ∧ txV xs w = [] := by
  have e : txE xs w = alE xs := if_pos h
  exact ⟨e, by unfold txV; rw [e, if_neg h]⟩
theorem tx_w {xs : List Bs} {w : List Int} (h : alE xs = 0) : txE xs w = wordE w xs.length := if_neg (fun k => k h)
theorem tx_bad {xs : List Bs} {w : List Int} (h : ¬ txE xs w = 0) : txV xs w = [] := if_neg h
theorem tx_ok {xs : List Bs} {w : List Int} (h : txE xs w = 0) : txV xs w = Lib.join (txL xs w) [32] := if_pos h
/-! The laws without the reference. -/
/-! Numbered alphabets. -/
theorem dig_small : ∀ i : Nat, i < 64 → (∀ b, b ∈ Lib.decDigits i → okI (b.toNat : Int)) ∧ (Lib.decDigits i).length ≤ 2 ∧ 1 ≤ (Lib.decDigits i).length ∧ ∀ j : Nat, j < i → Lib.decDigits j ≠ Lib.decDigits i := by decide +kernel
theorem nu_ok {p : Bs} {n : Int} (h : nuE p n = 0) : alE (nuV p n) = 0 := by
  have hv : nuV p n = nuL p n.toNat := if_pos h
  unfold nuE at h
  split at h
  · omega
  · rename_i h1
    split at h
    · omega
    · rename_i h2
      rw [not_or] at h1
      have hp : nameB p = true := by simpa using h1.1
      obtain ⟨q1, q2, q3⟩ := name_spec hp
      have hlen : (nuV p n).length = n.toNat := by rw [hv]; simp [nuL]
      have hat : ∀ i, i < n.toNat → (nuV p n).getD i [] = p ++ Lib.decDigits i := fun i hi => by rw [hv]; unfold nuL; rw [mr_getD _ _ hi]
      refine alE_ok (by omega) (by omega) fun i hi => ?_
      rw [hlen] at hi
      obtain ⟨d1, d2, d3, d4⟩ := dig_small i (by omega)
      refine nmE_0 ?_ ?_
      · rw [hat i hi]
        unfold nameB
        have : (p ++ Lib.decDigits i).all (fun b => decide (okI (b.toNat : Int))) = true := by
          rw [List.all_eq_true]
          intro b hb
          rw [List.mem_append] at hb
          rcases hb with hb | hb
          · simpa using q1 b hb
          · simpa using d1 b hb
        rw [this, List.length_append]
        simp only [Bool.true_and, Bool.and_eq_true, decide_eq_true_eq]
        omega
      · rw [memB]
        rintro ⟨j, hj, e⟩
        rw [List.length_take] at hj
        rw [takeB_get (by omega), hat j (by omega), hat i hi] at e
        exact d4 j (by omega) (List.append_cancel_left e)
end Go.AV
namespace Go.AV
open Nat (reduceEqDiff reduceAdd reduceLeDiff reduceLT reduceMul reduceSub)
open List (set_cons_zero set_cons_succ)
/-plain-/
theorem cut_next {s : Bs} {k : Nat} (h : k < s.length) : cutS s (nextP s k) = cutS s (k + 1) := by
  unfold nextP
  rw [if_pos h, cut_rune h]
theorem next_le {s : Bs} {k : Nat} (h : k < s.length) : k < nextP s k ∧ nextP s k ≤ s.length := by
  unfold nextP
  rw [if_pos h]
  have := (dec_wid h).1
  omega
theorem parts_e {s : Bs} (h : s = []) : parts s = [] := if_pos h
theorem parts_n {s : Bs} (h : ¬ s = []) : parts s = (cutS s s.length).1 ++ [s.drop (cutS s s.length).2] := if_neg h
theorem mapS_succ {β : Type} (f : Bs → β) {l : List Bs} {k : Nat} (h : k < l.length) : (l.take (k + 1)).map f = (l.take k).map f ++ [f (l.getD k [])] := by
  rw [List.take_add_one, List.getElem?_eq_getElem h, List.map_append]; simp [List.getD, h]
theorem mapI_succ {β : Type} (f : Int → β) {l : List Int} {k : Nat} (h : k < l.length) : (l.take (k + 1)).map f = (l.take k).map f ++ [f (l.getD k 0)] := by
  rw [List.take_add_one, List.getElem?_eq_getElem h, List.map_append]; simp [List.getD, h]
end Go.AV
namespace Go.AV
open Nat (reduceEqDiff reduceAdd reduceLeDiff reduceLT reduceMul reduceSub)
open List (set_cons_zero set_cons_succ)
/-plain-/
theorem alpha_tail_len {sep : Bs} : ∀ (r : List Bs), (∀ y, y ∈ r → y.length ≤ 32) → (Lib.joinTail sep r).length ≤ (32 + sep.length) * r.length
  | [], _ => by simp [Lib.joinTail]
  | y :: r, h => by
    have e : Lib.joinTail sep (y :: r) = sep ++ (y ++ Lib.joinTail sep r) := by simp [Lib.joinTail]
    rw [e, List.length_append, List.length_append, List.length_cons, Nat.mul_add]
    have := alpha_tail_len (sep := sep) r fun z hz => h z (List.mem_cons_of_mem _ hz)
    have := h y (by simp)
    omega
theorem join_len {l : List Bs} (h : ∀ y, y ∈ l → y.length ≤ 32) : (Lib.join l [32]).length ≤ 33 * l.length := by
  cases l with
  | nil => simp [Lib.join_nil]
  | cons x r =>
    rw [Lib.join_cons, List.length_append]
    have h1 := h x (by simp)
    have h2 := alpha_tail_len (sep := [32]) r fun z hz => h z (List.mem_cons_of_mem _ hz)
    simp only [List.length_cons, List.length_nil] at h2 ⊢
    omega
theorem txL_small {xs : List Bs} (ha : AOK xs) {w : List Int} (hw : ∀ i, i < w.length → 0 ≤ w.getD i 0 ∧ w.getD i 0 < xs.length) : ∀ y, y ∈ txL xs w → y.length ≤ 32 := fun y hy => by
  obtain ⟨x, hx, e⟩ := List.mem_map.1 hy
  obtain ⟨j, hj, e2⟩ := mem_getD.1 hx
  have := hw j hj
  rw [← e]
  have h9 := ha.nm x.toNat (by omega)
  exact (name_spec h9).2.2
theorem txL_take {xs : List Bs} {w : List Int} {k : Nat} (h : k < w.length) : txL xs (w.take (k + 1)) = txL xs (w.take k) ++ [xs.getD (w.getD k 0).toNat []] := mapI_succ _ h
theorem txL_len {xs : List Bs} {w : List Int} {k : Nat} (h : k ≤ w.length) : (txL xs (w.take k)).length = k := by unfold txL; rw [List.length_map, List.length_take]; omega
theorem nuL_succ (p : Bs) (k : Nat) : nuL p (k + 1) = nuL p k ++ [p ++ Lib.decDigits k] := by unfold nuL; rw [List.range_succ, List.map_append]; rfl
theorem nuL_len (p : Bs) (k : Nat) : (nuL p k).length = k := by simp [nuL]
theorem nu_9 {p : Bs} {n : Int} (h : nameB p = false ∨ 30 < p.length) : nuE p n = 9 ∧ nuV p n = [] := by
  have e : nuE p n = 9 := if_pos h
  exact ⟨e, by unfold nuV; rw [e, if_neg (by decide)]⟩
theorem nu_2 {p : Bs} {n : Int} (h : ¬ (nameB p = false ∨ 30 < p.length)) (h2 : n < 1 ∨ 64 < n) : nuE p n = 2 ∧ nuV p n = [] := by
  have e : nuE p n = 2 := by unfold nuE; rw [if_neg h, if_pos h2]
  exact ⟨e, by unfold nuV; rw [e, if_neg (by decide)]⟩
theorem nu_0 {p : Bs} {n : Int} (h : ¬ (nameB p = false ∨ 30 < p.length)) (h2 : ¬ (n < 1 ∨ 64 < n)) : nuE p n = 0 ∧ nuV p n = nuL p n.toNat := by
  have e : nuE p n = 0 := by unfold nuE; rw [if_neg h, if_neg h2]
  exact ⟨e, by unfold nuV; rw [e, if_pos rfl]⟩
def DIG : Bs := [48, 49, 50, 51, 52, 53, 54, 55, 56, 57]
theorem dig_one : ∀ n : Nat, n < 10 → (DIG.take (n + 1)).drop n = Lib.decDigits n := by decide +kernel
theorem dig_two : ∀ n : Nat, n < 100 → ¬ n < 10 → Lib.decDigits (n / 10) ++ (DIG.take (n % 10 + 1)).drop (n % 10) = Lib.decDigits n := by decide +kernel
theorem tdivN (n : Nat) : Int.tdiv (n : Int) 10 = ((n / 10 : Nat) : Int) := rfl
theorem tmodN (n : Nat) : Int.tmod (n : Int) 10 = ((n % 10 : Nat) : Int) := rfl
theorem toNat1 (n : Nat) : ((n : Int) + 1).toNat = n + 1 := by omega
theorem eqB_of {a b : List Bs} (h : a.length = b.length) (hq : ∀ q, q < a.length → a.getD q [] = b.getD q []) : a = b := by
  refine List.ext_getElem h fun i h1 h2 => ?_
  have := hq i h1
  simpa [List.getD, h1, h2] using this
end Go.AV
namespace Go.Proofs.YtlehgfchljdbjaaDoor
open Go Go.AV
open Nat (reduceEqDiff reduceAdd reduceLeDiff reduceLT reduceMul reduceSub)
open List (set_cons_zero set_cons_succ)
open Go.Shelf in
def Tryd.lays171_ren : Go.Shelf.Ren := ⟨fun | 171 => 35 | 243 => 45 | 246 => 49 | 283 => 52 | 284 => 53 | 285 => 54 | 286 => 55 | 129 => 57 | 317 => 56 | 318 => 58 | 319 => 59 | 320 => 60 | 337 => 61 | 338 => 62 | n => n, fun | 3 => 3 | 9 => 9 | 2 => 2 | 4 => 4 | 171 => 86 | 0 => 0 | 53 => 87 | 37 => 71 | 5 => 5 | 173 => 90 | 212 => 94 | 51 => 95 | 20 => 20 | 213 => 96 | 46 => 97 | 232 => 100 | 233 => 101 | n => n, fun | 17 => 1 | 18 => 2 | 19 => 3 | n => n⟩
theorem Tryd.lays171 : Go.Proofs.Lays.n171 Tryd.prog Tryd.lays171_ren := {
  mixed := by kernel_rfl,
  f129 := Tryd.func57.trans (congrArg some (by kernel_rfl)),
  f171 := Tryd.func35.trans (congrArg some (by kernel_rfl)),
  f243 := Tryd.func45.trans (congrArg some (by kernel_rfl)),
  f246 := Tryd.func49.trans (congrArg some (by kernel_rfl)),
  f283 := Tryd.func52.trans (congrArg some (by kernel_rfl)),
  f284 := Tryd.func53.trans (congrArg some (by kernel_rfl)),
  f285 := Tryd.func54.trans (congrArg some (by kernel_rfl)),
  f286 := Tryd.func55.trans (congrArg some (by kernel_rfl)),
  f317 := Tryd.func56.trans (congrArg some (by kernel_rfl)),
  f318 := Tryd.func58.trans (congrArg some (by kernel_rfl)),
  f319 := Tryd.func59.trans (congrArg some (by kernel_rfl)),
  f320 := Tryd.func60.trans (congrArg some (by kernel_rfl)),
  f337 := Tryd.func61.trans (congrArg some (by kernel_rfl)),
  f338 := Tryd.func62.trans (congrArg some (by kernel_rfl)),
  t0 := Tryd.underlying0,
  a0 := Tryd.isAgg0,
  z0 := Tryd.sizeOf0,
  v0 := Tryd.zeroValue0,
  t2 := Tryd.underlying2,
  a2 := Tryd.isAgg2,
  z2 := Tryd.sizeOf2,
  v2 := Tryd.zeroValue2,
  t3 := Tryd.underlying3,
  a3 := Tryd.isAgg3,
  z3 := Tryd.sizeOf3,
  v3 := Tryd.zeroValue3,
  t4 := Tryd.underlying4,
  a4 := Tryd.isAgg4,
  z4 := Tryd.sizeOf4,
  v4 := Tryd.zeroValue4,
  t5 := Tryd.underlying5,
  a5 := Tryd.isAgg5,
  z5 := Tryd.sizeOf5,
  v5 := Tryd.zeroValue5,
  t9 := Tryd.underlying9,
  a9 := Tryd.isAgg9,
  z9 := Tryd.sizeOf9,
  v9 := Tryd.zeroValue9,
  t20 := Tryd.underlying20,
  a20 := Tryd.isAgg20,
  z20 := Tryd.sizeOf20,
  v20 := Tryd.zeroValue20,
  t37 := Tryd.underlying71,
  a37 := Tryd.isAgg71,
  z37 := Tryd.sizeOf71,
  v37 := Tryd.zeroValue71,
  t46 := Tryd.underlying97,
  a46 := Tryd.isAgg97,
  z46 := Tryd.sizeOf97,
  v46 := Tryd.zeroValue97,
  t51 := Tryd.underlying95,
  a51 := Tryd.isAgg95,
  z51 := Tryd.sizeOf95,
  v51 := Tryd.zeroValue95,
  t53 := Tryd.underlying87,
  a53 := Tryd.isAgg87,
  z53 := Tryd.sizeOf87,
  v53 := Tryd.zeroValue87,
  t171 := Tryd.underlying86,
  a171 := Tryd.isAgg86,
  z171 := Tryd.sizeOf86,
  v171 := Tryd.zeroValue86,
  t173 := Tryd.underlying90,
  a173 := Tryd.isAgg90,
  z173 := Tryd.sizeOf90,
  v173 := Tryd.zeroValue90,
  t212 := Tryd.underlying94,
  a212 := Tryd.isAgg94,
  z212 := Tryd.sizeOf94,
  v212 := Tryd.zeroValue94,
  t213 := Tryd.underlying96,
  a213 := Tryd.isAgg96,
  z213 := Tryd.sizeOf96,
  t232 := Tryd.underlying100,
  a232 := Tryd.isAgg100,
  z232 := Tryd.sizeOf100,
  v232 := Tryd.zeroValue100,
  t233 := Tryd.underlying101,
  a233 := Tryd.isAgg101,
  z233 := Tryd.sizeOf101,
  v233 := Tryd.zeroValue101,
  g17 := by kernel_rfl,
  g18 := by kernel_rfl,
  g19 := by kernel_rfl }
theorem itoa_c (n : Int) (h0 : 0 ≤ n) (h1 : n < 100) : PURE Tryd.prog 35 [.one (.int .i64 n)] (.one (.str (Lib.decDigits n.toNat))) := by
  refine ⟨⟨Tryd.f35, Tryd.func35, by kernel_rfl, by kernel_rfl⟩, fun C L σ w vs hP hi ha => ?_⟩
  cases vs with
  | nil => exact ha.elim
  | cons v vs =>
  cases vs with
  | cons _ _ => exact ha.2.elim
  | nil =>
  have e1 : v = .int .i64 n := ha.1.2
  subst e1
  have h := Any.strconv_Itoa_small Tryd.lays171 n.toNat (by omega) w
  have e : ((n.toNat : Nat) : Int) = n := Int.toNat_of_nonneg h0
  rw [e] at h
  refine Calls.mono h fun e w' hh => ?_
  obtain ⟨e1, e2⟩ := hh
  subst e2
  exact ⟨_, e1, MORE.refl _, rfl, rfl⟩
end Go.Proofs.YtlehgfchljdbjaaDoor
namespace Go.Proofs.YtlehgfchljdbjaaDoor
open Go Go.AV
open Nat (reduceEqDiff reduceAdd reduceLeDiff reduceLT reduceMul reduceSub)
open List (set_cons_zero set_cons_succ)
set_option maxRecDepth 100000 in
theorem name_c (s : Bs) : PURE Tryd.prog 15 [.one (.str s)] (.one (.bool (nameB s))) := by
  refine pure_of_le Tryd.func15 rfl (by kernel_rfl) (Nat.le_of_ble_eq_true rfl) rfl fun C hP hN hB => ?_
  replace hN : C.N = 55 := hN
  simp only [argEnv, reduceAdd]
  refine awp_seq_k fun K1 hK1 => ?_
  refine awp_reg hP hN rfl ?_
  (refine rg_step rfl fun K0 hK0 => ?_; simp only [zE, op1, ev, lkp, avOf, acOf, ev, reduceCtorEq, reduceEqDiff, reduceAdd, reduceLeDiff, reduceLT, reduceMul, reduceSub, Tryd.td4]; (repeat refine And.intro (by first | omega | assumption | exact rfl) ?_); (first | refine hK0 _ ?_ | refine Or.inl (hK0 _ ?_)); clear hK0 K0; simp only [put, app, setAll, trOf, zE, zS, reduceAdd])
  refine rg_nil ?_
  refine hK1 _ ?_; clear hK1; refine awp_keep [0, 2] ?_; simp only [keepEnv, lkp, zE, reduceCtorEq, reduceEqDiff, argEnv, reduceAdd]
  refine awp_seq_k fun K2 hK2 => ?_
  refine awp_seq_k fun K3 hK3 => ?_
  refine awp_reg hP hN rfl ?_
  iterate 2 (refine rg_step rfl fun K0 hK0 => ?_; simp only [zE, op1, ev, lkp, avOf, acOf, opRange, reduceCtorEq, reduceEqDiff, reduceAdd, reduceLeDiff, reduceLT, reduceMul, reduceSub, Tryd.td9]; (repeat refine And.intro (by first | omega | assumption | exact rfl) ?_); (first | refine hK0 _ ?_ | refine Or.inl (hK0 _ ?_)); clear hK0 K0; simp only [put, app, setAll, trOf, zE, zS, reduceAdd])
  refine rg_nil ?_
  refine hK3 _ ?_; clear hK3; refine awp_keep [0, 2, 7] ?_; simp only [keepEnv, lkp, zE, reduceCtorEq, reduceEqDiff, argEnv, reduceAdd]
  refine awp_block ?_
  refine awp_loop (fun n4 s4 => ∃ (k : Nat), (k ≤ s.length) ∧ (∀ j, j < k → okI (bt s j)) ∧ n4 = s.length - k ∧ s4 = { env := [(0, .one (.str s)), (2, .one (.bool false)), (7, .one (.ptr 0 0 0 0))], L := [.itr s k] }) ?_ ?_
  · exact ⟨_, _, sub_keep [0, 2, 7], 0, Nat.zero_le _, fun q hq => by omega, rfl, rfl⟩
  · rintro n4 s4 ⟨k, hk, hI, rfl, rfl⟩
    refine awp_seq_k fun K5 hK5 => ?_
    refine awp_reg hP hN rfl ?_
    iterate 2 (refine rg_step rfl fun K0 hK0 => ?_; simp only [zE, op1, ev, lkp, avOf, acOf, opNext, opExtract, reduceCtorEq, reduceEqDiff, reduceAdd, reduceLeDiff, reduceLT, reduceMul, reduceSub, Tryd.td4]; (repeat refine And.intro (by first | omega | assumption | exact rfl) ?_); (first | refine hK0 _ ?_ | refine Or.inl (hK0 _ ?_)); clear hK0 K0; simp only [put, app, setAll, trOf, zE, zS, reduceAdd])
    refine rg_nil ?_
    refine hK5 _ ?_; clear hK5; refine awp_keep [0, 2, 7, 8, 9] ?_; simp only [keepEnv, lkp, zE, reduceCtorEq, reduceEqDiff, argEnv, reduceAdd]
    refine awp_seq_k fun K6 hK6 => ?_
    refine awp_cond (by simp only [ev, keepEnv, lkp, zE, reduceCtorEq, reduceEqDiff, argEnv, reduceAdd]; exact rfl) (fun hc7 => ?_) (fun hc7 => ?_)
    · (try simp only [zB, reduceCtorEq] at hc7)
      have hpos : k < s.length := hc7
      refine awp_skip ?_
      refine hK6 _ ?_; clear hK6; refine awp_keep [0, 2, 7, 8, 9] ?_; simp only [keepEnv, lkp, zE, reduceCtorEq, reduceEqDiff, argEnv, reduceAdd]
      refine awp_block ?_
      refine awp_seq_k fun K8 hK8 => ?_
      refine awp_reg hP hN rfl ?_
      iterate 2 (refine rg_step rfl fun K0 hK0 => ?_; simp only [zE, op1, ev, lkp, avOf, acOf, opExtract, reduceCtorEq, reduceEqDiff, reduceAdd, reduceLeDiff, reduceLT, reduceMul, reduceSub, Tryd.td2, Tryd.td21, nextT, hpos, if_true]; (repeat refine And.intro (by first | omega | assumption | exact rfl) ?_); (first | refine hK0 _ ?_ | refine Or.inl (hK0 _ ?_)); clear hK0 K0; simp only [put, app, setAll, trOf, zE, zS, reduceAdd])
      refine rg_nil ?_
      refine hK8 _ ?_; clear hK8; refine awp_keep [0, 2, 4, 7, 8, 9] ?_; simp only [keepEnv, lkp, zE, reduceCtorEq, reduceEqDiff, argEnv, reduceAdd]
      refine awp_seq_k fun K9 hK9 => ?_
      refine awp_reg hP hN rfl ?_
      iterate 2 (refine rg_step rfl fun K0 hK0 => ?_; simp only [zE, op1, ev, lkp, avOf, acOf, opBin, arith, strOp, inK_i64, eqACs, eqAC, reduceCtorEq, reduceEqDiff, reduceAdd, reduceLeDiff, reduceLT, reduceMul, reduceSub, Tryd.td21, Tryd.td4]; (repeat refine And.intro (by first | omega | assumption | exact rfl) ?_); (first | refine hK0 _ ?_ | refine Or.inl (hK0 _ ?_)); clear hK0 K0; simp only [put, app, setAll, trOf, zE, zS, reduceAdd])
      (refine rg_step rfl fun K0 hK0 => ?_; simp only [zE, op1, ev, lkp, avOf, acOf, ev, reduceCtorEq, reduceEqDiff, reduceAdd, reduceLeDiff, reduceLT, reduceMul, reduceSub, Tryd.td4]; (repeat refine And.intro (by first | omega | assumption | exact rfl) ?_); (first | refine hK0 _ ?_ | refine Or.inl (hK0 _ ?_)); clear hK0 K0; simp only [put, app, setAll, trOf, zE, zS, reduceAdd])
      refine' rg_join_n (want := true) 2 rfl (m := 13) (by simp only [keepEnv, lkp, zE, reduceCtorEq, reduceEqDiff, argEnv, reduceAdd]; exact rfl) (by kernel_rfl) rfl rfl rfl rfl rfl (fun hg10 => ?a10) ?b10 ?c10
      case a10 =>
        have hq10 := hg10; (try simp only [zB, reduceCtorEq] at hg10); simp only [List.take_succ_cons, List.take_zero, List.cons_append, List.nil_append]
        (refine rg_do rfl fun K0 hK0 => ?_; simp only [zE, op1, ev, lkp, avOf, acOf, ev, reduceCtorEq, reduceEqDiff, reduceAdd, reduceLeDiff, reduceLT, reduceMul, reduceSub, Tryd.td21]; (repeat refine And.intro (by first | omega | assumption | exact rfl) ?_); (first | refine hK0 _ ?_ | refine Or.inl (hK0 _ ?_)); clear hK0 K0; simp only [put, app, setAll, trOf, zE, zS, reduceAdd])
        (refine rg_do rfl fun K0 hK0 => ?_; simp only [zE, op1, ev, lkp, avOf, acOf, opBin, arith, strOp, inK_i64, eqACs, eqAC, reduceCtorEq, reduceEqDiff, reduceAdd, reduceLeDiff, reduceLT, reduceMul, reduceSub, Tryd.td21, Tryd.td4]; (repeat refine And.intro (by first | omega | assumption | exact rfl) ?_); (first | refine hK0 _ ?_ | refine Or.inl (hK0 _ ?_)); clear hK0 K0; simp only [put, app, setAll, trOf, zE, zS, reduceAdd])
        (refine rg_step rfl fun K0 hK0 => ?_; simp only [zE, op1, ev, lkp, avOf, acOf, opPick, reduceCtorEq, reduceEqDiff, reduceAdd, reduceLeDiff, reduceLT, reduceMul, reduceSub, Tryd.td4]; (repeat refine And.intro (by first | omega | assumption | exact rfl) ?_); (first | refine hK0 _ ?_ | refine Or.inl (hK0 _ ?_)); clear hK0 K0; simp only [put, app, setAll, trOf, zE, zS, reduceAdd])
        refine rg_nil ?_
        refine ⟨by simp only [keepEnv, lkp, zE, reduceCtorEq, reduceEqDiff, argEnv, reduceAdd]; exact rfl, rfl, ?_, rfl⟩; (repeat refine keep_cons rfl ?_); exact keep_m (by exact rfl) hq10
      case b10 => exact tle_of (by first | rfl | (simp [tleB]; done) | decide)
      simp only [join_or, join_and]
      (refine rg_step rfl fun K0 hK0 => ?_; simp only [zE, op1, ev, lkp, avOf, acOf, ev, reduceCtorEq, reduceEqDiff, reduceAdd, reduceLeDiff, reduceLT, reduceMul, reduceSub, Tryd.td4]; (repeat refine And.intro (by first | omega | assumption | exact rfl) ?_); (first | refine hK0 _ ?_ | refine Or.inl (hK0 _ ?_)); clear hK0 K0; simp only [put, app, setAll, trOf, zE, zS, reduceAdd])
      refine' rg_join_n (want := false) 6 rfl (m := 17) (by simp only [keepEnv, lkp, zE, reduceCtorEq, reduceEqDiff, argEnv, reduceAdd]; exact rfl) (by kernel_rfl) rfl rfl rfl rfl rfl (fun hg11 => ?a11) ?b11 ?c11
      case a11 =>
        have hq11 := hg11; (try simp only [zB, reduceCtorEq] at hg11); simp only [List.take_succ_cons, List.take_zero, List.cons_append, List.nil_append]
        (refine rg_do rfl fun K0 hK0 => ?_; simp only [zE, op1, ev, lkp, avOf, acOf, ev, reduceCtorEq, reduceEqDiff, reduceAdd, reduceLeDiff, reduceLT, reduceMul, reduceSub, Tryd.td21]; (repeat refine And.intro (by first | omega | assumption | exact rfl) ?_); (first | refine hK0 _ ?_ | refine Or.inl (hK0 _ ?_)); clear hK0 K0; simp only [put, app, setAll, trOf, zE, zS, reduceAdd])
        (refine rg_do rfl fun K0 hK0 => ?_; simp only [zE, op1, ev, lkp, avOf, acOf, opBin, arith, strOp, inK_i64, eqACs, eqAC, reduceCtorEq, reduceEqDiff, reduceAdd, reduceLeDiff, reduceLT, reduceMul, reduceSub, Tryd.td21, Tryd.td4]; (repeat refine And.intro (by first | omega | assumption | exact rfl) ?_); (first | refine hK0 _ ?_ | refine Or.inl (hK0 _ ?_)); clear hK0 K0; simp only [put, app, setAll, trOf, zE, zS, reduceAdd])
        (refine rg_do rfl fun K0 hK0 => ?_; simp only [zE, op1, ev, lkp, avOf, acOf, ev, reduceCtorEq, reduceEqDiff, reduceAdd, reduceLeDiff, reduceLT, reduceMul, reduceSub, Tryd.td4]; (repeat refine And.intro (by first | omega | assumption | exact rfl) ?_); (first | refine hK0 _ ?_ | refine Or.inl (hK0 _ ?_)); clear hK0 K0; simp only [put, app, setAll, trOf, zE, zS, reduceAdd])
        refine' rg_join_n (want := true) 2 rfl (m := 20) (by simp only [keepEnv, lkp, zE, reduceCtorEq, reduceEqDiff, argEnv, reduceAdd]; exact rfl) (by kernel_rfl) rfl rfl rfl rfl rfl (fun hg12 => ?a12) ?b12 ?c12
        case a12 =>
          have hq12 := hg12; (try simp only [zB, reduceCtorEq] at hg12); simp only [List.take_succ_cons, List.take_zero, List.cons_append, List.nil_append]
          (refine rg_do rfl fun K0 hK0 => ?_; simp only [zE, op1, ev, lkp, avOf, acOf, ev, reduceCtorEq, reduceEqDiff, reduceAdd, reduceLeDiff, reduceLT, reduceMul, reduceSub, Tryd.td21]; (repeat refine And.intro (by first | omega | assumption | exact rfl) ?_); (first | refine hK0 _ ?_ | refine Or.inl (hK0 _ ?_)); clear hK0 K0; simp only [put, app, setAll, trOf, zE, zS, reduceAdd])
          (refine rg_do rfl fun K0 hK0 => ?_; simp only [zE, op1, ev, lkp, avOf, acOf, opBin, arith, strOp, inK_i64, eqACs, eqAC, reduceCtorEq, reduceEqDiff, reduceAdd, reduceLeDiff, reduceLT, reduceMul, reduceSub, Tryd.td21, Tryd.td4]; (repeat refine And.intro (by first | omega | assumption | exact rfl) ?_); (first | refine hK0 _ ?_ | refine Or.inl (hK0 _ ?_)); clear hK0 K0; simp only [put, app, setAll, trOf, zE, zS, reduceAdd])
          (refine rg_do rfl fun K0 hK0 => ?_; simp only [zE, op1, ev, lkp, avOf, acOf, opPick, reduceCtorEq, reduceEqDiff, reduceAdd, reduceLeDiff, reduceLT, reduceMul, reduceSub, Tryd.td4]; (repeat refine And.intro (by first | omega | assumption | exact rfl) ?_); (first | refine hK0 _ ?_ | refine Or.inl (hK0 _ ?_)); clear hK0 K0; simp only [put, app, setAll, trOf, zE, zS, reduceAdd])
          refine rg_nil ?_
          refine ⟨by simp only [keepEnv, lkp, zE, reduceCtorEq, reduceEqDiff, argEnv, reduceAdd]; exact rfl, rfl, ?_, rfl⟩; (repeat refine keep_cons rfl ?_); exact keep_m (by exact rfl) hq12
        case b12 => exact tle_of (by first | rfl | (simp [tleB]; done) | decide)
        simp only [join_or, join_and]
        (refine rg_step rfl fun K0 hK0 => ?_; simp only [zE, op1, ev, lkp, avOf, acOf, opPick, reduceCtorEq, reduceEqDiff, reduceAdd, reduceLeDiff, reduceLT, reduceMul, reduceSub, Tryd.td4]; (repeat refine And.intro (by first | omega | assumption | exact rfl) ?_); (first | refine hK0 _ ?_ | refine Or.inl (hK0 _ ?_)); clear hK0 K0; simp only [put, app, setAll, trOf, zE, zS, reduceAdd])
        refine rg_nil ?_
        refine ⟨by simp only [keepEnv, lkp, zE, reduceCtorEq, reduceEqDiff, argEnv, reduceAdd]; exact rfl, rfl, ?_, rfl⟩; (repeat refine keep_cons rfl ?_); exact keep_m (by exact rfl) hq11
      case b11 => exact tle_of (by first | rfl | (simp [tleB]; done) | decide)
      simp only [join_or, join_and]
      (refine rg_step rfl fun K0 hK0 => ?_; simp only [zE, op1, ev, lkp, avOf, acOf, ev, reduceCtorEq, reduceEqDiff, reduceAdd, reduceLeDiff, reduceLT, reduceMul, reduceSub, Tryd.td4]; (repeat refine And.intro (by first | omega | assumption | exact rfl) ?_); (first | refine hK0 _ ?_ | refine Or.inl (hK0 _ ?_)); clear hK0 K0; simp only [put, app, setAll, trOf, zE, zS, reduceAdd])
      refine' rg_join_n (want := false) 6 rfl (m := 25) (by simp only [keepEnv, lkp, zE, reduceCtorEq, reduceEqDiff, argEnv, reduceAdd]; exact rfl) (by kernel_rfl) rfl rfl rfl rfl rfl (fun hg13 => ?a13) ?b13 ?c13
      case a13 =>
        have hq13 := hg13; (try simp only [zB, reduceCtorEq] at hg13); simp only [List.take_succ_cons, List.take_zero, List.cons_append, List.nil_append]
        (refine rg_do rfl fun K0 hK0 => ?_; simp only [zE, op1, ev, lkp, avOf, acOf, ev, reduceCtorEq, reduceEqDiff, reduceAdd, reduceLeDiff, reduceLT, reduceMul, reduceSub, Tryd.td21]; (repeat refine And.intro (by first | omega | assumption | exact rfl) ?_); (first | refine hK0 _ ?_ | refine Or.inl (hK0 _ ?_)); clear hK0 K0; simp only [put, app, setAll, trOf, zE, zS, reduceAdd])
        (refine rg_do rfl fun K0 hK0 => ?_; simp only [zE, op1, ev, lkp, avOf, acOf, opBin, arith, strOp, inK_i64, eqACs, eqAC, reduceCtorEq, reduceEqDiff, reduceAdd, reduceLeDiff, reduceLT, reduceMul, reduceSub, Tryd.td21, Tryd.td4]; (repeat refine And.intro (by first | omega | assumption | exact rfl) ?_); (first | refine hK0 _ ?_ | refine Or.inl (hK0 _ ?_)); clear hK0 K0; simp only [put, app, setAll, trOf, zE, zS, reduceAdd])
        (refine rg_do rfl fun K0 hK0 => ?_; simp only [zE, op1, ev, lkp, avOf, acOf, ev, reduceCtorEq, reduceEqDiff, reduceAdd, reduceLeDiff, reduceLT, reduceMul, reduceSub, Tryd.td4]; (repeat refine And.intro (by first | omega | assumption | exact rfl) ?_); (first | refine hK0 _ ?_ | refine Or.inl (hK0 _ ?_)); clear hK0 K0; simp only [put, app, setAll, trOf, zE, zS, reduceAdd])
        refine' rg_join_n (want := true) 2 rfl (m := 28) (by simp only [keepEnv, lkp, zE, reduceCtorEq, reduceEqDiff, argEnv, reduceAdd]; exact rfl) (by kernel_rfl) rfl rfl rfl rfl rfl (fun hg14 => ?a14) ?b14 ?c14
        case a14 =>
          have hq14 := hg14; (try simp only [zB, reduceCtorEq] at hg14); simp only [List.take_succ_cons, List.take_zero, List.cons_append, List.nil_append]
          (refine rg_do rfl fun K0 hK0 => ?_; simp only [zE, op1, ev, lkp, avOf, acOf, ev, reduceCtorEq, reduceEqDiff, reduceAdd, reduceLeDiff, reduceLT, reduceMul, reduceSub, Tryd.td21]; (repeat refine And.intro (by first | omega | assumption | exact rfl) ?_); (first | refine hK0 _ ?_ | refine Or.inl (hK0 _ ?_)); clear hK0 K0; simp only [put, app, setAll, trOf, zE, zS, reduceAdd])
          (refine rg_do rfl fun K0 hK0 => ?_; simp only [zE, op1, ev, lkp, avOf, acOf, opBin, arith, strOp, inK_i64, eqACs, eqAC, reduceCtorEq, reduceEqDiff, reduceAdd, reduceLeDiff, reduceLT, reduceMul, reduceSub, Tryd.td21, Tryd.td4]; (repeat refine And.intro (by first | omega | assumption | exact rfl) ?_); (first | refine hK0 _ ?_ | refine Or.inl (hK0 _ ?_)); clear hK0 K0; simp only [put, app, setAll, trOf, zE, zS, reduceAdd])
          (refine rg_do rfl fun K0 hK0 => ?_; simp only [zE, op1, ev, lkp, avOf, acOf, opPick, reduceCtorEq, reduceEqDiff, reduceAdd, reduceLeDiff, reduceLT, reduceMul, reduceSub, Tryd.td4]; (repeat refine And.intro (by first | omega | assumption | exact rfl) ?_); (first | refine hK0 _ ?_ | refine Or.inl (hK0 _ ?_)); clear hK0 K0; simp only [put, app, setAll, trOf, zE, zS, reduceAdd])
          refine rg_nil ?_
          refine ⟨by simp only [keepEnv, lkp, zE, reduceCtorEq, reduceEqDiff, argEnv, reduceAdd]; exact rfl, rfl, ?_, rfl⟩; (repeat refine keep_cons rfl ?_); exact keep_m (by exact rfl) hq14
        case b14 => exact tle_of (by first | rfl | (simp [tleB]; done) | decide)
        simp only [join_or, join_and]
        (refine rg_step rfl fun K0 hK0 => ?_; simp only [zE, op1, ev, lkp, avOf, acOf, opPick, reduceCtorEq, reduceEqDiff, reduceAdd, reduceLeDiff, reduceLT, reduceMul, reduceSub, Tryd.td4]; (repeat refine And.intro (by first | omega | assumption | exact rfl) ?_); (first | refine hK0 _ ?_ | refine Or.inl (hK0 _ ?_)); clear hK0 K0; simp only [put, app, setAll, trOf, zE, zS, reduceAdd])
        refine rg_nil ?_
        refine ⟨by simp only [keepEnv, lkp, zE, reduceCtorEq, reduceEqDiff, argEnv, reduceAdd]; exact rfl, rfl, ?_, rfl⟩; (repeat refine keep_cons rfl ?_); exact keep_m (by exact rfl) hq13
      case b13 => exact tle_of (by first | rfl | (simp [tleB]; done) | decide)
      simp only [join_or, join_and]
      (refine rg_step rfl fun K0 hK0 => ?_; simp only [zE, op1, ev, lkp, avOf, acOf, ev, reduceCtorEq, reduceEqDiff, reduceAdd, reduceLeDiff, reduceLT, reduceMul, reduceSub, Tryd.td4]; (repeat refine And.intro (by first | omega | assumption | exact rfl) ?_); (first | refine hK0 _ ?_ | refine Or.inl (hK0 _ ?_)); clear hK0 K0; simp only [put, app, setAll, trOf, zE, zS, reduceAdd])
      refine rg_nil ?_
      refine hK9 _ ?_; clear hK9; refine awp_keep [0, 2, 4, 5, 7, 8, 9] ?_; simp only [keepEnv, lkp, zE, reduceCtorEq, reduceEqDiff, argEnv, reduceAdd]
      refine awp_seq_k fun K15 hK15 => ?_
      refine awp_reg hP hN rfl ?_
      iterate 2 (refine rg_step rfl fun K0 hK0 => ?_; simp only [zE, op1, ev, lkp, avOf, acOf, opUn, reduceCtorEq, reduceEqDiff, reduceAdd, reduceLeDiff, reduceLT, reduceMul, reduceSub, Tryd.td4]; (repeat refine And.intro (by first | omega | assumption | exact rfl) ?_); (first | refine hK0 _ ?_ | refine Or.inl (hK0 _ ?_)); clear hK0 K0; simp only [put, app, setAll, trOf, zE, zS, reduceAdd])
      (refine rg_step rfl fun K0 hK0 => ?_; simp only [zE, op1, ev, lkp, avOf, acOf, ev, reduceCtorEq, reduceEqDiff, reduceAdd, reduceLeDiff, reduceLT, reduceMul, reduceSub, Tryd.td4]; (repeat refine And.intro (by first | omega | assumption | exact rfl) ?_); (first | refine hK0 _ ?_ | refine Or.inl (hK0 _ ?_)); clear hK0 K0; simp only [put, app, setAll, trOf, zE, zS, reduceAdd])
      refine' rg_join_n (want := true) 2 rfl (m := 35) (by simp only [keepEnv, lkp, zE, reduceCtorEq, reduceEqDiff, argEnv, reduceAdd]; exact rfl) (by kernel_rfl) rfl rfl rfl rfl rfl (fun hg16 => ?a16) ?b16 ?c16
      case a16 =>
        have hq16 := hg16; (try simp only [zB, reduceCtorEq] at hg16); simp only [List.take_succ_cons, List.take_zero, List.cons_append, List.nil_append]
        (refine rg_do rfl fun K0 hK0 => ?_; simp only [zE, op1, ev, lkp, avOf, acOf, ev, reduceCtorEq, reduceEqDiff, reduceAdd, reduceLeDiff, reduceLT, reduceMul, reduceSub, Tryd.td21]; (repeat refine And.intro (by first | omega | assumption | exact rfl) ?_); (first | refine hK0 _ ?_ | refine Or.inl (hK0 _ ?_)); clear hK0 K0; simp only [put, app, setAll, trOf, zE, zS, reduceAdd])
        (refine rg_do rfl fun K0 hK0 => ?_; simp only [zE, op1, ev, lkp, avOf, acOf, opBin, arith, strOp, inK_i64, eqACs, eqAC, reduceCtorEq, reduceEqDiff, reduceAdd, reduceLeDiff, reduceLT, reduceMul, reduceSub, Tryd.td21, Tryd.td4]; (repeat refine And.intro (by first | omega | assumption | exact rfl) ?_); (first | refine hK0 _ ?_ | refine Or.inl (hK0 _ ?_)); clear hK0 K0; simp only [put, app, setAll, trOf, zE, zS, reduceAdd])
        (refine rg_step rfl fun K0 hK0 => ?_; simp only [zE, op1, ev, lkp, avOf, acOf, opPick, reduceCtorEq, reduceEqDiff, reduceAdd, reduceLeDiff, reduceLT, reduceMul, reduceSub, Tryd.td4]; (repeat refine And.intro (by first | omega | assumption | exact rfl) ?_); (first | refine hK0 _ ?_ | refine Or.inl (hK0 _ ?_)); clear hK0 K0; simp only [put, app, setAll, trOf, zE, zS, reduceAdd])
        refine rg_nil ?_
        refine ⟨by simp only [keepEnv, lkp, zE, reduceCtorEq, reduceEqDiff, argEnv, reduceAdd]; exact rfl, rfl, ?_, rfl⟩; (repeat refine keep_cons rfl ?_); exact keep_m (by exact rfl) hq16
      case b16 => exact tle_of (by first | rfl | (simp [tleB]; done) | decide)
      simp only [join_or, join_and]
      (refine rg_step rfl fun K0 hK0 => ?_; simp only [zE, op1, ev, lkp, avOf, acOf, ev, reduceCtorEq, reduceEqDiff, reduceAdd, reduceLeDiff, reduceLT, reduceMul, reduceSub, Tryd.td4]; (repeat refine And.intro (by first | omega | assumption | exact rfl) ?_); (first | refine hK0 _ ?_ | refine Or.inl (hK0 _ ?_)); clear hK0 K0; simp only [put, app, setAll, trOf, zE, zS, reduceAdd])
      refine' rg_join_n (want := true) 2 rfl (m := 39) (by simp only [keepEnv, lkp, zE, reduceCtorEq, reduceEqDiff, argEnv, reduceAdd]; exact rfl) (by kernel_rfl) rfl rfl rfl rfl rfl (fun hg17 => ?a17) ?b17 ?c17
      case a17 =>
        have hq17 := hg17; (try simp only [zB, reduceCtorEq] at hg17); simp only [List.take_succ_cons, List.take_zero, List.cons_append, List.nil_append]
        (refine rg_do rfl fun K0 hK0 => ?_; simp only [zE, op1, ev, lkp, avOf, acOf, ev, reduceCtorEq, reduceEqDiff, reduceAdd, reduceLeDiff, reduceLT, reduceMul, reduceSub, Tryd.td21]; (repeat refine And.intro (by first | omega | assumption | exact rfl) ?_); (first | refine hK0 _ ?_ | refine Or.inl (hK0 _ ?_)); clear hK0 K0; simp only [put, app, setAll, trOf, zE, zS, reduceAdd])
        (refine rg_do rfl fun K0 hK0 => ?_; simp only [zE, op1, ev, lkp, avOf, acOf, opBin, arith, strOp, inK_i64, eqACs, eqAC, reduceCtorEq, reduceEqDiff, reduceAdd, reduceLeDiff, reduceLT, reduceMul, reduceSub, Tryd.td21, Tryd.td4]; (repeat refine And.intro (by first | omega | assumption | exact rfl) ?_); (first | refine hK0 _ ?_ | refine Or.inl (hK0 _ ?_)); clear hK0 K0; simp only [put, app, setAll, trOf, zE, zS, reduceAdd])
        (refine rg_step rfl fun K0 hK0 => ?_; simp only [zE, op1, ev, lkp, avOf, acOf, opPick, reduceCtorEq, reduceEqDiff, reduceAdd, reduceLeDiff, reduceLT, reduceMul, reduceSub, Tryd.td4]; (repeat refine And.intro (by first | omega | assumption | exact rfl) ?_); (first | refine hK0 _ ?_ | refine Or.inl (hK0 _ ?_)); clear hK0 K0; simp only [put, app, setAll, trOf, zE, zS, reduceAdd])
        refine rg_nil ?_
        refine ⟨by simp only [keepEnv, lkp, zE, reduceCtorEq, reduceEqDiff, argEnv, reduceAdd]; exact rfl, rfl, ?_, rfl⟩; (repeat refine keep_cons rfl ?_); exact keep_m (by exact rfl) hq17
      case b17 => exact tle_of (by first | rfl | (simp [tleB]; done) | decide)
      simp only [join_or, join_and]
      (refine rg_step rfl fun K0 hK0 => ?_; simp only [zE, op1, ev, lkp, avOf, acOf, ev, reduceCtorEq, reduceEqDiff, reduceAdd, reduceLeDiff, reduceLT, reduceMul, reduceSub, Tryd.td4]; (repeat refine And.intro (by first | omega | assumption | exact rfl) ?_); (first | refine hK0 _ ?_ | refine Or.inl (hK0 _ ?_)); clear hK0 K0; simp only [put, app, setAll, trOf, zE, zS, reduceAdd])
      refine' rg_join_n (want := true) 2 rfl (m := 43) (by simp only [keepEnv, lkp, zE, reduceCtorEq, reduceEqDiff, argEnv, reduceAdd]; exact rfl) (by kernel_rfl) rfl rfl rfl rfl rfl (fun hg18 => ?a18) ?b18 ?c18
      case a18 =>
        have hq18 := hg18; (try simp only [zB, reduceCtorEq] at hg18); simp only [List.take_succ_cons, List.take_zero, List.cons_append, List.nil_append]
        (refine rg_do rfl fun K0 hK0 => ?_; simp only [zE, op1, ev, lkp, avOf, acOf, ev, reduceCtorEq, reduceEqDiff, reduceAdd, reduceLeDiff, reduceLT, reduceMul, reduceSub, Tryd.td21]; (repeat refine And.intro (by first | omega | assumption | exact rfl) ?_); (first | refine hK0 _ ?_ | refine Or.inl (hK0 _ ?_)); clear hK0 K0; simp only [put, app, setAll, trOf, zE, zS, reduceAdd])
        (refine rg_do rfl fun K0 hK0 => ?_; simp only [zE, op1, ev, lkp, avOf, acOf, opBin, arith, strOp, inK_i64, eqACs, eqAC, reduceCtorEq, reduceEqDiff, reduceAdd, reduceLeDiff, reduceLT, reduceMul, reduceSub, Tryd.td21, Tryd.td4]; (repeat refine And.intro (by first | omega | assumption | exact rfl) ?_); (first | refine hK0 _ ?_ | refine Or.inl (hK0 _ ?_)); clear hK0 K0; simp only [put, app, setAll, trOf, zE, zS, reduceAdd])
        (refine rg_step rfl fun K0 hK0 => ?_; simp only [zE, op1, ev, lkp, avOf, acOf, opPick, reduceCtorEq, reduceEqDiff, reduceAdd, reduceLeDiff, reduceLT, reduceMul, reduceSub, Tryd.td4]; (repeat refine And.intro (by first | omega | assumption | exact rfl) ?_); (first | refine hK0 _ ?_ | refine Or.inl (hK0 _ ?_)); clear hK0 K0; simp only [put, app, setAll, trOf, zE, zS, reduceAdd])
        refine rg_nil ?_
        refine ⟨by simp only [keepEnv, lkp, zE, reduceCtorEq, reduceEqDiff, argEnv, reduceAdd]; exact rfl, rfl, ?_, rfl⟩; (repeat refine keep_cons rfl ?_); exact keep_m (by exact rfl) hq18
      case b18 => exact tle_of (by first | rfl | (simp [tleB]; done) | decide)
      simp only [join_or, join_and]
      refine rg_nil ?_
      refine hK15 _ ?_; clear hK15; refine awp_keep [0, 2, 4, 5, 7, 8, 9, 46] ?_; simp only [keepEnv, lkp, zE, reduceCtorEq, reduceEqDiff, argEnv, reduceAdd]
      refine awp_cond (by simp only [ev, keepEnv, lkp, zE, reduceCtorEq, reduceEqDiff, argEnv, reduceAdd]; exact rfl) (fun hc19 => ?_) (fun hc19 => ?_)
      · (try simp only [zB, reduceCtorEq] at hc19)
        have ho : ¬ okI (((dec s k).1 : Nat) : Int) := by unfold okI; omega
        refine awp_seq_k fun K20 hK20 => ?_
        refine awp_reg hP hN rfl ?_
        (refine rg_step rfl fun K0 hK0 => ?_; simp only [zE, op1, ev, lkp, avOf, acOf, ev, reduceCtorEq, reduceEqDiff, reduceAdd, reduceLeDiff, reduceLT, reduceMul, reduceSub, Tryd.td4]; (repeat refine And.intro (by first | omega | assumption | exact rfl) ?_); (first | refine hK0 _ ?_ | refine Or.inl (hK0 _ ?_)); clear hK0 K0; simp only [put, app, setAll, trOf, zE, zS, reduceAdd])
        refine rg_nil ?_
        refine hK20 _ ?_; clear hK20; refine awp_keep [0, 2, 4, 5, 7, 8, 9, 46] ?_; simp only [keepEnv, lkp, zE, reduceCtorEq, reduceEqDiff, argEnv, reduceAdd]
        refine awp_ret ?_
        refine ⟨by first | exact .inl rfl | exact .inr rfl, _, rfl, ?_⟩; simp only [fzV, fz1, fzC, List.map_cons, List.map_nil, keepEnv, lkp, zE, reduceCtorEq, reduceEqDiff, argEnv, reduceAdd]
        refine VLE.of_eq ?_
        refine congrArg (fun b => AV.one (AC.bool b)) ?_
        symm
        first
        | exact name_bad hpos (dec_no ho)
        | exact name_end fun j hj => hI j (by omega)
      · (try simp only [zB, reduceCtorEq] at hc19)
        have ho : okI (((dec s k).1 : Nat) : Int) := by unfold okI; omega
        refine awp_skip ?_
        have hd := dec_ok ho
        have hn : nextP s k = k + 1 := by unfold nextP; rw [if_pos hpos, hd.2]
        refine ⟨_, _, ?_, sub_keep [0, 2, 7], nextP s k, by omega, fun j hj => ?_, rfl, rfl⟩
        · omega
        · by_cases e : j = k
          · rw [e]; exact hd.1
          · exact hI j (by omega)
    · (try simp only [zB, reduceCtorEq] at hc7)
      refine awp_exit ?_
      refine hK2 _ ?_; clear hK2; refine awp_keep [0, 2, 7, 8, 9] ?_; simp only [keepEnv, lkp, zE, reduceCtorEq, reduceEqDiff, argEnv, reduceAdd]
      refine awp_seq_k fun K21 hK21 => ?_
      refine awp_reg hP hN rfl ?_
      iterate 3 (refine rg_step rfl fun K0 hK0 => ?_; simp only [zE, op1, ev, lkp, avOf, acOf, opCallAny, opMM, opLen, lenAC, lenOk, fpAC, Nat.div_one, opAppend, srcOf, Ty.size, datOf, dite_true, opBin, arith, strOp, inK_i64, eqACs, eqAC, reduceCtorEq, reduceEqDiff, reduceAdd, reduceLeDiff, reduceLT, reduceMul, reduceSub, Tryd.td3, Tryd.td4, Tryd.td9]; (repeat refine And.intro (by first | omega | assumption | exact rfl) ?_); (first | refine hK0 _ ?_ | refine Or.inl (hK0 _ ?_)); clear hK0 K0; simp only [put, app, setAll, trOf, zE, zS, reduceAdd])
      (refine rg_step rfl fun K0 hK0 => ?_; simp only [zE, op1, ev, lkp, avOf, acOf, ev, reduceCtorEq, reduceEqDiff, reduceAdd, reduceLeDiff, reduceLT, reduceMul, reduceSub, Tryd.td4]; (repeat refine And.intro (by first | omega | assumption | exact rfl) ?_); (first | refine hK0 _ ?_ | refine Or.inl (hK0 _ ?_)); clear hK0 K0; simp only [put, app, setAll, trOf, zE, zS, reduceAdd])
      refine' rg_join_n (want := true) 3 rfl (m := 50) (by simp only [keepEnv, lkp, zE, reduceCtorEq, reduceEqDiff, argEnv, reduceAdd]; exact rfl) (by kernel_rfl) rfl rfl rfl rfl rfl (fun hg22 => ?a22) ?b22 ?c22
      case a22 =>
        have hq22 := hg22; (try simp only [zB, reduceCtorEq] at hg22); simp only [List.take_succ_cons, List.take_zero, List.cons_append, List.nil_append]
        (refine rg_do rfl fun K0 hK0 => ?_; simp only [zE, op1, ev, lkp, avOf, acOf, ev, reduceCtorEq, reduceEqDiff, reduceAdd, reduceLeDiff, reduceLT, reduceMul, reduceSub, Tryd.td9]; (repeat refine And.intro (by first | omega | assumption | exact rfl) ?_); (first | refine hK0 _ ?_ | refine Or.inl (hK0 _ ?_)); clear hK0 K0; simp only [put, app, setAll, trOf, zE, zS, reduceAdd])
        (refine rg_do rfl fun K0 hK0 => ?_; simp only [zE, op1, ev, lkp, avOf, acOf, opCallAny, opMM, opLen, lenAC, lenOk, fpAC, Nat.div_one, opAppend, srcOf, Ty.size, datOf, dite_true, reduceCtorEq, reduceEqDiff, reduceAdd, reduceLeDiff, reduceLT, reduceMul, reduceSub, Tryd.td3, Tryd.td9]; (repeat refine And.intro (by first | omega | assumption | exact rfl) ?_); (first | refine hK0 _ ?_ | refine Or.inl (hK0 _ ?_)); clear hK0 K0; simp only [put, app, setAll, trOf, zE, zS, reduceAdd])
        (refine rg_do rfl fun K0 hK0 => ?_; simp only [zE, op1, ev, lkp, avOf, acOf, opBin, arith, strOp, inK_i64, eqACs, eqAC, reduceCtorEq, reduceEqDiff, reduceAdd, reduceLeDiff, reduceLT, reduceMul, reduceSub, Tryd.td3, Tryd.td4]; (repeat refine And.intro (by first | omega | assumption | exact rfl) ?_); (first | refine hK0 _ ?_ | refine Or.inl (hK0 _ ?_)); clear hK0 K0; simp only [put, app, setAll, trOf, zE, zS, reduceAdd])
        (refine rg_step rfl fun K0 hK0 => ?_; simp only [zE, op1, ev, lkp, avOf, acOf, opPick, reduceCtorEq, reduceEqDiff, reduceAdd, reduceLeDiff, reduceLT, reduceMul, reduceSub, Tryd.td4]; (repeat refine And.intro (by first | omega | assumption | exact rfl) ?_); (first | refine hK0 _ ?_ | refine Or.inl (hK0 _ ?_)); clear hK0 K0; simp only [put, app, setAll, trOf, zE, zS, reduceAdd])
        refine rg_nil ?_
        refine ⟨by simp only [keepEnv, lkp, zE, reduceCtorEq, reduceEqDiff, argEnv, reduceAdd]; exact rfl, rfl, ?_, rfl⟩; (repeat refine keep_cons rfl ?_); exact keep_m (by exact rfl) hq22
      case b22 => exact tle_of (by first | rfl | (simp [tleB]; done) | decide)
      simp only [join_or, join_and]
      (refine rg_step rfl fun K0 hK0 => ?_; simp only [zE, op1, ev, lkp, avOf, acOf, ev, reduceCtorEq, reduceEqDiff, reduceAdd, reduceLeDiff, reduceLT, reduceMul, reduceSub, Tryd.td4]; (repeat refine And.intro (by first | omega | assumption | exact rfl) ?_); (first | refine hK0 _ ?_ | refine Or.inl (hK0 _ ?_)); clear hK0 K0; simp only [put, app, setAll, trOf, zE, zS, reduceAdd])
      refine rg_nil ?_
      refine hK21 _ ?_; clear hK21; refine awp_keep [0, 2, 7, 8, 9] ?_; simp only [keepEnv, lkp, zE, reduceCtorEq, reduceEqDiff, argEnv, reduceAdd]
      refine awp_ret ?_
      refine ⟨by first | exact .inl rfl | exact .inr rfl, _, rfl, ?_⟩; simp only [fzV, fz1, fzC, List.map_cons, List.map_nil, keepEnv, lkp, zE, reduceCtorEq, reduceEqDiff, argEnv, reduceAdd]
      refine VLE.of_eq ?_
      refine congrArg (fun b => AV.one (AC.bool b)) ?_
      symm
      first
      | exact name_bad hpos (dec_no ho)
      | exact name_end fun j hj => hI j (by omega)
end Go.Proofs.YtlehgfchljdbjaaDoor
namespace Go.AV
open Nat (reduceEqDiff reduceAdd reduceLeDiff reduceLT reduceMul reduceSub)
open List (set_cons_zero set_cons_succ)
/-plain-/
theorem vle_nils2 {t : Ty} {e : AC} : VLE (.tup [.one .nils, .one e]) (.tup [.one (.list t []), .one e]) := vle_tup ⟨vle1_one (cle_nils rfl), fun _ _ _ _ _ h => h, trivial⟩
theorem vle_nilsA {t : Ty} {e : AC} : VLE (.tup [.agg [.nils], .one e]) (.tup [.agg [.list t []], .one e]) := vle_tup ⟨vle1_agg ⟨cle_nils rfl, trivial⟩, fun _ _ _ _ _ h => h, trivial⟩
end Go.AV
