/- Contracts of functions of this seat, each out of a walk through its code, and plain facts on what they compute. Conditions: those that each theorem names. -/
import Derived.Test.YtdkgcbhbpdbmnaaW00
set_option linter.unusedSimpArgs false
set_option linter.unusedVariables false
namespace Go.AV
open Nat renaming reduceEqDiff → E, reduceAdd → D, reduceLeDiff → J, reduceLT → U, reduceMul → O, reduceSub → S
open List renaming set_cons_zero → aq, set_cons_succ → am
/-plain-/
/-! ### canonical machines: numbered in the order of their access words, and no two states equivalent -/
def rgI (n : Nat) : List Int := (List.range n).map fun (i : Nat) => (i : Int)
structure CAN (x : Mly) : Prop where
  ok : MOK x
  st : x.st = 0
  rc : x.reach = rgI x.nx.length
  ds : ∀ i j : Int, 0 ≤ i → i < x.nx.length → 0 ≤ j → j < x.nx.length → EQV x i j → i = j
/-- Both machines have met the same states, and these are equivalent one by one. -/
structure LCK (x y : Mly) (l : List Int) : Prop where
  eq : ∀ j, j ∈ l → EQ2 x y j j
  bx : ∀ j, j ∈ l → 0 ≤ j ∧ j < x.nx.length
  by_ : ∀ j, j ∈ l → 0 ≤ j ∧ j < y.nx.length
end Go.AV
namespace Go.AV
open Nat renaming reduceEqDiff → E, reduceAdd → D, reduceLeDiff → J, reduceLT → U, reduceMul → O, reduceSub → S
open List renaming set_cons_zero → aq, set_cons_succ → am
/-plain-/
/-! The machine of the reachable pairs. -/
abbrev PP := Int × Int
abbrev SYS := PP → Nat → PP × Int
def d0 : PP := (0, 0)
def bL (F : SYS) (p : PP) (l : List PP) (x : Nat) : List PP := (List.range x).foldl (fun l y => dD l (F p y).1) l
def bN (F : SYS) (p : PP) (l : List PP) (x : Nat) : List Int := (List.range x).map fun y => (pos (bL F p l y) (F p y).1 : Int)
def bO (F : SYS) (p : PP) (x : Nat) : List Int := (List.range x).map fun y => (F p y).2
def bX (F : SYS) (p : PP) (l : List PP) (y : Nat) : Bool := decide (128 < (bL F p l (y + 1)).length) || decide (1048576 < (F p y).2)
abbrev BST := List PP × (List (List Int) × List (List Int))
def bA (F : SYS) (n i : Nat) (s : BST) : BST := (bL F (s.1.getD i d0) s.1 n, s.2.1 ++ [bN F (s.1.getD i d0) s.1 n], s.2.2 ++ [bO F (s.1.getD i d0) n])
def bF (F : SYS) (n : Nat) : Nat → Nat → BST → Option BST
  | 0, _, _ => none
  | f + 1, i, s => if i < s.1.length then if (List.range n).any (bX F (s.1.getD i d0) s.1) = true then none else bF F n f (i + 1) (bA F n i s) else some s
def bR (F : SYS) (n : Nat) (p0 : PP) : Option BST := bF F n 130 0 ([p0], [], [])
theorem gc (F : SYS) (p : PP) (l : List PP) (x : Nat) : bL F p l (x + 1) = dD (bL F p l x) (F p x).1 := by
  unfold bL; rw [List.range_succ, List.foldl_append]; rfl
theorem kZ {α : Type} [DecidableEq α] (l : List α) (x : α) : ∃ k, dD l x = l ++ k := nY [x] l
theorem ic (F : SYS) (p : PP) (l : List PP) : ∀ x, ∃ k, bL F p l x = l ++ k
  | 0 => ⟨[], by simp [bL]⟩
  | x + 1 => by
    obtain ⟨k, e⟩ := ic F p l x
    obtain ⟨k', e'⟩ := kZ (bL F p l x) (F p x).1
    exact ⟨k ++ k', by rw [gc, e', e, List.append_assoc]⟩
theorem jH (F : SYS) (p : PP) (l : List PP) (x : Nat) : ∀ d, ∃ k, bL F p l (x + d) = bL F p l x ++ k
  | 0 => ⟨[], by simp⟩
  | d + 1 => by
    obtain ⟨k, e⟩ := jH F p l x d
    obtain ⟨k', e'⟩ := kZ (bL F p l (x + d)) (F p (x + d)).1
    exact ⟨k ++ k', by rw [← Nat.add_assoc, gc, e', e, List.append_assoc]⟩
theorem ro (F : SYS) (p : PP) (l : List PP) (x : Nat) : l.length ≤ (bL F p l x).length := by
  obtain ⟨k, e⟩ := ic F p l x
  rw [e, List.length_append]; omega
theorem jC (F : SYS) (p : PP) {l : List PP} (x : Nat) {i : Nat} (h : i < l.length) : (bL F p l x).getD i d0 = l.getD i d0 := by
  obtain ⟨k, e⟩ := ic F p l x
  rw [e]; simp [List.getD, List.getElem?_append_left h]
theorem qy (F : SYS) (p : PP) (l : List PP) {x y : Nat} (h : y < x) : (F p y).1 ∈ bL F p l x := by
  obtain ⟨k, e⟩ := jH F p l (y + 1) (x - (y + 1))
  rw [show x = y + 1 + (x - (y + 1)) by omega, e, List.mem_append, gc, kM]
  exact .inl (.inr rfl)
theorem kO (F : SYS) (p : PP) {l : List PP} (h : l.Nodup) : ∀ x, (bL F p l x).Nodup
  | 0 => by simpa [bL] using h
  | x + 1 => by rw [gc]; exact mC (kO F p h x) _
theorem qe {α : Type} [DecidableEq α] (l : List α) (x : α) : pos (dD l x) x = pos l x := by
  by_cases h : x ∈ l
  · rw [eB h]
  · rw [dI h, kR h, mo h]
theorem sk (F : SYS) (p : PP) (l : List PP) {x y : Nat} (h : y < x) : pos (bL F p l x) (F p y).1 = pos (bL F p l y) (F p y).1 := by
  obtain ⟨k, e⟩ := jH F p l (y + 1) (x - (y + 1))
  rw [show x = y + 1 + (x - (y + 1)) by omega, e, eV _ (qy F p l (Nat.lt_succ_self y)), gc, qe]
structure BOK (F : SYS) (n : Nat) (p0 : PP) (i : Nat) (s : BST) : Prop where
  nd : s.1.Nodup
  le : s.1.length ≤ 128
  nl : s.2.1.length = i
  ol : s.2.2.length = i
  il : i ≤ s.1.length
  hd : s.1.getD 0 d0 = p0
  h0 : 0 < s.1.length
  nx : ∀ j, j < i → s.2.1.getD j [] = (List.range n).map fun x => (pos s.1 (F (s.1.getD j d0) x).1 : Int)
  ot : ∀ j, j < i → s.2.2.getD j [] = (List.range n).map fun x => (F (s.1.getD j d0) x).2
  cl : ∀ j x, j < i → x < n → (F (s.1.getD j d0) x).1 ∈ s.1
  bd : ∀ j x, j < i → x < n → (F (s.1.getD j d0) x).2 ≤ 1048576
theorem bV {α : Type} {l : List α} {y d : α} {i : Nat} (h : i < l.length) : (l ++ [y]).getD i d = l.getD i d := by simp [List.getD, List.getElem?_append_left h]
theorem ct {α : Type} {l : List α} {y d : α} {i : Nat} (h : i = l.length) : (l ++ [y]).getD i d = y := by subst h; simp [List.getD]
theorem qK {F : SYS} {p : PP} {l : List PP} {n : Nat} (h : (List.range n).any (bX F p l) = false) {y : Nat} (hy : y < n) : (bL F p l (y + 1)).length ≤ 128 ∧ (F p y).2 ≤ 1048576 := by
  rw [List.any_eq_false] at h
  have := h y (by simpa using hy)
  simp only [bX, Bool.not_eq_true, Bool.or_eq_false_iff, decide_eq_false_iff_not] at this
  omega
theorem sP {F : SYS} {p : PP} {l : List PP} {n : Nat} (hl : l.length ≤ 128) (h : (List.range n).any (bX F p l) = false) : (bL F p l n).length ≤ 128 := by
  cases n with
  | zero => simpa [bL] using hl
  | succ n => exact (qK h (Nat.lt_succ_self n)).1
theorem BOK.step {F : SYS} {n : Nat} {p0 : PP} {i : Nat} {s : BST} (h : BOK F n p0 i s) (hi : i < s.1.length) (hb : (List.range n).any (bX F (s.1.getD i d0) s.1) = false) : BOK F n p0 (i + 1) (bA F n i s) where
  nd := kO F _ h.nd n
  le := sP h.le hb
  nl := by simp [bA, h.nl]
  ol := by simp [bA, h.ol]
  il := Nat.le_trans hi (ro F _ s.1 n)
  hd := by simp only [bA]; rw [jC F _ n h.h0]; exact h.hd
  h0 := Nat.lt_of_lt_of_le h.h0 (ro F _ s.1 n)
  nx := fun j hj => by
    simp only [bA]
    rw [jC F _ n (show j < s.1.length by omega)]
    by_cases e : j = i
    · rw [ct (by rw [h.nl, e]), e]
      exact List.map_congr_left fun x hx => by rw [sk F _ s.1 (List.mem_range.1 hx)]
    · have hji : j < i := by omega
      rw [bV (by rw [h.nl]; exact hji), h.nx j hji]
      refine List.map_congr_left fun x hx => ?_
      obtain ⟨k, ek⟩ := ic F (s.1.getD i d0) s.1 n
      rw [ek, eV _ (h.cl j x hji (List.mem_range.1 hx))]
  ot := fun j hj => by
    simp only [bA]
    rw [jC F _ n (show j < s.1.length by omega)]
    by_cases e : j = i
    · rw [ct (by rw [h.ol, e]), e]; rfl
    · rw [bV (by rw [h.ol]; omega), h.ot j (by omega)]
  cl := fun j x hj hx => by
    simp only [bA]
    rw [jC F _ n (show j < s.1.length by omega)]
    by_cases e : j = i
    · rw [e]; exact qy F _ s.1 hx
    · obtain ⟨k, ek⟩ := ic F (s.1.getD i d0) s.1 n
      rw [ek, List.mem_append]
      exact .inl (h.cl j x (by omega) hx)
  bd := fun j x hj hx => by
    simp only [bA]
    rw [jC F _ n (show j < s.1.length by omega)]
    by_cases e : j = i
    · rw [e]; exact (qK hb hx).2
    · exact h.bd j x (by omega) hx
/-! Runs. -/
section
variable {F : SYS} {n : Nat} {p0 : PP} {s : BST} (h : bR F n p0 = some s)
include h
end
/-! For the walks. -/
end Go.AV
namespace Go.AV
open Nat renaming reduceEqDiff → E, reduceAdd → D, reduceLeDiff → J, reduceLT → U, reduceMul → O, reduceSub → S
open List renaming set_cons_zero → aq, set_cons_succ → am
/-plain-/
/-! Breadth-first search through pairs, with words. -/
abbrev STP := PP → Nat → PP
abbrev W3 := PP × List Int
def w30 : W3 := (d0, [])
def dIn (l : List W3) (q : PP) : Bool := l.any fun f => decide (f.1 = q)
def dSt (A : STP) (e : W3) (l : List W3) (x : Nat) : List W3 := if dIn l (A e.1 x) = true then l else l ++ [(A e.1 x, e.2 ++ [(x : Int)])]
def cj (A : STP) (e : W3) (l : List W3) (x : Nat) : List W3 := (List.range x).foldl (dSt A e) l
def dz (A : STP) (n : Nat) : Nat → Nat → List W3 → List W3
  | 0, _, l => l
  | f + 1, i, l => if i < l.length then dz A n f (i + 1) (cj A (l.getD i w30) l n) else l
theorem ny {l : List W3} {q : PP} : dIn l q = true ↔ q ∈ l.map Prod.fst := by
  unfold dIn
  rw [List.any_eq_true, List.mem_map]
  constructor
  · rintro ⟨e, he, h⟩; exact ⟨e, he, by simpa using h⟩
  · rintro ⟨e, he, h⟩; exact ⟨e, he, by simpa using h⟩
theorem fF {A : STP} {e : W3} {l : List W3} {x : Nat} (h : A e.1 x ∈ l.map Prod.fst) : dSt A e l x = l := if_pos (ny.2 h)
theorem dW {A : STP} {e : W3} {l : List W3} {x : Nat} (h : A e.1 x ∉ l.map Prod.fst) : dSt A e l x = l ++ [(A e.1 x, e.2 ++ [(x : Int)])] := if_neg fun k => h (ny.1 k)
theorem cu (A : STP) (e : W3) (l : List W3) (x : Nat) : cj A e l (x + 1) = dSt A e (cj A e l x) x := by
  unfold cj; rw [List.range_succ, List.foldl_append]; rfl
theorem rD (A : STP) (e : W3) (l : List W3) (x : Nat) : ∃ k, dSt A e l x = l ++ k := by
  unfold dSt; split
  · exact ⟨[], by simp⟩
  · exact ⟨_, rfl⟩
theorem fl (A : STP) (e : W3) (l : List W3) (x : Nat) : ∀ d, ∃ k, cj A e l (x + d) = cj A e l x ++ k
  | 0 => ⟨[], by simp⟩
  | d + 1 => by
    obtain ⟨k, h⟩ := fl A e l x d
    obtain ⟨k', h'⟩ := rD A e (cj A e l (x + d)) (x + d)
    exact ⟨k ++ k', by rw [← Nat.add_assoc, cu, h', h, List.append_assoc]⟩
theorem dn (A : STP) (e : W3) (l : List W3) (x : Nat) : ∃ k, cj A e l x = l ++ k := by
  obtain ⟨k, h⟩ := fl A e l 0 x
  rw [Nat.zero_add] at h
  exact ⟨k, h⟩
theorem hO (A : STP) (e : W3) {l : List W3} (x : Nat) {i : Nat} (h : i < l.length) : (cj A e l x).getD i w30 = l.getD i w30 := by
  obtain ⟨k, h2⟩ := dn A e l x
  rw [h2]; simp [List.getD, List.getElem?_append_left h]
theorem kf (A : STP) (e : W3) (l : List W3) (x : Nat) : l.length ≤ (cj A e l x).length := by
  obtain ⟨k, h2⟩ := dn A e l x
  rw [h2, List.length_append]; omega
theorem gq (A : STP) (n : Nat) : ∀ (f i : Nat) (l : List W3), ∃ k, dz A n f i l = l ++ k
  | 0, _, l => ⟨[], by simp [dz]⟩
  | f + 1, i, l => by
    simp only [dz]
    split
    · obtain ⟨k, h⟩ := gq A n f (i + 1) (cj A (l.getD i w30) l n)
      obtain ⟨k', h'⟩ := dn A (l.getD i w30) l n
      exact ⟨k' ++ k, by rw [h, h', List.append_assoc]⟩
    · exact ⟨[], by simp⟩
theorem gh (A : STP) (n f i : Nat) {l : List W3} (h : l.length ≤ i) : dz A n f i l = l := by
  cases f with
  | zero => rfl
  | succ f => simp only [dz]; rw [if_neg (by omega)]
theorem ez (A : STP) (n f : Nat) {i : Nat} {l : List W3} (h : i < l.length) : dz A n (f + 1) i l = dz A n f (i + 1) (cj A (l.getD i w30) l n) := by
  simp only [dz]; rw [if_pos h]
def inR (n1 n2 : Nat) (q : PP) : Prop := (0 ≤ q.1 ∧ q.1 < n1) ∧ 0 ≤ q.2 ∧ q.2 < n2
structure DW (n1 n2 : Nat) (l : List W3) : Prop where
  nd : (l.map Prod.fst).Nodup
  rg : ∀ e, e ∈ l → inR n1 n2 e.1
  wl : ∀ e, e ∈ l → e.2.length < l.length
theorem dx {l : List W3} {i : Nat} (h : i < l.length) : l.getD i w30 ∈ l := by simp [List.getD, h]
theorem DW.le {n1 n2 : Nat} {l : List W3} (h : DW n1 n2 l) : l.length ≤ n1 * n2 := by
  have hnd : ((l.map Prod.fst).map fun q : PP => q.1 * (n2 : Int) + q.2).Nodup := by
    rw [List.nodup_iff_pairwise_ne, List.pairwise_map]
    refine List.Pairwise.imp_of_mem (fun {a b} ha hb hab => ?_) (List.nodup_iff_pairwise_ne.1 h.nd)
    intro e
    obtain ⟨ea, hea, rfl⟩ := List.mem_map.1 ha
    obtain ⟨eb, heb, rfl⟩ := List.mem_map.1 hb
    have := kU (h.rg ea hea).2 (h.rg eb heb).2 e
    exact hab (Prod.ext this.1 this.2)
  have := fo (n1 * n2) _ hnd (fun x hx => by
    obtain ⟨q, hq, rfl⟩ := List.mem_map.1 hx
    obtain ⟨e, he, rfl⟩ := List.mem_map.1 hq
    have hr := h.rg e he
    have := nk hr.1 hr.2
    rw [Int.natCast_mul]; exact this)
  simpa using this
theorem m8 {n1 n2 : Nat} {p : PP} (h : inR n1 n2 p) : DW n1 n2 [(p, [])] := ⟨by simp, fun e he => by simp at he; subst he; exact h, fun e he => by simp at he; subst he; simp⟩
theorem DW.step {n1 n2 n : Nat} {A : STP} (hA : ∀ q, inR n1 n2 q → ∀ x, x < n → inR n1 n2 (A q x)) {l : List W3} (h : DW n1 n2 l) {e : W3} (he : e ∈ l) {x : Nat} (hx : x < n) : DW n1 n2 (dSt A e l x) := by
  by_cases hin : A e.1 x ∈ l.map Prod.fst
  · rw [fF hin]; exact h
  · rw [dW hin]
    refine ⟨?_, fun f hf => ?_, fun f hf => ?_⟩
    · rw [List.map_append, List.map_cons, List.map_nil, List.nodup_append]
      refine ⟨h.nd, by simp, fun a ha b hb => ?_⟩
      simp at hb; subst hb
      intro hab; subst hab; exact hin ha
    · rcases List.mem_append.1 hf with hf | hf
      · exact h.rg f hf
      · simp at hf; subst hf; exact hA _ (h.rg e he) x hx
    · rw [List.length_append, List.length_singleton]
      rcases List.mem_append.1 hf with hf | hf
      · have := h.wl f hf; omega
      · simp at hf; subst hf
        have := h.wl e he
        simp only [List.length_append, List.length_singleton]; omega
theorem DW.row {n1 n2 n : Nat} {A : STP} (hA : ∀ q, inR n1 n2 q → ∀ x, x < n → inR n1 n2 (A q x)) {l : List W3} (h : DW n1 n2 l) {i : Nat} (hi : i < l.length) : ∀ x, x ≤ n → DW n1 n2 (cj A (l.getD i w30) l x)
  | 0, _ => by simpa [cj] using h
  | x + 1, hx => by
    rw [cu]
    refine (h.row hA hi x (by omega)).step hA ?_ (by omega)
    obtain ⟨k, e⟩ := dn A (l.getD i w30) l x
    rw [e]; exact List.mem_append.2 (.inl (dx hi))
/-! The search for a pair. -/
def dFi (g : PP → Bool) (l : List W3) : Option Nat := l.findIdx? fun e => g e.1
def dQ (g : PP → Bool) (l : List W3) : List W3 := match dFi g l with | some k => l.take (k + 1) | none => l
def dB (g : PP → Bool) (l : List W3) : Bool := (dFi g l).isSome
theorem qj {g : PP → Bool} {l k : List W3} {e : W3} (h : ∀ f, f ∈ l → g f.1 = false) (he : g e.1 = true) : dFi g (l ++ [e] ++ k) = some l.length := by
  unfold dFi
  rw [List.append_assoc, List.findIdx?_append]
  have h1 : l.findIdx? (fun e => g e.1) = none := List.findIdx?_eq_none_iff.2 fun f hf => by simpa using h f hf
  rw [h1]
  simp [List.findIdx?_cons, he]
theorem lP {g : PP → Bool} {l k : List W3} {e : W3} (h : ∀ f, f ∈ l → g f.1 = false) (he : g e.1 = true) : dQ g (l ++ [e] ++ k) = l ++ [e] ∧ dB g (l ++ [e] ++ k) = true := by
  have := qj (k := k) h he
  unfold dQ dB
  rw [this]
  refine ⟨?_, rfl⟩
  show List.take (l.length + 1) (l ++ [e] ++ k) = l ++ [e]
  rw [List.take_append_of_le_length (by simp)]
  exact List.take_of_length_le (by simp)
theorem kl {g : PP → Bool} {l : List W3} (h : ∀ f, f ∈ l → g f.1 = false) : dQ g l = l ∧ dB g l = false := by
  have h1 : dFi g l = none := List.findIdx?_eq_none_iff.2 fun f hf => by simpa using h f hf
  unfold dQ dB
  rw [h1]
  exact ⟨rfl, rfl⟩
/-! The numbers of pairs. -/
def kvP (q : PP) : KV := .arr [q.1, q.2]
def mpE (l : List W3) : List (KV × Int) := (List.range l.length).map fun j => (kvP (l.getD j w30).1, (j : Int))
theorem pL (l : List W3) (e : W3) : mpE (l ++ [e]) = mpE l ++ [(kvP e.1, (l.length : Int))] := by
  unfold mpE
  rw [List.length_append, List.length_singleton, List.range_succ, List.map_append]
  congr 1
  · refine List.map_congr_left fun j hj => ?_
    have := List.mem_range.1 hj
    simp [List.getD, List.getElem?_append_left this]
  · simp [List.getD]
theorem nt {p q : PP} (h : kvP p = kvP q) : p = q := by
  simp only [kvP, KV.arr.injEq, List.cons.injEq, and_true] at h
  exact Prod.ext h.1 h.2
theorem kW (l : List W3) : (mpE l).map (·.1) = (l.map Prod.fst).map kvP := by
  refine List.ext_getElem (by simp [mpE]) fun i h1 h2 => ?_
  have hi : i < l.length := by simpa using h2
  simp [mpE, List.getD, hi]
theorem nP {l : List W3} (h : (l.map Prod.fst).Nodup) : ((mpE l).map (·.1)).Nodup := by
  rw [kW, List.nodup_iff_pairwise_ne, List.pairwise_map]
  exact List.Pairwise.imp (fun hab e => hab (nt e)) (List.nodup_iff_pairwise_ne.1 h)
theorem kq {l : List W3} {q : PP} (h : q ∉ l.map Prod.fst) : cC (mpE l) (kvP q) = none := fV fun p hp e => by
  have : p.1 ∈ (mpE l).map (·.1) := List.mem_map.2 ⟨p, hp, rfl⟩
  rw [kW] at this
  obtain ⟨r, hr, e2⟩ := List.mem_map.1 this
  rw [e] at e2
  exact h (nt e2 ▸ hr)
theorem pj {l : List W3} (hn : (l.map Prod.fst).Nodup) {j : Nat} (hj : j < l.length) : cC (mpE l) (kvP (l.getD j w30).1) = some (j : Int) :=
  fA (nP hn) (List.mem_map.2 ⟨j, List.mem_range.2 hj, rfl⟩)
theorem kd {l : List W3} (hn : (l.map Prod.fst).Nodup) {q : PP} (h : q ∈ l.map Prod.fst) : cC (mpE l) (kvP q) = some (pos (l.map Prod.fst) q : Int) := by
  have h1 := jm h
  have h2 := ff h
  rw [List.length_map] at h1
  have e : (l.getD (pos (l.map Prod.fst) q) w30).1 = q := by
    rw [List.getElem?_map] at h2
    obtain ⟨z, hz, e⟩ := Option.map_eq_some_iff.1 h2
    simp [List.getD, hz, e]
  have := pj hn h1
  rw [e] at this; exact this
theorem pG {l : List W3} {e : W3} (h : e.1 ∉ l.map Prod.fst) : dT (mpE l) (kvP e.1) (l.length : Int) = mpE (l ++ [e]) := by
  unfold dT
  rw [kq h, pL]; rfl
end Go.AV
namespace Go.AV
open Nat renaming reduceEqDiff → E, reduceAdd → D, reduceLeDiff → J, reduceLT → U, reduceMul → O, reduceSub → S
open List renaming set_cons_zero → aq, set_cons_succ → am
/-plain-/
/-! Sorted lists without repetition. -/
theorem gf (xs : List Int) (j : Nat) : xs.toArray[j]! = xs.getD j 0 := by
  by_cases h : j < xs.length
  · rw [getElem!_pos _ _ (by simpa using h)]; simp [List.getD, h]
  · rw [getElem!_neg _ _ (by simpa using h)]; simp [List.getD, h]
theorem mH (xs : List Int) (hs : ∀ i j, i ≤ j → j < xs.length → xs.getD i 0 ≤ xs.getD j 0) : ∀ m, m ≤ xs.length →
    (Lib.compactUpTo xs.toArray m).Pairwise (· < ·) ∧ ∀ x, x ∈ Lib.compactUpTo xs.toArray m ↔ ∃ j, j < m ∧ xs.getD j 0 = x
  | 0, _ => by simp [Lib.compactUpTo]
  | m + 1, hm => by
    obtain ⟨h1, h2⟩ := mH xs hs m (by omega)
    rw [Lib.compactUpTo_succ]
    cases hk : Lib.keeps xs.toArray m with
    | true =>
      simp only [if_true]
      have hb : m = 0 ∨ xs.getD m 0 ≠ xs.getD (m - 1) 0 := by
        have := of_decide_eq_true hk
        rwa [gf, gf] at this
      refine ⟨?_, fun x => ?_⟩
      · rw [List.pairwise_append]
        refine ⟨h1, by simp, fun a ha b hb2 => ?_⟩
        obtain ⟨j, hj, e⟩ := (h2 a).1 ha
        rw [List.mem_singleton, gf] at hb2
        rw [hb2, ← e]
        have q1 := hs j (m - 1) (by omega) (by omega)
        have q2 := hs (m - 1) m (by omega) (by omega)
        omega
      · rw [List.mem_append, h2, List.mem_singleton, gf]
        constructor
        · rintro (⟨j, hj, e⟩ | e)
          · exact ⟨j, by omega, e⟩
          · exact ⟨m, by omega, e.symm⟩
        · rintro ⟨j, hj, e⟩
          by_cases hjm : j = m
          · exact .inr (by rw [← e, hjm])
          · exact .inl ⟨j, by omega, e⟩
    | false =>
      simp only [Bool.false_eq_true, if_false, List.append_nil]
      have hb : m ≠ 0 ∧ xs.getD m 0 = xs.getD (m - 1) 0 := by
        have := of_decide_eq_false hk
        rw [gf, gf] at this
        refine ⟨fun e => this (.inl e), ?_⟩
        false_or_by_contra
        rename_i hh
        exact this (.inr hh)
      refine ⟨h1, fun x => ?_⟩
      rw [h2]
      constructor
      · rintro ⟨j, hj, e⟩; exact ⟨j, by omega, e⟩
      · rintro ⟨j, hj, e⟩
        by_cases hjm : j = m
        · exact ⟨m - 1, by omega, by rw [← e, hjm, hb.2]⟩
        · exact ⟨j, by omega, e⟩
theorem dL {xs : List Int} {x : Int} : x ∈ xs ↔ ∃ j, j < xs.length ∧ xs.getD j 0 = x := by
  constructor
  · intro h
    obtain ⟨j, hj⟩ := List.getElem?_of_mem h
    exact ⟨j, (List.getElem?_eq_some_iff.1 hj).1, by simp [List.getD, hj]⟩
  · rintro ⟨j, hj, e⟩; rw [← e]; exact dO hj
def eY (xs : List Int) : List Int := xs.mergeSort fun x y => decide (x ≤ y)
theorem pS (xs : List Int) : ∀ i j, i ≤ j → j < (eY xs).length → (eY xs).getD i 0 ≤ (eY xs).getD j 0 := by
  intro i j hij hj
  by_cases e : i = j
  · rw [e]; omega
  · have hp : (eY xs).Pairwise (fun x y => decide (x ≤ y) = true) := List.pairwise_mergeSort (le := fun x y => decide (x ≤ y)) (fun a b c h1 h2 => by simp at *; omega) (fun a b => by simp; omega) xs
    have := List.pairwise_iff_getElem.1 hp i j (by omega) hj (by omega)
    simp [List.getD, hj, show i < (eY xs).length by omega]
    simpa using this
theorem o7 {xs : List Int} {x : Int} : x ∈ eY xs ↔ x ∈ xs := List.mem_mergeSort
theorem ke (xs : List Int) : (eY xs).length = xs.length := List.length_mergeSort _
def ju (xs : List Int) : List Int := Lib.compact (eY xs)
theorem gR (xs : List Int) : (ju xs).Pairwise (· < ·) ∧ ∀ x, x ∈ ju xs ↔ x ∈ xs := by
  obtain ⟨h1, h2⟩ := mH (eY xs) (pS xs) _ (Nat.le_refl _)
  refine ⟨h1, fun x => ?_⟩
  rw [ju, Lib.compact, h2, ← dL, o7]
theorem lD {xs : List Int} : (Lib.compact xs).length ≤ xs.length := by
  unfold Lib.compact Lib.compactUpTo
  rw [List.length_map]
  exact Nat.le_trans (List.length_filter_le _ _) (by simp)
/-! Insertion. -/
/-- The outputs of a machine. -/
def iF (m : Mly) : List Int := if bl m = 0 then ju m.ot.flatten else []
theorem ln {m : Mly} (h : ¬ bl m = 0) : iF m = [] := if_neg h
theorem kj {m : Mly} (h : bl m = 0) : iF m = ju m.ot.flatten := if_pos h
theorem jo {m : Mly} (hm : MOK m) : ∀ k, k ≤ m.ot.length → ((m.ot.take k).flatten.length : Int) = k * m.inp
  | 0, _ => by simp
  | k + 1, h => by
    rw [cO _ (by omega), List.length_append]
    have h1 := jo hm k (by omega)
    have h2 := hm.ql k (by have := hm.ol; omega)
    rw [Int.natCast_add, h1, h2]
    have : ((k + 1 : Nat) : Int) = (k : Int) + 1 := by omega
    rw [this, Int.add_mul]; omega
/-! The reference's trimmed machine. -/
/-! Traces. -/
theorem fY {m : Mly} (hm : MOK m) {k : Nat} (h : k ≤ m.ot.length) : (m.ot.take k).flatten.length ≤ 8192 := by
  have h1 := jo hm k h
  have h2 := hm.ol; have h3 := hm.n2; have h4 := hm.i2; have h5 := hm.i1
  have h6 : (k : Int) * m.inp ≤ 128 * 64 := Int.mul_le_mul (by omega) (by omega) (by omega) (by omega)
  omega
end Go.AV
namespace Go.AV
open Nat renaming reduceEqDiff → E, reduceAdd → D, reduceLeDiff → J, reduceLT → U, reduceMul → O, reduceSub → S
open List renaming set_cons_zero → aq, set_cons_succ → am
/-plain-/
/-! The greatest output. -/
def mxL (xs : List Int) : Int := xs.foldl max (xs.getD 0 0)
def gr (m : Mly) : Int := m.ot.flatten.foldl max 0
theorem qf {m : Mly} (hm : MOK m) {s a : Int} (hs : 0 ≤ s ∧ s < m.nx.length) (ha : 0 ≤ a ∧ a < m.inp) : m.out s a ∈ m.ot.flatten := by
  have hol := hm.ol
  have h1 : s.toNat < m.ot.length := by omega
  have h2 := hm.ql s.toNat (by omega)
  rw [List.mem_flatten]
  refine ⟨m.ot.getD s.toNat [], by simp [List.getD, h1], dO (by omega)⟩
/-! The systems. -/
def IP (a b : Mly) (p : PP) : Prop := (0 ≤ p.1 ∧ p.1 < a.nx.length) ∧ 0 ≤ p.2 ∧ p.2 < b.nx.length
def IS (m : Mly) (p : PP) : Prop := (0 ≤ p.1 ∧ p.1 < m.nx.length) ∧ p.2 = 0
theorem IP.st {a b : Mly} (ha : MOK a) (hb : MOK b) : IP a b (a.st, b.st) := ⟨⟨ha.s1, ha.s2⟩, hb.s1, hb.s2⟩
theorem IS.st {m : Mly} (hm : MOK m) : IS m (m.st, 0) := ⟨⟨hm.s1, hm.s2⟩, rfl⟩
/-! What the functions return. -/
/-! Restrict and Map: the trimmed machine. -/
/-! The machine of pairs (s, 0) is the trimmed machine. -/
structure SNG (X : Mly) (F : SYS) : Prop where
  st : ∀ s x : Nat, s < X.nx.length → (x : Int) < X.inp → F ((s : Int), 0) x = ((X.nxt s x, 0), X.out s x)
theorem SNG.at_ {X : Mly} {F : SYS} (h : SNG X F) {q : PP} (hq : IS X q) {x : Nat} (hx : (x : Int) < X.inp) : F q x = ((X.nxt q.1 x, 0), X.out q.1 x) := by
  obtain ⟨q1, q2⟩ := q
  obtain ⟨h1, h2⟩ := hq
  simp only at h1 h2
  subst h2
  have := h.st q1.toNat x (by omega) hx
  rw [Int.toNat_of_nonneg h1.1] at this
  exact this
theorem rU {xs : List Int} (h : 0 < xs.length) : (xs.take 1).foldl max (xs.getD 0 0) = xs.getD 0 0 := by
  cases xs with
  | nil => cases h
  | cons y xs => simp [List.getD]
end Go.AV
namespace Go.AV
open Nat renaming reduceEqDiff → E, reduceAdd → D, reduceLeDiff → J, reduceLT → U, reduceMul → O, reduceSub → S
open List renaming set_cons_zero → aq, set_cons_succ → am
/-plain-/
abbrev Bs := List UInt8
def okI (c : Int) : Prop := (97 ≤ c ∧ c ≤ 122) ∨ (65 ≤ c ∧ c ≤ 90) ∨ (48 ≤ c ∧ c ≤ 57) ∨ c = 95 ∨ c = 45 ∨ c = 46
instance (c : Int) : Decidable (okI c) := by unfold okI; exact inferInstance
def sV (s : Bs) : Bool := s.all (fun b => decide (okI (b.toNat : Int))) && decide (1 ≤ s.length) && decide (s.length ≤ 32)
/-! Alphabets. -/
structure AOK (xs : List Bs) : Prop where
  n0 : 1 ≤ xs.length
  n1 : xs.length ≤ 64
  nm : ∀ k, k < xs.length → sV (xs.getD k []) = true
  nw : ∀ k, k < xs.length → xs.getD k [] ∉ xs.take k
theorem kh {xs : List Bs} {k : Nat} (h : k < xs.length) : xs.getD k [] ∈ xs := by simp [List.getD, h]
theorem t4 {xs : List Bs} {x : Bs} : x ∈ xs ↔ ∃ j, j < xs.length ∧ xs.getD j [] = x := by
  constructor
  · intro h
    obtain ⟨j, hj⟩ := List.getElem?_of_mem h
    exact ⟨j, (List.getElem?_eq_some_iff.1 hj).1, by simp [List.getD, hj]⟩
  · rintro ⟨j, hj, e⟩; rw [← e]; exact kh hj
theorem nD {xs : List Bs} {i k : Nat} (hi : i < k) : (xs.take k).getD i [] = xs.getD i [] := by simp [List.getD, List.getElem?_take, hi]
theorem nA {q : Bs} : ∀ {l : List Bs} {k : Nat}, k < pos l q → l.getD k [] ≠ q
  | [], k, h => by simp [pos] at h
  | y :: l, k, h => by
    simp only [pos] at h
    split at h
    · omega
    · rename_i e
      cases k with
      | zero => simpa [List.getD] using e
      | succ k =>
        have := nA (q := q) (l := l) (k := k) (by omega)
        simpa [List.getD] using this
theorem qX {l : List Bs} {q : Bs} (h : q ∈ l) : l.getD (pos l q) [] = q := by rw [List.getD, ff h]; rfl
theorem t8 {l : List Bs} {q : Bs} {k : Nat} (hq : ∀ j, j < k → l.getD j [] ≠ q) (hk : k < l.length) (h : l.getD k [] = q) : pos l q = k ∧ q ∈ l := by
  have hm : q ∈ l := by rw [← h]; exact kh hk
  refine ⟨?_, hm⟩
  rcases Nat.lt_trichotomy k (pos l q) with h2 | h2 | h2
  · exact absurd h (nA h2)
  · exact h2.symm
  · exact absurd (qX hm) (hq _ h2)
theorem AOK.pos {xs : List Bs} (h : AOK xs) {k : Nat} (hk : k < xs.length) : pos xs (xs.getD k []) = k :=
  (t8 (fun j hj e => h.nw k hk (by rw [t4]; exact ⟨j, by rw [List.length_take]; omega, by rw [nD hj, e]⟩)) hk rfl).1
/-! Cutting at spaces. -/
/-! .. as a fold. -/
/-! Words and texts. -/
/-! The laws without the reference. -/
/-! Numbered alphabets. -/
end Go.AV
namespace Go.AV
open Nat renaming reduceEqDiff → E, reduceAdd → D, reduceLeDiff → J, reduceLT → U, reduceMul → O, reduceSub → S
open List renaming set_cons_zero → aq, set_cons_succ → am
/-plain-/
def cmn : List Int → List Int → Nat
  | x :: a, y :: b => if x = y then cmn a b + 1 else 0
  | _, _ => 0
theorem oW : ∀ {k : Nat} {a b : List Int}, (∀ q, q < k → a.getD q 0 = b.getD q 0) → k ≤ a.length → k ≤ b.length → ¬ (k < a.length ∧ k < b.length ∧ a.getD k 0 = b.getD k 0) → cmn a b = k
  | 0, [], _, _, _, _, _ => by simp [cmn]
  | 0, _ :: _, [], _, _, _, _ => by simp [cmn]
  | 0, x :: a, y :: b, _, _, _, h => by
    have : x ≠ y := fun e => h ⟨by simp, by simp, by simpa [List.getD] using e⟩
    simp [cmn, this]
  | k + 1, [], _, _, h, _, _ => by simp at h
  | k + 1, _ :: _, [], _, _, h, _ => by simp at h
  | k + 1, x :: a, y :: b, hq, h1, h2, h => by
    have e : x = y := by simpa [List.getD] using hq 0 (by omega)
    simp only [cmn, if_pos e]
    congr 1
    refine oW (fun q hq2 => ?_) (by simpa using h1) (by simpa using h2) fun h3 => h ⟨by simpa using h3.1, by simpa using h3.2.1, by simpa [List.getD] using h3.2.2⟩
    simpa [List.getD] using hq (q + 1) (by omega)
theorem ld : ∀ a : List Int, cmn a a = a.length
  | [] => rfl
  | x :: a => by simp [cmn, ld a]
theorem mR : ∀ {a b : List Int}, a.length = b.length → cmn a b = a.length → a = b
  | [], [], _, _ => rfl
  | [], _ :: _, h, _ => by simp at h
  | _ :: _, [], h, _ => by simp at h
  | x :: a, y :: b, h, h2 => by
    by_cases e : x = y
    · simp only [cmn, if_pos e, List.length_cons] at h2
      rw [e, mR (a := a) (b := b) (by simpa using h) (by omega)]
    · simp only [cmn, if_neg e, List.length_cons] at h2
      omega
theorem pA (a b : List Int) : (decide ((a.length : Int) = b.length) && decide ((cmn a b : Int) = a.length)) = decide (a = b) := by
  by_cases e : a = b
  · subst e; simp [ld]
  · rw [decide_eq_false e, Bool.and_eq_false_iff]
    by_cases h : a.length = b.length
    · right
      exact decide_eq_false fun h2 => e (mR h (by omega))
    · left; exact decide_eq_false fun h2 => h (by omega)
end Go.AV
namespace Go.AV
open Nat renaming reduceEqDiff → E, reduceAdd → D, reduceLeDiff → J, reduceLT → U, reduceMul → O, reduceSub → S
open List renaming set_cons_zero → aq, set_cons_succ → am
/-plain-/
def gW (a b : Dfa) : Bool := decide (a.inp = b.inp) && decide (a.st = b.st) && decide (a.nx = b.nx) && decide (a.acc = b.acc)
theorem oc {a b : Dfa} : gW a b = true ↔ a = b := by
  obtain ⟨a1, a2, a3, a4⟩ := a
  obtain ⟨b1, b2, b3, b4⟩ := b
  simp [gW, and_assoc]
theorem ew {a b : Dfa} (h : ¬ (a.inp = b.inp ∧ a.st = b.st ∧ a.nx = b.nx ∧ a.acc = b.acc)) : gW a b = false := by
  cases e : gW a b with
  | false => rfl
  | true => have := oc.1 e; subst this; exact absurd ⟨rfl, rfl, rfl, rfl⟩ h
theorem gY {a b : Dfa} (h1 : a.inp = b.inp) (h2 : a.st = b.st) (h3 : a.nx = b.nx) (h4 : a.acc = b.acc) : gW a b = true := by simp [gW, h1, h2, h3, h4]
theorem gX {a b : List Bool} (h : a.length = b.length) (hq : ∀ q, q < a.length → a.getD q false = b.getD q false) : a = b := by
  refine List.ext_getElem h fun i h1 h2 => ?_
  have := hq i h1
  simpa [List.getD, h1, h2] using this
theorem kn {a b : List (List Int)} (h : a.length = b.length) (hq : ∀ q, q < a.length → a.getD q [] = b.getD q []) : a = b := by
  refine List.ext_getElem h fun i h1 h2 => ?_
  have := hq i h1
  simpa [List.getD, h1, h2] using this
def opB (op : Int) (x y : Bool) : Bool := if op = 0 then x && y else if op = 1 then x || y else if op = 2 then x && !y else x != y
def dk (a b : Dfa) : Int := if bo a = 0 then (if bo b = 0 then (if a.inp = b.inp then 0 else 15) else bo b) else bo a
theorem jM {a b : Dfa} (h : dk a b = 0) : DOK a ∧ DOK b ∧ a.inp = b.inp := by
  unfold dk at h
  split at h
  · rename_i h1
    split at h
    · rename_i h2
      split at h
      · rename_i h3; exact ⟨ef h1, ef h2, h3⟩
      · omega
    · omega
  · omega
def kV (a b : Dfa) (k : Nat) : Dfa := if k = 0 then a else b
def grD (d : Dfa) : Bool := (List.range (min d.nx.length 13)).any (fun i => decide (6 < (d.nx.getD i []).length)) || (decide (12 < (d.nx.length : Int)) || decide (20 < (d.acc.length : Int)))
theorem qh {d : Dfa} {k : Nat} (h : k < d.nx.length) (h2 : k < 13) (h3 : 6 < (d.nx.getD k []).length) : grD d = true := by
  unfold grD
  rw [Bool.or_eq_true]
  exact .inl (List.any_eq_true.2 ⟨k, List.mem_range.2 (by omega), by simpa using h3⟩)
theorem ru {d : Dfa} {k : Nat} (h : ¬ (k < d.nx.length ∧ k < 13)) (hq : ∀ q, q < k → (d.nx.getD q []).length ≤ 6) : grD d = (decide (12 < (d.nx.length : Int)) || decide (20 < (d.acc.length : Int))) := by
  unfold grD
  have : (List.range (min d.nx.length 13)).any (fun i => decide (6 < (d.nx.getD i []).length)) = false := by
    rw [List.any_eq_false]
    intro i hi
    have := List.mem_range.1 hi
    have := hq i (by omega)
    simpa using this
  rw [this, Bool.false_or]
theorem oZ {d : Dfa} (h : grD d = false) : d.nx.length ≤ 12 ∧ d.acc.length ≤ 20 ∧ ∀ k, k < d.nx.length → (d.nx.getD k []).length ≤ 6 := by
  unfold grD at h
  rw [Bool.or_eq_false_iff, Bool.or_eq_false_iff, List.any_eq_false] at h
  obtain ⟨h1, h2, h3⟩ := h
  simp only [decide_eq_false_iff_not] at h2 h3
  refine ⟨by omega, by omega, fun k hk => ?_⟩
  have := h1 k (List.mem_range.2 (by omega))
  simpa using this
end Go.AV
namespace Go.AV
open Nat renaming reduceEqDiff → E, reduceAdd → D, reduceLeDiff → J, reduceLT → U, reduceMul → O, reduceSub → S
open List renaming set_cons_zero → aq, set_cons_succ → am
/-plain-/
def ku (d : Dfa) : STP := fun q x => (d.dl q.1 x, 0)
def eH (a b : Dfa) : STP := fun q x => (a.dl q.1 x, b.dl q.2 x)
def eF (d : Dfa) (q : PP) : Bool := d.ac q.1
def dU (a b : Dfa) (q : PP) : Bool := a.ac q.1 != b.ac q.2
def kS (op : Int) (a b : Dfa) (q : PP) : Bool := opB op (a.ac q.1) (b.ac q.2)
theorem ng {d : Dfa} (hd : DOK d) {n : Nat} (hn : (n : Int) = d.inp) : ∀ q, inR d.nx.length 1 q → ∀ x, x < n → inR d.nx.length 1 (ku d q x) := fun q hq x hx => ⟨hd.dl hq.1 ⟨by omega, by omega⟩, by simp [ku], by simp [ku]⟩
theorem i6 {a b : Dfa} (ha : DOK a) (hb : DOK b) (hi : a.inp = b.inp) {n : Nat} (hn : (n : Int) = a.inp) : ∀ q, inR a.nx.length b.nx.length q → ∀ x, x < n → inR a.nx.length b.nx.length (eH a b q x) := fun q hq x hx => ⟨ha.dl hq.1 ⟨by omega, by omega⟩, hb.dl hq.2 ⟨by omega, by omega⟩⟩
end Go.AV
namespace Go.AV
open Nat renaming reduceEqDiff → E, reduceAdd → D, reduceLeDiff → J, reduceLT → U, reduceMul → O, reduceSub → S
open List renaming set_cons_zero → aq, set_cons_succ → am
/-plain-/
theorem nz (a b : Dfa) {k : Nat} (h : k < 2) : ((([AC.int .i64 a.inp, .int .i64 a.st, .list (.list (.int .i64)) a.nx, .list .bool a.acc, .int .i64 b.inp, .int .i64 b.st, .list (.list (.int .i64)) b.nx, .list .bool b.acc] : List AC).drop (k * 4)).take 4) =
    [.int .i64 (kV a b k).inp, .int .i64 (kV a b k).st, .list (.list (.int .i64)) (kV a b k).nx, .list .bool (kV a b k).acc] := by
  rcases (show k = 0 ∨ k = 1 by omega) with rfl | rfl <;> rfl
end Go.AV
namespace Go.Proofs.Ytdkgcbhbpdbmnaa
open Go Go.AV
open Nat renaming reduceEqDiff → E, reduceAdd → D, reduceLeDiff → J, reduceLT → U, reduceMul → O, reduceSub → S
open List renaming set_cons_zero → aq, set_cons_succ → am
set_option maxRecDepth 100000 in
theorem mT (a b : Dfa) : bJ Try.prog 54 [a.av, b.av] (.one (.int .i64 (dk a b))) := by
 refine aS Try.func54 rfl (by kernel_rfl) (Nat.le_of_ble_eq_true rfl) rfl fun C hP hN hB => ?_
 replace hN : C.N = 25 := hN
 simp only [Z, D]
 refine ab fun K1 hK1 => ?_
 refine ai hP hN rfl ?_
 iterate 3 (refine ad rfl fun K0 V => ?_; simp only [zE, op1, ev, lkp, ah, ag, c0, au, reduceCtorEq, E, D, J, U, O, S, Try.st25, Try.td25, Try.td29, Dfa.av]; (repeat refine And.intro (by first | omega | assumption | exact rfl) ?_); refine V _ ?_; clear V K0; simp only [put, app, aa, af, zE, zS, D])
 refine aj ?_
 refine hK1 _ ?_; clear hK1; refine ae [0, 1, 2, 3, 4] ?_; simp only [Y, lkp, zE, reduceCtorEq, E, Z, D]
 refine ab fun K2 hK2 => ?_
 refine ab fun K3 hK3 => ?_
 refine ai hP hN rfl ?_
 iterate 4 (refine ad rfl fun K0 V => ?_; simp only [zE, op1, ev, lkp, ah, ag, az, Nat.mul_one, ax, ay, acs, Ty.dflt, zG, ao, bW, bh, aQ, au, reduceCtorEq, E, D, J, U, O, S, Try.ea114, Try.sa114, Try.st25, Try.td114, Try.td25, Try.td3, Dfa.av]; (repeat refine And.intro (by first | omega | assumption | exact rfl) ?_); (first | refine V _ ?_ | refine Or.inl (V _ ?_)); clear V K0; simp only [put, app, aa, af, zE, zS, D])
 refine aj ?_
 refine hK3 _ ?_; clear hK3; refine ae [0, 1, 2, 3, 4, 10, 11] ?_; simp only [Y, lkp, zE, reduceCtorEq, E, Z, D]
 refine aP ?_
 refine bG (fun n4 s4 => ∃ (k : Nat), (k ≤ 2) ∧ (∀ q, q < k → bo (kV a b q) = 0) ∧ n4 = 2 - k ∧ s4 = { env := [(2, .one (.ptr 0 0 0 0)), (3, .one (.ptr 1 0 0 0)), (4, .one (.int .i64 0)), (10, .agg [.int .i64 a.inp, .int .i64 a.st, .list (.list (.int .i64)) a.nx, .list .bool a.acc, .int .i64 b.inp, .int .i64 b.st, .list (.list (.int .i64)) b.nx, .list .bool b.acc]), (11, .one (.int .i64 (k : Int)))], L := [.vars 25 [.int .i64 a.inp, .int .i64 a.st, .list (.list (.int .i64)) a.nx, .list .bool a.acc], .vars 25 [.int .i64 b.inp, .int .i64 b.st, .list (.list (.int .i64)) b.nx, .list .bool b.acc]] }) ?_ ?_
 ·refine ⟨_, _, aO [2, 3, 4, 10, 11], 0, by omega, fun q hq => by omega, rfl, rfl⟩
 ·rintro n4 s4 ⟨k, hk, hq, rfl, rfl⟩
  refine ab fun K5 hK5 => ?_
  refine ai hP hN rfl ?_
  (refine ad rfl fun K0 V => ?_; simp only [zE, op1, ev, lkp, ah, ag, aE, aC, aD, ar, aB, aN, reduceCtorEq, E, D, J, U, O, S, Try.td3, Dfa.av]; (repeat refine And.intro (by first | omega | assumption | exact rfl) ?_); refine V _ ?_; clear V K0; simp only [put, app, aa, af, zE, zS, D])
  refine aj ?_
  refine hK5 _ ?_; clear hK5; refine ae [2, 3, 4, 10, 11, 12] ?_; simp only [Y, lkp, zE, reduceCtorEq, E, Z, D]
  refine ab fun K6 hK6 => ?_
  refine aF (by simp only [ev, Y, lkp, zE, reduceCtorEq, E, Z, D]; exact rfl) (fun hc7 => ?_) (fun hc7 => ?_)
  ·(try simp only [zB, reduceCtorEq] at hc7)
   refine aK ?_
   refine hK6 _ ?_; clear hK6; refine ae [2, 3, 4, 10, 11, 12] ?_; simp only [Y, lkp, zE, reduceCtorEq, E, Z, D]
   refine ab fun K8 hK8 => ?_
   refine aP ?_
   refine ab fun K9 hK9 => ?_
   have hch := nz a b (k := k) (by omega); have hle : k * 4 + 4 ≤ 8 := by omega
   refine ai hP hN rfl ?_
   iterate 3 (refine ad rfl fun K0 V => ?_; simp only [zE, op1, ev, lkp, ah, ag, jP, ax, ay, acs, bQ, bj, Nat.mul_one, au, aQ, aL, Ty.size, Ty.dflt, zG, reduceCtorEq, E, D, J, U, O, S, Try.ea114, Try.sa114, Try.st25, Try.td114, Try.td25, Dfa.av, hch, hle, if_true, List.length_cons, List.length_nil, Nat.zero_add]; (repeat refine And.intro (by first | omega | assumption | exact rfl) ?_); (first | refine V _ ?_ | refine Or.inl (V _ ?_)); clear V K0; simp only [put, app, aa, af, zE, zS, D])
   refine aj ?_
   refine hK9 _ ?_; clear hK9; refine ae [2, 3, 4, 6, 10, 11, 12] ?_; simp only [Y, lkp, zE, reduceCtorEq, E, Z, D]
   refine ab fun K10 hK10 => ?_
   refine ai hP hN rfl ?_
   (refine ad rfl fun K0 V => ?_; simp only [zE, op1, ev, lkp, ah, ag, az, Nat.mul_one, ax, ay, acs, Ty.dflt, zG, ao, reduceCtorEq, E, D, J, U, O, S, Try.st25, Try.td25, Dfa.av]; (repeat refine And.intro (by first | omega | assumption | exact rfl) ?_); refine V _ ?_; clear V K0; simp only [put, app, aa, af, zE, zS, D])
   refine ad rfl fun K0 V => ?_
   refine aW (h := aG (dt (kV a b k))) rfl rfl (by first | exact rfl | (simp only [ev, Y, lkp, zE, reduceCtorEq, E, Z, D]; exact rfl)) (by simp only [zE, zG, op1, ev, lkp, ah, ag, au, acs, ba, mv1, mvC, Ty.dflt, reduceCtorEq, E, D, J, U, O, S, Dfa.av]) ?_
   refine V _ ?_; clear V K0; simp only [put, app, aa, af, zE, zS, D]
   (refine ad rfl fun K0 V => ?_; simp only [zE, op1, ev, lkp, ah, ag, ev, reduceCtorEq, E, D, J, U, O, S, Try.td29, Dfa.av]; refine V _ ?_; clear V K0; simp only [put, app, aa, af, zE, zS, D])
   refine aj ?_
   refine hK10 _ ?_; clear hK10; refine ae [2, 3, 4, 6, 7, 10, 11, 12] ?_; simp only [Y, lkp, zE, reduceCtorEq, E, Z, D]
   refine ab fun K11 hK11 => ?_
   refine ai hP hN rfl ?_
   iterate 2 (refine ad rfl fun K0 V => ?_; simp only [zE, op1, ev, lkp, ah, ag, aE, aC, aD, ar, aB, aN, reduceCtorEq, E, D, J, U, O, S, Try.td29, Try.td4, Dfa.av]; (repeat refine And.intro (by first | omega | assumption | exact rfl) ?_); refine V _ ?_; clear V K0; simp only [put, app, aa, af, zE, zS, D])
   refine aj ?_
   refine hK11 _ ?_; clear hK11; refine ae [2, 3, 4, 6, 7, 10, 11, 12, 17] ?_; simp only [Y, lkp, zE, reduceCtorEq, E, Z, D]
   refine aF (by simp only [ev, Y, lkp, zE, reduceCtorEq, E, Z, D]; exact rfl) (fun hc12 => ?_) (fun hc12 => ?_)
   ·(try simp only [zB, reduceCtorEq] at hc12)
    refine ab fun K13 hK13 => ?_
    refine ai hP hN rfl ?_
    iterate 2 (refine ad rfl fun K0 V => ?_; simp only [zE, op1, ev, lkp, ah, ag, ev, reduceCtorEq, E, D, J, U, O, S, Try.td29, Dfa.av]; refine V _ ?_; clear V K0; simp only [put, app, aa, af, zE, zS, D])
    refine aj ?_
    refine hK13 _ ?_; clear hK13; refine ae [2, 3, 4, 6, 7, 10, 11, 12, 17] ?_; simp only [Y, lkp, zE, reduceCtorEq, E, Z, D]
    refine aI ?_
    refine ⟨by first | exact .inl rfl | exact .inr rfl, _, rfl, ?_⟩; simp only [fzV, fz1, fzC, List.map_cons, List.map_nil, Y, lkp, zE, reduceCtorEq, E, Z, D, Dfa.av]
    refine VLE.of_eq ?_
    refine congrArg (fun n => AV.one (AC.int IntKind.i64 n)) ?_
    unfold dk
    first
    | (have h0 : bo a = 0 := hq 0 (by omega)
       have h1 : bo b = 0 := hq 1 (by omega)
       rw [if_pos h0, if_pos h1]
       first | (rw [if_pos (by omega)]; done) | (rw [if_neg (by omega)]; done))
    | (rcases (show k = 0 ∨ k = 1 by omega) with rfl | rfl
       · rw [if_neg (by assumption)]; rfl
       · have h0 : bo a = 0 := hq 0 (by omega)
         rw [if_pos h0, if_neg (by assumption)]; rfl)
   ·(try simp only [zB, reduceCtorEq] at hc12)
    refine aK ?_
    refine hK8 _ ?_; clear hK8; refine ae [2, 3, 4, 6, 7, 10, 11, 12, 17] ?_; simp only [Y, lkp, zE, reduceCtorEq, E, Z, D]
    refine ae [2, 3, 4, 10, 11] ?_; simp only [Y, lkp, zE, reduceCtorEq, E]
    refine fO (L1 := [_, _]) rfl hB rfl rfl ?_
    refine ai hP hN rfl ?_
    iterate 2 (refine ad rfl fun K0 V => ?_; simp only [zE, op1, ev, lkp, ah, ag, aE, aC, aD, ar, aB, aN, reduceCtorEq, E, D, J, U, O, S, Try.td3, Dfa.av]; (repeat refine And.intro (by first | omega | assumption | exact rfl) ?_); refine V _ ?_; clear V K0; simp only [put, app, aa, af, zE, zS, D])
    refine aj ?_
    refine ⟨_, _, ?_, aO [2, 3, 4, 10, 11], k + 1, by omega, fun q hq2 => ?_, rfl, rfl⟩
    · omega
    · by_cases e : q = k
      · rw [e]; omega
      · exact hq q (by omega)
  ·(try simp only [zB, reduceCtorEq] at hc7)
   refine bD ?_
   refine hK2 _ ?_; clear hK2; refine ae [2, 3, 4, 10, 11, 12] ?_; simp only [Y, lkp, zE, reduceCtorEq, E, Z, D]
   refine ab fun K14 hK14 => ?_
   refine ab fun K15 hK15 => ?_
   refine ai hP hN rfl ?_
   iterate 5 (refine ad rfl fun K0 V => ?_; simp only [zE, op1, ev, lkp, ah, ag, aw, az, Nat.mul_one, ax, ay, acs, Ty.dflt, zG, ao, aE, aC, aD, ar, aB, aN, reduceCtorEq, E, D, J, U, O, S, Try.st25, Try.td25, Try.td3, Try.td4, Dfa.av]; (repeat refine And.intro (by first | omega | assumption | exact rfl) ?_); refine V _ ?_; clear V K0; simp only [put, app, aa, af, zE, zS, D])
   refine aj ?_
   refine hK15 _ ?_; clear hK15; refine ae [2, 3, 4, 10, 11, 12, 24] ?_; simp only [Y, lkp, zE, reduceCtorEq, E, Z, D]
   refine aF (by simp only [ev, Y, lkp, zE, reduceCtorEq, E, Z, D]; exact rfl) (fun hc16 => ?_) (fun hc16 => ?_)
   ·(try simp only [zB, reduceCtorEq] at hc16)
    refine ab fun K17 hK17 => ?_
    refine ai hP hN rfl ?_
    (refine ad rfl fun K0 V => ?_; simp only [zE, op1, ev, lkp, ah, ag, ev, reduceCtorEq, E, D, J, U, O, S, Try.td29, Dfa.av]; refine V _ ?_; clear V K0; simp only [put, app, aa, af, zE, zS, D])
    refine aj ?_
    refine hK17 _ ?_; clear hK17; refine ae [2, 3, 4, 10, 11, 12, 24] ?_; simp only [Y, lkp, zE, reduceCtorEq, E, Z, D]
    refine aI ?_
    refine ⟨by first | exact .inl rfl | exact .inr rfl, _, rfl, ?_⟩; simp only [fzV, fz1, fzC, List.map_cons, List.map_nil, Y, lkp, zE, reduceCtorEq, E, Z, D, Dfa.av]
    refine VLE.of_eq ?_
    refine congrArg (fun n => AV.one (AC.int IntKind.i64 n)) ?_
    unfold dk
    first
    | (have h0 : bo a = 0 := hq 0 (by omega)
       have h1 : bo b = 0 := hq 1 (by omega)
       rw [if_pos h0, if_pos h1]
       first | (rw [if_pos (by omega)]; done) | (rw [if_neg (by omega)]; done))
    | (rcases (show k = 0 ∨ k = 1 by omega) with rfl | rfl
       · rw [if_neg (by assumption)]; rfl
       · have h0 : bo a = 0 := hq 0 (by omega)
         rw [if_pos h0, if_neg (by assumption)]; rfl)
   ·(try simp only [zB, reduceCtorEq] at hc16)
    refine aK ?_
    refine hK14 _ ?_; clear hK14; refine ae [2, 3, 4, 10, 11, 12, 24] ?_; simp only [Y, lkp, zE, reduceCtorEq, E, Z, D]
    refine ab fun K18 hK18 => ?_
    refine ai hP hN rfl ?_
    (refine ad rfl fun K0 V => ?_; simp only [zE, op1, ev, lkp, ah, ag, ev, reduceCtorEq, E, D, J, U, O, S, Try.td29, Dfa.av]; refine V _ ?_; clear V K0; simp only [put, app, aa, af, zE, zS, D])
    refine aj ?_
    refine hK18 _ ?_; clear hK18; refine ae [2, 3, 4, 10, 11, 12, 24] ?_; simp only [Y, lkp, zE, reduceCtorEq, E, Z, D]
    refine aI ?_
    refine ⟨by first | exact .inl rfl | exact .inr rfl, _, rfl, ?_⟩; simp only [fzV, fz1, fzC, List.map_cons, List.map_nil, Y, lkp, zE, reduceCtorEq, E, Z, D, Dfa.av]
    refine VLE.of_eq ?_
    refine congrArg (fun n => AV.one (AC.int IntKind.i64 n)) ?_
    unfold dk
    first
    | (have h0 : bo a = 0 := hq 0 (by omega)
       have h1 : bo b = 0 := hq 1 (by omega)
       rw [if_pos h0, if_pos h1]
       first | (rw [if_pos (by omega)]; done) | (rw [if_neg (by omega)]; done))
    | (rcases (show k = 0 ∨ k = 1 by omega) with rfl | rfl
       · rw [if_neg (by assumption)]; rfl
       · have h0 : bo a = 0 := hq 0 (by omega)
         rw [if_pos h0, if_neg (by assumption)]; rfl)
end Go.Proofs.Ytdkgcbhbpdbmnaa
namespace Go.AV
open Nat renaming reduceEqDiff → E, reduceAdd → D, reduceLeDiff → J, reduceLT → U, reduceMul → O, reduceSub → S
open List renaming set_cons_zero → aq, set_cons_succ → am
/-plain-/
def fX (e : W3) : (Int × Int × Unit) × List Int × Unit := ((e.1.1, (e.1.2, ())), (e.2, ()))
theorem iD {l : List W3} {i : Nat} (h : i < l.length) (d : (Int × Int × Unit) × List Int × Unit) : (List.map fX l).getD i d = ((((l.getD i w30).1.1), ((l.getD i w30).1.2, ())), ((l.getD i w30).2, ())) := by simp [List.getD, h, fX]
def bv (A : STP) (n N : Nat) (p : PP) : List W3 := dz A n (N + 1) 0 [(p, [])]
theorem rm {l : List W3} {q : PP} (h : (cC (mpE l) (.arr [q.1, q.2])).isSome = true) : q ∈ l.map Prod.fst := by
  by_cases hq : q ∈ l.map Prod.fst
  · exact hq
  · have := kq hq
    unfold kvP at this
    rw [this] at h; cases h
theorem qa {l : List W3} (hn : (l.map Prod.fst).Nodup) {q : PP} (h : (cC (mpE l) (.arr [q.1, q.2])).isSome = false) : q ∉ l.map Prod.fst := fun hq => by
  have := kd hn hq
  unfold kvP at this
  rw [this] at h; cases h
theorem nJ {l : List W3} {q : PP} {w : List Int} (h : q ∉ l.map Prod.fst) : dT (mpE l) (.arr [q.1, q.2]) (l.length : Int) = mpE (l ++ [(q, w)]) := pG (e := (q, w)) h
theorem p5 {A : STP} {n f k x : Nat} {l : List W3} (hk : k < l.length) (hx : x < n) (hn : A (l.getD k w30).1 x ∉ (cj A (l.getD k w30) l x).map Prod.fst) : ∃ r, dz A n (f + 1) k l = cj A (l.getD k w30) l x ++ [(A (l.getD k w30).1 x, (l.getD k w30).2 ++ [(x : Int)])] ++ r := by
  obtain ⟨r1, h1⟩ := gq A n f (k + 1) (cj A (l.getD k w30) l n)
  obtain ⟨r2, h2⟩ := fl A (l.getD k w30) l (x + 1) (n - (x + 1))
  rw [show x + 1 + (n - (x + 1)) = n by omega, cu, dW hn] at h2
  exact ⟨r2 ++ r1, by rw [ez _ _ _ hk, h1, h2, List.append_assoc]⟩
theorem lV {n1 n2 : Nat} {q : PP} (h : inR n1 n2 q) (h1 : n1 ≤ 100000) (h2 : n2 ≤ 100000) : eL (.arr 2) (.arr [q.1, q.2]) := by
  refine ⟨rfl, fun x hx => ?_⟩
  have := h.1; have := h.2
  simp at hx
  rcases hx with rfl | rfl <;> omega
end Go.AV
namespace Go.AV
open Nat renaming reduceEqDiff → E, reduceAdd → D, reduceLeDiff → J, reduceLT → U, reduceMul → O, reduceSub → S
open List renaming set_cons_zero → aq, set_cons_succ → am
/-plain-/
theorem qH (A : STP) (e : W3) (l : List W3) (x : Nat) : A e.1 x ∈ (dSt A e l x).map Prod.fst := by
  by_cases h : A e.1 x ∈ l.map Prod.fst
  · rw [fF h]; exact h
  · rw [dW h]; simp
theorem rL (A : STP) (e : W3) (l : List W3) {x n : Nat} (h : x < n) : A e.1 x ∈ (cj A e l n).map Prod.fst := by
  obtain ⟨k, hk⟩ := fl A e l (x + 1) (n - (x + 1))
  rw [show x + 1 + (n - (x + 1)) = n by omega] at hk
  rw [hk, List.map_append, cu]
  exact List.mem_append.2 (.inl (qH A e _ x))
theorem im {n1 n2 n : Nat} {A : STP} (hA : ∀ q, inR n1 n2 q → ∀ x, x < n → inR n1 n2 (A q x)) : ∀ (f i : Nat) (l : List W3), DW n1 n2 l → n1 * n2 < f + i → (∀ j, j < i → j < l.length → ∀ x, x < n → A (l.getD j w30).1 x ∈ l.map Prod.fst) →
    DW n1 n2 (dz A n f i l) ∧ ∀ j, j < (dz A n f i l).length → ∀ x, x < n → A ((dz A n f i l).getD j w30).1 x ∈ (dz A n f i l).map Prod.fst
  | 0, i, l, hd, hf, hc => ⟨hd, fun j hj x hx => by
      have := hd.le
      have hj2 : j < l.length := hj
      exact hc j (by omega) hj2 x hx⟩
  | f + 1, i, l, hd, hf, hc => by
    by_cases hi : i < l.length
    · rw [ez _ _ _ hi]
      refine im hA f (i + 1) _ (hd.row hA hi n (Nat.le_refl _)) (by omega) fun j hj hjl x hx => ?_
      by_cases e : j = i
      · subst e
        rw [hO A _ n hi]
        exact rL A _ l hx
      · have hji : j < i := by omega
        rw [hO A _ n (show j < l.length by omega)]
        obtain ⟨k, hk⟩ := dn A (l.getD i w30) l n
        rw [hk, List.map_append]
        exact List.mem_append.2 (.inl (hc j hji (by omega) x hx))
    · rw [gh _ _ _ _ (by omega)]
      exact ⟨hd, fun j hj x hx => hc j (by omega) hj x hx⟩
theorem db {n1 n2 n : Nat} {A : STP} (hA : ∀ q, inR n1 n2 q → ∀ x, x < n → inR n1 n2 (A q x)) {p : PP} (h0 : inR n1 n2 p) : DW n1 n2 (bv A n (n1 * n2) p) ∧ ∀ j, j < (bv A n (n1 * n2) p).length → ∀ x, x < n → A ((bv A n (n1 * n2) p).getD j w30).1 x ∈ (bv A n (n1 * n2) p).map Prod.fst :=
  im hA _ _ _ (m8 h0) (by omega) fun j hj => by omega
theorem pM (l : List W3) : dQ (fun _ => false) l = l ∧ dB (fun _ => false) l = false := kl fun _ _ => rfl
def dRw (A : STP) (n : Nat) (L : List W3) (i x : Nat) : List Int := (List.range x).map fun y => (pos (L.map Prod.fst) (A (L.getD i w30).1 y) : Int)
def dBn (A : STP) (G : PP → Bool) (n : Nat) (L : List W3) : Dfa := ⟨n, 0, (List.range L.length).map fun i => dRw A n L i n, L.map fun e => G e.1⟩
def dBE (L : List W3) : Int := if 128 < L.length then 11 else 0
def dBD (A : STP) (G : PP → Bool) (n : Nat) (L : List W3) : Dfa := if 128 < L.length then dr else dBn A G n L
theorem pw (A : STP) (n : Nat) (L : List W3) (i x : Nat) : dRw A n L i (x + 1) = dRw A n L i x ++ [(pos (L.map Prod.fst) (A (L.getD i w30).1 x) : Int)] := by
  unfold dRw; rw [List.range_succ, List.map_append]; rfl
theorem bZ (A : STP) (n : Nat) (L : List W3) (i x : Nat) : (dRw A n L i x).length = x := by simp [dRw]
theorem nB {β : Type} (f : Nat → β) (k : Nat) : (List.range (k + 1)).map f = (List.range k).map f ++ [f k] := by rw [List.range_succ, List.map_append]; rfl
end Go.AV
namespace Go.Proofs.Ytdkgcbhbpdbmnaa
open Go Go.AV
open Nat renaming reduceEqDiff → E, reduceAdd → D, reduceLeDiff → J, reduceLT → U, reduceMul → O, reduceSub → S
open List renaming set_cons_zero → aq, set_cons_succ → am
set_option maxRecDepth 100000 in
theorem pc (p : PP) : bJ Try.prog 81 [.agg [.int .i64 p.1, .int .i64 p.2]] (.one (.bool false)) := by
 refine aS Try.func81 rfl (by kernel_rfl) (Nat.le_of_ble_eq_true rfl) rfl fun C hP hN hB => ?_
 replace hN : C.N = 3 := hN
 simp only [Z, D]
 refine ab fun K1 hK1 => ?_
 refine ai hP hN rfl ?_
 iterate 2 (refine ad rfl fun K0 V => ?_; simp only [zE, op1, ev, lkp, ah, ag, c0, au, reduceCtorEq, E, D, J, U, O, S, Try.ea81, Try.sa81, Try.td4, Try.td81]; (repeat refine And.intro (by first | omega | assumption | exact rfl) ?_); refine V _ ?_; clear V K0; simp only [put, app, aa, af, zE, zS, D])
 refine aj ?_
 refine hK1 _ ?_; clear hK1; refine ae [0, 2] ?_; simp only [Y, lkp, zE, reduceCtorEq, E, Z, D]
 refine ab fun K2 hK2 => ?_
 refine ai hP hN rfl ?_
 (refine ad rfl fun K0 V => ?_; simp only [zE, op1, ev, lkp, ah, ag, ev, reduceCtorEq, E, D, J, U, O, S, Try.td4]; refine V _ ?_; clear V K0; simp only [put, app, aa, af, zE, zS, D])
 refine aj ?_
 refine hK2 _ ?_; clear hK2; refine ae [0, 2] ?_; simp only [Y, lkp, zE, reduceCtorEq, E, Z, D]
 refine aI ?_
 refine ⟨by first | exact .inl rfl | exact .inr rfl, _, rfl, ?_⟩; simp only [fzV, fz1, fzC, List.map_cons, List.map_nil, Y, lkp, zE, reduceCtorEq, E, Z, D]
 refine VLE.of_eq ?_
 rfl
end Go.Proofs.Ytdkgcbhbpdbmnaa
namespace Go.AV
open Nat renaming reduceEqDiff → E, reduceAdd → D, reduceLeDiff → J, reduceLT → U, reduceMul → O, reduceSub → S
open List renaming set_cons_zero → aq, set_cons_succ → am
/-plain-/
theorem d8 {caps : List Cap} (h : caps.all f0 = true) (f : Go.FuncId) (n : Nat) : cJ n (.fn f caps) = true := by
  simp only [cJ]
  rw [List.all_eq_true] at h ⊢
  intro x hx
  have := h x hx
  cases x with
  | ref k => cases this
  | pat t d => rfl
  | pfn f ds => rfl
end Go.AV
namespace Go.AV
open Nat renaming reduceEqDiff → E, reduceAdd → D, reduceLeDiff → J, reduceLT → U, reduceMul → O, reduceSub → S
open List renaming set_cons_zero → aq, set_cons_succ → am
/-plain-/
theorem nW (w : List Int) (x : Int) : [w, [x]].flatten.length = w.length + 1 := by simp
end Go.AV
namespace Go.Proofs.Ytdkgcbhbpdbmnaa
open Go Go.AV
open Nat renaming reduceEqDiff → E, reduceAdd → D, reduceLeDiff → J, reduceLT → U, reduceMul → O, reduceSub → S
open List renaming set_cons_zero → aq, set_cons_succ → am
set_option maxRecDepth 100000 in
theorem sI (n : Int) (h0 : 0 ≤ n) (h1 : n ≤ 1000000) : qv Try.prog 95 [.one .nils, .one (.int .i64 n)] (.int .i64) 3 (([] : List Int)) := by
 refine lB Try.func95 rfl (by kernel_rfl) (Nat.le_of_ble_eq_true rfl) rfl fun C hP hN hB => ?_
 replace hN : C.N = 27 := hN
 simp only [Z, D]
 refine ab fun K1 hK1 => ?_
 refine ai hP hN rfl ?_
 (refine ad rfl fun K0 V => ?_; simp only [zE, op1, ev, lkp, ah, ag, ev, reduceCtorEq, E, D, J, U, O, S, Try.el26, Try.td26]; refine V _ ?_; clear V K0; simp only [put, app, aa, af, zE, zS, D])
 refine aj ?_
 refine hK1 _ ?_; clear hK1; refine ae [0, 1, 4] ?_; simp only [Y, lkp, zE, reduceCtorEq, E, Z, D]
 refine ab fun K2 hK2 => ?_
 refine ab fun K3 hK3 => ?_
 refine ai hP hN rfl ?_
 iterate 2 (refine ad rfl fun K0 V => ?_; simp only [zE, op1, ev, lkp, ah, ag, aE, aC, aD, ar, aB, aN, reduceCtorEq, E, D, J, U, O, S, Try.td3, Try.td4]; (repeat refine And.intro (by first | omega | assumption | exact rfl) ?_); refine V _ ?_; clear V K0; simp only [put, app, aa, af, zE, zS, D])
 refine aj ?_
 refine hK3 _ ?_; clear hK3; refine ae [0, 1, 4, 6] ?_; simp only [Y, lkp, zE, reduceCtorEq, E, Z, D]
 refine aF (by simp only [ev, Y, lkp, zE, reduceCtorEq, E, Z, D]; exact rfl) (fun hc4 => ?_) (fun hc4 => ?_)
 · exfalso; (try simp only [zB, reduceCtorEq] at hc4); all_goals (first | (cases hc4; done) | omega | (simp at hc4; done) | (simp_all; done))
 ·(try simp only [zB, reduceCtorEq] at hc4)
  refine aK ?_
  refine hK2 _ ?_; clear hK2; refine ae [0, 1, 4, 6] ?_; simp only [Y, lkp, zE, reduceCtorEq, E, Z, D]
  refine ab fun K5 hK5 => ?_
  refine ab fun K6 hK6 => ?_
  refine ai hP hN rfl ?_
  iterate 8 (refine ad rfl fun K0 V => ?_; simp only [zE, op1, ev, lkp, ah, ag, aH, bu, bb, aY, aZ, br, Nat.div_one, aM, b0, Ty.size, aL, dite_true, aE, aC, aD, ar, aB, aN, reduceCtorEq, E, D, J, U, O, S, Try.el26, Try.td26, Try.td3]; (repeat refine And.intro (by first | omega | assumption | exact rfl) ?_); (first | refine V _ ?_ | refine Or.inl (V _ ?_)); clear V K0; simp only [put, app, aa, af, zE, zS, D])
  refine aj ?_
  refine hK6 _ ?_; clear hK6; refine ae [0, 1, 4, 6] ?_; simp only [Y, lkp, zE, reduceCtorEq, E, Z, D]
  refine ab fun K7 hK7 => ?_
  refine ai hP hN rfl ?_
  iterate 2 (refine ad rfl fun K0 V => ?_; simp only [zE, op1, ev, lkp, ah, ag, aE, aC, aD, ar, aB, aN, reduceCtorEq, E, D, J, U, O, S, Try.td3, Try.td4]; (repeat refine And.intro (by first | omega | assumption | exact rfl) ?_); refine V _ ?_; clear V K0; simp only [put, app, aa, af, zE, zS, D])
  refine aj ?_
  refine hK7 _ ?_; clear hK7; refine ae [0, 1, 4, 6, 16] ?_; simp only [Y, lkp, zE, reduceCtorEq, E, Z, D]
  refine aF (by simp only [ev, Y, lkp, zE, reduceCtorEq, E, Z, D]; exact rfl) (fun hc8 => ?_) (fun hc8 => ?_)
  ·(try simp only [zB, reduceCtorEq] at hc8)
   refine ai hP hN rfl ?_
   iterate 10 (refine ad rfl fun K0 V => ?_; simp only [zE, op1, ev, lkp, ah, ag, aH, bu, bb, aY, aZ, br, Nat.div_one, aM, b0, Ty.size, aL, dite_true, fW, bnd, reduceCtorEq, E, D, J, U, O, S, Try.el26, Try.td26, Try.td3]; (repeat refine And.intro (by first | omega | assumption | exact rfl) ?_); (first | refine V _ ?_ | refine Or.inl (V _ ?_)); clear V K0; simp only [put, app, aa, af, zE, zS, D])
   refine aj ?_
   refine hK5 _ ?_; clear hK5; refine ae [0, 1, 4, 6, 16] ?_; simp only [Y, lkp, zE, reduceCtorEq, E, Z, D]
   refine ab fun K9 hK9 => ?_
   first | (refine fP 0 (.int .i64) 3 (by decide) rfl ?_; simp only [List.length_cons, List.length_nil, List.cons_append, List.nil_append, Nat.zero_add, D]) | skip
   refine ai hP hN rfl ?_
   iterate 2 (refine ad rfl fun K0 V => ?_; simp only [zE, op1, ev, lkp, ah, ag, ev, reduceCtorEq, E, D, J, U, O, S, Try.el26, Try.td26]; refine V _ ?_; clear V K0; simp only [put, app, aa, af, zE, zS, D])
   refine aj ?_
   refine hK9 _ ?_; clear hK9; refine ae [0, 1, 4, 6, 16] ?_; simp only [Y, lkp, zE, reduceCtorEq, E, Z, D]
   refine aI ?_
   refine ⟨by first | exact .inl rfl | exact .inr rfl, _, rfl, _, _, rfl, ?_⟩
   first | rfl | simp
  ·(try simp only [zB, reduceCtorEq] at hc8)
   refine aK ?_
   refine hK5 _ ?_; clear hK5; refine ae [0, 1, 4, 6, 16] ?_; simp only [Y, lkp, zE, reduceCtorEq, E, Z, D]
   refine ab fun K10 hK10 => ?_
   first | (refine fP 0 (.int .i64) 3 (by decide) rfl ?_; simp only [List.length_cons, List.length_nil, List.cons_append, List.nil_append, Nat.zero_add, D]) | skip
   refine ai hP hN rfl ?_
   iterate 2 (refine ad rfl fun K0 V => ?_; simp only [zE, op1, ev, lkp, ah, ag, ev, reduceCtorEq, E, D, J, U, O, S, Try.el26, Try.td26]; refine V _ ?_; clear V K0; simp only [put, app, aa, af, zE, zS, D])
   refine aj ?_
   refine hK10 _ ?_; clear hK10; refine ae [0, 1, 4, 6, 16] ?_; simp only [Y, lkp, zE, reduceCtorEq, E, Z, D]
   refine aI ?_
   refine ⟨by first | exact .inl rfl | exact .inr rfl, _, rfl, _, _, rfl, ?_⟩
   first | rfl | simp
end Go.Proofs.Ytdkgcbhbpdbmnaa
namespace Go.Proofs.Ytdkgcbhbpdbmnaa
open Go Go.AV
open Nat renaming reduceEqDiff → E, reduceAdd → D, reduceLeDiff → J, reduceLT → U, reduceMul → O, reduceSub → S
open List renaming set_cons_zero → aq, set_cons_succ → am
set_option maxRecDepth 100000 in
theorem p6 (ls : List (List Int)) (hb : ls.flatten.length ≤ 1000000) : bJ Try.prog 88 [.one (.list (.list (.int .i64)) ls)] (.one (.list (.int .i64) ls.flatten)) := by
 refine aS Try.func88 rfl (by kernel_rfl) (Nat.le_of_ble_eq_true rfl) rfl fun C hP hN hB => ?_
 replace hN : C.N = 36 := hN
 simp only [Z, D]
 refine dV 0 rfl fun hf0 => ?_; simp only [lkp, if_true, if_false, reduceCtorEq, E, eq_self, Nat.one_ne_zero, Nat.zero_ne_one, gK, gd, fU, Fit, and_true, implies_true, true_and] at hf0
 refine ab fun K1 hK1 => ?_
 refine ai hP hN rfl ?_
 (refine ad rfl fun K0 V => ?_; simp only [zE, op1, ev, lkp, ah, ag, ev, reduceCtorEq, E, D, J, U, O, S, Try.el26, Try.td26]; refine V _ ?_; clear V K0; simp only [put, app, aa, af, zE, zS, D])
 refine aj ?_
 refine hK1 _ ?_; clear hK1; refine ae [0, 2] ?_; simp only [Y, lkp, zE, reduceCtorEq, E, Z, D]
 refine ab fun K2 hK2 => ?_
 refine ai hP hN rfl ?_
 (refine ad rfl fun K0 V => ?_; simp only [zE, op1, ev, lkp, ah, ag, ev, reduceCtorEq, E, D, J, U, O, S, Try.td3]; refine V _ ?_; clear V K0; simp only [put, app, aa, af, zE, zS, D])
 refine aj ?_
 refine hK2 _ ?_; clear hK2; refine ae [0, 2, 3] ?_; simp only [Y, lkp, zE, reduceCtorEq, E, Z, D]
 refine ab fun K3 hK3 => ?_
 refine ab fun K4 hK4 => ?_
 refine ai hP hN rfl ?_
 iterate 3 (refine ad rfl fun K0 V => ?_; simp only [zE, op1, ev, lkp, ah, ag, aH, bu, bb, aY, aZ, br, Nat.div_one, aM, b0, Ty.size, aL, dite_true, reduceCtorEq, E, D, J, U, O, S, Try.el22, Try.td22, Try.td3]; (repeat refine And.intro (by first | omega | assumption | exact rfl) ?_); (first | refine V _ ?_ | refine Or.inl (V _ ?_)); clear V K0; simp only [put, app, aa, af, zE, zS, D])
 refine aj ?_
 refine hK4 _ ?_; clear hK4; refine ae [0, 2, 3, 9, 10, 11] ?_; simp only [Y, lkp, zE, reduceCtorEq, E, Z, D]
 refine aP ?_
 refine bG (fun n5 s5 => ∃ (k : Nat), (k ≤ ls.length) ∧ n5 = ls.length - k ∧ s5 = { env := [(0, .one (.list (.list (.int .i64)) ls)), (3, .one (.int .i64 (((ls.take k).flatten.length : Nat) : Int))), (9, .one (.list (.list (.int .i64)) ls)), (10, .one (.int .i64 (ls.length : Int))), (11, .one (.int .i64 (k : Int)))], L := [] }) ?_ ?_
 ·exact ⟨_, _, aO [0, 3, 9, 10, 11], 0, Nat.zero_le _, rfl, rfl⟩
 ·rintro n5 s5 ⟨k, hk, rfl, rfl⟩
  refine ab fun K6 hK6 => ?_
  refine ai hP hN rfl ?_
  (refine ad rfl fun K0 V => ?_; simp only [zE, op1, ev, lkp, ah, ag, aE, aC, aD, ar, aB, aN, reduceCtorEq, E, D, J, U, O, S, Try.td3]; (repeat refine And.intro (by first | omega | assumption | exact rfl) ?_); refine V _ ?_; clear V K0; simp only [put, app, aa, af, zE, zS, D])
  refine aj ?_
  refine hK6 _ ?_; clear hK6; refine ae [0, 3, 9, 10, 11, 12] ?_; simp only [Y, lkp, zE, reduceCtorEq, E, Z, D]
  refine ab fun K7 hK7 => ?_
  refine aF (by simp only [ev, Y, lkp, zE, reduceCtorEq, E, Z, D]; exact rfl) (fun hc8 => ?_) (fun hc8 => ?_)
  ·(try simp only [zB, reduceCtorEq] at hc8)
   refine aK ?_
   refine hK7 _ ?_; clear hK7; refine ae [0, 3, 9, 10, 11, 12] ?_; simp only [Y, lkp, zE, reduceCtorEq, E, Z, D]
   refine ab fun K9 hK9 => ?_
   refine aP ?_
   refine ab fun K10 hK10 => ?_
   refine ai hP hN rfl ?_
   iterate 3 (refine ad rfl fun K0 V => ?_; simp only [zE, op1, ev, lkp, ah, ag, aJ, zG, Ty.dflt, Ty.size, Nat.mul_one, ne_eq, not_false_eq_true, Int.natCast_one, Int.mul_one, az, ax, ay, acs, ao, reduceCtorEq, E, D, J, U, O, S, Try.el22, Try.el26, Try.td22, Try.td26]; (repeat refine And.intro (by first | omega | assumption | exact rfl) ?_); refine V _ ?_; clear V K0; simp only [put, app, aa, af, zE, zS, D])
   refine aj ?_
   refine hK10 _ ?_; clear hK10; refine ae [0, 3, 5, 9, 10, 11, 12] ?_; simp only [Y, lkp, zE, reduceCtorEq, E, Z, D]
   refine ab fun K11 hK11 => ?_
   have hfl := eX ls (k + 1); have hfe : (ls.take (k + 1)).flatten.length = (ls.take k).flatten.length + (ls.getD k []).length := by rw [cO ls (by omega), List.length_append]
   refine ai hP hN rfl ?_
   iterate 5 (refine ad rfl fun K0 V => ?_; simp only [zE, op1, ev, lkp, ah, ag, aH, bu, bb, aY, aZ, br, Nat.div_one, aM, b0, Ty.size, aL, dite_true, aE, aC, aD, ar, aB, aN, reduceCtorEq, E, D, J, U, O, S, Try.el26, Try.td26, Try.td3]; (repeat refine And.intro (by first | omega | assumption | exact rfl) ?_); (first | refine V _ ?_ | refine Or.inl (V _ ?_)); clear V K0; simp only [put, app, aa, af, zE, zS, D])
   refine aj ?_
   refine hK11 _ ?_; clear hK11; refine ae [0, 3, 5, 9, 10, 11, 12] ?_; simp only [Y, lkp, zE, reduceCtorEq, E, Z, D]
   refine ab fun K12 hK12 => ?_
   refine ai hP hN rfl ?_
   iterate 2 (refine ad rfl fun K0 V => ?_; simp only [zE, op1, ev, lkp, ah, ag, aE, aC, aD, ar, aB, aN, reduceCtorEq, E, D, J, U, O, S, Try.td3, Try.td4]; (repeat refine And.intro (by first | omega | assumption | exact rfl) ?_); refine V _ ?_; clear V K0; simp only [put, app, aa, af, zE, zS, D])
   refine aj ?_
   refine hK12 _ ?_; clear hK12; refine ae [0, 3, 5, 9, 10, 11, 12, 20] ?_; simp only [Y, lkp, zE, reduceCtorEq, E, Z, D]
   refine aF (by simp only [ev, Y, lkp, zE, reduceCtorEq, E, Z, D]; exact rfl) (fun hc13 => ?_) (fun hc13 => ?_)
   · exfalso; (try simp only [zB, reduceCtorEq] at hc13); all_goals (first | (cases hc13; done) | omega | (simp at hc13; done) | (simp_all; done))
   ·(try simp only [zB, reduceCtorEq] at hc13)
    refine aK ?_
    refine hK9 _ ?_; clear hK9; refine ae [0, 3, 5, 9, 10, 11, 12, 20] ?_; simp only [Y, lkp, zE, reduceCtorEq, E, Z, D]
    refine ai hP hN rfl ?_
    iterate 2 (refine ad rfl fun K0 V => ?_; simp only [zE, op1, ev, lkp, ah, ag, aE, aC, aD, ar, aB, aN, reduceCtorEq, E, D, J, U, O, S, Try.td3]; (repeat refine And.intro (by first | omega | assumption | exact rfl) ?_); refine V _ ?_; clear V K0; simp only [put, app, aa, af, zE, zS, D])
    refine aj ?_
    refine ⟨_, _, ?_, aO [0, 3, 9, 10, 11], k + 1, by omega, rfl, ?_⟩
    · omega
    · rw [hfe]; simp only [Int.natCast_add]; rfl
  ·(try simp only [zB, reduceCtorEq] at hc8)
   refine bD ?_
   refine hK3 _ ?_; clear hK3; refine ae [0, 3, 9, 10, 11, 12] ?_; simp only [Y, lkp, zE, reduceCtorEq, E, Z, D]
   refine ab fun K14 hK14 => ?_
   have hfl := eX ls k
   refine ai hP hN rfl ?_
   (refine ad rfl fun K0 V => ?_; simp only [zE, op1, ev, lkp, ah, ag, ev, reduceCtorEq, E, D, J, U, O, S, Try.td3]; refine V _ ?_; clear V K0; simp only [put, app, aa, af, zE, zS, D])
   refine ad rfl fun K0 V => ?_
   refine aW (h := o6 (sI (((ls.take k).flatten.length : Nat) : Int) (by omega) (by omega))) rfl rfl (by first | exact rfl | (simp only [ev, Y, lkp, zE, reduceCtorEq, E, Z, D]; exact rfl)) (by simp only [zE, zG, op1, ev, lkp, ah, ag, au, acs, ba, mv1, mvC, Ty.dflt, reduceCtorEq, E, D, J, U, O, S]) ?_
   refine V _ ?_; clear V K0; simp only [put, app, aa, af, zE, zS, D]
   (refine ad rfl fun K0 V => ?_; simp only [zE, op1, ev, lkp, ah, ag, ev, reduceCtorEq, E, D, J, U, O, S, Try.el26, Try.td26]; refine V _ ?_; clear V K0; simp only [put, app, aa, af, zE, zS, D])
   refine aj ?_
   refine hK14 _ ?_; clear hK14; refine ae [0, 3, 6, 9, 10, 11, 12] ?_; simp only [Y, lkp, zE, reduceCtorEq, E, Z, D]
   refine ab fun K15 hK15 => ?_
   refine ab fun K16 hK16 => ?_
   refine ai hP hN rfl ?_
   iterate 3 (refine ad rfl fun K0 V => ?_; simp only [zE, op1, ev, lkp, ah, ag, aH, bu, bb, aY, aZ, br, Nat.div_one, aM, b0, Ty.size, aL, dite_true, reduceCtorEq, E, D, J, U, O, S, Try.el22, Try.td22, Try.td3]; (repeat refine And.intro (by first | omega | assumption | exact rfl) ?_); (first | refine V _ ?_ | refine Or.inl (V _ ?_)); clear V K0; simp only [put, app, aa, af, zE, zS, D])
   refine aj ?_
   refine hK16 _ ?_; clear hK16; refine ae [0, 3, 6, 9, 10, 11, 12, 25, 26, 27] ?_; simp only [Y, lkp, zE, reduceCtorEq, E, Z, D]
   refine aP ?_
   refine bG (fun n17 s17 => ∃ (k : Nat) (v : Nat), (k ≤ ls.length) ∧ n17 = ls.length - k ∧ s17 = { env := [(6, .one (.row 0 v)), (25, .one (.list (.list (.int .i64)) ls)), (26, .one (.int .i64 (ls.length : Int))), (27, .one (.int .i64 (k : Int)))], L := [.row (.int .i64) 3 v (ls.take k).flatten] }) ?_ ?_
   ·exact ⟨_, _, aO [6, 25, 26, 27], 0, 0, Nat.zero_le _, rfl, rfl⟩
   ·rintro n17 s17 ⟨k, v, hk, rfl, rfl⟩
    refine ab fun K18 hK18 => ?_
    refine ai hP hN rfl ?_
    (refine ad rfl fun K0 V => ?_; simp only [zE, op1, ev, lkp, ah, ag, aE, aC, aD, ar, aB, aN, reduceCtorEq, E, D, J, U, O, S, Try.td3]; (repeat refine And.intro (by first | omega | assumption | exact rfl) ?_); refine V _ ?_; clear V K0; simp only [put, app, aa, af, zE, zS, D])
    refine aj ?_
    refine hK18 _ ?_; clear hK18; refine ae [6, 25, 26, 27, 28] ?_; simp only [Y, lkp, zE, reduceCtorEq, E, Z, D]
    refine ab fun K19 hK19 => ?_
    refine aF (by simp only [ev, Y, lkp, zE, reduceCtorEq, E, Z, D]; exact rfl) (fun hc20 => ?_) (fun hc20 => ?_)
    ·(try simp only [zB, reduceCtorEq] at hc20)
     refine aK ?_
     refine hK19 _ ?_; clear hK19; refine ae [6, 25, 26, 27, 28] ?_; simp only [Y, lkp, zE, reduceCtorEq, E, Z, D]
     refine ab fun K21 hK21 => ?_
     refine aP ?_
     refine ab fun K22 hK22 => ?_
     refine ai hP hN rfl ?_
     iterate 3 (refine ad rfl fun K0 V => ?_; simp only [zE, op1, ev, lkp, ah, ag, aJ, zG, Ty.dflt, Ty.size, Nat.mul_one, ne_eq, not_false_eq_true, Int.natCast_one, Int.mul_one, az, ax, ay, acs, ao, reduceCtorEq, E, D, J, U, O, S, Try.el22, Try.el26, Try.td22, Try.td26]; (repeat refine And.intro (by first | omega | assumption | exact rfl) ?_); refine V _ ?_; clear V K0; simp only [put, app, aa, af, zE, zS, D])
     refine aj ?_
     refine hK22 _ ?_; clear hK22; refine ae [6, 8, 25, 26, 27, 28] ?_; simp only [Y, lkp, zE, reduceCtorEq, E, Z, D]
     have hfl := eX ls (k + 1); have hfe : (ls.take (k + 1)).flatten.length = (ls.take k).flatten.length + (ls.getD k []).length := by rw [cO ls (by omega), List.length_append]
     refine ai hP hN rfl ?_
     iterate 4 (refine ad rfl fun K0 V => ?_; simp only [zE, op1, ev, lkp, ah, ag, aH, bu, bb, aY, aZ, br, Nat.div_one, aM, b0, Ty.size, aL, dite_true, reduceCtorEq, E, D, J, U, O, S, Try.el26, Try.td26]; (repeat refine And.intro (by first | omega | assumption | exact rfl) ?_); (first | refine V _ ?_ | refine Or.inl (V _ ?_)); clear V K0; simp only [put, app, aa, af, zE, zS, D])
     refine aj ?_
     refine hK21 _ ?_; clear hK21; refine ae [6, 8, 25, 26, 27, 28] ?_; simp only [Y, lkp, zE, reduceCtorEq, E, Z, D]
     refine ai hP hN rfl ?_
     iterate 2 (refine ad rfl fun K0 V => ?_; simp only [zE, op1, ev, lkp, ah, ag, aE, aC, aD, ar, aB, aN, reduceCtorEq, E, D, J, U, O, S, Try.td3]; (repeat refine And.intro (by first | omega | assumption | exact rfl) ?_); refine V _ ?_; clear V K0; simp only [put, app, aa, af, zE, zS, D])
     refine aj ?_
     refine ⟨_, _, ?_, aO [6, 25, 26, 27], k + 1, v + 1, by omega, rfl, ?_⟩
     · omega
     · rw [cO ls (by omega)]; rfl
    ·(try simp only [zB, reduceCtorEq] at hc20)
     refine bD ?_
     refine hK15 _ ?_; clear hK15; refine ae [6, 25, 26, 27, 28] ?_; simp only [Y, lkp, zE, reduceCtorEq, E, Z, D]
     refine ab fun K23 hK23 => ?_
     refine ai hP hN rfl ?_
     iterate 2 (refine ad rfl fun K0 V => ?_; simp only [zE, op1, ev, lkp, ah, ag, ev, reduceCtorEq, E, D, J, U, O, S, Try.el26, Try.td26]; refine V _ ?_; clear V K0; simp only [put, app, aa, af, zE, zS, D])
     refine aj ?_
     refine hK23 _ ?_; clear hK23; refine ae [2, 6, 25, 26, 27, 28] ?_; simp only [Y, lkp, zE, reduceCtorEq, E, Z, D]
     refine aI ?_
     refine ⟨by first | exact .inl rfl | exact .inr rfl, _, rfl, ?_⟩; simp only [fzV, fz1, fzC, List.map_cons, List.map_nil, Y, lkp, zE, reduceCtorEq, E, Z, D]
     refine VLE.of_eq ?_
     have htk : ls.take k = ls := by rw [show k = ls.length by omega, List.take_length]
     rw [htk]
end Go.Proofs.Ytdkgcbhbpdbmnaa
namespace Go.Proofs.Ytdkgcbhbpdbmnaa
open Go Go.AV
open Nat renaming reduceEqDiff → E, reduceAdd → D, reduceLeDiff → J, reduceLT → U, reduceMul → O, reduceSub → S
open List renaming set_cons_zero → aq, set_cons_succ → am
set_option maxRecDepth 100000 in
theorem qV (ls : List (List Int)) (hb : ls.flatten.length ≤ 1000000) : bJ Try.prog 79 [.one (.list (.list (.int .i64)) ls)] (.one (.list (.int .i64) ls.flatten)) := by
 refine aS Try.func79 rfl (by kernel_rfl) (Nat.le_of_ble_eq_true rfl) rfl fun C hP hN hB => ?_
 replace hN : C.N = 5 := hN
 simp only [Z, D]
 refine ab fun K1 hK1 => ?_
 refine ai hP hN rfl ?_
 (refine ad rfl fun K0 V => ?_; simp only [zE, op1, ev, lkp, ah, ag, ev, reduceCtorEq, E, D, J, U, O, S, Try.el26, Try.td26]; refine V _ ?_; clear V K0; simp only [put, app, aa, af, zE, zS, D])
 refine aj ?_
 refine hK1 _ ?_; clear hK1; refine ae [0, 2] ?_; simp only [Y, lkp, zE, reduceCtorEq, E, Z, D]
 refine ab fun K2 hK2 => ?_
 refine ai hP hN rfl ?_
 (refine ad rfl fun K0 V => ?_; simp only [zE, op1, ev, lkp, ah, ag, ev, reduceCtorEq, E, D, J, U, O, S, Try.el22, Try.td22]; refine V _ ?_; clear V K0; simp only [put, app, aa, af, zE, zS, D])
 refine ad rfl fun K0 V => ?_
 refine aW (h := aG (p6 ls hb)) rfl rfl (by first | exact rfl | (simp only [ev, Y, lkp, zE, reduceCtorEq, E, Z, D]; exact rfl)) (by simp only [zE, zG, op1, ev, lkp, ah, ag, au, acs, ba, mv1, mvC, Ty.dflt, reduceCtorEq, E, D, J, U, O, S]) ?_
 refine V _ ?_; clear V K0; simp only [put, app, aa, af, zE, zS, D]
 (refine ad rfl fun K0 V => ?_; simp only [zE, op1, ev, lkp, ah, ag, ev, reduceCtorEq, E, D, J, U, O, S, Try.el26, Try.td26]; refine V _ ?_; clear V K0; simp only [put, app, aa, af, zE, zS, D])
 refine aj ?_
 refine hK2 _ ?_; clear hK2; refine ae [0, 2] ?_; simp only [Y, lkp, zE, reduceCtorEq, E, Z, D]
 refine aI ?_
 refine ⟨by first | exact .inl rfl | exact .inr rfl, _, rfl, ?_⟩; simp only [fzV, fz1, fzC, List.map_cons, List.map_nil, Y, lkp, zE, reduceCtorEq, E, Z, D]
 refine VLE.of_eq ?_
 rfl
end Go.Proofs.Ytdkgcbhbpdbmnaa
