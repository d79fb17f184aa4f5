/- Contracts of functions of this seat, each out of a walk through its code, and plain facts on what they compute. Conditions: those that each theorem names. -/
import Derived.Test.YtoahhklogohehaaW00
set_option linter.unusedSimpArgs false
set_option linter.unusedVariables false
set_option maxRecDepth 100000
namespace Go.AV
open Nat renaming reduceEqDiff → aa, reduceAdd → V, reduceLeDiff → ad, reduceLT → ag, reduceMul → af, reduceSub → ae
open List renaming set_cons_zero → cv, set_cons_succ → cq, getD_cons_zero → au, length_append → ar, map_cons → aH, cons_append → aT, map_nil → bm, length_cons → aw, nil_append → bg, take_succ_cons → cQ, length_nil → aG, length_map → aD, length_replicate → bj, take_length → aL, mem_cons_self → aR, mem_cons_of_mem → aJ
open Int renaming toNat_natCast → ah
/-plain-/
theorem km {l : List Int} {i : Nat} (h : i < l.length) : l.getD i 0 = l[i] := by simp [List.getD, h]
def rgI (n : Nat) : List Int := (List.range n).map fun (i : Nat) => (i : Int)
theorem d5 (n : Nat) : (rgI n).length = n := by simp [rgI]
theorem oy {n i : Nat} (h : i < n) : (rgI n).getD i 0 = (i : Int) := by simp [rgI, List.getD, h]
theorem gZ {n : Nat} {x : Int} : x ∈ rgI n ↔ 0 ≤ x ∧ x < n := by
  unfold rgI
  rw [List.mem_map]
  constructor
  · rintro ⟨i, hi, rfl⟩
    have := List.mem_range.1 hi; omega
  · intro h
    exact ⟨x.toNat, List.mem_range.2 (by omega), by omega⟩
theorem rO (n : Nat) : rgI (n + 1) = rgI n ++ [(n : Int)] := by simp [rgI, List.range_succ]
theorem qi {n : Nat} {l k : List Int} (h : l ++ k = rgI n) : l = rgI l.length := by
  have hl : l.length ≤ n := by have := congrArg List.length h; rw [ar, d5] at this; omega
  refine List.ext_getElem (by rw [d5]) fun i h1 h2 => ?_
  have e1 : (l ++ k).getD i 0 = l.getD i 0 := by simp [List.getD, List.getElem?_append_left h1]
  rw [h, oy (by omega)] at e1
  have e2 : l.getD i 0 = l[i] := by simp [List.getD, h1]
  have e3 : (rgI l.length).getD i 0 = (rgI l.length)[i] := by simp [List.getD, h2]
  rw [← e2, ← e3, ← e1, oy h1]
structure CAN (x : Mly) : Prop where
  ok : MOK x
  st : x.st = 0
  rc : x.reach = rgI x.nx.length
  ds : ∀ i j : Int, 0 ≤ i → i < x.nx.length → 0 ≤ j → j < x.nx.length → EQV x i j → i = j
theorem z1 {x y : Mly} {s t : Int} (h : EQ2 x y s t) {a : Nat} (ha : (a : Int) < x.inp) : x.out s a = y.out t a := by
  have := h [(a : Int)] fun i hi => by
    have : i = 0 := by simpa using hi
    subst this; simp [List.getD]; omega
  rw [dz, dz] at this
  injection this
theorem uO {x y : Mly} {s t : Int} (h : EQ2 x y s t) {a : Nat} (ha : (a : Int) < x.inp) : EQ2 x y (x.nxt s a) (y.nxt t a) := fun w hw => by
  have := h ((a : Int) :: w) fun i hi => by
    cases i with
    | zero => simp [List.getD]; omega
    | succ i => have := hw i (by simpa using hi); simpa [List.getD] using this
  rw [dz, dz] at this
  injection this
theorem xd {x y : Mly} (hi : x.inp = y.inp) {s t u : Int} (h : EQ2 x y s u) (g : EQ2 x y t u) : EQV x s t := fun w hw => (h w hw).trans (g w hw).symm
theorem qj {x y : Mly} (hi : x.inp = y.inp) {s t u : Int} (h : EQ2 x y s t) (g : EQ2 x y s u) : EQV y t u := fun w hw => (h w (by rw [hi]; exact hw)).symm.trans (g w (by rw [hi]; exact hw))
structure LCK (x y : Mly) (l : List Int) : Prop where
  eq : ∀ j, j ∈ l → EQ2 x y j j
  bx : ∀ j, j ∈ l → 0 ≤ j ∧ j < x.nx.length
  by_ : ∀ j, j ∈ l → 0 ≤ j ∧ j < y.nx.length
theorem xy {x y : Mly} (hx : CAN x) (hy : CAN y) (hi : x.inp = y.inp) {l : List Int} (h : LCK x y l) {u v : Int} (hu : 0 ≤ u ∧ u < x.nx.length) (hv : 0 ≤ v ∧ v < y.nx.length) (he : EQ2 x y u v)
    (px : ∃ k, bY l u ++ k = x.reach) (py : ∃ k, bY l v ++ k = y.reach) : bY l u = bY l v ∧ LCK x y (bY l u) := by
  by_cases a : u ∈ l
  · have h1 := h.by_ u a
    have h2 := hy.ds u v h1.1 h1.2 hv.1 hv.2 (qj hi (h.eq u a) he)
    subst h2
    rw [fX a]; exact ⟨rfl, h⟩
  · by_cases b : v ∈ l
    · have h1 := h.bx v b
      have h2 := hx.ds v u h1.1 h1.2 hu.1 hu.2 (xd hi (h.eq v b) he)
      subst h2; exact absurd b a
    · obtain ⟨k1, e1⟩ := px
      obtain ⟨k2, e2⟩ := py
      rw [eW a, hx.rc] at e1
      rw [eW b, hy.rc] at e2
      have f1 := qi e1
      have f2 := qi e2
      have : l ++ [u] = l ++ [v] := by
        rw [f1, f2, ar, ar]; rfl
      have huv : u = v := by
        have := List.append_cancel_left this
        simpa using this
      subst huv
      refine ⟨rfl, ?_⟩
      rw [eW a]
      refine ⟨fun j hj => ?_, fun j hj => ?_, fun j hj => ?_⟩ <;> (rcases List.mem_append.1 hj with hj | hj)
      · exact h.eq j hj
      · have : j = u := by simpa using hj
        subst this; exact he
      · exact h.bx j hj
      · have : j = u := by simpa using hj
        subst this; exact hu
      · exact h.by_ j hj
      · have : j = u := by simpa using hj
        subst this; exact hv
theorem rM {x y : Mly} (hx : CAN x) (hy : CAN y) (hi : x.inp = y.inp) {l : List Int} (h : LCK x y l) {i : Int} (hl : i ∈ l) : ∀ a : Nat, (a : Int) ≤ x.inp →
    (∃ k, ((x.row i).take a).foldl bY l ++ k = x.reach) → (∃ k, ((y.row i).take a).foldl bY l ++ k = y.reach) →
    ((x.row i).take a).foldl bY l = ((y.row i).take a).foldl bY l ∧ LCK x y (((x.row i).take a).foldl bY l)
  | 0, _, _, _ => ⟨rfl, h⟩
  | a + 1, ha, px, py => by
    have bx := h.bx i hl; have by1 := h.by_ i hl
    have rx : ((x.row i).length : Int) = x.inp := hx.ok.rl i.toNat (by omega)
    have ry : ((y.row i).length : Int) = y.inp := hy.ok.rl i.toNat (by omega)
    rw [gq (by omega)] at px ⊢
    rw [gq (by omega)] at py ⊢
    have px0 : ∃ k, ((x.row i).take a).foldl bY l ++ k = x.reach := by
      obtain ⟨k, e⟩ := px; obtain ⟨k2, e2⟩ := mR (((x.row i).take a).foldl bY l) ((x.row i).getD a 0)
      exact ⟨k2 ++ k, by rw [← List.append_assoc, ← e2, e]⟩
    have py0 : ∃ k, ((y.row i).take a).foldl bY l ++ k = y.reach := by
      obtain ⟨k, e⟩ := py; obtain ⟨k2, e2⟩ := mR (((y.row i).take a).foldl bY l) ((y.row i).getD a 0)
      exact ⟨k2 ++ k, by rw [← List.append_assoc, ← e2, e]⟩
    obtain ⟨e1, h1⟩ := rM hx hy hi h hl a (by omega) px0 py0
    rw [← e1] at py ⊢
    exact xy hx hy hi h1 (hx.ok.nr i.toNat a (by omega) (by omega)) (hy.ok.nr i.toNat a (by omega) (by omega)) (uO (h.eq i hl) (by omega)) px py
theorem xc {x y : Mly} (hx : CAN x) (hy : CAN y) (hi : x.inp = y.inp) : ∀ (f i : Nat) (l : List Int), LCK x y l → x.rf f i l = x.reach → y.rf f i l = y.reach → x.reach = y.reach ∧ LCK x y x.reach
  | 0, i, l, h, ex, ey => ⟨ex.symm.trans ey, by rw [← ex]; exact h⟩
  | f + 1, i, l, h, ex, ey => by
    by_cases hil : i < l.length
    · rw [gR x f i l hil] at ex
      rw [gR y f i l hil] at ey
      have hm : l.getD i 0 ∈ l := bh hil
      have bx := h.bx _ hm; have by1 := h.by_ _ hm
      have rx : ((x.row (l.getD i 0)).length : Int) = x.inp := hx.ok.rl (l.getD i 0).toNat (by omega)
      have ry : ((y.row (l.getD i 0)).length : Int) = y.inp := hy.ok.rl (l.getD i 0).toNat (by omega)
      have hi1 := hx.ok.i1
      have tx : (x.row (l.getD i 0)).take x.inp.toNat = x.row (l.getD i 0) := List.take_of_length_le (by omega)
      have ty : (y.row (l.getD i 0)).take x.inp.toNat = y.row (l.getD i 0) := List.take_of_length_le (by omega)
      have px : ∃ k, ((x.row (l.getD i 0)).take x.inp.toNat).foldl bY l ++ k = x.reach := by
        rw [tx]; obtain ⟨k, e⟩ := kC x f (i + 1) ((x.row (l.getD i 0)).foldl bY l); exact ⟨k, by rw [← e, ex]⟩
      have py : ∃ k, ((y.row (l.getD i 0)).take x.inp.toNat).foldl bY l ++ k = y.reach := by
        rw [ty]; obtain ⟨k, e⟩ := kC y f (i + 1) ((y.row (l.getD i 0)).foldl bY l); exact ⟨k, by rw [← e, ey]⟩
      obtain ⟨e1, h1⟩ := rM hx hy hi h hm x.inp.toNat (by omega) px py
      rw [tx, ty] at e1
      rw [tx] at h1
      rw [← e1] at ey
      exact xc hx hy hi f (i + 1) _ h1 ex ey
    · rw [fI x _ _ _ (by omega)] at ex
      rw [fI y _ _ _ (by omega)] at ey
      exact ⟨ex.symm.trans ey, by rw [← ex]; exact h⟩
theorem Ad {x y : Mly} (hx : CAN x) (hy : CAN y) (hi : x.inp = y.inp) (h : EQ2 x y 0 0) : x.nx = y.nx ∧ x.ot = y.ot := by
  have hn1 := hx.ok.n1; have hn2 := hy.ok.n1
  have ex : x.rf (x.nx.length + y.nx.length + 1) 0 [0] = x.reach := by
    rw [dS (dq hx.ok), hx.st]
    have := pY hx.ok (x.nx.length + 1) 0 [0] (by have := gY hx.ok; rwa [hx.st] at this) (by omega) (x.nx.length + y.nx.length + 1) (by omega)
    exact this
  have ey : y.rf (x.nx.length + y.nx.length + 1) 0 [0] = y.reach := by
    rw [dS (dq hy.ok), hy.st]
    have := pY hy.ok (y.nx.length + 1) 0 [0] (by have := gY hy.ok; rwa [hy.st] at this) (by omega) (x.nx.length + y.nx.length + 1) (by omega)
    exact this
  have h0 : LCK x y [0] := ⟨fun j hj => (by have : j = 0 := by simpa using hj
                                            subst this; exact h), fun j hj => (by have : j = 0 := by simpa using hj
                                                                                  subst this; omega), fun j hj => (by have : j = 0 := by simpa using hj
                                                                                                                      subst this; omega)⟩
  obtain ⟨e, hl⟩ := xc hx hy hi _ 0 [0] h0 ex ey
  have hlen : x.nx.length = y.nx.length := by
    have := congrArg List.length e
    rwa [hx.rc, hy.rc, d5, d5] at this
  have hq : ∀ j : Nat, j < x.nx.length → EQ2 x y j j := fun j hj => hl.eq j (by rw [hx.rc]; exact gZ.2 ⟨by omega, by omega⟩)
  have hox := hx.ok.ol; have hoy := hy.ok.ol
  have hi1 := hx.ok.i1
  constructor
  · refine List.ext_getElem hlen fun j h1 h2 => ?_
    have r1 := hx.ok.rl j h1; have r2 := hy.ok.rl j h2
    have g1 : x.nx.getD j [] = x.nx[j] := by simp [List.getD, h1]
    have g2 : y.nx.getD j [] = y.nx[j] := by simp [List.getD, h2]
    rw [← g1, ← g2]
    refine List.ext_getElem (by omega) fun a a1 a2 => ?_
    have n1 := hx.ok.nr j a h1 (by omega); have n2 := hy.ok.nr j a h2 (by omega)
    have q1 := uO (hq j h1) (a := a) (by omega)
    have m1 : x.nxt j a = (x.nx.getD j []).getD a 0 := rfl
    have m2 : y.nxt j a = (y.nx.getD j []).getD a 0 := rfl
    rw [m1, m2] at q1
    have q2 := hq ((x.nx.getD j []).getD a 0).toNat (by omega)
    rw [Int.toNat_of_nonneg n1.1] at q2
    have := hy.ds _ _ n1.1 (by omega) n2.1 n2.2 (qj hi q2 q1)
    rw [← km a1, ← km a2]; exact this
  · refine List.ext_getElem (by omega) fun j h1 h2 => ?_
    have r1 := hx.ok.ql j (by omega); have r2 := hy.ok.ql j (by omega)
    have g1 : x.ot.getD j [] = x.ot[j] := by simp [List.getD, h1]
    have g2 : y.ot.getD j [] = y.ot[j] := by simp [List.getD, h2]
    rw [← g1, ← g2]
    refine List.ext_getElem (by omega) fun a a1 a2 => ?_
    have q1 := z1 (hq j (by omega)) (a := a) (by omega)
    have m1 : x.out j a = (x.ot.getD j []).getD a 0 := rfl
    have m2 : y.out j a = (y.ot.getD j []).getD a 0 := rfl
    rw [m1, m2] at q1
    rw [← km a1, ← km a2]; exact q1
/-plain-/
abbrev PP := Int × Int
abbrev SYS := PP → Nat → PP × Int
def d0 : PP := (0, 0)
def bL (F : SYS) (p : PP) (l : List PP) (x : Nat) : List PP := (List.range x).foldl (fun l y => g0 l (F p y).1) l
def bN (F : SYS) (p : PP) (l : List PP) (x : Nat) : List Int := (List.range x).map fun y => (pos (bL F p l y) (F p y).1 : Int)
def bO (F : SYS) (p : PP) (x : Nat) : List Int := (List.range x).map fun y => (F p y).2
def bX (F : SYS) (p : PP) (l : List PP) (y : Nat) : Bool := decide (128 < (bL F p l (y + 1)).length) || decide (1048576 < (F p y).2)
abbrev BST := List PP × (List (List Int) × List (List Int))
def bA (F : SYS) (n i : Nat) (s : BST) : BST := (bL F (s.1.getD i d0) s.1 n, s.2.1 ++ [bN F (s.1.getD i d0) s.1 n], s.2.2 ++ [bO F (s.1.getD i d0) n])
def bF (F : SYS) (n : Nat) : Nat → Nat → BST → Option BST
  | 0, _, _ => none
  | f + 1, i, s => if i < s.1.length then if (List.range n).any (bX F (s.1.getD i d0) s.1) = true then none else bF F n f (i + 1) (bA F n i s) else some s
def bR (F : SYS) (n : Nat) (p0 : PP) : Option BST := bF F n 130 0 ([p0], [], [])
theorem jN (F : SYS) (p : PP) (l : List PP) (x : Nat) : bL F p l (x + 1) = g0 (bL F p l x) (F p x).1 := by
  unfold bL; rw [List.range_succ, List.foldl_append]; rfl
theorem rE {α : Type} [DecidableEq α] (l : List α) (x : α) : ∃ k, g0 l x = l ++ k := vK [x] l
theorem lP (F : SYS) (p : PP) (l : List PP) : ∀ x, ∃ k, bL F p l x = l ++ k
  | 0 => ⟨[], by simp [bL]⟩
  | x + 1 => by
    obtain ⟨k, e⟩ := lP F p l x
    obtain ⟨k', e'⟩ := rE (bL F p l x) (F p x).1
    exact ⟨k ++ k', by rw [jN, e', e, List.append_assoc]⟩
theorem oI (F : SYS) (p : PP) (l : List PP) (x : Nat) : ∀ d, ∃ k, bL F p l (x + d) = bL F p l x ++ k
  | 0 => ⟨[], by simp⟩
  | d + 1 => by
    obtain ⟨k, e⟩ := oI F p l x d
    obtain ⟨k', e'⟩ := rE (bL F p l (x + d)) (F p (x + d)).1
    exact ⟨k ++ k', by rw [← Nat.add_assoc, jN, e', e, List.append_assoc]⟩
theorem zl (F : SYS) (p : PP) (l : List PP) (x : Nat) : l.length ≤ (bL F p l x).length := by
  obtain ⟨k, e⟩ := lP F p l x
  rw [e, ar]; omega
theorem pv (F : SYS) (p : PP) {l : List PP} (x : Nat) {i : Nat} (h : i < l.length) : (bL F p l x).getD i d0 = l.getD i d0 := by
  obtain ⟨k, e⟩ := lP F p l x
  rw [e]; simp [List.getD, List.getElem?_append_left h]
theorem yK (F : SYS) (p : PP) (l : List PP) {x y : Nat} (h : y < x) : (F p y).1 ∈ bL F p l x := by
  obtain ⟨k, e⟩ := oI F p l (y + 1) (x - (y + 1))
  rw [show x = y + 1 + (x - (y + 1)) by omega, e, List.mem_append, jN, si]
  exact .inl (.inr rfl)
theorem rB (F : SYS) (p : PP) {l : List PP} (h : l.Nodup) : ∀ x, (bL F p l x).Nodup
  | 0 => by simpa [bL] using h
  | x + 1 => by rw [jN]; exact tZ (rB F p h x) _
theorem zh {α : Type} [DecidableEq α] (l : List α) (x : α) : pos (g0 l x) x = pos l x := by
  by_cases h : x ∈ l
  · rw [gg h]
  · rw [fm h, rA h, vd h]
theorem AY (F : SYS) (p : PP) (l : List PP) {x y : Nat} (h : y < x) : pos (bL F p l x) (F p y).1 = pos (bL F p l y) (F p y).1 := by
  obtain ⟨k, e⟩ := oI F p l (y + 1) (x - (y + 1))
  rw [show x = y + 1 + (x - (y + 1)) by omega, e, ir _ (yK F p l (Nat.lt_succ_self y)), jN, zh]
structure BOK (F : SYS) (n : Nat) (p0 : PP) (i : Nat) (s : BST) : Prop where
  nd : s.1.Nodup
  le : s.1.length ≤ 128
  nl : s.2.1.length = i
  ol : s.2.2.length = i
  il : i ≤ s.1.length
  hd : s.1.getD 0 d0 = p0
  h0 : 0 < s.1.length
  nx : ∀ j, j < i → s.2.1.getD j [] = (List.range n).map fun x => (pos s.1 (F (s.1.getD j d0) x).1 : Int)
  ot : ∀ j, j < i → s.2.2.getD j [] = (List.range n).map fun x => (F (s.1.getD j d0) x).2
  cl : ∀ j x, j < i → x < n → (F (s.1.getD j d0) x).1 ∈ s.1
  bd : ∀ j x, j < i → x < n → (F (s.1.getD j d0) x).2 ≤ 1048576
theorem dP {α : Type} {l : List α} {y d : α} {i : Nat} (h : i < l.length) : (l ++ [y]).getD i d = l.getD i d := by simp [List.getD, List.getElem?_append_left h]
theorem gF {α : Type} {l : List α} {y d : α} {i : Nat} (h : i = l.length) : (l ++ [y]).getD i d = y := by subst h; simp [List.getD]
theorem yM {F : SYS} {p : PP} {l : List PP} {n : Nat} (h : (List.range n).any (bX F p l) = false) {y : Nat} (hy : y < n) : (bL F p l (y + 1)).length ≤ 128 ∧ (F p y).2 ≤ 1048576 := by
  rw [List.any_eq_false] at h
  have := h y (by simpa using hy)
  simp only [bX, Bool.not_eq_true, Bool.or_eq_false_iff, decide_eq_false_iff_not] at this
  omega
theorem Bf {F : SYS} {p : PP} {l : List PP} {n : Nat} (hl : l.length ≤ 128) (h : (List.range n).any (bX F p l) = false) : (bL F p l n).length ≤ 128 := by
  cases n with
  | zero => simpa [bL] using hl
  | succ n => exact (yM h (Nat.lt_succ_self n)).1
theorem BOK.step {F : SYS} {n : Nat} {p0 : PP} {i : Nat} {s : BST} (h : BOK F n p0 i s) (hi : i < s.1.length) (hb : (List.range n).any (bX F (s.1.getD i d0) s.1) = false) : BOK F n p0 (i + 1) (bA F n i s) where
  nd := rB F _ h.nd n
  le := Bf h.le hb
  nl := by simp [bA, h.nl]
  ol := by simp [bA, h.ol]
  il := Nat.le_trans hi (zl F _ s.1 n)
  hd := by simp only [bA]; rw [pv F _ n h.h0]; exact h.hd
  h0 := Nat.lt_of_lt_of_le h.h0 (zl F _ s.1 n)
  nx := fun j hj => by
    simp only [bA]
    rw [pv F _ n (show j < s.1.length by omega)]
    by_cases e : j = i
    · rw [gF (by rw [h.nl, e]), e]
      exact List.map_congr_left fun x hx => by rw [AY F _ s.1 (List.mem_range.1 hx)]
    · have hji : j < i := by omega
      rw [dP (by rw [h.nl]; exact hji), h.nx j hji]
      refine List.map_congr_left fun x hx => ?_
      obtain ⟨k, ek⟩ := lP F (s.1.getD i d0) s.1 n
      rw [ek, ir _ (h.cl j x hji (List.mem_range.1 hx))]
  ot := fun j hj => by
    simp only [bA]
    rw [pv F _ n (show j < s.1.length by omega)]
    by_cases e : j = i
    · rw [gF (by rw [h.ol, e]), e]; rfl
    · rw [dP (by rw [h.ol]; omega), h.ot j (by omega)]
  cl := fun j x hj hx => by
    simp only [bA]
    rw [pv F _ n (show j < s.1.length by omega)]
    by_cases e : j = i
    · rw [e]; exact yK F _ s.1 hx
    · obtain ⟨k, ek⟩ := lP F (s.1.getD i d0) s.1 n
      rw [ek, List.mem_append]
      exact .inl (h.cl j x (by omega) hx)
  bd := fun j x hj hx => by
    simp only [bA]
    rw [pv F _ n (show j < s.1.length by omega)]
    by_cases e : j = i
    · rw [e]; exact (yM hb hx).2
    · exact h.bd j x (by omega) hx
section
variable {F : SYS} {n : Nat} {p0 : PP} {s : BST} (h : bR F n p0 = some s)
include h
end
/-plain-/
def gr (m : Mly) : Int := m.ot.flatten.foldl max 0
def IP (a b : Mly) (p : PP) : Prop := (0 ≤ p.1 ∧ p.1 < a.nx.length) ∧ 0 ≤ p.2 ∧ p.2 < b.nx.length
def IS (m : Mly) (p : PP) : Prop := (0 ≤ p.1 ∧ p.1 < m.nx.length) ∧ p.2 = 0
theorem IP.st {a b : Mly} (ha : MOK a) (hb : MOK b) : IP a b (a.st, b.st) := ⟨⟨ha.s1, ha.s2⟩, hb.s1, hb.s2⟩
theorem IS.st {m : Mly} (hm : MOK m) : IS m (m.st, 0) := ⟨⟨hm.s1, hm.s2⟩, rfl⟩
structure SNG (X : Mly) (F : SYS) : Prop where
  st : ∀ s x : Nat, s < X.nx.length → (x : Int) < X.inp → F ((s : Int), 0) x = ((X.nxt s x, 0), X.out s x)
theorem SNG.at_ {X : Mly} {F : SYS} (h : SNG X F) {q : PP} (hq : IS X q) {x : Nat} (hx : (x : Int) < X.inp) : F q x = ((X.nxt q.1 x, 0), X.out q.1 x) := by
  obtain ⟨q1, q2⟩ := q
  obtain ⟨h1, h2⟩ := hq
  simp only at h1 h2
  subst h2
  have := h.st q1.toNat x (by omega) hx
  rw [Int.toNat_of_nonneg h1.1] at this
  exact this
/-plain-/
abbrev Bs := List UInt8
def okI (c : Int) : Prop := (97 ≤ c ∧ c ≤ 122) ∨ (65 ≤ c ∧ c ≤ 90) ∨ (48 ≤ c ∧ c ≤ 57) ∨ c = 95 ∨ c = 45 ∨ c = 46
instance (c : Int) : Decidable (okI c) := by unfold okI; exact inferInstance
def Bn (s : Bs) : Bool := s.all (fun b => decide (okI (b.toNat : Int))) && decide (1 ≤ s.length) && decide (s.length ≤ 32)
structure AOK (xs : List Bs) : Prop where
  n0 : 1 ≤ xs.length
  n1 : xs.length ≤ 64
  nm : ∀ k, k < xs.length → Bn (xs.getD k []) = true
  nw : ∀ k, k < xs.length → xs.getD k [] ∉ xs.take k
theorem pX {xs : List Bs} {k : Nat} (h : k < xs.length) : xs.getD k [] ∈ xs := by simp [List.getD, h]
theorem BR {xs : List Bs} {x : Bs} : x ∈ xs ↔ ∃ j, j < xs.length ∧ xs.getD j [] = x := by
  constructor
  · intro h
    obtain ⟨j, hj⟩ := List.getElem?_of_mem h
    exact ⟨j, (List.getElem?_eq_some_iff.1 hj).1, by simp [List.getD, hj]⟩
  · rintro ⟨j, hj, e⟩; rw [← e]; exact pX hj
theorem vF {xs : List Bs} {i k : Nat} (hi : i < k) : (xs.take k).getD i [] = xs.getD i [] := by simp [List.getD, List.getElem?_take, hi]
theorem ud {q : Bs} : ∀ {l : List Bs} {k : Nat}, k < pos l q → l.getD k [] ≠ q
  | [], k, h => by simp [pos] at h
  | y :: l, k, h => by
    simp only [pos] at h
    split at h
    · omega
    · rename_i e
      cases k with
      | zero => simpa [List.getD] using e
      | succ k =>
        have := ud (q := q) (l := l) (k := k) (by omega)
        simpa [List.getD] using this
theorem yp {l : List Bs} {q : Bs} (h : q ∈ l) : l.getD (pos l q) [] = q := by rw [List.getD, iS h]; rfl
theorem C6 {l : List Bs} {q : Bs} {k : Nat} (hq : ∀ j, j < k → l.getD j [] ≠ q) (hk : k < l.length) (h : l.getD k [] = q) : pos l q = k ∧ q ∈ l := by
  have hm : q ∈ l := by rw [← h]; exact pX hk
  refine ⟨?_, hm⟩
  rcases Nat.lt_trichotomy k (pos l q) with h2 | h2 | h2
  · exact absurd h (ud h2)
  · exact h2.symm
  · exact absurd (yp hm) (hq _ h2)
theorem AOK.pos {xs : List Bs} (h : AOK xs) {k : Nat} (hk : k < xs.length) : pos xs (xs.getD k []) = k :=
  (C6 (fun j hj e => h.nw k hk (by rw [BR]; exact ⟨j, by rw [List.length_take]; omega, by rw [vF hj, e]⟩)) hk rfl).1
/-plain-/
def ee (T : List ba) (rec : Nat → Int) (p : Nat) (n : Int) (k : dM) : Int := if (p : Int) < k.2.1 ∧ k.2.1 < T.length then max n (1 + rec k.2.1.toNat) else n
def dpF (T : List ba) : Nat → Nat → Int
  | 0, _ => 0
  | f + 1, p => (T.getD p nd0).2.2.1.foldl (ee T (dpF T f) p) 0
theorem l9 {T : List ba} {r1 r2 : Nat → Int} {p : Nat} (h : ∀ k, p < k → k < T.length → r1 k = r2 k) : ∀ (K : List dM) (n : Int), K.foldl (ee T r1 p) n = K.foldl (ee T r2 p) n
  | [], _ => rfl
  | k :: K, n => by
    have e : ee T r1 p n k = ee T r2 p n k := by
      unfold ee
      by_cases hk : (p : Int) < k.2.1 ∧ k.2.1 < T.length
      · rw [if_pos hk, if_pos hk, h _ (by omega) (by omega)]
      · rw [if_neg hk, if_neg hk]
    rw [List.foldl_cons, List.foldl_cons, e, l9 h K]
theorem rP {T : List ba} : ∀ (f g p : Nat), p < T.length → T.length ≤ f + p → T.length ≤ g + p → dpF T f p = dpF T g p
  | 0, _, p, h, h1, _ => by omega
  | f + 1, 0, p, h, _, h2 => by omega
  | f + 1, g + 1, p, h, h1, h2 => l9 (fun k hk hl => rP f g k hl (by omega) (by omega)) _ _
theorem n7 {T : List ba} {r : Nat → Int} {p : Nat} (hp : p < T.length) (h : ∀ k, p < k → k < T.length → 0 ≤ r k ∧ r k + k < T.length) : ∀ (K : List dM) (n : Int), 0 ≤ n ∧ n + p < T.length → 0 ≤ K.foldl (ee T r p) n ∧ K.foldl (ee T r p) n + p < T.length
  | [], _, hn => hn
  | k :: K, n, hn => by
    rw [List.foldl_cons]
    refine n7 hp h K _ ?_
    unfold ee
    split
    · rename_i hk
      have := h k.2.1.toNat (by omega) (by omega)
      omega
    · exact hn
theorem uW {T : List ba} : ∀ (f p : Nat), p < T.length → T.length ≤ f + p → 0 ≤ dpF T f p ∧ dpF T f p + p < T.length
  | 0, p, h, h1 => by omega
  | f + 1, p, h, h1 => n7 h (fun k hk hl => uW f k hl (by omega)) _ _ ⟨Int.le_refl _, by omega⟩
def dpA (T : List ba) (p : Nat) : Int := dpF T (T.length - p) p
theorem wE {T : List ba} {p : Nat} (h : p < T.length) : dpA T p = (T.getD p nd0).2.2.1.foldl (ee T (dpA T) p) 0 := by
  show dpF T (T.length - p) p = _
  rw [show T.length - p = (T.length - p - 1) + 1 by omega]
  exact l9 (fun k hk hl => rP _ _ k hl (by omega) (by omega)) _ _
theorem pe {T : List ba} {p : Nat} (h : p < T.length) : 0 ≤ dpA T p ∧ dpA T p + p < T.length := uW _ _ h (by omega)
theorem yV {K : List dM} {i : Nat} (h : i < K.length) : K.take (i + 1) = K.take i ++ [K.getD i kd0] := by
  rw [List.take_add_one]; simp [List.getD, h]
theorem zJ {T : List ba} {r : Nat → Int} {p i : Nat} {K : List dM} (h : i < K.length) : (K.take (i + 1)).foldl (ee T r p) 0 = ee T r p ((K.take i).foldl (ee T r p) 0) (K.getD i kd0) := by
  rw [yV h, List.foldl_append]; rfl
def dpT (T : List ba) : Int := if T.length = 0 then 0 else dpA T 0
def dpV (T : List ba) (p : Nat) (x : Int) (q : Nat) : Int := if q < p then 0 else if q = p then x else if q < T.length then dpA T q else 0
def dpL (T : List ba) (p : Nat) (x : Int) : List Int := (List.range (T.length + 1)).map (dpV T p x)
theorem dt (T : List ba) (p : Nat) (x : Int) : (dpL T p x).length = T.length + 1 := by simp [dpL]
theorem mB (T : List ba) (p : Nat) (x : Int) (i : Nat) : (dpL T p x)[i]? = if i < T.length + 1 then some (dpV T p x i) else none := by
  unfold dpL
  rw [List.getElem?_map]
  by_cases h : i < T.length + 1
  · rw [if_pos h, List.getElem?_range h]; rfl
  · rw [if_neg h, List.getElem?_eq_none (by simpa using h)]; rfl
theorem zn {T : List ba} {p i : Nat} (h : i ≤ T.length) (x : Int) : (dpL T p x).getD i 0 = dpV T p x i := by
  rw [List.getD, mB, if_pos (by omega)]; rfl
theorem pG {T : List ba} {p : Nat} (h : p ≤ T.length) (x : Int) : (dpL T p x).getD p 0 = x := by
  rw [zn h]; unfold dpV; rw [if_neg (by omega), if_pos rfl]
theorem AR {T : List ba} {p k : Nat} (h : p < k) (hk : k < T.length) (x : Int) : (dpL T p x).getD k 0 = dpA T k := by
  rw [zn (by omega)]; unfold dpV; rw [if_neg (by omega), if_neg (by omega), if_pos hk]
theorem zg {T : List ba} {p : Nat} (h : p ≤ T.length) (x y : Int) : (dpL T p x).set p y = dpL T p y := by
  apply List.ext_getElem?
  intro i
  rw [List.getElem?_set, mB, mB, dt]
  by_cases e : p = i
  · subst e
    rw [if_pos rfl, if_pos (by omega), if_pos (by omega)]
    unfold dpV; rw [if_neg (by omega), if_pos rfl]
  · rw [if_neg e]
    have : dpV T p x i = dpV T p y i := by
      unfold dpV
      by_cases e2 : i < p
      · rw [if_pos e2, if_pos e2]
      · rw [if_neg e2, if_neg e2, if_neg (fun h : i = p => e h.symm), if_neg (fun h : i = p => e h.symm)]
    rw [this]
theorem xj {T : List ba} {p : Nat} (h : p + 1 ≤ T.length) : dpL T (p + 1) (if p + 1 = T.length then 0 else dpA T (p + 1)) = dpL T p 0 := by
  apply List.ext_getElem?
  intro i
  rw [mB, mB]
  have : dpV T (p + 1) (if p + 1 = T.length then 0 else dpA T (p + 1)) i = dpV T p 0 i := by
    unfold dpV
    by_cases e : i < p
    · rw [if_pos (show i < p + 1 by omega), if_pos e]
    · by_cases e2 : i = p
      · subst e2; rw [if_pos (show i < i + 1 by omega), if_neg e, if_pos rfl]
      · by_cases e3 : i = p + 1
        · subst e3
          rw [if_neg (show ¬ p + 1 < p + 1 by omega), if_pos rfl, if_neg e, if_neg e2]
          by_cases e4 : p + 1 = T.length
          · rw [if_pos e4, if_neg (by omega)]
          · rw [if_neg e4, if_pos (by omega)]
        · rw [if_neg (show ¬ i < p + 1 by omega), if_neg e3, if_neg e, if_neg e2]
  rw [this]
theorem yY (T : List ba) : dpL T T.length 0 = List.replicate (T.length + 1) 0 := by
  apply List.ext_getElem?
  intro i
  rw [mB, List.getElem?_replicate]
  by_cases h : i < T.length + 1
  · rw [if_pos h, if_pos h]
    unfold dpV
    by_cases e : i < T.length
    · rw [if_pos e]
    · rw [if_neg e, if_pos (by omega)]
  · rw [if_neg h, if_neg h]
/-plain-/
/-plain-/
def BV (m : Mly) (cl : List Int) : Bool := if Ba m cl = 0 then (C7 m cl).isSome else false
/-plain-/
def SYM (n : Int) (w : List Int) : Prop := ∀ a, a ∈ w → 0 ≤ a ∧ a < n
structure SHW (m : Mly) (cl : List Int) (u v : List Int) : Prop where
  su : SYM m.inp u
  sv : SYM m.inp v
  lu : u.length ≤ 200
  lv : v.length = u.length
  pos : 0 < u.length
  ne : (m.go m.st u).2 ≠ (m.go m.st v).2
  im : u.map (fun a => cl.getD a.toNat 0) = v.map fun a => cl.getD a.toNat 0
theorem wj {n i : Nat} : (List.replicate n (0 : Int)).getD i 0 = 0 := by
  by_cases h : i < n
  · simp [List.getD, h]
  · simp [List.getD, Nat.le_of_not_lt h]
/-plain-/
def lh (m : Mly) : List Int := if aS m = 0 then (nmS (wz m) m.inp.toNat).1 else []
def BJ (m : Mly) : Int := if aS m = 0 then ((nmS (wz m) m.inp.toNat).2.length : Int) else 0
/-plain-/
structure RUN (m : Mly) : Prop where
  len : (lh m).length = m.inp.toNat
  ce : qK (lh m) = 0
  ck : Bb (lh m) = BJ m
  eq : ∀ c d : Nat, c < m.inp.toNat → d < m.inp.toNat → ((lh m).getD c 0 = (lh m).getD d 0 ↔ wz m c d = true)
  ch : Ba m (lh m) = 0
  no : BV m (lh m) = false
/-plain-/
theorem uB {cl : List Int} (hb : ∀ q, q < cl.length → iv cl q = false) : ∀ k, k ≤ cl.length → ∀ v, 0 ≤ v → v < cN cl k → ∃ q, q < k ∧ cl.getD q 0 = v
  | 0, _, v, h0, h1 => by simp only [cN] at h1; omega
  | k + 1, hk, v, h0, h1 => by
    have h2 := hb k (by omega)
    simp only [iv, Bool.or_eq_false_iff, decide_eq_false_iff_not] at h2
    simp only [cN] at h1
    by_cases e : v < cN cl k
    · obtain ⟨q, q1, q2⟩ := uB hb k (by omega) v h0 e
      exact ⟨q, by omega, q2⟩
    · exact ⟨k, by omega, by omega⟩
theorem yE (cl : List Int) : ∀ k q, q < k → cl.getD q 0 < cN cl k
  | 0, q, h => by omega
  | k + 1, q, h => by
    simp only [cN]
    by_cases e : q = k
    · rw [e]; omega
    · have := yE cl k q (by omega); omega
theorem tl (cl : List Int) : ∀ k, 0 ≤ cN cl k
  | 0 => Int.le_refl _
  | k + 1 => by have := tl cl k; simp only [cN]; omega
structure STD (m : Mly) (C : List Int) (j : Nat) : Prop where
  len : C.length = m.inp.toNat
  ce : qK C = 0
  co : ∀ c d : Nat, c < m.inp.toNat → d < m.inp.toNat → wz m c d = true → C.getD c 0 = C.getD d 0
  ct : (j : Int) + 1 ≤ Bb C
/-plain-/
theorem pH (m : Mly) (cl : List Int) : ∀ k, k ≤ m.nx.length → cN (m.nextL cl) k = ((d6 (m.sig cl) k).length : Int) ∧ ∀ q, q < k → iv (m.nextL cl) q = false
  | 0, _ => ⟨by simp [cN, d6], fun q h => by omega⟩
  | k + 1, h => by
    obtain ⟨i1, i2⟩ := pH m cl k (by omega)
    have hv := iG (cl := cl) (s := k) (by omega : k < m.nx.length)
    by_cases hs : m.sig cl k ∈ d6 (m.sig cl) k
    · have h1 := mJ (cl := cl) (by omega : k < m.nx.length) hs
      have h2 := gD hs
      rw [h1] at hv
      refine ⟨?_, fun q hq => ?_⟩
      · rw [dC, gg hs]; simp only [cN]; omega
      · by_cases e : q = k
        · subst e; exact qh (by omega) (by omega)
        · exact i2 q (by omega)
    · have h1 := kE (cl := cl) (by omega : k < m.nx.length) hs
      rw [h1] at hv
      refine ⟨?_, fun q hq => ?_⟩
      · rw [dC, fm hs, ar]; simp only [cN, aw, aG]; omega
      · by_cases e : q = k
        · subst e; exact qh (by omega) (by omega)
        · exact i2 q (by omega)
theorem gO {m : Mly} (hm : MOK m) : ∀ q, q < m.eqc.length → iv m.eqc q = false := by
  obtain ⟨j, h1, h2, h3⟩ := kt hm
  rw [h1, jX]
  cases j with
  | zero => exact fun q hq => qh (by show 0 ≤ (List.replicate _ (0 : Int)).getD q 0; rw [wj]; omega) (by show (List.replicate _ (0 : Int)).getD q 0 ≤ _; rw [wj]; exact tl _ _)
  | succ i => exact (pH m (m.cls i) m.nx.length (Nat.le_refl _)).2
def dQ (c : List Int) (k : Nat) : List Nat := (List.range k).filter fun s => decide (c.getD s 0 = cN c s)
theorem mN {c : List Int} {k : Nat} (h : c.getD k 0 = cN c k) : dQ c (k + 1) = dQ c k ++ [k] := by
  unfold dQ; rw [List.range_succ, List.filter_append]; simp only [List.filter_cons, List.filter_nil, h, decide_true, if_true]
theorem mQ {c : List Int} {k : Nat} (h : ¬ c.getD k 0 = cN c k) : dQ c (k + 1) = dQ c k := by
  unfold dQ; rw [List.range_succ, List.filter_append]; simp only [List.filter_cons, List.filter_nil, decide_eq_false h, Bool.false_eq_true, if_false, List.append_nil]
structure REP (c : List Int) (k : Nat) : Prop where
  len : ((dQ c k).length : Int) = cN c k
  at_ : ∀ r, r < (dQ c k).length → (dQ c k).getD r 0 < k ∧ c.getD ((dQ c k).getD r 0) 0 = r
theorem tD {xs ys : List Nat} {i : Nat} (h : i < xs.length) : (xs ++ ys).getD i 0 = xs.getD i 0 := by simp [List.getD, List.getElem?_append_left h]
theorem tt {c : List Int} (hb : ∀ q, q < c.length → iv c q = false) : ∀ k, k ≤ c.length → REP c k
  | 0, _ => ⟨rfl, fun r h => by simp [dQ] at h⟩
  | k + 1, h => by
    have ih := tt hb k (by omega)
    have h1 := hb k (by omega)
    simp only [iv, Bool.or_eq_false_iff, decide_eq_false_iff_not] at h1
    have hl := ih.len
    by_cases e : c.getD k 0 = cN c k
    · rw [show REP c (k + 1) = REP c (k + 1) from rfl]
      refine ⟨?_, fun r hr => ?_⟩
      · rw [mN e, ar]; simp only [aw, aG, cN]; omega
      · rw [mN e] at hr ⊢
        rw [ar] at hr; simp only [aw, aG] at hr
        by_cases e2 : r = (dQ c k).length
        · have : (dQ c k ++ [k]).getD r 0 = k := by subst e2; simp [List.getD]
          rw [this]; exact ⟨by omega, by omega⟩
        · rw [tD (by omega)]
          have := ih.at_ r (by omega)
          exact ⟨by omega, this.2⟩
    · refine ⟨?_, fun r hr => ?_⟩
      · rw [mQ e]; simp only [cN]; omega
      · rw [mQ e] at hr ⊢
        have := ih.at_ r hr
        exact ⟨by omega, this.2⟩
def Mly.f (t : Mly) (x : Int) : Int := t.eqc.getD x.toNat 0
def Mly.reps (t : Mly) : List Nat := dQ t.eqc t.nx.length
def Mly.qm (t : Mly) : Mly := ⟨t.inp, 0, t.reps.map (fun s => (t.nx.getD s []).map t.f), t.reps.map fun s => t.ot.getD s []⟩
theorem gG {t : Mly} (ht : MOK t) : REP t.eqc t.nx.length := by
  have hl := (fo ht).len
  have := tt (gO ht) t.nx.length (by omega)
  exact this
theorem oD (t : Mly) : t.qm.nx.length = t.reps.length := by simp [Mly.qm]
theorem vz {t : Mly} {r : Nat} (h : r < t.reps.length) : t.qm.nx.getD r [] = (t.nx.getD (t.reps.getD r 0) []).map t.f := by
  show (t.reps.map _).getD r [] = _
  rw [eY _ 0 _ h]
theorem vR {t : Mly} {r : Nat} (h : r < t.reps.length) : t.qm.ot.getD r [] = t.ot.getD (t.reps.getD r 0) [] := by
  show (t.reps.map _).getD r [] = _
  rw [eY _ 0 _ h]
theorem mW {t : Mly} (ht : MOK t) {s : Int} (h0 : 0 ≤ s) (h1 : s < t.nx.length) : 0 ≤ t.f s ∧ t.f s < t.reps.length := by
  have hl := (gG ht).len
  have := yE t.eqc t.nx.length s.toNat (by omega)
  have h2 := (fo ht).rng s.toNat (by omega)
  unfold Mly.f Mly.reps
  omega
theorem Bz {t : Mly} (ht : MOK t) {s : Int} (h0 : 0 ≤ s) (h1 : s < t.nx.length) : t.reps.getD (t.f s).toNat 0 < t.nx.length ∧ t.f (t.reps.getD (t.f s).toNat 0 : Nat) = t.f s := by
  have hf := mW ht h0 h1
  have := (gG ht).at_ (t.f s).toNat (by have := hf.2; unfold Mly.reps at this; omega)
  refine ⟨this.1, ?_⟩
  show t.eqc.getD ((t.reps.getD (t.f s).toNat 0 : Nat) : Int).toNat 0 = _
  rw [ah]
  have h2 := this.2
  unfold Mly.reps
  rw [h2]; omega
theorem zj {t : Mly} (ht : MOK t) : MOK t.qm := by
  have hq := oD t
  have hr := gG ht
  have hn1 := ht.n1; have hn2 := ht.n2
  have h0 := mW ht (s := 0) (by omega) (by omega)
  have hle : t.reps.length ≤ t.nx.length := by
    unfold Mly.reps dQ
    exact Nat.le_trans (List.length_filter_le _ _) (by simp)
  have hol : t.qm.ot.length = t.reps.length := by simp [Mly.qm]
  have hat : ∀ r, r < t.reps.length → t.reps.getD r 0 < t.nx.length := fun r h => (hr.at_ r h).1
  refine ⟨ht.i1, ht.i2, by omega, by omega, Int.le_refl 0, by show (0 : Int) < _; omega, by omega, fun s hs => ?_, fun s hs => ?_, fun s a hs ha => ?_, fun s a hs ha => ?_⟩
  · rw [vz (by omega), aD]
    exact ht.rl _ (hat s (by omega))
  · rw [vR (by omega)]
    exact ht.ql _ (hat s (by omega))
  · have ha' : (a : Int) < t.inp := ha
    have h1 := ht.rl _ (hat s (by omega))
    rw [vz (by omega), eY t.f 0 0 (by omega)]
    have h2 := ht.nr _ a (hat s (by omega)) ha'
    have := mW ht h2.1 h2.2
    omega
  · rw [vR (by omega)]
    exact ht.or _ a (hat s (by omega)) ha
theorem x5 {t : Mly} (ht : MOK t) {s a : Int} (h0 : 0 ≤ s) (h1 : s < t.nx.length) (ha : 0 ≤ a ∧ a < t.inp) : t.qm.out (t.f s) a = t.out s a ∧ t.qm.nxt (t.f s) a = t.f (t.nxt s a) := by
  have hf := mW ht h0 h1
  obtain ⟨r1, r2⟩ := Bz ht h0 h1
  have e : t.eqc.getD (t.reps.getD (t.f s).toNat 0) 0 = t.eqc.getD s.toNat 0 := by
    have := r2
    unfold Mly.f at this
    rw [ah] at this
    exact this
  have hst := (fo ht).step _ s.toNat r1 (by omega) e a.toNat (by omega)
  have hrl := ht.rl _ r1
  constructor
  · show (t.qm.ot.getD (t.f s).toNat []).getD a.toNat 0 = _
    rw [vR (by omega), hst.1]; rfl
  · show (t.qm.nx.getD (t.f s).toNat []).getD a.toNat 0 = _
    rw [vz (by omega), eY t.f 0 0 (by omega)]
    exact hst.2
theorem wB {t : Mly} (ht : MOK t) : ∀ (w : List Int) (s : Int), 0 ≤ s → s < t.nx.length → (∀ i : Nat, i < w.length → 0 ≤ w.getD i 0 ∧ w.getD i 0 < t.inp) → (t.qm.go (t.f s) w).2 = (t.go s w).2
  | [], s, _, _, _ => rfl
  | a :: w, s, h0, h1, hw => by
    obtain ⟨ha, hw2⟩ := pQ hw
    obtain ⟨e1, e2⟩ := x5 ht h0 h1 ha
    rw [dz, dz, e1, e2]
    have hn := ht.nr s.toNat a.toNat (by omega) (by omega)
    have := wB ht w (t.nxt s a) hn.1 hn.2 hw2
    rw [this]
theorem BO {t : Mly} (ht : MOK t) : ∀ i j : Int, 0 ≤ i → i < t.qm.nx.length → 0 ≤ j → j < t.qm.nx.length → EQV t.qm i j → i = j := by
  intro i j i0 i1 j0 j1 h
  have hq := oD t
  have ri := (gG ht).at_ i.toNat (by unfold Mly.reps at hq; omega)
  have rj := (gG ht).at_ j.toNat (by unfold Mly.reps at hq; omega)
  have fi : t.f (((dQ t.eqc t.nx.length).getD i.toNat 0 : Nat) : Int) = i := by unfold Mly.f; rw [ah, ri.2]; omega
  have fj : t.f (((dQ t.eqc t.nx.length).getD j.toNat 0 : Nat) : Int) = j := by unfold Mly.f; rw [ah, rj.2]; omega
  have hv : EQV t (((dQ t.eqc t.nx.length).getD i.toNat 0 : Nat) : Int) (((dQ t.eqc t.nx.length).getD j.toNat 0 : Nat) : Int) := fun w hw => by
    have g1 := wB ht w (((dQ t.eqc t.nx.length).getD i.toNat 0 : Nat) : Int) (Int.natCast_nonneg _) (by have := ri.1; omega) hw
    have g2 := wB ht w (((dQ t.eqc t.nx.length).getD j.toNat 0 : Nat) : Int) (Int.natCast_nonneg _) (by have := rj.1; omega) hw
    rw [fi] at g1; rw [fj] at g2
    rw [← g1, ← g2]
    exact h w hw
  have := (lX ht (Int.natCast_nonneg _) (by have := ri.1; omega) (Int.natCast_nonneg _) (by have := rj.1; omega)).2 hv
  rw [← fi, ← fj]; exact this
/-plain-/
abbrev STP := PP → Nat → PP
abbrev W3 := PP × List Int
def w30 : W3 := (d0, [])
def dIn (l : List W3) (q : PP) : Bool := l.any fun f => decide (f.1 = q)
def dSt (A : STP) (e : W3) (l : List W3) (x : Nat) : List W3 := if dIn l (A e.1 x) = true then l else l ++ [(A e.1 x, e.2 ++ [(x : Int)])]
def jz (A : STP) (e : W3) (l : List W3) (x : Nat) : List W3 := (List.range x).foldl (dSt A e) l
theorem v4 {l : List W3} {q : PP} : dIn l q = true ↔ q ∈ l.map Prod.fst := by
  unfold dIn
  rw [List.any_eq_true, List.mem_map]
  constructor
  · rintro ⟨e, he, h⟩; exact ⟨e, he, by simpa using h⟩
  · rintro ⟨e, he, h⟩; exact ⟨e, he, by simpa using h⟩
theorem sM {A : STP} {e : W3} {l : List W3} {x : Nat} (h : A e.1 x ∈ l.map Prod.fst) : dSt A e l x = l := if_pos (v4.2 h)
theorem oC {A : STP} {e : W3} {l : List W3} {x : Nat} (h : A e.1 x ∉ l.map Prod.fst) : dSt A e l x = l ++ [(A e.1 x, e.2 ++ [(x : Int)])] := if_neg fun k => h (v4.1 k)
theorem js (A : STP) (e : W3) (l : List W3) (x : Nat) : jz A e l (x + 1) = dSt A e (jz A e l x) x := by
  unfold jz; rw [List.range_succ, List.foldl_append]; rfl
theorem yv (A : STP) (e : W3) (l : List W3) (x : Nat) : ∃ k, dSt A e l x = l ++ k := by
  unfold dSt; split
  · exact ⟨[], by simp⟩
  · exact ⟨_, rfl⟩
theorem qg (A : STP) (e : W3) (l : List W3) (x : Nat) : ∀ d, ∃ k, jz A e l (x + d) = jz A e l x ++ k
  | 0 => ⟨[], by simp⟩
  | d + 1 => by
    obtain ⟨k, h⟩ := qg A e l x d
    obtain ⟨k', h'⟩ := yv A e (jz A e l (x + d)) (x + d)
    exact ⟨k ++ k', by rw [← Nat.add_assoc, js, h', h, List.append_assoc]⟩
theorem xw (A : STP) (e : W3) (l : List W3) (x : Nat) : ∃ k, jz A e l x = l ++ k := by
  obtain ⟨k, h⟩ := qg A e l 0 x
  rw [Nat.zero_add] at h
  exact ⟨k, h⟩
def inR (n1 n2 : Nat) (q : PP) : Prop := (0 ≤ q.1 ∧ q.1 < n1) ∧ 0 ≤ q.2 ∧ q.2 < n2
structure DW (n1 n2 : Nat) (l : List W3) : Prop where
  nd : (l.map Prod.fst).Nodup
  rg : ∀ e, e ∈ l → inR n1 n2 e.1
  wl : ∀ e, e ∈ l → e.2.length < l.length
theorem sC {l : List W3} {i : Nat} (h : i < l.length) : l.getD i w30 ∈ l := by simp [List.getD, h]
theorem DW.le {n1 n2 : Nat} {l : List W3} (h : DW n1 n2 l) : l.length ≤ n1 * n2 := by
  have hnd : ((l.map Prod.fst).map fun q : PP => q.1 * (n2 : Int) + q.2).Nodup := by
    rw [List.nodup_iff_pairwise_ne, List.pairwise_map]
    refine List.Pairwise.imp_of_mem (fun {a b} ha hb hab => ?_) (List.nodup_iff_pairwise_ne.1 h.nd)
    intro e
    obtain ⟨ea, hea, rfl⟩ := List.mem_map.1 ha
    obtain ⟨eb, heb, rfl⟩ := List.mem_map.1 hb
    have := rI (h.rg ea hea).2 (h.rg eb heb).2 e
    exact hab (Prod.ext this.1 this.2)
  have := eM (n1 * n2) _ hnd (fun x hx => by
    obtain ⟨q, hq, rfl⟩ := List.mem_map.1 hx
    obtain ⟨e, he, rfl⟩ := List.mem_map.1 hq
    have hr := h.rg e he
    have := ub hr.1 hr.2
    rw [Int.natCast_mul]; exact this)
  simpa using this
theorem DW.step {n1 n2 n : Nat} {A : STP} (hA : ∀ q, inR n1 n2 q → ∀ x, x < n → inR n1 n2 (A q x)) {l : List W3} (h : DW n1 n2 l) {e : W3} (he : e ∈ l) {x : Nat} (hx : x < n) : DW n1 n2 (dSt A e l x) := by
  by_cases hin : A e.1 x ∈ l.map Prod.fst
  · rw [sM hin]; exact h
  · rw [oC hin]
    refine ⟨?_, fun f hf => ?_, fun f hf => ?_⟩
    · rw [List.map_append, aH, bm, List.nodup_append]
      refine ⟨h.nd, by simp, fun a ha b hb => ?_⟩
      simp at hb; subst hb
      intro hab; subst hab; exact hin ha
    · rcases List.mem_append.1 hf with hf | hf
      · exact h.rg f hf
      · simp at hf; subst hf; exact hA _ (h.rg e he) x hx
    · rw [ar, List.length_singleton]
      rcases List.mem_append.1 hf with hf | hf
      · have := h.wl f hf; omega
      · simp at hf; subst hf
        have := h.wl e he
        simp only [ar, List.length_singleton]; omega
theorem DW.row {n1 n2 n : Nat} {A : STP} (hA : ∀ q, inR n1 n2 q → ∀ x, x < n → inR n1 n2 (A q x)) {l : List W3} (h : DW n1 n2 l) {i : Nat} (hi : i < l.length) : ∀ x, x ≤ n → DW n1 n2 (jz A (l.getD i w30) l x)
  | 0, _ => by simpa [jz] using h
  | x + 1, hx => by
    rw [js]
    refine (h.row hA hi x (by omega)).step hA ?_ (by omega)
    obtain ⟨k, e⟩ := xw A (l.getD i w30) l x
    rw [e]; exact List.mem_append.2 (.inl (sC hi))
/-plain-/
/-plain-/
/-plain-/
/-plain-/
def hF (h : PP → PP) (l : List W3) : List PP := l.map fun e => h e.1
structure HOM (A B : STP) (n : Nat) (I : PP → Prop) (h : PP → PP) : Prop where
  cl : ∀ p, I p → ∀ x, x < n → I (A p x)
  eq : ∀ p, I p → ∀ x, x < n → B (h p) x = h (A p x)
/-plain-/
theorem Bo {xs ys : List Int} (h : xs.length = ys.length) (h2 : ∀ i, i < xs.length → xs.getD i 0 = ys.getD i 0) : xs = ys := by
  refine List.ext_getElem h fun i h1 h3 => ?_
  have := h2 i h1
  simpa [List.getD, h1, h3] using this
/-plain-/
def dd (f : Int → Int) (l : List Int) : List Int := (l.map f).foldl bY []
theorem wI (f : Int → Int) (l : List Int) (x : Int) : dd f (l ++ [x]) = bY (dd f l) (f x) := by
  unfold dd; rw [List.map_append, List.foldl_append]; rfl
theorem wG {f : Int → Int} {l : List Int} {y : Int} : y ∈ dd f l ↔ ∃ x, x ∈ l ∧ f x = y := by
  unfold dd; rw [gp, List.mem_map]; simp
theorem tL (f : Int → Int) : ∀ (r l : List Int), (r.map f).foldl bY (dd f l) = dd f (r.foldl bY l)
  | [], _ => rfl
  | x :: r, l => by
    rw [aH, List.foldl_cons, List.foldl_cons, ← tL f r (bY l x)]
    congr 1
    by_cases h : x ∈ l
    · rw [fX h, fX (wG.2 ⟨x, h, rfl⟩)]
    · rw [eW h, wI]
theorem tI : ∀ (r l : List Int), (∀ x, x ∈ r → x ∈ l) → r.foldl bY l = l
  | [], _, _ => rfl
  | x :: r, l, h => by
    rw [List.foldl_cons, fX (h x (by simp))]
    exact tI r l fun y hy => h y (by simp [hy])
theorem mc (c : List Int) {a : Nat} : ∀ {b : Nat}, a ≤ b → cN c a ≤ cN c b
  | 0, h => by
    have : a = 0 := by omega
    subst this; exact Int.le_refl _
  | b + 1, h => by
    by_cases e : a = b + 1
    · subst e; exact Int.le_refl _
    · have := mc c (a := a) (b := b) (by omega)
      simp only [cN]; omega
theorem sH {t : Mly} (ht : MOK t) : ∀ k, k ≤ t.nx.length → dd t.f (rgI k) = rgI (cN t.eqc k).toNat
  | 0, _ => rfl
  | k + 1, h => by
    have hl := (fo ht).len
    have h1 := gO ht k (by omega)
    simp only [iv, Bool.or_eq_false_iff, decide_eq_false_iff_not] at h1
    have hn := tl t.eqc k
    have hf : t.f (k : Int) = t.eqc.getD k 0 := by unfold Mly.f; rw [ah]
    rw [rO, wI, sH ht k (by omega), hf]
    by_cases e : t.eqc.getD k 0 = cN t.eqc k
    · rw [eW (fun hm => by have := gZ.1 hm; omega), show (cN t.eqc (k + 1)).toNat = (cN t.eqc k).toNat + 1 by simp only [cN]; omega, rO, e, Int.toNat_of_nonneg hn]
    · rw [fX (gZ.2 ⟨by omega, by omega⟩), show (cN t.eqc (k + 1)).toNat = (cN t.eqc k).toNat by simp only [cN]; omega]
theorem oX {t : Mly} (ht : MOK t) {s : Int} (h0 : 0 ≤ s) (h1 : s < t.nx.length) : t.qm.row (t.f s) = (t.row s).map t.f := by
  have hf := mW ht h0 h1
  have hq := oD t
  have hi1 := ht.i1
  have r1 : ((t.qm.row (t.f s)).length : Int) = t.inp := (zj ht).rl (t.f s).toNat (by omega)
  have r2 : ((t.row s).length : Int) = t.inp := ht.rl s.toNat (by omega)
  refine Bo (by rw [aD]; omega) fun a ha => ?_
  rw [eY t.f 0 0 (by omega)]
  have := (x5 ht h0 h1 (a := (a : Int)) ⟨by omega, by omega⟩).2
  exact this
theorem zt {t : Mly} (ht : MOK t) (hr : t.reach = rgI t.nx.length) : ∀ (g i : Nat) (L : List Int), t.nx.length < g + i → t.rf g i L = t.reach → L = rgI L.length → L.length ≤ t.nx.length → i ≤ L.length →
    (∀ j : Nat, j < i → ∀ x, x ∈ t.row j → x ∈ L) → ∀ F, t.reps.length < F + (cN t.eqc i).toNat → t.qm.rf F (cN t.eqc i).toNat (dd t.f L) = dd t.f t.reach
  | 0, i, L, hg, _, _, hL, hi, _, F, _ => by omega
  | g + 1, i, L, hg, hrf, hp, hL, hi, hcl, F, hF => by
    have hlen := (fo ht).len
    have hK := (gG ht).len
    have hnn := tl t.eqc i
    have hdd : dd t.f L = rgI (cN t.eqc L.length).toNat := by
      have := sH ht L.length hL
      rwa [← hp] at this
    by_cases hil : i < L.length
    · have hLi : L.getD i 0 = (i : Int) := by rw [hp]; exact oy hil
      rw [gR t g i L hil, hLi] at hrf
      have hmi : (i : Int) ∈ L := by rw [← hLi]; exact bh hil
      have h1 := gO ht i (by omega)
      simp only [iv, Bool.or_eq_false_iff, decide_eq_false_iff_not] at h1
      have hm1 := mc t.eqc (a := i + 1) (b := L.length) (by omega)
      have hm2 := mc t.eqc (a := i) (b := t.nx.length) (by omega)
      have hpre : ∃ k, (t.row i).foldl bY L ++ k = rgI t.nx.length := by
        obtain ⟨k, e⟩ := kC t g (i + 1) ((t.row i).foldl bY L)
        exact ⟨k, by rw [← e, hrf, hr]⟩
      obtain ⟨k, hk⟩ := hpre
      have hp2 := qi hk
      have hL2 : ((t.row i).foldl bY L).length ≤ t.nx.length := by
        have := congrArg List.length hk
        rw [ar, d5] at this; omega
      have hge := m7 (t.row i) L
      have hcl2 : ∀ j : Nat, j < i + 1 → ∀ x, x ∈ t.row j → x ∈ (t.row i).foldl bY L := fun j hj x hx => by
        by_cases e : j = i
        · subst e; exact gp.2 (.inr hx)
        · exact gp.2 (.inl (hcl j (by omega) x hx))
      have hfi : t.f (i : Int) = t.eqc.getD i 0 := by unfold Mly.f; rw [ah]
      have hfold := tL t.f (t.row i) L
      by_cases e : t.eqc.getD i 0 = cN t.eqc i
      · have ec : (cN t.eqc (i + 1)).toNat = (cN t.eqc i).toNat + 1 := by simp only [cN]; omega
        have hKb : (cN t.eqc i).toNat < t.reps.length := by
          have := mc t.eqc (a := i + 1) (b := t.nx.length) (by omega)
          unfold Mly.reps; omega
        obtain ⟨F2, rfl⟩ : ∃ F2, F = F2 + 1 := ⟨F - 1, by omega⟩
        have hlt : (cN t.eqc i).toNat < (dd t.f L).length := by rw [hdd, d5]; omega
        rw [gR t.qm F2 _ _ hlt]
        have hat : (dd t.f L).getD (cN t.eqc i).toNat 0 = t.f (i : Int) := by
          rw [hdd, oy (by rw [hdd, d5] at hlt; exact hlt), hfi]; omega
        rw [hat, oX ht (by omega) (by omega), hfold, ← ec]
        exact zt ht hr g (i + 1) _ (by omega) hrf hp2 hL2 (by omega) hcl2 F2 (by omega)
      · have ec : (cN t.eqc (i + 1)).toNat = (cN t.eqc i).toNat := by simp only [cN]; omega
        obtain ⟨q, q1, q2⟩ := uB (gO ht) i (by omega) (t.eqc.getD i 0) (by omega) (by omega)
        have hfq : t.f (q : Int) = t.f (i : Int) := by rw [hfi, ← q2]; unfold Mly.f; rw [ah]
        have hrow : (t.row i).map t.f = (t.row q).map t.f := by
          rw [← oX ht (by omega) (by omega), ← oX ht (by omega) (by omega), hfq]
        have hin : ((t.row i).map t.f).foldl bY (dd t.f L) = dd t.f L := tI _ _ fun y hy => by
          rw [hrow, List.mem_map] at hy
          obtain ⟨x, hx, rfl⟩ := hy
          exact wG.2 ⟨x, hcl q q1 x hx, rfl⟩
        rw [hfold] at hin
        rw [← hin, ← ec]
        exact zt ht hr g (i + 1) _ (by omega) hrf hp2 hL2 (by omega) hcl2 F (by omega)
    · have hie : i = L.length := by omega
      rw [fI t _ _ _ (by omega)] at hrf
      rw [fI t.qm _ _ _ (by rw [hdd, d5, hie]; exact Nat.le_refl _), ← hrf]
theorem BA {t : Mly} (ht : MOK t) (hs : t.st = 0) (hr : t.reach = rgI t.nx.length) : CAN t.qm := by
  have hlen := (fo ht).len
  have hn1 := ht.n1
  have hK := (gG ht).len
  refine ⟨zj ht, rfl, ?_, BO ht⟩
  have h0 := gO ht 0 (by omega)
  simp only [iv, Bool.or_eq_false_iff, decide_eq_false_iff_not] at h0
  have hz0 : cN t.eqc 0 = 0 := rfl
  have hf0 : t.f 0 = 0 := by unfold Mly.f; show t.eqc.getD 0 0 = 0; omega
  have hd0 : dd t.f [0] = [0] := by show bY [] (t.f 0) = _; rw [hf0]; rfl
  have hrf : t.rf (t.nx.length + 1) 0 [0] = t.reach := by rw [dS (dq ht), hs]
  have := zt ht hr (t.nx.length + 1) 0 [0] (by omega) hrf rfl (by simpa using hn1) (by simp) (fun j hj => by omega) (t.reps.length + 1) (by simp only [cN]; omega)
  rw [hd0] at this
  rw [dS (dq (zj ht)), oD]
  show t.qm.rf (t.reps.length + 1) 0 [0] = _
  rw [show (cN t.eqc 0).toNat = 0 from rfl] at this
  rw [this, hr, sH ht _ (Nat.le_refl _)]
  congr 1
  unfold Mly.reps; omega
def Mly.minm (m : Mly) : Mly := m.T.qm
theorem ui {m : Mly} (hm : MOK m) : CAN m.minm := BA (ss hm) rfl (by rw [ym hm, sY]; rfl)
theorem og {m : Mly} (hm : MOK m) (w : List Int) (hw : ∀ i : Nat, i < w.length → 0 ≤ w.getD i 0 ∧ w.getD i 0 < m.inp) : (m.minm.go 0 w).2 = (m.go m.st w).2 := by
  have ht := ss hm
  have hn := ht.n1
  have hlen := (fo ht).len
  have h0 := gO ht 0 (by omega)
  simp only [iv, Bool.or_eq_false_iff, decide_eq_false_iff_not] at h0
  have hz0 : cN m.T.eqc 0 = 0 := rfl
  have hf0 : m.T.f 0 = 0 := by unfold Mly.f; show m.T.eqc.getD 0 0 = 0; omega
  have h1 := wB ht w 0 (by omega) (by omega) hw
  rw [hf0] at h1
  obtain ⟨k, hk⟩ := iQ hm
  have h2 := (tK hm (s := m.st) (by rw [hk]; simp) w hw).2.2
  rw [yn hm] at h2
  exact h1.trans h2
theorem Ah {a b : Mly} (ha : MOK a) (hb : MOK b) (hi : a.inp = b.inp) : EQ2 a b a.st b.st ↔ EQ2 a.minm b.minm 0 0 := by
  constructor
  · intro h w hw
    rw [og ha w hw, og hb w (by rw [← hi]; exact hw)]; exact h w hw
  · intro h w hw
    rw [← og ha w hw, ← og hb w (by rw [← hi]; exact hw)]; exact h w hw
theorem y5 {a b : Mly} (ha : MOK a) (hb : MOK b) (hi : a.inp = b.inp) : EQ2 a b a.st b.st ↔ a.minm = b.minm := by
  rw [Ah ha hb hi]
  constructor
  · intro h
    obtain ⟨e1, e2⟩ := Ad (ui ha) (ui hb) hi h
    show (⟨a.inp, 0, a.minm.nx, a.minm.ot⟩ : Mly) = ⟨b.inp, 0, b.minm.nx, b.minm.ot⟩
    rw [hi, e1, e2]
  · intro h w _
    rw [h]
/-plain-/
def Mly.qN (t : Mly) (k : Nat) : List (List Int) := (dQ t.eqc k).map fun s => (t.nx.getD s []).map t.f
def Mly.qO (t : Mly) (k : Nat) : List (List Int) := (dQ t.eqc k).map fun s => t.ot.getD s []
theorem AH (t : Mly) (k : Nat) : (t.qN k).length = (dQ t.eqc k).length := by simp [Mly.qN]
theorem AI (t : Mly) (k : Nat) : (t.qO k).length = (dQ t.eqc k).length := by simp [Mly.qO]
theorem oz {t : Mly} {k : Nat} (h : t.eqc.getD k 0 = cN t.eqc k) : t.qN (k + 1) = t.qN k ++ [(t.nx.getD k []).map t.f] ∧ t.qO (k + 1) = t.qO k ++ [t.ot.getD k []] := by
  unfold Mly.qN Mly.qO; rw [mN h, List.map_append, List.map_append]; exact ⟨rfl, rfl⟩
theorem oa {t : Mly} {k : Nat} (h : ¬ t.eqc.getD k 0 = cN t.eqc k) : t.qN (k + 1) = t.qN k ∧ t.qO (k + 1) = t.qO k := by
  unfold Mly.qN Mly.qO; rw [mQ h]; exact ⟨rfl, rfl⟩
def Mly.mres (m : Mly) : Mly := if aS m = 0 then m.minm else ⟨0, 0, [], []⟩
theorem mI {m : Mly} (h : ¬ aS m = 0) : m.mres = ⟨0, 0, [], []⟩ := if_neg h
theorem uX {m : Mly} (h : aS m = 0) : m.mres = m.trim.qm := by unfold Mly.mres; rw [if_pos h, wT h]; rfl
theorem zb (c : List Int) (k : Nat) : (dQ c k).length ≤ k := by
  unfold dQ; exact Nat.le_trans (List.length_filter_le _ _) (by simp)
/-plain-/
def mnB (m : Mly) : Bool := decide (aS m = 0) && (decide (m.reach.length = m.nx.length) && decide (m.mres.nx.length = m.nx.length))
def dL (m : Mly) : Int := if ¬ aS m = 0 then aS m else if mnB m = true then 0 else 1
theorem Bv {m : Mly} (h : ¬ aS m = 0 ∨ ¬ m.reach.length = m.nx.length) : mnB m = false := by
  unfold mnB
  rcases h with h | h
  · rw [decide_eq_false h]; rfl
  · rw [decide_eq_false h]; simp
theorem Bl {m : Mly} (h : aS m = 0) (h2 : m.reach.length = m.nx.length) : mnB m = decide (m.mres.nx.length = m.nx.length) := by
  unfold mnB; rw [decide_eq_true h, decide_eq_true h2]; rfl
/-plain-/
def smB (m : Mly) (cl : List Int) (s t a : Nat) : Prop := cl.getD s 0 = cl.getD t 0 ∧ ∀ b : Nat, b < a → (m.ot.getD s []).getD b 0 = (m.ot.getD t []).getD b 0 ∧ cl.getD ((m.nx.getD s []).getD b 0).toNat 0 = cl.getD ((m.nx.getD t []).getD b 0).toNat 0
theorem xO {m : Mly} {cl : List Int} {s t a : Nat} (h : smB m cl s t a) : smB m cl s t (a + 1) ↔ ((m.ot.getD s []).getD a 0 = (m.ot.getD t []).getD a 0 ∧ cl.getD ((m.nx.getD s []).getD a 0).toNat 0 = cl.getD ((m.nx.getD t []).getD a 0).toNat 0) := by
  constructor
  · intro h2; exact h2.2 a (by omega)
  · intro h2
    refine ⟨h.1, fun b hb => ?_⟩
    by_cases e : b = a
    · rw [e]; exact h2
    · exact h.2 b (by omega)
theorem yJ {m : Mly} (hm : MOK m) {i s t : Nat} (hs : s < m.nx.length) (ht : t < m.nx.length) : smB m (m.cls i) s t m.inp.toNat ↔ m.sig (m.cls i) s = m.sig (m.cls i) t := by
  constructor
  · intro h; exact (kf hm).2 fun a ha => h.2 a (by omega)
  · intro h
    have h1 := (kf hm).1 h
    refine ⟨?_, fun b hb => h1 b (by omega)⟩
    exact iH hm i s t hs ht ((gu hs ht).2 h)
theorem yg {m : Mly} {cl : List Int} {s t a b : Nat} (hab : a ≤ b) (h : ¬ smB m cl s t a) : ¬ smB m cl s t b := fun h2 => h ⟨h2.1, fun c hc => h2.2 c (by omega)⟩
def fnF (m : Mly) (cl : List Int) (s k : Nat) (fd : Int) : Prop := (fd = -1 ∧ ∀ t, k ≤ t → t < s → m.sig cl s ≠ m.sig cl t) ∨ (fd = (m.nextL cl).getD s 0 ∧ ∃ t, k ≤ t ∧ t < s ∧ m.sig cl s = m.sig cl t)
theorem AM {m : Mly} {cl : List Int} {s k : Nat} (hs : s < m.nx.length) (hk : k < s) (h : m.sig cl s = m.sig cl k) : fnF m cl s k ((m.nextL cl).getD k 0) :=
  .inr ⟨((gu hs (by omega)).2 h).symm, k, Nat.le_refl _, hk, h⟩
theorem BE {m : Mly} {cl : List Int} {s k : Nat} {fd : Int} (h : fnF m cl s (k + 1) fd) (h2 : ¬ m.sig cl s = m.sig cl k) : fnF m cl s k fd := by
  rcases h with ⟨h3, h4⟩ | ⟨h3, t, h4, h5, h6⟩
  · refine .inl ⟨h3, fun t ht1 ht2 => ?_⟩
    by_cases e : t = k
    · rw [e]; exact h2
    · exact h4 t (by omega) ht2
  · exact .inr ⟨h3, t, by omega, h5, h6⟩
theorem Al {m : Mly} {cl : List Int} {s : Nat} {fd : Int} (hs : s < m.nx.length) (h : fnF m cl s 0 fd) (h2 : fd < 0) : (m.nextL cl).getD s 0 = ((d6 (m.sig cl) s).length : Int) ∧ (d6 (m.sig cl) (s + 1)).length = (d6 (m.sig cl) s).length + 1 := by
  rcases h with ⟨h3, h4⟩ | ⟨h3, _⟩
  · have hn : m.sig cl s ∉ d6 (m.sig cl) s := fun hx => by
      obtain ⟨t, ht, e⟩ := fV.1 hx
      exact h4 t (Nat.zero_le _) ht e.symm
    refine ⟨by rw [iG hs, kE hs hn], by rw [dC, fm hn, ar]; rfl⟩
  · have := (jc (m := m) (cl := cl) hs).1; omega
theorem AK {m : Mly} {cl : List Int} {s : Nat} {fd : Int} (h : fnF m cl s 0 fd) (h2 : ¬ fd < 0) : (m.nextL cl).getD s 0 = fd ∧ (d6 (m.sig cl) (s + 1)).length = (d6 (m.sig cl) s).length := by
  rcases h with ⟨h3, _⟩ | ⟨h3, t, _, h5, h6⟩
  · omega
  · refine ⟨h3.symm, by rw [dC, gg (fV.2 ⟨t, h5, h6.symm⟩)]⟩
theorem qw {l : List Int} {k j : Nat} (h : j < k) : (l.take k).getD j 0 = l.getD j 0 := by
  simp [List.getD, List.getElem?_take_of_lt h]
/-plain-/
abbrev C1 := List (List Int)
theorem lx {l r : List Int} {i : Nat} (h : i < l.length) : (l ++ r).getD i 0 = l.getD i 0 := by simp [List.getD, List.getElem?_append_left h]
def cAt (m : Mly) (t : Int) : Int := (m.cls m.nx.length).getD t.toNat 0
def nmC (m : Mly) : Nat → List Int → Int → Int
  | _, [], _ => -1
  | i, o :: O, c => if cAt m o = c then (i : Int) else nmC m (i + 1) O c
def nmO (m : Mly) (O : List Int) (c : Int) : Int := nmC m 0 O c
def gk (m : Mly) (O : List Int) : List Int := (List.range m.nx.length).map fun (c : Nat) => nmO m O c
theorem mg {m : Mly} {c : Int} : ∀ (O : List Int) (i : Nat), (nmC m i O c = -1 ∧ ∀ o ∈ O, cAt m o ≠ c) ∨ ((i : Int) ≤ nmC m i O c ∧ nmC m i O c < i + O.length ∧ ∃ o ∈ O, cAt m o = c)
  | [], i => .inl ⟨rfl, fun o h => by cases h⟩
  | o :: O, i => by
    by_cases e : cAt m o = c
    · have : nmC m i (o :: O) c = i := if_pos e
      rw [this]
      exact .inr ⟨by omega, by simp only [aw]; omega, o, aR .., e⟩
    · have : nmC m i (o :: O) c = nmC m (i + 1) O c := if_neg e
      rw [this]
      rcases mg (c := c) O (i + 1) with ⟨h1, h2⟩ | ⟨h1, h2, o2, h3, h4⟩
      · exact .inl ⟨h1, fun o' ho => Or.elim (List.mem_cons.1 ho) (fun h9 => h9 ▸ e) (fun h9 => h2 o' h9)⟩
      · exact .inr ⟨by omega, by simp only [aw]; omega, o2, aJ _ h3, h4⟩
theorem uY {m : Mly} {c t : Int} : ∀ (O : List Int) (i : Nat), nmC m i (O ++ [t]) c = if nmC m i O c = -1 then (if cAt m t = c then ((i + O.length : Nat) : Int) else -1) else nmC m i O c
  | [], i => by show (if _ then _ else _) = _; simp [nmC]
  | o :: O, i => by
    by_cases e : cAt m o = c
    · have h1 : nmC m i (o :: O) c = i := if_pos e
      have h2 : nmC m i (o :: O ++ [t]) c = i := if_pos e
      rw [h1, h2, if_neg (by omega)]
    · have h1 : nmC m i (o :: O) c = nmC m (i + 1) O c := if_neg e
      have h2 : nmC m i (o :: O ++ [t]) c = nmC m (i + 1) (O ++ [t]) c := if_neg e
      rw [h1, h2, uY O (i + 1), aw, show i + 1 + O.length = i + (O.length + 1) by omega]
theorem bu (m : Mly) (O : List Int) : (gk m O).length = m.nx.length := by simp [gk]
theorem y0 {m : Mly} {O : List Int} {c : Nat} (h : c < m.nx.length) : (gk m O).getD c 0 = nmO m O c := by unfold gk; simp [List.getD, h]
theorem qI {m : Mly} {O : List Int} {t : Int} {c : Nat} (h : c < m.nx.length) (hc : cAt m t = c) (hn : nmO m O c < 0) : (gk m O).set c (O.length : Int) = gk m (O ++ [t]) := by
  have hn1 : nmO m O c = -1 := by
    rcases mg (m := m) (c := (c : Int)) O 0 with ⟨h1, _⟩ | ⟨h1, _⟩
    · exact h1
    · unfold nmO at hn; omega
  apply List.ext_getElem
  · simp [gk]
  · intro i h1 h2
    have hi : i < m.nx.length := by simpa [gk] using h2
    rw [List.getElem_set]
    unfold gk nmO
    simp only [List.getElem_map, List.getElem_range, uY]
    by_cases e : c = i
    · subst e
      have hn2 : nmC m 0 O (c : Int) = -1 := hn1
      rw [if_pos rfl, if_pos hn2, if_pos hc]; simp
    · rw [if_neg e]
      by_cases e2 : nmC m 0 O (i : Int) = -1
      · rw [if_pos e2, if_neg (by rw [hc]; omega)]; exact e2
      · rw [if_neg e2]
theorem xY (m : Mly) : gk m [] = List.replicate m.nx.length (-1) := by
  unfold gk nmO nmC; simp [List.map_const']
def mmA (m : Mly) (O : List Int) (t : Int) : List Int := if nmO m O (cAt m t) < 0 then O ++ [t] else O
def rY (m : Mly) (x : Int) (p : List Int × List Int) (a : Nat) : List Int × List Int := (mmA m p.1 (m.nxt x a), p.2 ++ [nmO m (mmA m p.1 (m.nxt x a)) (cAt m (m.nxt x a))])
def cP (m : Mly) (x : Int) (O : List Int) (k : Nat) : List Int × List Int := (List.range k).foldl (rY m x) (O, [])
theorem fO {m : Mly} {x : Int} {O : List Int} {k : Nat} : cP m x O (k + 1) = rY m x (cP m x O k) k := by unfold cP; rw [List.range_succ, List.foldl_append]; rfl
def nB (m : Mly) : Nat → Nat → List Int × List (List Int) → List Int × List (List Int)
  | 0, _, p => p
  | f + 1, i, p => if i < p.1.length then nB m f (i + 1) ((cP m (p.1.getD i 0) p.1 m.inp.toNat).1, p.2 ++ [(cP m (p.1.getD i 0) p.1 m.inp.toNat).2]) else p
def mmF (m : Mly) : List Int × List (List Int) := nB m (m.nx.length + 1) 0 ([m.st], [])
theorem p5 {m : Mly} {f i : Nat} {p : List Int × List (List Int)} (h : i < p.1.length) : nB m (f + 1) i p = nB m f (i + 1) ((cP m (p.1.getD i 0) p.1 m.inp.toNat).1, p.2 ++ [(cP m (p.1.getD i 0) p.1 m.inp.toNat).2]) := if_pos h
theorem sd {m : Mly} {f i : Nat} {p : List Int × List (List Int)} (h : ¬ i < p.1.length) : nB m f i p = p := by
  cases f with
  | zero => rfl
  | succ f => exact if_neg h
structure MO (m : Mly) (O : List Int) : Prop where
  rng : ∀ o ∈ O, 0 ≤ o ∧ o < m.nx.length
  cd : O.Pairwise fun x y => cAt m x ≠ cAt m y
theorem MO.nd {m : Mly} {O : List Int} (h : MO m O) : O.Nodup := h.cd.imp fun h e => h (by rw [e])
theorem MO.len {m : Mly} {O : List Int} (h : MO m O) : O.length ≤ m.nx.length := eM _ _ h.nd h.rng
theorem B6 {m : Mly} {O : List Int} {t : Int} (h : MO m O) (ht : 0 ≤ t ∧ t < m.nx.length) : MO m (mmA m O t) := by
  unfold mmA
  split
  · rename_i hn
    refine ⟨fun o ho => ?_, ?_⟩
    · rcases List.mem_append.1 ho with h1 | h1
      · exact h.rng o h1
      · rw [List.mem_singleton] at h1; rw [h1]; exact ht
    · rw [List.pairwise_append]
      refine ⟨h.cd, List.pairwise_singleton _ _, fun x hx y hy => ?_⟩
      rw [List.mem_singleton] at hy; subst hy
      rcases mg (m := m) (c := cAt m y) O 0 with ⟨_, h2⟩ | ⟨h2, _⟩
      · exact h2 x hx
      · unfold nmO at hn; omega
  · exact h
theorem kq {m : Mly} (hm : MOK m) {x : Int} (hx : 0 ≤ x ∧ x < m.nx.length) {O : List Int} (h : MO m O) : ∀ k : Nat, (k : Int) ≤ m.inp → MO m (cP m x O k).1 ∧ (cP m x O k).2.length = k ∧ ∃ r, (cP m x O k).1 = O ++ r
  | 0, _ => ⟨h, rfl, [], (List.append_nil _).symm⟩
  | k + 1, hk => by
    obtain ⟨h1, h2, r, h3⟩ := kq hm hx h k (by omega)
    rw [fO]
    refine ⟨B6 h1 (hm.nr x.toNat k (by omega) (by omega)), by show (_ ++ [_]).length = _; rw [ar, h2]; rfl, ?_⟩
    show ∃ r, mmA m (cP m x O k).1 _ = O ++ r
    unfold mmA
    split
    · exact ⟨r ++ [m.nxt x k], by rw [h3, List.append_assoc]⟩
    · exact ⟨r, h3⟩
theorem uh {m : Mly} (hm : MOK m) {t : Int} (ht : 0 ≤ t ∧ t < m.nx.length) : 0 ≤ cAt m t ∧ cAt m t < m.nx.length := pF hm _ _ (by omega)
/-plain-/
def mmB (m : Mly) : Bool := decide (aS m = 0) && decide ((mmF m).2.length = m.nx.length)
def jh (m : Mly) : Int := if ¬ aS m = 0 then aS m else if mmB m = true then 0 else 1
/-plain-/
def cmL (x : ba) : Bool := !(decide (x.2.1 = -1) && !decide (x.1.length = 1))
def jT (T : List ba) : Bool := T.all cmL && decide (0 < T.length)
def f0 (m : Mly) (T : List ba) : Int := if ¬ dL m = 0 then dL m else if 4096 < T.length ∨ ¬ rtF m T (T.length + 1) 0 (rgI m.nx.length) (rgI m.nx.length) = some T.length then 1 else 0
theorem kA (m : Mly) : d7 m (rgI m.nx.length) := by
  intro s hs
  unfold rgI at hs
  obtain ⟨q, hq, rfl⟩ := List.mem_map.1 hs
  have := List.mem_range.1 hq
  omega
/-plain-/
/-plain-/
theorem br (n : Nat) : (List.range n).map (fun (i : Nat) => (i : Int)) = rgI n := rfl
theorem qn {m : Mly} (h : dL m = 0) : aS m = 0 := by
  unfold dL at h
  by_cases hv : aS m = 0
  · exact hv
  · rw [if_pos hv] at h; exact absurd h hv
theorem Ax {m : Mly} {T : List ba} {f p : Nat} {ini cur : List Int} (h : (rtF m T f p ini cur).isSome = false ∨ ¬ rtP m T f p ini cur = (T.length : Int)) : ¬ rtF m T f p ini cur = some T.length := by
  intro e
  rcases h with h | h
  · rw [e] at h; cases h
  · exact h (dh e)
theorem yu {m : Mly} {T : List ba} {f p : Nat} {ini cur : List Int} (h : (rtF m T f p ini cur).isSome = true ∧ rtP m T f p ini cur = (T.length : Int)) : rtF m T f p ini cur = some T.length := by
  obtain ⟨n, e⟩ := Option.isSome_iff_exists.1 h.1
  have h2 := h.2
  rw [dh e] at h2
  rw [e]; congr 1; omega
/-plain-/
structure MIN12 (m : Mly) : Prop where
  rc : ∀ s : Int, 0 ≤ s → s < m.nx.length → s ∈ m.reach
  ds : ∀ s t : Int, 0 ≤ s → s < m.nx.length → 0 ≤ t → t < m.nx.length → EQV m s t → s = t
theorem oe (n : Nat) : (rgI n).Nodup := List.pairwise_map.2 (List.nodup_range.imp fun {a b} h e => h (by omega))
theorem uU {n : Nat} {l : List Int} (hn : l.Nodup) (hr : ∀ x, x ∈ l → 0 ≤ x ∧ x < n) (hl : l.length = n) {s : Int} (h0 : 0 ≤ s) (h1 : s < n) : s ∈ l := by
  by_cases e : s ∈ l
  · exact e
  · exfalso
    have := eM n (s :: l) (List.nodup_cons.2 ⟨e, hn⟩) (fun x hx => by
      rcases List.mem_cons.1 hx with h | h
      · rw [h]; exact ⟨h0, h1⟩
      · exact hr x h)
    simp only [aw] at this
    omega
theorem rZ {n : Nat} {l : List Int} (h : ∀ s : Int, 0 ≤ s → s < n → s ∈ l) : n ≤ l.length := by
  have h1 := oe n
  have h2 := eu (rgI n) l h1 fun x hx => by
    unfold rgI at hx
    obtain ⟨q, hq, rfl⟩ := List.mem_map.1 hx
    have := List.mem_range.1 hq
    exact h _ (by omega) (by omega)
  rw [d5] at h2; exact h2
theorem yQ (t : Mly) : t.reps.length ≤ t.nx.length := by
  unfold Mly.reps dQ
  exact Nat.le_trans (List.length_filter_le _ _) (by simp)
theorem B9 {t : Mly} (ht : MOK t) (h : t.reps.length = t.nx.length) {s : Int} (h0 : 0 ≤ s) (h1 : s < t.nx.length) : t.f s = s := by
  have e : t.reps = List.range t.nx.length := by
    unfold Mly.reps dQ at h ⊢
    refine List.filter_eq_self.2 ?_
    refine List.length_filter_eq_length_iff.1 ?_
    rw [h]; simp
  have h2 := ((gG ht).at_ s.toNat (by
    have : (dQ t.eqc t.nx.length).length = t.nx.length := h
    omega)).2
  have h3 : (dQ t.eqc t.nx.length).getD s.toNat 0 = s.toNat := by
    have : dQ t.eqc t.nx.length = List.range t.nx.length := e
    rw [this]
    simp [List.getD, show s.toNat < t.nx.length by omega]
  rw [h3] at h2
  show t.eqc.getD s.toNat 0 = s
  rw [h2]; omega
theorem yS {m : Mly} (hv : aS m = 0) : mnB m = true ↔ MIN12 m := by
  have hm := eI hv
  have ht := ss hm
  have hT : m.T.nx.length = m.reach.length := sY m
  have hR := fT hm
  have hmr : m.mres.nx.length = m.T.reps.length := by unfold Mly.mres; rw [if_pos hv]; exact oD m.T
  unfold mnB
  rw [decide_eq_true hv, Bool.true_and, Bool.and_eq_true, decide_eq_true_eq, decide_eq_true_eq, hmr]
  constructor
  · rintro ⟨h1, h2⟩
    have hrc : ∀ s : Int, 0 ≤ s → s < m.nx.length → s ∈ m.reach := fun s h0 h3 => uU hR.nd hR.rng h1 h0 h3
    refine ⟨hrc, fun s t s0 s1 t0 t1 he => ?_⟩
    have hs := hrc s s0 s1
    have htt := hrc t t0 t1
    have x1 := m6 hm hs
    have x2 := m6 hm htt
    have he2 : EQV m.T (m.ix s) (m.ix t) := fun w hw => by
      rw [(tK hm hs w hw).2.2, (tK hm htt w hw).2.2]; exact he w hw
    have h3 := (lX ht (by omega) (by omega) (by omega) (by omega)).2 he2
    have f1 := B9 ht (by omega) (s := m.ix s) (by omega) (by omega)
    have f2 := B9 ht (by omega) (s := m.ix t) (by omega) (by omega)
    exact wU hm hs htt (by
      rw [← f1, ← f2]; exact h3)
  · intro h
    have h1 : m.reach.length = m.nx.length := Nat.le_antisymm hR.len (rZ h.rc)
    refine ⟨h1, ?_⟩
    have hle := yQ m.T
    refine Nat.le_antisymm (by omega) ?_
    have hnd : ((rgI m.nx.length).map m.T.f).Nodup := by
      have h0 := oe m.nx.length
      refine List.pairwise_map.2 (List.Pairwise.imp_of_mem (fun {a b} ha hb hne e => hne ?_) h0)
      have ra := gZ.1 ha
      have rb := gZ.1 hb
      have he := (lX ht (s := a) (t := b) (by omega) (by omega) (by omega) (by omega)).1 e
      have ga : m.reach.getD a.toNat 0 ∈ m.reach := bh (by omega)
      have gb : m.reach.getD b.toNat 0 ∈ m.reach := bh (by omega)
      have ia := ng hm (i := a.toNat) (by omega)
      have ib := ng hm (i := b.toNat) (by omega)
      have he2 : EQV m (m.reach.getD a.toNat 0) (m.reach.getD b.toNat 0) := fun w hw => by
        rw [← (tK hm ga w hw).2.2, ← (tK hm gb w hw).2.2, ia, ib]
        rw [show ((a.toNat : Nat) : Int) = a by omega, show ((b.toNat : Nat) : Int) = b by omega]
        exact he w hw
      have r1 := hR.rng _ ga
      have r2 := hR.rng _ gb
      have := h.ds _ _ r1.1 r1.2 r2.1 r2.2 he2
      have := gP hR.nd (by omega) (by omega) this
      omega
    have := eM m.T.reps.length _ hnd (fun x hx => by
      obtain ⟨y, hy, rfl⟩ := List.mem_map.1 hx
      have ry := gZ.1 hy
      exact mW ht (by omega) (by omega))
    rw [aD, d5] at this
    exact this
theorem x3 {m : Mly} {P : Int → Prop} (hc : ∀ x, P x → ∀ y, y ∈ m.row x → P y) : ∀ (f i : Nat) (l : List Int), (∀ x, x ∈ l → P x) → ∀ x, x ∈ m.rf f i l → P x
  | 0, _, _, h => h
  | f + 1, i, l, h => by
    intro x hx
    rw [Mly.rf] at hx
    split at hx
    · rename_i hi
      refine x3 hc f (i + 1) _ (fun y hy => ?_) x hx
      rcases gp.1 hy with h1 | h1
      · exact h y h1
      · exact hc _ (h _ (bh hi)) y h1
    · exact h x hx
theorem qX {m : Mly} (hm : MOK m) {s t : Nat} (hs : s < m.nx.length) (ht : t < m.nx.length) : ∀ (d j : Nat), (m.cls (j + d)).getD s 0 = (m.cls (j + d)).getD t 0 → (m.cls j).getD s 0 = (m.cls j).getD t 0
  | 0, _, h => h
  | d + 1, j, h => qX hm hs ht d j (iH hm (j + d) s t hs ht h)
theorem tV {m : Mly} (hm : MOK m) {s t : Int} (s0 : 0 ≤ s) (s1 : s < m.nx.length) (t0 : 0 ≤ t) (t1 : t < m.nx.length) : cAt m s = cAt m t ↔ EQV m s t := by
  constructor
  · intro h
    refine (lX hm s0 s1 t0 t1).1 ?_
    obtain ⟨j, h1, h2, _⟩ := kt hm
    rw [h1]
    refine qX hm (by omega) (by omega) (m.nx.length - j) j ?_
    rw [show j + (m.nx.length - j) = m.nx.length by omega]
    exact h
  · intro h
    exact pw hm m.nx.length s.toNat t.toNat (by omega) (by omega) (by rw [Int.toNat_of_nonneg s0, Int.toNat_of_nonneg t0]; exact h)
theorem z3 {m : Mly} (O : List Int) (t : Int) : ∃ o, o ∈ mmA m O t ∧ cAt m o = cAt m t := by
  unfold mmA
  split
  · exact ⟨t, by simp, rfl⟩
  · rename_i hn
    rcases mg (m := m) (c := cAt m t) O 0 with ⟨h1, _⟩ | ⟨_, _, o, h2, h3⟩
    · unfold nmO at hn; omega
    · exact ⟨o, h2, h3⟩
theorem yL {m : Mly} {O : List Int} {t x : Int} (h : x ∈ mmA m O t) : x ∈ O ∨ x = t := by
  unfold mmA at h
  split at h
  · rcases List.mem_append.1 h with h | h
    · exact .inl h
    · exact .inr (List.mem_singleton.1 h)
  · exact .inl h
theorem uf {m : Mly} {O : List Int} {t x : Int} (h : x ∈ O) : x ∈ mmA m O t := by
  unfold mmA; split
  · exact List.mem_append_left _ h
  · exact h
theorem z6 {m : Mly} (hm : MOK m) {x : Int} (hx : 0 ≤ x ∧ x < m.nx.length) {a : Nat} (ha : (a : Int) < m.inp) : m.nxt x a ∈ m.row x := by
  have := hm.rl x.toNat (by omega)
  exact bh (by unfold Mly.row; omega)
theorem qE {m : Mly} (hm : MOK m) {x : Int} (hx : 0 ≤ x ∧ x < m.nx.length) (hr : x ∈ m.reach) {O : List Int} (hO : ∀ o ∈ O, o ∈ m.reach) : ∀ k : Nat, (k : Int) ≤ m.inp →
    (∀ o ∈ (cP m x O k).1, o ∈ m.reach) ∧ (∀ o ∈ O, o ∈ (cP m x O k).1) ∧ ∀ a : Nat, a < k → ∃ o, o ∈ (cP m x O k).1 ∧ cAt m o = cAt m (m.nxt x a)
  | 0, _ => ⟨hO, fun o h => h, fun a h => by omega⟩
  | k + 1, hk => by
    obtain ⟨h1, h2, h3⟩ := qE hm hx hr hO k (by omega)
    rw [fO]
    refine ⟨fun o ho => ?_, fun o ho => uf (h2 o ho), fun a ha => ?_⟩
    · rcases yL ho with h | h
      · exact h1 o h
      · rw [h]; exact fC hm hr (z6 hm hx (by omega))
    · by_cases e : a = k
      · rw [e]; exact z3 _ _
      · obtain ⟨o, h4, h5⟩ := h3 a (by omega)
        exact ⟨o, uf h4, h5⟩
structure MMI (m : Mly) (i : Nat) (p : List Int × List (List Int)) : Prop where
  mo : MO m p.1
  rc : ∀ o ∈ p.1, o ∈ m.reach
  st : m.st ∈ p.1
  ln : p.2.length = i
  le : i ≤ p.1.length
  cl : ∀ j, j < i → ∀ a : Nat, (a : Int) < m.inp → ∃ o, o ∈ p.1 ∧ cAt m o = cAt m (m.nxt (p.1.getD j 0) a)
theorem sq {m : Mly} (hm : MOK m) : ∀ (f i : Nat) (p : List Int × List (List Int)), m.nx.length < f + i → MMI m i p → MMI m (nB m f i p).1.length (nB m f i p)
  | 0, i, p, h, hI => by
    have := hI.mo.len; have := hI.le; omega
  | f + 1, i, p, h, hI => by
    by_cases e : i < p.1.length
    · rw [p5 e]
      have hx := hI.mo.rng _ (bh e)
      have hi := hm.i1
      obtain ⟨r1, r2, r, r3⟩ := kq hm hx hI.mo m.inp.toNat (by omega)
      obtain ⟨s1, s2, s3⟩ := qE hm hx (hI.rc _ (bh e)) hI.rc m.inp.toNat (by omega)
      refine sq hm f (i + 1) _ (by omega) ⟨r1, s1, s2 _ hI.st, by simp [hI.ln], ?_, fun j hj a ha => ?_⟩
      · show i + 1 ≤ (cP m (p.1.getD i 0) p.1 m.inp.toNat).1.length
        rw [r3, ar]; omega
      · have hg : (cP m (p.1.getD i 0) p.1 m.inp.toNat).1.getD j 0 = p.1.getD j 0 := by rw [r3, lx (by omega)]
        show ∃ o, o ∈ (cP m (p.1.getD i 0) p.1 m.inp.toNat).1 ∧ cAt m o = cAt m (m.nxt ((cP m (p.1.getD i 0) p.1 m.inp.toNat).1.getD j 0) a)
        rw [hg]
        by_cases e2 : j = i
        · rw [e2]; exact s3 a (by omega)
        · obtain ⟨o, h1, h2⟩ := hI.cl j (by omega) a ha
          exact ⟨o, s2 o h1, h2⟩
    · rw [sd e]
      have : i = p.1.length := by have := hI.le; omega
      rw [← this]; exact hI
theorem yh {m : Mly} (hm : MOK m) : MMI m (mmF m).1.length (mmF m) := by
  have hs1 := hm.s1; have hs2 := hm.s2
  refine sq hm _ _ _ (by omega) ⟨⟨fun o ho => ?_, List.pairwise_singleton _ _⟩, fun o ho => ?_, by simp, rfl, Nat.zero_le _, fun j hj => by omega⟩
  · rw [List.mem_singleton] at ho; rw [ho]; exact ⟨hs1, hs2⟩
  · rw [List.mem_singleton] at ho; rw [ho]
    obtain ⟨k, hk⟩ := iQ hm
    rw [hk]; exact aR ..
theorem z4 {m : Mly} (hv : aS m = 0) : mmB m = true ↔ MIN12 m := by
  have hm := eI hv
  have hI := yh hm
  unfold mmB
  rw [decide_eq_true hv, Bool.true_and, decide_eq_true_eq, hI.ln]
  constructor
  · intro h1
    have hall : ∀ s : Int, 0 ≤ s → s < m.nx.length → s ∈ (mmF m).1 := fun s h0 h2 => uU hI.mo.nd hI.mo.rng h1 h0 h2
    refine ⟨fun s h0 h2 => hI.rc s (hall s h0 h2), fun s t s0 s1 t0 t1 he => ?_⟩
    have hc := (tV hm s0 s1 t0 t1).2 he
    obtain ⟨i, hi, ei⟩ := fF (hall s s0 s1)
    obtain ⟨j, hj, ej⟩ := fF (hall t t0 t1)
    have gi : (mmF m).1.getD i 0 = (mmF m).1[i] := by simp [List.getD, hi]
    have gj : (mmF m).1.getD j 0 = (mmF m).1[j] := by simp [List.getD, hj]
    rcases Nat.lt_trichotomy i j with h | h | h
    · exact absurd (by rw [← gi, ← gj, ei, ej]; exact hc) (List.pairwise_iff_getElem.1 hI.mo.cd i j hi hj h)
    · subst h; rw [← ei, ← ej]
    · exact absurd (by rw [← gi, ← gj, ei, ej]; exact hc.symm) (List.pairwise_iff_getElem.1 hI.mo.cd j i hj hi h)
  · intro h
    refine Nat.le_antisymm hI.mo.len (rZ fun s h0 h1 => ?_)
    have hs := h.rc s h0 h1
    rw [dS hv] at hs
    refine x3 (P := fun x => x ∈ (mmF m).1) (fun x hx y hy => ?_) _ _ _ (fun x hx => ?_) s hs
    · obtain ⟨j, hj, ej⟩ := fF hx
      have rx := hI.mo.rng x hx
      obtain ⟨a, ha, ea⟩ := fF hy
      have hrl := hm.rl x.toNat (by omega)
      obtain ⟨o, o1, o2⟩ := hI.cl j hj a (by unfold Mly.row at ha; omega)
      rw [ej] at o2
      have ro := hI.mo.rng o o1
      have e2 : m.nxt x a = y := by rw [← ea]; rfl
      rw [e2] at o2
      have ry := gQ hm (s := x) (by omega) (by omega) y hy
      have := h.ds _ _ ro.1 ro.2 ry.1 ry.2 ((tV hm ro.1 ro.2 ry.1 ry.2).1 o2)
      rw [← this]; exact o1
    · rw [List.mem_singleton] at hx; rw [hx]; exact hI.st
theorem zK {m : Mly} : mnB m = mmB m := by
  by_cases hv : aS m = 0
  · rw [Bool.eq_iff_iff, yS hv, z4 hv]
  · unfold mnB mmB; rw [decide_eq_false hv]; rfl
theorem yI (m : Mly) : dL m = jh m := by unfold dL jh; rw [zK]
/-plain-/
theorem jb {xs : List Int} {j : Nat} (h : j < xs.length) : xs.getD j 0 = xs[j] := by simp [List.getD, h]
def kTo (K : List dM) (o : Int) : Int := match K.find? (fun k => decide (k.1 = o)) with | some k => k.2.1 | none => 0
def wdG (m : Mly) (T : List ba) : Nat → Nat → Int → List Int × Nat
  | 0, p, _ => ([], p)
  | f + 1, p, s => if (T.getD p nd0).2.1 < 0 then ([], p) else
    ((T.getD p nd0).2.1 :: (wdG m T f (kTo (T.getD p nd0).2.2.1 (m.out s (T.getD p nd0).2.1)).toNat (m.nxt s (T.getD p nd0).2.1)).1, (wdG m T f (kTo (T.getD p nd0).2.2.1 (m.out s (T.getD p nd0).2.1)).toNat (m.nxt s (T.getD p nd0).2.1)).2)
theorem kd {m : Mly} {T : List ba} {f p : Nat} {s : Int} (h : (T.getD p nd0).2.1 < 0) : wdG m T f p s = ([], p) := by
  cases f with
  | zero => rfl
  | succ f => exact if_pos h
theorem j5 {m : Mly} {T : List ba} {f p : Nat} {s : Int} (h : ¬ (T.getD p nd0).2.1 < 0) : wdG m T (f + 1) p s =
    ((T.getD p nd0).2.1 :: (wdG m T f (kTo (T.getD p nd0).2.2.1 (m.out s (T.getD p nd0).2.1)).toNat (m.nxt s (T.getD p nd0).2.1)).1, (wdG m T f (kTo (T.getD p nd0).2.2.1 (m.out s (T.getD p nd0).2.1)).toNat (m.nxt s (T.getD p nd0).2.1)).2) := if_neg h
theorem oq : ∀ {K : List dM} {i : Nat} {o : Int}, i < K.length → (K.getD i kd0).1 = o → (∀ j, j < i → (K.getD j kd0).1 ≠ o) → kTo K o = (K.getD i kd0).2.1
  | k :: K, 0, o, _, h, _ => by
    have h' : k.1 = o := h
    unfold kTo; rw [List.find?_cons, decide_eq_true h']; rfl
  | k :: K, i + 1, o, hi, h, hn => by
    have h0 : ¬ k.1 = o := hn 0 (by omega)
    have ih := oq (K := K) (i := i) (o := o) (by simpa using hi) (by simpa [List.getD] using h) (fun j hj => by have := hn (j + 1) (by omega); simpa [List.getD] using this)
    unfold kTo at ih ⊢
    rw [List.find?_cons, decide_eq_false h0]
    simpa [List.getD] using ih
  | [], _, _, h, _, _ => by simp at h
structure RTI (m : Mly) (T : List ba) (p : Nat) (s : Int) : Prop where
  ex : ∃ f ini cur n, rtF m T f p ini cur = some n ∧ s ∈ cur ∧ d7 m cur
theorem rK {m : Mly} {T : List ba} {rec : Nat → List Int → List Int → Option Nat} (hr : ∀ e i c n, rec e i c = some n → e < n ∧ n ≤ T.length) {ini cur : List Int} {x : ba} {p : Nat} : ∀ (k n : Nat), (List.range k).foldl (fc m rec ini cur x) (some (p + 1)) = some n →
    (p + 1 ≤ n) ∧ ∀ i, i < k → ∃ e n2, p + 1 ≤ e ∧ (x.2.2.1.getD i kd0).1 = (aF (ouL m cur x.2.1)).getD i 0 ∧ (x.2.2.1.getD i kd0).2.1 = (e : Int) ∧ rec e (cb m ini cur x.2.1 cur.length ((aF (ouL m cur x.2.1)).getD i 0)) (bE m cur x.2.1 cur.length ((aF (ouL m cur x.2.1)).getD i 0)) = some n2
  | 0, n, h => by
    simp only [List.range_zero, List.foldl_nil, Option.some.injEq] at h
    exact ⟨by omega, fun i hi => by omega⟩
  | k + 1, n, h => by
    rw [List.range_succ, List.foldl_append, List.foldl_cons, List.foldl_nil] at h
    cases h1 : (List.range k).foldl (fc m rec ini cur x) (some (p + 1)) with
    | none => rw [h1] at h; cases h
    | some e =>
      rw [h1] at h
      obtain ⟨h2, h3⟩ := rK hr k e h1
      by_cases hk : (x.2.2.1.getD k kd0).1 = (aF (ouL m cur x.2.1)).getD k 0 ∧ (x.2.2.1.getD k kd0).2.1 = (e : Int)
      · rw [kD hk] at h
        have h4 := hr _ _ _ _ h
        refine ⟨by omega, fun i hi => ?_⟩
        by_cases e9 : i = k
        · subst e9; exact ⟨e, n, h2, hk.1, hk.2, h⟩
        · exact h3 i (by omega)
      · rw [qr hk] at h; cases h
theorem lH {m : Mly} {T : List ba} {f p n : Nat} {ini cur : List Int} (h : rtF m T (f + 1) p ini cur = some n) : (p < T.length ∧ (T.getD p nd0).1 = ini ∧ cur.Nodup) ∧
    (((T.getD p nd0).2.1 = -1 ∧ (T.getD p nd0).2.2.1.length = 0 ∧ n = p + 1) ∨
     (0 ≤ (T.getD p nd0).2.1 ∧ (T.getD p nd0).2.1 < m.inp ∧ (aF (ouL m cur (T.getD p nd0).2.1)).length = (T.getD p nd0).2.2.1.length ∧ (List.range (T.getD p nd0).2.2.1.length).foldl (fc m (rtF m T f) ini cur (T.getD p nd0)) (some (p + 1)) = some n)) := by
  by_cases h1 : p < T.length ∧ (T.getD p nd0).1 = ini ∧ cur.Nodup
  · refine ⟨h1, ?_⟩
    by_cases h2 : (T.getD p nd0).2.1 = -1
    · rw [dx h1 h2] at h
      by_cases h3 : (T.getD p nd0).2.2.1.length = 0
      · rw [if_pos h3] at h; cases h; exact .inl ⟨h2, h3, rfl⟩
      · rw [if_neg h3] at h; cases h
    · by_cases h3 : 0 ≤ (T.getD p nd0).2.1 ∧ (T.getD p nd0).2.1 < m.inp ∧ (aF (ouL m cur (T.getD p nd0).2.1)).length = (T.getD p nd0).2.2.1.length
      · rw [mE h1 h2 h3] at h
        exact .inr ⟨h3.1, h3.2.1, h3.2.2, h⟩
      · rw [qq h2 h3] at h; cases h
  · rw [ou h1] at h; cases h
theorem zd {m : Mly} {cur : List Int} {a s : Int} (h : s ∈ cur) : m.nxt s a ∈ bE m cur a cur.length (m.out s a) := by
  obtain ⟨q, hq, rfl⟩ := mK.1 h
  unfold bE cA pkL
  rw [List.map_map]
  exact List.mem_map.2 ⟨(q : Int), m8.2 ⟨q, hq, rfl, rfl⟩, by simp⟩
theorem zv {m : Mly} (hm : MOK m) {T : List ba} {p : Nat} {s : Int} (h : RTI m T p s) (h0 : ¬ (T.getD p nd0).2.1 < 0) : p < T.length ∧ (0 ≤ s ∧ s < m.nx.length) ∧ (0 ≤ (T.getD p nd0).2.1 ∧ (T.getD p nd0).2.1 < m.inp) ∧
    ∃ i, i < (T.getD p nd0).2.2.1.length ∧ ((T.getD p nd0).2.2.1.getD i kd0).1 = m.out s (T.getD p nd0).2.1 ∧ (∀ j, j < (T.getD p nd0).2.2.1.length → ((T.getD p nd0).2.2.1.getD j kd0).1 = m.out s (T.getD p nd0).2.1 → j = i) ∧
      (p : Int) < ((T.getD p nd0).2.2.1.getD i kd0).2.1 ∧ ((T.getD p nd0).2.2.1.getD i kd0).2.1 < T.length ∧ RTI m T ((T.getD p nd0).2.2.1.getD i kd0).2.1.toNat (m.nxt s (T.getD p nd0).2.1) := by
  obtain ⟨f, ini, cur, n, hr, hs, hst⟩ := h.ex
  cases f with
  | zero => cases hr
  | succ f =>
    obtain ⟨hn, hk⟩ := lH hr
    refine ⟨hn.1, hst s hs, ?_⟩
    rcases hk with ⟨h1, _⟩ | ⟨h1, h2, h3, h4⟩
    · omega
    · refine ⟨⟨h1, h2⟩, ?_⟩
      obtain ⟨_, hall⟩ := rK (fun e i c n h => eD h) _ _ h4
      have hin : m.out s (T.getD p nd0).2.1 ∈ aF (ouL m cur (T.getD p nd0).2.1) := ((du _).2 _).2 (List.mem_map.2 ⟨s, hs, rfl⟩)
      have hpl := gD hin
      have hgp := ju hin
      refine ⟨pos (aF (ouL m cur (T.getD p nd0).2.1)) (m.out s (T.getD p nd0).2.1), by omega, ?_, ?_, ?_⟩
      · obtain ⟨e, n2, _, h5, _⟩ := hall _ (by omega : pos (aF (ouL m cur (T.getD p nd0).2.1)) (m.out s (T.getD p nd0).2.1) < (T.getD p nd0).2.2.1.length)
        rw [h5]; exact hgp
      · intro j hj he
        obtain ⟨e, n2, _, h5, _⟩ := hall j hj
        rw [h5] at he
        have hso := (du (ouL m cur (T.getD p nd0).2.1)).1
        have e1 : (aF (ouL m cur (T.getD p nd0).2.1)).getD j 0 = (aF (ouL m cur (T.getD p nd0).2.1))[j]'(by omega) := jb (by omega)
        have e2 : (aF (ouL m cur (T.getD p nd0).2.1)).getD (pos (aF (ouL m cur (T.getD p nd0).2.1)) (m.out s (T.getD p nd0).2.1)) 0 = (aF (ouL m cur (T.getD p nd0).2.1))[pos (aF (ouL m cur (T.getD p nd0).2.1)) (m.out s (T.getD p nd0).2.1)]'hpl := jb hpl
        rcases Nat.lt_trichotomy j (pos (aF (ouL m cur (T.getD p nd0).2.1)) (m.out s (T.getD p nd0).2.1)) with h6 | h6 | h6
        · have := List.pairwise_iff_getElem.1 hso _ _ (by omega) hpl h6
          omega
        · exact h6
        · have := List.pairwise_iff_getElem.1 hso _ _ hpl (by omega) h6
          omega
      · obtain ⟨e, n2, h6, h5, h7, h8⟩ := hall _ (by omega : pos (aF (ouL m cur (T.getD p nd0).2.1)) (m.out s (T.getD p nd0).2.1) < (T.getD p nd0).2.2.1.length)
        have h9 := eD h8
        refine ⟨by omega, by omega, ?_⟩
        rw [h7, ah]
        rw [hgp] at h8
        exact ⟨f, _, _, n2, h8, zd hs, jy hm ⟨h1, h2⟩ hst⟩
def i9 (m : Mly) (T : List ba) (s : Int) : List Int × Nat := wdG m T T.length 0 s
def gB (m : Mly) (T : List ba) (s : Int) : Int := if ¬ f0 m T = 0 then f0 m T else if s < 0 ∨ (m.nx.length : Int) ≤ s then 2 else 0
theorem Ai {m : Mly} {T : List ba} (h : f0 m T = 0) : aS m = 0 ∧ T.length ≤ 4096 ∧ rtF m T (T.length + 1) 0 (rgI m.nx.length) (rgI m.nx.length) = some T.length := by
  unfold f0 at h
  by_cases h1 : dL m = 0
  · rw [if_neg (fun h => h h1)] at h
    by_cases h2 : 4096 < T.length ∨ ¬ rtF m T (T.length + 1) 0 (rgI m.nx.length) (rgI m.nx.length) = some T.length
    · rw [if_pos h2] at h; cases h
    · refine ⟨qn h1, by omega, ?_⟩
      exact Classical.byContradiction fun h3 => h2 (.inr h3)
  · rw [if_pos h1] at h; exact absurd h h1
theorem yc {m : Mly} {T : List ba} {s : Int} (h : rtF m T (T.length + 1) 0 (rgI m.nx.length) (rgI m.nx.length) = some T.length) (hs : 0 ≤ s ∧ s < m.nx.length) : RTI m T 0 s :=
  ⟨_, _, _, _, h, List.mem_map.2 ⟨s.toNat, List.mem_range.2 (by omega), by omega⟩, kA m⟩
theorem Ar {m : Mly} {T : List ba} {p : Nat} {s : Int} (h : RTI m T p s) : p < T.length := by
  obtain ⟨f, ini, cur, n, hr, _⟩ := h.ex
  have := eD hr; omega
theorem zH {m : Mly} {T : List ba} {f p : Nat} {s t : Int} {W : List Int} {i : Nat} (h0 : ¬ (T.getD p nd0).2.1 < 0) (hi : i < (T.getD p nd0).2.2.1.length) (h1 : ((T.getD p nd0).2.2.1.getD i kd0).1 = m.out s (T.getD p nd0).2.1) (h2 : ∀ j, j < (T.getD p nd0).2.2.1.length → ((T.getD p nd0).2.2.1.getD j kd0).1 = m.out s (T.getD p nd0).2.1 → j = i)
    (h : (W ++ (wdG m T (f + 1) p s).1, (wdG m T (f + 1) p s).2) = i9 m T t) : ((W ++ [(T.getD p nd0).2.1]) ++ (wdG m T f ((T.getD p nd0).2.2.1.getD i kd0).2.1.toNat (m.nxt s (T.getD p nd0).2.1)).1, (wdG m T f ((T.getD p nd0).2.2.1.getD i kd0).2.1.toNat (m.nxt s (T.getD p nd0).2.1)).2) = i9 m T t := by
  rw [← h, j5 h0, oq hi h1 (fun j hj e => by have := h2 j (by omega) e; omega)]
  simp
/-plain-/
def knB (Q : List SS) (x : List Int) (j : Nat) : Bool := (List.range j).any fun q => decide ((Q.getD q ss0).1 = x)
theorem rd {Q : List SS} {x : List Int} (h : dX Q x < Q.length) : (Q.getD (dX Q x) ss0).1 = x := by
  induction Q with
  | nil => simp [dX] at h
  | cons s Q ih =>
    by_cases e : s.1 = x
    · have p1 : dX (s :: Q) x = 0 := if_pos e
      rw [p1]; exact e
    · have p1 : dX (s :: Q) x = dX Q x + 1 := if_neg e
      rw [p1] at h ⊢
      exact ih (by simpa using h)
theorem zk (Q : List SS) (x : List Int) : knB Q x Q.length = decide (dX Q x < Q.length) := by
  by_cases e : dX Q x < Q.length
  · rw [decide_eq_true e]
    exact List.any_eq_true.2 ⟨_, List.mem_range.2 e, by rw [decide_eq_true_eq]; exact rd e⟩
  · rw [decide_eq_false e]
    unfold knB
    rw [List.any_eq_false]
    intro q hq hb
    have hq2 := List.mem_range.1 hq
    rw [decide_eq_true_eq] at hb
    have : ¬ ∀ j, j < Q.length → (Q.getD j ss0).1 ≠ x := fun h => h q hq2 hb
    apply e
    have hle := vl Q x
    by_cases e3 : dX Q x = Q.length
    · exfalso
      have key : ∀ (Q : List SS) (q : Nat), q < Q.length → (Q.getD q ss0).1 = x → dX Q x ≤ q := by
        intro Q
        induction Q with
        | nil => intro q h; simp at h
        | cons s Q ih =>
          intro q h hb
          by_cases e : s.1 = x
          · have p1 : dX (s :: Q) x = 0 := if_pos e
            omega
          · have p1 : dX (s :: Q) x = dX Q x + 1 := if_neg e
            match q, h, hb with
            | 0, _, hb => exact absurd (by simpa using hb) e
            | q + 1, h, hb =>
              have := ih q (by simpa using h) (by simpa using hb)
              omega
      have := key Q q hq2 hb
      omega
    · omega
end Go.AV
