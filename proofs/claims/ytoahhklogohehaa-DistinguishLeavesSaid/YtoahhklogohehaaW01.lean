/- Contracts of functions of this seat, each out of a walk through its code, and plain facts on what they compute. Conditions: those that each theorem names. -/
import Derived.Test.YtoahhklogohehaaW00
set_option linter.unusedSimpArgs false
set_option linter.unusedVariables false
set_option maxRecDepth 100000
namespace Go.AV
open Nat renaming reduceEqDiff → aa, reduceAdd → V, reduceLeDiff → ad, reduceLT → ag, reduceMul → af, reduceSub → ae
open List renaming set_cons_zero → cK, set_cons_succ → cF, getD_cons_zero → au, length_append → ar, map_cons → aJ, cons_append → aN, map_nil → bz, length_cons → ax, nil_append → b6, take_succ_cons → d6, length_nil → aI, length_map → aw, length_replicate → aB, take_length → aO, mem_cons_self → aV, mem_cons_of_mem → aM
open Int renaming toNat_natCast → ai
/-plain-/
theorem l5 {l : List Int} {i : Nat} (h : i < l.length) : l.getD i 0 = l[i] := by simp [List.getD, h]
def rgI (n : Nat) : List Int := (List.range n).map fun (i : Nat) => (i : Int)
theorem di (n : Nat) : (rgI n).length = n := by simp [rgI]
theorem oT {n i : Nat} (h : i < n) : (rgI n).getD i 0 = (i : Int) := by simp [rgI, List.getD, h]
theorem iE {n : Nat} {x : Int} : x ∈ rgI n ↔ 0 ≤ x ∧ x < n := by
  unfold rgI
  rw [List.mem_map]
  constructor
  · rintro ⟨i, hi, rfl⟩
    have := List.mem_range.1 hi; omega
  · intro h
    exact ⟨x.toNat, List.mem_range.2 (by omega), by omega⟩
theorem rD (n : Nat) : rgI (n + 1) = rgI n ++ [(n : Int)] := by simp [rgI, List.range_succ]
theorem qC {n : Nat} {l k : List Int} (h : l ++ k = rgI n) : l = rgI l.length := by
  have hl : l.length ≤ n := by have := congrArg List.length h; rw [ar, di] at this; omega
  refine List.ext_getElem (by rw [di]) fun i h1 h2 => ?_
  have e1 : (l ++ k).getD i 0 = l.getD i 0 := by simp [List.getD, List.getElem?_append_left h1]
  rw [h, oT (by omega)] at e1
  have e2 : l.getD i 0 = l[i] := by simp [List.getD, h1]
  have e3 : (rgI l.length).getD i 0 = (rgI l.length)[i] := by simp [List.getD, h2]
  rw [← e2, ← e3, ← e1, oT h1]
structure CAN (x : Mly) : Prop where
  ok : MOK x
  st : x.st = 0
  rc : x.reach = rgI x.nx.length
  ds : ∀ i j : Int, 0 ≤ i → i < x.nx.length → 0 ≤ j → j < x.nx.length → EQV x i j → i = j
theorem A9 {x y : Mly} {s t : Int} (h : EQ2 x y s t) {a : Nat} (ha : (a : Int) < x.inp) : x.out s a = y.out t a := by
  have := h [(a : Int)] fun i hi => by
    have : i = 0 := by simpa using hi
    subst this; simp [List.getD]; omega
  rw [dr, dr] at this
  injection this
theorem vQ {x y : Mly} {s t : Int} (h : EQ2 x y s t) {a : Nat} (ha : (a : Int) < x.inp) : EQ2 x y (x.nxt s a) (y.nxt t a) := fun w hw => by
  have := h ((a : Int) :: w) fun i hi => by
    cases i with
    | zero => simp [List.getD]; omega
    | succ i => have := hw i (by simpa using hi); simpa [List.getD] using this
  rw [dr, dr] at this
  injection this
theorem yT {x y : Mly} (hi : x.inp = y.inp) {s t u : Int} (h : EQ2 x y s u) (g : EQ2 x y t u) : EQV x s t := fun w hw => (h w hw).trans (g w hw).symm
theorem pe {x y : Mly} (hi : x.inp = y.inp) {s t u : Int} (h : EQ2 x y s t) (g : EQ2 x y s u) : EQV y t u := fun w hw => (h w (by rw [hi]; exact hw)).symm.trans (g w (by rw [hi]; exact hw))
structure LCK (x y : Mly) (l : List Int) : Prop where
  eq : ∀ j, j ∈ l → EQ2 x y j j
  bx : ∀ j, j ∈ l → 0 ≤ j ∧ j < x.nx.length
  by_ : ∀ j, j ∈ l → 0 ≤ j ∧ j < y.nx.length
theorem yd {x y : Mly} (hx : CAN x) (hy : CAN y) (hi : x.inp = y.inp) {l : List Int} (h : LCK x y l) {u v : Int} (hu : 0 ≤ u ∧ u < x.nx.length) (hv : 0 ≤ v ∧ v < y.nx.length) (he : EQ2 x y u v)
    (px : ∃ k, cp l u ++ k = x.reach) (py : ∃ k, cp l v ++ k = y.reach) : cp l u = cp l v ∧ LCK x y (cp l u) := by
  by_cases a : u ∈ l
  · have h1 := h.by_ u a
    have h2 := hy.ds u v h1.1 h1.2 hv.1 hv.2 (pe hi (h.eq u a) he)
    subst h2
    rw [gA a]; exact ⟨rfl, h⟩
  · by_cases b : v ∈ l
    · have h1 := h.bx v b
      have h2 := hx.ds v u h1.1 h1.2 hu.1 hu.2 (yT hi (h.eq v b) he)
      subst h2; exact absurd b a
    · obtain ⟨k1, e1⟩ := px
      obtain ⟨k2, e2⟩ := py
      rw [fe a, hx.rc] at e1
      rw [fe b, hy.rc] at e2
      have f1 := qC e1
      have f2 := qC e2
      have : l ++ [u] = l ++ [v] := by
        rw [f1, f2, ar, ar]; rfl
      have huv : u = v := by
        have := List.append_cancel_left this
        simpa using this
      subst huv
      refine ⟨rfl, ?_⟩
      rw [fe a]
      refine ⟨fun j hj => ?_, fun j hj => ?_, fun j hj => ?_⟩ <;> (rcases List.mem_append.1 hj with hj | hj)
      · exact h.eq j hj
      · have : j = u := by simpa using hj
        subst this; exact he
      · exact h.bx j hj
      · have : j = u := by simpa using hj
        subst this; exact hu
      · exact h.by_ j hj
      · have : j = u := by simpa using hj
        subst this; exact hv
theorem rE {x y : Mly} (hx : CAN x) (hy : CAN y) (hi : x.inp = y.inp) {l : List Int} (h : LCK x y l) {i : Int} (hl : i ∈ l) : ∀ a : Nat, (a : Int) ≤ x.inp →
    (∃ k, ((x.row i).take a).foldl cp l ++ k = x.reach) → (∃ k, ((y.row i).take a).foldl cp l ++ k = y.reach) →
    ((x.row i).take a).foldl cp l = ((y.row i).take a).foldl cp l ∧ LCK x y (((x.row i).take a).foldl cp l)
  | 0, _, _, _ => ⟨rfl, h⟩
  | a + 1, ha, px, py => by
    have bx := h.bx i hl; have by1 := h.by_ i hl
    have rx : ((x.row i).length : Int) = x.inp := hx.ok.rl i.toNat (by omega)
    have ry : ((y.row i).length : Int) = y.inp := hy.ok.rl i.toNat (by omega)
    rw [gL (by omega)] at px ⊢
    rw [gL (by omega)] at py ⊢
    have px0 : ∃ k, ((x.row i).take a).foldl cp l ++ k = x.reach := by
      obtain ⟨k, e⟩ := px; obtain ⟨k2, e2⟩ := nB (((x.row i).take a).foldl cp l) ((x.row i).getD a 0)
      exact ⟨k2 ++ k, by rw [← List.append_assoc, ← e2, e]⟩
    have py0 : ∃ k, ((y.row i).take a).foldl cp l ++ k = y.reach := by
      obtain ⟨k, e⟩ := py; obtain ⟨k2, e2⟩ := nB (((y.row i).take a).foldl cp l) ((y.row i).getD a 0)
      exact ⟨k2 ++ k, by rw [← List.append_assoc, ← e2, e]⟩
    obtain ⟨e1, h1⟩ := rE hx hy hi h hl a (by omega) px0 py0
    rw [← e1] at py ⊢
    exact yd hx hy hi h1 (hx.ok.nr i.toNat a (by omega) (by omega)) (hy.ok.nr i.toNat a (by omega) (by omega)) (vQ (h.eq i hl) (by omega)) px py
theorem xT {x y : Mly} (hx : CAN x) (hy : CAN y) (hi : x.inp = y.inp) : ∀ (f i : Nat) (l : List Int), LCK x y l → x.rf f i l = x.reach → y.rf f i l = y.reach → x.reach = y.reach ∧ LCK x y x.reach
  | 0, i, l, h, ex, ey => ⟨ex.symm.trans ey, by rw [← ex]; exact h⟩
  | f + 1, i, l, h, ex, ey => by
    by_cases hil : i < l.length
    · rw [gW x f i l hil] at ex
      rw [gW y f i l hil] at ey
      have hm : l.getD i 0 ∈ l := br hil
      have bx := h.bx _ hm; have by1 := h.by_ _ hm
      have rx : ((x.row (l.getD i 0)).length : Int) = x.inp := hx.ok.rl (l.getD i 0).toNat (by omega)
      have ry : ((y.row (l.getD i 0)).length : Int) = y.inp := hy.ok.rl (l.getD i 0).toNat (by omega)
      have hi1 := hx.ok.i1
      have tx : (x.row (l.getD i 0)).take x.inp.toNat = x.row (l.getD i 0) := List.take_of_length_le (by omega)
      have ty : (y.row (l.getD i 0)).take x.inp.toNat = y.row (l.getD i 0) := List.take_of_length_le (by omega)
      have px : ∃ k, ((x.row (l.getD i 0)).take x.inp.toNat).foldl cp l ++ k = x.reach := by
        rw [tx]; obtain ⟨k, e⟩ := kP x f (i + 1) ((x.row (l.getD i 0)).foldl cp l); exact ⟨k, by rw [← e, ex]⟩
      have py : ∃ k, ((y.row (l.getD i 0)).take x.inp.toNat).foldl cp l ++ k = y.reach := by
        rw [ty]; obtain ⟨k, e⟩ := kP y f (i + 1) ((y.row (l.getD i 0)).foldl cp l); exact ⟨k, by rw [← e, ey]⟩
      obtain ⟨e1, h1⟩ := rE hx hy hi h hm x.inp.toNat (by omega) px py
      rw [tx, ty] at e1
      rw [tx] at h1
      rw [← e1] at ey
      exact xT hx hy hi f (i + 1) _ h1 ex ey
    · rw [fT x _ _ _ (by omega)] at ex
      rw [fT y _ _ _ (by omega)] at ey
      exact ⟨ex.symm.trans ey, by rw [← ex]; exact h⟩
theorem Bb {x y : Mly} (hx : CAN x) (hy : CAN y) (hi : x.inp = y.inp) (h : EQ2 x y 0 0) : x.nx = y.nx ∧ x.ot = y.ot := by
  have hn1 := hx.ok.n1; have hn2 := hy.ok.n1
  have ex : x.rf (x.nx.length + y.nx.length + 1) 0 [0] = x.reach := by
    rw [eh (dv hx.ok), hx.st]
    have := qv hx.ok (x.nx.length + 1) 0 [0] (by have := ip hx.ok; rwa [hx.st] at this) (by omega) (x.nx.length + y.nx.length + 1) (by omega)
    exact this
  have ey : y.rf (x.nx.length + y.nx.length + 1) 0 [0] = y.reach := by
    rw [eh (dv hy.ok), hy.st]
    have := qv hy.ok (y.nx.length + 1) 0 [0] (by have := ip hy.ok; rwa [hy.st] at this) (by omega) (x.nx.length + y.nx.length + 1) (by omega)
    exact this
  have h0 : LCK x y [0] := ⟨fun j hj => (by have : j = 0 := by simpa using hj
                                            subst this; exact h), fun j hj => (by have : j = 0 := by simpa using hj
                                                                                  subst this; omega), fun j hj => (by have : j = 0 := by simpa using hj
                                                                                                                      subst this; omega)⟩
  obtain ⟨e, hl⟩ := xT hx hy hi _ 0 [0] h0 ex ey
  have hlen : x.nx.length = y.nx.length := by
    have := congrArg List.length e
    rwa [hx.rc, hy.rc, di, di] at this
  have hq : ∀ j : Nat, j < x.nx.length → EQ2 x y j j := fun j hj => hl.eq j (by rw [hx.rc]; exact iE.2 ⟨by omega, by omega⟩)
  have hox := hx.ok.ol; have hoy := hy.ok.ol
  have hi1 := hx.ok.i1
  constructor
  · refine List.ext_getElem hlen fun j h1 h2 => ?_
    have r1 := hx.ok.rl j h1; have r2 := hy.ok.rl j h2
    have g1 : x.nx.getD j [] = x.nx[j] := by simp [List.getD, h1]
    have g2 : y.nx.getD j [] = y.nx[j] := by simp [List.getD, h2]
    rw [← g1, ← g2]
    refine List.ext_getElem (by omega) fun a a1 a2 => ?_
    have n1 := hx.ok.nr j a h1 (by omega); have n2 := hy.ok.nr j a h2 (by omega)
    have q1 := vQ (hq j h1) (a := a) (by omega)
    have m1 : x.nxt j a = (x.nx.getD j []).getD a 0 := rfl
    have m2 : y.nxt j a = (y.nx.getD j []).getD a 0 := rfl
    rw [m1, m2] at q1
    have q2 := hq ((x.nx.getD j []).getD a 0).toNat (by omega)
    rw [Int.toNat_of_nonneg n1.1] at q2
    have := hy.ds _ _ n1.1 (by omega) n2.1 n2.2 (pe hi q2 q1)
    rw [← l5 a1, ← l5 a2]; exact this
  · refine List.ext_getElem (by omega) fun j h1 h2 => ?_
    have r1 := hx.ok.ql j (by omega); have r2 := hy.ok.ql j (by omega)
    have g1 : x.ot.getD j [] = x.ot[j] := by simp [List.getD, h1]
    have g2 : y.ot.getD j [] = y.ot[j] := by simp [List.getD, h2]
    rw [← g1, ← g2]
    refine List.ext_getElem (by omega) fun a a1 a2 => ?_
    have q1 := A9 (hq j (by omega)) (a := a) (by omega)
    have m1 : x.out j a = (x.ot.getD j []).getD a 0 := rfl
    have m2 : y.out j a = (y.ot.getD j []).getD a 0 := rfl
    rw [m1, m2] at q1
    rw [← l5 a1, ← l5 a2]; exact q1
/-plain-/
def eD (T : List bj) (rec : Nat → Int) (p : Nat) (n : Int) (k : dX) : Int := if (p : Int) < k.2.1 ∧ k.2.1 < T.length then max n (1 + rec k.2.1.toNat) else n
def dpF (T : List bj) : Nat → Nat → Int
  | 0, _ => 0
  | f + 1, p => (T.getD p nd0).2.2.1.foldl (eD T (dpF T f) p) 0
theorem lD {T : List bj} {r1 r2 : Nat → Int} {p : Nat} (h : ∀ k, p < k → k < T.length → r1 k = r2 k) : ∀ (K : List dX) (n : Int), K.foldl (eD T r1 p) n = K.foldl (eD T r2 p) n
  | [], _ => rfl
  | k :: K, n => by
    have e : eD T r1 p n k = eD T r2 p n k := by
      unfold eD
      by_cases hk : (p : Int) < k.2.1 ∧ k.2.1 < T.length
      · rw [if_pos hk, if_pos hk, h _ (by omega) (by omega)]
      · rw [if_neg hk, if_neg hk]
    rw [List.foldl_cons, List.foldl_cons, e, lD h K]
theorem rN {T : List bj} : ∀ (f g p : Nat), p < T.length → T.length ≤ f + p → T.length ≤ g + p → dpF T f p = dpF T g p
  | 0, _, p, h, h1, _ => by omega
  | f + 1, 0, p, h, _, h2 => by omega
  | f + 1, g + 1, p, h, h1, h2 => lD (fun k hk hl => rN f g k hl (by omega) (by omega)) _ _
theorem nR {T : List bj} {r : Nat → Int} {p : Nat} (hp : p < T.length) (h : ∀ k, p < k → k < T.length → 0 ≤ r k ∧ r k + k < T.length) : ∀ (K : List dX) (n : Int), 0 ≤ n ∧ n + p < T.length → 0 ≤ K.foldl (eD T r p) n ∧ K.foldl (eD T r p) n + p < T.length
  | [], _, hn => hn
  | k :: K, n, hn => by
    rw [List.foldl_cons]
    refine nR hp h K _ ?_
    unfold eD
    split
    · rename_i hk
      have := h k.2.1.toNat (by omega) (by omega)
      omega
    · exact hn
theorem ut {T : List bj} : ∀ (f p : Nat), p < T.length → T.length ≤ f + p → 0 ≤ dpF T f p ∧ dpF T f p + p < T.length
  | 0, p, h, h1 => by omega
  | f + 1, p, h, h1 => nR h (fun k hk hl => ut f k hl (by omega)) _ _ ⟨Int.le_refl _, by omega⟩
def dpA (T : List bj) (p : Nat) : Int := dpF T (T.length - p) p
theorem xx {T : List bj} {p : Nat} (h : p < T.length) : dpA T p = (T.getD p nd0).2.2.1.foldl (eD T (dpA T) p) 0 := by
  show dpF T (T.length - p) p = _
  rw [show T.length - p = (T.length - p - 1) + 1 by omega]
  exact lD (fun k hk hl => rN _ _ k hl (by omega) (by omega)) _ _
theorem pX {T : List bj} {p : Nat} (h : p < T.length) : 0 ≤ dpA T p ∧ dpA T p + p < T.length := ut _ _ h (by omega)
theorem A5 {K : List dX} {i : Nat} (h : i < K.length) : K.take (i + 1) = K.take i ++ [K.getD i kd0] := by
  rw [List.take_add_one]; simp [List.getD, h]
theorem zI {T : List bj} {r : Nat → Int} {p i : Nat} {K : List dX} (h : i < K.length) : (K.take (i + 1)).foldl (eD T r p) 0 = eD T r p ((K.take i).foldl (eD T r p) 0) (K.getD i kd0) := by
  rw [A5 h, List.foldl_append]; rfl
def dpT (T : List bj) : Int := if T.length = 0 then 0 else dpA T 0
def dpV (T : List bj) (p : Nat) (x : Int) (q : Nat) : Int := if q < p then 0 else if q = p then x else if q < T.length then dpA T q else 0
def dpL (T : List bj) (p : Nat) (x : Int) : List Int := (List.range (T.length + 1)).map (dpV T p x)
theorem dG (T : List bj) (p : Nat) (x : Int) : (dpL T p x).length = T.length + 1 := by simp [dpL]
theorem nH (T : List bj) (p : Nat) (x : Int) (i : Nat) : (dpL T p x)[i]? = if i < T.length + 1 then some (dpV T p x i) else none := by
  unfold dpL
  rw [List.getElem?_map]
  by_cases h : i < T.length + 1
  · rw [if_pos h, List.getElem?_range h]; rfl
  · rw [if_neg h, List.getElem?_eq_none (by simpa using h)]; rfl
theorem AN {T : List bj} {p i : Nat} (h : i ≤ T.length) (x : Int) : (dpL T p x).getD i 0 = dpV T p x i := by
  rw [List.getD, nH, if_pos (by omega)]; rfl
theorem pD {T : List bj} {p : Nat} (h : p ≤ T.length) (x : Int) : (dpL T p x).getD p 0 = x := by
  rw [AN h]; unfold dpV; rw [if_neg (by omega), if_pos rfl]
theorem B8 {T : List bj} {p k : Nat} (h : p < k) (hk : k < T.length) (x : Int) : (dpL T p x).getD k 0 = dpA T k := by
  rw [AN (by omega)]; unfold dpV; rw [if_neg (by omega), if_neg (by omega), if_pos hk]
theorem zu {T : List bj} {p : Nat} (h : p ≤ T.length) (x y : Int) : (dpL T p x).set p y = dpL T p y := by
  apply List.ext_getElem?
  intro i
  rw [List.getElem?_set, nH, nH, dG]
  by_cases e : p = i
  · subst e
    rw [if_pos rfl, if_pos (by omega), if_pos (by omega)]
    unfold dpV; rw [if_neg (by omega), if_pos rfl]
  · rw [if_neg e]
    have : dpV T p x i = dpV T p y i := by
      unfold dpV
      by_cases e2 : i < p
      · rw [if_pos e2, if_pos e2]
      · rw [if_neg e2, if_neg e2, if_neg (fun h : i = p => e h.symm), if_neg (fun h : i = p => e h.symm)]
    rw [this]
theorem y4 {T : List bj} {p : Nat} (h : p + 1 ≤ T.length) : dpL T (p + 1) (if p + 1 = T.length then 0 else dpA T (p + 1)) = dpL T p 0 := by
  apply List.ext_getElem?
  intro i
  rw [nH, nH]
  have : dpV T (p + 1) (if p + 1 = T.length then 0 else dpA T (p + 1)) i = dpV T p 0 i := by
    unfold dpV
    by_cases e : i < p
    · rw [if_pos (show i < p + 1 by omega), if_pos e]
    · by_cases e2 : i = p
      · subst e2; rw [if_pos (show i < i + 1 by omega), if_neg e, if_pos rfl]
      · by_cases e3 : i = p + 1
        · subst e3
          rw [if_neg (show ¬ p + 1 < p + 1 by omega), if_pos rfl, if_neg e, if_neg e2]
          by_cases e4 : p + 1 = T.length
          · rw [if_pos e4, if_neg (by omega)]
          · rw [if_neg e4, if_pos (by omega)]
        · rw [if_neg (show ¬ i < p + 1 by omega), if_neg e3, if_neg e, if_neg e2]
  rw [this]
theorem B0 (T : List bj) : dpL T T.length 0 = List.replicate (T.length + 1) 0 := by
  apply List.ext_getElem?
  intro i
  rw [nH, List.getElem?_replicate]
  by_cases h : i < T.length + 1
  · rw [if_pos h, if_pos h]
    unfold dpV
    by_cases e : i < T.length
    · rw [if_pos e]
    · rw [if_neg e, if_pos (by omega)]
  · rw [if_neg h, if_neg h]
/-plain-/
/-plain-/
def CX (m : Mly) (cl : List Int) : Bool := if Cb m cl = 0 then (CS m cl).isSome else false
/-plain-/
def SYM (n : Int) (w : List Int) : Prop := ∀ a, a ∈ w → 0 ≤ a ∧ a < n
structure SHW (m : Mly) (cl : List Int) (u v : List Int) : Prop where
  su : SYM m.inp u
  sv : SYM m.inp v
  lu : u.length ≤ 200
  lv : v.length = u.length
  pos : 0 < u.length
  ne : (m.go m.st u).2 ≠ (m.go m.st v).2
  im : u.map (fun a => cl.getD a.toNat 0) = v.map fun a => cl.getD a.toNat 0
theorem xB {n i : Nat} : (List.replicate n (0 : Int)).getD i 0 = 0 := by
  by_cases h : i < n
  · simp [List.getD, h]
  · simp [List.getD, Nat.le_of_not_lt h]
/-plain-/
def lS (m : Mly) : List Int := if aL m = 0 then (nmS (xo m) m.inp.toNat).1 else []
def Cz (m : Mly) : Int := if aL m = 0 then ((nmS (xo m) m.inp.toNat).2.length : Int) else 0
/-plain-/
structure RUN (m : Mly) : Prop where
  len : (lS m).length = m.inp.toNat
  ce : sA (lS m) = 0
  ck : C5 (lS m) = Cz m
  eq : ∀ c d : Nat, c < m.inp.toNat → d < m.inp.toNat → ((lS m).getD c 0 = (lS m).getD d 0 ↔ xo m c d = true)
  ch : Cb m (lS m) = 0
  no : CX m (lS m) = false
/-plain-/
theorem ue {cl : List Int} (hb : ∀ q, q < cl.length → iV cl q = false) : ∀ k, k ≤ cl.length → ∀ v, 0 ≤ v → v < cN cl k → ∃ q, q < k ∧ cl.getD q 0 = v
  | 0, _, v, h0, h1 => by simp only [cN] at h1; omega
  | k + 1, hk, v, h0, h1 => by
    have h2 := hb k (by omega)
    simp only [iV, Bool.or_eq_false_iff, decide_eq_false_iff_not] at h2
    simp only [cN] at h1
    by_cases e : v < cN cl k
    · obtain ⟨q, q1, q2⟩ := ue hb k (by omega) v h0 e
      exact ⟨q, by omega, q2⟩
    · exact ⟨k, by omega, by omega⟩
theorem Am (cl : List Int) : ∀ k q, q < k → cl.getD q 0 < cN cl k
  | 0, q, h => by omega
  | k + 1, q, h => by
    simp only [cN]
    by_cases e : q = k
    · rw [e]; omega
    · have := Am cl k q (by omega); omega
theorem tS (cl : List Int) : ∀ k, 0 ≤ cN cl k
  | 0 => Int.le_refl _
  | k + 1 => by have := tS cl k; simp only [cN]; omega
structure STD (m : Mly) (C : List Int) (j : Nat) : Prop where
  len : C.length = m.inp.toNat
  ce : sA C = 0
  co : ∀ c d : Nat, c < m.inp.toNat → d < m.inp.toNat → xo m c d = true → C.getD c 0 = C.getD d 0
  ct : (j : Int) + 1 ≤ C5 C
/-plain-/
theorem pE (m : Mly) (cl : List Int) : ∀ k, k ≤ m.nx.length → cN (m.nextL cl) k = ((dj (m.sig cl) k).length : Int) ∧ ∀ q, q < k → iV (m.nextL cl) q = false
  | 0, _ => ⟨by simp [cN, dj], fun q h => by omega⟩
  | k + 1, h => by
    obtain ⟨i1, i2⟩ := pE m cl k (by omega)
    have hv := jb (cl := cl) (s := k) (by omega : k < m.nx.length)
    by_cases hs : m.sig cl k ∈ dj (m.sig cl) k
    · have h1 := nc (cl := cl) (by omega : k < m.nx.length) hs
      have h2 := gS hs
      rw [h1] at hv
      refine ⟨?_, fun q hq => ?_⟩
      · rw [dO, gB hs]; simp only [cN]; omega
      · by_cases e : q = k
        · subst e; exact pd (by omega) (by omega)
        · exact i2 q (by omega)
    · have h1 := kK (cl := cl) (by omega : k < m.nx.length) hs
      rw [h1] at hv
      refine ⟨?_, fun q hq => ?_⟩
      · rw [dO, fG hs, ar]; simp only [cN, ax, aI]; omega
      · by_cases e : q = k
        · subst e; exact pd (by omega) (by omega)
        · exact i2 q (by omega)
theorem gZ {m : Mly} (hm : MOK m) : ∀ q, q < m.eqc.length → iV m.eqc q = false := by
  obtain ⟨j, h1, h2, h3⟩ := l7 hm
  rw [h1, kB]
  cases j with
  | zero => exact fun q hq => pd (by show 0 ≤ (List.replicate _ (0 : Int)).getD q 0; rw [xB]; omega) (by show (List.replicate _ (0 : Int)).getD q 0 ≤ _; rw [xB]; exact tS _ _)
  | succ i => exact (pE m (m.cls i) m.nx.length (Nat.le_refl _)).2
def dZ (c : List Int) (k : Nat) : List Nat := (List.range k).filter fun s => decide (c.getD s 0 = cN c s)
theorem nn {c : List Int} {k : Nat} (h : c.getD k 0 = cN c k) : dZ c (k + 1) = dZ c k ++ [k] := by
  unfold dZ; rw [List.range_succ, List.filter_append]; simp only [List.filter_cons, List.filter_nil, h, decide_true, if_true]
theorem nJ {c : List Int} {k : Nat} (h : ¬ c.getD k 0 = cN c k) : dZ c (k + 1) = dZ c k := by
  unfold dZ; rw [List.range_succ, List.filter_append]; simp only [List.filter_cons, List.filter_nil, decide_eq_false h, Bool.false_eq_true, if_false, List.append_nil]
structure REP (c : List Int) (k : Nat) : Prop where
  len : ((dZ c k).length : Int) = cN c k
  at_ : ∀ r, r < (dZ c k).length → (dZ c k).getD r 0 < k ∧ c.getD ((dZ c k).getD r 0) 0 = r
theorem vA {xs ys : List Nat} {i : Nat} (h : i < xs.length) : (xs ++ ys).getD i 0 = xs.getD i 0 := by simp [List.getD, List.getElem?_append_left h]
theorem tm {c : List Int} (hb : ∀ q, q < c.length → iV c q = false) : ∀ k, k ≤ c.length → REP c k
  | 0, _ => ⟨rfl, fun r h => by simp [dZ] at h⟩
  | k + 1, h => by
    have ih := tm hb k (by omega)
    have h1 := hb k (by omega)
    simp only [iV, Bool.or_eq_false_iff, decide_eq_false_iff_not] at h1
    have hl := ih.len
    by_cases e : c.getD k 0 = cN c k
    · rw [show REP c (k + 1) = REP c (k + 1) from rfl]
      refine ⟨?_, fun r hr => ?_⟩
      · rw [nn e, ar]; simp only [ax, aI, cN]; omega
      · rw [nn e] at hr ⊢
        rw [ar] at hr; simp only [ax, aI] at hr
        by_cases e2 : r = (dZ c k).length
        · have : (dZ c k ++ [k]).getD r 0 = k := by subst e2; simp [List.getD]
          rw [this]; exact ⟨by omega, by omega⟩
        · rw [vA (by omega)]
          have := ih.at_ r (by omega)
          exact ⟨by omega, this.2⟩
    · refine ⟨?_, fun r hr => ?_⟩
      · rw [nJ e]; simp only [cN]; omega
      · rw [nJ e] at hr ⊢
        have := ih.at_ r hr
        exact ⟨by omega, this.2⟩
def Mly.f (t : Mly) (x : Int) : Int := t.eqc.getD x.toNat 0
def Mly.reps (t : Mly) : List Nat := dZ t.eqc t.nx.length
def Mly.qm (t : Mly) : Mly := ⟨t.inp, 0, t.reps.map (fun s => (t.nx.getD s []).map t.f), t.reps.map fun s => t.ot.getD s []⟩
theorem gY {t : Mly} (ht : MOK t) : REP t.eqc t.nx.length := by
  have hl := (fF ht).len
  have := tm (gZ ht) t.nx.length (by omega)
  exact this
theorem pV (t : Mly) : t.qm.nx.length = t.reps.length := by simp [Mly.qm]
theorem wo {t : Mly} {r : Nat} (h : r < t.reps.length) : t.qm.nx.getD r [] = (t.nx.getD (t.reps.getD r 0) []).map t.f := by
  show (t.reps.map _).getD r [] = _
  rw [fg _ 0 _ h]
theorem x0 {t : Mly} {r : Nat} (h : r < t.reps.length) : t.qm.ot.getD r [] = t.ot.getD (t.reps.getD r 0) [] := by
  show (t.reps.map _).getD r [] = _
  rw [fg _ 0 _ h]
theorem nS {t : Mly} (ht : MOK t) {s : Int} (h0 : 0 ≤ s) (h1 : s < t.nx.length) : 0 ≤ t.f s ∧ t.f s < t.reps.length := by
  have hl := (gY ht).len
  have := Am t.eqc t.nx.length s.toNat (by omega)
  have h2 := (fF ht).rng s.toNat (by omega)
  unfold Mly.f Mly.reps
  omega
theorem Ct {t : Mly} (ht : MOK t) {s : Int} (h0 : 0 ≤ s) (h1 : s < t.nx.length) : t.reps.getD (t.f s).toNat 0 < t.nx.length ∧ t.f (t.reps.getD (t.f s).toNat 0 : Nat) = t.f s := by
  have hf := nS ht h0 h1
  have := (gY ht).at_ (t.f s).toNat (by have := hf.2; unfold Mly.reps at this; omega)
  refine ⟨this.1, ?_⟩
  show t.eqc.getD ((t.reps.getD (t.f s).toNat 0 : Nat) : Int).toNat 0 = _
  rw [ai]
  have h2 := this.2
  unfold Mly.reps
  rw [h2]; omega
theorem zC {t : Mly} (ht : MOK t) : MOK t.qm := by
  have hq := pV t
  have hr := gY ht
  have hn1 := ht.n1; have hn2 := ht.n2
  have h0 := nS ht (s := 0) (by omega) (by omega)
  have hle : t.reps.length ≤ t.nx.length := by
    unfold Mly.reps dZ
    exact Nat.le_trans (List.length_filter_le _ _) (by simp)
  have hol : t.qm.ot.length = t.reps.length := by simp [Mly.qm]
  have hat : ∀ r, r < t.reps.length → t.reps.getD r 0 < t.nx.length := fun r h => (hr.at_ r h).1
  refine ⟨ht.i1, ht.i2, by omega, by omega, Int.le_refl 0, by show (0 : Int) < _; omega, by omega, fun s hs => ?_, fun s hs => ?_, fun s a hs ha => ?_, fun s a hs ha => ?_⟩
  · rw [wo (by omega), aw]
    exact ht.rl _ (hat s (by omega))
  · rw [x0 (by omega)]
    exact ht.ql _ (hat s (by omega))
  · have ha' : (a : Int) < t.inp := ha
    have h1 := ht.rl _ (hat s (by omega))
    rw [wo (by omega), fg t.f 0 0 (by omega)]
    have h2 := ht.nr _ a (hat s (by omega)) ha'
    have := nS ht h2.1 h2.2
    omega
  · rw [x0 (by omega)]
    exact ht.or _ a (hat s (by omega)) ha
theorem xJ {t : Mly} (ht : MOK t) {s a : Int} (h0 : 0 ≤ s) (h1 : s < t.nx.length) (ha : 0 ≤ a ∧ a < t.inp) : t.qm.out (t.f s) a = t.out s a ∧ t.qm.nxt (t.f s) a = t.f (t.nxt s a) := by
  have hf := nS ht h0 h1
  obtain ⟨r1, r2⟩ := Ct ht h0 h1
  have e : t.eqc.getD (t.reps.getD (t.f s).toNat 0) 0 = t.eqc.getD s.toNat 0 := by
    have := r2
    unfold Mly.f at this
    rw [ai] at this
    exact this
  have hst := (fF ht).step _ s.toNat r1 (by omega) e a.toNat (by omega)
  have hrl := ht.rl _ r1
  constructor
  · show (t.qm.ot.getD (t.f s).toNat []).getD a.toNat 0 = _
    rw [x0 (by omega), hst.1]; rfl
  · show (t.qm.nx.getD (t.f s).toNat []).getD a.toNat 0 = _
    rw [wo (by omega), fg t.f 0 0 (by omega)]
    exact hst.2
theorem xG {t : Mly} (ht : MOK t) : ∀ (w : List Int) (s : Int), 0 ≤ s → s < t.nx.length → (∀ i : Nat, i < w.length → 0 ≤ w.getD i 0 ∧ w.getD i 0 < t.inp) → (t.qm.go (t.f s) w).2 = (t.go s w).2
  | [], s, _, _, _ => rfl
  | a :: w, s, h0, h1, hw => by
    obtain ⟨ha, hw2⟩ := jR hw
    obtain ⟨e1, e2⟩ := xJ ht h0 h1 ha
    rw [dr, dr, e1, e2]
    have hn := ht.nr s.toNat a.toNat (by omega) (by omega)
    have := xG ht w (t.nxt s a) hn.1 hn.2 hw2
    rw [this]
theorem CV {t : Mly} (ht : MOK t) : ∀ i j : Int, 0 ≤ i → i < t.qm.nx.length → 0 ≤ j → j < t.qm.nx.length → EQV t.qm i j → i = j := by
  intro i j i0 i1 j0 j1 h
  have hq := pV t
  have ri := (gY ht).at_ i.toNat (by unfold Mly.reps at hq; omega)
  have rj := (gY ht).at_ j.toNat (by unfold Mly.reps at hq; omega)
  have fi : t.f (((dZ t.eqc t.nx.length).getD i.toNat 0 : Nat) : Int) = i := by unfold Mly.f; rw [ai, ri.2]; omega
  have fj : t.f (((dZ t.eqc t.nx.length).getD j.toNat 0 : Nat) : Int) = j := by unfold Mly.f; rw [ai, rj.2]; omega
  have hv : EQV t (((dZ t.eqc t.nx.length).getD i.toNat 0 : Nat) : Int) (((dZ t.eqc t.nx.length).getD j.toNat 0 : Nat) : Int) := fun w hw => by
    have g1 := xG ht w (((dZ t.eqc t.nx.length).getD i.toNat 0 : Nat) : Int) (Int.natCast_nonneg _) (by have := ri.1; omega) hw
    have g2 := xG ht w (((dZ t.eqc t.nx.length).getD j.toNat 0 : Nat) : Int) (Int.natCast_nonneg _) (by have := rj.1; omega) hw
    rw [fi] at g1; rw [fj] at g2
    rw [← g1, ← g2]
    exact h w hw
  have := (mJ ht (Int.natCast_nonneg _) (by have := ri.1; omega) (Int.natCast_nonneg _) (by have := rj.1; omega)).2 hv
  rw [← fi, ← fj]; exact this
/-plain-/
abbrev PP := Int × Int
abbrev SYS := PP → Nat → PP × Int
def d0 : PP := (0, 0)
def bL (F : SYS) (p : PP) (l : List PP) (x : Nat) : List PP := (List.range x).foldl (fun l y => gv l (F p y).1) l
def bN (F : SYS) (p : PP) (l : List PP) (x : Nat) : List Int := (List.range x).map fun y => (pos (bL F p l y) (F p y).1 : Int)
def bO (F : SYS) (p : PP) (x : Nat) : List Int := (List.range x).map fun y => (F p y).2
def bX (F : SYS) (p : PP) (l : List PP) (y : Nat) : Bool := decide (128 < (bL F p l (y + 1)).length) || decide (1048576 < (F p y).2)
abbrev BST := List PP × (List (List Int) × List (List Int))
def bA (F : SYS) (n i : Nat) (s : BST) : BST := (bL F (s.1.getD i d0) s.1 n, s.2.1 ++ [bN F (s.1.getD i d0) s.1 n], s.2.2 ++ [bO F (s.1.getD i d0) n])
def bF (F : SYS) (n : Nat) : Nat → Nat → BST → Option BST
  | 0, _, _ => none
  | f + 1, i, s => if i < s.1.length then if (List.range n).any (bX F (s.1.getD i d0) s.1) = true then none else bF F n f (i + 1) (bA F n i s) else some s
def bR (F : SYS) (n : Nat) (p0 : PP) : Option BST := bF F n 130 0 ([p0], [], [])
theorem ko (F : SYS) (p : PP) (l : List PP) (x : Nat) : bL F p l (x + 1) = gv (bL F p l x) (F p x).1 := by
  unfold bL; rw [List.range_succ, List.foldl_append]; rfl
theorem rL {α : Type} [DecidableEq α] (l : List α) (x : α) : ∃ k, gv l x = l ++ k := wA [x] l
theorem mj (F : SYS) (p : PP) (l : List PP) : ∀ x, ∃ k, bL F p l x = l ++ k
  | 0 => ⟨[], by simp [bL]⟩
  | x + 1 => by
    obtain ⟨k, e⟩ := mj F p l x
    obtain ⟨k', e'⟩ := rL (bL F p l x) (F p x).1
    exact ⟨k ++ k', by rw [ko, e', e, List.append_assoc]⟩
theorem qr (F : SYS) (p : PP) (l : List PP) (x : Nat) : ∀ d, ∃ k, bL F p l (x + d) = bL F p l x ++ k
  | 0 => ⟨[], by simp⟩
  | d + 1 => by
    obtain ⟨k, e⟩ := qr F p l x d
    obtain ⟨k', e'⟩ := rL (bL F p l (x + d)) (F p (x + d)).1
    exact ⟨k ++ k', by rw [← Nat.add_assoc, ko, e', e, List.append_assoc]⟩
theorem A4 (F : SYS) (p : PP) (l : List PP) (x : Nat) : l.length ≤ (bL F p l x).length := by
  obtain ⟨k, e⟩ := mj F p l x
  rw [e, ar]; omega
theorem qo (F : SYS) (p : PP) {l : List PP} (x : Nat) {i : Nat} (h : i < l.length) : (bL F p l x).getD i d0 = l.getD i d0 := by
  obtain ⟨k, e⟩ := mj F p l x
  rw [e]; simp [List.getD, List.getElem?_append_left h]
theorem Ae (F : SYS) (p : PP) (l : List PP) {x y : Nat} (h : y < x) : (F p y).1 ∈ bL F p l x := by
  obtain ⟨k, e⟩ := qr F p l (y + 1) (x - (y + 1))
  rw [show x = y + 1 + (x - (y + 1)) by omega, e, List.mem_append, ko, se]
  exact .inl (.inr rfl)
theorem sJ (F : SYS) (p : PP) {l : List PP} (h : l.Nodup) : ∀ x, (bL F p l x).Nodup
  | 0 => by simpa [bL] using h
  | x + 1 => by rw [ko]; exact vX (sJ F p h x) _
theorem zo {α : Type} [DecidableEq α] (l : List α) (x : α) : pos (gv l x) x = pos l x := by
  by_cases h : x ∈ l
  · rw [gB h]
  · rw [fG h, rV h, uF h]
theorem Bp (F : SYS) (p : PP) (l : List PP) {x y : Nat} (h : y < x) : pos (bL F p l x) (F p y).1 = pos (bL F p l y) (F p y).1 := by
  obtain ⟨k, e⟩ := qr F p l (y + 1) (x - (y + 1))
  rw [show x = y + 1 + (x - (y + 1)) by omega, e, iO _ (Ae F p l (Nat.lt_succ_self y)), ko, zo]
structure BOK (F : SYS) (n : Nat) (p0 : PP) (i : Nat) (s : BST) : Prop where
  nd : s.1.Nodup
  le : s.1.length ≤ 128
  nl : s.2.1.length = i
  ol : s.2.2.length = i
  il : i ≤ s.1.length
  hd : s.1.getD 0 d0 = p0
  h0 : 0 < s.1.length
  nx : ∀ j, j < i → s.2.1.getD j [] = (List.range n).map fun x => (pos s.1 (F (s.1.getD j d0) x).1 : Int)
  ot : ∀ j, j < i → s.2.2.getD j [] = (List.range n).map fun x => (F (s.1.getD j d0) x).2
  cl : ∀ j x, j < i → x < n → (F (s.1.getD j d0) x).1 ∈ s.1
  bd : ∀ j x, j < i → x < n → (F (s.1.getD j d0) x).2 ≤ 1048576
theorem ee {α : Type} {l : List α} {y d : α} {i : Nat} (h : i < l.length) : (l ++ [y]).getD i d = l.getD i d := by simp [List.getD, List.getElem?_append_left h]
theorem gR {α : Type} {l : List α} {y d : α} {i : Nat} (h : i = l.length) : (l ++ [y]).getD i d = y := by subst h; simp [List.getD]
theorem zd {F : SYS} {p : PP} {l : List PP} {n : Nat} (h : (List.range n).any (bX F p l) = false) {y : Nat} (hy : y < n) : (bL F p l (y + 1)).length ≤ 128 ∧ (F p y).2 ≤ 1048576 := by
  rw [List.any_eq_false] at h
  have := h y (by simpa using hy)
  simp only [bX, Bool.not_eq_true, Bool.or_eq_false_iff, decide_eq_false_iff_not] at this
  omega
theorem Cp {F : SYS} {p : PP} {l : List PP} {n : Nat} (hl : l.length ≤ 128) (h : (List.range n).any (bX F p l) = false) : (bL F p l n).length ≤ 128 := by
  cases n with
  | zero => simpa [bL] using hl
  | succ n => exact (zd h (Nat.lt_succ_self n)).1
theorem BOK.step {F : SYS} {n : Nat} {p0 : PP} {i : Nat} {s : BST} (h : BOK F n p0 i s) (hi : i < s.1.length) (hb : (List.range n).any (bX F (s.1.getD i d0) s.1) = false) : BOK F n p0 (i + 1) (bA F n i s) where
  nd := sJ F _ h.nd n
  le := Cp h.le hb
  nl := by simp [bA, h.nl]
  ol := by simp [bA, h.ol]
  il := Nat.le_trans hi (A4 F _ s.1 n)
  hd := by simp only [bA]; rw [qo F _ n h.h0]; exact h.hd
  h0 := Nat.lt_of_lt_of_le h.h0 (A4 F _ s.1 n)
  nx := fun j hj => by
    simp only [bA]
    rw [qo F _ n (show j < s.1.length by omega)]
    by_cases e : j = i
    · rw [gR (by rw [h.nl, e]), e]
      exact List.map_congr_left fun x hx => by rw [Bp F _ s.1 (List.mem_range.1 hx)]
    · have hji : j < i := by omega
      rw [ee (by rw [h.nl]; exact hji), h.nx j hji]
      refine List.map_congr_left fun x hx => ?_
      obtain ⟨k, ek⟩ := mj F (s.1.getD i d0) s.1 n
      rw [ek, iO _ (h.cl j x hji (List.mem_range.1 hx))]
  ot := fun j hj => by
    simp only [bA]
    rw [qo F _ n (show j < s.1.length by omega)]
    by_cases e : j = i
    · rw [gR (by rw [h.ol, e]), e]; rfl
    · rw [ee (by rw [h.ol]; omega), h.ot j (by omega)]
  cl := fun j x hj hx => by
    simp only [bA]
    rw [qo F _ n (show j < s.1.length by omega)]
    by_cases e : j = i
    · rw [e]; exact Ae F _ s.1 hx
    · obtain ⟨k, ek⟩ := mj F (s.1.getD i d0) s.1 n
      rw [ek, List.mem_append]
      exact .inl (h.cl j x (by omega) hx)
  bd := fun j x hj hx => by
    simp only [bA]
    rw [qo F _ n (show j < s.1.length by omega)]
    by_cases e : j = i
    · rw [e]; exact (zd hb hx).2
    · exact h.bd j x (by omega) hx
section
variable {F : SYS} {n : Nat} {p0 : PP} {s : BST} (h : bR F n p0 = some s)
include h
end
/-plain-/
abbrev STP := PP → Nat → PP
abbrev W3 := PP × List Int
def w30 : W3 := (d0, [])
def dIn (l : List W3) (q : PP) : Bool := l.any fun f => decide (f.1 = q)
def dSt (A : STP) (e : W3) (l : List W3) (x : Nat) : List W3 := if dIn l (A e.1 x) = true then l else l ++ [(A e.1 x, e.2 ++ [(x : Int)])]
def kb (A : STP) (e : W3) (l : List W3) (x : Nat) : List W3 := (List.range x).foldl (dSt A e) l
theorem vF {l : List W3} {q : PP} : dIn l q = true ↔ q ∈ l.map Prod.fst := by
  unfold dIn
  rw [List.any_eq_true, List.mem_map]
  constructor
  · rintro ⟨e, he, h⟩; exact ⟨e, he, by simpa using h⟩
  · rintro ⟨e, he, h⟩; exact ⟨e, he, by simpa using h⟩
theorem tI {A : STP} {e : W3} {l : List W3} {x : Nat} (h : A e.1 x ∈ l.map Prod.fst) : dSt A e l x = l := if_pos (vF.2 h)
theorem qg {A : STP} {e : W3} {l : List W3} {x : Nat} (h : A e.1 x ∉ l.map Prod.fst) : dSt A e l x = l ++ [(A e.1 x, e.2 ++ [(x : Int)])] := if_neg fun k => h (vF.1 k)
theorem jQ (A : STP) (e : W3) (l : List W3) (x : Nat) : kb A e l (x + 1) = dSt A e (kb A e l x) x := by
  unfold kb; rw [List.range_succ, List.foldl_append]; rfl
theorem Ay (A : STP) (e : W3) (l : List W3) (x : Nat) : ∃ k, dSt A e l x = l ++ k := by
  unfold dSt; split
  · exact ⟨[], by simp⟩
  · exact ⟨_, rfl⟩
theorem qw (A : STP) (e : W3) (l : List W3) (x : Nat) : ∀ d, ∃ k, kb A e l (x + d) = kb A e l x ++ k
  | 0 => ⟨[], by simp⟩
  | d + 1 => by
    obtain ⟨k, h⟩ := qw A e l x d
    obtain ⟨k', h'⟩ := Ay A e (kb A e l (x + d)) (x + d)
    exact ⟨k ++ k', by rw [← Nat.add_assoc, jQ, h', h, List.append_assoc]⟩
theorem y5 (A : STP) (e : W3) (l : List W3) (x : Nat) : ∃ k, kb A e l x = l ++ k := by
  obtain ⟨k, h⟩ := qw A e l 0 x
  rw [Nat.zero_add] at h
  exact ⟨k, h⟩
def inR (n1 n2 : Nat) (q : PP) : Prop := (0 ≤ q.1 ∧ q.1 < n1) ∧ 0 ≤ q.2 ∧ q.2 < n2
structure DW (n1 n2 : Nat) (l : List W3) : Prop where
  nd : (l.map Prod.fst).Nodup
  rg : ∀ e, e ∈ l → inR n1 n2 e.1
  wl : ∀ e, e ∈ l → e.2.length < l.length
theorem u9 {l : List W3} {i : Nat} (h : i < l.length) : l.getD i w30 ∈ l := by simp [List.getD, h]
theorem DW.le {n1 n2 : Nat} {l : List W3} (h : DW n1 n2 l) : l.length ≤ n1 * n2 := by
  have hnd : ((l.map Prod.fst).map fun q : PP => q.1 * (n2 : Int) + q.2).Nodup := by
    rw [List.nodup_iff_pairwise_ne, List.pairwise_map]
    refine List.Pairwise.imp_of_mem (fun {a b} ha hb hab => ?_) (List.nodup_iff_pairwise_ne.1 h.nd)
    intro e
    obtain ⟨ea, hea, rfl⟩ := List.mem_map.1 ha
    obtain ⟨eb, heb, rfl⟩ := List.mem_map.1 hb
    have := rO (h.rg ea hea).2 (h.rg eb heb).2 e
    exact hab (Prod.ext this.1 this.2)
  have := eV (n1 * n2) _ hnd (fun x hx => by
    obtain ⟨q, hq, rfl⟩ := List.mem_map.1 hx
    obtain ⟨e, he, rfl⟩ := List.mem_map.1 hq
    have hr := h.rg e he
    have := uj hr.1 hr.2
    rw [Int.natCast_mul]; exact this)
  simpa using this
theorem DW.step {n1 n2 n : Nat} {A : STP} (hA : ∀ q, inR n1 n2 q → ∀ x, x < n → inR n1 n2 (A q x)) {l : List W3} (h : DW n1 n2 l) {e : W3} (he : e ∈ l) {x : Nat} (hx : x < n) : DW n1 n2 (dSt A e l x) := by
  by_cases hin : A e.1 x ∈ l.map Prod.fst
  · rw [tI hin]; exact h
  · rw [qg hin]
    refine ⟨?_, fun f hf => ?_, fun f hf => ?_⟩
    · rw [List.map_append, aJ, bz, List.nodup_append]
      refine ⟨h.nd, by simp, fun a ha b hb => ?_⟩
      simp at hb; subst hb
      intro hab; subst hab; exact hin ha
    · rcases List.mem_append.1 hf with hf | hf
      · exact h.rg f hf
      · simp at hf; subst hf; exact hA _ (h.rg e he) x hx
    · rw [ar, List.length_singleton]
      rcases List.mem_append.1 hf with hf | hf
      · have := h.wl f hf; omega
      · simp at hf; subst hf
        have := h.wl e he
        simp only [ar, List.length_singleton]; omega
theorem DW.row {n1 n2 n : Nat} {A : STP} (hA : ∀ q, inR n1 n2 q → ∀ x, x < n → inR n1 n2 (A q x)) {l : List W3} (h : DW n1 n2 l) {i : Nat} (hi : i < l.length) : ∀ x, x ≤ n → DW n1 n2 (kb A (l.getD i w30) l x)
  | 0, _ => by simpa [kb] using h
  | x + 1, hx => by
    rw [jQ]
    refine (h.row hA hi x (by omega)).step hA ?_ (by omega)
    obtain ⟨k, e⟩ := y5 A (l.getD i w30) l x
    rw [e]; exact List.mem_append.2 (.inl (u9 hi))
/-plain-/
/-plain-/
/-plain-/
/-plain-/
def hF (h : PP → PP) (l : List W3) : List PP := l.map fun e => h e.1
structure HOM (A B : STP) (n : Nat) (I : PP → Prop) (h : PP → PP) : Prop where
  cl : ∀ p, I p → ∀ x, x < n → I (A p x)
  eq : ∀ p, I p → ∀ x, x < n → B (h p) x = h (A p x)
/-plain-/
theorem Cd {xs ys : List Int} (h : xs.length = ys.length) (h2 : ∀ i, i < xs.length → xs.getD i 0 = ys.getD i 0) : xs = ys := by
  refine List.ext_getElem h fun i h1 h3 => ?_
  have := h2 i h1
  simpa [List.getD, h1, h3] using this
/-plain-/
def dd (f : Int → Int) (l : List Int) : List Int := (l.map f).foldl cp []
theorem xR (f : Int → Int) (l : List Int) (x : Int) : dd f (l ++ [x]) = cp (dd f l) (f x) := by
  unfold dd; rw [List.map_append, List.foldl_append]; rfl
theorem x9 {f : Int → Int} {l : List Int} {y : Int} : y ∈ dd f l ↔ ∃ x, x ∈ l ∧ f x = y := by
  unfold dd; rw [gM, List.mem_map]; simp
theorem vh (f : Int → Int) : ∀ (r l : List Int), (r.map f).foldl cp (dd f l) = dd f (r.foldl cp l)
  | [], _ => rfl
  | x :: r, l => by
    rw [aJ, List.foldl_cons, List.foldl_cons, ← vh f r (cp l x)]
    congr 1
    by_cases h : x ∈ l
    · rw [gA h, gA (x9.2 ⟨x, h, rfl⟩)]
    · rw [fe h, xR]
theorem uv : ∀ (r l : List Int), (∀ x, x ∈ r → x ∈ l) → r.foldl cp l = l
  | [], _, _ => rfl
  | x :: r, l, h => by
    rw [List.foldl_cons, gA (h x (by simp))]
    exact uv r l fun y hy => h y (by simp [hy])
theorem mD (c : List Int) {a : Nat} : ∀ {b : Nat}, a ≤ b → cN c a ≤ cN c b
  | 0, h => by
    have : a = 0 := by omega
    subst this; exact Int.le_refl _
  | b + 1, h => by
    by_cases e : a = b + 1
    · subst e; exact Int.le_refl _
    · have := mD c (a := a) (b := b) (by omega)
      simp only [cN]; omega
theorem tw {t : Mly} (ht : MOK t) : ∀ k, k ≤ t.nx.length → dd t.f (rgI k) = rgI (cN t.eqc k).toNat
  | 0, _ => rfl
  | k + 1, h => by
    have hl := (fF ht).len
    have h1 := gZ ht k (by omega)
    simp only [iV, Bool.or_eq_false_iff, decide_eq_false_iff_not] at h1
    have hn := tS t.eqc k
    have hf : t.f (k : Int) = t.eqc.getD k 0 := by unfold Mly.f; rw [ai]
    rw [rD, xR, tw ht k (by omega), hf]
    by_cases e : t.eqc.getD k 0 = cN t.eqc k
    · rw [fe (fun hm => by have := iE.1 hm; omega), show (cN t.eqc (k + 1)).toNat = (cN t.eqc k).toNat + 1 by simp only [cN]; omega, rD, e, Int.toNat_of_nonneg hn]
    · rw [gA (iE.2 ⟨by omega, by omega⟩), show (cN t.eqc (k + 1)).toNat = (cN t.eqc k).toNat by simp only [cN]; omega]
theorem pv {t : Mly} (ht : MOK t) {s : Int} (h0 : 0 ≤ s) (h1 : s < t.nx.length) : t.qm.row (t.f s) = (t.row s).map t.f := by
  have hf := nS ht h0 h1
  have hq := pV t
  have hi1 := ht.i1
  have r1 : ((t.qm.row (t.f s)).length : Int) = t.inp := (zC ht).rl (t.f s).toNat (by omega)
  have r2 : ((t.row s).length : Int) = t.inp := ht.rl s.toNat (by omega)
  refine Cd (by rw [aw]; omega) fun a ha => ?_
  rw [fg t.f 0 0 (by omega)]
  have := (xJ ht h0 h1 (a := (a : Int)) ⟨by omega, by omega⟩).2
  exact this
theorem AH {t : Mly} (ht : MOK t) (hr : t.reach = rgI t.nx.length) : ∀ (g i : Nat) (L : List Int), t.nx.length < g + i → t.rf g i L = t.reach → L = rgI L.length → L.length ≤ t.nx.length → i ≤ L.length →
    (∀ j : Nat, j < i → ∀ x, x ∈ t.row j → x ∈ L) → ∀ F, t.reps.length < F + (cN t.eqc i).toNat → t.qm.rf F (cN t.eqc i).toNat (dd t.f L) = dd t.f t.reach
  | 0, i, L, hg, _, _, hL, hi, _, F, _ => by omega
  | g + 1, i, L, hg, hrf, hp, hL, hi, hcl, F, hF => by
    have hlen := (fF ht).len
    have hK := (gY ht).len
    have hnn := tS t.eqc i
    have hdd : dd t.f L = rgI (cN t.eqc L.length).toNat := by
      have := tw ht L.length hL
      rwa [← hp] at this
    by_cases hil : i < L.length
    · have hLi : L.getD i 0 = (i : Int) := by rw [hp]; exact oT hil
      rw [gW t g i L hil, hLi] at hrf
      have hmi : (i : Int) ∈ L := by rw [← hLi]; exact br hil
      have h1 := gZ ht i (by omega)
      simp only [iV, Bool.or_eq_false_iff, decide_eq_false_iff_not] at h1
      have hm1 := mD t.eqc (a := i + 1) (b := L.length) (by omega)
      have hm2 := mD t.eqc (a := i) (b := t.nx.length) (by omega)
      have hpre : ∃ k, (t.row i).foldl cp L ++ k = rgI t.nx.length := by
        obtain ⟨k, e⟩ := kP t g (i + 1) ((t.row i).foldl cp L)
        exact ⟨k, by rw [← e, hrf, hr]⟩
      obtain ⟨k, hk⟩ := hpre
      have hp2 := qC hk
      have hL2 : ((t.row i).foldl cp L).length ≤ t.nx.length := by
        have := congrArg List.length hk
        rw [ar, di] at this; omega
      have hge := mb (t.row i) L
      have hcl2 : ∀ j : Nat, j < i + 1 → ∀ x, x ∈ t.row j → x ∈ (t.row i).foldl cp L := fun j hj x hx => by
        by_cases e : j = i
        · subst e; exact gM.2 (.inr hx)
        · exact gM.2 (.inl (hcl j (by omega) x hx))
      have hfi : t.f (i : Int) = t.eqc.getD i 0 := by unfold Mly.f; rw [ai]
      have hfold := vh t.f (t.row i) L
      by_cases e : t.eqc.getD i 0 = cN t.eqc i
      · have ec : (cN t.eqc (i + 1)).toNat = (cN t.eqc i).toNat + 1 := by simp only [cN]; omega
        have hKb : (cN t.eqc i).toNat < t.reps.length := by
          have := mD t.eqc (a := i + 1) (b := t.nx.length) (by omega)
          unfold Mly.reps; omega
        obtain ⟨F2, rfl⟩ : ∃ F2, F = F2 + 1 := ⟨F - 1, by omega⟩
        have hlt : (cN t.eqc i).toNat < (dd t.f L).length := by rw [hdd, di]; omega
        rw [gW t.qm F2 _ _ hlt]
        have hat : (dd t.f L).getD (cN t.eqc i).toNat 0 = t.f (i : Int) := by
          rw [hdd, oT (by rw [hdd, di] at hlt; exact hlt), hfi]; omega
        rw [hat, pv ht (by omega) (by omega), hfold, ← ec]
        exact AH ht hr g (i + 1) _ (by omega) hrf hp2 hL2 (by omega) hcl2 F2 (by omega)
      · have ec : (cN t.eqc (i + 1)).toNat = (cN t.eqc i).toNat := by simp only [cN]; omega
        obtain ⟨q, q1, q2⟩ := ue (gZ ht) i (by omega) (t.eqc.getD i 0) (by omega) (by omega)
        have hfq : t.f (q : Int) = t.f (i : Int) := by rw [hfi, ← q2]; unfold Mly.f; rw [ai]
        have hrow : (t.row i).map t.f = (t.row q).map t.f := by
          rw [← pv ht (by omega) (by omega), ← pv ht (by omega) (by omega), hfq]
        have hin : ((t.row i).map t.f).foldl cp (dd t.f L) = dd t.f L := uv _ _ fun y hy => by
          rw [hrow, List.mem_map] at hy
          obtain ⟨x, hx, rfl⟩ := hy
          exact x9.2 ⟨x, hcl q q1 x hx, rfl⟩
        rw [hfold] at hin
        rw [← hin, ← ec]
        exact AH ht hr g (i + 1) _ (by omega) hrf hp2 hL2 (by omega) hcl2 F (by omega)
    · have hie : i = L.length := by omega
      rw [fT t _ _ _ (by omega)] at hrf
      rw [fT t.qm _ _ _ (by rw [hdd, di, hie]; exact Nat.le_refl _), ← hrf]
theorem CE {t : Mly} (ht : MOK t) (hs : t.st = 0) (hr : t.reach = rgI t.nx.length) : CAN t.qm := by
  have hlen := (fF ht).len
  have hn1 := ht.n1
  have hK := (gY ht).len
  refine ⟨zC ht, rfl, ?_, CV ht⟩
  have h0 := gZ ht 0 (by omega)
  simp only [iV, Bool.or_eq_false_iff, decide_eq_false_iff_not] at h0
  have hz0 : cN t.eqc 0 = 0 := rfl
  have hf0 : t.f 0 = 0 := by unfold Mly.f; show t.eqc.getD 0 0 = 0; omega
  have hd0 : dd t.f [0] = [0] := by show cp [] (t.f 0) = _; rw [hf0]; rfl
  have hrf : t.rf (t.nx.length + 1) 0 [0] = t.reach := by rw [eh (dv ht), hs]
  have := AH ht hr (t.nx.length + 1) 0 [0] (by omega) hrf rfl (by simpa using hn1) (by simp) (fun j hj => by omega) (t.reps.length + 1) (by simp only [cN]; omega)
  rw [hd0] at this
  rw [eh (dv (zC ht)), pV]
  show t.qm.rf (t.reps.length + 1) 0 [0] = _
  rw [show (cN t.eqc 0).toNat = 0 from rfl] at this
  rw [this, hr, tw ht _ (Nat.le_refl _)]
  congr 1
  unfold Mly.reps; omega
def Mly.minm (m : Mly) : Mly := m.T.qm
theorem v3 {m : Mly} (hm : MOK m) : CAN m.minm := CE (rG hm) rfl (by rw [zU hm, tz]; rfl)
theorem oY {m : Mly} (hm : MOK m) (w : List Int) (hw : ∀ i : Nat, i < w.length → 0 ≤ w.getD i 0 ∧ w.getD i 0 < m.inp) : (m.minm.go 0 w).2 = (m.go m.st w).2 := by
  have ht := rG hm
  have hn := ht.n1
  have hlen := (fF ht).len
  have h0 := gZ ht 0 (by omega)
  simp only [iV, Bool.or_eq_false_iff, decide_eq_false_iff_not] at h0
  have hz0 : cN m.T.eqc 0 = 0 := rfl
  have hf0 : m.T.f 0 = 0 := by unfold Mly.f; show m.T.eqc.getD 0 0 = 0; omega
  have h1 := xG ht w 0 (by omega) (by omega) hw
  rw [hf0] at h1
  obtain ⟨k, hk⟩ := jn hm
  have h2 := (um hm (s := m.st) (by rw [hk]; simp) w hw).2.2
  rw [AM hm] at h2
  exact h1.trans h2
theorem Bi {a b : Mly} (ha : MOK a) (hb : MOK b) (hi : a.inp = b.inp) : EQ2 a b a.st b.st ↔ EQ2 a.minm b.minm 0 0 := by
  constructor
  · intro h w hw
    rw [oY ha w hw, oY hb w (by rw [← hi]; exact hw)]; exact h w hw
  · intro h w hw
    rw [← oY ha w hw, ← oY hb w (by rw [← hi]; exact hw)]; exact h w hw
theorem y6 {a b : Mly} (ha : MOK a) (hb : MOK b) (hi : a.inp = b.inp) : EQ2 a b a.st b.st ↔ a.minm = b.minm := by
  rw [Bi ha hb hi]
  constructor
  · intro h
    obtain ⟨e1, e2⟩ := Bb (v3 ha) (v3 hb) hi h
    show (⟨a.inp, 0, a.minm.nx, a.minm.ot⟩ : Mly) = ⟨b.inp, 0, b.minm.nx, b.minm.ot⟩
    rw [hi, e1, e2]
  · intro h w _
    rw [h]
/-plain-/
def Mly.qN (t : Mly) (k : Nat) : List (List Int) := (dZ t.eqc k).map fun s => (t.nx.getD s []).map t.f
def Mly.qO (t : Mly) (k : Nat) : List (List Int) := (dZ t.eqc k).map fun s => t.ot.getD s []
theorem Bz (t : Mly) (k : Nat) : (t.qN k).length = (dZ t.eqc k).length := by simp [Mly.qN]
theorem Bv (t : Mly) (k : Nat) : (t.qO k).length = (dZ t.eqc k).length := by simp [Mly.qO]
theorem oV {t : Mly} {k : Nat} (h : t.eqc.getD k 0 = cN t.eqc k) : t.qN (k + 1) = t.qN k ++ [(t.nx.getD k []).map t.f] ∧ t.qO (k + 1) = t.qO k ++ [t.ot.getD k []] := by
  unfold Mly.qN Mly.qO; rw [nn h, List.map_append, List.map_append]; exact ⟨rfl, rfl⟩
theorem oZ {t : Mly} {k : Nat} (h : ¬ t.eqc.getD k 0 = cN t.eqc k) : t.qN (k + 1) = t.qN k ∧ t.qO (k + 1) = t.qO k := by
  unfold Mly.qN Mly.qO; rw [nJ h]; exact ⟨rfl, rfl⟩
def Mly.mres (m : Mly) : Mly := if aL m = 0 then m.minm else ⟨0, 0, [], []⟩
theorem nj {m : Mly} (h : ¬ aL m = 0) : m.mres = ⟨0, 0, [], []⟩ := if_neg h
theorem uP {m : Mly} (h : aL m = 0) : m.mres = m.trim.qm := by unfold Mly.mres; rw [if_pos h, x3 h]; rfl
theorem A8 (c : List Int) (k : Nat) : (dZ c k).length ≤ k := by
  unfold dZ; exact Nat.le_trans (List.length_filter_le _ _) (by simp)
/-plain-/
def mnB (m : Mly) : Bool := decide (aL m = 0) && (decide (m.reach.length = m.nx.length) && decide (m.mres.nx.length = m.nx.length))
def dK (m : Mly) : Int := if ¬ aL m = 0 then aL m else if mnB m = true then 0 else 1
theorem Cx {m : Mly} (h : ¬ aL m = 0 ∨ ¬ m.reach.length = m.nx.length) : mnB m = false := by
  unfold mnB
  rcases h with h | h
  · rw [decide_eq_false h]; rfl
  · rw [decide_eq_false h]; simp
theorem Cq {m : Mly} (h : aL m = 0) (h2 : m.reach.length = m.nx.length) : mnB m = decide (m.mres.nx.length = m.nx.length) := by
  unfold mnB; rw [decide_eq_true h, decide_eq_true h2]; rfl
/-plain-/
def smB (m : Mly) (cl : List Int) (s t a : Nat) : Prop := cl.getD s 0 = cl.getD t 0 ∧ ∀ b : Nat, b < a → (m.ot.getD s []).getD b 0 = (m.ot.getD t []).getD b 0 ∧ cl.getD ((m.nx.getD s []).getD b 0).toNat 0 = cl.getD ((m.nx.getD t []).getD b 0).toNat 0
theorem yg {m : Mly} {cl : List Int} {s t a : Nat} (h : smB m cl s t a) : smB m cl s t (a + 1) ↔ ((m.ot.getD s []).getD a 0 = (m.ot.getD t []).getD a 0 ∧ cl.getD ((m.nx.getD s []).getD a 0).toNat 0 = cl.getD ((m.nx.getD t []).getD a 0).toNat 0) := by
  constructor
  · intro h2; exact h2.2 a (by omega)
  · intro h2
    refine ⟨h.1, fun b hb => ?_⟩
    by_cases e : b = a
    · rw [e]; exact h2
    · exact h.2 b (by omega)
theorem AI {m : Mly} (hm : MOK m) {i s t : Nat} (hs : s < m.nx.length) (ht : t < m.nx.length) : smB m (m.cls i) s t m.inp.toNat ↔ m.sig (m.cls i) s = m.sig (m.cls i) t := by
  constructor
  · intro h; exact (kY hm).2 fun a ha => h.2 a (by omega)
  · intro h
    have h1 := (kY hm).1 h
    refine ⟨?_, fun b hb => h1 b (by omega)⟩
    exact jf hm i s t hs ht ((gP hs ht).2 h)
theorem yZ {m : Mly} {cl : List Int} {s t a b : Nat} (hab : a ≤ b) (h : ¬ smB m cl s t a) : ¬ smB m cl s t b := fun h2 => h ⟨h2.1, fun c hc => h2.2 c (by omega)⟩
def fnF (m : Mly) (cl : List Int) (s k : Nat) (fd : Int) : Prop := (fd = -1 ∧ ∀ t, k ≤ t → t < s → m.sig cl s ≠ m.sig cl t) ∨ (fd = (m.nextL cl).getD s 0 ∧ ∃ t, k ≤ t ∧ t < s ∧ m.sig cl s = m.sig cl t)
theorem Be {m : Mly} {cl : List Int} {s k : Nat} (hs : s < m.nx.length) (hk : k < s) (h : m.sig cl s = m.sig cl k) : fnF m cl s k ((m.nextL cl).getD k 0) :=
  .inr ⟨((gP hs (by omega)).2 h).symm, k, Nat.le_refl _, hk, h⟩
theorem CG {m : Mly} {cl : List Int} {s k : Nat} {fd : Int} (h : fnF m cl s (k + 1) fd) (h2 : ¬ m.sig cl s = m.sig cl k) : fnF m cl s k fd := by
  rcases h with ⟨h3, h4⟩ | ⟨h3, t, h4, h5, h6⟩
  · refine .inl ⟨h3, fun t ht1 ht2 => ?_⟩
    by_cases e : t = k
    · rw [e]; exact h2
    · exact h4 t (by omega) ht2
  · exact .inr ⟨h3, t, by omega, h5, h6⟩
theorem BQ {m : Mly} {cl : List Int} {s : Nat} {fd : Int} (hs : s < m.nx.length) (h : fnF m cl s 0 fd) (h2 : fd < 0) : (m.nextL cl).getD s 0 = ((dj (m.sig cl) s).length : Int) ∧ (dj (m.sig cl) (s + 1)).length = (dj (m.sig cl) s).length + 1 := by
  rcases h with ⟨h3, h4⟩ | ⟨h3, _⟩
  · have hn : m.sig cl s ∉ dj (m.sig cl) s := fun hx => by
      obtain ⟨t, ht, e⟩ := gl.1 hx
      exact h4 t (Nat.zero_le _) ht e.symm
    refine ⟨by rw [jb hs, kK hs hn], by rw [dO, fG hn, ar]; rfl⟩
  · have := (jx (m := m) (cl := cl) hs).1; omega
theorem C0 {m : Mly} {cl : List Int} {s : Nat} {fd : Int} (h : fnF m cl s 0 fd) (h2 : ¬ fd < 0) : (m.nextL cl).getD s 0 = fd ∧ (dj (m.sig cl) (s + 1)).length = (dj (m.sig cl) s).length := by
  rcases h with ⟨h3, _⟩ | ⟨h3, t, _, h5, h6⟩
  · omega
  · refine ⟨h3.symm, by rw [dO, gB (gl.2 ⟨t, h5, h6.symm⟩)]⟩
theorem rm {l : List Int} {k j : Nat} (h : j < k) : (l.take k).getD j 0 = l.getD j 0 := by
  simp [List.getD, List.getElem?_take_of_lt h]
/-plain-/
abbrev CQ := List (List Int)
theorem lF {l r : List Int} {i : Nat} (h : i < l.length) : (l ++ r).getD i 0 = l.getD i 0 := by simp [List.getD, List.getElem?_append_left h]
def cAt (m : Mly) (t : Int) : Int := (m.cls m.nx.length).getD t.toNat 0
def nmC (m : Mly) : Nat → List Int → Int → Int
  | _, [], _ => -1
  | i, o :: O, c => if cAt m o = c then (i : Int) else nmC m (i + 1) O c
def nmO (m : Mly) (O : List Int) (c : Int) : Int := nmC m 0 O c
def gx (m : Mly) (O : List Int) : List Int := (List.range m.nx.length).map fun (c : Nat) => nmO m O c
theorem mT {m : Mly} {c : Int} : ∀ (O : List Int) (i : Nat), (nmC m i O c = -1 ∧ ∀ o ∈ O, cAt m o ≠ c) ∨ ((i : Int) ≤ nmC m i O c ∧ nmC m i O c < i + O.length ∧ ∃ o ∈ O, cAt m o = c)
  | [], i => .inl ⟨rfl, fun o h => by cases h⟩
  | o :: O, i => by
    by_cases e : cAt m o = c
    · have : nmC m i (o :: O) c = i := if_pos e
      rw [this]
      exact .inr ⟨by omega, by simp only [ax]; omega, o, aV .., e⟩
    · have : nmC m i (o :: O) c = nmC m (i + 1) O c := if_neg e
      rw [this]
      rcases mT (c := c) O (i + 1) with ⟨h1, h2⟩ | ⟨h1, h2, o2, h3, h4⟩
      · exact .inl ⟨h1, fun o' ho => Or.elim (List.mem_cons.1 ho) (fun h9 => h9 ▸ e) (fun h9 => h2 o' h9)⟩
      · exact .inr ⟨by omega, by simp only [ax]; omega, o2, aM _ h3, h4⟩
theorem vB {m : Mly} {c t : Int} : ∀ (O : List Int) (i : Nat), nmC m i (O ++ [t]) c = if nmC m i O c = -1 then (if cAt m t = c then ((i + O.length : Nat) : Int) else -1) else nmC m i O c
  | [], i => by show (if _ then _ else _) = _; simp [nmC]
  | o :: O, i => by
    by_cases e : cAt m o = c
    · have h1 : nmC m i (o :: O) c = i := if_pos e
      have h2 : nmC m i (o :: O ++ [t]) c = i := if_pos e
      rw [h1, h2, if_neg (by omega)]
    · have h1 : nmC m i (o :: O) c = nmC m (i + 1) O c := if_neg e
      have h2 : nmC m i (o :: O ++ [t]) c = nmC m (i + 1) (O ++ [t]) c := if_neg e
      rw [h1, h2, vB O (i + 1), ax, show i + 1 + O.length = i + (O.length + 1) by omega]
theorem bH (m : Mly) (O : List Int) : (gx m O).length = m.nx.length := by simp [gx]
theorem yn {m : Mly} {O : List Int} {c : Nat} (h : c < m.nx.length) : (gx m O).getD c 0 = nmO m O c := by unfold gx; simp [List.getD, h]
theorem tc {m : Mly} {O : List Int} {t : Int} {c : Nat} (h : c < m.nx.length) (hc : cAt m t = c) (hn : nmO m O c < 0) : (gx m O).set c (O.length : Int) = gx m (O ++ [t]) := by
  have hn1 : nmO m O c = -1 := by
    rcases mT (m := m) (c := (c : Int)) O 0 with ⟨h1, _⟩ | ⟨h1, _⟩
    · exact h1
    · unfold nmO at hn; omega
  apply List.ext_getElem
  · simp [gx]
  · intro i h1 h2
    have hi : i < m.nx.length := by simpa [gx] using h2
    rw [List.getElem_set]
    unfold gx nmO
    simp only [List.getElem_map, List.getElem_range, vB]
    by_cases e : c = i
    · subst e
      have hn2 : nmC m 0 O (c : Int) = -1 := hn1
      rw [if_pos rfl, if_pos hn2, if_pos hc]; simp
    · rw [if_neg e]
      by_cases e2 : nmC m 0 O (i : Int) = -1
      · rw [if_pos e2, if_neg (by rw [hc]; omega)]; exact e2
      · rw [if_neg e2]
theorem yD (m : Mly) : gx m [] = List.replicate m.nx.length (-1) := by
  unfold gx nmO nmC; simp [List.map_const']
def mmA (m : Mly) (O : List Int) (t : Int) : List Int := if nmO m O (cAt m t) < 0 then O ++ [t] else O
def sQ (m : Mly) (x : Int) (p : List Int × List Int) (a : Nat) : List Int × List Int := (mmA m p.1 (m.nxt x a), p.2 ++ [nmO m (mmA m p.1 (m.nxt x a)) (cAt m (m.nxt x a))])
def d4 (m : Mly) (x : Int) (O : List Int) (k : Nat) : List Int × List Int := (List.range k).foldl (sQ m x) (O, [])
theorem gh {m : Mly} {x : Int} {O : List Int} {k : Nat} : d4 m x O (k + 1) = sQ m x (d4 m x O k) k := by unfold d4; rw [List.range_succ, List.foldl_append]; rfl
def nU (m : Mly) : Nat → Nat → List Int × List (List Int) → List Int × List (List Int)
  | 0, _, p => p
  | f + 1, i, p => if i < p.1.length then nU m f (i + 1) ((d4 m (p.1.getD i 0) p.1 m.inp.toNat).1, p.2 ++ [(d4 m (p.1.getD i 0) p.1 m.inp.toNat).2]) else p
def mmF (m : Mly) : List Int × List (List Int) := nU m (m.nx.length + 1) 0 ([m.st], [])
theorem qL {m : Mly} {f i : Nat} {p : List Int × List (List Int)} (h : i < p.1.length) : nU m (f + 1) i p = nU m f (i + 1) ((d4 m (p.1.getD i 0) p.1 m.inp.toNat).1, p.2 ++ [(d4 m (p.1.getD i 0) p.1 m.inp.toNat).2]) := if_pos h
theorem sK {m : Mly} {f i : Nat} {p : List Int × List (List Int)} (h : ¬ i < p.1.length) : nU m f i p = p := by
  cases f with
  | zero => rfl
  | succ f => exact if_neg h
structure MO (m : Mly) (O : List Int) : Prop where
  rng : ∀ o ∈ O, 0 ≤ o ∧ o < m.nx.length
  cd : O.Pairwise fun x y => cAt m x ≠ cAt m y
theorem MO.nd {m : Mly} {O : List Int} (h : MO m O) : O.Nodup := h.cd.imp fun h e => h (by rw [e])
theorem MO.len {m : Mly} {O : List Int} (h : MO m O) : O.length ≤ m.nx.length := eV _ _ h.nd h.rng
theorem Bf {m : Mly} {O : List Int} {t : Int} (h : MO m O) (ht : 0 ≤ t ∧ t < m.nx.length) : MO m (mmA m O t) := by
  unfold mmA
  split
  · rename_i hn
    refine ⟨fun o ho => ?_, ?_⟩
    · rcases List.mem_append.1 ho with h1 | h1
      · exact h.rng o h1
      · rw [List.mem_singleton] at h1; rw [h1]; exact ht
    · rw [List.pairwise_append]
      refine ⟨h.cd, List.pairwise_singleton _ _, fun x hx y hy => ?_⟩
      rw [List.mem_singleton] at hy; subst hy
      rcases mT (m := m) (c := cAt m y) O 0 with ⟨_, h2⟩ | ⟨h2, _⟩
      · exact h2 x hx
      · unfold nmO at hn; omega
  · exact h
theorem kN {m : Mly} (hm : MOK m) {x : Int} (hx : 0 ≤ x ∧ x < m.nx.length) {O : List Int} (h : MO m O) : ∀ k : Nat, (k : Int) ≤ m.inp → MO m (d4 m x O k).1 ∧ (d4 m x O k).2.length = k ∧ ∃ r, (d4 m x O k).1 = O ++ r
  | 0, _ => ⟨h, rfl, [], (List.append_nil _).symm⟩
  | k + 1, hk => by
    obtain ⟨h1, h2, r, h3⟩ := kN hm hx h k (by omega)
    rw [gh]
    refine ⟨Bf h1 (hm.nr x.toNat k (by omega) (by omega)), by show (_ ++ [_]).length = _; rw [ar, h2]; rfl, ?_⟩
    show ∃ r, mmA m (d4 m x O k).1 _ = O ++ r
    unfold mmA
    split
    · exact ⟨r ++ [m.nxt x k], by rw [h3, List.append_assoc]⟩
    · exact ⟨r, h3⟩
theorem uw {m : Mly} (hm : MOK m) {t : Int} (ht : 0 ≤ t ∧ t < m.nx.length) : 0 ≤ cAt m t ∧ cAt m t < m.nx.length := pu hm _ _ (by omega)
/-plain-/
def mmB (m : Mly) : Bool := decide (aL m = 0) && decide ((mmF m).2.length = m.nx.length)
def js (m : Mly) : Int := if ¬ aL m = 0 then aL m else if mmB m = true then 0 else 1
/-plain-/
def cmL (x : bj) : Bool := !(decide (x.2.1 = -1) && !decide (x.1.length = 1))
def kA (T : List bj) : Bool := T.all cmL && decide (0 < T.length)
def fm (m : Mly) (T : List bj) : Int := if ¬ dK m = 0 then dK m else if 4096 < T.length ∨ ¬ rtF m T (T.length + 1) 0 (rgI m.nx.length) (rgI m.nx.length) = some T.length then 1 else 0
theorem kQ (m : Mly) : dm m (rgI m.nx.length) := by
  intro s hs
  unfold rgI at hs
  obtain ⟨q, hq, rfl⟩ := List.mem_map.1 hs
  have := List.mem_range.1 hq
  omega
/-plain-/
/-plain-/
theorem bG (n : Nat) : (List.range n).map (fun (i : Nat) => (i : Int)) = rgI n := rfl
theorem nf {m : Mly} (h : dK m = 0) : aL m = 0 := by
  unfold dK at h
  by_cases hv : aL m = 0
  · exact hv
  · rw [if_pos hv] at h; exact absurd h hv
theorem B4 {m : Mly} {T : List bj} {f p : Nat} {ini cur : List Int} (h : (rtF m T f p ini cur).isSome = false ∨ ¬ rtP m T f p ini cur = (T.length : Int)) : ¬ rtF m T f p ini cur = some T.length := by
  intro e
  rcases h with h | h
  · rw [e] at h; cases h
  · exact h (dz e)
theorem zX {m : Mly} {T : List bj} {f p : Nat} {ini cur : List Int} (h : (rtF m T f p ini cur).isSome = true ∧ rtP m T f p ini cur = (T.length : Int)) : rtF m T f p ini cur = some T.length := by
  obtain ⟨n, e⟩ := Option.isSome_iff_exists.1 h.1
  have h2 := h.2
  rw [dz e] at h2
  rw [e]; congr 1; omega
/-plain-/
structure MIN12 (m : Mly) : Prop where
  rc : ∀ s : Int, 0 ≤ s → s < m.nx.length → s ∈ m.reach
  ds : ∀ s t : Int, 0 ≤ s → s < m.nx.length → 0 ≤ t → t < m.nx.length → EQV m s t → s = t
theorem oO (n : Nat) : (rgI n).Nodup := List.pairwise_map.2 (List.nodup_range.imp fun {a b} h e => h (by omega))
theorem uq {n : Nat} {l : List Int} (hn : l.Nodup) (hr : ∀ x, x ∈ l → 0 ≤ x ∧ x < n) (hl : l.length = n) {s : Int} (h0 : 0 ≤ s) (h1 : s < n) : s ∈ l := by
  by_cases e : s ∈ l
  · exact e
  · exfalso
    have := eV n (s :: l) (List.nodup_cons.2 ⟨e, hn⟩) (fun x hx => by
      rcases List.mem_cons.1 hx with h | h
      · rw [h]; exact ⟨h0, h1⟩
      · exact hr x h)
    simp only [ax] at this
    omega
theorem sw {n : Nat} {l : List Int} (h : ∀ s : Int, 0 ≤ s → s < n → s ∈ l) : n ≤ l.length := by
  have h1 := oO n
  have h2 := eM (rgI n) l h1 fun x hx => by
    unfold rgI at hx
    obtain ⟨q, hq, rfl⟩ := List.mem_map.1 hx
    have := List.mem_range.1 hq
    exact h _ (by omega) (by omega)
  rw [di] at h2; exact h2
theorem zf (t : Mly) : t.reps.length ≤ t.nx.length := by
  unfold Mly.reps dZ
  exact Nat.le_trans (List.length_filter_le _ _) (by simp)
theorem C8 {t : Mly} (ht : MOK t) (h : t.reps.length = t.nx.length) {s : Int} (h0 : 0 ≤ s) (h1 : s < t.nx.length) : t.f s = s := by
  have e : t.reps = List.range t.nx.length := by
    unfold Mly.reps dZ at h ⊢
    refine List.filter_eq_self.2 ?_
    refine List.length_filter_eq_length_iff.1 ?_
    rw [h]; simp
  have h2 := ((gY ht).at_ s.toNat (by
    have : (dZ t.eqc t.nx.length).length = t.nx.length := h
    omega)).2
  have h3 : (dZ t.eqc t.nx.length).getD s.toNat 0 = s.toNat := by
    have : dZ t.eqc t.nx.length = List.range t.nx.length := e
    rw [this]
    simp [List.getD, show s.toNat < t.nx.length by omega]
  rw [h3] at h2
  show t.eqc.getD s.toNat 0 = s
  rw [h2]; omega
theorem uB {m : Mly} (hv : aL m = 0) : mnB m = true ↔ MIN12 m := by
  have hm := eJ hv
  have ht := rG hm
  have hT : m.T.nx.length = m.reach.length := tz m
  have hR := gk hm
  have hmr : m.mres.nx.length = m.T.reps.length := by unfold Mly.mres; rw [if_pos hv]; exact pV m.T
  unfold mnB
  rw [decide_eq_true hv, Bool.true_and, Bool.and_eq_true, decide_eq_true_eq, decide_eq_true_eq, hmr]
  constructor
  · rintro ⟨h1, h2⟩
    have hrc : ∀ s : Int, 0 ≤ s → s < m.nx.length → s ∈ m.reach := fun s h0 h3 => uq hR.nd hR.rng h1 h0 h3
    refine ⟨hrc, fun s t s0 s1 t0 t1 he => ?_⟩
    have hs := hrc s s0 s1
    have htt := hrc t t0 t1
    have x1 := ma hm hs
    have x2 := ma hm htt
    have he2 : EQV m.T (m.ix s) (m.ix t) := fun w hw => by
      rw [(um hm hs w hw).2.2, (um hm htt w hw).2.2]; exact he w hw
    have h3 := (mJ ht (by omega) (by omega) (by omega) (by omega)).2 he2
    have f1 := C8 ht (by omega) (s := m.ix s) (by omega) (by omega)
    have f2 := C8 ht (by omega) (s := m.ix t) (by omega) (by omega)
    exact xQ hm hs htt (by
      rw [← f1, ← f2]; exact h3)
  · intro h
    have h1 : m.reach.length = m.nx.length := Nat.le_antisymm hR.len (sw h.rc)
    refine ⟨h1, ?_⟩
    have hle := zf m.T
    refine Nat.le_antisymm (by omega) ?_
    have hnd : ((rgI m.nx.length).map m.T.f).Nodup := by
      have h0 := oO m.nx.length
      refine List.pairwise_map.2 (List.Pairwise.imp_of_mem (fun {a b} ha hb hne e => hne ?_) h0)
      have ra := iE.1 ha
      have rb := iE.1 hb
      have he := (mJ ht (s := a) (t := b) (by omega) (by omega) (by omega) (by omega)).1 e
      have ga : m.reach.getD a.toNat 0 ∈ m.reach := br (by omega)
      have gb : m.reach.getD b.toNat 0 ∈ m.reach := br (by omega)
      have ia := nD hm (i := a.toNat) (by omega)
      have ib := nD hm (i := b.toNat) (by omega)
      have he2 : EQV m (m.reach.getD a.toNat 0) (m.reach.getD b.toNat 0) := fun w hw => by
        rw [← (um hm ga w hw).2.2, ← (um hm gb w hw).2.2, ia, ib]
        rw [show ((a.toNat : Nat) : Int) = a by omega, show ((b.toNat : Nat) : Int) = b by omega]
        exact he w hw
      have r1 := hR.rng _ ga
      have r2 := hR.rng _ gb
      have := h.ds _ _ r1.1 r1.2 r2.1 r2.2 he2
      have := gT hR.nd (by omega) (by omega) this
      omega
    have := eV m.T.reps.length _ hnd (fun x hx => by
      obtain ⟨y, hy, rfl⟩ := List.mem_map.1 hx
      have ry := iE.1 hy
      exact nS ht (by omega) (by omega))
    rw [aw, di] at this
    exact this
theorem xb {m : Mly} {P : Int → Prop} (hc : ∀ x, P x → ∀ y, y ∈ m.row x → P y) : ∀ (f i : Nat) (l : List Int), (∀ x, x ∈ l → P x) → ∀ x, x ∈ m.rf f i l → P x
  | 0, _, _, h => h
  | f + 1, i, l, h => by
    intro x hx
    rw [Mly.rf] at hx
    split at hx
    · rename_i hi
      refine xb hc f (i + 1) _ (fun y hy => ?_) x hx
      rcases gM.1 hy with h1 | h1
      · exact h y h1
      · exact hc _ (h _ (br hi)) y h1
    · exact h x hx
theorem tg {m : Mly} (hm : MOK m) {s t : Nat} (hs : s < m.nx.length) (ht : t < m.nx.length) : ∀ (d j : Nat), (m.cls (j + d)).getD s 0 = (m.cls (j + d)).getD t 0 → (m.cls j).getD s 0 = (m.cls j).getD t 0
  | 0, _, h => h
  | d + 1, j, h => tg hm hs ht d j (jf hm (j + d) s t hs ht h)
theorem uQ {m : Mly} (hm : MOK m) {s t : Int} (s0 : 0 ≤ s) (s1 : s < m.nx.length) (t0 : 0 ≤ t) (t1 : t < m.nx.length) : cAt m s = cAt m t ↔ EQV m s t := by
  constructor
  · intro h
    refine (mJ hm s0 s1 t0 t1).1 ?_
    obtain ⟨j, h1, h2, _⟩ := l7 hm
    rw [h1]
    refine tg hm (by omega) (by omega) (m.nx.length - j) j ?_
    rw [show j + (m.nx.length - j) = m.nx.length by omega]
    exact h
  · intro h
    exact pb hm m.nx.length s.toNat t.toNat (by omega) (by omega) (by rw [Int.toNat_of_nonneg s0, Int.toNat_of_nonneg t0]; exact h)
theorem Az {m : Mly} (O : List Int) (t : Int) : ∃ o, o ∈ mmA m O t ∧ cAt m o = cAt m t := by
  unfold mmA
  split
  · exact ⟨t, by simp, rfl⟩
  · rename_i hn
    rcases mT (m := m) (c := cAt m t) O 0 with ⟨h1, _⟩ | ⟨_, _, o, h2, h3⟩
    · unfold nmO at hn; omega
    · exact ⟨o, h2, h3⟩
theorem z9 {m : Mly} {O : List Int} {t x : Int} (h : x ∈ mmA m O t) : x ∈ O ∨ x = t := by
  unfold mmA at h
  split at h
  · rcases List.mem_append.1 h with h | h
    · exact .inl h
    · exact .inr (List.mem_singleton.1 h)
  · exact .inl h
theorem vq {m : Mly} {O : List Int} {t x : Int} (h : x ∈ O) : x ∈ mmA m O t := by
  unfold mmA; split
  · exact List.mem_append_left _ h
  · exact h
theorem B1 {m : Mly} (hm : MOK m) {x : Int} (hx : 0 ≤ x ∧ x < m.nx.length) {a : Nat} (ha : (a : Int) < m.inp) : m.nxt x a ∈ m.row x := by
  have := hm.rl x.toNat (by omega)
  exact br (by unfold Mly.row; omega)
theorem rF {m : Mly} (hm : MOK m) {x : Int} (hx : 0 ≤ x ∧ x < m.nx.length) (hr : x ∈ m.reach) {O : List Int} (hO : ∀ o ∈ O, o ∈ m.reach) : ∀ k : Nat, (k : Int) ≤ m.inp →
    (∀ o ∈ (d4 m x O k).1, o ∈ m.reach) ∧ (∀ o ∈ O, o ∈ (d4 m x O k).1) ∧ ∀ a : Nat, a < k → ∃ o, o ∈ (d4 m x O k).1 ∧ cAt m o = cAt m (m.nxt x a)
  | 0, _ => ⟨hO, fun o h => h, fun a h => by omega⟩
  | k + 1, hk => by
    obtain ⟨h1, h2, h3⟩ := rF hm hx hr hO k (by omega)
    rw [gh]
    refine ⟨fun o ho => ?_, fun o ho => vq (h2 o ho), fun a ha => ?_⟩
    · rcases z9 ho with h | h
      · exact h1 o h
      · rw [h]; exact fQ hm hr (B1 hm hx (by omega))
    · by_cases e : a = k
      · rw [e]; exact Az _ _
      · obtain ⟨o, h4, h5⟩ := h3 a (by omega)
        exact ⟨o, vq h4, h5⟩
structure MMI (m : Mly) (i : Nat) (p : List Int × List (List Int)) : Prop where
  mo : MO m p.1
  rc : ∀ o ∈ p.1, o ∈ m.reach
  st : m.st ∈ p.1
  ln : p.2.length = i
  le : i ≤ p.1.length
  cl : ∀ j, j < i → ∀ a : Nat, (a : Int) < m.inp → ∃ o, o ∈ p.1 ∧ cAt m o = cAt m (m.nxt (p.1.getD j 0) a)
theorem sE {m : Mly} (hm : MOK m) : ∀ (f i : Nat) (p : List Int × List (List Int)), m.nx.length < f + i → MMI m i p → MMI m (nU m f i p).1.length (nU m f i p)
  | 0, i, p, h, hI => by
    have := hI.mo.len; have := hI.le; omega
  | f + 1, i, p, h, hI => by
    by_cases e : i < p.1.length
    · rw [qL e]
      have hx := hI.mo.rng _ (br e)
      have hi := hm.i1
      obtain ⟨r1, r2, r, r3⟩ := kN hm hx hI.mo m.inp.toNat (by omega)
      obtain ⟨s1, s2, s3⟩ := rF hm hx (hI.rc _ (br e)) hI.rc m.inp.toNat (by omega)
      refine sE hm f (i + 1) _ (by omega) ⟨r1, s1, s2 _ hI.st, by simp [hI.ln], ?_, fun j hj a ha => ?_⟩
      · show i + 1 ≤ (d4 m (p.1.getD i 0) p.1 m.inp.toNat).1.length
        rw [r3, ar]; omega
      · have hg : (d4 m (p.1.getD i 0) p.1 m.inp.toNat).1.getD j 0 = p.1.getD j 0 := by rw [r3, lF (by omega)]
        show ∃ o, o ∈ (d4 m (p.1.getD i 0) p.1 m.inp.toNat).1 ∧ cAt m o = cAt m (m.nxt ((d4 m (p.1.getD i 0) p.1 m.inp.toNat).1.getD j 0) a)
        rw [hg]
        by_cases e2 : j = i
        · rw [e2]; exact s3 a (by omega)
        · obtain ⟨o, h1, h2⟩ := hI.cl j (by omega) a ha
          exact ⟨o, s2 o h1, h2⟩
    · rw [sK e]
      have : i = p.1.length := by have := hI.le; omega
      rw [← this]; exact hI
theorem AA {m : Mly} (hm : MOK m) : MMI m (mmF m).1.length (mmF m) := by
  have hs1 := hm.s1; have hs2 := hm.s2
  refine sE hm _ _ _ (by omega) ⟨⟨fun o ho => ?_, List.pairwise_singleton _ _⟩, fun o ho => ?_, by simp, rfl, Nat.zero_le _, fun j hj => by omega⟩
  · rw [List.mem_singleton] at ho; rw [ho]; exact ⟨hs1, hs2⟩
  · rw [List.mem_singleton] at ho; rw [ho]
    obtain ⟨k, hk⟩ := jn hm
    rw [hk]; exact aV ..
theorem zK {m : Mly} (hv : aL m = 0) : mmB m = true ↔ MIN12 m := by
  have hm := eJ hv
  have hI := AA hm
  unfold mmB
  rw [decide_eq_true hv, Bool.true_and, decide_eq_true_eq, hI.ln]
  constructor
  · intro h1
    have hall : ∀ s : Int, 0 ≤ s → s < m.nx.length → s ∈ (mmF m).1 := fun s h0 h2 => uq hI.mo.nd hI.mo.rng h1 h0 h2
    refine ⟨fun s h0 h2 => hI.rc s (hall s h0 h2), fun s t s0 s1 t0 t1 he => ?_⟩
    have hc := (uQ hm s0 s1 t0 t1).2 he
    obtain ⟨i, hi, ei⟩ := fW (hall s s0 s1)
    obtain ⟨j, hj, ej⟩ := fW (hall t t0 t1)
    have gi : (mmF m).1.getD i 0 = (mmF m).1[i] := by simp [List.getD, hi]
    have gj : (mmF m).1.getD j 0 = (mmF m).1[j] := by simp [List.getD, hj]
    rcases Nat.lt_trichotomy i j with h | h | h
    · exact absurd (by rw [← gi, ← gj, ei, ej]; exact hc) (List.pairwise_iff_getElem.1 hI.mo.cd i j hi hj h)
    · subst h; rw [← ei, ← ej]
    · exact absurd (by rw [← gi, ← gj, ei, ej]; exact hc.symm) (List.pairwise_iff_getElem.1 hI.mo.cd j i hj hi h)
  · intro h
    refine Nat.le_antisymm hI.mo.len (sw fun s h0 h1 => ?_)
    have hs := h.rc s h0 h1
    rw [eh hv] at hs
    refine xb (P := fun x => x ∈ (mmF m).1) (fun x hx y hy => ?_) _ _ _ (fun x hx => ?_) s hs
    · obtain ⟨j, hj, ej⟩ := fW hx
      have rx := hI.mo.rng x hx
      obtain ⟨a, ha, ea⟩ := fW hy
      have hrl := hm.rl x.toNat (by omega)
      obtain ⟨o, o1, o2⟩ := hI.cl j hj a (by unfold Mly.row at ha; omega)
      rw [ej] at o2
      have ro := hI.mo.rng o o1
      have e2 : m.nxt x a = y := by rw [← ea]; rfl
      rw [e2] at o2
      have ry := gV hm (s := x) (by omega) (by omega) y hy
      have := h.ds _ _ ro.1 ro.2 ry.1 ry.2 ((uQ hm ro.1 ro.2 ry.1 ry.2).1 o2)
      rw [← this]; exact o1
    · rw [List.mem_singleton] at hx; rw [hx]; exact hI.st
theorem zR {m : Mly} : mnB m = mmB m := by
  by_cases hv : aL m = 0
  · rw [Bool.eq_iff_iff, uB hv, zK hv]
  · unfold mnB mmB; rw [decide_eq_false hv]; rfl
theorem Ac (m : Mly) : dK m = js m := by unfold dK js; rw [zR]
theorem Ax {m : Mly} (h : dK m = 0) : aL m = 0 ∧ MIN12 m := by
  have hv := nf h
  refine ⟨hv, (uB hv).1 ?_⟩
  unfold dK at h
  rw [if_neg (fun h9 => h9 hv)] at h
  cases hb : mnB m with
  | true => rfl
  | false => rw [hb] at h; cases h
/-plain-/
theorem jL {xs : List Int} {j : Nat} (h : j < xs.length) : xs.getD j 0 = xs[j] := by simp [List.getD, h]
def kTo (K : List dX) (o : Int) : Int := match K.find? (fun k => decide (k.1 = o)) with | some k => k.2.1 | none => 0
def wdG (m : Mly) (T : List bj) : Nat → Nat → Int → List Int × Nat
  | 0, p, _ => ([], p)
  | f + 1, p, s => if (T.getD p nd0).2.1 < 0 then ([], p) else
    ((T.getD p nd0).2.1 :: (wdG m T f (kTo (T.getD p nd0).2.2.1 (m.out s (T.getD p nd0).2.1)).toNat (m.nxt s (T.getD p nd0).2.1)).1, (wdG m T f (kTo (T.getD p nd0).2.2.1 (m.out s (T.getD p nd0).2.1)).toNat (m.nxt s (T.getD p nd0).2.1)).2)
theorem kv {m : Mly} {T : List bj} {f p : Nat} {s : Int} (h : (T.getD p nd0).2.1 < 0) : wdG m T f p s = ([], p) := by
  cases f with
  | zero => rfl
  | succ f => exact if_pos h
theorem jM {m : Mly} {T : List bj} {f p : Nat} {s : Int} (h : ¬ (T.getD p nd0).2.1 < 0) : wdG m T (f + 1) p s =
    ((T.getD p nd0).2.1 :: (wdG m T f (kTo (T.getD p nd0).2.2.1 (m.out s (T.getD p nd0).2.1)).toNat (m.nxt s (T.getD p nd0).2.1)).1, (wdG m T f (kTo (T.getD p nd0).2.2.1 (m.out s (T.getD p nd0).2.1)).toNat (m.nxt s (T.getD p nd0).2.1)).2) := if_neg h
theorem oM : ∀ {K : List dX} {i : Nat} {o : Int}, i < K.length → (K.getD i kd0).1 = o → (∀ j, j < i → (K.getD j kd0).1 ≠ o) → kTo K o = (K.getD i kd0).2.1
  | k :: K, 0, o, _, h, _ => by
    have h' : k.1 = o := h
    unfold kTo; rw [List.find?_cons, decide_eq_true h']; rfl
  | k :: K, i + 1, o, hi, h, hn => by
    have h0 : ¬ k.1 = o := hn 0 (by omega)
    have ih := oM (K := K) (i := i) (o := o) (by simpa using hi) (by simpa [List.getD] using h) (fun j hj => by have := hn (j + 1) (by omega); simpa [List.getD] using this)
    unfold kTo at ih ⊢
    rw [List.find?_cons, decide_eq_false h0]
    simpa [List.getD] using ih
  | [], _, _, h, _, _ => by simp at h
structure RTI (m : Mly) (T : List bj) (p : Nat) (s : Int) : Prop where
  ex : ∃ f ini cur n, rtF m T f p ini cur = some n ∧ s ∈ cur ∧ dm m cur
theorem t9 {m : Mly} {T : List bj} {rec : Nat → List Int → List Int → Option Nat} (hr : ∀ e i c n, rec e i c = some n → e < n ∧ n ≤ T.length) {ini cur : List Int} {x : bj} {p : Nat} : ∀ (k n : Nat), (List.range k).foldl (fD m rec ini cur x) (some (p + 1)) = some n →
    (p + 1 ≤ n) ∧ ∀ i, i < k → ∃ e n2, p + 1 ≤ e ∧ (x.2.2.1.getD i kd0).1 = (aG (ouL m cur x.2.1)).getD i 0 ∧ (x.2.2.1.getD i kd0).2.1 = (e : Int) ∧ rec e (cw m ini cur x.2.1 cur.length ((aG (ouL m cur x.2.1)).getD i 0)) (bV m cur x.2.1 cur.length ((aG (ouL m cur x.2.1)).getD i 0)) = some n2
  | 0, n, h => by
    simp only [List.range_zero, List.foldl_nil, Option.some.injEq] at h
    exact ⟨by omega, fun i hi => by omega⟩
  | k + 1, n, h => by
    rw [List.range_succ, List.foldl_append, List.foldl_cons, List.foldl_nil] at h
    cases h1 : (List.range k).foldl (fD m rec ini cur x) (some (p + 1)) with
    | none => rw [h1] at h; cases h
    | some e =>
      rw [h1] at h
      obtain ⟨h2, h3⟩ := t9 hr k e h1
      by_cases hk : (x.2.2.1.getD k kd0).1 = (aG (ouL m cur x.2.1)).getD k 0 ∧ (x.2.2.1.getD k kd0).2.1 = (e : Int)
      · rw [kL hk] at h
        have h4 := hr _ _ _ _ h
        refine ⟨by omega, fun i hi => ?_⟩
        by_cases e9 : i = k
        · subst e9; exact ⟨e, n, h2, hk.1, hk.2, h⟩
        · exact h3 i (by omega)
      · rw [qt hk] at h; cases h
theorem mQ {m : Mly} {T : List bj} {f p n : Nat} {ini cur : List Int} (h : rtF m T (f + 1) p ini cur = some n) : (p < T.length ∧ (T.getD p nd0).1 = ini ∧ cur.Nodup) ∧
    (((T.getD p nd0).2.1 = -1 ∧ (T.getD p nd0).2.2.1.length = 0 ∧ n = p + 1) ∨
     (0 ≤ (T.getD p nd0).2.1 ∧ (T.getD p nd0).2.1 < m.inp ∧ (aG (ouL m cur (T.getD p nd0).2.1)).length = (T.getD p nd0).2.2.1.length ∧ (List.range (T.getD p nd0).2.2.1.length).foldl (fD m (rtF m T f) ini cur (T.getD p nd0)) (some (p + 1)) = some n)) := by
  by_cases h1 : p < T.length ∧ (T.getD p nd0).1 = ini ∧ cur.Nodup
  · refine ⟨h1, ?_⟩
    by_cases h2 : (T.getD p nd0).2.1 = -1
    · rw [dH h1 h2] at h
      by_cases h3 : (T.getD p nd0).2.2.1.length = 0
      · rw [if_pos h3] at h; cases h; exact .inl ⟨h2, h3, rfl⟩
      · rw [if_neg h3] at h; cases h
    · by_cases h3 : 0 ≤ (T.getD p nd0).2.1 ∧ (T.getD p nd0).2.1 < m.inp ∧ (aG (ouL m cur (T.getD p nd0).2.1)).length = (T.getD p nd0).2.2.1.length
      · rw [nz h1 h2 h3] at h
        exact .inr ⟨h3.1, h3.2.1, h3.2.2, h⟩
      · rw [pQ h2 h3] at h; cases h
  · rw [oX h1] at h; cases h
theorem AG {m : Mly} {cur : List Int} {a s : Int} (h : s ∈ cur) : m.nxt s a ∈ bV m cur a cur.length (m.out s a) := by
  obtain ⟨q, hq, rfl⟩ := nQ.1 h
  unfold bV cO pkL
  rw [List.map_map]
  exact List.mem_map.2 ⟨(q : Int), mI.2 ⟨q, hq, rfl, rfl⟩, by simp⟩
theorem zt {m : Mly} (hm : MOK m) {T : List bj} {p : Nat} {s : Int} (h : RTI m T p s) (h0 : ¬ (T.getD p nd0).2.1 < 0) : p < T.length ∧ (0 ≤ s ∧ s < m.nx.length) ∧ (0 ≤ (T.getD p nd0).2.1 ∧ (T.getD p nd0).2.1 < m.inp) ∧
    ∃ i, i < (T.getD p nd0).2.2.1.length ∧ ((T.getD p nd0).2.2.1.getD i kd0).1 = m.out s (T.getD p nd0).2.1 ∧ (∀ j, j < (T.getD p nd0).2.2.1.length → ((T.getD p nd0).2.2.1.getD j kd0).1 = m.out s (T.getD p nd0).2.1 → j = i) ∧
      (p : Int) < ((T.getD p nd0).2.2.1.getD i kd0).2.1 ∧ ((T.getD p nd0).2.2.1.getD i kd0).2.1 < T.length ∧ RTI m T ((T.getD p nd0).2.2.1.getD i kd0).2.1.toNat (m.nxt s (T.getD p nd0).2.1) := by
  obtain ⟨f, ini, cur, n, hr, hs, hst⟩ := h.ex
  cases f with
  | zero => cases hr
  | succ f =>
    obtain ⟨hn, hk⟩ := mQ hr
    refine ⟨hn.1, hst s hs, ?_⟩
    rcases hk with ⟨h1, _⟩ | ⟨h1, h2, h3, h4⟩
    · omega
    · refine ⟨⟨h1, h2⟩, ?_⟩
      obtain ⟨_, hall⟩ := t9 (fun e i c n h => eT h) _ _ h4
      have hin : m.out s (T.getD p nd0).2.1 ∈ aG (ouL m cur (T.getD p nd0).2.1) := ((dC _).2 _).2 (List.mem_map.2 ⟨s, hs, rfl⟩)
      have hpl := gS hin
      have hgp := jO hin
      refine ⟨pos (aG (ouL m cur (T.getD p nd0).2.1)) (m.out s (T.getD p nd0).2.1), by omega, ?_, ?_, ?_⟩
      · obtain ⟨e, n2, _, h5, _⟩ := hall _ (by omega : pos (aG (ouL m cur (T.getD p nd0).2.1)) (m.out s (T.getD p nd0).2.1) < (T.getD p nd0).2.2.1.length)
        rw [h5]; exact hgp
      · intro j hj he
        obtain ⟨e, n2, _, h5, _⟩ := hall j hj
        rw [h5] at he
        have hso := (dC (ouL m cur (T.getD p nd0).2.1)).1
        have e1 : (aG (ouL m cur (T.getD p nd0).2.1)).getD j 0 = (aG (ouL m cur (T.getD p nd0).2.1))[j]'(by omega) := jL (by omega)
        have e2 : (aG (ouL m cur (T.getD p nd0).2.1)).getD (pos (aG (ouL m cur (T.getD p nd0).2.1)) (m.out s (T.getD p nd0).2.1)) 0 = (aG (ouL m cur (T.getD p nd0).2.1))[pos (aG (ouL m cur (T.getD p nd0).2.1)) (m.out s (T.getD p nd0).2.1)]'hpl := jL hpl
        rcases Nat.lt_trichotomy j (pos (aG (ouL m cur (T.getD p nd0).2.1)) (m.out s (T.getD p nd0).2.1)) with h6 | h6 | h6
        · have := List.pairwise_iff_getElem.1 hso _ _ (by omega) hpl h6
          omega
        · exact h6
        · have := List.pairwise_iff_getElem.1 hso _ _ hpl (by omega) h6
          omega
      · obtain ⟨e, n2, h6, h5, h7, h8⟩ := hall _ (by omega : pos (aG (ouL m cur (T.getD p nd0).2.1)) (m.out s (T.getD p nd0).2.1) < (T.getD p nd0).2.2.1.length)
        have h9 := eT h8
        refine ⟨by omega, by omega, ?_⟩
        rw [h7, ai]
        rw [hgp] at h8
        exact ⟨f, _, _, n2, h8, AG hs, jA hm ⟨h1, h2⟩ hst⟩
def iD (m : Mly) (T : List bj) (s : Int) : List Int × Nat := wdG m T T.length 0 s
def gI (m : Mly) (T : List bj) (s : Int) : Int := if ¬ fm m T = 0 then fm m T else if s < 0 ∨ (m.nx.length : Int) ≤ s then 2 else 0
theorem BP {m : Mly} {T : List bj} (h : fm m T = 0) : aL m = 0 ∧ T.length ≤ 4096 ∧ rtF m T (T.length + 1) 0 (rgI m.nx.length) (rgI m.nx.length) = some T.length := by
  unfold fm at h
  by_cases h1 : dK m = 0
  · rw [if_neg (fun h => h h1)] at h
    by_cases h2 : 4096 < T.length ∨ ¬ rtF m T (T.length + 1) 0 (rgI m.nx.length) (rgI m.nx.length) = some T.length
    · rw [if_pos h2] at h; cases h
    · refine ⟨nf h1, by omega, ?_⟩
      exact Classical.byContradiction fun h3 => h2 (.inr h3)
  · rw [if_pos h1] at h; exact absurd h h1
theorem yq {m : Mly} {T : List bj} {s : Int} (h : rtF m T (T.length + 1) 0 (rgI m.nx.length) (rgI m.nx.length) = some T.length) (hs : 0 ≤ s ∧ s < m.nx.length) : RTI m T 0 s :=
  ⟨_, _, _, _, h, List.mem_map.2 ⟨s.toNat, List.mem_range.2 (by omega), by omega⟩, kQ m⟩
theorem BV {m : Mly} {T : List bj} {p : Nat} {s : Int} (h : RTI m T p s) : p < T.length := by
  obtain ⟨f, ini, cur, n, hr, _⟩ := h.ex
  have := eT hr; omega
theorem zp {m : Mly} {T : List bj} {f p : Nat} {s t : Int} {W : List Int} {i : Nat} (h0 : ¬ (T.getD p nd0).2.1 < 0) (hi : i < (T.getD p nd0).2.2.1.length) (h1 : ((T.getD p nd0).2.2.1.getD i kd0).1 = m.out s (T.getD p nd0).2.1) (h2 : ∀ j, j < (T.getD p nd0).2.2.1.length → ((T.getD p nd0).2.2.1.getD j kd0).1 = m.out s (T.getD p nd0).2.1 → j = i)
    (h : (W ++ (wdG m T (f + 1) p s).1, (wdG m T (f + 1) p s).2) = iD m T t) : ((W ++ [(T.getD p nd0).2.1]) ++ (wdG m T f ((T.getD p nd0).2.2.1.getD i kd0).2.1.toNat (m.nxt s (T.getD p nd0).2.1)).1, (wdG m T f ((T.getD p nd0).2.2.1.getD i kd0).2.1.toNat (m.nxt s (T.getD p nd0).2.1)).2) = iD m T t := by
  rw [← h, jM h0, oM hi h1 (fun j hj e => by have := h2 j (by omega) e; omega)]
  simp
/-plain-/
def knB (Q : List SS) (x : List Int) (j : Nat) : Bool := (List.range j).any fun q => decide ((Q.getD q ss0).1 = x)
theorem sH {Q : List SS} {x : List Int} (h : ez Q x < Q.length) : (Q.getD (ez Q x) ss0).1 = x := by
  induction Q with
  | nil => simp [ez] at h
  | cons s Q ih =>
    by_cases e : s.1 = x
    · have p1 : ez (s :: Q) x = 0 := if_pos e
      rw [p1]; exact e
    · have p1 : ez (s :: Q) x = ez Q x + 1 := if_neg e
      rw [p1] at h ⊢
      exact ih (by simpa using h)
theorem zw (Q : List SS) (x : List Int) : knB Q x Q.length = decide (ez Q x < Q.length) := by
  by_cases e : ez Q x < Q.length
  · rw [decide_eq_true e]
    exact List.any_eq_true.2 ⟨_, List.mem_range.2 e, by rw [decide_eq_true_eq]; exact sH e⟩
  · rw [decide_eq_false e]
    unfold knB
    rw [List.any_eq_false]
    intro q hq hb
    have hq2 := List.mem_range.1 hq
    rw [decide_eq_true_eq] at hb
    have : ¬ ∀ j, j < Q.length → (Q.getD j ss0).1 ≠ x := fun h => h q hq2 hb
    apply e
    have hle := vW Q x
    by_cases e3 : ez Q x = Q.length
    · exfalso
      have key : ∀ (Q : List SS) (q : Nat), q < Q.length → (Q.getD q ss0).1 = x → ez Q x ≤ q := by
        intro Q
        induction Q with
        | nil => intro q h; simp at h
        | cons s Q ih =>
          intro q h hb
          by_cases e : s.1 = x
          · have p1 : ez (s :: Q) x = 0 := if_pos e
            omega
          · have p1 : ez (s :: Q) x = ez Q x + 1 := if_neg e
            match q, h, hb with
            | 0, _, hb => exact absurd (by simpa using hb) e
            | q + 1, h, hb =>
              have := ih q (by simpa using h) (by simpa using hb)
              omega
      have := key Q q hq2 hb
      omega
    · omega
/-plain-/
def dR (m : Mly) : List Int → List Int → List Int
  | l, [] => l
  | l, a :: w => dR m (cO m l a) w
def chW (m : Mly) : List Int → List Int → Prop
  | _, [] => True
  | l, a :: w => (unS m l a l.length = false ∧ smO m l a l.length = true) ∧ chW m (cO m l a) w
def spW (m : Mly) (l w : List Int) : Prop := ∃ v a, w = v ++ [a] ∧ chW m l v ∧ unS m (dR m l v) a (dR m l v).length = false ∧ smO m (dR m l v) a (dR m l v).length = false
theorem gH {m : Mly} : ∀ {v w l : List Int}, dR m l (v ++ w) = dR m (dR m l v) w
  | [], _, _ => rfl
  | _ :: v, w, _ => gH (v := v) (w := w)
theorem iC {m : Mly} : ∀ {v w l : List Int}, chW m l (v ++ w) ↔ chW m l v ∧ chW m (dR m l v) w
  | [], _, _ => ⟨fun h => ⟨trivial, h⟩, fun h => h.2⟩
  | a :: v, w, l => by
    have ih := iC (m := m) (v := v) (w := w) (l := cO m l a)
    constructor
    · rintro ⟨h1, h2⟩; have h3 := ih.1 h2; exact ⟨⟨h1, h3.1⟩, h3.2⟩
    · rintro ⟨⟨h1, h2⟩, h3⟩; exact ⟨h1, ih.2 ⟨h2, h3⟩⟩
theorem rK (m : Mly) (l : List Int) (a : Int) : dR m l [a] = cO m l a := rfl
theorem tJ {m : Mly} {l w : List Int} (h : spW m l w) : w ≠ [] := by
  obtain ⟨v, a, rfl, _⟩ := h; simp
theorem np {m : Mly} {l w : List Int} {a : Int} : spW m l (a :: w) ↔ unS m l a l.length = false ∧ ((w = [] ∧ smO m l a l.length = false) ∨ (smO m l a l.length = true ∧ spW m (cO m l a) w)) := by
  constructor
  · rintro ⟨v, b, e, h1, h2, h3⟩
    cases v with
    | nil =>
      simp only [b6, List.cons.injEq] at e
      obtain ⟨rfl, rfl⟩ := e
      exact ⟨h2, .inl ⟨rfl, h3⟩⟩
    | cons c v =>
      simp only [aN, List.cons.injEq] at e
      obtain ⟨rfl, rfl⟩ := e
      exact ⟨h1.1.1, .inr ⟨h1.1.2, v, b, rfl, h1.2, h2, h3⟩⟩
  · rintro ⟨h1, ⟨rfl, h2⟩ | ⟨h2, v, b, rfl, h3, h4, h5⟩⟩
    · exact ⟨[], a, rfl, trivial, h1, h2⟩
    · exact ⟨a :: v, b, rfl, ⟨⟨h1, h2⟩, h3⟩, h4, h5⟩
theorem gz {Q : List SS} {s : SS} {i : Nat} (h : i < Q.length) : (Q ++ [s]).getD i ss0 = Q.getD i ss0 := by simp [List.getD, List.getElem?_append_left h]
theorem lJ {Q : List SS} {s : SS} : (Q ++ [s]).getD Q.length ss0 = s := by simp [List.getD]
theorem jp {Q : List SS} {s : SS} : (Q ++ [s]).length = Q.length + 1 := by simp
structure BFQ (m : Mly) (l : List Int) (Q : List SS) : Prop where
  rt : 0 < Q.length ∧ Q.getD 0 ss0 = (l, [])
  pt : ∀ k, k < Q.length → chW m l (Q.getD k ss0).2 ∧ (Q.getD k ss0).1 = dR m l (Q.getD k ss0).2 ∧ dD m (Q.getD k ss0).2
  mo : ∀ j k, j ≤ k → k < Q.length → (Q.getD j ss0).2.length ≤ (Q.getD k ss0).2.length
  nd : ∀ j k, j < k → k < Q.length → (Q.getD j ss0).1 ≠ (Q.getD k ss0).1
  le : Q.length ≤ 4096
def clQ (m : Mly) (Q : List SS) (j : Nat) (b : Int) : Prop := unS m (Q.getD j ss0).1 b (Q.getD j ss0).1.length = false → smO m (Q.getD j ss0).1 b (Q.getD j ss0).1.length = true ∧ ∃ k, k < Q.length ∧ (Q.getD k ss0).1 = cO m (Q.getD j ss0).1 b ∧ (Q.getD k ss0).2.length ≤ (Q.getD j ss0).2.length + 1
structure BFI (m : Mly) (l : List Int) (i a : Nat) (Q : List SS) : Prop where
  q : BFQ m l Q
  cl : ∀ j, j < i → ∀ b : Nat, b < m.inp.toNat → clQ m Q j b
  pc : ∀ b : Nat, b < a → clQ m Q i b
  up : ∀ k, k < Q.length → i < Q.length → (Q.getD k ss0).2.length ≤ (Q.getD i ss0).2.length + 1
theorem sU {m : Mly} {Q : List SS} {s : SS} {j : Nat} {b : Int} (hj : j < Q.length) (h : clQ m Q j b) : clQ m (Q ++ [s]) j b := by
  unfold clQ at h ⊢
  rw [gz hj]
  intro h1
  obtain ⟨h2, k, h3, h4, h5⟩ := h h1
  exact ⟨h2, k, by rw [jp]; omega, by rw [gz h3]; exact h4, by rw [gz h3]; exact h5⟩
theorem ub {m : Mly} {l : List Int} {Q : List SS} (hq : BFQ m l Q) {D : Nat} (hc : ∀ j, j < Q.length → (Q.getD j ss0).2.length < D → ∀ b : Nat, b < m.inp.toNat → clQ m Q j b) :
    ∀ (n : Nat) (v : List Int), v.length = n → n ≤ D → dD m v → chW m l v → ∃ j, j < Q.length ∧ (Q.getD j ss0).1 = dR m l v ∧ (Q.getD j ss0).2.length ≤ n
  | 0, v, hv, _, _, _ => by
    have : v = [] := List.eq_nil_of_length_eq_zero hv
    subst this
    refine ⟨0, hq.rt.1, ?_, ?_⟩
    · rw [hq.rt.2]; rfl
    · rw [hq.rt.2]; exact Nat.le_refl _
  | n + 1, v, hv, hn, hw, hch => by
    have hne : v ≠ [] := fun e => by rw [e] at hv; cases hv
    obtain ⟨u, b, rfl⟩ : ∃ u b, v = u ++ [b] := ⟨v.dropLast, v.getLast hne, (List.dropLast_concat_getLast hne).symm⟩
    rw [ar] at hv
    simp only [ax, aI] at hv
    obtain ⟨h1, h2⟩ := iC.1 hch
    have hb := hw b (by simp)
    obtain ⟨j, j1, j2, j3⟩ := ub hq hc n u (by omega) (by omega) (fun x hx => hw x (List.mem_append_left _ hx)) h1
    have hcl := hc j j1 (by omega) b.toNat (by omega)
    rw [show ((b.toNat : Nat) : Int) = b by omega] at hcl
    unfold clQ at hcl
    rw [j2] at hcl
    obtain ⟨_, k, k1, k2, k3⟩ := hcl h2.1.1
    refine ⟨k, k1, ?_, by omega⟩
    rw [k2, gH, rK]
theorem BFI.clz {m : Mly} {l : List Int} {i a : Nat} {Q : List SS} (h : BFI m l i a Q) (hi : i < Q.length) : ∀ j, j < Q.length → (Q.getD j ss0).2.length < (Q.getD i ss0).2.length → ∀ b : Nat, b < m.inp.toNat → clQ m Q j b := by
  intro j hj hl b hb
  refine h.cl j ?_ b hb
  by_cases e : j < i
  · exact e
  · have := h.q.mo i j (by omega) hj; omega
def BFT (m : Mly) (l : List Int) (i a : Nat) (t : F12) : Prop := match t.res with
  | none => BFI m l i a t.Q ∧ i < t.Q.length
  | some (some w) => spW m l w ∧ ∀ v, dD m v → spW m l v → w.length ≤ v.length
  | some none => BFQ m l t.Q ∧ 4096 ≤ t.Q.length
theorem Ba {m : Mly} {l : List Int} {i a : Nat} {Q : List SS} (h : BFI m l i a Q) (hi : i < Q.length) (h1 : unS m (Q.getD i ss0).1 a (Q.getD i ss0).1.length = false) (h2 : smO m (Q.getD i ss0).1 a (Q.getD i ss0).1.length = false) :
    spW m l (eI Q i a) ∧ ∀ v, dD m v → spW m l v → (eI Q i a).length ≤ v.length := by
  obtain ⟨p1, p2, p3⟩ := h.q.pt i hi
  constructor
  · exact ⟨_, _, rfl, p1, by rw [← p2]; exact h1, by rw [← p2]; exact h2⟩
  · rintro v hv ⟨u, b, rfl, s1, s2, s3⟩
    unfold eI
    rw [ar, ar]
    simp only [ax, aI]
    by_cases e : (Q.getD i ss0).2.length ≤ u.length
    · omega
    · exfalso
      have hb := hv b (by simp)
      obtain ⟨j, j1, j2, j3⟩ := ub h.q (h.clz hi) u.length u rfl (by omega) (fun x hx => hv x (List.mem_append_left _ hx)) s1
      have hcl := h.clz hi j j1 (by omega) b.toNat (by omega)
      rw [show ((b.toNat : Nat) : Int) = b by omega] at hcl
      unfold clQ at hcl
      rw [j2] at hcl
      have := (hcl s2).1
      rw [s3] at this; cases this
theorem AS {Q : List SS} {x : List Int} (h : ¬ ez Q x < Q.length) : ∀ k, k < Q.length → (Q.getD k ss0).1 ≠ x := by
  intro k hk e
  have h1 := zw Q x
  rw [decide_eq_false h] at h1
  have : knB Q x Q.length = true := List.any_eq_true.2 ⟨k, List.mem_range.2 hk, by rw [decide_eq_true_eq]; exact e⟩
  rw [h1] at this; cases this
theorem Ci {m : Mly} {l : List Int} {i a : Nat} {t : F12} (h : BFT m l i a t) (ha : a < m.inp.toNat) : BFT m l i (a + 1) (dx m i t a) := by
  obtain ⟨Q, res⟩ := t
  cases res with
  | some r =>
    have e : dx m i ⟨Q, some r⟩ a = ⟨Q, some r⟩ := rfl
    rw [e]
    cases r with
    | some w => exact h
    | none => exact h
  | none =>
    obtain ⟨hI, hi⟩ : BFI m l i a Q ∧ i < Q.length := h
    cases hu : unS m (Q.getD i ss0).1 a (Q.getD i ss0).1.length with
    | true =>
      rw [zx hu]
      refine ⟨⟨hI.q, hI.cl, fun b hb => ?_, hI.up⟩, hi⟩
      by_cases e : b = a
      · subst e; intro h1; rw [hu] at h1; cases h1
      · exact hI.pc b (by omega)
    | false =>
      cases hs : smO m (Q.getD i ss0).1 a (Q.getD i ss0).1.length with
      | false => rw [xl hu hs]; exact Ba hI hi hu hs
      | true =>
        by_cases h3 : ez Q (fM m Q i a) < Q.length
        · rw [xc hu hs h3]
          refine ⟨⟨hI.q, hI.cl, fun b hb => ?_, hI.up⟩, hi⟩
          by_cases e : b = a
          · subst e
            intro _
            exact ⟨hs, _, h3, sH h3, hI.up _ h3 hi⟩
          · exact hI.pc b (by omega)
        · by_cases h4 : 4096 ≤ Q.length
          · rw [xf hu hs h3 h4]; exact ⟨hI.q, h4⟩
          · rw [x4 hu hs h3 h4]
            obtain ⟨p1, p2, p3⟩ := hI.q.pt i hi
            have hwl : (eI Q i a).length = (Q.getD i ss0).2.length + 1 := by unfold eI; simp
            refine ⟨⟨⟨⟨by rw [jp]; omega, by rw [gz hI.q.rt.1]; exact hI.q.rt.2⟩, fun k hk => ?_, fun j k hjk hk => ?_, fun j k hjk hk => ?_, by rw [jp]; omega⟩, fun j hj b hb => sU (by omega) (hI.cl j hj b hb), fun b hb => ?_, fun k hk _ => ?_⟩, by rw [jp]; omega⟩
            · rw [jp] at hk
              by_cases e : k < Q.length
              · rw [gz e]; exact hI.q.pt k e
              · have : k = Q.length := by omega
                subst this
                rw [lJ]
                refine ⟨iC.2 ⟨p1, ?_⟩, ?_, ?_⟩
                · rw [← p2]; exact ⟨⟨hu, hs⟩, trivial⟩
                · show fM m Q i a = dR m l (eI Q i a)
                  unfold fM eI
                  rw [gH, rK, ← p2]
                · intro x hx
                  rcases List.mem_append.1 hx with h | h
                  · exact p3 x h
                  · rw [List.mem_singleton] at h; rw [h]; omega
            · rw [jp] at hk
              by_cases e : k < Q.length
              · rw [gz e, gz (by omega)]; exact hI.q.mo j k hjk e
              · have : k = Q.length := by omega
                subst this
                rw [lJ]
                by_cases e2 : j < Q.length
                · rw [gz e2]
                  show _ ≤ (eI Q i a).length
                  rw [hwl]; exact hI.up j e2 hi
                · rw [show j = Q.length by omega, lJ]; exact Nat.le_refl _
            · rw [jp] at hk
              by_cases e : k < Q.length
              · rw [gz e, gz (by omega)]; exact hI.q.nd j k hjk e
              · have : k = Q.length := by omega
                subst this
                rw [lJ, gz hjk]
                exact AS h3 j hjk
            · by_cases e : b = a
              · subst e
                unfold clQ
                rw [gz hi]
                intro _
                refine ⟨hs, Q.length, by rw [jp]; omega, by rw [lJ]; rfl, ?_⟩
                rw [lJ]
                show (eI Q i b).length ≤ _
                omega
              · exact sU hi (hI.pc b (by omega))
            · rw [jp] at hk
              rw [gz hi]
              by_cases e : k < Q.length
              · rw [gz e]; exact hI.up k e hi
              · rw [show k = Q.length by omega, lJ]
                show (eI Q i a).length ≤ _
                omega
theorem vK {m : Mly} {l : List Int} {i : Nat} {t : F12} (h : BFT m l i 0 t) : ∀ k, k ≤ m.inp.toNat → BFT m l i k ((List.range k).foldl (dx m i) t)
  | 0, _ => h
  | k + 1, hk => by
    rw [List.range_succ, List.foldl_append]
    exact Ci (vK h k (by omega)) (by omega)
def BFE (m : Mly) (l : List Int) (r : Option (Option (List Int))) : Prop := match r with
  | none => ∀ v, dD m v → ¬ spW m l v
  | some (some w) => spW m l w ∧ ∀ v, dD m v → spW m l v → w.length ≤ v.length
  | some none => ∃ Q, BFQ m l Q ∧ 4096 ≤ Q.length
theorem xn {m : Mly} {l : List Int} {i a : Nat} {Q : List SS} (h : BFI m l i a Q) (hi : ¬ i < Q.length) : ∀ v, dD m v → ¬ spW m l v := by
  rintro v hv ⟨u, b, rfl, s1, s2, s3⟩
  have hb := hv b (by simp)
  have hc : ∀ j, j < Q.length → (Q.getD j ss0).2.length < u.length + 1 → ∀ b : Nat, b < m.inp.toNat → clQ m Q j b := fun j hj _ b hb => h.cl j (by omega) b hb
  obtain ⟨j, j1, j2, j3⟩ := ub h.q hc u.length u rfl (by omega) (fun x hx => hv x (List.mem_append_left _ hx)) s1
  have hcl := hc j j1 (by omega) b.toNat (by omega)
  rw [show ((b.toNat : Nat) : Int) = b by omega] at hcl
  unfold clQ at hcl
  rw [j2] at hcl
  have := (hcl s2).1
  rw [s3] at this; cases this
theorem Au {m : Mly} {l : List Int} {i : Nat} {Q : List SS} (h : BFI m l i m.inp.toNat Q) (hi : i < Q.length) : BFI m l (i + 1) 0 Q := by
  refine ⟨h.q, fun j hj b hb => ?_, fun b hb => by omega, fun k hk hi2 => ?_⟩
  · by_cases e : j = i
    · rw [e]; exact h.pc b hb
    · exact h.cl j (by omega) b hb
  · have h1 := h.up k hk hi
    have h2 := h.q.mo i (i + 1) (by omega) hi2
    omega
theorem AJ {m : Mly} {l : List Int} : ∀ (f i : Nat) (Q : List SS), 4097 ≤ f + i → BFI m l i 0 Q → BFE m l (gD m f i ⟨Q, none⟩).res
  | 0, i, Q, hf, h => by
    have := h.q.le
    exact xn h (by omega)
  | f + 1, i, Q, hf, h => by
    by_cases hi : i < Q.length
    · rw [qR rfl hi]
      have h1 := vK (t := ⟨Q, none⟩) (i := i) ⟨h, hi⟩ m.inp.toNat (Nat.le_refl _)
      have e : (List.range m.inp.toNat).foldl (dx m i) ⟨Q, none⟩ = jI m i ⟨Q, none⟩ := rfl
      rw [e] at h1
      rcases hr : jI m i ⟨Q, none⟩ with ⟨Q2, r⟩
      rw [hr] at h1
      cases r with
      | none =>
        obtain ⟨h2, h3⟩ : BFI m l i m.inp.toNat Q2 ∧ i < Q2.length := h1
        exact AJ f (i + 1) Q2 (by omega) (Au h2 h3)
      | some r =>
        rw [sW (t := ⟨Q2, some r⟩) rfl]
        cases r with
        | some w => exact h1
        | none => exact ⟨Q2, h1⟩
    · rw [vZ hi]; exact xn h hi
theorem A0 (m : Mly) (l : List Int) : BFE m l (m5 m l) := by
  refine AJ 4097 0 [(l, [])] (by omega) ⟨⟨⟨by simp, rfl⟩, fun k hk => ?_, fun j k hjk hk => ?_, fun j k hjk hk => ?_, by simp⟩, fun j hj => by omega, fun b hb => by omega, fun k hk hi => ?_⟩
  · have : k = 0 := by simpa using hk
    subst this; exact ⟨trivial, rfl, fun x hx => by cases hx⟩
  · have : k = 0 := by simpa using hk
    have : j = 0 := by omega
    subst_vars; exact Nat.le_refl _
  · have : k = 0 := by simpa using hk
    omega
  · have : k = 0 := by simpa using hk
    subst this; omega
theorem Bj {m : Mly} {l w : List Int} (h : fdW m l = some w) : spW m l w ∧ ∀ v, dD m v → spW m l v → w.length ≤ v.length := by
  have hs := A0 m l
  unfold fdW at h
  rcases hr : m5 m l with _ | _ | w2
  · rw [hr] at h; cases h
  · rw [hr] at h; cases h
  · rw [hr] at h hs
    have : w2 = w := by simpa using h
    subst this; exact hs
/-plain-/
def o7 (l k : List Int) : Prop := ∀ x, x ∈ l ↔ x ∈ k
theorem qD {m : Mly} {l : List Int} {a : Int} (hn : l.Nodup) : unS m l a l.length = true ↔ ∃ s t, s ∈ l ∧ t ∈ l ∧ s ≠ t ∧ clB m a s t = true := by
  unfold unS
  constructor
  · intro h
    obtain ⟨k, hk, h2⟩ := List.any_eq_true.1 h
    obtain ⟨j, hj, h3⟩ := List.any_eq_true.1 h2
    have hk := List.mem_range.1 hk
    have hj := List.mem_range.1 hj
    refine ⟨_, _, br hk, br (show j < l.length by omega), fun e => ?_, h3⟩
    have := gT hn hk (by omega) e
    omega
  · rintro ⟨s, t, hs, ht, hne, hc⟩
    obtain ⟨i, hi, rfl⟩ := fW hs
    obtain ⟨j, hj, rfl⟩ := fW ht
    rcases Nat.lt_trichotomy i j with h | h | h
    · refine List.any_eq_true.2 ⟨j, List.mem_range.2 hj, List.any_eq_true.2 ⟨i, List.mem_range.2 h, ?_⟩⟩
      unfold clB at hc ⊢
      simp only [Bool.and_eq_true, decide_eq_true_eq] at hc ⊢
      exact ⟨hc.1.symm, hc.2.symm⟩
    · subst h; exact absurd rfl hne
    · exact List.any_eq_true.2 ⟨i, List.mem_range.2 hi, List.any_eq_true.2 ⟨j, List.mem_range.2 h, hc⟩⟩
theorem uI {m : Mly} {l : List Int} {a : Int} (hn : l.Nodup) (h : unS m l a l.length = false) {s t : Int} (hs : s ∈ l) (ht : t ∈ l) (h1 : m.out s a = m.out t a) (h2 : m.nxt s a = m.nxt t a) : s = t := by
  by_cases e : s = t
  · exact e
  · have := (qD (m := m) (a := a) hn).2 ⟨s, t, hs, ht, e, by unfold clB; rw [decide_eq_true h1, decide_eq_true h2]; rfl⟩
    rw [h] at this; cases this
theorem ji {m : Mly} {l : List Int} {a : Int} : smO m l a l.length = true ↔ ∀ s t, s ∈ l → t ∈ l → m.out s a = m.out t a := by
  unfold smO
  rw [List.all_eq_true]
  constructor
  · intro h s t hs ht
    obtain ⟨i, hi, rfl⟩ := fW hs
    obtain ⟨j, hj, rfl⟩ := fW ht
    have h1 := h i (List.mem_range.2 hi)
    have h2 := h j (List.mem_range.2 hj)
    simp only [decide_eq_true_eq] at h1 h2
    rw [h1, h2]
  · intro h k hk
    have hk := List.mem_range.1 hk
    rw [decide_eq_true_eq]
    exact h _ _ (br hk) (br (by omega))
theorem xC {m : Mly} {l k : List Int} {a : Int} (h : o7 l k) (hl : l.Nodup) (hk : k.Nodup) : unS m l a l.length = unS m k a k.length := by
  rw [Bool.eq_iff_iff, qD hl, qD hk]
  constructor
  · rintro ⟨s, t, h1, h2, h3⟩; exact ⟨s, t, (h s).1 h1, (h t).1 h2, h3⟩
  · rintro ⟨s, t, h1, h2, h3⟩; exact ⟨s, t, (h s).2 h1, (h t).2 h2, h3⟩
theorem xd {m : Mly} {l k : List Int} {a : Int} (h : o7 l k) : smO m l a l.length = smO m k a k.length := by
  rw [Bool.eq_iff_iff, ji, ji]
  constructor
  · intro g s t h1 h2; exact g s t ((h s).2 h1) ((h t).2 h2)
  · intro g s t h1 h2; exact g s t ((h s).1 h1) ((h t).1 h2)
theorem Cm {m : Mly} {l k : List Int} {a : Int} (h : o7 l k) : o7 (cO m l a) (cO m k a) := by
  intro x
  unfold cO
  rw [List.mem_map, List.mem_map]
  constructor
  · rintro ⟨y, h1, h2⟩; exact ⟨y, (h y).1 h1, h2⟩
  · rintro ⟨y, h1, h2⟩; exact ⟨y, (h y).2 h1, h2⟩
theorem nM {m : Mly} {l : List Int} {a : Int} (hn : l.Nodup) (h : unS m l a l.length = false) (h2 : smO m l a l.length = true) : (cO m l a).Nodup := by
  unfold cO
  refine List.pairwise_map.2 (List.Pairwise.imp_of_mem (fun {s t} hs ht hne e => hne ?_) hn)
  exact uI hn h hs ht (ji.1 h2 s t hs ht) e
theorem gJ {m : Mly} : ∀ {v l : List Int}, l.Nodup → chW m l v → (dR m l v).Nodup
  | [], _, h, _ => h
  | a :: v, l, h, hc => gJ (v := v) (nM h hc.1.1 hc.1.2) hc.2
theorem oQ {m : Mly} (hm : MOK m) : ∀ {v l : List Int}, dD m v → dm m l → dm m (dR m l v)
  | [], _, _, h => h
  | a :: v, l, hw, h => oQ hm (v := v) (fun x hx => hw x (aM _ hx)) (tA hm (hw a (aV ..)) h).1
theorem wC {m : Mly} : ∀ {w l k : List Int}, o7 l k → l.Nodup → k.Nodup → spW m l w → spW m k w
  | [], _, _, _, _, _, h => absurd rfl (tJ h)
  | a :: w, l, k, h, hl, hk, hs => by
    rw [np] at hs ⊢
    rw [← xC h hl hk, ← xd h]
    obtain ⟨h1, h2 | ⟨h2, h3⟩⟩ := hs
    · exact ⟨h1, .inl h2⟩
    · exact ⟨h1, .inr ⟨h2, wC (Cm h) (nM hl h1 h2) (nM hk (by rw [← xC h hl hk]; exact h1) (by rw [← xd h]; exact h2)) h3⟩⟩
theorem qF {m : Mly} : ∀ {v w l : List Int}, chW m l v → spW m (dR m l v) w → spW m l (v ++ w)
  | [], _, _, _, h => h
  | a :: v, w, l, hc, h => by
    rw [aN, np]
    exact ⟨hc.1.1, .inr ⟨hc.1.2, qF hc.2 h⟩⟩
def cdN (l : List Int) : Nat → Nat
  | 0 => 0
  | k + 1 => 2 * cdN l k + (if (k : Int) ∈ l then 1 else 0)
theorem tG (l : List Int) : ∀ k, cdN l k < 2 ^ k
  | 0 => by show 0 < 2 ^ 0; decide
  | k + 1 => by
    have := tG l k
    rw [cdN, Nat.pow_succ]
    split <;> omega
theorem pG {l k : List Int} : ∀ n, cdN l n = cdN k n → ∀ i : Nat, i < n → ((i : Int) ∈ l ↔ (i : Int) ∈ k)
  | 0, _, i, h => by omega
  | n + 1, h, i, hi => by
    rw [cdN, cdN] at h
    have h1 : cdN l n = cdN k n := by split at h <;> split at h <;> omega
    by_cases e : i = n
    · subst e
      rw [h1] at h
      by_cases a1 : (i : Int) ∈ l
      · by_cases a2 : (i : Int) ∈ k
        · exact ⟨fun _ => a2, fun _ => a1⟩
        · rw [if_pos a1, if_neg a2] at h; omega
      · by_cases a2 : (i : Int) ∈ k
        · rw [if_neg a1, if_pos a2] at h; omega
        · exact ⟨fun h => absurd h a1, fun h => absurd h a2⟩
    · exact pG n h1 i (by omega)
theorem xz {n : Nat} {l k : List Int} (hl : ∀ x ∈ l, 0 ≤ x ∧ x < n) (hk : ∀ x ∈ k, 0 ≤ x ∧ x < n) (h : cdN l n = cdN k n) : o7 l k := by
  intro x
  constructor
  · intro hx
    have := hl x hx
    have h2 := (pG n h x.toNat (by omega)).1
    rw [show ((x.toNat : Nat) : Int) = x by omega] at h2
    exact h2 hx
  · intro hx
    have := hk x hx
    have h2 := (pG n h x.toNat (by omega)).2
    rw [show ((x.toNat : Nat) : Int) = x by omega] at h2
    exact h2 hx
theorem yX {m : Mly} (hm : MOK m) (hn8 : m.nx.length ≤ 8) {l w : List Int} (hn : l.Nodup) (hst : dm m l) (hw : dD m w) (h : spW m l w) (hmin : ∀ v, dD m v → spW m l v → w.length ≤ v.length) : w.length ≤ 256 := by
  obtain ⟨v, a, rfl, h1, h2, h3⟩ := h
  have hwv : dD m v := fun x hx => hw x (List.mem_append_left _ hx)
  have hsp : ∀ p, spW m (dR m l (v.take p)) (v.drop p ++ [a]) := fun p => by
    have h1' := h1
    rw [← List.take_append_drop p v] at h1'
    have hc := (iC.1 h1').2
    refine ⟨_, _, rfl, hc, ?_, ?_⟩
    · rw [← gH, List.take_append_drop]; exact h2
    · rw [← gH, List.take_append_drop]; exact h3
  have hch : ∀ p, chW m l (v.take p) := fun p => by
    have h1' := h1
    rw [← List.take_append_drop p v] at h1'
    exact (iC.1 h1').1
  have hnd : ((List.range (v.length + 1)).map fun p => (cdN (dR m l (v.take p)) 8 : Int)).Nodup := by
    refine List.pairwise_map.2 (List.Pairwise.imp_of_mem (fun {p q} hp hq hlt e => ?_) (List.pairwise_lt_range (n := v.length + 1)))
    have hp := List.mem_range.1 hp
    have hq := List.mem_range.1 hq
    have st : ∀ p, dm m (dR m l (v.take p)) := fun p => oQ hm (fun x hx => hwv x (List.mem_of_mem_take hx)) hst
    have hse : o7 (dR m l (v.take q)) (dR m l (v.take p)) := xz (n := 8) (fun x hx => by have := st q x hx; omega) (fun x hx => by have := st p x hx; omega) (by omega)
    have hs := wC hse (gJ hn (hch q)) (gJ hn (hch p)) (hsp q)
    have hs2 := qF (hch p) hs
    have := hmin _ (fun x hx => by
      rcases List.mem_append.1 hx with hx | hx
      · exact hwv x (List.mem_of_mem_take hx)
      · rcases List.mem_append.1 hx with hx | hx
        · exact hwv x (List.mem_of_mem_drop hx)
        · exact hw x (by simp at hx; simp [hx])) hs2
    simp only [ar, List.length_take, List.length_drop, ax, aI] at this
    omega
  have := eV 256 _ hnd (fun x hx => by
    obtain ⟨p, _, rfl⟩ := List.mem_map.1 hx
    have := tG (dR m l (v.take p)) 8
    omega)
  rw [aw, List.length_range] at this
  rw [ar]
  simp only [ax, aI]
  omega
/-plain-/
def rT : Nat → Nat → Nat
  | 0, _ => 0
  | k + 1, c => rT k (c / 2) + c % 2
theorem zr (l : List Int) : ∀ k, rT k (cdN l k) = ((rgI k).filter fun x => decide (x ∈ l)).length
  | 0 => rfl
  | k + 1 => by
    have e : rgI (k + 1) = rgI k ++ [(k : Int)] := by unfold rgI; rw [List.range_succ, List.map_append]; rfl
    rw [e, List.filter_append, ar, ← zr l k]
    show rT k (cdN l (k + 1) / 2) + cdN l (k + 1) % 2 = _
    rw [cdN]
    by_cases h : (k : Int) ∈ l
    · rw [if_pos h, List.filter_cons_of_pos (by simpa using h), show (2 * cdN l k + 1) / 2 = cdN l k by omega, show (2 * cdN l k + 1) % 2 = 1 by omega]; rfl
    · rw [if_neg h, List.filter_cons_of_neg (by simpa using h), show (2 * cdN l k + 0) / 2 = cdN l k by omega, show (2 * cdN l k + 0) % 2 = 0 by omega]; rfl
theorem Bw {l : List Int} {k : Nat} (hn : l.Nodup) (hl : ∀ x ∈ l, 0 ≤ x ∧ x < k) : rT k (cdN l k) = l.length := by
  rw [zr]
  refine Nat.le_antisymm (eM _ _ (List.Pairwise.filter _ (oO k)) fun x hx => ?_) (eM _ _ hn fun x hx => ?_)
  · exact of_decide_eq_true (List.mem_filter.1 hx).2
  · have := hl x hx
    refine List.mem_filter.2 ⟨?_, decide_eq_true hx⟩
    exact List.mem_map.2 ⟨x.toNat, List.mem_range.2 (by omega), by omega⟩
def C6 (k : Nat) : Nat := ((List.range 256).filter fun c => decide (rT 8 c = k)).length
def ll : Nat → Nat
  | 0 => 0
  | k + 1 => ll k + C6 (k + 1)
theorem uN {j k : Nat} (h : j ≤ k) : ll j ≤ ll k := by
  induction h with
  | refl => exact Nat.le_refl _
  | step h ih => rw [ll]; omega
theorem CP : ll 8 = 255 := by decide +kernel
theorem AF {m : Mly} (hm : MOK m) (hn8 : m.nx.length ≤ 8) {l w : List Int} (hn : l.Nodup) (hst : dm m l) (hw : dD m w) (h : spW m l w) (hmin : ∀ v, dD m v → spW m l v → w.length ≤ v.length) : w.length ≤ C6 l.length := by
  obtain ⟨v, a, rfl, h1, h2, h3⟩ := h
  have hwv : dD m v := fun x hx => hw x (List.mem_append_left _ hx)
  have hsp : ∀ p, spW m (dR m l (v.take p)) (v.drop p ++ [a]) := fun p => by
    have h1' := h1
    rw [← List.take_append_drop p v] at h1'
    have hc := (iC.1 h1').2
    refine ⟨_, _, rfl, hc, ?_, ?_⟩
    · rw [← gH, List.take_append_drop]; exact h2
    · rw [← gH, List.take_append_drop]; exact h3
  have hch : ∀ p, chW m l (v.take p) := fun p => by
    have h1' := h1
    rw [← List.take_append_drop p v] at h1'
    exact (iC.1 h1').1
  have hnd : ((List.range (v.length + 1)).map fun p => (cdN (dR m l (v.take p)) 8 : Int)).Nodup := by
    refine List.pairwise_map.2 (List.Pairwise.imp_of_mem (fun {p q} hp hq hlt e => ?_) (List.pairwise_lt_range (n := v.length + 1)))
    have hp := List.mem_range.1 hp
    have hq := List.mem_range.1 hq
    have st : ∀ p, dm m (dR m l (v.take p)) := fun p => oQ hm (fun x hx => hwv x (List.mem_of_mem_take hx)) hst
    have hse : o7 (dR m l (v.take q)) (dR m l (v.take p)) := xz (n := 8) (fun x hx => by have := st q x hx; omega) (fun x hx => by have := st p x hx; omega) (by omega)
    have hs := wC hse (gJ hn (hch q)) (gJ hn (hch p)) (hsp q)
    have hs2 := qF (hch p) hs
    have := hmin _ (fun x hx => by
      rcases List.mem_append.1 hx with hx | hx
      · exact hwv x (List.mem_of_mem_take hx)
      · rcases List.mem_append.1 hx with hx | hx
        · exact hwv x (List.mem_of_mem_drop hx)
        · exact hw x (by simp at hx; simp [hx])) hs2
    simp only [ar, List.length_take, List.length_drop, ax, aI] at this
    omega
  have hl9 : ∀ (v l : List Int), (dR m l v).length = l.length := by
    intro v
    induction v with
    | nil => intro l; rfl
    | cons x v ih => intro l; show (dR m (cO m l x) v).length = _; rw [ih]; exact aw ..
  have := eM _ (((List.range 256).filter fun c => decide (rT 8 c = l.length)).map fun (c : Nat) => (c : Int)) hnd (fun x hx => by
    obtain ⟨p, _, rfl⟩ := List.mem_map.1 hx
    have h1 := tG (dR m l (v.take p)) 8
    refine List.mem_map.2 ⟨_, List.mem_filter.2 ⟨List.mem_range.2 (by omega), decide_eq_true ?_⟩, rfl⟩
    have st := oQ hm (fun x hx => hwv x (List.mem_of_mem_take hx)) hst (v := v.take p)
    rw [Bw (gJ hn (hch p)) (fun x hx => by have := st x hx; omega), hl9])
  rw [aw, List.length_range, aw] at this
  rw [ar]
  simp only [ax, aI]
  exact this
def jZ (w : List Int) : Nat := if w = [] then 257 else 514
theorem fJ : jZ [] = 257 := rfl
theorem g0 (a : Int) (w : List Int) : jZ (a :: w) = 514 := if_neg (by simp)
theorem yO {m : Mly} {cur : List Int} {a o : Int} (h : ∀ s ∈ cur, m.out s a = o) : ptL m cur a o cur.length = (List.range cur.length).map (fun (q : Nat) => (q : Int)) := by
  unfold ptL
  rw [List.filter_eq_self.2]
  intro q hq
  have := List.mem_range.1 hq
  exact decide_eq_true (h _ (br (by omega)))
theorem uA (l : List Int) : pkL l ((List.range l.length).map (fun (q : Nat) => (q : Int))) = l := by
  unfold pkL
  rw [List.map_map]
  apply List.ext_getElem (by simp)
  intro i h1 h2
  simp [List.getD, h2]
theorem vc {m : Mly} {ini cur : List Int} {a o : Int} (hil : ini.length = cur.length) (h : ∀ s ∈ cur, m.out s a = o) : cw m ini cur a cur.length o = ini ∧ bV m cur a cur.length o = cO m cur a := by
  unfold cw bV
  rw [yO h]
  refine ⟨?_, ?_⟩
  · rw [← hil]; exact uA ini
  · rw [uA]
theorem yz {xs : List Int} {o : Int} (h0 : 0 < xs.length) (h : ∀ x ∈ xs, x = o) : aG xs = [o] := by
  obtain ⟨h1, h2⟩ := dC xs
  have hm : ∀ x ∈ aG xs, x = o := fun x hx => h x ((h2 x).1 hx)
  have ho : o ∈ aG xs := by
    have h9 : xs.getD 0 0 ∈ xs := br h0
    rw [h2, ← h _ h9]; exact h9
  match hu : aG xs with
  | [] => rw [hu] at ho; cases ho
  | [x] => rw [hm x (by rw [hu]; simp)]
  | x :: y :: r =>
    have e1 := hm x (by rw [hu]; simp)
    have e2 := hm y (by rw [hu]; simp)
    rw [hu] at h1
    have := (List.pairwise_cons.1 h1).1 y (by simp)
    omega
theorem qH {m : Mly} {cur : List Int} {a : Int} (h : smO m cur a cur.length = false) : 2 ≤ (aG (ouL m cur a)).length := by
  refine Classical.byContradiction fun hn => ?_
  have h9 : smO m cur a cur.length = true := ji.2 fun s t hs ht => by
    have h2 := (dC (ouL m cur a)).2
    have ms : m.out s a ∈ aG (ouL m cur a) := (h2 _).2 (List.mem_map.2 ⟨s, hs, rfl⟩)
    have mt : m.out t a ∈ aG (ouL m cur a) := (h2 _).2 (List.mem_map.2 ⟨t, ht, rfl⟩)
    match hu : aG (ouL m cur a) with
    | [] => rw [hu] at ms; cases ms
    | [x] =>
      rw [hu, List.mem_singleton] at ms mt
      rw [ms, mt]
    | x :: y :: r => rw [hu] at hn; simp only [ax] at hn; omega
  rw [h] at h9; cases h9
theorem yH {m : Mly} {cur : List Int} {a o : Int} (hn : cur.Nodup) (h : unS m cur a cur.length = false) : (bV m cur a cur.length o).Nodup := by
  unfold bV cO pkL ptL
  rw [List.map_map, List.map_map]
  refine List.pairwise_map.2 ?_
  have h0 : ((List.range cur.length).filter (fun (q : Nat) => decide (m.out (cur.getD q 0) a = o))).Nodup := List.Pairwise.filter _ List.nodup_range
  refine List.Pairwise.imp_of_mem (fun {p q} hp hq hne e => hne ?_) h0
  obtain ⟨p1, p2⟩ := List.mem_filter.1 hp
  obtain ⟨q1, q2⟩ := List.mem_filter.1 hq
  have p1 := List.mem_range.1 p1
  have q1 := List.mem_range.1 q1
  have p2 := of_decide_eq_true p2
  have q2 := of_decide_eq_true q2
  simp only [Function.comp, ai] at e
  exact gT hn p1 q1 (uI hn h (br p1) (br q1) (by rw [p2, q2]) e)
theorem vC {m : Mly} {cur : List Int} {a o : Int} : ∀ i, i ≤ cur.length → (ptL m cur a o i).length = (ouL m (cur.take i) a).count o
  | 0, _ => rfl
  | i + 1, h => by
    have ih := vC (m := m) (cur := cur) (a := a) (o := o) i (by omega)
    rw [sV (by omega), List.count_append, ← ih]
    by_cases e : m.out (cur.getD i 0) a = o
    · rw [vf e, ar, e]; simp
    · rw [xj e, List.count_cons_of_ne e]; simp
theorem xw {m : Mly} {cur : List Int} {a o : Int} : (bV m cur a cur.length o).length = (ouL m cur a).count o := by
  have h := vC (m := m) (cur := cur) (a := a) (o := o) cur.length (Nat.le_refl _)
  rw [aO] at h
  unfold bV cO pkL
  rw [aw, aw, h]
def fL (ys ks : List Int) : Nat := (ks.map fun o => ys.count o).sum
theorem sT (ys k1 k2 : List Int) : fL ys (k1 ++ k2) = fL ys k1 + fL ys k2 := by unfold fL; rw [List.map_append, List.sum_append]
theorem yt (ks : List Int) : fL [] ks = 0 := by
  induction ks with
  | nil => rfl
  | cons k ks ih => unfold fL at ih ⊢; rw [aJ, List.sum_cons, ih]; rfl
theorem sf {y : Int} {ys : List Int} : ∀ {ks : List Int}, y ∉ ks → fL (y :: ys) ks = fL ys ks
  | [], _ => rfl
  | k :: ks, h => by
    have ih := sf (ys := ys) (ks := ks) (fun h9 => h (aM _ h9))
    unfold fL at ih ⊢
    rw [aJ, List.sum_cons, aJ, List.sum_cons, ih, List.count_cons_of_ne (fun e => h (by rw [e]; exact aV ..))]
theorem v4 {y : Int} {ys : List Int} : ∀ {ks : List Int}, ks.Nodup → y ∈ ks → fL (y :: ys) ks = fL ys ks + 1
  | k :: ks, hn, h => by
    obtain ⟨h1, h2⟩ := List.nodup_cons.1 hn
    by_cases e : y = k
    · subst e
      have := sf (ys := ys) h1
      unfold fL at this ⊢
      rw [aJ, List.sum_cons, aJ, List.sum_cons, this, List.count_cons_self]; omega
    · have ih := v4 (ys := ys) h2 ((List.mem_cons.1 h).resolve_left e)
      unfold fL at ih ⊢
      rw [aJ, List.sum_cons, aJ, List.sum_cons, ih, List.count_cons_of_ne e]; omega
theorem rB {ks : List Int} (hn : ks.Nodup) : ∀ {ys : List Int}, (∀ y ∈ ys, y ∈ ks) → fL ys ks = ys.length
  | [], _ => yt ks
  | y :: ys, h => by
    rw [v4 hn (h y (aV ..)), rB hn fun z hz => h z (aM _ hz)]; rfl
theorem p8 {ys : List Int} : ∀ {ks : List Int}, (∀ k ∈ ks, k ∈ ys) → ks.length ≤ fL ys ks
  | [], _ => Nat.zero_le _
  | k :: ks, h => by
    have ih := p8 (ys := ys) (ks := ks) fun z hz => h z (aM _ hz)
    have := List.count_pos_iff.2 (h k (aV ..))
    unfold fL at ih ⊢
    rw [aJ, List.sum_cons, ax]; omega
theorem pT {ys ks : List Int} {i : Nat} (h : i < ks.length) : fL ys (ks.take (i + 1)) = fL ys (ks.take i) + ys.count (ks.getD i 0) := by
  rw [dc h, sT]
  show _ + (([_] : List Int).map _).sum = _
  simp
def lw (T : List bj) (n : Nat) (D : List bj) : Prop := ∀ i, i < D.length → T[n + i]? = D[i]?
theorem x8 {T : List bj} {n : Nat} {D E : List bj} (h : lw T n (D ++ E)) : lw T n D := fun i hi => by
  rw [h i (by rw [ar]; omega), List.getElem?_append_left hi]
theorem xM {T : List bj} {n : Nat} {D E : List bj} (h : lw T n (D ++ E)) : lw T (n + D.length) E := fun i hi => by
  have h1 := h (D.length + i) (by rw [ar]; omega)
  rw [List.getElem?_append_right (by omega), show D.length + i - D.length = i by omega] at h1
  rw [← h1]; congr 1; omega
theorem oR {T : List bj} {n : Nat} {x : bj} {D : List bj} (h : lw T n (x :: D)) : n < T.length ∧ T.getD n nd0 = x ∧ lw T (n + 1) D := by
  have h0 := h 0 (by simp)
  rw [Nat.add_zero, List.getElem?_cons_zero] at h0
  refine ⟨(List.getElem?_eq_some_iff.1 h0).1, by rw [List.getD, h0]; rfl, fun i hi => ?_⟩
  have h1 := h (i + 1) (by simp only [ax]; omega)
  rw [List.getElem?_cons_succ] at h1
  rw [← h1]; congr 1; omega
def xF (m : Mly) (x : bj) : Prop := x.2.1 = -1 → x.1.length = 1 ∨ ∃ c, dm m c ∧ c.Nodup ∧ 2 ≤ c.length ∧ fdW m c = none
structure GOK (m : Mly) (ini cur w : List Int) (n : Nat) (D : List bj) : Prop where
  len : D.length + jZ w ≤ w.length + 258 * cur.length
  rt : ∀ (T : List bj) (g : Nat), lw T n D → T.length + 1 ≤ g + n → rtF m T g n ini cur = some (n + D.length)
  lf : ∀ x ∈ D, xF m x
  dw : ∀ (T : List bj), lw T n D → ∀ (f : Nat) (s : Int), s ∈ cur → (wdG m T f n s).1.length ≤ w.length + ll (cur.length - if w = [] then 0 else 1)
structure FOK (m : Mly) (ini cur : List Int) (a : Int) (w : List Int) (n i : Nat) (t : List bj × List dX) : Prop where
  len : t.1.length + jZ w * i ≤ w.length * i + 258 * fL (ouL m cur a) ((aG (ouL m cur a)).take i)
  kl : t.2.length = i
  lf : ∀ x ∈ t.1, xF m x
  rt : ∀ (T : List bj) (g : Nat), lw T (n + 1) t.1 → T.length + 1 ≤ g + (n + 1) → ∀ x : bj, x.2.1 = a → (∀ j, j < i → x.2.2.1.getD j kd0 = t.2.getD j kd0) → (List.range i).foldl (fD m (rtF m T g) ini cur x) (some (n + 1)) = some (n + 1 + t.1.length)
  dw : ∀ (T : List bj), lw T (n + 1) t.1 → ∀ j, j < i → ∃ e : Nat, t.2.getD j kd0 = ((aG (ouL m cur a)).getD j 0, (e : Int), ()) ∧ ∀ (f : Nat) (s : Int), s ∈ bV m cur a cur.length ((aG (ouL m cur a)).getD j 0) → (wdG m T f e s).1.length ≤ w.length + ll ((bV m cur a cur.length ((aG (ouL m cur a)).getD j 0)).length - if w = [] then 0 else 1)
theorem zv {K : List dX} {k : dX} {j : Nat} (h : j < K.length) : (K ++ [k]).getD j kd0 = K.getD j kd0 := by simp [List.getD, List.getElem?_append_left h]
theorem zA {K : List dX} {k : dX} : (K ++ [k]).getD K.length kd0 = k := by simp [List.getD]
theorem lN {m : Mly} {ini cur w : List Int} {a : Int} {n : Nat} {rec : List Int → List Int → Nat → List bj}
    (hr : ∀ o ∈ aG (ouL m cur a), ∀ k, n + 1 ≤ k → k + w.length + 258 * (bV m cur a cur.length o).length ≤ 4096 + jZ w → GOK m (cw m ini cur a cur.length o) (bV m cur a cur.length o) w k (rec (cw m ini cur a cur.length o) (bV m cur a cur.length o) k))
    (hB : ∀ i, i < (aG (ouL m cur a)).length → n + 1 + w.length * (i + 1) + 258 * fL (ouL m cur a) ((aG (ouL m cur a)).take (i + 1)) ≤ 4096 + jZ w * (i + 1))
    (hC : ∀ o ∈ aG (ouL m cur a), jZ w ≤ w.length + 258 * (bV m cur a cur.length o).length) : ∀ i, i ≤ (aG (ouL m cur a)).length → FOK m ini cur a w n i (((aG (ouL m cur a)).take i).foldl (dN n rec m ini cur a) ([], []))
  | 0, _ => ⟨by simp, rfl, fun x hx => (by cases hx), fun T g _ _ x _ _ => rfl, fun T _ j hj => by omega⟩
  | i + 1, hi => by
    have ih := lN hr hB hC i (by omega)
    have ho : (aG (ouL m cur a)).getD i 0 ∈ aG (ouL m cur a) := br (by omega)
    have hb := hB i (by omega)
    have hc := hC _ ho
    have hcs := pT (ys := ouL m cur a) (ks := aG (ouL m cur a)) (i := i) (by omega)
    rw [← xw] at hcs
    rcases ht : ((aG (ouL m cur a)).take i).foldl (dN n rec m ini cur a) ([], []) with ⟨D, K⟩
    rw [ht] at ih
    obtain ⟨i1, i2, i3, i4, i5⟩ := ih
    simp only at i1 i2 i3 i4 i5
    rw [hcs, Nat.mul_succ, Nat.mul_succ] at hb
    have hk : n + 1 + D.length + w.length + 258 * (bV m cur a cur.length ((aG (ouL m cur a)).getD i 0)).length ≤ 4096 + jZ w := by omega
    have hg := hr _ ho (n + 1 + D.length) (by omega) hk
    rw [mW (by omega) ht (by omega)]
    obtain ⟨g1, g2, g3, g4⟩ := hg
    refine ⟨?_, by simp [i2], fun x hx => ?_, fun T g hT hg x hx hK => ?_, fun T hT j hj => ?_⟩
    · show (D ++ _).length + _ ≤ _
      rw [hcs, ar, Nat.mul_succ, Nat.mul_succ]
      omega
    · rcases List.mem_append.1 hx with h | h
      · exact i3 x h
      · exact g3 x h
    · have hT1 := x8 hT
      have hT2 := xM hT
      have h1 := i4 T g hT1 hg x hx (fun j hj => by rw [hK j (by omega)]; exact zv (by omega))
      have h2 := hK i (by omega)
      have h3 : (K ++ [((aG (ouL m cur a)).getD i 0, ((n + 1 + D.length : Nat) : Int), ())]).getD i kd0 = ((aG (ouL m cur a)).getD i 0, ((n + 1 + D.length : Nat) : Int), ()) := by rw [← i2]; exact zA
      have h4 : x.2.2.1.getD i kd0 = ((aG (ouL m cur a)).getD i 0, ((n + 1 + D.length : Nat) : Int), ()) := h2.trans h3
      refine pR h1 ?_
      rw [kL (by rw [h4, hx]; exact ⟨rfl, rfl⟩), hx, g2 T g hT2 (by omega)]
      congr 1
      show _ = n + 1 + (D ++ _).length
      rw [ar]; omega
    · by_cases e : j = i
      · subst e
        refine ⟨n + 1 + D.length, ?_, fun f s hs => g4 T (xM hT) f s hs⟩
        show (K ++ [_]).getD j kd0 = _
        rw [← i2]; exact zA
      · obtain ⟨e9, e1, e2⟩ := i5 T (x8 hT) j (by omega)
        refine ⟨e9, ?_, e2⟩
        show (K ++ [_]).getD j kd0 = _
        rw [zv (by omega)]; exact e1
theorem ru (m : Mly) : ∀ (v l : List Int), (dR m l v).length = l.length
  | [], _ => rfl
  | x :: v, l => by show (dR m (cO m l x) v).length = _; rw [ru m v]; exact aw ..
theorem vH {m : Mly} {l w : List Int} (h : spW m l w) : 2 ≤ l.length := by
  refine Classical.byContradiction fun h9 => ?_
  obtain ⟨v, c, _, hc1, _, hc3⟩ := h
  have h4 : smO m (dR m l v) c (dR m l v).length = true := ji.2 fun s t hs9 ht9 => by
    have e9 : (dR m l v).length ≤ 1 := by rw [ru]; omega
    match hq : dR m l v with
    | [] => rw [hq] at hs9; cases hs9
    | [x] => rw [hq, List.mem_singleton] at hs9 ht9; rw [hs9, ht9]
    | x :: y :: r => rw [hq] at e9; simp at e9
  rw [hc3] at h4; cases h4
theorem qT {m : Mly} (hm : MOK m) {f : Nat} (IH : ∀ (ini cur w : List Int) (n : Nat), 4098 ≤ f + n → dm m cur → cur.Nodup → ini.length = cur.length → 0 < cur.length → dD m w → (w ≠ [] → spW m cur w) → n + w.length + 258 * cur.length ≤ 4096 + jZ w → GOK m ini cur w n (cI m f ini cur w n))
    {ini cur w0 w2 : List Int} {a : Int} {n : Nat} (hgw : gF m ini cur w0 = a :: w2) (hf : 4098 ≤ f + 1 + n) (hst : dm m cur) (hn : cur.Nodup) (hil : ini.length = cur.length) (h0 : 0 < cur.length) (hw : dD m (a :: w2)) (hs : spW m cur (a :: w2)) (hb : n + (a :: w2).length + 258 * cur.length ≤ 4096 + 514) :
    GOK m ini cur (a :: w2) n (cI m (f + 1) ini cur w0 n) := by
  have ha := hw a (aV ..)
  have hw2 : dD m w2 := fun x hx => hw x (aM _ hx)
  obtain ⟨hu, hs2⟩ := np.1 hs
  have hol : (ouL m cur a).length = cur.length := aw ..
  obtain ⟨u1, u2⟩ := dC (ouL m cur a)
  have und : (aG (ouL m cur a)).Nodup := u1.imp fun h e => by omega
  have hcall : fL (ouL m cur a) (aG (ouL m cur a)) = cur.length := by rw [rB und fun y hy => (u2 y).2 hy, hol]
  have hge : ∀ i, i ≤ (aG (ouL m cur a)).length → fL (ouL m cur a) ((aG (ouL m cur a)).take i) + ((aG (ouL m cur a)).length - i) ≤ cur.length := fun i hi => by
    have h1 := sT (ouL m cur a) ((aG (ouL m cur a)).take i) ((aG (ouL m cur a)).drop i)
    rw [List.take_append_drop, hcall] at h1
    have h2 := p8 (ys := ouL m cur a) (ks := (aG (ouL m cur a)).drop i) fun k hk => (u2 k).1 (List.mem_of_mem_drop hk)
    rw [List.length_drop] at h2
    omega
  have hrec : ∀ o ∈ aG (ouL m cur a), (w2 ≠ [] → spW m (bV m cur a cur.length o) w2) → ∀ k, n + 1 ≤ k → k + w2.length + 258 * (bV m cur a cur.length o).length ≤ 4096 + jZ w2 → GOK m (cw m ini cur a cur.length o) (bV m cur a cur.length o) w2 k (cI m f (cw m ini cur a cur.length o) (bV m cur a cur.length o) w2 k) := fun o ho hsp k hk hkb =>
    IH _ _ w2 k (by omega) (jA hm ha hst) (yH hn hu) (fA ..) (mu ho) hw2 hsp hkb
  have hfull : FOK m ini cur a w2 n (aG (ouL m cur a)).length (((aG (ouL m cur a)).take (aG (ouL m cur a)).length).foldl (dN n (fun i c k => cI m f i c w2 k) m ini cur a) ([], [])) ∧ jZ w2 * (aG (ouL m cur a)).length + w2.length ≥ 514 + w2.length * (aG (ouL m cur a)).length := by
    rcases hs2 with ⟨rfl, h2⟩ | ⟨h2, h3⟩
    · have hr2 := qH h2
      refine ⟨lN (fun o ho => hrec o ho fun h => absurd rfl h) (fun i hi => ?_) (fun o ho => ?_) _ (Nat.le_refl _), ?_⟩
      · have := hge (i + 1) (by omega)
        rw [fJ]
        simp only [ax, aI] at hb ⊢
        by_cases e : i = 0
        · subst e; omega
        · omega
      · have := mu ho
        rw [fJ]; simp only [aI]; omega
      · rw [fJ]; simp only [aI]; omega
    · cases w2 with
      | nil => exact absurd rfl (tJ h3)
      | cons b w3 =>
        have hall : ∀ s ∈ cur, m.out s a = m.out (cur.getD 0 0) a := fun s hs9 => ji.1 h2 _ _ hs9 (br h0)
        have huo : aG (ouL m cur a) = [m.out (cur.getD 0 0) a] := yz (by omega) fun x hx => by
          obtain ⟨s, hs9, rfl⟩ := List.mem_map.1 hx
          exact hall s hs9
        have hgc := (vc hil hall).2
        have hlen : (cO m cur a).length = cur.length := aw ..
        have h2c : 2 ≤ (cO m cur a).length := vH h3
        have hcnt := hge 1 (by rw [huo]; simp)
        refine ⟨lN (fun o ho => hrec o ho fun _ => ?_) (fun i hi => ?_) (fun o ho => ?_) _ (Nat.le_refl _), ?_⟩
        · rw [huo, List.mem_singleton] at ho
          rw [ho, hgc]; exact h3
        · rw [huo] at hi hcnt ⊢
          simp only [ax, aI] at hi hb hcnt
          have : i = 0 := by omega
          subst this
          rw [g0]
          simp only [ax, Nat.zero_add, Nat.mul_one]
          omega
        · rw [huo, List.mem_singleton] at ho
          rw [ho, hgc, g0]; simp only [ax]; omega
        · rw [huo, g0]; simp only [ax, aI]; omega
  rw [aO] at hfull
  obtain ⟨⟨f1, f2, f3, f4, f6⟩, f5⟩ := hfull
  rw [aO, hcall] at f1
  have hn4 : ¬ 4096 < n + 1 := by simp only [ax] at hb; omega
  rw [da hn4 hgw]
  rcases ht : (aG (ouL m cur a)).foldl (dN n (fun i c k => cI m f i c w2 k) m ini cur a) ([], []) with ⟨D, K⟩
  rw [ht] at f1 f2 f3 f4 f6
  simp only at f1 f2 f3 f4 f6 ⊢
  have hdn : ∀ o ∈ aG (ouL m cur a), w2.length + ll ((bV m cur a cur.length o).length - if w2 = [] then 0 else 1) ≤ w2.length + ll (cur.length - 1) := fun o ho => by
    obtain ⟨q, hq, eq⟩ := fW ho
    have h1 := hge (q + 1) (by omega)
    have h2 := pT (ys := ouL m cur a) (ks := aG (ouL m cur a)) hq
    rw [eq, ← xw] at h2
    have h4 := p8 (ys := ouL m cur a) (ks := (aG (ouL m cur a)).take q) fun k hk => (u2 k).1 (List.mem_of_mem_take hk)
    rw [List.length_take] at h4
    refine Nat.add_le_add_left (uN ?_) _
    rcases hs2 with ⟨rfl, h3⟩ | ⟨h3, h5⟩
    · have h9 := qH h3
      rw [if_pos rfl]
      by_cases e : q = 0
      · omega
      · omega
    · rw [if_neg (tJ h5)]
      omega
  refine ⟨?_, fun T g hT hg => ?_, fun x hx => ?_, fun T hT f9 s hs9 => ?_⟩
  · rw [g0]; simp only [ax] at f5 ⊢; omega
  · obtain ⟨c1, c2, c3⟩ := oR hT
    obtain ⟨g, rfl⟩ : ∃ g9, g = g9 + 1 := ⟨g - 1, by omega⟩
    have e1 : (T.getD n nd0).1 = ini := by rw [c2]
    have e2 : (T.getD n nd0).2.1 = a := by rw [c2]
    have e3 : (T.getD n nd0).2.2.1 = K := by rw [c2]
    rw [nz ⟨c1, e1, hn⟩ (by rw [e2]; omega) (by rw [e2, e3]; exact ⟨ha.1, ha.2, f2.symm⟩), e3, f2]
    rw [f4 T g c3 (by omega) _ e2 (fun j _ => by rw [e3])]
    congr 1
    simp only [ax]; omega
  · rcases List.mem_cons.1 hx with h | h
    · rw [h]; intro h9
      have h8 : a = -1 := h9
      omega
    · exact f3 x h
  · obtain ⟨c1, c2, c3⟩ := oR hT
    have e2 : (T.getD n nd0).2.1 = a := by rw [c2]
    have e3 : (T.getD n nd0).2.2.1 = K := by rw [c2]
    rw [if_neg (by simp)]
    cases f9 with
    | zero => exact Nat.zero_le _
    | succ f9 =>
      have hin : m.out s a ∈ aG (ouL m cur a) := (u2 _).2 (List.mem_map.2 ⟨s, hs9, rfl⟩)
      obtain ⟨e, q1, q2⟩ := f6 T c3 _ (gS hin)
      have hgp := jO hin
      rw [hgp] at q1 q2
      have hk : kTo K (m.out s a) = (e : Int) := by
        rw [oM (i := pos (aG (ouL m cur a)) (m.out s a)) (by rw [f2]; exact gS hin) (by rw [q1]) fun j hj h9 => ?_, q1]
        have hjl := gS hin
        obtain ⟨e8, r1, _⟩ := f6 T c3 j (by omega)
        rw [r1] at h9
        have h8 : (aG (ouL m cur a)).getD j 0 = m.out s a := h9
        have e1 : (aG (ouL m cur a)).getD j 0 = (aG (ouL m cur a))[j]'(by omega) := jL (by omega)
        have e2 : (aG (ouL m cur a)).getD (pos (aG (ouL m cur a)) (m.out s a)) 0 = (aG (ouL m cur a))[pos (aG (ouL m cur a)) (m.out s a)]'hjl := jL hjl
        have := List.pairwise_iff_getElem.1 u1 _ _ (by omega) hjl hj
        omega
      rw [jM (by rw [e2]; omega), e2, e3, hk, ai]
      have h1 := q2 f9 (m.nxt s a) (AG hs9)
      have h2 := hdn _ hin
      simp only [ax]
      omega
theorem p6 {m : Mly} {ini cur : List Int} {n : Nat} (hn : cur.Nodup) (h0 : 0 < cur.length) (hl : xF m (ini, -1, [], ())) : GOK m ini cur [] n [(ini, -1, [], ())] := by
  refine ⟨by rw [fJ]; simp only [ax, aI]; omega, fun T g hT hg => ?_, fun x hx => ?_, fun T hT f s _ => ?_⟩
  · obtain ⟨c1, c2, _⟩ := oR hT
    obtain ⟨g, rfl⟩ : ∃ g9, g = g9 + 1 := ⟨g - 1, by omega⟩
    have e1 : (T.getD n nd0).1 = ini := by rw [c2]
    have e2 : (T.getD n nd0).2.1 = -1 := by rw [c2]
    have e3 : (T.getD n nd0).2.2.1 = [] := by rw [c2]
    rw [dH ⟨c1, e1, hn⟩ e2, e3]; rfl
  · rw [List.mem_singleton] at hx; rw [hx]; exact hl
  · obtain ⟨_, c2, _⟩ := oR hT
    rw [kv (by rw [c2]; show (-1 : Int) < 0; decide)]; exact Nat.zero_le _
theorem pC {m : Mly} (hm : MOK m) (n8 : m.nx.length ≤ 8) : ∀ (f : Nat) (ini cur w : List Int) (n : Nat), 4098 ≤ f + n → dm m cur → cur.Nodup → ini.length = cur.length → 0 < cur.length → dD m w → (w ≠ [] → spW m cur w) → n + w.length + 258 * cur.length ≤ 4096 + jZ w → GOK m ini cur w n (cI m f ini cur w n)
  | 0, ini, cur, w, n, hf, hst, hn, hil, h0, hw, hs, hb => by
    exfalso
    cases w with
    | nil => rw [fJ] at hb; simp only [aI] at hb; omega
    | cons a w => have h9 := vH (hs (by simp)); rw [g0] at hb; simp only [ax] at hb; omega
  | f + 1, ini, cur, w, n, hf, hst, hn, hil, h0, hw, hs, hb => by
    cases w with
    | cons a w => exact qT hm (pC hm n8 f) (if_neg (by simp)) hf hst hn hil h0 hw (hs (by simp)) (by rw [g0] at hb; exact hb)
    | nil =>
      rw [fJ] at hb
      simp only [aI] at hb
      by_cases h1 : 1 < ini.length
      · have hg : gF m ini cur [] = (fdW m cur).getD [] := if_pos ⟨rfl, h1⟩
        obtain ⟨q1, q2⟩ := vd m cur
        cases hq : (fdW m cur).getD [] with
        | nil =>
          rw [eS (by omega) (hg.trans hq)]
          exact p6 hn h0 fun _ => .inr ⟨cur, hst, hn, by omega, q2 hq⟩
        | cons a w =>
          have hfd : fdW m cur = some (a :: w) := by
            cases h9 : fdW m cur with
            | none => rw [h9] at hq; cases hq
            | some v => rw [h9] at hq; have : v = a :: w := hq; rw [this]
          obtain ⟨s1, s2⟩ := Bj hfd
          rw [hq] at q1
          have s3 := yX hm n8 hn hst q1 s1 s2
          have s4 := AF hm n8 hn hst q1 s1 s2
          obtain ⟨g1, g2, g3, g4⟩ := qT hm (pC hm n8 f) (hg.trans hq) hf hst hn hil h0 q1 s1 (by omega)
          refine ⟨?_, g2, g3, fun T hT f s hs => ?_⟩
          · rw [g0] at g1
            rw [fJ]; simp only [aI]; omega
          · have h9 := g4 T hT f s hs
            rw [if_neg (by simp)] at h9
            rw [if_pos rfl]
            obtain ⟨k, hk⟩ : ∃ k, cur.length = k + 1 := ⟨cur.length - 1, by omega⟩
            rw [hk] at s4 h9 ⊢
            rw [Nat.sub_zero, ll]
            simp only [ax, aI, Nat.add_sub_cancel] at s4 h9 ⊢
            omega
      · have hg : gF m ini cur [] = [] := if_neg fun h => h1 h.2
        rw [eS (by omega) hg]
        exact p6 hn h0 fun _ => .inl (by show ini.length = 1; omega)
def dt (m : Mly) : List bj := cI m 4098 (rgI m.nx.length) (rgI m.nx.length) [] 0
theorem jg {m : Mly} (hm : MOK m) (n8 : m.nx.length ≤ 8) : (dt m).length ≤ 2064 ∧ rtF m (dt m) ((dt m).length + 1) 0 (rgI m.nx.length) (rgI m.nx.length) = some (dt m).length ∧ (∀ x ∈ dt m, xF m x) ∧ ∀ (f : Nat) (s : Int), 0 ≤ s → s < m.nx.length → (wdG m (dt m) f 0 s).1.length ≤ 255 := by
  have hn1 := hm.n1
  obtain ⟨g1, g2, g3, g4⟩ := pC hm n8 4098 (rgI m.nx.length) (rgI m.nx.length) [] 0 (by omega) (kQ m) (oO _) rfl (by rw [di]; omega) (fun x hx => by cases hx) (fun h => absurd rfl h) (by rw [di, fJ]; simp only [aI]; omega)
  rw [di, fJ] at g1
  simp only [aI] at g1
  refine ⟨?_, ?_, g3, fun f s h0 h1 => ?_⟩
  · show (cI m 4098 (rgI m.nx.length) (rgI m.nx.length) [] 0).length ≤ 2064
    omega
  · have := g2 (dt m) ((dt m).length + 1) (fun i hi => by rw [Nat.zero_add]; rfl) (by omega)
    rw [Nat.zero_add] at this; exact this
  · have h2 := g4 (dt m) (fun i hi => by rw [Nat.zero_add]; rfl) f s (iE.2 ⟨h0, h1⟩)
    rw [if_pos rfl, di] at h2
    have h3 := uN n8
    rw [CP] at h3
    simp only [aI] at h2
    rw [Nat.sub_zero] at h2
    omega
/-plain-/
theorem dJ (m : Mly) : cI m 4098 (rgI m.nx.length) (rgI m.nx.length) [] 0 = dt m := rfl
def dE (m : Mly) : Int := if ¬ dK m = 0 then dK m else if 4096 < (dt m).length then 11 else 0
def iy (m : Mly) : List bj := if dE m = 0 then dt m else []
def lK (m : Mly) : Bool := decide (dE m = 0) && kA (dt m)
theorem yN (m : Mly) : (dt m).length ≤ 4097 := by have := mF m 4098 (rgI m.nx.length) (rgI m.nx.length) [] 0 (by omega); rw [Nat.zero_add] at this; exact this
theorem fI {m : Mly} (h : ¬ dE m = 0) : iy m = [] ∧ lK m = false := by
  unfold iy lK; rw [if_neg h, decide_eq_false h]; exact ⟨rfl, rfl⟩
theorem fa {m : Mly} (h : dE m = 0) : iy m = dt m ∧ lK m = kA (dt m) := by
  unfold iy lK; rw [if_pos h, decide_eq_true h]; exact ⟨rfl, rfl⟩
end Go.AV
