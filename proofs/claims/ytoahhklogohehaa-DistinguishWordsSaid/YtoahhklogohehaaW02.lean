/- Contracts of functions of this seat, each out of a walk through its code, and plain facts on what they compute. Conditions: those that each theorem names. -/
import Derived.Test.YtoahhklogohehaaW01
set_option linter.unusedSimpArgs false
set_option linter.unusedVariables false
set_option maxRecDepth 100000
namespace Go.AV
open Nat renaming reduceEqDiff → aa, reduceAdd → V, reduceLeDiff → ad, reduceLT → ag, reduceMul → af, reduceSub → ae
open List renaming set_cons_zero → cD, set_cons_succ → cm, getD_cons_zero → ar, length_append → aq, map_cons → aH, cons_append → aM, map_nil → bh, length_cons → au, nil_append → b6, take_succ_cons → dz, length_nil → aG, length_map → aD, length_replicate → bj, take_length → aI, mem_cons_self → aQ, mem_cons_of_mem → aJ
open Int renaming toNat_natCast → ah
/-plain-/
def qK : Nat → Nat → Nat
  | 0, _ => 0
  | k + 1, c => qK k (c / 2) + c % 2
theorem yt (l : List Int) : ∀ k, qK k (cdN l k) = ((rgI k).filter fun x => decide (x ∈ l)).length
  | 0 => rfl
  | k + 1 => by
    have e : rgI (k + 1) = rgI k ++ [(k : Int)] := by unfold rgI; rw [List.range_succ, List.map_append]; rfl
    rw [e, List.filter_append, aq, ← yt l k]
    show qK k (cdN l (k + 1) / 2) + cdN l (k + 1) % 2 = _
    rw [cdN]
    by_cases h : (k : Int) ∈ l
    · rw [if_pos h, List.filter_cons_of_pos (by simpa using h), show (2 * cdN l k + 1) / 2 = cdN l k by omega, show (2 * cdN l k + 1) % 2 = 1 by omega]; rfl
    · rw [if_neg h, List.filter_cons_of_neg (by simpa using h), show (2 * cdN l k + 0) / 2 = cdN l k by omega, show (2 * cdN l k + 0) % 2 = 0 by omega]; rfl
theorem zZ {l : List Int} {k : Nat} (hn : l.Nodup) (hl : ∀ x ∈ l, 0 ≤ x ∧ x < k) : qK k (cdN l k) = l.length := by
  rw [yt]
  refine Nat.le_antisymm (dV _ _ (List.Pairwise.filter _ (o4 k)) fun x hx => ?_) (dV _ _ hn fun x hx => ?_)
  · exact of_decide_eq_true (List.mem_filter.1 hx).2
  · have := hl x hx
    refine List.mem_filter.2 ⟨?_, decide_eq_true hx⟩
    exact List.mem_map.2 ⟨x.toNat, List.mem_range.2 (by omega), by omega⟩
def AA (k : Nat) : Nat := ((List.range 256).filter fun c => decide (qK 8 c = k)).length
def kH : Nat → Nat
  | 0 => 0
  | k + 1 => kH k + AA (k + 1)
theorem uf {j k : Nat} (h : j ≤ k) : kH j ≤ kH k := by
  induction h with
  | refl => exact Nat.le_refl _
  | step h ih => rw [kH]; omega
theorem Bn : kH 8 = 255 := by decide +kernel
theorem y8 {m : Mly} (hm : MOK m) (hn8 : m.nx.length ≤ 8) {l w : List Int} (hn : l.Nodup) (hst : cK m l) (hw : dA m w) (h : spW m l w) (hmin : ∀ v, dA m v → spW m l v → w.length ≤ v.length) : w.length ≤ AA l.length := by
  obtain ⟨v, a, rfl, h1, h2, h3⟩ := h
  have hwv : dA m v := fun x hx => hw x (List.mem_append_left _ hx)
  have hsp : ∀ p, spW m (dr m l (v.take p)) (v.drop p ++ [a]) := fun p => by
    have h1' := h1
    rw [← List.take_append_drop p v] at h1'
    have hc := (gZ.1 h1').2
    refine ⟨_, _, rfl, hc, ?_, ?_⟩
    · rw [← gu, List.take_append_drop]; exact h2
    · rw [← gu, List.take_append_drop]; exact h3
  have hch : ∀ p, chW m l (v.take p) := fun p => by
    have h1' := h1
    rw [← List.take_append_drop p v] at h1'
    exact (gZ.1 h1').1
  have hnd : ((List.range (v.length + 1)).map fun p => (cdN (dr m l (v.take p)) 8 : Int)).Nodup := by
    refine List.pairwise_map.2 (List.Pairwise.imp_of_mem (fun {p q} hp hq hlt e => ?_) (List.pairwise_lt_range (n := v.length + 1)))
    have hp := List.mem_range.1 hp
    have hq := List.mem_range.1 hq
    have st : ∀ p, cK m (dr m l (v.take p)) := fun p => o7 hm (fun x hx => hwv x (List.mem_of_mem_take hx)) hst
    have hse : ni (dr m l (v.take q)) (dr m l (v.take p)) := vT (n := 8) (fun x hx => by have := st q x hx; omega) (fun x hx => by have := st p x hx; omega) (by omega)
    have hs := uX hse (gh hn (hch q)) (gh hn (hch p)) (hsp q)
    have hs2 := pG (hch p) hs
    have := hmin _ (fun x hx => by
      rcases List.mem_append.1 hx with hx | hx
      · exact hwv x (List.mem_of_mem_take hx)
      · rcases List.mem_append.1 hx with hx | hx
        · exact hwv x (List.mem_of_mem_drop hx)
        · exact hw x (by simp at hx; simp [hx])) hs2
    simp only [aq, List.length_take, List.length_drop, au, aG] at this
    omega
  have hl9 : ∀ (v l : List Int), (dr m l v).length = l.length := by
    intro v
    induction v with
    | nil => intro l; rfl
    | cons x v ih => intro l; show (dr m (cu m l x) v).length = _; rw [ih]; exact aD ..
  have := dV _ (((List.range 256).filter fun c => decide (qK 8 c = l.length)).map fun (c : Nat) => (c : Int)) hnd (fun x hx => by
    obtain ⟨p, _, rfl⟩ := List.mem_map.1 hx
    have h1 := sV (dr m l (v.take p)) 8
    refine List.mem_map.2 ⟨_, List.mem_filter.2 ⟨List.mem_range.2 (by omega), decide_eq_true ?_⟩, rfl⟩
    have st := o7 hm (fun x hx => hwv x (List.mem_of_mem_take hx)) hst (v := v.take p)
    rw [zZ (gh hn (hch p)) (fun x hx => by have := st x hx; omega), hl9])
  rw [aD, List.length_range, aD] at this
  rw [aq]
  simp only [au, aG]
  exact this
def jo (w : List Int) : Nat := if w = [] then 257 else 514
theorem f8 : jo [] = 257 := rfl
theorem fD (a : Int) (w : List Int) : jo (a :: w) = 514 := if_neg (by simp)
theorem xu {m : Mly} {cur : List Int} {a o : Int} (h : ∀ s ∈ cur, m.out s a = o) : ptL m cur a o cur.length = (List.range cur.length).map (fun (q : Nat) => (q : Int)) := by
  unfold ptL
  rw [List.filter_eq_self.2]
  intro q hq
  have := List.mem_range.1 hq
  exact decide_eq_true (h _ (bl (by omega)))
theorem tl (l : List Int) : pkL l ((List.range l.length).map (fun (q : Nat) => (q : Int))) = l := by
  unfold pkL
  rw [List.map_map]
  apply List.ext_getElem (by simp)
  intro i h1 h2
  simp [List.getD, h2]
theorem tP {m : Mly} {ini cur : List Int} {a o : Int} (hil : ini.length = cur.length) (h : ∀ s ∈ cur, m.out s a = o) : bV m ini cur a cur.length o = ini ∧ bB m cur a cur.length o = cu m cur a := by
  unfold bV bB
  rw [xu h]
  refine ⟨?_, ?_⟩
  · rw [← hil]; exact tl ini
  · rw [tl]
theorem xm {xs : List Int} {o : Int} (h0 : 0 < xs.length) (h : ∀ x ∈ xs, x = o) : aC xs = [o] := by
  obtain ⟨h1, h2⟩ := dn xs
  have hm : ∀ x ∈ aC xs, x = o := fun x hx => h x ((h2 x).1 hx)
  have ho : o ∈ aC xs := by
    have h9 : xs.getD 0 0 ∈ xs := bl h0
    rw [h2, ← h _ h9]; exact h9
  match hu : aC xs with
  | [] => rw [hu] at ho; cases ho
  | [x] => rw [hm x (by rw [hu]; simp)]
  | x :: y :: r =>
    have e1 := hm x (by rw [hu]; simp)
    have e2 := hm y (by rw [hu]; simp)
    rw [hu] at h1
    have := (List.pairwise_cons.1 h1).1 y (by simp)
    omega
theorem pW {m : Mly} {cur : List Int} {a : Int} (h : smO m cur a cur.length = false) : 2 ≤ (aC (ouL m cur a)).length := by
  refine Classical.byContradiction fun hn => ?_
  have h9 : smO m cur a cur.length = true := iU.2 fun s t hs ht => by
    have h2 := (dn (ouL m cur a)).2
    have ms : m.out s a ∈ aC (ouL m cur a) := (h2 _).2 (List.mem_map.2 ⟨s, hs, rfl⟩)
    have mt : m.out t a ∈ aC (ouL m cur a) := (h2 _).2 (List.mem_map.2 ⟨t, ht, rfl⟩)
    match hu : aC (ouL m cur a) with
    | [] => rw [hu] at ms; cases ms
    | [x] =>
      rw [hu, List.mem_singleton] at ms mt
      rw [ms, mt]
    | x :: y :: r => rw [hu] at hn; simp only [au] at hn; omega
  rw [h] at h9; cases h9
theorem x7 {m : Mly} {cur : List Int} {a o : Int} (hn : cur.Nodup) (h : unS m cur a cur.length = false) : (bB m cur a cur.length o).Nodup := by
  unfold bB cu pkL ptL
  rw [List.map_map, List.map_map]
  refine List.pairwise_map.2 ?_
  have h0 : ((List.range cur.length).filter (fun (q : Nat) => decide (m.out (cur.getD q 0) a = o))).Nodup := List.Pairwise.filter _ List.nodup_range
  refine List.Pairwise.imp_of_mem (fun {p q} hp hq hne e => hne ?_) h0
  obtain ⟨p1, p2⟩ := List.mem_filter.1 hp
  obtain ⟨q1, q2⟩ := List.mem_filter.1 hq
  have p1 := List.mem_range.1 p1
  have q1 := List.mem_range.1 q1
  have p2 := of_decide_eq_true p2
  have q2 := of_decide_eq_true q2
  simp only [Function.comp, ah] at e
  exact iu hn p1 q1 (uu hn h (bl p1) (bl q1) (by rw [p2, q2]) e)
theorem tI {m : Mly} {cur : List Int} {a o : Int} : ∀ i, i ≤ cur.length → (ptL m cur a o i).length = (ouL m (cur.take i) a).count o
  | 0, _ => rfl
  | i + 1, h => by
    have ih := tI (m := m) (cur := cur) (a := a) (o := o) i (by omega)
    rw [gR (by omega), List.count_append, ← ih]
    by_cases e : m.out (cur.getD i 0) a = o
    · rw [lU e, aq, e]; simp
    · rw [om e, List.count_cons_of_ne e]; simp
theorem vY {m : Mly} {cur : List Int} {a o : Int} : (bB m cur a cur.length o).length = (ouL m cur a).count o := by
  have h := tI (m := m) (cur := cur) (a := a) (o := o) cur.length (Nat.le_refl _)
  rw [aI] at h
  unfold bB cu pkL
  rw [aD, aD, h]
def fk (ys ks : List Int) : Nat := (ks.map fun o => ys.count o).sum
theorem rA (ys k1 k2 : List Int) : fk ys (k1 ++ k2) = fk ys k1 + fk ys k2 := by unfold fk; rw [List.map_append, List.sum_append]
theorem xR (ks : List Int) : fk [] ks = 0 := by
  induction ks with
  | nil => rfl
  | cons k ks ih => unfold fk at ih ⊢; rw [aH, List.sum_cons, ih]; rfl
theorem rS {y : Int} {ys : List Int} : ∀ {ks : List Int}, y ∉ ks → fk (y :: ys) ks = fk ys ks
  | [], _ => rfl
  | k :: ks, h => by
    have ih := rS (ys := ys) (ks := ks) (fun h9 => h (aJ _ h9))
    unfold fk at ih ⊢
    rw [aH, List.sum_cons, aH, List.sum_cons, ih, List.count_cons_of_ne (fun e => h (by rw [e]; exact aQ ..))]
theorem tp {y : Int} {ys : List Int} : ∀ {ks : List Int}, ks.Nodup → y ∈ ks → fk (y :: ys) ks = fk ys ks + 1
  | k :: ks, hn, h => by
    obtain ⟨h1, h2⟩ := List.nodup_cons.1 hn
    by_cases e : y = k
    · subst e
      have := rS (ys := ys) h1
      unfold fk at this ⊢
      rw [aH, List.sum_cons, aH, List.sum_cons, this, List.count_cons_self]; omega
    · have ih := tp (ys := ys) h2 ((List.mem_cons.1 h).resolve_left e)
      unfold fk at ih ⊢
      rw [aH, List.sum_cons, aH, List.sum_cons, ih, List.count_cons_of_ne e]; omega
theorem rm {ks : List Int} (hn : ks.Nodup) : ∀ {ys : List Int}, (∀ y ∈ ys, y ∈ ks) → fk ys ks = ys.length
  | [], _ => xR ks
  | y :: ys, h => by
    rw [tp hn (h y (aQ ..)), rm hn fun z hz => h z (aJ _ hz)]; rfl
theorem oY {ys : List Int} : ∀ {ks : List Int}, (∀ k ∈ ks, k ∈ ys) → ks.length ≤ fk ys ks
  | [], _ => Nat.zero_le _
  | k :: ks, h => by
    have ih := oY (ys := ys) (ks := ks) fun z hz => h z (aJ _ hz)
    have := List.count_pos_iff.2 (h k (aQ ..))
    unfold fk at ih ⊢
    rw [aH, List.sum_cons, au]; omega
theorem pw {ys ks : List Int} {i : Nat} (h : i < ks.length) : fk ys (ks.take (i + 1)) = fk ys (ks.take i) + ys.count (ks.getD i 0) := by
  rw [cR h, rA]
  show _ + (([_] : List Int).map _).sum = _
  simp
def kI (T : List b7) (n : Nat) (D : List b7) : Prop := ∀ i, i < D.length → T[n + i]? = D[i]?
theorem wv {T : List b7} {n : Nat} {D E : List b7} (h : kI T n (D ++ E)) : kI T n D := fun i hi => by
  rw [h i (by rw [aq]; omega), List.getElem?_append_left hi]
theorem wO {T : List b7} {n : Nat} {D E : List b7} (h : kI T n (D ++ E)) : kI T (n + D.length) E := fun i hi => by
  have h1 := h (D.length + i) (by rw [aq]; omega)
  rw [List.getElem?_append_right (by omega), show D.length + i - D.length = i by omega] at h1
  rw [← h1]; congr 1; omega
theorem nZ {T : List b7} {n : Nat} {x : b7} {D : List b7} (h : kI T n (x :: D)) : n < T.length ∧ T.getD n nd0 = x ∧ kI T (n + 1) D := by
  have h0 := h 0 (by simp)
  rw [Nat.add_zero, List.getElem?_cons_zero] at h0
  refine ⟨(List.getElem?_eq_some_iff.1 h0).1, by rw [List.getD, h0]; rfl, fun i hi => ?_⟩
  have h1 := h (i + 1) (by simp only [au]; omega)
  rw [List.getElem?_cons_succ] at h1
  rw [← h1]; congr 1; omega
def w5 (m : Mly) (x : b7) : Prop := x.2.1 = -1 → x.1.length = 1 ∨ ∃ c, cK m c ∧ c.Nodup ∧ 2 ≤ c.length ∧ fdW m c = none
structure GOK (m : Mly) (ini cur w : List Int) (n : Nat) (D : List b7) : Prop where
  len : D.length + jo w ≤ w.length + 258 * cur.length
  rt : ∀ (T : List b7) (g : Nat), kI T n D → T.length + 1 ≤ g + n → rtF m T g n ini cur = some (n + D.length)
  lf : ∀ x ∈ D, w5 m x
  dw : ∀ (T : List b7), kI T n D → ∀ (f : Nat) (s : Int), s ∈ cur → (wdG m T f n s).1.length ≤ w.length + kH (cur.length - if w = [] then 0 else 1)
structure FOK (m : Mly) (ini cur : List Int) (a : Int) (w : List Int) (n i : Nat) (t : List b7 × List dN) : Prop where
  len : t.1.length + jo w * i ≤ w.length * i + 258 * fk (ouL m cur a) ((aC (ouL m cur a)).take i)
  kl : t.2.length = i
  lf : ∀ x ∈ t.1, w5 m x
  rt : ∀ (T : List b7) (g : Nat), kI T (n + 1) t.1 → T.length + 1 ≤ g + (n + 1) → ∀ x : b7, x.2.1 = a → (∀ j, j < i → x.2.2.1.getD j kd0 = t.2.getD j kd0) → (List.range i).foldl (fh m (rtF m T g) ini cur x) (some (n + 1)) = some (n + 1 + t.1.length)
  dw : ∀ (T : List b7), kI T (n + 1) t.1 → ∀ j, j < i → ∃ e : Nat, t.2.getD j kd0 = ((aC (ouL m cur a)).getD j 0, (e : Int), ()) ∧ ∀ (f : Nat) (s : Int), s ∈ bB m cur a cur.length ((aC (ouL m cur a)).getD j 0) → (wdG m T f e s).1.length ≤ w.length + kH ((bB m cur a cur.length ((aC (ouL m cur a)).getD j 0)).length - if w = [] then 0 else 1)
theorem yI {K : List dN} {k : dN} {j : Nat} (h : j < K.length) : (K ++ [k]).getD j kd0 = K.getD j kd0 := by simp [List.getD, List.getElem?_append_left h]
theorem xW {K : List dN} {k : dN} : (K ++ [k]).getD K.length kd0 = k := by simp [List.getD]
theorem lr {m : Mly} {ini cur w : List Int} {a : Int} {n : Nat} {rec : List Int → List Int → Nat → List b7}
    (hr : ∀ o ∈ aC (ouL m cur a), ∀ k, n + 1 ≤ k → k + w.length + 258 * (bB m cur a cur.length o).length ≤ 4096 + jo w → GOK m (bV m ini cur a cur.length o) (bB m cur a cur.length o) w k (rec (bV m ini cur a cur.length o) (bB m cur a cur.length o) k))
    (hB : ∀ i, i < (aC (ouL m cur a)).length → n + 1 + w.length * (i + 1) + 258 * fk (ouL m cur a) ((aC (ouL m cur a)).take (i + 1)) ≤ 4096 + jo w * (i + 1))
    (hC : ∀ o ∈ aC (ouL m cur a), jo w ≤ w.length + 258 * (bB m cur a cur.length o).length) : ∀ i, i ≤ (aC (ouL m cur a)).length → FOK m ini cur a w n i (((aC (ouL m cur a)).take i).foldl (dX n rec m ini cur a) ([], []))
  | 0, _ => ⟨by simp, rfl, fun x hx => (by cases hx), fun T g _ _ x _ _ => rfl, fun T _ j hj => by omega⟩
  | i + 1, hi => by
    have ih := lr hr hB hC i (by omega)
    have ho : (aC (ouL m cur a)).getD i 0 ∈ aC (ouL m cur a) := bl (by omega)
    have hb := hB i (by omega)
    have hc := hC _ ho
    have hcs := pw (ys := ouL m cur a) (ks := aC (ouL m cur a)) (i := i) (by omega)
    rw [← vY] at hcs
    rcases ht : ((aC (ouL m cur a)).take i).foldl (dX n rec m ini cur a) ([], []) with ⟨D, K⟩
    rw [ht] at ih
    obtain ⟨i1, i2, i3, i4, i5⟩ := ih
    simp only at i1 i2 i3 i4 i5
    rw [hcs, Nat.mul_succ, Nat.mul_succ] at hb
    have hk : n + 1 + D.length + w.length + 258 * (bB m cur a cur.length ((aC (ouL m cur a)).getD i 0)).length ≤ 4096 + jo w := by omega
    have hg := hr _ ho (n + 1 + D.length) (by omega) hk
    rw [mu (by omega) ht (by omega)]
    obtain ⟨g1, g2, g3, g4⟩ := hg
    refine ⟨?_, by simp [i2], fun x hx => ?_, fun T g hT hg x hx hK => ?_, fun T hT j hj => ?_⟩
    · show (D ++ _).length + _ ≤ _
      rw [hcs, aq, Nat.mul_succ, Nat.mul_succ]
      omega
    · rcases List.mem_append.1 hx with h | h
      · exact i3 x h
      · exact g3 x h
    · have hT1 := wv hT
      have hT2 := wO hT
      have h1 := i4 T g hT1 hg x hx (fun j hj => by rw [hK j (by omega)]; exact yI (by omega))
      have h2 := hK i (by omega)
      have h3 : (K ++ [((aC (ouL m cur a)).getD i 0, ((n + 1 + D.length : Nat) : Int), ())]).getD i kd0 = ((aC (ouL m cur a)).getD i 0, ((n + 1 + D.length : Nat) : Int), ()) := by rw [← i2]; exact xW
      have h4 : x.2.2.1.getD i kd0 = ((aC (ouL m cur a)).getD i 0, ((n + 1 + D.length : Nat) : Int), ()) := h2.trans h3
      refine lh h1 ?_
      rw [kb (by rw [h4, hx]; exact ⟨rfl, rfl⟩), hx, g2 T g hT2 (by omega)]
      congr 1
      show _ = n + 1 + (D ++ _).length
      rw [aq]; omega
    · by_cases e : j = i
      · subst e
        refine ⟨n + 1 + D.length, ?_, fun f s hs => g4 T (wO hT) f s hs⟩
        show (K ++ [_]).getD j kd0 = _
        rw [← i2]; exact xW
      · obtain ⟨e9, e1, e2⟩ := i5 T (wv hT) j (by omega)
        refine ⟨e9, ?_, e2⟩
        show (K ++ [_]).getD j kd0 = _
        rw [yI (by omega)]; exact e1
theorem rV (m : Mly) : ∀ (v l : List Int), (dr m l v).length = l.length
  | [], _ => rfl
  | x :: v, l => by show (dr m (cu m l x) v).length = _; rw [rV m v]; exact aD ..
theorem uT {m : Mly} {l w : List Int} (h : spW m l w) : 2 ≤ l.length := by
  refine Classical.byContradiction fun h9 => ?_
  obtain ⟨v, c, _, hc1, _, hc3⟩ := h
  have h4 : smO m (dr m l v) c (dr m l v).length = true := iU.2 fun s t hs9 ht9 => by
    have e9 : (dr m l v).length ≤ 1 := by rw [rV]; omega
    match hq : dr m l v with
    | [] => rw [hq] at hs9; cases hs9
    | [x] => rw [hq, List.mem_singleton] at hs9 ht9; rw [hs9, ht9]
    | x :: y :: r => rw [hq] at e9; simp at e9
  rw [hc3] at h4; cases h4
theorem pz {m : Mly} (hm : MOK m) {f : Nat} (IH : ∀ (ini cur w : List Int) (n : Nat), 4098 ≤ f + n → cK m cur → cur.Nodup → ini.length = cur.length → 0 < cur.length → dA m w → (w ≠ [] → spW m cur w) → n + w.length + 258 * cur.length ≤ 4096 + jo w → GOK m ini cur w n (cv m f ini cur w n))
    {ini cur w0 w2 : List Int} {a : Int} {n : Nat} (hgw : gI m ini cur w0 = a :: w2) (hf : 4098 ≤ f + 1 + n) (hst : cK m cur) (hn : cur.Nodup) (hil : ini.length = cur.length) (h0 : 0 < cur.length) (hw : dA m (a :: w2)) (hs : spW m cur (a :: w2)) (hb : n + (a :: w2).length + 258 * cur.length ≤ 4096 + 514) :
    GOK m ini cur (a :: w2) n (cv m (f + 1) ini cur w0 n) := by
  have ha := hw a (aQ ..)
  have hw2 : dA m w2 := fun x hx => hw x (aJ _ hx)
  obtain ⟨hu, hs2⟩ := mM.1 hs
  have hol : (ouL m cur a).length = cur.length := aD ..
  obtain ⟨u1, u2⟩ := dn (ouL m cur a)
  have und : (aC (ouL m cur a)).Nodup := u1.imp fun h e => by omega
  have hcall : fk (ouL m cur a) (aC (ouL m cur a)) = cur.length := by rw [rm und fun y hy => (u2 y).2 hy, hol]
  have hge : ∀ i, i ≤ (aC (ouL m cur a)).length → fk (ouL m cur a) ((aC (ouL m cur a)).take i) + ((aC (ouL m cur a)).length - i) ≤ cur.length := fun i hi => by
    have h1 := rA (ouL m cur a) ((aC (ouL m cur a)).take i) ((aC (ouL m cur a)).drop i)
    rw [List.take_append_drop, hcall] at h1
    have h2 := oY (ys := ouL m cur a) (ks := (aC (ouL m cur a)).drop i) fun k hk => (u2 k).1 (List.mem_of_mem_drop hk)
    rw [List.length_drop] at h2
    omega
  have hrec : ∀ o ∈ aC (ouL m cur a), (w2 ≠ [] → spW m (bB m cur a cur.length o) w2) → ∀ k, n + 1 ≤ k → k + w2.length + 258 * (bB m cur a cur.length o).length ≤ 4096 + jo w2 → GOK m (bV m ini cur a cur.length o) (bB m cur a cur.length o) w2 k (cv m f (bV m ini cur a cur.length o) (bB m cur a cur.length o) w2 k) := fun o ho hsp k hk hkb =>
    IH _ _ w2 k (by omega) (mQ hm ha hst) (x7 hn hu) (hU ..) (kd ho) hw2 hsp hkb
  have hfull : FOK m ini cur a w2 n (aC (ouL m cur a)).length (((aC (ouL m cur a)).take (aC (ouL m cur a)).length).foldl (dX n (fun i c k => cv m f i c w2 k) m ini cur a) ([], [])) ∧ jo w2 * (aC (ouL m cur a)).length + w2.length ≥ 514 + w2.length * (aC (ouL m cur a)).length := by
    rcases hs2 with ⟨rfl, h2⟩ | ⟨h2, h3⟩
    · have hr2 := pW h2
      refine ⟨lr (fun o ho => hrec o ho fun h => absurd rfl h) (fun i hi => ?_) (fun o ho => ?_) _ (Nat.le_refl _), ?_⟩
      · have := hge (i + 1) (by omega)
        rw [f8]
        simp only [au, aG] at hb ⊢
        by_cases e : i = 0
        · subst e; omega
        · omega
      · have := kd ho
        rw [f8]; simp only [aG]; omega
      · rw [f8]; simp only [aG]; omega
    · cases w2 with
      | nil => exact absurd rfl (sN h3)
      | cons b w3 =>
        have hall : ∀ s ∈ cur, m.out s a = m.out (cur.getD 0 0) a := fun s hs9 => iU.1 h2 _ _ hs9 (bl h0)
        have huo : aC (ouL m cur a) = [m.out (cur.getD 0 0) a] := xm (by omega) fun x hx => by
          obtain ⟨s, hs9, rfl⟩ := List.mem_map.1 hx
          exact hall s hs9
        have hgc := (tP hil hall).2
        have hlen : (cu m cur a).length = cur.length := aD ..
        have h2c : 2 ≤ (cu m cur a).length := uT h3
        have hcnt := hge 1 (by rw [huo]; simp)
        refine ⟨lr (fun o ho => hrec o ho fun _ => ?_) (fun i hi => ?_) (fun o ho => ?_) _ (Nat.le_refl _), ?_⟩
        · rw [huo, List.mem_singleton] at ho
          rw [ho, hgc]; exact h3
        · rw [huo] at hi hcnt ⊢
          simp only [au, aG] at hi hb hcnt
          have : i = 0 := by omega
          subst this
          rw [fD]
          simp only [au, Nat.zero_add, Nat.mul_one]
          omega
        · rw [huo, List.mem_singleton] at ho
          rw [ho, hgc, fD]; simp only [au]; omega
        · rw [huo, fD]; simp only [au, aG]; omega
  rw [aI] at hfull
  obtain ⟨⟨f1, f2, f3, f4, f6⟩, f5⟩ := hfull
  rw [aI, hcall] at f1
  have hn4 : ¬ 4096 < n + 1 := by simp only [au] at hb; omega
  rw [cV hn4 hgw]
  rcases ht : (aC (ouL m cur a)).foldl (dX n (fun i c k => cv m f i c w2 k) m ini cur a) ([], []) with ⟨D, K⟩
  rw [ht] at f1 f2 f3 f4 f6
  simp only at f1 f2 f3 f4 f6 ⊢
  have hdn : ∀ o ∈ aC (ouL m cur a), w2.length + kH ((bB m cur a cur.length o).length - if w2 = [] then 0 else 1) ≤ w2.length + kH (cur.length - 1) := fun o ho => by
    obtain ⟨q, hq, eq⟩ := fR ho
    have h1 := hge (q + 1) (by omega)
    have h2 := pw (ys := ouL m cur a) (ks := aC (ouL m cur a)) hq
    rw [eq, ← vY] at h2
    have h4 := oY (ys := ouL m cur a) (ks := (aC (ouL m cur a)).take q) fun k hk => (u2 k).1 (List.mem_of_mem_take hk)
    rw [List.length_take] at h4
    refine Nat.add_le_add_left (uf ?_) _
    rcases hs2 with ⟨rfl, h3⟩ | ⟨h3, h5⟩
    · have h9 := pW h3
      rw [if_pos rfl]
      by_cases e : q = 0
      · omega
      · omega
    · rw [if_neg (sN h5)]
      omega
  refine ⟨?_, fun T g hT hg => ?_, fun x hx => ?_, fun T hT f9 s hs9 => ?_⟩
  · rw [fD]; simp only [au] at f5 ⊢; omega
  · obtain ⟨c1, c2, c3⟩ := nZ hT
    obtain ⟨g, rfl⟩ : ∃ g9, g = g9 + 1 := ⟨g - 1, by omega⟩
    have e1 : (T.getD n nd0).1 = ini := by rw [c2]
    have e2 : (T.getD n nd0).2.1 = a := by rw [c2]
    have e3 : (T.getD n nd0).2.2.1 = K := by rw [c2]
    rw [kq ⟨c1, e1, hn⟩ (by rw [e2]; omega) (by rw [e2, e3]; exact ⟨ha.1, ha.2, f2.symm⟩), e3, f2]
    rw [f4 T g c3 (by omega) _ e2 (fun j _ => by rw [e3])]
    congr 1
    simp only [au]; omega
  · rcases List.mem_cons.1 hx with h | h
    · rw [h]; intro h9
      have h8 : a = -1 := h9
      omega
    · exact f3 x h
  · obtain ⟨c1, c2, c3⟩ := nZ hT
    have e2 : (T.getD n nd0).2.1 = a := by rw [c2]
    have e3 : (T.getD n nd0).2.2.1 = K := by rw [c2]
    rw [if_neg (by simp)]
    cases f9 with
    | zero => exact Nat.zero_le _
    | succ f9 =>
      have hin : m.out s a ∈ aC (ouL m cur a) := (u2 _).2 (List.mem_map.2 ⟨s, hs9, rfl⟩)
      obtain ⟨e, q1, q2⟩ := f6 T c3 _ (gP hin)
      have hgp := kX hin
      rw [hgp] at q1 q2
      have hk : kTo K (m.out s a) = (e : Int) := by
        rw [sG (i := pos (aC (ouL m cur a)) (m.out s a)) (by rw [f2]; exact gP hin) (by rw [q1]) fun j hj h9 => ?_, q1]
        have hjl := gP hin
        obtain ⟨e8, r1, _⟩ := f6 T c3 j (by omega)
        rw [r1] at h9
        have h8 : (aC (ouL m cur a)).getD j 0 = m.out s a := h9
        have e1 : (aC (ouL m cur a)).getD j 0 = (aC (ouL m cur a))[j]'(by omega) := sh (by omega)
        have e2 : (aC (ouL m cur a)).getD (pos (aC (ouL m cur a)) (m.out s a)) 0 = (aC (ouL m cur a))[pos (aC (ouL m cur a)) (m.out s a)]'hjl := sh hjl
        have := List.pairwise_iff_getElem.1 u1 _ _ (by omega) hjl hj
        omega
      rw [wb (by rw [e2]; omega), e2, e3, hk, ah]
      have h1 := q2 f9 (m.nxt s a) (z8 hs9)
      have h2 := hdn _ hin
      simp only [au]
      omega
theorem pK {m : Mly} {ini cur : List Int} {n : Nat} (hn : cur.Nodup) (h0 : 0 < cur.length) (hl : w5 m (ini, -1, [], ())) : GOK m ini cur [] n [(ini, -1, [], ())] := by
  refine ⟨by rw [f8]; simp only [au, aG]; omega, fun T g hT hg => ?_, fun x hx => ?_, fun T hT f s _ => ?_⟩
  · obtain ⟨c1, c2, _⟩ := nZ hT
    obtain ⟨g, rfl⟩ : ∃ g9, g = g9 + 1 := ⟨g - 1, by omega⟩
    have e1 : (T.getD n nd0).1 = ini := by rw [c2]
    have e2 : (T.getD n nd0).2.1 = -1 := by rw [c2]
    have e3 : (T.getD n nd0).2.2.1 = [] := by rw [c2]
    rw [d4 ⟨c1, e1, hn⟩ e2, e3]; rfl
  · rw [List.mem_singleton] at hx; rw [hx]; exact hl
  · obtain ⟨_, c2, _⟩ := nZ hT
    rw [pS (by rw [c2]; show (-1 : Int) < 0; decide)]; exact Nat.zero_le _
theorem pp {m : Mly} (hm : MOK m) (n8 : m.nx.length ≤ 8) : ∀ (f : Nat) (ini cur w : List Int) (n : Nat), 4098 ≤ f + n → cK m cur → cur.Nodup → ini.length = cur.length → 0 < cur.length → dA m w → (w ≠ [] → spW m cur w) → n + w.length + 258 * cur.length ≤ 4096 + jo w → GOK m ini cur w n (cv m f ini cur w n)
  | 0, ini, cur, w, n, hf, hst, hn, hil, h0, hw, hs, hb => by
    exfalso
    cases w with
    | nil => rw [f8] at hb; simp only [aG] at hb; omega
    | cons a w => have h9 := uT (hs (by simp)); rw [fD] at hb; simp only [au] at hb; omega
  | f + 1, ini, cur, w, n, hf, hst, hn, hil, h0, hw, hs, hb => by
    cases w with
    | cons a w => exact pz hm (pp hm n8 f) (if_neg (by simp)) hf hst hn hil h0 hw (hs (by simp)) (by rw [fD] at hb; exact hb)
    | nil =>
      rw [f8] at hb
      simp only [aG] at hb
      by_cases h1 : 1 < ini.length
      · have hg : gI m ini cur [] = (fdW m cur).getD [] := if_pos ⟨rfl, h1⟩
        obtain ⟨q1, q2⟩ := ux m cur
        cases hq : (fdW m cur).getD [] with
        | nil =>
          rw [eH (by omega) (hg.trans hq)]
          exact pK hn h0 fun _ => .inr ⟨cur, hst, hn, by omega, q2 hq⟩
        | cons a w =>
          have hfd : fdW m cur = some (a :: w) := by
            cases h9 : fdW m cur with
            | none => rw [h9] at hq; cases hq
            | some v => rw [h9] at hq; have : v = a :: w := hq; rw [this]
          obtain ⟨s1, s2⟩ := Ax hfd
          rw [hq] at q1
          have s3 := xd hm n8 hn hst q1 s1 s2
          have s4 := y8 hm n8 hn hst q1 s1 s2
          obtain ⟨g1, g2, g3, g4⟩ := pz hm (pp hm n8 f) (hg.trans hq) hf hst hn hil h0 q1 s1 (by omega)
          refine ⟨?_, g2, g3, fun T hT f s hs => ?_⟩
          · rw [fD] at g1
            rw [f8]; simp only [aG]; omega
          · have h9 := g4 T hT f s hs
            rw [if_neg (by simp)] at h9
            rw [if_pos rfl]
            obtain ⟨k, hk⟩ : ∃ k, cur.length = k + 1 := ⟨cur.length - 1, by omega⟩
            rw [hk] at s4 h9 ⊢
            rw [Nat.sub_zero, kH]
            simp only [au, aG, Nat.add_sub_cancel] at s4 h9 ⊢
            omega
      · have hg : gI m ini cur [] = [] := if_neg fun h => h1 h.2
        rw [eH (by omega) hg]
        exact pK hn h0 fun _ => .inl (by show ini.length = 1; omega)
def ff (m : Mly) : List b7 := cv m 4098 (rgI m.nx.length) (rgI m.nx.length) [] 0
theorem yf {m : Mly} (hm : MOK m) (n8 : m.nx.length ≤ 8) : (ff m).length ≤ 2064 ∧ rtF m (ff m) ((ff m).length + 1) 0 (rgI m.nx.length) (rgI m.nx.length) = some (ff m).length ∧ (∀ x ∈ ff m, w5 m x) ∧ ∀ (f : Nat) (s : Int), 0 ≤ s → s < m.nx.length → (wdG m (ff m) f 0 s).1.length ≤ 255 := by
  have hn1 := hm.n1
  obtain ⟨g1, g2, g3, g4⟩ := pp hm n8 4098 (rgI m.nx.length) (rgI m.nx.length) [] 0 (by omega) (lA m) (o4 _) rfl (by rw [dc]; omega) (fun x hx => by cases hx) (fun h => absurd rfl h) (by rw [dc, f8]; simp only [aG]; omega)
  rw [dc, f8] at g1
  simp only [aG] at g1
  refine ⟨?_, ?_, g3, fun f s h0 h1 => ?_⟩
  · show (cv m 4098 (rgI m.nx.length) (rgI m.nx.length) [] 0).length ≤ 2064
    omega
  · have := g2 (ff m) ((ff m).length + 1) (fun i hi => by rw [Nat.zero_add]; rfl) (by omega)
    rw [Nat.zero_add] at this; exact this
  · have h2 := g4 (ff m) (fun i hi => by rw [Nat.zero_add]; rfl) f s (gV.2 ⟨h0, h1⟩)
    rw [if_pos rfl, dc] at h2
    have h3 := uf n8
    rw [Bn] at h3
    simp only [aG] at h2
    rw [Nat.sub_zero] at h2
    omega
/-plain-/
theorem di (m : Mly) : cv m 4098 (rgI m.nx.length) (rgI m.nx.length) [] 0 = ff m := rfl
def dx (m : Mly) : Int := if ¬ dR m = 0 then dR m else if 4096 < (ff m).length then 11 else 0
def iz (m : Mly) : List b7 := if dx m = 0 then ff m else []
def l8 (m : Mly) : Bool := decide (dx m = 0) && l7 (ff m)
theorem wR (m : Mly) : (ff m).length ≤ 4097 := by have := m6 m 4098 (rgI m.nx.length) (rgI m.nx.length) [] 0 (by omega); rw [Nat.zero_add] at this; exact this
theorem fC {m : Mly} (h : ¬ dx m = 0) : iz m = [] ∧ l8 m = false := by
  unfold iz l8; rw [if_neg h, decide_eq_false h]; exact ⟨rfl, rfl⟩
theorem gE {m : Mly} (h : dx m = 0) : iz m = ff m ∧ l8 m = l7 (ff m) := by
  unfold iz l8; rw [if_pos h, decide_eq_true h]; exact ⟨rfl, rfl⟩
/-plain-/
def gr (m : Mly) : Int := m.ot.flatten.foldl max 0
def IP (a b : Mly) (p : PP) : Prop := (0 ≤ p.1 ∧ p.1 < a.nx.length) ∧ 0 ≤ p.2 ∧ p.2 < b.nx.length
def IS (m : Mly) (p : PP) : Prop := (0 ≤ p.1 ∧ p.1 < m.nx.length) ∧ p.2 = 0
theorem IP.st {a b : Mly} (ha : MOK a) (hb : MOK b) : IP a b (a.st, b.st) := ⟨⟨ha.s1, ha.s2⟩, hb.s1, hb.s2⟩
theorem IS.st {m : Mly} (hm : MOK m) : IS m (m.st, 0) := ⟨⟨hm.s1, hm.s2⟩, rfl⟩
structure SNG (X : Mly) (F : SYS) : Prop where
  st : ∀ s x : Nat, s < X.nx.length → (x : Int) < X.inp → F ((s : Int), 0) x = ((X.nxt s x, 0), X.out s x)
theorem SNG.at_ {X : Mly} {F : SYS} (h : SNG X F) {q : PP} (hq : IS X q) {x : Nat} (hx : (x : Int) < X.inp) : F q x = ((X.nxt q.1 x, 0), X.out q.1 x) := by
  obtain ⟨q1, q2⟩ := q
  obtain ⟨h1, h2⟩ := hq
  simp only at h1 h2
  subst h2
  have := h.st q1.toNat x (by omega) hx
  rw [Int.toNat_of_nonneg h1.1] at this
  exact this
/-plain-/
abbrev Bs := List UInt8
def okI (c : Int) : Prop := (97 ≤ c ∧ c ≤ 122) ∨ (65 ≤ c ∧ c ≤ 90) ∨ (48 ≤ c ∧ c ≤ 57) ∨ c = 95 ∨ c = 45 ∨ c = 46
instance (c : Int) : Decidable (okI c) := by unfold okI; exact inferInstance
def AL (s : Bs) : Bool := s.all (fun b => decide (okI (b.toNat : Int))) && decide (1 ≤ s.length) && decide (s.length ≤ 32)
structure AOK (xs : List Bs) : Prop where
  n0 : 1 ≤ xs.length
  n1 : xs.length ≤ 64
  nm : ∀ k, k < xs.length → AL (xs.getD k []) = true
  nw : ∀ k, k < xs.length → xs.getD k [] ∉ xs.take k
theorem pE {xs : List Bs} {k : Nat} (h : k < xs.length) : xs.getD k [] ∈ xs := by simp [List.getD, h]
theorem Bc {xs : List Bs} {x : Bs} : x ∈ xs ↔ ∃ j, j < xs.length ∧ xs.getD j [] = x := by
  constructor
  · intro h
    obtain ⟨j, hj⟩ := List.getElem?_of_mem h
    exact ⟨j, (List.getElem?_eq_some_iff.1 hj).1, by simp [List.getD, hj]⟩
  · rintro ⟨j, hj, e⟩; rw [← e]; exact pE hj
theorem vI {xs : List Bs} {i k : Nat} (hi : i < k) : (xs.take k).getD i [] = xs.getD i [] := by simp [List.getD, List.getElem?_take, hi]
theorem tq {q : Bs} : ∀ {l : List Bs} {k : Nat}, k < pos l q → l.getD k [] ≠ q
  | [], k, h => by simp [pos] at h
  | y :: l, k, h => by
    simp only [pos] at h
    split at h
    · omega
    · rename_i e
      cases k with
      | zero => simpa [List.getD] using e
      | succ k =>
        have := tq (q := q) (l := l) (k := k) (by omega)
        simpa [List.getD] using this
theorem yT {l : List Bs} {q : Bs} (h : q ∈ l) : l.getD (pos l q) [] = q := by rw [List.getD, iN h]; rfl
theorem Bl {l : List Bs} {q : Bs} {k : Nat} (hq : ∀ j, j < k → l.getD j [] ≠ q) (hk : k < l.length) (h : l.getD k [] = q) : pos l q = k ∧ q ∈ l := by
  have hm : q ∈ l := by rw [← h]; exact pE hk
  refine ⟨?_, hm⟩
  rcases Nat.lt_trichotomy k (pos l q) with h2 | h2 | h2
  · exact absurd h (tq h2)
  · exact h2.symm
  · exact absurd (yT hm) (hq _ h2)
theorem AOK.pos {xs : List Bs} (h : AOK xs) {k : Nat} (hk : k < xs.length) : pos xs (xs.getD k []) = k :=
  (Bl (fun j hj e => h.nw k hk (by rw [Bc]; exact ⟨j, by rw [List.length_take]; omega, by rw [vI hj, e]⟩)) hk rfl).1
/-plain-/
/-plain-/
/-plain-/
instance dq12 : DecidableEq b7 := @instDecidableEqProd (List Int) (Int × (List dN × Unit)) inferInstance (@instDecidableEqProd Int (List dN × Unit) inferInstance inferInstance)
theorem wk {T U : List b7} {i : Nat} (h : (T.getD i nd0) ≠ (U.getD i nd0)) : ¬ T = U := fun e => h (by rw [e])
theorem mc {T U : List b7} (hl : T.length = U.length) (h : ∀ i, i < T.length → T.getD i nd0 = U.getD i nd0) : T = U := by
  apply List.ext_getElem hl
  intro i h1 h2
  have := h i h1
  simpa [List.getD, h1, h2] using this
theorem yr {K L : List dN} (hl : K.length = L.length) (h : ∀ i, i < K.length → K.getD i kd0 = L.getD i kd0) : K = L := by
  apply List.ext_getElem hl
  intro i h1 h2
  have := h i h1
  simpa [List.getD, h1, h2] using this
theorem B5 {x y : b7} (h1 : x.2.1 = y.2.1) (h2 : x.1 = y.1) (h3 : x.2.2.1 = y.2.2.1) : x = y := by
  obtain ⟨a, b, c, _⟩ := x; obtain ⟨a2, b2, c2, _⟩ := y
  simp only at h1 h2 h3
  subst h1 h2 h3; rfl
theorem AU {x y : dN} (h1 : x.1 = y.1) (h2 : x.2.1 = y.2.1) : x = y := by
  obtain ⟨a, b, _⟩ := x; obtain ⟨a2, b2, _⟩ := y
  simp only at h1 h2
  subst h1 h2; rfl
/-plain-/
def dQ : Mly := ⟨1, 0, [[1], [2], [0]], [[0], [0], [1]]⟩
def gU : List b7 := [([0, 1, 2], (0, ([(0, (1, ())), (1, (4, ()))], ()))), ([0, 1], (0, ([(0, (2, ())), (1, (3, ()))], ()))), ([0], (-1, ([], ()))), ([1], (-1, ([], ()))), ([2], (-1, ([], ())))]
def z12 : Mly := ⟨0, 0, [], []⟩
theorem ca : dQ.av = .agg [.int .i64 1, .int .i64 0, .list (.list (.int .i64)) [[1], [2], [0]], .list (.list (.int .i64)) [[0], [0], [1]]] := rfl
theorem c7 : AC.list ndT gU = AC.list (.pair (.list (.int .i64)) (.pair (.int .i64) (.pair (.list (.pair (.int .i64) (.pair (.int .i64) .unit))) .unit))) [([0, 1, 2], (0, ([(0, (1, ())), (1, (4, ()))], ()))), ([0, 1], (0, ([(0, (2, ())), (1, (3, ()))], ()))), ([0], (-1, ([], ()))), ([1], (-1, ([], ()))), ([2], (-1, ([], ())))] := rfl
def uV (xs : List Int) : List Int := xs.foldl jt []
def sW (m : Mly) : Nat → List Int → List Int → List Int → Nat → List b7
  | 0, _, _, _, _ => []
  | f + 1, ini, cur, w, n => if 4096 < n + 1 then [(ini, -1, [], ())] else
    match gI m ini cur w with
    | [] => [(ini, -1, [], ())]
    | a :: w2 => (ini, a, ((uV (ouL m cur a)).foldl (dX n (fun i c k => sW m f i c w2 k) m ini cur a) ([], [])).2, ()) :: ((uV (ouL m cur a)).foldl (dX n (fun i c k => sW m f i c w2 k) m ini cur a) ([], [])).1
theorem rJ (m : Mly) : ∀ f, sW m f = cv m f
  | 0 => rfl
  | f + 1 => by
    funext ini cur w n
    rw [sW, cv, rJ m f]
    have e : uV = aC := by funext xs; exact n7 xs
    rw [e]
    cases gI m ini cur w <;> rfl
theorem Ak : aR dQ = 0 := by decide +kernel
theorem vJ : dR dQ = 0 := by decide +kernel
theorem sU : ff dQ = gU := by
  show cv dQ 4098 _ _ [] 0 = _
  rw [← rJ]; decide +kernel
theorem yB : dx dQ = 0 := by unfold dx; rw [vJ, sU]; decide
theorem qY : iz dQ = gU := by rw [(gE yB).1, sU]
theorem Bv : l8 dQ = true := by rw [(gE yB).2, sU]; decide
theorem Bb : ¬ dx z12 = 0 := by
  have e : dR z12 = 2 := by decide +kernel
  unfold dx; rw [e]; decide
theorem zN : eK dQ gU = 0 := by
  unfold eK
  rw [if_neg (fun h => h vJ), if_neg]
  have h := (yf (eO Ak) (by decide)).2.1
  rw [sU] at h
  exact fun h9 => h9.elim (by decide) (fun h8 => h8 h)
theorem AP : fm dQ gU 0 = 0 := by unfold fm; rw [zN]; decide
theorem Br : fo dQ gU 0 = ([0, 0], 2) := by decide +kernel
theorem AT : dpT gU = 2 := by decide +kernel
theorem AY : eK dQ [] = 1 := by
  unfold eK
  rw [if_neg (fun h => h vJ), if_pos]
  right
  rw [kr (by simp)]; simp
/-plain-/
theorem lY {P : Program} {f : FuncId} {xs ys : List AV} {r : AV} (h : bP P f ys r) (hv : bm VLE xs ys) : bP P f xs r :=
  ⟨h.1, fun C L σ w vs hP hi ha => h.2 C L σ w vs hP hi (hv.map2 (fun a b c hab hac => hab C L σ w c hac) ha)⟩
/-plain-/
def ij (T : List b7) : Bool := decide (T.length ≤ 60) && T.all fun x => decide (x.1.length ≤ 20) && decide (x.2.2.1.length ≤ 20)
theorem B4 {T : List b7} {i : Nat} (hi : i < T.length) (h : 20 < (T.getD i nd0).1.length ∨ 20 < (T.getD i nd0).2.2.1.length) : ij T = false := by
  unfold ij
  rw [Bool.and_eq_false_iff]; right
  rw [List.all_eq_false]
  refine ⟨T.getD i nd0, by rw [List.getD, List.getElem?_eq_getElem hi]; exact List.getElem_mem hi, ?_⟩
  simp only [Bool.and_eq_true, decide_eq_true_eq]
  omega
theorem vu {T : List b7} (h0 : T.length ≤ 60) (h : ∀ j, j < T.length → (T.getD j nd0).1.length ≤ 20 ∧ (T.getD j nd0).2.2.1.length ≤ 20) : ij T = true := by
  unfold ij
  rw [decide_eq_true h0, Bool.true_and, List.all_eq_true]
  intro x hx
  obtain ⟨i, hi, rfl⟩ := List.getElem_of_mem hx
  have := h i hi
  rw [List.getD, List.getElem?_eq_getElem hi] at this
  simp only [Option.getD_some] at this
  rw [Bool.and_eq_true, decide_eq_true_eq, decide_eq_true_eq]; exact this
theorem AQ {T : List b7} (h : ij T = true) : T.length ≤ 60 ∧ ∀ x ∈ T, x.2.2.1.length ≤ 20 := by
  unfold ij at h
  rw [Bool.and_eq_true, decide_eq_true_eq, List.all_eq_true] at h
  refine ⟨h.1, fun x hx => ?_⟩
  have := h.2 x hx
  rw [Bool.and_eq_true, decide_eq_true_eq, decide_eq_true_eq] at this; exact this.2
/-plain-/
/-plain-/
/-plain-/
/-plain-/
def Dfa.sg (d : Dfa) (cl : List Int) (s : Nat) : List Int := cl.getD s 0 :: (d.nx.getD s []).map fun t => cl.getD t.toNat 0
def Dfa.nxL (d : Dfa) (cl : List Int) : List Int := (List.range d.nx.length).map fun s => (pos (cU (d.sg cl) d.nx.length) (d.sg cl s) : Int)
def Dfa.cl (d : Dfa) : Nat → List Int
  | 0 => (List.range d.nx.length).map (Bh d)
  | i + 1 => d.nxL (d.cl i)
def Dfa.cn (d : Dfa) : Nat → Nat
  | 0 => 0
  | i + 1 => (cU (d.sg (d.cl i)) d.nx.length).length
def Bd (n : Int) (w : List Int) : Prop := ∀ x, x ∈ w → 0 ≤ x ∧ x < n
def DEQ (a b : Dfa) (s t : Int) : Prop := ∀ w : List Int, Bd a.inp w → a.ac (a.run s w) = b.ac (b.run t w)
theorem DEQ.acc {a b : Dfa} {s t : Int} (h : DEQ a b s t) : a.ac s = b.ac t := h [] (fun x hx => by cases hx)
theorem DEQ.refl (d : Dfa) (s : Int) : DEQ d d s s := fun _ _ => rfl
theorem DEQ.symm {d : Dfa} {s t : Int} (h : DEQ d d s t) : DEQ d d t s := fun w hw => (h w hw).symm
theorem DEQ.trans {d : Dfa} {s t u : Int} (h : DEQ d d s t) (h2 : DEQ d d t u) : DEQ d d s u := fun w hw => (h w hw).trans (h2 w hw)
/-plain-/
/-plain-/
structure SIM (A B : STP) (n : Nat) (R : PP → PP → Prop) : Prop where
  st : ∀ p q, R p q → ∀ x, x < n → R (A p x) (B q x)
  bi : ∀ p q p' q', R p q → R p' q' → (p = p' ↔ q = q')
def RL (R : PP → PP → Prop) (l l' : List W3) : Prop := l.length = l'.length ∧ ∀ i, i < l.length → R (l.getD i w30).1 (l'.getD i w30).1 ∧ (l.getD i w30).2 = (l'.getD i w30).2
theorem RL.mem {A B : STP} {n : Nat} {R : PP → PP → Prop} (hs : SIM A B n R) {l l' : List W3} (h : RL R l l') {p q : PP} (hr : R p q) : p ∈ l.map Prod.fst ↔ q ∈ l'.map Prod.fst := by
  constructor
  · intro hm
    obtain ⟨e, he, e1⟩ := List.mem_map.1 hm
    obtain ⟨i, hi⟩ := List.getElem?_of_mem he
    have hlt := (List.getElem?_eq_some_iff.1 hi).1
    have h2 := h.2 i hlt
    have h3 : l.getD i w30 = e := by rw [List.getD, hi]; rfl
    rw [h3, e1] at h2
    have := (hs.bi _ _ _ _ h2.1 hr).1 rfl
    rw [← this]
    exact List.mem_map.2 ⟨_, rY (by rw [← h.1]; exact hlt), rfl⟩
  · intro hm
    obtain ⟨e, he, e1⟩ := List.mem_map.1 hm
    obtain ⟨i, hi⟩ := List.getElem?_of_mem he
    have hlt := (List.getElem?_eq_some_iff.1 hi).1
    have h2 := h.2 i (by rw [h.1]; exact hlt)
    have h3 : l'.getD i w30 = e := by rw [List.getD, hi]; rfl
    rw [h3, e1] at h2
    have := (hs.bi _ _ _ _ h2.1 hr).2 rfl
    rw [← this]
    exact List.mem_map.2 ⟨_, rY (by rw [h.1]; exact hlt), rfl⟩
theorem RL.snoc {R : PP → PP → Prop} {l l' : List W3} (h : RL R l l') {e f : W3} (hr : R e.1 f.1) (hw : e.2 = f.2) : RL R (l ++ [e]) (l' ++ [f]) := by
  refine ⟨by simp [h.1], fun i hi => ?_⟩
  rw [aq, List.length_singleton] at hi
  by_cases e1 : i < l.length
  · rw [dC e1, dC (by rw [← h.1]; exact e1)]; exact h.2 i e1
  · rw [gx (by omega), gx (by have := h.1; omega)]; exact ⟨hr, hw⟩
theorem RL.row {A B : STP} {n : Nat} {R : PP → PP → Prop} (hs : SIM A B n R) {l l' : List W3} (h : RL R l l') {e f : W3} (hr : R e.1 f.1) (hw : e.2 = f.2) : ∀ x, x ≤ n → RL R (jr A e l x) (jr B f l' x)
  | 0, _ => h
  | x + 1, hx => by
    have ih := h.row hs hr hw x (by omega)
    have h2 := hs.st _ _ hr x (by omega)
    rw [jm, jm]
    by_cases hm : A e.1 x ∈ (jr A e l x).map Prod.fst
    · rw [sO hm, sO ((ih.mem hs h2).1 hm)]; exact ih
    · rw [pM hm, pM (fun k => hm ((ih.mem hs h2).2 k))]
      exact ih.snoc h2 (by rw [hw])
theorem RL.one {R : PP → PP → Prop} {p q : PP} (h : R p q) : RL R [(p, [])] [(q, [])] := ⟨rfl, fun i hi => by
  have : i = 0 := by simpa using hi
  subst this; exact ⟨h, rfl⟩⟩
/-plain-/
/-plain-/
def SLT (u v : List Int) : Prop := u.length < v.length ∨ (u.length = v.length ∧ ∃ m, m < u.length ∧ (∀ q, q < m → u.getD q 0 = v.getD q 0) ∧ u.getD m 0 < v.getD m 0)
def SLE (u v : List Int) : Prop := u = v ∨ SLT u v
theorem SLT.trans {u v w : List Int} (h : SLT u v) (h2 : SLT v w) : SLT u w := by
  rcases h with h | ⟨h, m, a1, a2, a3⟩
  · rcases h2 with h2 | ⟨h2, _⟩
    · exact .inl (by omega)
    · exact .inl (by omega)
  · rcases h2 with h2 | ⟨h2, k, b1, b2, b3⟩
    · exact .inl (by omega)
    · refine .inr ⟨by omega, ?_⟩
      rcases Nat.lt_trichotomy m k with e | e | e
      · exact ⟨m, a1, fun q hq => (a2 q hq).trans (b2 q (by omega)), by rw [← b2 m e]; exact a3⟩
      · subst e; exact ⟨m, a1, fun q hq => (a2 q hq).trans (b2 q hq), by omega⟩
      · exact ⟨k, by omega, fun q hq => (a2 q (by omega)).trans (b2 q hq), by rw [a2 k e]; exact b3⟩
theorem SLE.trans_lt {u v w : List Int} (h : SLE u v) (h2 : SLT v w) : SLT u w := by
  rcases h with rfl | h
  · exact h2
  · exact h.trans h2
theorem SLE.trans {u v w : List Int} (h : SLE u v) (h2 : SLE v w) : SLE u w := by
  rcases h2 with rfl | h2
  · exact h
  · exact .inr (h.trans_lt h2)
theorem SLT.app {u v : List Int} (h : SLT u v) (a b : Int) : SLT (u ++ [a]) (v ++ [b]) := by
  rcases h with h | ⟨h, m, a1, a2, a3⟩
  · exact .inl (by simp; omega)
  · refine .inr ⟨by simp; omega, m, by simp; omega, fun q hq => ?_, ?_⟩
    · rw [dC (by omega), dC (by omega)]; exact a2 q hq
    · rw [dC a1, dC (by omega)]; exact a3
theorem SLE.app {u v : List Int} (h : SLE u v) (a : Int) : SLE (u ++ [a]) (v ++ [a]) := by
  rcases h with rfl | h
  · exact .inl rfl
  · exact .inr (h.app a a)
theorem SLT.nil (u : List Int) (x : Int) : SLT [] (u ++ [x]) := .inl (by simp)
theorem SLE.len {u v : List Int} (h : SLE u v) : u.length ≤ v.length := by
  rcases h with rfl | h | ⟨h, _⟩ <;> omega
structure BW (A : STP) (n i : Nat) (l : List W3) : Prop where
  so : ∀ j k, j < k → k < l.length → SLT (l.getD j w30).2 (l.getD k w30).2
  mi : ∀ j, j < i → j < l.length → ∀ x, x < n → ∃ k, k < l.length ∧ (l.getD k w30).1 = A (l.getD j w30).1 x ∧ SLE (l.getD k w30).2 ((l.getD j w30).2 ++ [(x : Int)])
  up : i < l.length → ∀ k, k < l.length → SLT (l.getD k w30).2 ((l.getD i w30).2 ++ [0])
structure BX (A : STP) (n i x : Nat) (l0 l : List W3) : Prop where
  so : ∀ j k, j < k → k < l.length → SLT (l.getD j w30).2 (l.getD k w30).2
  mi : ∀ y, y < x → ∃ k, k < l.length ∧ (l.getD k w30).1 = A (l0.getD i w30).1 y ∧ SLE (l.getD k w30).2 ((l0.getD i w30).2 ++ [(y : Int)])
  up : ∀ k, k < l.length → SLT (l.getD k w30).2 ((l0.getD i w30).2 ++ [(x : Int)])
/-plain-/
structure LCL (A : STP) (n : Nat) (L : List W3) : Prop where
  nd : (L.map Prod.fst).Nodup
  cl : ∀ j, j < L.length → ∀ x, x < n → A (L.getD j w30).1 x ∈ L.map Prod.fst
variable {A : STP} {G : PP → Bool} {n : Nat} {L : List W3}
/-plain-/
def Dfa.sto (d : Dfa) : Nat → Nat → Nat
  | 0, i => i
  | f + 1, i => if d.cn (i + 1) = d.cn i then i else d.sto f (i + 1)
def Dfa.cls (d : Dfa) : List Int := d.cl (d.sto (d.nx.length + 1) 0 + 1)
def fsV (cl : List Int) (n s c : Nat) : Int := match (List.range n).find? (fun q => decide (s ≤ q) && decide (cl.getD q 0 = (c : Int))) with | some q => (q : Int) | none => 0
def fsL (cl : List Int) (n s : Nat) : List Int := (List.range n).map fun c => fsV cl n s c
def Dfa.rep (d : Dfa) (s : Int) : Int := (fsL d.cls d.nx.length 0).getD (d.cls.getD s.toNat 0).toNat 0
structure RPR (d : Dfa) (s r : Int) : Prop where
  rg : 0 ≤ r ∧ r < d.nx.length
  le : r ≤ s
  cl : d.cls.getD r.toNat 0 = d.cls.getD s.toNat 0
  mi : ∀ q : Nat, (q : Int) < r → d.cls.getD q 0 ≠ d.cls.getD s.toNat 0
/-plain-/
structure M1OK (d : Dfa) (q : PP) (x : Nat) : Prop where
  r1 : 0 ≤ q.1 ∧ q.1 < d.nx.length
  rl : ((d.nx.getD q.1.toNat []).length : Int) = d.inp
  t1 : 0 ≤ (d.nx.getD q.1.toNat []).getD x 0 ∧ (d.nx.getD q.1.toNat []).getD x 0 < d.nx.length
  c1 : 0 ≤ d.cls.getD ((d.nx.getD q.1.toNat []).getD x 0).toNat 0 ∧ d.cls.getD ((d.nx.getD q.1.toNat []).getD x 0).toNat 0 < d.nx.length
  e : d.rep (d.dl q.1 x) = (fsL d.cls d.nx.length 0).getD (d.cls.getD ((d.nx.getD q.1.toNat []).getD x 0).toNat 0).toNat 0
/-plain-/
structure SHP (d : Dfa) (P : List W3) (k : Nat) : Prop where
  rg : 0 ≤ (P.getD k w30).1.1 ∧ (P.getD k w30).1.1 < d.nx.length
/-plain-/
/-plain-/
/-plain-/
def lq (P : Nat → Bool) (s : Nat) : Nat := ((List.range s).find? P).getD s
def rc0 (t : Dfa) (s : Nat) : Int := (lq (fun q => decide (t.acc.getD q false = t.acc.getD s false)) s : Int)
def rcF (t : Dfa) (cl : List Int) (s : Nat) : Int := (lq (fun q => decide (t.sg cl q = t.sg cl s)) s : Int)
def rcl (t : Dfa) : Nat → List Int
  | 0 => (List.range t.nx.length).map (rc0 t)
  | r + 1 => (List.range t.nx.length).map (rcF t (rcl t r))
def rC (t : Dfa) : List Int := rcl t t.nx.length
structure RCK (t : Dfa) : Prop where
  rg : ∀ s, s < t.nx.length → 0 ≤ (rC t).getD s 0 ∧ (rC t).getD s 0 ≤ s
  eq : ∀ s u, s < t.nx.length → u < t.nx.length → ((rC t).getD s 0 = (rC t).getD u 0 ↔ DEQ t t s u)
  id : ∀ s, s < t.nx.length → (rC t).getD ((rC t).getD s 0).toNat 0 = (rC t).getD s 0
/-plain-/
/-plain-/
structure PRL (a b M : Mly) (w : List Int) : Prop where
  v : aR M = 0
  st : M.st = 0
  re : M.reach.length = M.nx.length
  ea : iA a a.st w = fT w a.inp
  eb : iA b b.st w = fT w a.inp
  em : iA M M.st w = fT w a.inp
  la : (eT a a.st w).length = (eT M M.st w).length
  lb : (eT b b.st w).length = (eT M M.st w).length
  at_ : ∀ i, i < (eT M M.st w).length → (eT M M.st w).getD i 0 = (eT a a.st w).getD i 0 * (1 + gr b) + (eT b b.st w).getD i 0
structure CAL (a b M : Mly) (w : List Int) : Prop where
  v : aR M = 0
  ea : iA a a.st w = fT w a.inp
  em : iA M M.st w = fT w a.inp
  eb : fT w a.inp = 0 → iA b b.st (eT a a.st w) = 0
  vb : fT w a.inp = 0 → eT b b.st (eT a a.st w) = eT M M.st w
def plU (n : Int) (w : List Int) : List Int := w.filter fun x => decide (x < n)
def plV (n : Int) (w : List Int) : List Int := (w.filter fun x => !decide (x < n)).map fun x => x - n
def plA (n : Int) (e : List (Int × Int)) : List Int := (e.filter fun x => decide (x.1 < n)).map (·.2)
def plB (n k : Int) (e : List (Int × Int)) : List Int := (e.filter fun x => !decide (x.1 < n)).map fun x => x.2 - 1 - k
structure PLL (a b M : Mly) (w : List Int) : Prop where
  v : aR M = 0
  inp : M.inp = a.inp + b.inp
  em : iA M M.st w = fT w (a.inp + b.inp)
  lm : fT w (a.inp + b.inp) = 0 → (eT M M.st w).length = w.length
  ea : fT w (a.inp + b.inp) = 0 → iA a a.st (plU a.inp w) = 0
  eb : fT w (a.inp + b.inp) = 0 → iA b b.st (plV a.inp w) = 0
  va : fT w (a.inp + b.inp) = 0 → eT a a.st (plU a.inp w) = plA a.inp (w.zip (eT M M.st w))
  vb : fT w (a.inp + b.inp) = 0 → eT b b.st (plV a.inp w) = plB a.inp (gr a) (w.zip (eT M M.st w))
/-plain-/
def iM (m : Mly) : Bool := (decide (12 < m.nx.length) || decide (12 < m.ot.length) || decide (6 < m.inp)) || (m.nx.any (fun r => decide (12 < r.length)) || m.ot.any (fun r => decide (12 < r.length)))
theorem zJ {m : Mly} (h : (12 < m.nx.length ∨ 12 < m.ot.length) ∨ 6 < m.inp) : iM m = true := by
  unfold iM
  rw [Bool.or_eq_true]; left
  simp only [Bool.or_eq_true, decide_eq_true_eq]; exact h
theorem zU {m : Mly} {k : Nat} (hk : k < m.nx.length) (h : 12 < (m.nx.getD k []).length) : iM m = true := by
  unfold iM
  rw [Bool.or_eq_true]; right; rw [Bool.or_eq_true]; left
  refine List.any_eq_true.2 ⟨_, List.getElem_mem hk, ?_⟩
  rw [List.getD, List.getElem?_eq_getElem hk] at h
  exact decide_eq_true h
theorem A0 {m : Mly} {k : Nat} (hk : k < m.ot.length) (h : 12 < (m.ot.getD k []).length) : iM m = true := by
  unfold iM
  rw [Bool.or_eq_true]; right; rw [Bool.or_eq_true]; right
  refine List.any_eq_true.2 ⟨_, List.getElem_mem hk, ?_⟩
  rw [List.getD, List.getElem?_eq_getElem hk] at h
  exact decide_eq_true h
theorem oe {m : Mly} (h0 : ¬ ((12 < m.nx.length ∨ 12 < m.ot.length) ∨ 6 < m.inp)) (h1 : ∀ q, q < m.nx.length → (m.nx.getD q []).length ≤ 12) (h2 : ∀ q, q < m.ot.length → (m.ot.getD q []).length ≤ 12) : iM m = false := by
  have any_no : ∀ (L : List (List Int)), (∀ q, q < L.length → (L.getD q []).length ≤ 12) → L.any (fun r => decide (12 < r.length)) = false := fun L h => by
    rw [List.any_eq_false]
    intro x hx
    obtain ⟨i, hi, rfl⟩ := List.getElem_of_mem hx
    have := h i hi
    rw [List.getD, List.getElem?_eq_getElem hi] at this
    simp only [Option.getD_some] at this
    rw [decide_eq_true_eq]; omega
  unfold iM
  rw [any_no _ h1, any_no _ h2, decide_eq_false (by omega), decide_eq_false (by omega), decide_eq_false (by omega)]; rfl
def AE (m : Mly) : Bool := (!iM m && decide (m.nx.length ≤ 8)) && decide (m.inp ≤ 4)
end Go.AV
namespace Go.Proofs.Ytoahhklogohehaa
open Go Go.AV
open Nat renaming reduceEqDiff → aa, reduceAdd → V, reduceLeDiff → ad, reduceLT → ag, reduceMul → af, reduceSub → ae
open List renaming set_cons_zero → cD, set_cons_succ → cm, getD_cons_zero → ar, length_append → aq, map_cons → aH, cons_append → aM, map_nil → bh, length_cons → au, nil_append → b6, take_succ_cons → dz, length_nil → aG, length_map → aD, length_replicate → bj, take_length → aI, mem_cons_self → aQ, mem_cons_of_mem → aJ
open Int renaming toNat_natCast → ah
theorem zT : type_of% (And.intro Try.ea159 (And.intro Try.el107 (And.intro Try.el118 (And.intro Try.el129 (And.intro Try.el22 (And.intro Try.el27 (And.intro Try.el41 (And.intro Try.el50 (And.intro Try.el91 (And.intro Try.fl58 (And.intro Try.mk115 (And.intro Try.mk157 (And.intro Try.sa159 (And.intro Try.st117 (And.intro Try.st24 (And.intro Try.st29 (And.intro Try.st52 (And.intro Try.st58 (And.intro Try.st62 (And.intro Try.st66 (And.intro Try.td1 (And.intro Try.td107 (And.intro Try.td117 (And.intro Try.td118 (And.intro Try.td129 (And.intro Try.td132 (And.intro Try.td159 (And.intro Try.td2 (And.intro Try.td22 (And.intro Try.td24 (And.intro Try.td27 (And.intro Try.td29 (And.intro Try.td3 (And.intro Try.td30 (And.intro Try.td4 (And.intro Try.td41 (And.intro Try.td5 (And.intro Try.td50 (And.intro Try.td52 (And.intro Try.td58 (And.intro Try.td60 (And.intro Try.td62 (And.intro Try.td66 (And.intro Try.td77 (And.intro Try.td9 Try.td91))))))))))))))))))))))))))))))))))))))))))))) :=
  And.intro Try.ea159 (And.intro Try.el107 (And.intro Try.el118 (And.intro Try.el129 (And.intro Try.el22 (And.intro Try.el27 (And.intro Try.el41 (And.intro Try.el50 (And.intro Try.el91 (And.intro Try.fl58 (And.intro Try.mk115 (And.intro Try.mk157 (And.intro Try.sa159 (And.intro Try.st117 (And.intro Try.st24 (And.intro Try.st29 (And.intro Try.st52 (And.intro Try.st58 (And.intro Try.st62 (And.intro Try.st66 (And.intro Try.td1 (And.intro Try.td107 (And.intro Try.td117 (And.intro Try.td118 (And.intro Try.td129 (And.intro Try.td132 (And.intro Try.td159 (And.intro Try.td2 (And.intro Try.td22 (And.intro Try.td24 (And.intro Try.td27 (And.intro Try.td29 (And.intro Try.td3 (And.intro Try.td30 (And.intro Try.td4 (And.intro Try.td41 (And.intro Try.td5 (And.intro Try.td50 (And.intro Try.td52 (And.intro Try.td58 (And.intro Try.td60 (And.intro Try.td62 (And.intro Try.td66 (And.intro Try.td77 (And.intro Try.td9 Try.td91))))))))))))))))))))))))))))))))))))))))))))
def Mof (d : Int × (Int × (List (List Int) × (List (List Int) × Unit)))) : Mly := ⟨d.1, d.2.1, d.2.2.1, d.2.2.2.1⟩
end Go.Proofs.Ytoahhklogohehaa
