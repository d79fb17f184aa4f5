/- Contracts of functions of this seat, each out of a walk through its code, and plain facts on what they compute. Conditions: those that each theorem names. -/
import Derived.Test.YtoahhklogohehaaW01
set_option linter.unusedSimpArgs false
set_option linter.unusedVariables false
set_option maxRecDepth 100000
namespace Go.AV
open Nat renaming reduceEqDiff → aa, reduceAdd → V, reduceLeDiff → ad, reduceLT → ag, reduceMul → af, reduceSub → ae
open List renaming set_cons_zero → cE, set_cons_succ → ci, getD_cons_zero → ar, length_append → aq, map_cons → aF, cons_append → aM, map_nil → bl, length_cons → au, nil_append → ba, take_succ_cons → dD, length_nil → aE, length_map → az, length_replicate → bh, take_length → aJ, mem_cons_self → aH, mem_cons_of_mem → aG
open Int renaming toNat_natCast → ah
/-plain-/
def gr (m : Mly) : Int := m.ot.flatten.foldl max 0
def IP (a b : Mly) (p : PP) : Prop := (0 ≤ p.1 ∧ p.1 < a.nx.length) ∧ 0 ≤ p.2 ∧ p.2 < b.nx.length
def IS (m : Mly) (p : PP) : Prop := (0 ≤ p.1 ∧ p.1 < m.nx.length) ∧ p.2 = 0
theorem IP.st {a b : Mly} (ha : MOK a) (hb : MOK b) : IP a b (a.st, b.st) := ⟨⟨ha.s1, ha.s2⟩, hb.s1, hb.s2⟩
theorem IS.st {m : Mly} (hm : MOK m) : IS m (m.st, 0) := ⟨⟨hm.s1, hm.s2⟩, rfl⟩
structure SNG (X : Mly) (F : SYS) : Prop where
  st : ∀ s x : Nat, s < X.nx.length → (x : Int) < X.inp → F ((s : Int), 0) x = ((X.nxt s x, 0), X.out s x)
theorem SNG.at_ {X : Mly} {F : SYS} (h : SNG X F) {q : PP} (hq : IS X q) {x : Nat} (hx : (x : Int) < X.inp) : F q x = ((X.nxt q.1 x, 0), X.out q.1 x) := by
  obtain ⟨q1, q2⟩ := q
  obtain ⟨h1, h2⟩ := hq
  simp only at h1 h2
  subst h2
  have := h.st q1.toNat x (by omega) hx
  rw [Int.toNat_of_nonneg h1.1] at this
  exact this
/-plain-/
abbrev Bs := List UInt8
def okI (c : Int) : Prop := (97 ≤ c ∧ c ≤ 122) ∨ (65 ≤ c ∧ c ≤ 90) ∨ (48 ≤ c ∧ c ≤ 57) ∨ c = 95 ∨ c = 45 ∨ c = 46
instance (c : Int) : Decidable (okI c) := by unfold okI; exact inferInstance
def B6 (s : Bs) : Bool := s.all (fun b => decide (okI (b.toNat : Int))) && decide (1 ≤ s.length) && decide (s.length ≤ 32)
structure AOK (xs : List Bs) : Prop where
  n0 : 1 ≤ xs.length
  n1 : xs.length ≤ 64
  nm : ∀ k, k < xs.length → B6 (xs.getD k []) = true
  nw : ∀ k, k < xs.length → xs.getD k [] ∉ xs.take k
theorem ow {xs : List Bs} {k : Nat} (h : k < xs.length) : xs.getD k [] ∈ xs := by simp [List.getD, h]
theorem Bo {xs : List Bs} {x : Bs} : x ∈ xs ↔ ∃ j, j < xs.length ∧ xs.getD j [] = x := by
  constructor
  · intro h
    obtain ⟨j, hj⟩ := List.getElem?_of_mem h
    exact ⟨j, (List.getElem?_eq_some_iff.1 hj).1, by simp [List.getD, hj]⟩
  · rintro ⟨j, hj, e⟩; rw [← e]; exact ow hj
theorem vu {xs : List Bs} {i k : Nat} (hi : i < k) : (xs.take k).getD i [] = xs.getD i [] := by simp [List.getD, List.getElem?_take, hi]
theorem tJ {q : Bs} : ∀ {l : List Bs} {k : Nat}, k < pos l q → l.getD k [] ≠ q
  | [], k, h => by simp [pos] at h
  | y :: l, k, h => by
    simp only [pos] at h
    split at h
    · omega
    · rename_i e
      cases k with
      | zero => simpa [List.getD] using e
      | succ k =>
        have := tJ (q := q) (l := l) (k := k) (by omega)
        simpa [List.getD] using this
theorem yD {l : List Bs} {q : Bs} (h : q ∈ l) : l.getD (pos l q) [] = q := by rw [List.getD, iO h]; rfl
theorem Be {l : List Bs} {q : Bs} {k : Nat} (hq : ∀ j, j < k → l.getD j [] ≠ q) (hk : k < l.length) (h : l.getD k [] = q) : pos l q = k ∧ q ∈ l := by
  have hm : q ∈ l := by rw [← h]; exact ow hk
  refine ⟨?_, hm⟩
  rcases Nat.lt_trichotomy k (pos l q) with h2 | h2 | h2
  · exact absurd h (tJ h2)
  · exact h2.symm
  · exact absurd (yD hm) (hq _ h2)
theorem AOK.pos {xs : List Bs} (h : AOK xs) {k : Nat} (hk : k < xs.length) : pos xs (xs.getD k []) = k :=
  (Be (fun j hj e => h.nw k hk (by rw [Bo]; exact ⟨j, by rw [List.length_take]; omega, by rw [vu hj, e]⟩)) hk rfl).1
/-plain-/
def prL (f : Nat → Int) (n s : Nat) (x : Int) : List Int := (List.range n).map fun q => if q < s then f q else if q = s then x else 0
theorem oh (f : Nat → Int) (n s : Nat) (x : Int) : (prL f n s x).length = n := by simp [prL]
theorem uh {f : Nat → Int} {n s : Nat} (h : s < n) (x y : Int) : (prL f n s x).set s y = prL f n s y := by
  refine List.ext_getElem (by simp [prL]) fun i h1 h2 => ?_
  simp only [prL, List.getElem_set, List.getElem_map, List.getElem_range]
  by_cases e : s = i
  · subst e; simp
  · rw [if_neg e, if_neg (Ne.symm e), if_neg (Ne.symm e)]
theorem qA (f : Nat → Int) (n s : Nat) : prL f n s (f s) = prL f n (s + 1) 0 := by
  unfold prL
  refine List.map_congr_left fun q _ => ?_
  by_cases e : q = s
  · subst e; simp
  · by_cases e2 : q < s
    · rw [if_pos e2, if_pos (by omega)]
    · rw [if_neg e2, if_neg e, if_neg (by omega)]; split <;> rfl
theorem yh (f : Nat → Int) (n : Nat) : prL f n 0 0 = List.replicate n 0 := by
  refine List.ext_getElem (by simp [prL]) fun i h1 h2 => ?_
  simp [prL]
theorem tA (f : Nat → Int) (n : Nat) (x : Int) : prL f n n x = (List.range n).map f := by
  unfold prL
  refine List.map_congr_left fun q hq => ?_
  rw [if_pos (List.mem_range.1 hq)]
def bI1 (b : Bool) : Int := if b = true then 1 else 0
def B8 (d : Dfa) (s : Nat) : Int := bI1 (d.acc.getD s false)
/-plain-/
theorem wb {m : Mly} {cur : List Int} {a o y : Int} : y ∈ bB m cur a cur.length o ↔ ∃ s, s ∈ cur ∧ m.out s a = o ∧ m.nxt s a = y := by
  constructor
  · intro h
    unfold bB cw pkL at h
    rw [List.map_map] at h
    obtain ⟨x, hx, e⟩ := List.mem_map.1 h
    obtain ⟨q, hq, h1, rfl⟩ := lZ.1 hx
    exact ⟨_, bm hq, h1, by rw [← e]; simp⟩
  · rintro ⟨s, hs, rfl, rfl⟩; exact vE hs
theorem zW {m : Mly} {l : List Int} {a s t : Int} (hs : s ∈ l) (ht : t ∈ l) (hne : s ≠ t) (hc : clB m a s t = true) : unS m l a l.length = true := by
  obtain ⟨i, hi, rfl⟩ := f0 hs
  obtain ⟨j, hj, rfl⟩ := f0 ht
  unfold unS
  rcases Nat.lt_trichotomy i j with h | h | h
  · refine List.any_eq_true.2 ⟨j, List.mem_range.2 hj, List.any_eq_true.2 ⟨i, List.mem_range.2 h, ?_⟩⟩
    unfold clB at hc ⊢
    simp only [Bool.and_eq_true, decide_eq_true_eq] at hc ⊢
    exact ⟨hc.1.symm, hc.2.symm⟩
  · subst h; exact absurd rfl hne
  · exact List.any_eq_true.2 ⟨i, List.mem_range.2 hi, List.any_eq_true.2 ⟨j, List.mem_range.2 h, hc⟩⟩
def dt (m : Mly) : Nat → List Int → Bool
  | 0, l => decide (l.length < 2)
  | d + 1, l => decide (l.length < 2) || (List.range m.inp.toNat).any fun (a : Nat) => !unS m l a l.length && l.all fun x => dt m d (bB m l a l.length (m.out x a))
theorem rI {m : Mly} : ∀ (d : Nat) (l k : List Int), k.Nodup → (∀ x ∈ k, x ∈ l) → dt m d l = true → dt m d k = true
  | 0, l, k, hn, hk, h => by
    rw [dt, decide_eq_true_eq] at h ⊢
    have := dA _ _ hn hk; omega
  | d + 1, l, k, hn, hk, h => by
    rw [dt, Bool.or_eq_true, decide_eq_true_eq] at h ⊢
    rcases h with h | h
    · have := dA _ _ hn hk; exact .inl (by omega)
    · right
      obtain ⟨a, ha, h2⟩ := List.any_eq_true.1 h
      rw [Bool.and_eq_true, Bool.not_eq_true', List.all_eq_true] at h2
      refine List.any_eq_true.2 ⟨a, ha, ?_⟩
      have hu : unS m k a k.length = false := by
        cases hb : unS m k a k.length with
        | false => rfl
        | true =>
          obtain ⟨s, t, hs, ht, hne, hc⟩ := (lY hn).1 hb
          have := zW (hk s hs) (hk t ht) hne hc
          rw [h2.1] at this; cases this
      rw [Bool.and_eq_true, Bool.not_eq_true', List.all_eq_true]
      refine ⟨hu, fun x hx => rI d _ _ (qD hn hu) (fun y hy => ?_) (h2.2 x (hk x hx))⟩
      obtain ⟨s, hs, h3, h4⟩ := wb.1 hy
      exact wb.2 ⟨s, hk s hs, h3, h4⟩
theorem wi {m : Mly} (hi : 0 ≤ m.inp) : ∀ (d : Nat) (l : List Int), l.Nodup → 2 ≤ l.length → dt m d l = true → ∃ w, dx m w ∧ spW m l w
  | 0, l, hn, h2, h => by
    rw [dt, decide_eq_true_eq] at h; omega
  | d + 1, l, hn, h2, h => by
    rw [dt, Bool.or_eq_true, decide_eq_true_eq] at h
    rcases h with h | h
    · omega
    · obtain ⟨a, ha, h3⟩ := List.any_eq_true.1 h
      rw [Bool.and_eq_true, Bool.not_eq_true', List.all_eq_true] at h3
      have ha := List.mem_range.1 ha
      cases hs : smO m l a l.length with
      | false =>
        refine ⟨[(a : Int)], fun x hx => ?_, iM.2 ⟨h3.1, .inl ⟨rfl, hs⟩⟩⟩
        rw [List.mem_singleton] at hx; omega
      | true =>
        have h0 : l.getD 0 0 ∈ l := bm (by omega)
        have h4 := h3.2 _ h0
        rw [(nH (ini := l) rfl fun s hs9 => gQ.1 hs _ _ hs9 h0).2] at h4
        obtain ⟨w, w1, w2⟩ := wi hi d _ (ke hn h3.1 hs) (by unfold cw; rw [az]; exact h2) h4
        refine ⟨(a : Int) :: w, fun x hx => ?_, iM.2 ⟨h3.1, .inr ⟨hs, w2⟩⟩⟩
        rcases List.mem_cons.1 hx with rfl | hx
        · omega
        · exact w1 x hx
def mV : List Int → Nat
  | [] => 0
  | x :: l => x.toNat + 5 * mV l
theorem yi : ∀ {l : List Int}, (∀ x ∈ l, 0 ≤ x ∧ x < 5) → mV l < 5 ^ l.length
  | [], _ => by show 0 < 1; omega
  | x :: l, h => by
    have h1 := h x (aH ..)
    have ih := yi (l := l) fun y hy => h y (aG _ hy)
    rw [mV, au, Nat.pow_succ]; omega
theorem w7 : ∀ {l k : List Int}, l.length = k.length → (∀ x ∈ l, 0 ≤ x ∧ x < 5) → (∀ x ∈ k, 0 ≤ x ∧ x < 5) → mV l = mV k → l = k
  | [], [], _, _, _, _ => rfl
  | [], _ :: _, h, _, _, _ => by simp at h
  | _ :: _, [], h, _, _, _ => by simp at h
  | x :: l, y :: k, h, hl, hk, e => by
    have h1 := hl x (aH ..)
    have h2 := hk y (aH ..)
    rw [mV, mV] at e
    rw [w7 (by simpa using h) (fun z hz => hl z (aG _ hz)) (fun z hz => hk z (aG _ hz)) (by omega), show x = y by omega]
theorem v7 {m : Mly} (hm : MOK m) (n5 : m.nx.length ≤ 5) {l : List Int} (hn : l.Nodup) (hst : cU m l) {Q : List SS} (h : BFQ m l Q) : Q.length < 4096 := by
  have hl5 : l.length ≤ 5 := dX 5 l hn fun x hx => by have := hst x hx; omega
  have hp : ∀ k, k < Q.length → (Q.getD k ss0).1.length = l.length ∧ ∀ x ∈ (Q.getD k ss0).1, 0 ≤ x ∧ x < 5 := fun k hk => by
    obtain ⟨p1, p2, p3⟩ := h.pt k hk
    rw [p2]
    refine ⟨mh m _ _, fun x hx => ?_⟩
    have := lJ hm p3 hst x hx
    omega
  have hnd : ((List.range Q.length).map fun k => (mV (Q.getD k ss0).1 : Int)).Nodup := by
    refine List.pairwise_map.2 (List.Pairwise.imp_of_mem (fun {p q} hp9 hq9 hlt e => ?_) (List.pairwise_lt_range (n := Q.length)))
    have hp9 := List.mem_range.1 hp9
    have hq9 := List.mem_range.1 hq9
    obtain ⟨a1, a2⟩ := hp p hp9
    obtain ⟨b1, b2⟩ := hp q hq9
    exact h.nd p q hlt hq9 (w7 (by omega) a2 b2 (by omega))
  have h5 : 5 ^ l.length ≤ 3125 := Nat.le_trans (Nat.pow_le_pow_right (by decide) hl5) (by decide)
  have := dX 3125 _ hnd fun x hx => by
    obtain ⟨k, hk, rfl⟩ := List.mem_map.1 hx
    obtain ⟨a1, a2⟩ := hp k (List.mem_range.1 hk)
    have := yi a2
    rw [a1] at this
    omega
  rw [az, List.length_range] at this
  omega
theorem vv {m : Mly} (hm : MOK m) (n5 : m.nx.length ≤ 5) (h : dt m 4 (rgI m.nx.length) = true) : iS (eO m) = true := by
  obtain ⟨h1, h2, h3, _⟩ := og hm (by omega)
  have hi1 := hm.i1
  have h0 : 0 < (eO m).length := (iC h2).1
  unfold iS
  rw [decide_eq_true h0, Bool.and_true, List.all_eq_true]
  intro x hx
  unfold cmL
  by_cases e : x.2.1 = -1
  · rcases h3 x hx e with h4 | ⟨c, c1, c2, c3, c4⟩
    · rw [decide_eq_true h4]; simp
    · exfalso
      have h5 := rI 4 _ c c2 (fun y hy => gC.2 (c1 y hy)) h
      obtain ⟨w, w1, w2⟩ := wi (by omega) 4 c c2 c3 h5
      exact zK c4 (fun Q hQ => v7 hm n5 c2 c1 hQ) w w1 w2
  · rw [decide_eq_false e]; rfl
/-plain-/
theorem kP (m : Mly) (d : Nat) (l : List Int) : dt m d l = (decide (l.length < 2) || (decide (0 < d) && (List.range m.inp.toNat).any fun (a : Nat) => !unS m l a l.length && l.all fun x => dt m (d - 1) (bB m l a l.length (m.out x a)))) := by
  cases d with
  | zero => rw [dt]; simp
  | succ d => rw [dt]; simp
theorem mT {m : Mly} {d : Nat} {l : List Int} (h : l.length < 2) : dt m d l = true := by rw [kP, decide_eq_true h]; rfl
theorem l9 {m : Mly} {d a : Nat} {l : List Int} (hd : 0 < d) (ha : a < m.inp.toNat) (h1 : unS m l a l.length = false) (h2 : (l.all fun x => dt m (d - 1) (bB m l a l.length (m.out x a))) = true) : dt m d l = true := by
  rw [kP, decide_eq_true hd, Bool.true_and, Bool.or_eq_true]
  exact .inr (List.any_eq_true.2 ⟨a, List.mem_range.2 ha, by rw [h1, h2]; rfl⟩)
theorem mQ {m : Mly} {d : Nat} {l : List Int} (h : ¬ l.length < 2) (hn : 0 < d → ∀ a : Nat, a < m.inp.toNat → (!unS m l a l.length && l.all fun x => dt m (d - 1) (bB m l a l.length (m.out x a))) = false) : dt m d l = false := by
  rw [kP, decide_eq_false h, Bool.false_or, Bool.and_eq_false_iff]
  by_cases hd : 0 < d
  · right
    rw [List.any_eq_false]
    intro a ha
    rw [hn hd a (List.mem_range.1 ha)]; simp
  · exact .inl (decide_eq_false hd)
theorem xD (m : Mly) (l : List Int) (a : Int) (k : Nat) : unS m l a (k + 1) = (unS m l a k || (List.range k).any fun j => clB m a (l.getD k 0) (l.getD j 0)) := by
  unfold unS; rw [List.range_succ, List.any_append]; simp
theorem xS (m : Mly) (l : List Int) (a : Int) (k j : Nat) : ((List.range (j + 1)).any fun q => clB m a (l.getD k 0) (l.getD q 0)) = (((List.range j).any fun q => clB m a (l.getD k 0) (l.getD q 0)) || clB m a (l.getD k 0) (l.getD j 0)) := by
  rw [List.range_succ, List.any_append]; simp
theorem wW {l : List Int} {f : Int → Bool} {i : Nat} (h : i < l.length) : (l.take (i + 1)).all f = ((l.take i).all f && f (l.getD i 0)) := by
  rw [cP h, List.all_append]; simp
theorem xx {l : List Int} {f : Int → Bool} {i : Nat} (h : (l.take i).all f = false) : l.all f = false := by
  have e := (List.take_append_drop i l).symm
  rw [e, List.all_append, h]; rfl
/-plain-/
instance dq12 : DecidableEq bc := @instDecidableEqProd (List Int) (Int × (List dR × Unit)) inferInstance (@instDecidableEqProd Int (List dR × Unit) inferInstance inferInstance)
theorem vT {T U : List bc} {i : Nat} (h : (T.getD i nd0) ≠ (U.getD i nd0)) : ¬ T = U := fun e => h (by rw [e])
theorem lV {T U : List bc} (hl : T.length = U.length) (h : ∀ i, i < T.length → T.getD i nd0 = U.getD i nd0) : T = U := by
  apply List.ext_getElem hl
  intro i h1 h2
  have := h i h1
  simpa [List.getD, h1, h2] using this
theorem yn {K L : List dR} (hl : K.length = L.length) (h : ∀ i, i < K.length → K.getD i kd0 = L.getD i kd0) : K = L := by
  apply List.ext_getElem hl
  intro i h1 h2
  have := h i h1
  simpa [List.getD, h1, h2] using this
theorem AH {x y : bc} (h1 : x.2.1 = y.2.1) (h2 : x.1 = y.1) (h3 : x.2.2.1 = y.2.2.1) : x = y := by
  obtain ⟨a, b, c, _⟩ := x; obtain ⟨a2, b2, c2, _⟩ := y
  simp only at h1 h2 h3
  subst h1 h2 h3; rfl
theorem AU {x y : dR} (h1 : x.1 = y.1) (h2 : x.2.1 = y.2.1) : x = y := by
  obtain ⟨a, b, _⟩ := x; obtain ⟨a2, b2, _⟩ := y
  simp only at h1 h2
  subst h1 h2; rfl
/-plain-/
def dU : Mly := ⟨1, 0, [[1], [2], [0]], [[0], [0], [1]]⟩
def gZ : List bc := [([0, 1, 2], (0, ([(0, (1, ())), (1, (4, ()))], ()))), ([0, 1], (0, ([(0, (2, ())), (1, (3, ()))], ()))), ([0], (-1, ([], ()))), ([1], (-1, ([], ()))), ([2], (-1, ([], ())))]
def z12 : Mly := ⟨0, 0, [], []⟩
theorem c7 : dU.av = .agg [.int .i64 1, .int .i64 0, .list (.list (.int .i64)) [[1], [2], [0]], .list (.list (.int .i64)) [[0], [0], [1]]] := rfl
theorem ca : AC.list ndT gZ = AC.list (.pair (.list (.int .i64)) (.pair (.int .i64) (.pair (.list (.pair (.int .i64) (.pair (.int .i64) .unit))) .unit))) [([0, 1, 2], (0, ([(0, (1, ())), (1, (4, ()))], ()))), ([0, 1], (0, ([(0, (2, ())), (1, (3, ()))], ()))), ([0], (-1, ([], ()))), ([1], (-1, ([], ()))), ([2], (-1, ([], ())))] := rfl
def vN (xs : List Int) : List Int := xs.foldl mZ []
def sS (m : Mly) : Nat → List Int → List Int → List Int → Nat → List bc
  | 0, _, _, _, _ => []
  | f + 1, ini, cur, w, n => if 4096 < n + 1 then [(ini, -1, [], ())] else
    match gE m ini cur w with
    | [] => [(ini, -1, [], ())]
    | a :: w2 => (ini, a, ((vN (ouL m cur a)).foldl (dZ n (fun i c k => sS m f i c w2 k) m ini cur a) ([], [])).2, ()) :: ((vN (ouL m cur a)).foldl (dZ n (fun i c k => sS m f i c w2 k) m ini cur a) ([], [])).1
theorem qs (m : Mly) : ∀ f, sS m f = cp m f
  | 0 => rfl
  | f + 1 => by
    funext ini cur w n
    rw [sS, cp, qs m f]
    have e : vN = aC := by funext xs; exact xP xs
    rw [e]
    cases gE m ini cur w <;> rfl
theorem zX : aO dU = 0 := by decide +kernel
theorem vw : dE dU = 0 := by decide +kernel
theorem se : eO dU = gZ := by
  show cp dU 4098 _ _ [] 0 = _
  rw [← qs]; decide +kernel
theorem yr : di dU = 0 := by unfold di; rw [vw, se]; decide
theorem rF : gM dU = gZ := by rw [(fP yr).1, se]
theorem Bg : iP dU = true := by rw [(fP yr).2, se]; decide
theorem Bq : ¬ di z12 = 0 := by
  have e : dE z12 = 2 := by decide +kernel
  unfold di; rw [e]; decide
theorem zI : fg dU gZ = 0 := by
  unfold fg
  rw [if_neg (fun h => h vw), if_neg]
  have h := (og (fa zX) (by decide)).2.1
  rw [se] at h
  exact fun h9 => h9.elim (by decide) (fun h8 => h8 h)
theorem AK : gR dU gZ 0 = 0 := by unfold gR; rw [zI]; decide
theorem B9 : j5 dU gZ 0 = ([0, 0], 2) := by decide +kernel
theorem AM : dpT gZ = 2 := by decide +kernel
theorem AJ : fg dU [] = 1 := by
  unfold fg
  rw [if_neg (fun h => h vw), if_pos]
  right
  rw [o5 (by simp)]; simp
/-plain-/
theorem lQ {P : Program} {f : FuncId} {xs ys : List AV} {r : AV} (h : bZ P f ys r) (hv : bj VLE xs ys) : bZ P f xs r :=
  ⟨h.1, fun C L σ w vs hP hi ha => h.2 C L σ w vs hP hi (hv.map2 (fun a b c hab hac => hab C L σ w c hac) ha)⟩
/-plain-/
theorem xa {C : Ctx} {Q : Go.Exit → St → Prop} {s : St} {c : Go.Code} {L1 G : List AO} (hG : G = [] ∨ ∃ ob, G = [ob]) (hL : s.L = L1 ++ G) (hB : C.bL.length ≤ L1.length) (he : s.env.all (fun x => gl L1.length x.2) = true) (ho : L1.all (dT L1.length) = true)
    (h : AWP C c Q { env := s.env, L := L1 }) : AWP C c Q s := by
  rcases hG with rfl | ⟨ob, rfl⟩
  · rw [List.append_nil] at hL
    have : s = { env := s.env, L := L1 } := by cases s; simp only at hL; rw [hL]
    rw [this]; exact h
  · exact ef hL hB he ho h
/-plain-/
/-plain-/
/-plain-/
/-plain-/
def Dfa.sg (d : Dfa) (cl : List Int) (s : Nat) : List Int := cl.getD s 0 :: (d.nx.getD s []).map fun t => cl.getD t.toNat 0
def Dfa.nxL (d : Dfa) (cl : List Int) : List Int := (List.range d.nx.length).map fun s => (pos (cV (d.sg cl) d.nx.length) (d.sg cl s) : Int)
def Dfa.cl (d : Dfa) : Nat → List Int
  | 0 => (List.range d.nx.length).map (B8 d)
  | i + 1 => d.nxL (d.cl i)
def Dfa.cn (d : Dfa) : Nat → Nat
  | 0 => 0
  | i + 1 => (cV (d.sg (d.cl i)) d.nx.length).length
def Bd (n : Int) (w : List Int) : Prop := ∀ x, x ∈ w → 0 ≤ x ∧ x < n
def DEQ (a b : Dfa) (s t : Int) : Prop := ∀ w : List Int, Bd a.inp w → a.ac (a.run s w) = b.ac (b.run t w)
theorem DEQ.acc {a b : Dfa} {s t : Int} (h : DEQ a b s t) : a.ac s = b.ac t := h [] (fun x hx => by cases hx)
theorem DEQ.refl (d : Dfa) (s : Int) : DEQ d d s s := fun _ _ => rfl
theorem DEQ.symm {d : Dfa} {s t : Int} (h : DEQ d d s t) : DEQ d d t s := fun w hw => (h w hw).symm
theorem DEQ.trans {d : Dfa} {s t u : Int} (h : DEQ d d s t) (h2 : DEQ d d t u) : DEQ d d s u := fun w hw => (h w hw).trans (h2 w hw)
/-plain-/
/-plain-/
structure SIM (A B : STP) (n : Nat) (R : PP → PP → Prop) : Prop where
  st : ∀ p q, R p q → ∀ x, x < n → R (A p x) (B q x)
  bi : ∀ p q p' q', R p q → R p' q' → (p = p' ↔ q = q')
def RL (R : PP → PP → Prop) (l l' : List W3) : Prop := l.length = l'.length ∧ ∀ i, i < l.length → R (l.getD i w30).1 (l'.getD i w30).1 ∧ (l.getD i w30).2 = (l'.getD i w30).2
theorem RL.mem {A B : STP} {n : Nat} {R : PP → PP → Prop} (hs : SIM A B n R) {l l' : List W3} (h : RL R l l') {p q : PP} (hr : R p q) : p ∈ l.map Prod.fst ↔ q ∈ l'.map Prod.fst := by
  constructor
  · intro hm
    obtain ⟨e, he, e1⟩ := List.mem_map.1 hm
    obtain ⟨i, hi⟩ := List.getElem?_of_mem he
    have hlt := (List.getElem?_eq_some_iff.1 hi).1
    have h2 := h.2 i hlt
    have h3 : l.getD i w30 = e := by rw [List.getD, hi]; rfl
    rw [h3, e1] at h2
    have := (hs.bi _ _ _ _ h2.1 hr).1 rfl
    rw [← this]
    exact List.mem_map.2 ⟨_, rW (by rw [← h.1]; exact hlt), rfl⟩
  · intro hm
    obtain ⟨e, he, e1⟩ := List.mem_map.1 hm
    obtain ⟨i, hi⟩ := List.getElem?_of_mem he
    have hlt := (List.getElem?_eq_some_iff.1 hi).1
    have h2 := h.2 i (by rw [h.1]; exact hlt)
    have h3 : l'.getD i w30 = e := by rw [List.getD, hi]; rfl
    rw [h3, e1] at h2
    have := (hs.bi _ _ _ _ h2.1 hr).2 rfl
    rw [← this]
    exact List.mem_map.2 ⟨_, rW (by rw [h.1]; exact hlt), rfl⟩
theorem RL.snoc {R : PP → PP → Prop} {l l' : List W3} (h : RL R l l') {e f : W3} (hr : R e.1 f.1) (hw : e.2 = f.2) : RL R (l ++ [e]) (l' ++ [f]) := by
  refine ⟨by simp [h.1], fun i hi => ?_⟩
  rw [aq, List.length_singleton] at hi
  by_cases e1 : i < l.length
  · rw [dG e1, dG (by rw [← h.1]; exact e1)]; exact h.2 i e1
  · rw [gq (by omega), gq (by have := h.1; omega)]; exact ⟨hr, hw⟩
theorem RL.row {A B : STP} {n : Nat} {R : PP → PP → Prop} (hs : SIM A B n R) {l l' : List W3} (h : RL R l l') {e f : W3} (hr : R e.1 f.1) (hw : e.2 = f.2) : ∀ x, x ≤ n → RL R (jq A e l x) (jq B f l' x)
  | 0, _ => h
  | x + 1, hx => by
    have ih := h.row hs hr hw x (by omega)
    have h2 := hs.st _ _ hr x (by omega)
    rw [jb, jb]
    by_cases hm : A e.1 x ∈ (jq A e l x).map Prod.fst
    · rw [rZ hm, rZ ((ih.mem hs h2).1 hm)]; exact ih
    · rw [pf hm, pf (fun k => hm ((ih.mem hs h2).2 k))]
      exact ih.snoc h2 (by rw [hw])
theorem RL.one {R : PP → PP → Prop} {p q : PP} (h : R p q) : RL R [(p, [])] [(q, [])] := ⟨rfl, fun i hi => by
  have : i = 0 := by simpa using hi
  subst this; exact ⟨h, rfl⟩⟩
/-plain-/
/-plain-/
def SLT (u v : List Int) : Prop := u.length < v.length ∨ (u.length = v.length ∧ ∃ m, m < u.length ∧ (∀ q, q < m → u.getD q 0 = v.getD q 0) ∧ u.getD m 0 < v.getD m 0)
def SLE (u v : List Int) : Prop := u = v ∨ SLT u v
theorem SLT.trans {u v w : List Int} (h : SLT u v) (h2 : SLT v w) : SLT u w := by
  rcases h with h | ⟨h, m, a1, a2, a3⟩
  · rcases h2 with h2 | ⟨h2, _⟩
    · exact .inl (by omega)
    · exact .inl (by omega)
  · rcases h2 with h2 | ⟨h2, k, b1, b2, b3⟩
    · exact .inl (by omega)
    · refine .inr ⟨by omega, ?_⟩
      rcases Nat.lt_trichotomy m k with e | e | e
      · exact ⟨m, a1, fun q hq => (a2 q hq).trans (b2 q (by omega)), by rw [← b2 m e]; exact a3⟩
      · subst e; exact ⟨m, a1, fun q hq => (a2 q hq).trans (b2 q hq), by omega⟩
      · exact ⟨k, by omega, fun q hq => (a2 q (by omega)).trans (b2 q hq), by rw [a2 k e]; exact b3⟩
theorem SLE.trans_lt {u v w : List Int} (h : SLE u v) (h2 : SLT v w) : SLT u w := by
  rcases h with rfl | h
  · exact h2
  · exact h.trans h2
theorem SLE.trans {u v w : List Int} (h : SLE u v) (h2 : SLE v w) : SLE u w := by
  rcases h2 with rfl | h2
  · exact h
  · exact .inr (h.trans_lt h2)
theorem SLT.app {u v : List Int} (h : SLT u v) (a b : Int) : SLT (u ++ [a]) (v ++ [b]) := by
  rcases h with h | ⟨h, m, a1, a2, a3⟩
  · exact .inl (by simp; omega)
  · refine .inr ⟨by simp; omega, m, by simp; omega, fun q hq => ?_, ?_⟩
    · rw [dG (by omega), dG (by omega)]; exact a2 q hq
    · rw [dG a1, dG (by omega)]; exact a3
theorem SLE.app {u v : List Int} (h : SLE u v) (a : Int) : SLE (u ++ [a]) (v ++ [a]) := by
  rcases h with rfl | h
  · exact .inl rfl
  · exact .inr (h.app a a)
theorem SLT.nil (u : List Int) (x : Int) : SLT [] (u ++ [x]) := .inl (by simp)
theorem SLE.len {u v : List Int} (h : SLE u v) : u.length ≤ v.length := by
  rcases h with rfl | h | ⟨h, _⟩ <;> omega
structure BW (A : STP) (n i : Nat) (l : List W3) : Prop where
  so : ∀ j k, j < k → k < l.length → SLT (l.getD j w30).2 (l.getD k w30).2
  mi : ∀ j, j < i → j < l.length → ∀ x, x < n → ∃ k, k < l.length ∧ (l.getD k w30).1 = A (l.getD j w30).1 x ∧ SLE (l.getD k w30).2 ((l.getD j w30).2 ++ [(x : Int)])
  up : i < l.length → ∀ k, k < l.length → SLT (l.getD k w30).2 ((l.getD i w30).2 ++ [0])
structure BX (A : STP) (n i x : Nat) (l0 l : List W3) : Prop where
  so : ∀ j k, j < k → k < l.length → SLT (l.getD j w30).2 (l.getD k w30).2
  mi : ∀ y, y < x → ∃ k, k < l.length ∧ (l.getD k w30).1 = A (l0.getD i w30).1 y ∧ SLE (l.getD k w30).2 ((l0.getD i w30).2 ++ [(y : Int)])
  up : ∀ k, k < l.length → SLT (l.getD k w30).2 ((l0.getD i w30).2 ++ [(x : Int)])
/-plain-/
structure LCL (A : STP) (n : Nat) (L : List W3) : Prop where
  nd : (L.map Prod.fst).Nodup
  cl : ∀ j, j < L.length → ∀ x, x < n → A (L.getD j w30).1 x ∈ L.map Prod.fst
variable {A : STP} {G : PP → Bool} {n : Nat} {L : List W3}
/-plain-/
def Dfa.sto (d : Dfa) : Nat → Nat → Nat
  | 0, i => i
  | f + 1, i => if d.cn (i + 1) = d.cn i then i else d.sto f (i + 1)
def Dfa.cls (d : Dfa) : List Int := d.cl (d.sto (d.nx.length + 1) 0 + 1)
def fsV (cl : List Int) (n s c : Nat) : Int := match (List.range n).find? (fun q => decide (s ≤ q) && decide (cl.getD q 0 = (c : Int))) with | some q => (q : Int) | none => 0
def fsL (cl : List Int) (n s : Nat) : List Int := (List.range n).map fun c => fsV cl n s c
def Dfa.rep (d : Dfa) (s : Int) : Int := (fsL d.cls d.nx.length 0).getD (d.cls.getD s.toNat 0).toNat 0
structure RPR (d : Dfa) (s r : Int) : Prop where
  rg : 0 ≤ r ∧ r < d.nx.length
  le : r ≤ s
  cl : d.cls.getD r.toNat 0 = d.cls.getD s.toNat 0
  mi : ∀ q : Nat, (q : Int) < r → d.cls.getD q 0 ≠ d.cls.getD s.toNat 0
/-plain-/
structure M1OK (d : Dfa) (q : PP) (x : Nat) : Prop where
  r1 : 0 ≤ q.1 ∧ q.1 < d.nx.length
  rl : ((d.nx.getD q.1.toNat []).length : Int) = d.inp
  t1 : 0 ≤ (d.nx.getD q.1.toNat []).getD x 0 ∧ (d.nx.getD q.1.toNat []).getD x 0 < d.nx.length
  c1 : 0 ≤ d.cls.getD ((d.nx.getD q.1.toNat []).getD x 0).toNat 0 ∧ d.cls.getD ((d.nx.getD q.1.toNat []).getD x 0).toNat 0 < d.nx.length
  e : d.rep (d.dl q.1 x) = (fsL d.cls d.nx.length 0).getD (d.cls.getD ((d.nx.getD q.1.toNat []).getD x 0).toNat 0).toNat 0
/-plain-/
structure SHP (d : Dfa) (P : List W3) (k : Nat) : Prop where
  rg : 0 ≤ (P.getD k w30).1.1 ∧ (P.getD k w30).1.1 < d.nx.length
/-plain-/
/-plain-/
/-plain-/
def lq (P : Nat → Bool) (s : Nat) : Nat := ((List.range s).find? P).getD s
def rc0 (t : Dfa) (s : Nat) : Int := (lq (fun q => decide (t.acc.getD q false = t.acc.getD s false)) s : Int)
def rcF (t : Dfa) (cl : List Int) (s : Nat) : Int := (lq (fun q => decide (t.sg cl q = t.sg cl s)) s : Int)
def rcl (t : Dfa) : Nat → List Int
  | 0 => (List.range t.nx.length).map (rc0 t)
  | r + 1 => (List.range t.nx.length).map (rcF t (rcl t r))
def rC (t : Dfa) : List Int := rcl t t.nx.length
structure RCK (t : Dfa) : Prop where
  rg : ∀ s, s < t.nx.length → 0 ≤ (rC t).getD s 0 ∧ (rC t).getD s 0 ≤ s
  eq : ∀ s u, s < t.nx.length → u < t.nx.length → ((rC t).getD s 0 = (rC t).getD u 0 ↔ DEQ t t s u)
  id : ∀ s, s < t.nx.length → (rC t).getD ((rC t).getD s 0).toNat 0 = (rC t).getD s 0
/-plain-/
/-plain-/
structure PRL (a b M : Mly) (w : List Int) : Prop where
  v : aO M = 0
  st : M.st = 0
  re : M.reach.length = M.nx.length
  ea : ip a a.st w = fO w a.inp
  eb : ip b b.st w = fO w a.inp
  em : ip M M.st w = fO w a.inp
  la : (eS a a.st w).length = (eS M M.st w).length
  lb : (eS b b.st w).length = (eS M M.st w).length
  at_ : ∀ i, i < (eS M M.st w).length → (eS M M.st w).getD i 0 = (eS a a.st w).getD i 0 * (1 + gr b) + (eS b b.st w).getD i 0
structure CAL (a b M : Mly) (w : List Int) : Prop where
  v : aO M = 0
  ea : ip a a.st w = fO w a.inp
  em : ip M M.st w = fO w a.inp
  eb : fO w a.inp = 0 → ip b b.st (eS a a.st w) = 0
  vb : fO w a.inp = 0 → eS b b.st (eS a a.st w) = eS M M.st w
def plU (n : Int) (w : List Int) : List Int := w.filter fun x => decide (x < n)
def plV (n : Int) (w : List Int) : List Int := (w.filter fun x => !decide (x < n)).map fun x => x - n
def plA (n : Int) (e : List (Int × Int)) : List Int := (e.filter fun x => decide (x.1 < n)).map (·.2)
def plB (n k : Int) (e : List (Int × Int)) : List Int := (e.filter fun x => !decide (x.1 < n)).map fun x => x.2 - 1 - k
structure PLL (a b M : Mly) (w : List Int) : Prop where
  v : aO M = 0
  inp : M.inp = a.inp + b.inp
  em : ip M M.st w = fO w (a.inp + b.inp)
  lm : fO w (a.inp + b.inp) = 0 → (eS M M.st w).length = w.length
  ea : fO w (a.inp + b.inp) = 0 → ip a a.st (plU a.inp w) = 0
  eb : fO w (a.inp + b.inp) = 0 → ip b b.st (plV a.inp w) = 0
  va : fO w (a.inp + b.inp) = 0 → eS a a.st (plU a.inp w) = plA a.inp (w.zip (eS M M.st w))
  vb : fO w (a.inp + b.inp) = 0 → eS b b.st (plV a.inp w) = plB a.inp (gr a) (w.zip (eS M M.st w))
/-plain-/
def iE (m : Mly) : Bool := (decide (12 < m.nx.length) || decide (12 < m.ot.length) || decide (6 < m.inp)) || (m.nx.any (fun r => decide (12 < r.length)) || m.ot.any (fun r => decide (12 < r.length)))
theorem A4 {m : Mly} (h : (12 < m.nx.length ∨ 12 < m.ot.length) ∨ 6 < m.inp) : iE m = true := by
  unfold iE
  rw [Bool.or_eq_true]; left
  simp only [Bool.or_eq_true, decide_eq_true_eq]; exact h
theorem zZ {m : Mly} {k : Nat} (hk : k < m.nx.length) (h : 12 < (m.nx.getD k []).length) : iE m = true := by
  unfold iE
  rw [Bool.or_eq_true]; right; rw [Bool.or_eq_true]; left
  refine List.any_eq_true.2 ⟨_, List.getElem_mem hk, ?_⟩
  rw [List.getD, List.getElem?_eq_getElem hk] at h
  exact decide_eq_true h
theorem Ap {m : Mly} {k : Nat} (hk : k < m.ot.length) (h : 12 < (m.ot.getD k []).length) : iE m = true := by
  unfold iE
  rw [Bool.or_eq_true]; right; rw [Bool.or_eq_true]; right
  refine List.any_eq_true.2 ⟨_, List.getElem_mem hk, ?_⟩
  rw [List.getD, List.getElem?_eq_getElem hk] at h
  exact decide_eq_true h
theorem nZ {m : Mly} (h0 : ¬ ((12 < m.nx.length ∨ 12 < m.ot.length) ∨ 6 < m.inp)) (h1 : ∀ q, q < m.nx.length → (m.nx.getD q []).length ≤ 12) (h2 : ∀ q, q < m.ot.length → (m.ot.getD q []).length ≤ 12) : iE m = false := by
  have any_no : ∀ (L : List (List Int)), (∀ q, q < L.length → (L.getD q []).length ≤ 12) → L.any (fun r => decide (12 < r.length)) = false := fun L h => by
    rw [List.any_eq_false]
    intro x hx
    obtain ⟨i, hi, rfl⟩ := List.getElem_of_mem hx
    have := h i hi
    rw [List.getD, List.getElem?_eq_getElem hi] at this
    simp only [Option.getD_some] at this
    rw [decide_eq_true_eq]; omega
  unfold iE
  rw [any_no _ h1, any_no _ h2, decide_eq_false (by omega), decide_eq_false (by omega), decide_eq_false (by omega)]; rfl
def rQ (m : Mly) : Bool := (!iE m && decide (m.nx.length ≤ 8)) && decide (m.inp ≤ 4)
theorem Av {m : Mly} (h : rQ m = true) : m.nx.length ≤ 8 ∧ m.inp ≤ 4 := by
  unfold rQ at h
  simp only [Bool.and_eq_true, decide_eq_true_eq] at h
  exact ⟨h.1.2, h.2⟩
/-plain-/
/-plain-/
structure K12 (m : Mly) : Prop where
  ok : MOK m
  n8 : m.nx.length ≤ 8
  ck : dE m = 0
theorem wj {m : Mly} (h1 : rQ m = true) (h2 : hM m = 0) : K12 m := by
  have h3 : dE m = 0 := by rw [y6]; exact h2
  exact ⟨fa (sw h3), (Av h1).1, h3⟩
theorem Af {m : Mly} (h : K12 m) : di m = 0 := by
  have := (og h.ok h.n8).1
  unfold di; rw [h.ck, if_neg (by simp), if_neg (by omega)]
theorem tW {m : Mly} (h1 : rQ m = true) (h5 : m.nx.length ≤ 5) (h2 : hM m = 0) : di m = 0 ∧ (dt m 4 (rgI m.nx.length) = true → iP m = true) := by
  have hk := wj h1 h2
  have hb := Af hk
  refine ⟨hb, fun h => ?_⟩
  rw [(fP hb).2]
  exact vv hk.ok h5 h
end Go.AV
namespace Go.Proofs.Ytoahhklogohehaa
open Go Go.AV
open Nat renaming reduceEqDiff → aa, reduceAdd → V, reduceLeDiff → ad, reduceLT → ag, reduceMul → af, reduceSub → ae
open List renaming set_cons_zero → cE, set_cons_succ → ci, getD_cons_zero → ar, length_append → aq, map_cons → aF, cons_append → aM, map_nil → bl, length_cons → au, nil_append → ba, take_succ_cons → dD, length_nil → aE, length_map → az, length_replicate → bh, take_length → aJ, mem_cons_self → aH, mem_cons_of_mem → aG
open Int renaming toNat_natCast → ah
theorem zT : type_of% (And.intro Try.ea159 (And.intro Try.el107 (And.intro Try.el118 (And.intro Try.el129 (And.intro Try.el22 (And.intro Try.el27 (And.intro Try.el41 (And.intro Try.el50 (And.intro Try.el91 (And.intro Try.fl58 (And.intro Try.mk115 (And.intro Try.mk157 (And.intro Try.sa159 (And.intro Try.st117 (And.intro Try.st24 (And.intro Try.st29 (And.intro Try.st52 (And.intro Try.st58 (And.intro Try.st62 (And.intro Try.st66 (And.intro Try.st82 (And.intro Try.st84 (And.intro Try.td1 (And.intro Try.td102 (And.intro Try.td107 (And.intro Try.td117 (And.intro Try.td118 (And.intro Try.td129 (And.intro Try.td132 (And.intro Try.td159 (And.intro Try.td2 (And.intro Try.td22 (And.intro Try.td24 (And.intro Try.td27 (And.intro Try.td29 (And.intro Try.td3 (And.intro Try.td30 (And.intro Try.td4 (And.intro Try.td41 (And.intro Try.td5 (And.intro Try.td50 (And.intro Try.td52 (And.intro Try.td58 (And.intro Try.td60 (And.intro Try.td62 (And.intro Try.td66 (And.intro Try.td77 (And.intro Try.td80 (And.intro Try.td82 (And.intro Try.td84 (And.intro Try.td9 Try.td91))))))))))))))))))))))))))))))))))))))))))))))))))) :=
  And.intro Try.ea159 (And.intro Try.el107 (And.intro Try.el118 (And.intro Try.el129 (And.intro Try.el22 (And.intro Try.el27 (And.intro Try.el41 (And.intro Try.el50 (And.intro Try.el91 (And.intro Try.fl58 (And.intro Try.mk115 (And.intro Try.mk157 (And.intro Try.sa159 (And.intro Try.st117 (And.intro Try.st24 (And.intro Try.st29 (And.intro Try.st52 (And.intro Try.st58 (And.intro Try.st62 (And.intro Try.st66 (And.intro Try.st82 (And.intro Try.st84 (And.intro Try.td1 (And.intro Try.td102 (And.intro Try.td107 (And.intro Try.td117 (And.intro Try.td118 (And.intro Try.td129 (And.intro Try.td132 (And.intro Try.td159 (And.intro Try.td2 (And.intro Try.td22 (And.intro Try.td24 (And.intro Try.td27 (And.intro Try.td29 (And.intro Try.td3 (And.intro Try.td30 (And.intro Try.td4 (And.intro Try.td41 (And.intro Try.td5 (And.intro Try.td50 (And.intro Try.td52 (And.intro Try.td58 (And.intro Try.td60 (And.intro Try.td62 (And.intro Try.td66 (And.intro Try.td77 (And.intro Try.td80 (And.intro Try.td82 (And.intro Try.td84 (And.intro Try.td9 Try.td91))))))))))))))))))))))))))))))))))))))))))))))))))
def Mof (d : Int × (Int × (List (List Int) × (List (List Int) × Unit)))) : Mly := ⟨d.1, d.2.1, d.2.2.1, d.2.2.2.1⟩
end Go.Proofs.Ytoahhklogohehaa
