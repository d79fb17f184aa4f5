/- Contracts of functions of this seat, each out of a walk through its code, and plain facts on what they compute. Conditions: those that each theorem names. -/
import Derived.Test.YtoahhklogohehaaW01
set_option linter.unusedSimpArgs false
set_option linter.unusedVariables false
set_option maxRecDepth 100000
namespace Go.AV
open Nat renaming reduceEqDiff → aa, reduceAdd → V, reduceLeDiff → ad, reduceLT → ag, reduceMul → af, reduceSub → ae
open List renaming set_cons_zero → cT, set_cons_succ → cC, getD_cons_zero → ar, length_append → aq, map_cons → aJ, cons_append → aH, map_nil → bg, length_cons → au, nil_append → aZ, take_succ_cons → dQ, length_nil → aC, length_map → aD, length_replicate → bp, take_length → aE, mem_cons_self → aO, mem_cons_of_mem → aL
open Int renaming toNat_natCast → ah
/-plain-/
def gr (m : Mly) : Int := m.ot.flatten.foldl max 0
def IP (a b : Mly) (p : PP) : Prop := (0 ≤ p.1 ∧ p.1 < a.nx.length) ∧ 0 ≤ p.2 ∧ p.2 < b.nx.length
def IS (m : Mly) (p : PP) : Prop := (0 ≤ p.1 ∧ p.1 < m.nx.length) ∧ p.2 = 0
theorem IP.st {a b : Mly} (ha : MOK a) (hb : MOK b) : IP a b (a.st, b.st) := ⟨⟨ha.s1, ha.s2⟩, hb.s1, hb.s2⟩
theorem IS.st {m : Mly} (hm : MOK m) : IS m (m.st, 0) := ⟨⟨hm.s1, hm.s2⟩, rfl⟩
structure SNG (X : Mly) (F : SYS) : Prop where
  st : ∀ s x : Nat, s < X.nx.length → (x : Int) < X.inp → F ((s : Int), 0) x = ((X.nxt s x, 0), X.out s x)
theorem SNG.at_ {X : Mly} {F : SYS} (h : SNG X F) {q : PP} (hq : IS X q) {x : Nat} (hx : (x : Int) < X.inp) : F q x = ((X.nxt q.1 x, 0), X.out q.1 x) := by
  obtain ⟨q1, q2⟩ := q
  obtain ⟨h1, h2⟩ := hq
  simp only at h1 h2
  subst h2
  have := h.st q1.toNat x (by omega) hx
  rw [Int.toNat_of_nonneg h1.1] at this
  exact this
/-plain-/
abbrev Bs := List UInt8
def okI (c : Int) : Prop := (97 ≤ c ∧ c ≤ 122) ∨ (65 ≤ c ∧ c ≤ 90) ∨ (48 ≤ c ∧ c ≤ 57) ∨ c = 95 ∨ c = 45 ∨ c = 46
instance (c : Int) : Decidable (okI c) := by unfold okI; exact inferInstance
def BF (s : Bs) : Bool := s.all (fun b => decide (okI (b.toNat : Int))) && decide (1 ≤ s.length) && decide (s.length ≤ 32)
structure AOK (xs : List Bs) : Prop where
  n0 : 1 ≤ xs.length
  n1 : xs.length ≤ 64
  nm : ∀ k, k < xs.length → BF (xs.getD k []) = true
  nw : ∀ k, k < xs.length → xs.getD k [] ∉ xs.take k
theorem p8 {xs : List Bs} {k : Nat} (h : k < xs.length) : xs.getD k [] ∈ xs := by simp [List.getD, h]
theorem BI {xs : List Bs} {x : Bs} : x ∈ xs ↔ ∃ j, j < xs.length ∧ xs.getD j [] = x := by
  constructor
  · intro h
    obtain ⟨j, hj⟩ := List.getElem?_of_mem h
    exact ⟨j, (List.getElem?_eq_some_iff.1 hj).1, by simp [List.getD, hj]⟩
  · rintro ⟨j, hj, e⟩; rw [← e]; exact p8 hj
theorem vT {xs : List Bs} {i k : Nat} (hi : i < k) : (xs.take k).getD i [] = xs.getD i [] := by simp [List.getD, List.getElem?_take, hi]
theorem uh {q : Bs} : ∀ {l : List Bs} {k : Nat}, k < pos l q → l.getD k [] ≠ q
  | [], k, h => by simp [pos] at h
  | y :: l, k, h => by
    simp only [pos] at h
    split at h
    · omega
    · rename_i e
      cases k with
      | zero => simpa [List.getD] using e
      | succ k =>
        have := uh (q := q) (l := l) (k := k) (by omega)
        simpa [List.getD] using this
theorem z8 {l : List Bs} {q : Bs} (h : q ∈ l) : l.getD (pos l q) [] = q := by rw [List.getD, j9 h]; rfl
theorem BN {l : List Bs} {q : Bs} {k : Nat} (hq : ∀ j, j < k → l.getD j [] ≠ q) (hk : k < l.length) (h : l.getD k [] = q) : pos l q = k ∧ q ∈ l := by
  have hm : q ∈ l := by rw [← h]; exact p8 hk
  refine ⟨?_, hm⟩
  rcases Nat.lt_trichotomy k (pos l q) with h2 | h2 | h2
  · exact absurd h (uh h2)
  · exact h2.symm
  · exact absurd (z8 hm) (hq _ h2)
theorem AOK.pos {xs : List Bs} (h : AOK xs) {k : Nat} (hk : k < xs.length) : pos xs (xs.getD k []) = k :=
  (BN (fun j hj e => h.nw k hk (by rw [BI]; exact ⟨j, by rw [List.length_take]; omega, by rw [vT hj, e]⟩)) hk rfl).1
/-plain-/
def prL (f : Nat → Int) (n s : Nat) (x : Int) : List Int := (List.range n).map fun q => if q < s then f q else if q = s then x else 0
theorem qc (f : Nat → Int) (n s : Nat) (x : Int) : (prL f n s x).length = n := by simp [prL]
theorem ub {f : Nat → Int} {n s : Nat} (h : s < n) (x y : Int) : (prL f n s x).set s y = prL f n s y := by
  refine List.ext_getElem (by simp [prL]) fun i h1 h2 => ?_
  simp only [prL, List.getElem_set, List.getElem_map, List.getElem_range]
  by_cases e : s = i
  · subst e; simp
  · rw [if_neg e, if_neg (Ne.symm e), if_neg (Ne.symm e)]
theorem rO (f : Nat → Int) (n s : Nat) : prL f n s (f s) = prL f n (s + 1) 0 := by
  unfold prL
  refine List.map_congr_left fun q _ => ?_
  by_cases e : q = s
  · subst e; simp
  · by_cases e2 : q < s
    · rw [if_pos e2, if_pos (by omega)]
    · rw [if_neg e2, if_neg e, if_neg (by omega)]; split <;> rfl
theorem yJ (f : Nat → Int) (n : Nat) : prL f n 0 0 = List.replicate n 0 := by
  refine List.ext_getElem (by simp [prL]) fun i h1 h2 => ?_
  simp [prL]
theorem uD (f : Nat → Int) (n : Nat) (x : Int) : prL f n n x = (List.range n).map f := by
  unfold prL
  refine List.map_congr_left fun q hq => ?_
  rw [if_pos (List.mem_range.1 hq)]
def bI1 (b : Bool) : Int := if b = true then 1 else 0
def BR (d : Dfa) (s : Nat) : Int := bI1 (d.acc.getD s false)
/-plain-/
/-plain-/
/-plain-/
instance dq12 : DecidableEq aX := @instDecidableEqProd (List Int) (Int × (List dD × Unit)) inferInstance (@instDecidableEqProd Int (List dD × Unit) inferInstance inferInstance)
theorem xi {T U : List aX} {i : Nat} (h : (T.getD i nd0) ≠ (U.getD i nd0)) : ¬ T = U := fun e => h (by rw [e])
theorem mC {T U : List aX} (hl : T.length = U.length) (h : ∀ i, i < T.length → T.getD i nd0 = U.getD i nd0) : T = U := by
  apply List.ext_getElem hl
  intro i h1 h2
  have := h i h1
  simpa [List.getD, h1, h2] using this
theorem yR {K L : List dD} (hl : K.length = L.length) (h : ∀ i, i < K.length → K.getD i kd0 = L.getD i kd0) : K = L := by
  apply List.ext_getElem hl
  intro i h1 h2
  have := h i h1
  simpa [List.getD, h1, h2] using this
theorem Bv {x y : aX} (h1 : x.2.1 = y.2.1) (h2 : x.1 = y.1) (h3 : x.2.2.1 = y.2.2.1) : x = y := by
  obtain ⟨a, b, c, _⟩ := x; obtain ⟨a2, b2, c2, _⟩ := y
  simp only at h1 h2 h3
  subst h1 h2 h3; rfl
theorem Bp {x y : dD} (h1 : x.1 = y.1) (h2 : x.2.1 = y.2.1) : x = y := by
  obtain ⟨a, b, _⟩ := x; obtain ⟨a2, b2, _⟩ := y
  simp only at h1 h2
  subst h1 h2; rfl
/-plain-/
def eu : Mly := ⟨1, 0, [[1], [2], [0]], [[0], [0], [1]]⟩
def iz : List aX := [([0, 1, 2], (0, ([(0, (1, ())), (1, (4, ()))], ()))), ([0, 1], (0, ([(0, (2, ())), (1, (3, ()))], ()))), ([0], (-1, ([], ()))), ([1], (-1, ([], ()))), ([2], (-1, ([], ())))]
def z12 : Mly := ⟨0, 0, [], []⟩
theorem cv : eu.av = .agg [.int .i64 1, .int .i64 0, .list (.list (.int .i64)) [[1], [2], [0]], .list (.list (.int .i64)) [[0], [0], [1]]] := rfl
theorem cz : AC.list ndT iz = AC.list (.pair (.list (.int .i64)) (.pair (.int .i64) (.pair (.list (.pair (.int .i64) (.pair (.int .i64) .unit))) .unit))) [([0, 1, 2], (0, ([(0, (1, ())), (1, (4, ()))], ()))), ([0, 1], (0, ([(0, (2, ())), (1, (3, ()))], ()))), ([0], (-1, ([], ()))), ([1], (-1, ([], ()))), ([2], (-1, ([], ())))] := rfl
def vF (xs : List Int) : List Int := xs.foldl jO []
def tR (m : Mly) : Nat → List Int → List Int → List Int → Nat → List aX
  | 0, _, _, _, _ => []
  | f + 1, ini, cur, w, n => if 4096 < n + 1 then [(ini, -1, [], ())] else
    match dR m ini cur w with
    | [] => [(ini, -1, [], ())]
    | a :: w2 => (ini, a, ((vF (ouL m cur a)).foldl (dm n (fun i c k => tR m f i c w2 k) m ini cur a) ([], [])).2, ()) :: ((vF (ouL m cur a)).foldl (dm n (fun i c k => tR m f i c w2 k) m ini cur a) ([], [])).1
theorem rA (m : Mly) : ∀ f, tR m f = cq m f
  | 0 => rfl
  | f + 1 => by
    funext ini cur w n
    rw [tR, cq, rA m f]
    have e : vF = aA := by funext xs; exact mT xs
    rw [e]
    cases dR m ini cur w <;> rfl
theorem Ap : aR eu = 0 := by decide +kernel
theorem vD : dT eu = 0 := by decide +kernel
theorem tQ : ff eu = iz := by
  show cq eu 4098 _ _ [] 0 = _
  rw [← rA]; decide +kernel
theorem z3 : dq eu = 0 := by unfold dq; rw [vD, tQ]; decide
theorem s7 : fR eu = iz := by rw [(fF z3).1, tQ]
theorem C5 : ki eu = true := by rw [(fF z3).2, tQ]; decide
theorem BT : ¬ dq z12 = 0 := by
  have e : dT z12 = 2 := by decide +kernel
  unfold dq; rw [e]; decide
theorem Ax : fC eu iz = 0 := by
  unfold fC
  rw [if_neg (fun h => h vD), if_neg]
  have h := (A3 (fc Ap) (by decide)).2.1
  rw [tQ] at h
  exact fun h9 => h9.elim (by decide) (fun h8 => h8 h)
theorem Bo : iA eu iz 0 = 0 := by unfold iA; rw [Ax]; decide
theorem BK : jn eu iz 0 = ([0, 0], 2) := by decide +kernel
theorem Bw : dpT iz = 2 := by decide +kernel
theorem Bt : fC eu [] = 1 := by
  unfold fC
  rw [if_neg (fun h => h vD), if_pos]
  right
  rw [oB (by simp)]; simp
theorem sr {m : Mly} {n : Nat} {rec : List Int → List Int → Nat → List aX} {ini cur : List Int} {a : Int} (hr : ∀ o k, ∀ x ∈ rec (bU m ini cur a cur.length o) (bE m cur a cur.length o) k, x.2.2.1.length ≤ 1000) : ∀ (ks : List Int) (t : List aX × List dD), (∀ x ∈ t.1, x.2.2.1.length ≤ 1000) →
    (∀ x ∈ (ks.foldl (dm n rec m ini cur a) t).1, x.2.2.1.length ≤ 1000) ∧ (ks.foldl (dm n rec m ini cur a) t).2.length ≤ t.2.length + ks.length
  | [], t, h => ⟨h, Nat.le_refl _⟩
  | o :: ks, t, h => by
    rw [List.foldl_cons]
    have h1 : (∀ x ∈ (dm n rec m ini cur a t o).1, x.2.2.1.length ≤ 1000) ∧ (dm n rec m ini cur a t o).2.length ≤ t.2.length + 1 := by
      unfold dm
      split
      · exact ⟨h, Nat.le_succ _⟩
      · refine ⟨fun x hx => ?_, by simp⟩
        rcases List.mem_append.1 hx with h9 | h9
        · exact h x h9
        · exact hr _ _ x h9
    obtain ⟨a1, a2⟩ := sr hr ks _ h1.1
    exact ⟨a1, by rw [au]; omega⟩
theorem tX {m : Mly} : ∀ (f : Nat) (ini cur w : List Int) (n : Nat), cur.length ≤ 1000 → ∀ x ∈ cq m f ini cur w n, x.2.2.1.length ≤ 1000
  | 0, _, _, _, _, _, x, hx => by cases hx
  | f + 1, ini, cur, w, n, h, x, hx => by
    by_cases e : 4096 < n + 1
    · rw [dZ e, List.mem_singleton] at hx; rw [hx]; exact Nat.zero_le _
    · cases hw : dR m ini cur w with
      | nil => rw [ew e hw, List.mem_singleton] at hx; rw [hx]; exact Nat.zero_le _
      | cons a w2 =>
        rw [d7 e hw] at hx
        obtain ⟨h1, h2⟩ := sr (m := m) (n := n) (rec := fun i c k => cq m f i c w2 k) (ini := ini) (cur := cur) (a := a) (fun o k => tX f _ _ w2 k (by have := js (m := m) (cur := cur) (a := a) (o := o) (i := cur.length); omega)) (aA (ouL m cur a)) ([], []) (fun x hx => by cases hx)
        rcases List.mem_cons.1 hx with h9 | h9
        · rw [h9]
          have h3 := eX (ouL m cur a)
          have h4 : (ouL m cur a).length = cur.length := aD ..
          simp only [aC] at h2
          show ((aA (ouL m cur a)).foldl (dm n (fun i c k => cq m f i c w2 k) m ini cur a) ([], [])).2.length ≤ 1000
          omega
        · exact h1 x h9
theorem xt {m : Mly} : ∀ x ∈ fR m, x.2.2.1.length ≤ 1000000 := fun x hx => by
  by_cases h : dq m = 0
  · rw [(fF h).1] at hx
    have hE : dT m = 0 := Classical.byContradiction fun h9 => by unfold dq at h; rw [if_pos h9] at h; exact h9 h
    have hn2 := (fc (tG hE)).n2
    have := tX 4098 _ _ _ _ (by rw [dk]; omega) x hx
    omega
  · rw [(fb h).1] at hx; cases hx
theorem yB (m : Mly) : (fR m).length ≤ 4097 := by
  unfold fR
  split
  · exact sf m
  · exact Nat.zero_le _
/-plain-/
theorem ml {P : Program} {f : FuncId} {xs ys : List AV} {r : AV} (h : c7 P f ys r) (hv : bn VLE xs ys) : c7 P f xs r :=
  ⟨h.1, fun C L σ w vs hP hi ha => h.2 C L σ w vs hP hi (hv.map2 (fun a b c hab hac => hab C L σ w c hac) ha)⟩
/-plain-/
theorem xz {C : Ctx} {Q : Go.Exit → St → Prop} {s : St} {c : Go.Code} {L1 G : List AO} (hG : G = [] ∨ ∃ ob, G = [ob]) (hL : s.L = L1 ++ G) (hB : C.bL.length ≤ L1.length) (he : s.env.all (fun x => gL L1.length x.2) = true) (ho : L1.all (cR L1.length) = true)
    (h : AWP C c Q { env := s.env, L := L1 }) : AWP C c Q s := by
  rcases hG with rfl | ⟨ob, rfl⟩
  · rw [List.append_nil] at hL
    have : s = { env := s.env, L := L1 } := by cases s; simp only at hL; rw [hL]
    rw [this]; exact h
  · exact cQ hL hB he ho h
/-plain-/
/-plain-/
/-plain-/
/-plain-/
def Dfa.sg (d : Dfa) (cl : List Int) (s : Nat) : List Int := cl.getD s 0 :: (d.nx.getD s []).map fun t => cl.getD t.toNat 0
def Dfa.nxL (d : Dfa) (cl : List Int) : List Int := (List.range d.nx.length).map fun s => (pos (dh (d.sg cl) d.nx.length) (d.sg cl s) : Int)
def Dfa.cl (d : Dfa) : Nat → List Int
  | 0 => (List.range d.nx.length).map (BR d)
  | i + 1 => d.nxL (d.cl i)
def Dfa.cn (d : Dfa) : Nat → Nat
  | 0 => 0
  | i + 1 => (dh (d.sg (d.cl i)) d.nx.length).length
def C1 (n : Int) (w : List Int) : Prop := ∀ x, x ∈ w → 0 ≤ x ∧ x < n
def DEQ (a b : Dfa) (s t : Int) : Prop := ∀ w : List Int, C1 a.inp w → a.ac (a.run s w) = b.ac (b.run t w)
theorem DEQ.acc {a b : Dfa} {s t : Int} (h : DEQ a b s t) : a.ac s = b.ac t := h [] (fun x hx => by cases hx)
theorem DEQ.refl (d : Dfa) (s : Int) : DEQ d d s s := fun _ _ => rfl
theorem DEQ.symm {d : Dfa} {s t : Int} (h : DEQ d d s t) : DEQ d d t s := fun w hw => (h w hw).symm
theorem DEQ.trans {d : Dfa} {s t u : Int} (h : DEQ d d s t) (h2 : DEQ d d t u) : DEQ d d s u := fun w hw => (h w hw).trans (h2 w hw)
/-plain-/
/-plain-/
structure SIM (A B : STP) (n : Nat) (R : PP → PP → Prop) : Prop where
  st : ∀ p q, R p q → ∀ x, x < n → R (A p x) (B q x)
  bi : ∀ p q p' q', R p q → R p' q' → (p = p' ↔ q = q')
def RL (R : PP → PP → Prop) (l l' : List W3) : Prop := l.length = l'.length ∧ ∀ i, i < l.length → R (l.getD i w30).1 (l'.getD i w30).1 ∧ (l.getD i w30).2 = (l'.getD i w30).2
theorem RL.mem {A B : STP} {n : Nat} {R : PP → PP → Prop} (hs : SIM A B n R) {l l' : List W3} (h : RL R l l') {p q : PP} (hr : R p q) : p ∈ l.map Prod.fst ↔ q ∈ l'.map Prod.fst := by
  constructor
  · intro hm
    obtain ⟨e, he, e1⟩ := List.mem_map.1 hm
    obtain ⟨i, hi⟩ := List.getElem?_of_mem he
    have hlt := (List.getElem?_eq_some_iff.1 hi).1
    have h2 := h.2 i hlt
    have h3 : l.getD i w30 = e := by rw [List.getD, hi]; rfl
    rw [h3, e1] at h2
    have := (hs.bi _ _ _ _ h2.1 hr).1 rfl
    rw [← this]
    exact List.mem_map.2 ⟨_, tE (by rw [← h.1]; exact hlt), rfl⟩
  · intro hm
    obtain ⟨e, he, e1⟩ := List.mem_map.1 hm
    obtain ⟨i, hi⟩ := List.getElem?_of_mem he
    have hlt := (List.getElem?_eq_some_iff.1 hi).1
    have h2 := h.2 i (by rw [h.1]; exact hlt)
    have h3 : l'.getD i w30 = e := by rw [List.getD, hi]; rfl
    rw [h3, e1] at h2
    have := (hs.bi _ _ _ _ h2.1 hr).2 rfl
    rw [← this]
    exact List.mem_map.2 ⟨_, tE (by rw [h.1]; exact hlt), rfl⟩
theorem RL.snoc {R : PP → PP → Prop} {l l' : List W3} (h : RL R l l') {e f : W3} (hr : R e.1 f.1) (hw : e.2 = f.2) : RL R (l ++ [e]) (l' ++ [f]) := by
  refine ⟨by simp [h.1], fun i hi => ?_⟩
  rw [aq, List.length_singleton] at hi
  by_cases e1 : i < l.length
  · rw [dX e1, dX (by rw [← h.1]; exact e1)]; exact h.2 i e1
  · rw [gQ (by omega), gQ (by have := h.1; omega)]; exact ⟨hr, hw⟩
theorem RL.row {A B : STP} {n : Nat} {R : PP → PP → Prop} (hs : SIM A B n R) {l l' : List W3} (h : RL R l l') {e f : W3} (hr : R e.1 f.1) (hw : e.2 = f.2) : ∀ x, x ≤ n → RL R (jR A e l x) (jR B f l' x)
  | 0, _ => h
  | x + 1, hx => by
    have ih := h.row hs hr hw x (by omega)
    have h2 := hs.st _ _ hr x (by omega)
    rw [jx, jx]
    by_cases hm : A e.1 x ∈ (jR A e l x).map Prod.fst
    · rw [tB hm, tB ((ih.mem hs h2).1 hm)]; exact ih
    · rw [pp hm, pp (fun k => hm ((ih.mem hs h2).2 k))]
      exact ih.snoc h2 (by rw [hw])
theorem RL.one {R : PP → PP → Prop} {p q : PP} (h : R p q) : RL R [(p, [])] [(q, [])] := ⟨rfl, fun i hi => by
  have : i = 0 := by simpa using hi
  subst this; exact ⟨h, rfl⟩⟩
/-plain-/
/-plain-/
def SLT (u v : List Int) : Prop := u.length < v.length ∨ (u.length = v.length ∧ ∃ m, m < u.length ∧ (∀ q, q < m → u.getD q 0 = v.getD q 0) ∧ u.getD m 0 < v.getD m 0)
def SLE (u v : List Int) : Prop := u = v ∨ SLT u v
theorem SLT.trans {u v w : List Int} (h : SLT u v) (h2 : SLT v w) : SLT u w := by
  rcases h with h | ⟨h, m, a1, a2, a3⟩
  · rcases h2 with h2 | ⟨h2, _⟩
    · exact .inl (by omega)
    · exact .inl (by omega)
  · rcases h2 with h2 | ⟨h2, k, b1, b2, b3⟩
    · exact .inl (by omega)
    · refine .inr ⟨by omega, ?_⟩
      rcases Nat.lt_trichotomy m k with e | e | e
      · exact ⟨m, a1, fun q hq => (a2 q hq).trans (b2 q (by omega)), by rw [← b2 m e]; exact a3⟩
      · subst e; exact ⟨m, a1, fun q hq => (a2 q hq).trans (b2 q hq), by omega⟩
      · exact ⟨k, by omega, fun q hq => (a2 q (by omega)).trans (b2 q hq), by rw [a2 k e]; exact b3⟩
theorem SLE.trans_lt {u v w : List Int} (h : SLE u v) (h2 : SLT v w) : SLT u w := by
  rcases h with rfl | h
  · exact h2
  · exact h.trans h2
theorem SLE.trans {u v w : List Int} (h : SLE u v) (h2 : SLE v w) : SLE u w := by
  rcases h2 with rfl | h2
  · exact h
  · exact .inr (h.trans_lt h2)
theorem SLT.app {u v : List Int} (h : SLT u v) (a b : Int) : SLT (u ++ [a]) (v ++ [b]) := by
  rcases h with h | ⟨h, m, a1, a2, a3⟩
  · exact .inl (by simp; omega)
  · refine .inr ⟨by simp; omega, m, by simp; omega, fun q hq => ?_, ?_⟩
    · rw [dX (by omega), dX (by omega)]; exact a2 q hq
    · rw [dX a1, dX (by omega)]; exact a3
theorem SLE.app {u v : List Int} (h : SLE u v) (a : Int) : SLE (u ++ [a]) (v ++ [a]) := by
  rcases h with rfl | h
  · exact .inl rfl
  · exact .inr (h.app a a)
theorem SLT.nil (u : List Int) (x : Int) : SLT [] (u ++ [x]) := .inl (by simp)
theorem SLE.len {u v : List Int} (h : SLE u v) : u.length ≤ v.length := by
  rcases h with rfl | h | ⟨h, _⟩ <;> omega
structure BW (A : STP) (n i : Nat) (l : List W3) : Prop where
  so : ∀ j k, j < k → k < l.length → SLT (l.getD j w30).2 (l.getD k w30).2
  mi : ∀ j, j < i → j < l.length → ∀ x, x < n → ∃ k, k < l.length ∧ (l.getD k w30).1 = A (l.getD j w30).1 x ∧ SLE (l.getD k w30).2 ((l.getD j w30).2 ++ [(x : Int)])
  up : i < l.length → ∀ k, k < l.length → SLT (l.getD k w30).2 ((l.getD i w30).2 ++ [0])
structure BX (A : STP) (n i x : Nat) (l0 l : List W3) : Prop where
  so : ∀ j k, j < k → k < l.length → SLT (l.getD j w30).2 (l.getD k w30).2
  mi : ∀ y, y < x → ∃ k, k < l.length ∧ (l.getD k w30).1 = A (l0.getD i w30).1 y ∧ SLE (l.getD k w30).2 ((l0.getD i w30).2 ++ [(y : Int)])
  up : ∀ k, k < l.length → SLT (l.getD k w30).2 ((l0.getD i w30).2 ++ [(x : Int)])
/-plain-/
structure LCL (A : STP) (n : Nat) (L : List W3) : Prop where
  nd : (L.map Prod.fst).Nodup
  cl : ∀ j, j < L.length → ∀ x, x < n → A (L.getD j w30).1 x ∈ L.map Prod.fst
variable {A : STP} {G : PP → Bool} {n : Nat} {L : List W3}
/-plain-/
def Dfa.sto (d : Dfa) : Nat → Nat → Nat
  | 0, i => i
  | f + 1, i => if d.cn (i + 1) = d.cn i then i else d.sto f (i + 1)
def Dfa.cls (d : Dfa) : List Int := d.cl (d.sto (d.nx.length + 1) 0 + 1)
def fsV (cl : List Int) (n s c : Nat) : Int := match (List.range n).find? (fun q => decide (s ≤ q) && decide (cl.getD q 0 = (c : Int))) with | some q => (q : Int) | none => 0
def fsL (cl : List Int) (n s : Nat) : List Int := (List.range n).map fun c => fsV cl n s c
def Dfa.rep (d : Dfa) (s : Int) : Int := (fsL d.cls d.nx.length 0).getD (d.cls.getD s.toNat 0).toNat 0
structure RPR (d : Dfa) (s r : Int) : Prop where
  rg : 0 ≤ r ∧ r < d.nx.length
  le : r ≤ s
  cl : d.cls.getD r.toNat 0 = d.cls.getD s.toNat 0
  mi : ∀ q : Nat, (q : Int) < r → d.cls.getD q 0 ≠ d.cls.getD s.toNat 0
/-plain-/
structure M1OK (d : Dfa) (q : PP) (x : Nat) : Prop where
  r1 : 0 ≤ q.1 ∧ q.1 < d.nx.length
  rl : ((d.nx.getD q.1.toNat []).length : Int) = d.inp
  t1 : 0 ≤ (d.nx.getD q.1.toNat []).getD x 0 ∧ (d.nx.getD q.1.toNat []).getD x 0 < d.nx.length
  c1 : 0 ≤ d.cls.getD ((d.nx.getD q.1.toNat []).getD x 0).toNat 0 ∧ d.cls.getD ((d.nx.getD q.1.toNat []).getD x 0).toNat 0 < d.nx.length
  e : d.rep (d.dl q.1 x) = (fsL d.cls d.nx.length 0).getD (d.cls.getD ((d.nx.getD q.1.toNat []).getD x 0).toNat 0).toNat 0
/-plain-/
structure SHP (d : Dfa) (P : List W3) (k : Nat) : Prop where
  rg : 0 ≤ (P.getD k w30).1.1 ∧ (P.getD k w30).1.1 < d.nx.length
/-plain-/
/-plain-/
/-plain-/
def lq (P : Nat → Bool) (s : Nat) : Nat := ((List.range s).find? P).getD s
def rc0 (t : Dfa) (s : Nat) : Int := (lq (fun q => decide (t.acc.getD q false = t.acc.getD s false)) s : Int)
def rcF (t : Dfa) (cl : List Int) (s : Nat) : Int := (lq (fun q => decide (t.sg cl q = t.sg cl s)) s : Int)
def rcl (t : Dfa) : Nat → List Int
  | 0 => (List.range t.nx.length).map (rc0 t)
  | r + 1 => (List.range t.nx.length).map (rcF t (rcl t r))
def rC (t : Dfa) : List Int := rcl t t.nx.length
structure RCK (t : Dfa) : Prop where
  rg : ∀ s, s < t.nx.length → 0 ≤ (rC t).getD s 0 ∧ (rC t).getD s 0 ≤ s
  eq : ∀ s u, s < t.nx.length → u < t.nx.length → ((rC t).getD s 0 = (rC t).getD u 0 ↔ DEQ t t s u)
  id : ∀ s, s < t.nx.length → (rC t).getD ((rC t).getD s 0).toNat 0 = (rC t).getD s 0
/-plain-/
/-plain-/
structure PRL (a b M : Mly) (w : List Int) : Prop where
  v : aR M = 0
  st : M.st = 0
  re : M.reach.length = M.nx.length
  ea : iR a a.st w = gv w a.inp
  eb : iR b b.st w = gv w a.inp
  em : iR M M.st w = gv w a.inp
  la : (fe a a.st w).length = (fe M M.st w).length
  lb : (fe b b.st w).length = (fe M M.st w).length
  at_ : ∀ i, i < (fe M M.st w).length → (fe M M.st w).getD i 0 = (fe a a.st w).getD i 0 * (1 + gr b) + (fe b b.st w).getD i 0
structure CAL (a b M : Mly) (w : List Int) : Prop where
  v : aR M = 0
  ea : iR a a.st w = gv w a.inp
  em : iR M M.st w = gv w a.inp
  eb : gv w a.inp = 0 → iR b b.st (fe a a.st w) = 0
  vb : gv w a.inp = 0 → fe b b.st (fe a a.st w) = fe M M.st w
def plU (n : Int) (w : List Int) : List Int := w.filter fun x => decide (x < n)
def plV (n : Int) (w : List Int) : List Int := (w.filter fun x => !decide (x < n)).map fun x => x - n
def plA (n : Int) (e : List (Int × Int)) : List Int := (e.filter fun x => decide (x.1 < n)).map (·.2)
def plB (n k : Int) (e : List (Int × Int)) : List Int := (e.filter fun x => !decide (x.1 < n)).map fun x => x.2 - 1 - k
structure PLL (a b M : Mly) (w : List Int) : Prop where
  v : aR M = 0
  inp : M.inp = a.inp + b.inp
  em : iR M M.st w = gv w (a.inp + b.inp)
  lm : gv w (a.inp + b.inp) = 0 → (fe M M.st w).length = w.length
  ea : gv w (a.inp + b.inp) = 0 → iR a a.st (plU a.inp w) = 0
  eb : gv w (a.inp + b.inp) = 0 → iR b b.st (plV a.inp w) = 0
  va : gv w (a.inp + b.inp) = 0 → fe a a.st (plU a.inp w) = plA a.inp (w.zip (fe M M.st w))
  vb : gv w (a.inp + b.inp) = 0 → fe b b.st (plV a.inp w) = plB a.inp (gr a) (w.zip (fe M M.st w))
/-plain-/
def iW (m : Mly) : Bool := (decide (12 < m.nx.length) || decide (12 < m.ot.length) || decide (6 < m.inp)) || (m.nx.any (fun r => decide (12 < r.length)) || m.ot.any (fun r => decide (12 < r.length)))
theorem Ay {m : Mly} (h : (12 < m.nx.length ∨ 12 < m.ot.length) ∨ 6 < m.inp) : iW m = true := by
  unfold iW
  rw [Bool.or_eq_true]; left
  simp only [Bool.or_eq_true, decide_eq_true_eq]; exact h
theorem AB {m : Mly} {k : Nat} (hk : k < m.nx.length) (h : 12 < (m.nx.getD k []).length) : iW m = true := by
  unfold iW
  rw [Bool.or_eq_true]; right; rw [Bool.or_eq_true]; left
  refine List.any_eq_true.2 ⟨_, List.getElem_mem hk, ?_⟩
  rw [List.getD, List.getElem?_eq_getElem hk] at h
  exact decide_eq_true h
theorem B0 {m : Mly} {k : Nat} (hk : k < m.ot.length) (h : 12 < (m.ot.getD k []).length) : iW m = true := by
  unfold iW
  rw [Bool.or_eq_true]; right; rw [Bool.or_eq_true]; right
  refine List.any_eq_true.2 ⟨_, List.getElem_mem hk, ?_⟩
  rw [List.getD, List.getElem?_eq_getElem hk] at h
  exact decide_eq_true h
theorem oD {m : Mly} (h0 : ¬ ((12 < m.nx.length ∨ 12 < m.ot.length) ∨ 6 < m.inp)) (h1 : ∀ q, q < m.nx.length → (m.nx.getD q []).length ≤ 12) (h2 : ∀ q, q < m.ot.length → (m.ot.getD q []).length ≤ 12) : iW m = false := by
  have any_no : ∀ (L : List (List Int)), (∀ q, q < L.length → (L.getD q []).length ≤ 12) → L.any (fun r => decide (12 < r.length)) = false := fun L h => by
    rw [List.any_eq_false]
    intro x hx
    obtain ⟨i, hi, rfl⟩ := List.getElem_of_mem hx
    have := h i hi
    rw [List.getD, List.getElem?_eq_getElem hi] at this
    simp only [Option.getD_some] at this
    rw [decide_eq_true_eq]; omega
  unfold iW
  rw [any_no _ h1, any_no _ h2, decide_eq_false (by omega), decide_eq_false (by omega), decide_eq_false (by omega)]; rfl
def Bh (m : Mly) : Bool := (!iW m && decide (m.nx.length ≤ 8)) && decide (m.inp ≤ 4)
end Go.AV
namespace Go.Proofs.Ytoahhklogohehaa
open Go Go.AV
open Nat renaming reduceEqDiff → aa, reduceAdd → V, reduceLeDiff → ad, reduceLT → ag, reduceMul → af, reduceSub → ae
open List renaming set_cons_zero → cT, set_cons_succ → cC, getD_cons_zero → ar, length_append → aq, map_cons → aJ, cons_append → aH, map_nil → bg, length_cons → au, nil_append → aZ, take_succ_cons → dQ, length_nil → aC, length_map → aD, length_replicate → bp, take_length → aE, mem_cons_self → aO, mem_cons_of_mem → aL
open Int renaming toNat_natCast → ah
theorem zT : type_of% (And.intro Try.ea159 (And.intro Try.el107 (And.intro Try.el118 (And.intro Try.el129 (And.intro Try.el22 (And.intro Try.el27 (And.intro Try.el41 (And.intro Try.el50 (And.intro Try.el91 (And.intro Try.fl58 (And.intro Try.mk115 (And.intro Try.mk157 (And.intro Try.sa159 (And.intro Try.st117 (And.intro Try.st24 (And.intro Try.st29 (And.intro Try.st52 (And.intro Try.st58 (And.intro Try.st62 (And.intro Try.st66 (And.intro Try.td1 (And.intro Try.td107 (And.intro Try.td117 (And.intro Try.td118 (And.intro Try.td129 (And.intro Try.td132 (And.intro Try.td159 (And.intro Try.td2 (And.intro Try.td22 (And.intro Try.td24 (And.intro Try.td27 (And.intro Try.td29 (And.intro Try.td3 (And.intro Try.td30 (And.intro Try.td4 (And.intro Try.td41 (And.intro Try.td5 (And.intro Try.td50 (And.intro Try.td52 (And.intro Try.td58 (And.intro Try.td60 (And.intro Try.td62 (And.intro Try.td66 (And.intro Try.td77 (And.intro Try.td9 Try.td91))))))))))))))))))))))))))))))))))))))))))))) :=
  And.intro Try.ea159 (And.intro Try.el107 (And.intro Try.el118 (And.intro Try.el129 (And.intro Try.el22 (And.intro Try.el27 (And.intro Try.el41 (And.intro Try.el50 (And.intro Try.el91 (And.intro Try.fl58 (And.intro Try.mk115 (And.intro Try.mk157 (And.intro Try.sa159 (And.intro Try.st117 (And.intro Try.st24 (And.intro Try.st29 (And.intro Try.st52 (And.intro Try.st58 (And.intro Try.st62 (And.intro Try.st66 (And.intro Try.td1 (And.intro Try.td107 (And.intro Try.td117 (And.intro Try.td118 (And.intro Try.td129 (And.intro Try.td132 (And.intro Try.td159 (And.intro Try.td2 (And.intro Try.td22 (And.intro Try.td24 (And.intro Try.td27 (And.intro Try.td29 (And.intro Try.td3 (And.intro Try.td30 (And.intro Try.td4 (And.intro Try.td41 (And.intro Try.td5 (And.intro Try.td50 (And.intro Try.td52 (And.intro Try.td58 (And.intro Try.td60 (And.intro Try.td62 (And.intro Try.td66 (And.intro Try.td77 (And.intro Try.td9 Try.td91))))))))))))))))))))))))))))))))))))))))))))
def Mof (d : Int × (Int × (List (List Int) × (List (List Int) × Unit)))) : Mly := ⟨d.1, d.2.1, d.2.2.1, d.2.2.2.1⟩
theorem zm (m : Mly) (cl : List Int) (hm : MOK m) (hl : cl.length = m.nx.length) (hr : ∀ s, s < m.nx.length → 0 ≤ cl.getD s 0 ∧ cl.getD s 0 < m.nx.length) : c7 Try.prog 108 [m.av, .one (.list (.int .i64) cl)] (.tup [.one (.list (.int .i64) (m.nextL cl)), .one (.int .i64 (m.nextN cl))]) := by
 have hn2 := hm.n2; have hi2 := hm.i2; have hi1 := hm.i1; have hol := hm.ol
 refine aS Try.func108 rfl (by kernel_rfl) (Nat.le_of_ble_eq_true rfl) rfl fun C hP hN hB => ?_
 replace hN : C.N = 73 := hN
 simp only [bc, V]
 refine ai fun _ k1 => ?_
 refine ak hP hN rfl ?_
 iterate 3 (refine aj rfl fun _ k0 => ?_; simp only [zO, zT, acs, reduceCtorEq, aa, V, ad, ag, af, ae, Mly.av, bC, bJ, br, bI, bD, List.length_set]; (repeat refine an ?_); (try refine .inl ?_); apply k0; clear k0; simp only [zP, V])
 refine am ?_
 apply k1; clear k1; refine kp [0, 1, 2, 4, 5] ?_
 refine ai fun _ k2 => ?_
 refine ak hP hN rfl ?_
 (refine aj rfl fun _ k0 => ?_; simp only [zE, op1, ev, lkp, d6, bP, jB, reduceCtorEq, aa, V, ad, ag, af, ae, Try.mk157, Mly.av, bC, bJ, br, bI, bD, List.length_set]; (repeat refine an ?_); (try refine .inl ?_); apply k0; clear k0; simp only [zP, V])
 (refine aj rfl fun _ k0 => ?_; simp only [zO, zT, acs, reduceCtorEq, aa, V, ad, ag, af, ae, Mly.av, bC, bJ, br, bI, bD, List.length_set]; (repeat refine an ?_); (try refine .inl ?_); apply k0; clear k0; simp only [zP, V])
 refine am ?_
 apply k2; clear k2; refine kp [0, 1, 2, 4, 5, 6] ?_
 refine ai fun _ k3 => ?_
 refine ak hP hN rfl ?_
 iterate 2 (refine aj rfl fun _ k0 => ?_; simp only [zO, zT, acs, reduceCtorEq, aa, V, ad, ag, af, ae, Mly.av, bC, bJ, br, bI, bD, List.length_set]; (repeat refine an ?_); (try refine .inl ?_); apply k0; clear k0; simp only [zP, V])
 (refine aj rfl fun _ k0 => ?_; simp only [zE, op1, ev, lkp, d6, bP, cj, eT, eg, cM, db, eC, Nat.div_one, cL, df, Ty.size, bq, dite_true, d9, Ty.dflt, reduceCtorEq, aa, V, ad, ag, af, ae, Try.el41, Try.td3, Try.td41, Mly.av, bC, bJ, br, bI, bD, List.length_set]; (repeat refine an ?_); (try refine .inl ?_); apply k0; clear k0; simp only [zP, V])
 (refine aj rfl fun _ k0 => ?_; simp only [zO, zT, acs, reduceCtorEq, aa, V, ad, ag, af, ae, Mly.av, bC, bJ, br, bI, bD, List.length_set]; (repeat refine an ?_); (try refine .inl ?_); apply k0; clear k0; simp only [zP, V])
 refine am ?_
 apply k3; clear k3; refine kp [0, 1, 2, 4, 5, 6, 7] ?_
 refine ai fun _ k4 => ?_
 refine ai fun _ k5 => ?_
 refine ak hP hN rfl ?_
 iterate 3 (refine aj rfl fun _ k0 => ?_; simp only [zO, zT, acs, reduceCtorEq, aa, V, ad, ag, af, ae, Mly.av, bC, bJ, br, bI, bD, List.length_set]; (repeat refine an ?_); (try refine .inl ?_); apply k0; clear k0; simp only [zP, V])
 refine am ?_
 apply k5; clear k5; refine kp [0, 1, 2, 4, 5, 6, 7, 18, 19] ?_
 refine az ?_
 refine ba (fun n6 s6 => ∃ (k : Nat), (k ≤ m.nx.length) ∧ n6 = m.nx.length - k ∧ s6 = { env := [(1, .one (.list (.int .i64) cl)), (2, .one (.ptr 0 0 0 0)), (6, .one (.mpv 1)), (7, .one (.row 2 0)), (18, .one (.int .i64 (cl.length : Int))), (19, .one (.int .i64 (k : Int)))], L := [.vars 24 [.int .i64 m.inp, .int .i64 m.st, .list (.list (.int .i64)) m.nx, .list (.list (.int .i64)) m.ot], .mp 157 .int (nM (dh (m.sig cl) k)), .row (.int .i64) 3 0 (kj (fun s => (pos (dh (m.sig cl) m.nx.length) (m.sig cl s) : Int)) 0 m.nx.length k)] }) ?_ ?_
 ·refine ⟨_, _, ax [1, 2, 6, 7, 18, 19], 0, Nat.zero_le _, rfl, ?_⟩
  rw [vU, hl]; rfl
 rintro n6 s6 ⟨k, hk, rfl, rfl⟩
 refine ai fun _ k7 => ?_
 refine ak hP hN rfl ?_
 (refine aj rfl fun _ k0 => ?_; simp only [zO, zT, acs, reduceCtorEq, aa, V, ad, ag, af, ae, Mly.av, bC, bJ, br, bI, bD, List.length_set]; (repeat refine an ?_); (try refine .inl ?_); apply k0; clear k0; simp only [zP, V])
 refine am ?_
 apply k7; clear k7; refine kp [1, 2, 6, 7, 18, 19, 20] ?_
 refine ai fun _ k8 => ?_
 refine cd (fun hc9 => ?_) (fun hc9 => ?_)
 ·(try simp only [zB, reduceCtorEq] at hc9)
  refine ay ?_
  apply k8; clear k8; refine kp [1, 2, 6, 7, 18, 19, 20] ?_
  refine ai fun _ k10 => ?_
  refine az ?_
  refine ai fun _ k11 => ?_
  refine ak hP hN rfl ?_
  iterate 2 (refine aj rfl fun _ k0 => ?_; simp only [zO, zT, acs, reduceCtorEq, aa, V, ad, ag, af, ae, Mly.av, bC, bJ, br, bI, bD, List.length_set]; (repeat refine an ?_); (try refine .inl ?_); apply k0; clear k0; simp only [zP, V])
  refine am ?_
  apply k11; clear k11; refine kp [1, 2, 6, 7, 8, 18, 19, 20] ?_
  refine ai fun _ k12 => ?_
  refine ak hP hN rfl ?_
  (refine aj rfl fun _ k0 => ?_; simp only [zO, zT, acs, reduceCtorEq, aa, V, ad, ag, af, ae, Mly.av, bC, bJ, br, bI, bD, List.length_set]; (repeat refine an ?_); (try refine .inl ?_); apply k0; clear k0; simp only [zP, V])
  refine am ?_
  apply k12; clear k12; refine kp [1, 2, 6, 7, 8, 9, 18, 19, 20] ?_
  refine ai fun _ k13 => ?_
  refine ai fun _ k14 => ?_
  refine ak hP hN rfl ?_
  iterate 3 (refine aj rfl fun _ k0 => ?_; simp only [zO, zT, acs, reduceCtorEq, aa, V, ad, ag, af, ae, Mly.av, bC, bJ, br, bI, bD, List.length_set]; (repeat refine an ?_); (try refine .inl ?_); apply k0; clear k0; simp only [zP, V])
  refine am ?_
  apply k14; clear k14; refine kp [1, 2, 6, 7, 8, 9, 18, 19, 20, 23, 24] ?_
  refine az ?_
  refine ba (fun n15 s15 => ∃ (a : Nat), ((a : Int) ≤ m.inp) ∧ n15 = m.inp.toNat - a ∧ s15 = { env := [(1, .one (.list (.int .i64) cl)), (2, .one (.ptr 0 0 0 0)), (6, .one (.mpv 1)), (7, .one (.row 2 0)), (8, .one (.int .i64 (k : Int))), (9, .one (.ptr 3 0 0 0)), (18, .one (.int .i64 (cl.length : Int))), (19, .one (.int .i64 (k : Int))), (23, .one (.int .i64 m.inp)), (24, .one (.int .i64 (a : Int)))], L := [.vars 24 [.int .i64 m.inp, .int .i64 m.st, .list (.list (.int .i64)) m.nx, .list (.list (.int .i64)) m.ot], .mp 157 .int (nM (dh (m.sig cl) k)), .row (.int .i64) 3 0 (kj (fun s => (pos (dh (m.sig cl) m.nx.length) (m.sig cl s) : Int)) 0 m.nx.length k), .vars 159 (fa (m.sigP cl a k))] }) ?_ ?_
  ·refine ⟨_, _, ax [1, 2, 6, 7, 8, 9, 18, 19, 23, 24], 0, by omega, rfl, ?_⟩
   rw [← wi, ← uP]; rfl
  rintro n15 s15 ⟨a, ha, rfl, rfl⟩
  refine ai fun _ k16 => ?_
  refine ak hP hN rfl ?_
  (refine aj rfl fun _ k0 => ?_; simp only [zO, zT, acs, reduceCtorEq, aa, V, ad, ag, af, ae, Mly.av, bC, bJ, br, bI, bD, List.length_set]; (repeat refine an ?_); (try refine .inl ?_); apply k0; clear k0; simp only [zP, V])
  refine am ?_
  apply k16; clear k16; refine kp [1, 2, 6, 7, 8, 9, 18, 19, 23, 24, 25] ?_
  refine ai fun _ k17 => ?_
  refine cd (fun hc18 => ?_) (fun hc18 => ?_)
  ·(try simp only [zB, reduceCtorEq] at hc18)
   refine ay ?_
   apply k17; clear k17; refine kp [1, 2, 6, 7, 8, 9, 18, 19, 23, 24, 25] ?_
   refine ai fun _ k19 => ?_
   refine az ?_
   refine ai fun _ k20 => ?_
   refine ak hP hN rfl ?_
   iterate 2 (refine aj rfl fun _ k0 => ?_; simp only [zO, zT, acs, reduceCtorEq, aa, V, ad, ag, af, ae, Mly.av, bC, bJ, br, bI, bD, List.length_set]; (repeat refine an ?_); (try refine .inl ?_); apply k0; clear k0; simp only [zP, V])
   refine am ?_
   apply k20; clear k20; refine kp [1, 2, 6, 7, 8, 9, 10, 18, 19, 23, 24, 25] ?_
   refine ai fun _ k21 => ?_
   have hrl := hm.rl k (by omega); have hql := hm.ql k (by omega); have hnr := hm.nr k a (by omega) (by omega); have hw1 : ∀ v, bY (fa (m.sigP cl a k)) a [AC.int .i64 v] = fa ((m.sigP cl a k).set a v) := fun v => l5 (by rw [bJ]; omega) v; have h64 : ((64 : Int) + (a : Int)).toNat = 64 + a := by omega
   refine ak hP hN rfl ?_
   iterate 11 (refine aj rfl fun _ k0 => ?_; simp only [zE, op1, ev, lkp, d6, bP, bG, d8, Nat.mul_one, bQ, cI, acs, Ty.dflt, zG, bV, ci, Ty.size, ne_eq, not_false_eq_true, Int.natCast_one, Int.mul_one, dM, cf, bq, reduceCtorEq, aa, V, ad, ag, af, ae, Try.ea159, Try.el22, Try.el41, Try.sa159, Try.st24, Try.td159, Try.td22, Try.td24, Try.td3, Try.td41, Mly.av, bC, bJ, br, bI, bD, List.length_set, hw1]; (repeat refine an ?_); (try refine .inl ?_); apply k0; clear k0; simp only [zP, V])
   refine am ?_
   apply k21; clear k21; refine kp [1, 2, 6, 7, 8, 9, 10, 18, 19, 23, 24, 25] ?_
   refine ak hP hN rfl ?_
   iterate 15 (refine aj rfl fun _ k0 => ?_; simp only [zE, op1, ev, lkp, d6, bP, jp, da, fQ, iw, fo, gV, bG, d8, Nat.mul_one, bQ, cI, acs, Ty.dflt, zG, bV, ci, Ty.size, ne_eq, not_false_eq_true, Int.natCast_one, Int.mul_one, dM, cf, bq, reduceCtorEq, aa, V, ad, ag, af, ae, Try.ea159, Try.el22, Try.el41, Try.sa159, Try.st24, Try.td159, Try.td2, Try.td22, Try.td24, Try.td3, Try.td41, Mly.av, bC, bJ, br, bI, bD, List.length_set, hw1, h64]; (repeat refine an ?_); (try refine .inl ?_); apply k0; clear k0; simp only [zP, V])
   refine am ?_
   apply k19; clear k19; refine kp [1, 2, 6, 7, 8, 9, 10, 18, 19, 23, 24, 25] ?_
   refine ak hP hN rfl ?_
   iterate 2 (refine aj rfl fun _ k0 => ?_; simp only [zO, zT, acs, reduceCtorEq, aa, V, ad, ag, af, ae, Mly.av, bC, bJ, br, bI, bD, List.length_set]; (repeat refine an ?_); (try refine .inl ?_); apply k0; clear k0; simp only [zP, V])
   refine am ?_
   refine ⟨_, _, ?_, ax [1, 2, 6, 7, 8, 9, 18, 19, 23, 24], a + 1, by omega, rfl, ?_⟩
   · omega
   · rw [l5 (by simp [bJ]; omega), yt m cl k (by omega)]; rfl
  (try simp only [zB, reduceCtorEq] at hc18)
  refine aV ?_
  apply k13; clear k13; refine kp [1, 2, 6, 7, 8, 9, 18, 19, 23, 24, 25] ?_
  refine ai fun _ k22 => ?_
  have hkey := xR hm hr (a := a) (s := k) (by omega) (by omega); have hsg : m.sigP cl a k = m.sig cl k := by unfold Mly.sig; rw [show m.inp.toNat = a by omega]
  rw [hsg] at hkey ⊢; have hdl := m7 (m.sig cl) k; have hst : (m.sig cl k).take 128 = m.sig cl k := by rw [← hsg]; exact bI _ _ _ _
  have hsl : (m.sig cl k).length = 128 := by rw [← hsg]; exact bJ _ _ _ _
  have hsf := xy (fun s => (pos (dh (m.sig cl) m.nx.length) (m.sig cl s) : Int)) 0 (n := m.nx.length) (k := k) (by omega)
  refine ak hP hN rfl ?_
  iterate 2 (refine aj rfl fun _ k0 => ?_; simp only [zO, zT, acs, reduceCtorEq, aa, V, ad, ag, af, ae, Mly.av, bC, bJ, br, bI, bD, List.length_set, hst, hsl]; (repeat refine an ?_); (try refine .inl ?_); apply k0; clear k0; simp only [zP, V])
  (refine aj rfl fun _ k0 => ?_; simp only [zE, op1, ev, lkp, d6, bP, d8, Nat.mul_one, bQ, cI, acs, Ty.dflt, zG, bV, kU, bK, VK.ac, iu, reduceCtorEq, aa, V, ad, ag, af, ae, Try.ea159, Try.mk157, Try.sa159, Try.td1, Try.td159, Try.td3, Try.td4, Mly.av, bC, bJ, br, bI, bD, List.length_set, hst, hsl]; (repeat refine an ?_); (try refine .inl ?_); apply k0; clear k0; simp only [zP, V])
  iterate 5 (refine aj rfl fun _ k0 => ?_; simp only [zO, zT, acs, reduceCtorEq, aa, V, ad, ag, af, ae, Mly.av, bC, bJ, br, bI, bD, List.length_set, hst, hsl]; (repeat refine an ?_); (try refine .inl ?_); apply k0; clear k0; simp only [zP, V])
  refine am ?_
  apply k22; clear k22; refine kp [1, 2, 6, 7, 8, 9, 11, 12, 18, 19, 23, 24, 25] ?_
  refine ai fun _ k23 => ?_
  refine ai fun _ k24 => ?_
  refine ak hP hN rfl ?_
  iterate 2 (refine aj rfl fun _ k0 => ?_; simp only [zO, zT, acs, reduceCtorEq, aa, V, ad, ag, af, ae, Mly.av, bC, bJ, br, bI, bD, List.length_set]; (repeat refine an ?_); (try refine .inl ?_); apply k0; clear k0; simp only [zP, V])
  refine am ?_
  apply k24; clear k24; refine kp [1, 2, 6, 7, 8, 9, 11, 12, 18, 19, 23, 24, 25, 59] ?_
  refine cd (fun hc25 => ?_) (fun hc25 => ?_)
  ·(try simp only [zB, reduceCtorEq] at hc25)
   refine ai fun _ k26 => ?_
   refine ak hP hN rfl ?_
   iterate 3 (refine aj rfl fun _ k0 => ?_; simp only [zO, zT, acs, reduceCtorEq, aa, V, ad, ag, af, ae, Mly.av, bC, bJ, br, bI, bD, List.length_set, rV]; (repeat refine an ?_); (try refine .inl ?_); apply k0; clear k0; simp only [zP, V])
   refine am ?_
   apply k26; clear k26; refine kp [1, 2, 6, 7, 8, 9, 11, 12, 18, 19, 23, 24, 25, 59] ?_
   refine ak hP hN rfl ?_
   iterate 3 (refine aj rfl fun _ k0 => ?_; simp only [zO, zT, acs, reduceCtorEq, aa, V, ad, ag, af, ae, Mly.av, bC, bJ, br, bI, bD, List.length_set, hst, hsl]; (repeat refine an ?_); (try refine .inl ?_); apply k0; clear k0; simp only [zP, V])
   (refine aj rfl fun _ k0 => ?_; simp only [zE, op1, ev, lkp, d6, bP, d8, Nat.mul_one, bQ, cI, acs, Ty.dflt, zG, bV, eO, bK, valOf, reduceCtorEq, aa, V, ad, ag, af, ae, Try.ea159, Try.mk157, Try.sa159, Try.td159, Try.td3, Mly.av, bC, bJ, br, bI, bD, List.length_set, hst, hsl]; (repeat refine an ?_); (try refine .inl ?_); apply k0; clear k0; simp only [zP, V])
   refine am ?_
   apply k23; clear k23; refine kp [1, 2, 6, 7, 8, 9, 11, 12, 18, 19, 23, 24, 25, 59] ?_
   refine ak hP hN rfl ?_
   iterate 5 (refine aj rfl fun _ k0 => ?_; simp only [zO, zT, acs, reduceCtorEq, aa, V, ad, ag, af, ae, Mly.av, bC, bJ, br, bI, bD, List.length_set, hsf]; (repeat refine an ?_); (try refine .inl ?_); apply k0; clear k0; simp only [zP, V])
   refine am ?_
   apply k10; clear k10; refine kp [1, 2, 6, 7, 8, 9, 11, 12, 18, 19, 23, 24, 25, 59] ?_
   refine cE [1, 2, 6, 7, 18, 19] ?_; simp only [bZ, lkp, zE, reduceCtorEq, aa]
   refine kC 3 rfl ?_; refine cF (n := 3) (L1 := [_, _, _]) rfl rfl (by rw [hB]; decide) rfl rfl ?_
   refine ak hP hN rfl ?_
   iterate 2 (refine aj rfl fun _ k0 => ?_; simp only [zO, zT, acs, reduceCtorEq, aa, V, ad, ag, af, ae, Mly.av, bC, bJ, br, bI, bD, List.length_set]; (repeat refine an ?_); (try refine .inl ?_); apply k0; clear k0; simp only [zP, V])
   refine am ?_
   first
   | (have hin : m.sig cl k ∈ dh (m.sig cl) k := by
        false_or_by_contra; rename_i hh; rw [fT, if_neg hh] at *; simp_all
      refine ⟨_, _, ?_, ax [1, 2, 6, 7, 18, 19], k + 1, by omega, rfl, ?_⟩
      · omega
      · rw [dH, gg hin, ← kA _ _ (by omega), ny (by omega) hin, fT, if_pos hin]; rfl)
   | (have hin : m.sig cl k ∉ dh (m.sig cl) k := by
        intro hh; rw [fT, if_pos hh] at *; simp_all
      refine ⟨_, _, ?_, ax [1, 2, 6, 7, 18, 19], k + 1, by omega, rfl, ?_⟩
      · omega
      · rw [dH, fu hin, ← kA _ _ (by omega), kF (by omega) hin, rW hin]; rfl)
  (try simp only [zB, reduceCtorEq] at hc25)
  refine ay ?_
  apply k23; clear k23; refine kp [1, 2, 6, 7, 8, 9, 11, 12, 18, 19, 23, 24, 25, 59] ?_
  refine ak hP hN rfl ?_
  iterate 5 (refine aj rfl fun _ k0 => ?_; simp only [zO, zT, acs, reduceCtorEq, aa, V, ad, ag, af, ae, Mly.av, bC, bJ, br, bI, bD, List.length_set, hsf]; (repeat refine an ?_); (try refine .inl ?_); apply k0; clear k0; simp only [zP, V])
  refine am ?_
  apply k10; clear k10; refine kp [1, 2, 6, 7, 8, 9, 11, 12, 18, 19, 23, 24, 25, 59] ?_
  refine cE [1, 2, 6, 7, 18, 19] ?_; simp only [bZ, lkp, zE, reduceCtorEq, aa]
  refine kC 3 rfl ?_; refine cF (n := 3) (L1 := [_, _, _]) rfl rfl (by rw [hB]; decide) rfl rfl ?_
  refine ak hP hN rfl ?_
  iterate 2 (refine aj rfl fun _ k0 => ?_; simp only [zO, zT, acs, reduceCtorEq, aa, V, ad, ag, af, ae, Mly.av, bC, bJ, br, bI, bD, List.length_set]; (repeat refine an ?_); (try refine .inl ?_); apply k0; clear k0; simp only [zP, V])
  refine am ?_
  first
  | (have hin : m.sig cl k ∈ dh (m.sig cl) k := by
       false_or_by_contra; rename_i hh; rw [fT, if_neg hh] at *; simp_all
     refine ⟨_, _, ?_, ax [1, 2, 6, 7, 18, 19], k + 1, by omega, rfl, ?_⟩
     · omega
     · rw [dH, gg hin, ← kA _ _ (by omega), ny (by omega) hin, fT, if_pos hin]; rfl)
  | (have hin : m.sig cl k ∉ dh (m.sig cl) k := by
       intro hh; rw [fT, if_pos hh] at *; simp_all
     refine ⟨_, _, ?_, ax [1, 2, 6, 7, 18, 19], k + 1, by omega, rfl, ?_⟩
     · omega
     · rw [dH, fu hin, ← kA _ _ (by omega), kF (by omega) hin, rW hin]; rfl)
 (try simp only [zB, reduceCtorEq] at hc9)
 refine aV ?_
 apply k4; clear k4; refine kp [1, 2, 6, 7, 18, 19, 20] ?_
 refine ai fun _ k27 => ?_
 refine ak hP hN rfl ?_
 iterate 5 (refine aj rfl fun _ k0 => ?_; simp only [zO, zT, acs, reduceCtorEq, aa, V, ad, ag, af, ae, Mly.av, bC, bJ, br, bI, bD, List.length_set]; (repeat refine an ?_); (try refine .inl ?_); apply k0; clear k0; simp only [zP, V])
 refine am ?_
 apply k27; clear k27; refine kp [1, 2, 4, 5, 6, 7, 18, 19, 20] ?_
 refine aG ?_
 refine ⟨nr, _, rfl, ?_⟩; simp only [zF, zP, aa, V, Mly.av, bC, bJ, br, bI, bD, List.length_set]
 refine VLE.of_eq ?_
 have hkn : k = m.nx.length := by omega
 subst hkn
 rw [xV, rV]; rfl
theorem w9 (m : Mly) (k : Int) (hm : MOK m) : c7 Try.prog 102 [m.av, .one (.int .i64 k)] (.tup [.one (.list (.int .i64) (m.refC k)), .one (.int .i64 (m.refK k))]) := by
 have hn2 := hm.n2; have hn1 := hm.n1; have hNN : ((jM m k : Nat) : Int) = min (max k 0) (m.nx.length : Int) := by unfold jM; omega
 refine aS Try.func102 rfl (by kernel_rfl) (Nat.le_of_ble_eq_true rfl) rfl fun C hP hN hB => ?_
 replace hN : C.N = 45 := hN
 simp only [bc, V]
 refine ai fun _ k1 => ?_
 refine ak hP hN rfl ?_
 iterate 3 (refine aj rfl fun _ k0 => ?_; simp only [zO, zT, acs, reduceCtorEq, aa, V, ad, ag, af, ae, Mly.av]; (repeat refine an ?_); (try refine .inl ?_); apply k0; clear k0; simp only [zP, V])
 refine am ?_
 apply k1; clear k1; refine kp [0, 1, 2, 4, 5] ?_
 refine ai fun _ k2 => ?_
 refine ak hP hN rfl ?_
 iterate 3 (refine aj rfl fun _ k0 => ?_; simp only [zO, zT, acs, reduceCtorEq, aa, V, ad, ag, af, ae, Mly.av]; (repeat refine an ?_); (try refine .inl ?_); apply k0; clear k0; simp only [zP, V])
 (refine aj rfl fun _ k0 => ?_; simp only [zE, op1, ev, lkp, d6, bP, bG, d8, Nat.mul_one, bQ, cI, acs, Ty.dflt, zG, bV, cj, eT, eg, cM, db, eC, Nat.div_one, cL, df, Ty.size, bq, dite_true, d9, reduceCtorEq, aa, V, ad, ag, af, ae, Try.el22, Try.el41, Try.st24, Try.td2, Try.td22, Try.td24, Try.td3, Try.td41, Mly.av]; (repeat refine an ?_); (try refine .inl ?_); apply k0; clear k0; simp only [zP, V])
 iterate 2 (refine aj rfl fun _ k0 => ?_; simp only [zO, zT, acs, reduceCtorEq, aa, V, ad, ag, af, ae, Mly.av]; (repeat refine an ?_); (try refine .inl ?_); apply k0; clear k0; simp only [zP, V])
 refine am ?_
 apply k2; clear k2; refine kp [0, 1, 2, 4, 5, 6, 7] ?_
 refine ai fun _ k3 => ?_
 refine ai fun _ k4 => ?_
 refine cH 1 rfl ?_; simp only [aJ, bg, zS, aa, and_self, and_true, true_and, and_false, false_and, if_true, if_false, eq_self, reduceCtorEq, Nat.one_ne_zero, Nat.zero_ne_one]
 refine ak hP hN rfl ?_
 iterate 7 (refine aj rfl fun _ k0 => ?_; simp only [zO, zT, acs, reduceCtorEq, aa, V, ad, ag, af, ae, Mly.av]; (repeat refine an ?_); (try refine .inl ?_); apply k0; clear k0; simp only [zP, V])
 refine am ?_
 apply k4; clear k4; refine kp [0, 1, 2, 4, 5, 6, 7, 20, 21] ?_
 refine az ?_
 refine ba (fun n5 s5 => ∃ (j : Nat), (j ≤ jM m k) ∧ (∀ q, q < j → m.cnt (q + 1) ≠ m.cnt q) ∧ n5 = jM m k - j ∧ s5 = { env := [(1, .one (.int .i64 k)), (2, .one (.ptr 0 0 0 0)), (6, .one (.list (.int .i64) (m.cls j))), (7, .one (.int .i64 (m.cnt j))), (20, .one (.int .i64 (min (max k 0) (m.nx.length : Int)))), (21, .one (.int .i64 (j : Int)))], L := [.vars 24 [.int .i64 m.inp, .int .i64 m.st, .list (.list (.int .i64)) m.nx, .list (.list (.int .i64)) m.ot], .dead 0] }) ?_ ?_
 ·refine ⟨_, _, ax [1, 2, 6, 7, 20, 21], 0, Nat.zero_le _, fun q hq => by omega, rfl, rfl⟩
 rintro n5 s5 ⟨j, hj, hq, rfl, rfl⟩
 refine ai fun _ k6 => ?_
 refine ak hP hN rfl ?_
 (refine aj rfl fun _ k0 => ?_; simp only [zO, zT, acs, reduceCtorEq, aa, V, ad, ag, af, ae, Mly.av]; (repeat refine an ?_); (try refine .inl ?_); apply k0; clear k0; simp only [zP, V])
 refine am ?_
 apply k6; clear k6; refine kp [1, 2, 6, 7, 20, 21, 22] ?_
 refine ai fun _ k7 => ?_
 refine cd (fun hc8 => ?_) (fun hc8 => ?_)
 ·(try simp only [zB, reduceCtorEq] at hc8)
  refine ay ?_
  apply k7; clear k7; refine kp [1, 2, 6, 7, 20, 21, 22] ?_
  refine ai fun _ k9 => ?_
  refine az ?_
  refine ai fun _ k10 => ?_
  refine ak hP hN rfl ?_
  iterate 2 (refine aj rfl fun _ k0 => ?_; simp only [zO, zT, acs, reduceCtorEq, aa, V, ad, ag, af, ae, Mly.av]; (repeat refine an ?_); (try refine .inl ?_); apply k0; clear k0; simp only [zP, V])
  refine am ?_
  apply k10; clear k10; refine kp [1, 2, 6, 7, 8, 20, 21, 22] ?_
  refine ai fun _ k11 => ?_
  refine ak hP hN rfl ?_
  iterate 2 (refine aj rfl fun _ k0 => ?_; simp only [zO, zT, acs, reduceCtorEq, aa, V, ad, ag, af, ae, Mly.av]; (repeat refine an ?_); (try refine .inl ?_); apply k0; clear k0; simp only [zP, V])
  refine aj rfl fun _ k0 => ?_
  refine aK (h := aB (zm m (m.cls j) hm (jZ m j) (oU hm j))) rfl rfl (by first | exact rfl | (simp only [ev, zP, aa, V]; exact rfl)) (by simp only [zV, acs, reduceCtorEq, aa, V, ad, ag, af, ae, Mly.av]) ?_
  apply k0; clear k0; simp only [zP, V]
  iterate 5 (refine aj rfl fun _ k0 => ?_; simp only [zO, zT, acs, reduceCtorEq, aa, V, ad, ag, af, ae, Mly.av]; (repeat refine an ?_); (try refine .inl ?_); apply k0; clear k0; simp only [zP, V])
  refine am ?_
  apply k11; clear k11; refine kp [1, 2, 6, 7, 8, 9, 10, 20, 21, 22] ?_
  refine ai fun _ k12 => ?_
  refine ai fun _ k13 => ?_
  refine ak hP hN rfl ?_
  iterate 3 (refine aj rfl fun _ k0 => ?_; simp only [zO, zT, acs, reduceCtorEq, aa, V, ad, ag, af, ae, Mly.av]; (repeat refine an ?_); (try refine .inl ?_); apply k0; clear k0; simp only [zP, V])
  refine am ?_
  apply k13; clear k13; refine kp [1, 2, 6, 7, 8, 9, 10, 20, 21, 22, 32] ?_
  refine cd (fun hc14 => ?_) (fun hc14 => ?_)
  ·(try simp only [zB, reduceCtorEq] at hc14)
   refine ai fun _ k15 => ?_
   refine ak hP hN rfl ?_
   iterate 4 (refine aj rfl fun _ k0 => ?_; simp only [zO, zT, acs, reduceCtorEq, aa, V, ad, ag, af, ae, Mly.av]; (repeat refine an ?_); (try refine .inl ?_); apply k0; clear k0; simp only [zP, V])
   refine am ?_
   apply k15; clear k15; refine kp [1, 2, 4, 5, 6, 7, 8, 9, 10, 20, 21, 22, 32] ?_
   refine aG ?_
   refine ⟨nr, _, rfl, ?_⟩; simp only [zF, zP, aa, V, Mly.av]
   refine VLE.of_eq ?_
   first
   | (have hce : m.cnt (j + 1) = m.cnt j := by assumption
      have e := rq (m := m) (N := jM m k) (j := j) (by omega) hce hq
      unfold Mly.refC Mly.refK; rw [e])
   | (have hjn : j = jM m k := by omega
      subst hjn
      have e := qd hq
      unfold Mly.refC Mly.refK; rw [e, hNN])
  (try simp only [zB, reduceCtorEq] at hc14)
  refine ay ?_
  apply k12; clear k12; refine kp [1, 2, 6, 7, 8, 9, 10, 20, 21, 22, 32] ?_
  refine ak hP hN rfl ?_
  iterate 4 (refine aj rfl fun _ k0 => ?_; simp only [zO, zT, acs, reduceCtorEq, aa, V, ad, ag, af, ae, Mly.av]; (repeat refine an ?_); (try refine .inl ?_); apply k0; clear k0; simp only [zP, V])
  refine am ?_
  apply k9; clear k9; refine kp [1, 2, 6, 7, 8, 9, 10, 20, 21, 22, 32] ?_
  refine ak hP hN rfl ?_
  iterate 2 (refine aj rfl fun _ k0 => ?_; simp only [zO, zT, acs, reduceCtorEq, aa, V, ad, ag, af, ae, Mly.av]; (repeat refine an ?_); (try refine .inl ?_); apply k0; clear k0; simp only [zP, V])
  refine am ?_
  have hne : m.cnt (j + 1) ≠ m.cnt j := by first | assumption | (intro hh; simp_all [Mly.cnt])
  refine ⟨_, _, ?_, ax [1, 2, 6, 7, 20, 21], j + 1, by omega, fun q hq2 => ?_, rfl, rfl⟩
  · omega
  · by_cases e : q = j
    · rw [e]; exact hne
    · exact hq q (by omega)
 (try simp only [zB, reduceCtorEq] at hc8)
 refine aV ?_
 apply k3; clear k3; refine kp [1, 2, 6, 7, 20, 21, 22] ?_
 refine ai fun _ k16 => ?_
 refine bf hP hN Try.mixed rfl ?_
 iterate 9 (refine aj rfl fun _ k0 => ?_; simp only [zO, zT, acs, reduceCtorEq, aa, V, ad, ag, af, ae, Mly.av]; (repeat refine an ?_); (try refine .inl ?_); apply k0; clear k0; simp only [zP, V])
 refine am ?_
 refine ⟨by kernel_rfl, ?_⟩
 apply k16; clear k16; refine kp [1, 2, 4, 5, 6, 7, 20, 21, 22] ?_
 refine aG ?_
 refine ⟨nr, _, rfl, ?_⟩; simp only [zF, zP, aa, V, Mly.av]
 refine VLE.of_eq ?_
 first
 | (have hce : m.cnt (j + 1) = m.cnt j := by assumption
    have e := rq (m := m) (N := jM m k) (j := j) (by omega) hce hq
    unfold Mly.refC Mly.refK; rw [e])
 | (have hjn : j = jM m k := by omega
    subst hjn
    have e := qd hq
    unfold Mly.refC Mly.refK; rw [e, hNN])
end Go.Proofs.Ytoahhklogohehaa
