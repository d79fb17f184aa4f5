/- Contracts of functions of this seat, each out of a walk through its code, and plain facts on what they compute. Conditions: those that each theorem names. -/
import Derived.Test.YtmfkpljjhiglpaaDoorW00
set_option linter.unusedSimpArgs false
set_option linter.unusedVariables false
set_option maxRecDepth 100000
namespace Go.AV
open Nat renaming reduceEqDiff → O, reduceAdd → M, reduceLeDiff → V, reduceLT → aa, reduceMul → Z, reduceSub → Y
open List renaming set_cons_zero → bu, set_cons_succ → aX, getD_cons_zero → cJ, length_append → ah, map_cons → aS, cons_append → ak, map_nil → bo, length_cons → aj, nil_append → ar, take_succ_cons → cj, length_nil → aq, length_map → bY, length_replicate → aI, take_length → aF, mem_cons_self → aQ, mem_cons_of_mem → aC
open Int renaming toNat_natCast → aE
/-plain-/
def bI1 (b : Bool) : Int := if b = true then 1 else 0
def uS (d : Dfa) (s : Nat) : Int := bI1 (d.acc.getD s false)
/-plain-/
/-plain-/
/-plain-/
/-plain-/
def Dfa.sg (d : Dfa) (cl : List Int) (s : Nat) : List Int := cl.getD s 0 :: (d.nx.getD s []).map fun t => cl.getD t.toNat 0
def Dfa.nxL (d : Dfa) (cl : List Int) : List Int := (List.range d.nx.length).map fun s => (pos (rO (d.sg cl) d.nx.length) (d.sg cl s) : Int)
def Dfa.cl (d : Dfa) : Nat → List Int
  | 0 => (List.range d.nx.length).map (uS d)
  | i + 1 => d.nxL (d.cl i)
def Dfa.cn (d : Dfa) : Nat → Nat
  | 0 => 0
  | i + 1 => (rO (d.sg (d.cl i)) d.nx.length).length
def uJ (n : Int) (w : List Int) : Prop := ∀ x, x ∈ w → 0 ≤ x ∧ x < n
def DEQ (a b : Dfa) (s t : Int) : Prop := ∀ w : List Int, uJ a.inp w → a.ac (a.run s w) = b.ac (b.run t w)
theorem DEQ.acc {a b : Dfa} {s t : Int} (h : DEQ a b s t) : a.ac s = b.ac t := h [] (fun x hx => by cases hx)
theorem DEQ.refl (d : Dfa) (s : Int) : DEQ d d s s := fun _ _ => rfl
theorem DEQ.symm {d : Dfa} {s t : Int} (h : DEQ d d s t) : DEQ d d t s := fun w hw => (h w hw).symm
theorem DEQ.trans {d : Dfa} {s t u : Int} (h : DEQ d d s t) (h2 : DEQ d d t u) : DEQ d d s u := fun w hw => (h w hw).trans (h2 w hw)
theorem DEQ.join {a b c : Dfa} {s t u : Int} (hi : a.inp = b.inp) (h : DEQ a b s t) (h2 : DEQ b c t u) : DEQ a c s u := fun w hw => (h w hw).trans (h2 w (hi ▸ hw))
/-plain-/
/-plain-/
/-plain-/
structure SIM (A B : STP) (n : Nat) (R : PP → PP → Prop) : Prop where
  st : ∀ p q, R p q → ∀ x, x < n → R (A p x) (B q x)
  bi : ∀ p q p' q', R p q → R p' q' → (p = p' ↔ q = q')
def RL (R : PP → PP → Prop) (l l' : List W3) : Prop := l.length = l'.length ∧ ∀ i, i < l.length → R (l.getD i w30).1 (l'.getD i w30).1 ∧ (l.getD i w30).2 = (l'.getD i w30).2
theorem RL.mem {A B : STP} {n : Nat} {R : PP → PP → Prop} (hs : SIM A B n R) {l l' : List W3} (h : RL R l l') {p q : PP} (hr : R p q) : p ∈ l.map Prod.fst ↔ q ∈ l'.map Prod.fst := by
  constructor
  · intro hm
    obtain ⟨e, he, e1⟩ := List.mem_map.1 hm
    obtain ⟨i, hi⟩ := List.getElem?_of_mem he
    have hlt := (List.getElem?_eq_some_iff.1 hi).1
    have h2 := h.2 i hlt
    have h3 : l.getD i w30 = e := by rw [List.getD, hi]; rfl
    rw [h3, e1] at h2
    have := (hs.bi _ _ _ _ h2.1 hr).1 rfl
    rw [← this]
    exact List.mem_map.2 ⟨_, nc (by rw [← h.1]; exact hlt), rfl⟩
  · intro hm
    obtain ⟨e, he, e1⟩ := List.mem_map.1 hm
    obtain ⟨i, hi⟩ := List.getElem?_of_mem he
    have hlt := (List.getElem?_eq_some_iff.1 hi).1
    have h2 := h.2 i (by rw [h.1]; exact hlt)
    have h3 : l'.getD i w30 = e := by rw [List.getD, hi]; rfl
    rw [h3, e1] at h2
    have := (hs.bi _ _ _ _ h2.1 hr).2 rfl
    rw [← this]
    exact List.mem_map.2 ⟨_, nc (by rw [h.1]; exact hlt), rfl⟩
theorem RL.snoc {R : PP → PP → Prop} {l l' : List W3} (h : RL R l l') {e f : W3} (hr : R e.1 f.1) (hw : e.2 = f.2) : RL R (l ++ [e]) (l' ++ [f]) := by
  refine ⟨by simp [h.1], fun i hi => ?_⟩
  rw [ah, List.length_singleton] at hi
  by_cases e1 : i < l.length
  · rw [bT e1, bT (by rw [← h.1]; exact e1)]; exact h.2 i e1
  · rw [cO (by omega), cO (by have := h.1; omega)]; exact ⟨hr, hw⟩
theorem RL.row {A B : STP} {n : Nat} {R : PP → PP → Prop} (hs : SIM A B n R) {l l' : List W3} (h : RL R l l') {e f : W3} (hr : R e.1 f.1) (hw : e.2 = f.2) : ∀ x, x ≤ n → RL R (fN A e l x) (fN B f l' x)
  | 0, _ => h
  | x + 1, hx => by
    have ih := h.row hs hr hw x (by omega)
    have h2 := hs.st _ _ hr x (by omega)
    rw [fz, fz]
    by_cases hm : A e.1 x ∈ (fN A e l x).map Prod.fst
    · rw [mZ hm, mZ ((ih.mem hs h2).1 hm)]; exact ih
    · rw [lR hm, lR (fun k => hm ((ih.mem hs h2).2 k))]
      exact ih.snoc h2 (by rw [hw])
theorem RL.one {R : PP → PP → Prop} {p q : PP} (h : R p q) : RL R [(p, [])] [(q, [])] := ⟨rfl, fun i hi => by
  have : i = 0 := by simpa using hi
  subst this; exact ⟨h, rfl⟩⟩
/-plain-/
/-plain-/
def SLT (u v : List Int) : Prop := u.length < v.length ∨ (u.length = v.length ∧ ∃ m, m < u.length ∧ (∀ q, q < m → u.getD q 0 = v.getD q 0) ∧ u.getD m 0 < v.getD m 0)
def SLE (u v : List Int) : Prop := u = v ∨ SLT u v
theorem SLT.trans {u v w : List Int} (h : SLT u v) (h2 : SLT v w) : SLT u w := by
  rcases h with h | ⟨h, m, a1, a2, a3⟩
  · rcases h2 with h2 | ⟨h2, _⟩
    · exact .inl (by omega)
    · exact .inl (by omega)
  · rcases h2 with h2 | ⟨h2, k, b1, b2, b3⟩
    · exact .inl (by omega)
    · refine .inr ⟨by omega, ?_⟩
      rcases Nat.lt_trichotomy m k with e | e | e
      · exact ⟨m, a1, fun q hq => (a2 q hq).trans (b2 q (by omega)), by rw [← b2 m e]; exact a3⟩
      · subst e; exact ⟨m, a1, fun q hq => (a2 q hq).trans (b2 q hq), by omega⟩
      · exact ⟨k, by omega, fun q hq => (a2 q (by omega)).trans (b2 q hq), by rw [a2 k e]; exact b3⟩
theorem SLE.trans_lt {u v w : List Int} (h : SLE u v) (h2 : SLT v w) : SLT u w := by
  rcases h with rfl | h
  · exact h2
  · exact h.trans h2
theorem SLE.trans {u v w : List Int} (h : SLE u v) (h2 : SLE v w) : SLE u w := by
  rcases h2 with rfl | h2
  · exact h
  · exact .inr (h.trans_lt h2)
theorem SLT.app {u v : List Int} (h : SLT u v) (a b : Int) : SLT (u ++ [a]) (v ++ [b]) := by
  rcases h with h | ⟨h, m, a1, a2, a3⟩
  · exact .inl (by simp; omega)
  · refine .inr ⟨by simp; omega, m, by simp; omega, fun q hq => ?_, ?_⟩
    · rw [bT (by omega), bT (by omega)]; exact a2 q hq
    · rw [bT a1, bT (by omega)]; exact a3
theorem SLT.last (u : List Int) {a b : Int} (h : a < b) : SLT (u ++ [a]) (u ++ [b]) := by
  refine .inr ⟨by simp, u.length, by simp, fun q hq => ?_, ?_⟩
  · rw [bT hq, bT hq]
  · rw [cO rfl, cO rfl]; exact h
theorem SLE.app {u v : List Int} (h : SLE u v) (a : Int) : SLE (u ++ [a]) (v ++ [a]) := by
  rcases h with rfl | h
  · exact .inl rfl
  · exact .inr (h.app a a)
theorem SLT.nil (u : List Int) (x : Int) : SLT [] (u ++ [x]) := .inl (by simp)
structure BW (A : STP) (n i : Nat) (l : List W3) : Prop where
  so : ∀ j k, j < k → k < l.length → SLT (l.getD j w30).2 (l.getD k w30).2
  mi : ∀ j, j < i → j < l.length → ∀ x, x < n → ∃ k, k < l.length ∧ (l.getD k w30).1 = A (l.getD j w30).1 x ∧ SLE (l.getD k w30).2 ((l.getD j w30).2 ++ [(x : Int)])
  up : i < l.length → ∀ k, k < l.length → SLT (l.getD k w30).2 ((l.getD i w30).2 ++ [0])
structure BX (A : STP) (n i x : Nat) (l0 l : List W3) : Prop where
  so : ∀ j k, j < k → k < l.length → SLT (l.getD j w30).2 (l.getD k w30).2
  mi : ∀ y, y < x → ∃ k, k < l.length ∧ (l.getD k w30).1 = A (l0.getD i w30).1 y ∧ SLE (l.getD k w30).2 ((l0.getD i w30).2 ++ [(y : Int)])
  up : ∀ k, k < l.length → SLT (l.getD k w30).2 ((l0.getD i w30).2 ++ [(x : Int)])
/-plain-/
structure LCL (A : STP) (n : Nat) (L : List W3) : Prop where
  nd : (L.map Prod.fst).Nodup
  cl : ∀ j, j < L.length → ∀ x, x < n → A (L.getD j w30).1 x ∈ L.map Prod.fst
variable {A : STP} {G : PP → Bool} {n : Nat} {L : List W3}
/-plain-/
def Dfa.sto (d : Dfa) : Nat → Nat → Nat
  | 0, i => i
  | f + 1, i => if d.cn (i + 1) = d.cn i then i else d.sto f (i + 1)
def Dfa.cls (d : Dfa) : List Int := d.cl (d.sto (d.nx.length + 1) 0 + 1)
def fsV (cl : List Int) (n s c : Nat) : Int := match (List.range n).find? (fun q => decide (s ≤ q) && decide (cl.getD q 0 = (c : Int))) with | some q => (q : Int) | none => 0
def fsL (cl : List Int) (n s : Nat) : List Int := (List.range n).map fun c => fsV cl n s c
def Dfa.rep (d : Dfa) (s : Int) : Int := (fsL d.cls d.nx.length 0).getD (d.cls.getD s.toNat 0).toNat 0
structure RPR (d : Dfa) (s r : Int) : Prop where
  rg : 0 ≤ r ∧ r < d.nx.length
  le : r ≤ s
  cl : d.cls.getD r.toNat 0 = d.cls.getD s.toNat 0
  mi : ∀ q : Nat, (q : Int) < r → d.cls.getD q 0 ≠ d.cls.getD s.toNat 0
/-plain-/
structure M1OK (d : Dfa) (q : PP) (x : Nat) : Prop where
  r1 : 0 ≤ q.1 ∧ q.1 < d.nx.length
  rl : ((d.nx.getD q.1.toNat []).length : Int) = d.inp
  t1 : 0 ≤ (d.nx.getD q.1.toNat []).getD x 0 ∧ (d.nx.getD q.1.toNat []).getD x 0 < d.nx.length
  c1 : 0 ≤ d.cls.getD ((d.nx.getD q.1.toNat []).getD x 0).toNat 0 ∧ d.cls.getD ((d.nx.getD q.1.toNat []).getD x 0).toNat 0 < d.nx.length
  e : d.rep (d.dl q.1 x) = (fsL d.cls d.nx.length 0).getD (d.cls.getD ((d.nx.getD q.1.toNat []).getD x 0).toNat 0).toNat 0
/-plain-/
structure SHP (d : Dfa) (P : List W3) (k : Nat) : Prop where
  rg : 0 ≤ (P.getD k w30).1.1 ∧ (P.getD k w30).1.1 < d.nx.length
/-plain-/
def pl (m : Mly) : Bool := m.ot.flatten.any fun o => decide (1 < o)
theorem l8 : ∀ (xs : List Int) (b : Int), 1 < xs.foldl max b ↔ 1 < b ∨ ∃ o, o ∈ xs ∧ 1 < o
  | [], b => by simp
  | x :: xs, b => by
    rw [List.foldl_cons, l8 xs]
    constructor
    · rintro (h | ⟨o, ho, h⟩)
      · by_cases h2 : 1 < b
        · exact .inl h2
        · exact .inr ⟨x, aQ, by omega⟩
      · exact .inr ⟨o, aC _ ho, h⟩
    · rintro (h | ⟨o, ho, h⟩)
      · exact .inl (by omega)
      · rcases List.mem_cons.1 ho with rfl | ho
        · exact .inl (by omega)
        · exact .inr ⟨o, ho, h⟩
theorem sx {xs : List Int} (h : 0 < xs.length) : 1 < mxL xs ↔ ∃ o, o ∈ xs ∧ 1 < o := by
  unfold mxL
  rw [l8]
  constructor
  · rintro (h2 | h2)
    · exact ⟨_, gv.2 ⟨0, h, rfl⟩, h2⟩
    · exact h2
  · exact .inr
theorem pq {m : Mly} : pl m = true ↔ ∃ o, o ∈ m.ot.flatten ∧ 1 < o := by unfold pl; rw [List.any_eq_true]; exact ⟨fun ⟨o, h1, h2⟩ => ⟨o, h1, by simpa using h2⟩, fun ⟨o, h1, h2⟩ => ⟨o, h1, by simpa using h2⟩⟩
theorem qV {m : Mly} (hm : MOK m) : 0 < m.ot.flatten.length := by
  have h := kn hm m.ot.length (Nat.le_refl _)
  rw [aF] at h
  have h1 := hm.i1; have h2 := hm.n1; have h3 := hm.ol
  have : 0 < (m.ot.length : Int) * m.inp := Int.mul_pos (by omega) (by omega)
  omega
theorem qO {xs : List Int} (h : 0 < xs.length) : 0 < (jK xs).length := by
  have : xs.getD 0 0 ∈ jK xs := ((dJ xs).2 _).2 (gv.2 ⟨0, h, rfl⟩)
  obtain ⟨j, hj, _⟩ := gv.1 this
  omega
theorem u9 {m : Mly} (hv : bn m = 0) : 0 < (cV m).length ∧ (1 < mxL (cV m) ↔ pl m = true) := by
  have hm := kc hv
  rw [ga hv]
  have h := qO (qV hm)
  refine ⟨h, ?_⟩
  rw [sx h, pq]
  exact ⟨fun ⟨o, h1, h2⟩ => ⟨o, ((dJ _).2 o).1 h1, h2⟩, fun ⟨o, h1, h2⟩ => ⟨o, ((dJ _).2 o).2 h1, h2⟩⟩
/-plain-/
structure Mdl where
  nm : Bs
  ins : List Bs
  outs : List Bs
  m : Mly
def Mdl.cs (x : Mdl) : List AC := [.str x.nm, .list .str x.ins, .list .str x.outs, .int .i64 x.m.inp, .int .i64 x.m.st, .list (.list (.int .i64)) x.m.nx, .list (.list (.int .i64)) x.m.ot]
def Mdl.av (x : Mdl) : AV := .agg x.cs
def mvE (x : Mdl) : Int := if aY x.nm = false then 9 else if ¬ alE x.ins = 0 then alE x.ins else if ¬ alE x.outs = 0 then alE x.outs else if ¬ bn x.m = 0 then bn x.m else
  if x.m.inp = x.ins.length ∧ mxL (cV x.m) < x.outs.length then 0 else 2
theorem od {x : Mdl} (h : aY x.nm = false) : mvE x = 9 := if_pos h
theorem uQ {x : Mdl} (h : aY x.nm = true) (h2 : ¬ alE x.ins = 0) : mvE x = alE x.ins := by unfold mvE; rw [if_neg (by rw [h]; decide), if_pos h2]
theorem uG {x : Mdl} (h : aY x.nm = true) (h2 : alE x.ins = 0) (h3 : ¬ alE x.outs = 0) : mvE x = alE x.outs := by unfold mvE; rw [if_neg (by rw [h]; decide), if_neg (fun k => k h2), if_pos h3]
theorem nT {x : Mdl} (h : aY x.nm = true) (h2 : alE x.ins = 0) (h3 : alE x.outs = 0) (h4 : ¬ bn x.m = 0) : mvE x = bn x.m := by
  unfold mvE; rw [if_neg (by rw [h]; decide), if_neg (fun k => k h2), if_neg (fun k => k h3), if_pos h4]
theorem oJ {x : Mdl} (h : aY x.nm = true) (h2 : alE x.ins = 0) (h3 : alE x.outs = 0) (h4 : bn x.m = 0) (h5 : ¬ (x.m.inp = x.ins.length ∧ mxL (cV x.m) < x.outs.length)) : mvE x = 2 := by
  unfold mvE; rw [if_neg (by rw [h]; decide), if_neg (fun k => k h2), if_neg (fun k => k h3), if_neg (fun k => k h4), if_neg h5]
theorem kI {x : Mdl} (h : aY x.nm = true) (h2 : alE x.ins = 0) (h3 : alE x.outs = 0) (h4 : bn x.m = 0) (h5 : x.m.inp = x.ins.length ∧ mxL (cV x.m) < x.outs.length) : mvE x = 0 := by
  unfold mvE; rw [if_neg (by rw [h]; decide), if_neg (fun k => k h2), if_neg (fun k => k h3), if_neg (fun k => k h4), if_pos h5]
theorem p6 {x : Mdl} (h : aY x.nm = true) {k : Nat} (hk : k < 2) (hq : ∀ q, q < k → alE ([x.ins, x.outs].getD q []) = 0) (hb : ¬ alE ([x.ins, x.outs].getD k []) = 0) : mvE x = alE ([x.ins, x.outs].getD k []) := by
  rcases (show k = 0 ∨ k = 1 by omega) with rfl | rfl
  · exact uQ h hb
  · exact uG h (hq 0 (by omega)) hb
theorem pP {m : Mly} (hv : bn m = 0) : 0 < (cV m).length := (u9 hv).1
/-plain-/
theorem mv {m : Mly} (h : bn m = 0) {o : Int} : o ∈ cV m ↔ o ∈ m.ot.flatten := by rw [ga h, (dJ _).2]
def uh (ls : List (List Int)) : Bool := ls.any fun r => decide (12 < r.length)
def g8 (m : Mly) : Bool := decide (12 < (m.nx.length : Int)) || decide (12 < (m.ot.length : Int)) || decide (6 < m.inp) || uh m.nx || uh m.ot
/-plain-/
def qn (i : Nat) : Bs := 113 :: Lib.decDigits i
def eU (x : Mdl) (s a : Nat) : Bs := qn s ++ [32] ++ x.ins.getD a [] ++ [32] ++ x.outs.getD ((x.m.ot.getD s []).getD a 0).toNat [] ++ [32] ++ qn ((x.m.nx.getD s []).getD a 0).toNat
def dN (x : Mdl) (s k : Nat) : List Bs := (List.range k).map (eU x s)
def qs (n : Nat) : List Bs := (List.range n).map qn
def hdT (x : Mdl) : List Bs := [[109, 97, 99, 104, 105, 110, 101, 32] ++ x.nm, [105, 110, 112, 117, 116, 115, 32] ++ Lib.join x.ins [32], [111, 117, 116, 112, 117, 116, 115, 32] ++ Lib.join x.outs [32], [115, 116, 97, 116, 101, 115, 32] ++ Lib.join (qs x.m.nx.length) [32], [115, 116, 97, 114, 116, 32] ++ qn x.m.st.toNat]
def dh (x : Mdl) (k : Nat) : List Bs := ((List.range k).map fun s => dN x s (x.m.nx.getD s []).length).flatten
def SM (x : Mdl) : Bs := if mvE x = 0 then Lib.join (hdT x ++ dh x x.m.nx.length) [10] ++ [10] else []
theorem i3 {x : Mdl} (h : mvE x = 0) : SM x = Lib.join (hdT x ++ dh x x.m.nx.length) [10] ++ [10] := if_pos h
theorem ke {x : Mdl} (h : ¬ mvE x = 0) : SM x = [] := if_neg h
theorem jA (x : Mdl) (s k : Nat) : dN x s (k + 1) = dN x s k ++ [eU x s k] := by unfold dN; rw [List.range_succ, List.map_append]; rfl
theorem oI (n : Nat) : qs (n + 1) = qs n ++ [qn n] := by unfold qs; rw [List.range_succ, List.map_append]; rfl
theorem fq (x : Mdl) (k : Nat) : dh x (k + 1) = dh x k ++ dN x k (x.m.nx.getD k []).length := by unfold dh; rw [List.range_succ, List.map_append, List.flatten_append]; simp
theorem ca (n : Nat) : (qs n).length = n := by unfold qs; simp
theorem cI {n i : Nat} (h : i < n) : (qs n).getD i [] = qn i := by unfold qs; simp [List.getD, h]
theorem gX (x : Mdl) (s k : Nat) : (dN x s k).length = k := by unfold dN; simp
structure MVO (x : Mdl) : Prop where
  nm : aY x.nm = true
  ai : AOK x.ins
  ao : AOK x.outs
  mo : MOK x.m
  vm : bn x.m = 0
  il : x.m.inp = x.ins.length
  ol : ∀ s a : Nat, s < x.m.nx.length → (a : Int) < x.m.inp → (x.m.ot.getD s []).getD a 0 < x.outs.length
theorem iS {x : Mdl} (h : mvE x = 0) : MVO x := by
  unfold mvE at h
  split at h
  · omega
  · split at h
    · omega
    · split at h
      · omega
      · split at h
        · omega
        · split at h
          · rename_i h1 h2 h3 h4 h5
            have hv : bn x.m = 0 := by omega
            have hm := kc hv
            refine ⟨by simpa using h1, fw (by omega), fw (by omega), hm, hv, h5.1, fun s a hs ha => ?_⟩
            have hol := hm.ol
            have hq := hm.ql s hs
            have hin : (x.m.ot.getD s []).getD a 0 ∈ x.m.ot.flatten := List.mem_flatten.2 ⟨x.m.ot.getD s [], by simp [List.getD, hol, hs], fl (by omega)⟩
            have : (x.m.ot.getD s []).getD a 0 ≤ mxL (cV x.m) := (lG _ _).2 _ ((mv hv).2 hin)
            omega
          · omega
theorem fh {sep : Bs} {B : Nat} : ∀ {l : List Bs}, (∀ y, y ∈ l → y.length ≤ B) → (Lib.join l sep).length ≤ l.length * (B + sep.length)
  | [], _ => Nat.zero_le _
  | [y], h => by rw [Lib.join_one]; have := h y (by simp); simp only [aj, aq]; omega
  | y :: z :: l, h => by
    have h1 := h y (by simp)
    have h2 := fh (sep := sep) (l := z :: l) fun q hq => h q (aC _ hq)
    have e : Lib.join (y :: z :: l) sep = y ++ sep ++ Lib.join (z :: l) sep := by rw [Lib.join_cons, Lib.join_cons]; simp [Lib.joinTail]
    rw [e, ah, ah]
    have e2 : (y :: z :: l).length * (B + sep.length) = (z :: l).length * (B + sep.length) + (B + sep.length) := by simp only [aj]; rw [Nat.add_mul _ 1, Nat.one_mul]
    omega
theorem kL : ∀ n : Nat, n < 128 → (Lib.decDigits n).length ≤ 3 := by decide +kernel
theorem eV {n : Nat} (h : n < 128) : (qn n).length ≤ 4 := by have := kL n h; unfold qn; simp; omega
theorem kU {xs : List Bs} (h : AOK xs) (y : Bs) (hy : y ∈ xs) : y.length ≤ 32 := by
  obtain ⟨j, hj, rfl⟩ := mR.1 hy
  exact (cT (h.nm j hj)).2.2
theorem eu {xs : List Bs} (h : AOK xs) (j : Nat) : (xs.getD j []).length ≤ 32 := by
  by_cases hj : j < xs.length
  · exact kU h _ (dR hj)
  · rw [List.getD, List.getElem?_eq_none (by omega)]; exact Nat.zero_le _
theorem rn {x : Mdl} (h : MVO x) {s a : Nat} (hs : s < x.m.nx.length) (ha : (a : Int) < x.m.inp) : (eU x s a).length ≤ 75 := by
  have h1 := eu h.ai a
  have h2 := eu h.ao ((x.m.ot.getD s []).getD a 0).toNat
  have hn2 := h.mo.n2
  have h3 := h.mo.nr s a hs ha
  have h4 := eV (n := s) (by omega)
  have h5 := eV (n := ((x.m.nx.getD s []).getD a 0).toNat) (by omega)
  unfold eU
  simp only [ah, aj, aq]
  omega
theorem dz {x : Mdl} (h : MVO x) (y : Bs) (hy : y ∈ hdT x) : y.length ≤ 2121 := by
  have h1 := (cT h.nm).2.2
  have h2 := fh (sep := [32]) (B := 32) (kU h.ai)
  have h3 := fh (sep := [32]) (B := 32) (kU h.ao)
  have hn2 := h.mo.n2
  have hs2 := h.mo.s2
  have h4 := fh (sep := [32]) (B := 4) (l := qs x.m.nx.length) fun y hy => by
    unfold qs at hy
    obtain ⟨i, hi, rfl⟩ := List.mem_map.1 hy
    have := List.mem_range.1 hi
    exact eV (by omega)
  have h5 := eV (n := x.m.st.toNat) (by omega)
  have hi1 := h.ai.n1
  have ho1 := h.ao.n1
  rw [ca] at h4
  simp only [aj, aq] at h2 h3 h4
  unfold hdT at hy
  simp only [List.mem_cons, List.not_mem_nil, or_false] at hy
  rcases hy with rfl | rfl | rfl | rfl | rfl <;> simp only [ah, aj, aq] <;> omega
theorem r8 {x : Mdl} (h : MVO x) {k : Nat} (hk : k ≤ x.m.nx.length) (y : Bs) (hy : y ∈ dh x k) : y.length ≤ 75 := by
  unfold dh at hy
  obtain ⟨l, hl, hy⟩ := List.mem_flatten.1 hy
  obtain ⟨s, hs, rfl⟩ := List.mem_map.1 hl
  have := List.mem_range.1 hs
  unfold dN at hy
  obtain ⟨a, ha, rfl⟩ := List.mem_map.1 hy
  have := List.mem_range.1 ha
  have := h.mo.rl s (by omega)
  exact rn h (by omega) (by omega)
theorem mM {x : Mdl} (h : MVO x) : ∀ {k : Nat}, k ≤ x.m.nx.length → (dh x k).length = k * x.ins.length
  | 0, _ => by simp [dh]
  | k + 1, hk => by
    rw [fq, ah, mM h (by omega), gX, Nat.add_mul, Nat.one_mul]
    have := h.mo.rl k (by omega)
    have := h.il
    omega
theorem eM {x : Mdl} (h : MVO x) {k : Nat} (hk : k ≤ x.m.nx.length) : (dh x k).length ≤ 8192 := by
  rw [mM h hk]
  have := h.mo.n2
  have := h.ai.n1
  exact Nat.le_trans (Nat.mul_le_mul (show k ≤ 128 by omega) (show x.ins.length ≤ 64 by exact h.ai.n1)) (by decide)
theorem kF {sep : Bs} : ∀ {a b : List Bs}, (Lib.join (a ++ b) sep).length ≤ (Lib.join a sep).length + sep.length + (Lib.join b sep).length
  | [], b => by simp [Lib.join_nil]
  | [y], [] => by rw [List.append_nil]; omega
  | [y], z :: b => by rw [List.singleton_append, Lib.join_one, Lib.join_cons, Lib.join_cons]; simp [Lib.joinTail]; omega
  | y :: z :: a, b => by
    have h := kF (sep := sep) (a := z :: a) (b := b)
    have e : ∀ l : List Bs, Lib.join (y :: z :: l) sep = y ++ sep ++ Lib.join (z :: l) sep := fun l => by rw [Lib.join_cons, Lib.join_cons]; simp [Lib.joinTail]
    rw [ak, ak, e, e, ah, ah, ah, ah]
    rw [ak] at h
    omega
theorem mV {x : Mdl} (h : MVO x) : (Lib.join (hdT x ++ dh x x.m.nx.length) [10]).length ≤ 700000 := by
  have h1 := fh (sep := [10]) (dz h)
  have h2 := fh (sep := [10]) (r8 h (Nat.le_refl _))
  have h3 := eM h (Nat.le_refl _)
  have h4 := kF (sep := [10]) (a := hdT x) (b := dh x x.m.nx.length)
  have h5 : (hdT x).length = 5 := rfl
  have h6 : (dh x x.m.nx.length).length * (75 + [10].length) ≤ 8192 * 76 := Nat.mul_le_mul h3 (Nat.le_refl _)
  rw [h5] at h1
  simp only [aj, aq] at *
  omega
/-plain-/
def spB (c : UInt8) : Bs → List Bs
  | [] => [[]]
  | b :: s => if b = c then [] :: spB c s else (b :: (spB c s).headD []) :: (spB c s).tail
theorem nG (c b : UInt8) (s : Bs) : spB c (b :: s) = if b = c then [] :: spB c s else (b :: (spB c s).headD []) :: (spB c s).tail := rfl
theorem ra (c : UInt8) : ∀ s : Bs, spB c s = (spB c s).headD [] :: (spB c s).tail
  | [] => rfl
  | b :: s => by
    rw [nG]
    split <;> rfl
theorem ki {c : UInt8} : ∀ {s : Bs}, c ∉ s → spB c s = [s]
  | [], _ => rfl
  | b :: s, h => by
    simp only [List.mem_cons, not_or] at h
    rw [nG, if_neg (Ne.symm h.1), ki h.2]; rfl
theorem kr {c : UInt8} : ∀ {x : Bs} (s : Bs), c ∉ x → spB c (x ++ c :: s) = x :: spB c s
  | [], s, _ => by rw [ar, nG, if_pos rfl]
  | b :: x, s, h => by
    simp only [List.mem_cons, not_or] at h
    rw [ak]
    rw [show spB c (b :: (x ++ c :: s)) = if b = c then [] :: spB c (x ++ c :: s) else (b :: (spB c (x ++ c :: s)).headD []) :: (spB c (x ++ c :: s)).tail from rfl]
    rw [if_neg (Ne.symm h.1), kr s h.2]; rfl
theorem kZ (c : UInt8) (s : Bs) : 0 < (spB c s).length := by rw [ra]; simp
theorem nL {c : UInt8} : ∀ {s : Bs}, Lib.indexByte s c < 0 → c ∉ s
  | [], _ => by simp
  | b :: s, h => by
    unfold Lib.indexByte at h
    split at h
    · omega
    · rename_i hb
      have hb2 : ¬ c = b := fun e => hb (by rw [e]; exact beq_self_eq_true b)
      split at h
      · rename_i h2
        have h2 : Lib.indexByte s c = -1 := by simpa using h2
        simp only [List.mem_cons, not_or]
        exact ⟨hb2, nL (by omega)⟩
      · rename_i h2
        have h2 : ¬ Lib.indexByte s c = -1 := by simpa using h2
        have := Lib.indexByte_ge s c
        omega
theorem gp {c : UInt8} : ∀ {s : Bs}, 0 ≤ Lib.indexByte s c → (Lib.indexByte s c).toNat < s.length ∧ c ∉ s.take (Lib.indexByte s c).toNat ∧ s = s.take (Lib.indexByte s c).toNat ++ c :: s.drop ((Lib.indexByte s c).toNat + 1)
  | [], h => by unfold Lib.indexByte at h; omega
  | b :: s, h => by
    unfold Lib.indexByte at h ⊢
    split
    · rename_i hb
      have hb2 : b = c := by simpa using hb
      subst hb2
      exact ⟨by simp, by simp, by simp⟩
    · rename_i hb
      rw [if_neg hb] at h
      have hb2 : ¬ c = b := fun e => hb (by rw [e]; exact beq_self_eq_true b)
      split
      · rename_i h2; rw [if_pos h2] at h; omega
      · rename_i h2
        rw [if_neg h2] at h
        have h3 : ¬ Lib.indexByte s c = -1 := by simpa using h2
        have h4 := Lib.indexByte_ge s c
        obtain ⟨h5, h6, h7⟩ := gp (s := s) (c := c) (by omega)
        have e : (Lib.indexByte s c + 1).toNat = (Lib.indexByte s c).toNat + 1 := by omega
        rw [e]
        refine ⟨by simpa using h5, ?_, ?_⟩
        · rw [cj]; simp only [List.mem_cons, not_or]; exact ⟨hb2, h6⟩
        · rw [cj, List.drop_succ_cons, ak, ← h7]
theorem pV {c : UInt8} {s : Bs} (h : 0 ≤ Lib.indexByte s c) : spB c s = s.take (Lib.indexByte s c).toNat :: spB c (s.drop ((Lib.indexByte s c).toNat + 1)) := by
  obtain ⟨_, h2, h3⟩ := gp h
  have := kr (s.drop ((Lib.indexByte s c).toNat + 1)) h2
  rw [← h3] at this
  exact this
theorem kH (c : UInt8) : ∀ s : Bs, (spB c s).length = Lib.countByte s c + 1
  | [] => rfl
  | b :: s => by
    have ih := kH c s
    have hp := kZ c s
    rw [nG]
    unfold Lib.countByte at ih ⊢
    rw [List.count_cons]
    split
    · rename_i e; subst e; simp; omega
    · rename_i e
      have e2 : (b == c) = false := by simpa using e
      rw [e2]
      simp only [aj, List.length_tail, Bool.false_eq_true, if_false]
      omega
theorem qy (c : UInt8) (s : Bs) : (spB c s).length ≤ s.length + 1 := by
  rw [kH]; have := List.count_le_length (a := c) (l := s); unfold Lib.countByte; omega
theorem rt (c : UInt8) (s : Bs) : Lib.countByte s c ≤ s.length := List.count_le_length
theorem dw (x y sep : Bs) (r : List Bs) : Lib.join (x :: y :: r) sep = x ++ sep ++ Lib.join (y :: r) sep := by rw [Lib.join_cons, Lib.join_cons]; simp [Lib.joinTail]
theorem kS {c : UInt8} : ∀ {x : Bs} {r : List Bs}, (∀ y, y ∈ x :: r → c ∉ y) → spB c (Lib.join (x :: r) [c]) = x :: r
  | x, [], h => by rw [Lib.join_one]; exact ki (h x (by simp))
  | x, y :: r, h => by
    have e : Lib.join (x :: y :: r) [c] = x ++ c :: Lib.join (y :: r) [c] := by rw [dw]; simp
    rw [e, kr _ (h x (by simp)), kS fun z hz => h z (aC _ hz)]
/-plain-/
def lnE (s : Bs) : Nat := if Lib.indexByte s 10 < 0 then s.length else (Lib.indexByte s 10).toNat + 1
def aN (s : Bs) : Nat → Bs
  | 0 => s
  | k + 1 => (aN s k).drop (lnE (aN s k))
def bV (s : Bs) (k : Nat) : Bs := (aN s k).take (lnE (aN s k))
theorem tF (s : Bs) : lnE s ≤ s.length := by
  unfold lnE
  split
  · exact Nat.le_refl _
  · exact (gp (by omega)).1
theorem ll {s : Bs} (h : s ≠ []) : 1 ≤ lnE s := by
  unfold lnE
  split
  · exact List.length_pos_iff.2 h
  · omega
theorem gx (s : Bs) : ∀ k, aN s k ≠ [] → k + (aN s k).length ≤ s.length
  | 0, _ => by simp [aN]
  | k + 1, h => by
    have h0 : aN s k ≠ [] := fun e => h (by simp [aN, e])
    have ih := gx s k h0
    have h1 := ll h0
    have h2 := tF (aN s k)
    simp only [aN, List.length_drop]
    omega
theorem ov (s : Bs) (k : Nat) : (aN s k).length ≤ s.length := by
  by_cases h : aN s k = []
  · rw [h]; exact Nat.zero_le _
  · have := gx s k h; omega
theorem pY (l : Bs) (n : Nat) : (⟨l.toArray⟩ : ByteArray).extract 0 n = ⟨(l.take n).toArray⟩ := by
  apply ByteArray.ext
  simp [ByteArray.data_extract]
theorem oX (l : Bs) (n : Nat) : (⟨l.toArray⟩ : ByteArray).extract n l.length = ⟨(l.drop n).toArray⟩ := by
  apply ByteArray.ext
  simp [ByteArray.data_extract]
  rw [List.take_of_length_le (by rw [List.length_drop]; exact Nat.le_refl _)]
/-plain-/
def du (s p : Bs) : Bool := decide (p.length ≤ s.length) && decide (s.drop (s.length - p.length) = p)
theorem rA {s p : Bs} : du s p = true ↔ p <:+ s := by
  unfold du
  rw [Bool.and_eq_true, decide_eq_true_eq, decide_eq_true_eq, List.suffix_iff_eq_drop]
  constructor
  · intro h; exact h.2.symm
  · intro h
    refine ⟨?_, h.symm⟩
    have := congrArg List.length h
    rw [List.length_drop] at this
    omega
/-plain-/
def cq (b n : Nat) : List AC := (List.range n).map fun i => .row (b + i) 0
def eJ (I : TypeId) (xs : List (List Int)) : List AO := xs.map fun l => .row (.int .i64) I 0 l
def cU (S I : TypeId) (b : Nat) (xs : List (List Int)) : List AO := .rowc S 1 0 (cq (b + 1) xs.length) :: eJ I xs
def eF (L0 : List AO) (S I : TypeId) (n k : Nat) (xs : List (List Int)) : List AO := L0 ++ .rowc S 1 0 (cq (L0.length + 1) k ++ List.replicate (n - k) .nils) :: eJ I xs
theorem cF (b n : Nat) : (cq b n).length = n := by unfold cq; simp
theorem cw (I : TypeId) (xs : List (List Int)) : (eJ I xs).length = xs.length := by unfold eJ; simp
theorem tP (L0 : List AO) (S I : TypeId) (n : Nat) : eF L0 S I n 0 [] = L0 ++ [.rowc S 1 0 (List.replicate n .nils)] := by unfold eF cq eJ; simp
theorem rK (L0 : List AO) (S I : TypeId) (n : Nat) (xs : List (List Int)) (h : xs.length = n) : eF L0 S I n n xs = L0 ++ cU S I L0.length xs := by unfold eF cU; rw [h, Nat.sub_self, List.replicate_zero, List.append_nil]
theorem io (L0 : List AO) (S I : TypeId) (n k : Nat) (xs : List (List Int)) : (eF L0 S I n k xs)[L0.length]? = some (.rowc S 1 0 (cq (L0.length + 1) k ++ List.replicate (n - k) .nils)) := by unfold eF; simp
theorem j9 (L0 : List AO) (S I : TypeId) (n k : Nat) (xs : List (List Int)) : (eF L0 S I n k xs).length = L0.length + 1 + xs.length := by unfold eF; simp [cw]; omega
theorem iX (L0 : List AO) (S I : TypeId) (n k : Nat) (xs : List (List Int)) (l : List Int) : eF L0 S I n k xs ++ [.row (.int .i64) I 0 l] = eF L0 S I n k (xs ++ [l]) := by unfold eF eJ; simp
theorem mN {b n k : Nat} (h : k ≤ n) : (cq b k ++ List.replicate (n - k) AC.nils).length = n := by rw [ah, cF, aI]; omega
theorem p8 {b n k : Nat} (h : k < n) : be (cq b k ++ List.replicate (n - k) .nils) k [.row (b + k) 0] = cq b (k + 1) ++ List.replicate (n - (k + 1)) .nils := by
  unfold be
  have e : cq b (k + 1) = cq b k ++ [.row (b + k) 0] := by unfold cq; rw [List.range_succ, List.map_append]; rfl
  rw [e, List.take_append_of_le_length (by rw [cF]; exact Nat.le_refl _), List.take_of_length_le (by rw [cF]; exact Nat.le_refl _), List.drop_append, cF, List.drop_of_length_le (by rw [cF]; simp), ar]
  simp only [aj, aq, List.drop_replicate]
  rw [show n - k - (k + (0 + 1) - k) = n - (k + 1) by omega]
theorem qI (L0 : List AO) (S I : TypeId) {n k : Nat} (xs : List (List Int)) (h : k < n) : (eF L0 S I n k xs).set L0.length (.rowc S 1 0 (be (cq (L0.length + 1) k ++ List.replicate (n - k) .nils) k [.row (L0.length + 1 + k) 0])) = eF L0 S I n (k + 1) xs := by
  unfold eF; rw [p8 h, List.set_append]; simp
/-plain-/
structure RS where
  nm : Bs
  ins : List Bs
  outs : List Bs
  inp : Int
  st : Int
  nx : List (List Int)
  ot : List (List Int)
  sts : List Bs
  rd : Nat
  lf : Int
  tb : Bool
def rs0 : RS := ⟨[], [], [], 0, 0, [], [], [], 0, 0, false⟩
def rdC (r : RS) (a b : AC) : List AC := [.str r.nm, .list .str r.ins, .list .str r.outs, .int .i64 r.inp, .int .i64 r.st, a, b, .list .str r.sts, .int .i64 (r.rd : Int), .int .i64 r.lf]
def rdT (S I : TypeId) (r : RS) : List AO := if r.tb = true then cU S I 1 r.nx ++ cU S I (2 + r.nx.length) r.ot else []
def rdA (r : RS) : AC := if r.tb = true then .rwc 1 0 else .nils
def rdB (r : RS) : AC := if r.tb = true then .rwc (2 + r.nx.length) 0 else .nils
def SH (R S I : TypeId) (r : RS) : List AO := .vars R (rdC r (rdA r) (rdB r)) :: rdT S I r
def fj (n : Nat) (L1 : List AO) : List (Nat × AO) := (List.range n).map fun k => (k, L1.getD k (.dead 0))
theorem iD : ∀ (n : Nat) {L0 L1 : List AO}, n ≤ L0.length → n ≤ L1.length → bb L0 (fj n L1) = L1.take n ++ L0.drop n
  | 0, L0, L1, _, _ => by simp [fj, bb]
  | n + 1, L0, L1, h0, h1 => by
    have ih := iD n (L0 := L0) (L1 := L1) (by omega) (by omega)
    have e : fj (n + 1) L1 = fj n L1 ++ [(n, L1.getD n (.dead 0))] := by unfold fj; rw [List.range_succ, List.map_append]; rfl
    rw [e, ij, ih, List.set_append, if_neg (by rw [List.length_take]; omega)]
    have e1 : L1.getD n (.dead 0) = L1[n] := by simp [List.getD, List.getElem?_eq_getElem (show n < L1.length by omega)]
    have e2 : L1.take (n + 1) = L1.take n ++ [L1[n]] := by rw [List.take_add_one, List.getElem?_eq_getElem (show n < L1.length by omega)]; rfl
    rw [e1, e2, List.length_take, Nat.min_eq_left (by omega), Nat.sub_self, List.drop_eq_getElem_cons (show n < L0.length by omega), bu, List.append_assoc]; rfl
theorem aD {L0 L1 : List AO} (h : L0.length ≤ L1.length) : bb L0 (fj L0.length L1) ++ L1.drop L0.length = L1 := by
  rw [iD _ (Nat.le_refl _) h, List.drop_length, List.append_nil, List.take_append_drop]
def kwd (i : Nat) : Bs := [[109, 97, 99, 104, 105, 110, 101], [105, 110, 112, 117, 116, 115], [111, 117, 116, 112, 117, 116, 115], [115, 116, 97, 116, 101, 115], [115, 116, 97, 114, 116]].getD i []
def ixB (l : List Bs) (x : Bs) : Int := if x ∈ l then (pos l x : Int) else -1
def dt (l : List Bs) : Int := if l.length = 0 then 19 else if 128 < l.length then 11 else c0 (nmE l) l.length
def dy (n : Nat) (k : Nat) : List (List Int) := List.replicate n (List.replicate k (-1))
def gc (r : RS) (l : List Bs) : RS := { r with sts := l, lf := l.length * r.ins.length, inp := r.ins.length, st := 0, nx := dy l.length r.ins.length, ot := dy l.length r.ins.length, tb := true }
def gO (r : RS) (l : List Bs) : RS × Int := if dt l = 0 then (gc r l, 0) else (r, dt l)
def ba (r : RS) (w : List Bs) : RS × Int :=
  if ¬ w.getD 0 [] = kwd r.rd ∨ ((r.rd = 0 ∨ r.rd = 4) ∧ ¬ w.length = 2) then (r, 5)
  else if r.rd = 0 then ({ r with nm := w.getD 1 [] }, if aY (w.getD 1 []) = true then 0 else 9)
  else if r.rd = 1 then ({ r with ins := w.drop 1 }, alE (w.drop 1))
  else if r.rd = 2 then ({ r with outs := w.drop 1 }, alE (w.drop 1))
  else if r.rd = 3 then gO r (w.drop 1)
  else ({ r with st := ixB r.sts (w.getD 1 []) }, if ixB r.sts (w.getD 1 []) < 0 then 8 else 0)
def fQ (r : RS) (s a : Nat) (t o : Int) : RS := { r with nx := r.nx.set s ((r.nx.getD s []).set a t), ot := r.ot.set s ((r.ot.getD s []).set a o), lf := r.lf - 1 }
def bI (r : RS) (w : List Bs) : RS × Int :=
  if ¬ w.length = 4 then (r, 5)
  else if w.getD 0 [] ∉ r.sts ∨ w.getD 3 [] ∉ r.sts ∨ w.getD 1 [] ∉ r.ins ∨ w.getD 2 [] ∉ r.outs then (r, 8)
  else if 0 ≤ (r.nx.getD (pos r.sts (w.getD 0 [])) []).getD (pos r.ins (w.getD 1 [])) 0 then (r, 7)
  else (fQ r (pos r.sts (w.getD 0 [])) (pos r.ins (w.getD 1 [])) (pos r.sts (w.getD 3 [])) (pos r.outs (w.getD 2 [])), 0)
def eD (r : RS) (w : List Bs) : RS × Int := if r.rd < 5 then ba r w else bI r w
def ct (p : RS × Int) : RS × Int := ({ p.1 with rd := p.1.rd + 1 }, p.2)
def aW (r : RS) (s : Bs) : RS × Int :=
  if du s [10] = false then (r, 5)
  else if s.take (s.length - 1) = [] ∨ (s.take (s.length - 1)).getD 0 0 = 35 then (r, 0)
  else if [] ∈ spB 32 (s.take (s.length - 1)) then (r, 5)
  else ct (eD r (spB 32 (s.take (s.length - 1))))
theorem jn {l : List Bs} (h : l.length = 0) : dt l = 19 := if_pos h
theorem gi {l : List Bs} (h : ¬ l.length = 0) (h2 : 128 < l.length) : dt l = 11 := by unfold dt; rw [if_neg h, if_pos h2]
theorem kO {l : List Bs} (h : ¬ l.length = 0) (h2 : ¬ 128 < l.length) {k : Nat} (hk : k < l.length) (hq : ∀ q, q < k → nmE l q = 0) (hb : aY (l.getD k []) = false) : dt l = 9 := by
  have e : nmE l k = 9 := if_pos hb
  unfold dt; rw [if_neg h, if_neg h2, bh hq hk (by rw [e]; decide), e]
theorem lL {l : List Bs} (h : ¬ l.length = 0) (h2 : ¬ 128 < l.length) {k : Nat} (hk : k < l.length) (hq : ∀ q, q < k → nmE l q = 0) (hb : aY (l.getD k []) = true) (hi : l.getD k [] ∈ l.take k) : dt l = 7 := by
  have e : nmE l k = 7 := by unfold nmE; rw [if_neg (by rw [hb]; decide), if_pos hi]
  unfold dt; rw [if_neg h, if_neg h2, bh hq hk (by rw [e]; decide), e]
theorem gD {l : List Bs} (h : ¬ l.length = 0) (h2 : ¬ 128 < l.length) (hq : ∀ q, q < l.length → nmE l q = 0) : dt l = 0 := by
  unfold dt; rw [if_neg h, if_neg h2, bB hq]
def ib (R S I : TypeId) (r : RS) (a b : AC) (U : List AO) (l : List Bs) : List AO :=
  if dt l = 0 then .vars R (rdC (gc r l) (.rwc (U.length + 1) 0) (.rwc (U.length + 2 + l.length) 0)) :: (U ++ cU S I (U.length + 1) (dy l.length r.ins.length) ++ cU S I (U.length + 2 + l.length) (dy l.length r.ins.length))
  else .vars R (rdC r a b) :: U
theorem bv {R S I : TypeId} {r : RS} {a b : AC} {U : List AO} {l : List Bs} {e : Int} (he : dt l = e) (h0 : ¬ e = 0) : ib R S I r a b U l = .vars R (rdC r a b) :: U := if_neg (by rw [he]; exact h0)
theorem fa {R S I : TypeId} {r : RS} {a b : AC} {U : List AO} {l : List Bs} (he : dt l = 0) : ib R S I r a b U l = .vars R (rdC (gc r l) (.rwc (U.length + 1) 0) (.rwc (U.length + 2 + l.length) 0)) :: (U ++ cU S I (U.length + 1) (dy l.length r.ins.length) ++ cU S I (U.length + 2 + l.length) (dy l.length r.ins.length)) := if_pos he
theorem cg {R S I : TypeId} {r : RS} {a b : AC} {U : List AO} {l : List Bs} {x : AO} : (x :: U).length ≤ (ib R S I r a b U l).length := by
  unfold ib
  split
  · simp only [aj, ah]; omega
  · exact Nat.le_refl _
theorem ew (S I : TypeId) (b : Nat) (xs : List (List Int)) : (cU S I b xs).length = xs.length + 1 := by unfold cU; simp [cw]
theorem iY (n k : Nat) : (dy n k).length = n := by unfold dy; simp
def f9 (R S I : TypeId) (r : RS) (a b : AC) (U : List AO) (w : List Bs) : List AO :=
  if r.rd = 3 ∧ w.getD 0 [] = kwd 3 then ib R S I r a b U (w.drop 1) else .vars R (rdC (ba r w).1 a b) :: U
theorem j6 {R S I : TypeId} {r : RS} {a b : AC} {U : List AO} {w : List Bs} (h : ¬ (r.rd = 3 ∧ w.getD 0 [] = kwd 3)) : f9 R S I r a b U w = .vars R (rdC (ba r w).1 a b) :: U := if_neg h
theorem oP {R S I : TypeId} {r : RS} {a b : AC} {U : List AO} {w : List Bs} (h : r.rd = 3 ∧ w.getD 0 [] = kwd 3) : f9 R S I r a b U w = ib R S I r a b U (w.drop 1) := if_pos h
theorem cD {R S I : TypeId} {r : RS} {a b : AC} {U : List AO} {w : List Bs} {x : AO} : (x :: U).length ≤ (f9 R S I r a b U w).length := by
  unfold f9
  split
  · exact cg
  · exact Nat.le_refl _
theorem jx {R S I : TypeId} {r : RS} {a b : AC} {U : List AO} {w : List Bs} (h : ¬ w.getD 0 [] = kwd r.rd ∨ ((r.rd : Int) = 0 ∨ (r.rd : Int) = 4) ∧ ¬ (w.length : Int) = 2) : (ba r w).2 = 5 ∧ f9 R S I r a b U w = .vars R (rdC r a b) :: U := by
  have e : ba r w = (r, 5) := if_pos (by rcases h with h | ⟨h1, h2⟩; exact .inl h; exact .inr ⟨by omega, by omega⟩)
  refine ⟨by rw [e], ?_⟩
  rw [j6, e]
  rintro ⟨q1, q2⟩
  rcases h with h | h
  · exact h (by rw [q1]; exact q2)
  · omega
theorem dF {r : RS} {w : List Bs} (h : w.getD 0 [] = kwd r.rd ∧ (¬ (r.rd : Int) = 0 ∧ ¬ (r.rd : Int) = 4 ∨ (w.length : Int) = 2)) : ba r w = if r.rd = 0 then ({ r with nm := w.getD 1 [] }, if aY (w.getD 1 []) = true then 0 else 9)
  else if r.rd = 1 then ({ r with ins := w.drop 1 }, alE (w.drop 1))
  else if r.rd = 2 then ({ r with outs := w.drop 1 }, alE (w.drop 1))
  else if r.rd = 3 then gO r (w.drop 1)
  else ({ r with st := ixB r.sts (w.getD 1 []) }, if ixB r.sts (w.getD 1 []) < 0 then 8 else 0) := by
  unfold ba
  rw [if_neg]
  rintro (q | q)
  · exact q h.1
  · omega
theorem gh {R S I : TypeId} {r r' : RS} {a b : AC} {U : List AO} {w : List Bs} {e : Int} (h3 : ¬ r.rd = 3) (h : ba r w = (r', e)) : (ba r w).2 = e ∧ f9 R S I r a b U w = .vars R (rdC r' a b) :: U := by
  refine ⟨by rw [h], ?_⟩
  rw [j6 (fun q => h3 q.1), h]
theorem js {R S I : TypeId} {r : RS} {a b : AC} {U : List AO} {w : List Bs} (h : w.getD 0 [] = kwd r.rd ∧ (¬ (r.rd : Int) = 0 ∧ ¬ (r.rd : Int) = 4 ∨ (w.length : Int) = 2)) (h3 : r.rd = 3) : (ba r w).2 = dt (w.drop 1) ∧ f9 R S I r a b U w = ib R S I r a b U (w.drop 1) := by
  refine ⟨?_, oP ⟨h3, by rw [← h3]; exact h.1⟩⟩
  rw [dF h, if_neg (by omega), if_neg (by omega), if_neg (by omega), if_pos h3]
  unfold gO
  split
  · rename_i e; exact e.symm
  · rfl
def RT (R S I : TypeId) (r : RS) : List AO := .vars R (rdC r (.rwc 1 0) (.rwc (2 + r.nx.length) 0)) :: (cU S I 1 r.nx ++ cU S I (2 + r.nx.length) r.ot)
theorem lO {I : TypeId} {xs : List (List Int)} {s : Nat} (h : s < xs.length) : (eJ I xs)[s]? = some (.row (.int .i64) I 0 (xs.getD s [])) := by unfold eJ; simp [List.getD, List.getElem?_eq_getElem h]
theorem l7 {I : TypeId} {xs : List (List Int)} {s : Nat} (x : List Int) : (eJ I xs).set s (.row (.int .i64) I 0 x) = eJ I (xs.set s x) := by unfold eJ; rw [List.map_set]
theorem lP {b n s : Nat} (h : s < n) : (cq b n).getD s .junk = .row (b + s) 0 := by unfold cq; simp [List.getD, h]
theorem qk (R S I : TypeId) (r : RS) : (RT R S I r).length = 3 + r.nx.length + r.ot.length := by unfold RT; simp only [aj, ah, ew]; omega
theorem ez (R S I : TypeId) (r : RS) : (RT R S I r)[0]? = some (.vars R (rdC r (.rwc 1 0) (.rwc (2 + r.nx.length) 0))) := rfl
theorem pR (R S I : TypeId) (r : RS) : (RT R S I r)[1]? = some (.rowc S 1 0 (cq 2 r.nx.length)) := rfl
theorem ub {R S I : TypeId} {r : RS} {s : Nat} (h : s < r.nx.length) : (RT R S I r)[2 + s]? = some (.row (.int .i64) I 0 (r.nx.getD s [])) := by
  unfold RT cU
  rw [show 2 + s = (s + 1) + 1 by omega, List.getElem?_cons_succ, ak, List.getElem?_cons_succ, List.getElem?_append_left (by rw [cw]; exact h)]
  exact lO h
theorem sN (R S I : TypeId) (r : RS) : (RT R S I r)[2 + r.nx.length]? = some (.rowc S 1 0 (cq (3 + r.nx.length) r.ot.length)) := by
  unfold RT cU
  rw [show 2 + r.nx.length = (r.nx.length + 1) + 1 by omega, List.getElem?_cons_succ, ak, List.getElem?_cons_succ, List.getElem?_append_right (by rw [cw]; exact Nat.le_refl _), cw, Nat.sub_self]
  rw [show r.nx.length + 1 + 1 + 1 = 3 + r.nx.length by omega]; rfl
theorem ue {R S I : TypeId} {r : RS} {s : Nat} (h : s < r.ot.length) : (RT R S I r)[3 + r.nx.length + s]? = some (.row (.int .i64) I 0 (r.ot.getD s [])) := by
  unfold RT cU
  rw [show 3 + r.nx.length + s = (r.nx.length + (s + 1)) + 1 + 1 by omega, List.getElem?_cons_succ, ak, List.getElem?_cons_succ, List.getElem?_append_right (by rw [cw]; omega), cw, show r.nx.length + (s + 1) - r.nx.length = s + 1 by omega, List.getElem?_cons_succ]
  exact lO h
theorem ul {R S I : TypeId} {r : RS} {s : Nat} (h : s < r.nx.length) (x : List Int) : (RT R S I r).set (2 + s) (.row (.int .i64) I 0 x) = RT R S I { r with nx := r.nx.set s x } := by
  unfold RT cU
  rw [show 2 + s = (s + 1) + 1 by omega, aX, ak, aX, List.set_append, if_pos (by rw [cw]; exact h), l7]
  simp only [List.length_set]; rfl
theorem uk {R S I : TypeId} {r : RS} {s : Nat} (h : s < r.ot.length) (x : List Int) : (RT R S I r).set (3 + r.nx.length + s) (.row (.int .i64) I 0 x) = RT R S I { r with ot := r.ot.set s x } := by
  unfold RT cU
  rw [show 3 + r.nx.length + s = (r.nx.length + (s + 1)) + 1 + 1 by omega, aX, ak, aX, List.set_append, if_neg (by rw [cw]; omega), cw, show r.nx.length + (s + 1) - r.nx.length = s + 1 by omega, aX, l7]
  simp only [List.length_set]; rfl
theorem um {R S I : TypeId} {r : RS} (x : Int) : (RT R S I r).set 0 (.vars R [.str r.nm, .list .str r.ins, .list .str r.outs, .int .i64 r.inp, .int .i64 r.st, .rwc 1 0, .rwc (2 + r.nx.length) 0, .list .str r.sts, .int .i64 (r.rd : Int), .int .i64 x]) = RT R S I { r with lf := x } := rfl
structure ROK (r : RS) : Prop where
  nl : r.nx.length = r.sts.length
  ol : r.ot.length = r.sts.length
  n2 : r.sts.length ≤ 128
  i1 : 1 ≤ r.ins.length
  i2 : r.ins.length ≤ 64
  rl : ∀ s, s < r.sts.length → (r.nx.getD s []).length = r.ins.length
  ql : ∀ s, s < r.sts.length → (r.ot.getD s []).length = r.ins.length
  l0 : -2000000 ≤ r.lf
  l1 : r.lf ≤ 1000000
theorem tM {s1 s2 i1 o1 : List Bs} {a b c d : Bs} {x y : Int} (h : ((0 ≤ (if a ∈ s1 then x else -1) ∧ 0 ≤ (if b ∈ s2 then y else -1)) ∧ c ∈ i1) ∧ d ∈ o1) : a ∈ s1 ∧ b ∈ s2 ∧ c ∈ i1 ∧ d ∈ o1 := by
  obtain ⟨⟨⟨h1, h2⟩, h3⟩, h4⟩ := h
  refine ⟨?_, ?_, h3, h4⟩
  · split at h1
    · assumption
    · omega
  · split at h2
    · assumption
    · omega
theorem ik {s1 s2 i1 o1 : List Bs} {a b c d : Bs} {x y : Nat} (h : (((if a ∈ s1 then (x : Int) else -1) < 0 ∨ (if b ∈ s2 then (y : Int) else -1) < 0) ∨ ¬ c ∈ i1) ∨ ¬ d ∈ o1) : a ∉ s1 ∨ b ∉ s2 ∨ c ∉ i1 ∨ d ∉ o1 := by
  rcases h with ((h | h) | h) | h
  · split at h
    · omega
    · exact .inl (by assumption)
  · split at h
    · omega
    · exact .inr (.inl (by assumption))
  · exact .inr (.inr (.inl h))
  · exact .inr (.inr (.inr h))
theorem nJ {r : RS} {w : List Bs} (h : ¬ (w.length : Int) = 4) : bI r w = (r, 5) := if_pos (by omega)
theorem nB {r : RS} {w : List Bs} (h : (w.length : Int) = 4) (h2 : w.getD 0 [] ∉ r.sts ∨ w.getD 3 [] ∉ r.sts ∨ w.getD 1 [] ∉ r.ins ∨ w.getD 2 [] ∉ r.outs) : bI r w = (r, 8) := by unfold bI; rw [if_neg (by omega), if_pos h2]
theorem nF {r : RS} {w : List Bs} (h : (w.length : Int) = 4) (h0 : w.getD 0 [] ∈ r.sts) (h3 : w.getD 3 [] ∈ r.sts) (h1 : w.getD 1 [] ∈ r.ins) (h2 : w.getD 2 [] ∈ r.outs) (h4 : 0 ≤ (r.nx.getD (pos r.sts (w.getD 0 [])) []).getD (pos r.ins (w.getD 1 [])) 0) : bI r w = (r, 7) := by
  unfold bI; rw [if_neg (by omega), if_neg (by rintro (q | q | q | q) <;> exact q (by assumption)), if_pos h4]
theorem lj {r : RS} {w : List Bs} (h : (w.length : Int) = 4) (h0 : w.getD 0 [] ∈ r.sts) (h3 : w.getD 3 [] ∈ r.sts) (h1 : w.getD 1 [] ∈ r.ins) (h2 : w.getD 2 [] ∈ r.outs) (h4 : ¬ 0 ≤ (r.nx.getD (pos r.sts (w.getD 0 [])) []).getD (pos r.ins (w.getD 1 [])) 0) :
    bI r w = (fQ r (pos r.sts (w.getD 0 [])) (pos r.ins (w.getD 1 [])) (pos r.sts (w.getD 3 [])) (pos r.outs (w.getD 2 [])), 0) := by
  unfold bI; rw [if_neg (by omega), if_neg (by rintro (q | q | q | q) <;> exact q (by assumption)), if_neg h4]
theorem iq (R S I : TypeId) (r : RS) (w : List Bs) : (RT R S I r).length ≤ (RT R S I (bI r w).1).length := by
  rw [qk, qk]
  unfold bI fQ
  split
  · exact Nat.le_refl _
  · split
    · exact Nat.le_refl _
    · split
      · exact Nat.le_refl _
      · simp
theorem mb (R S I : TypeId) (r : RS) : (SH R S I r)[0]? = some (.vars R (rdC r (rdA r) (rdB r))) := rfl
theorem sD (R S I : TypeId) (r : RS) : (SH R S I r).set 0 (.vars R [.str r.nm, .list .str r.ins, .list .str r.outs, .int .i64 r.inp, .int .i64 r.st, rdA r, rdB r, .list .str r.sts, .int .i64 ((r.rd : Int) + 1), .int .i64 r.lf]) = SH R S I { r with rd := r.rd + 1 } := rfl
theorem eO {R S I : TypeId} {r : RS} (h : r.tb = true) : SH R S I r = RT R S I r := by unfold SH RT rdA rdB rdT; rw [if_pos h, if_pos h, if_pos h]
theorem rJ {r : RS} {w : List Bs} (h : ¬ (r.rd = 3 ∧ w.getD 0 [] = kwd 3)) : (ba r w).1.tb = r.tb ∧ (ba r w).1.nx = r.nx ∧ (ba r w).1.ot = r.ot := by
  unfold ba
  split
  · exact ⟨rfl, rfl, rfl⟩
  · rename_i h1
    split
    · exact ⟨rfl, rfl, rfl⟩
    · split
      · exact ⟨rfl, rfl, rfl⟩
      · split
        · exact ⟨rfl, rfl, rfl⟩
        · split
          · rename_i h3
            exfalso
            refine h ⟨h3, ?_⟩
            rw [← h3]
            exact Decidable.byContradiction fun q => h1 (.inl q)
          · exact ⟨rfl, rfl, rfl⟩
theorem ml {R S I : TypeId} {r : RS} {w : List Bs} (h3 : r.rd = 3 → r.tb = false) : f9 R S I r (rdA r) (rdB r) (rdT S I r) w = SH R S I (ba r w).1 := by
  by_cases h : r.rd = 3 ∧ w.getD 0 [] = kwd 3
  · rw [oP h]
    have e : ba r w = gO r (w.drop 1) := by
      unfold ba
      rw [if_neg (by rintro (q | q); exact q (by rw [h.1]; exact h.2); omega), if_neg (by omega), if_neg (by omega), if_neg (by omega), if_pos h.1]
    have ht := h3 h.1
    have hT : rdT S I r = [] := by unfold rdT; rw [ht]; rfl
    have hA : rdA r = .nils := by unfold rdA; rw [ht]; rfl
    rw [e, hT]
    unfold gO
    by_cases h0 : dt (w.drop 1) = 0
    · rw [if_pos h0, fa h0]
      rw [eO (show (gc r (w.drop 1)).tb = true from rfl)]
      unfold RT
      simp only [ar, aq, Nat.zero_add]
      rw [show (gc r (w.drop 1)).nx.length = (w.drop 1).length by unfold gc; simp [iY]]
      rfl
    · rw [if_neg h0, bv rfl h0]
      unfold SH
      rw [hT]
  · rw [j6 h]
    obtain ⟨h1, h2, h4⟩ := rJ h
    unfold SH rdA rdB rdT
    rw [h1, h2, h4]
theorem oA {r : RS} {w : List Bs} : (bI r w).1.tb = r.tb := by
  unfold bI fQ
  split
  · rfl
  · split
    · rfl
    · split <;> rfl
structure LOK (r : RS) : Prop where
  h3 : r.rd = 3 → r.tb = false ∧ 1 ≤ r.ins.length ∧ r.ins.length ≤ 64
  h5 : 5 ≤ r.rd → r.tb = true ∧ ROK r ∧ r.outs.length ≤ 1000000
  rl : r.rd ≤ 2000000
theorem qm {R S I : TypeId} {r : RS} (h : r.rd = 3 → r.tb = false) (w : List Bs) : (SH R S I r).length ≤ (SH R S I (ba r w).1).length := by rw [← ml h]; exact cD
theorem qe {R S I : TypeId} {r : RS} (h : r.tb = true) (w : List Bs) : (SH R S I r).length ≤ (SH R S I (bI r w).1).length := by rw [eO h, eO (oA.trans h)]; exact iq ..
theorem sG {s : Bs} {k : Nat} : ((s.getD k 0).toNat : Int) = 35 ↔ s.getD k 0 = 35 := by
  constructor
  · intro h
    apply UInt8.toNat_inj.1
    have e : ((35 : UInt8).toNat : Int) = 35 := by decide
    omega
  · intro h; rw [h]; decide
theorem mB {r : RS} {w : List Bs} : (ba r w).1.rd = r.rd := by
  unfold ba gO gc
  repeat' split
  all_goals rfl
theorem ow {r : RS} {w : List Bs} : (bI r w).1.rd = r.rd := by
  unfold bI fQ
  repeat' split
  all_goals rfl
theorem fY {r : RS} {s : Bs} (h : du s [10] = false) : aW r s = (r, 5) := if_pos h
theorem iV {r : RS} {s : Bs} (h : du s [10] = true) (h2 : s.take (s.length - 1) = [] ∨ (((s.take (s.length - 1)).getD 0 0).toNat : Int) = 35) : aW r s = (r, 0) := by
  unfold aW
  rw [if_neg (by rw [h]; decide), if_pos]
  rcases h2 with h2 | h2
  · exact .inl h2
  · exact .inr (sG.1 h2)
theorem la {r : RS} {s : Bs} (h : du s [10] = true) (h2 : ¬ s.take (s.length - 1) = [] ∧ ¬ (((s.take (s.length - 1)).getD 0 0).toNat : Int) = 35) : aW r s = if [] ∈ spB 32 (s.take (s.length - 1)) then (r, 5) else ct (eD r (spB 32 (s.take (s.length - 1)))) := by
  unfold aW
  rw [if_neg (by rw [h]; decide), if_neg]
  rintro (q | q)
  · exact h2.1 q
  · exact h2.2 (sG.2 q)
theorem gg {r : RS} {s : Bs} (h : du s [10] = true) (h2 : ¬ s.take (s.length - 1) = [] ∧ ¬ (((s.take (s.length - 1)).getD 0 0).toNat : Int) = 35) (h3 : [] ∈ spB 32 (s.take (s.length - 1))) : aW r s = (r, 5) := by rw [la h h2, if_pos h3]
theorem iW {r : RS} {s : Bs} (h : du s [10] = true) (h2 : ¬ s.take (s.length - 1) = [] ∧ ¬ (((s.take (s.length - 1)).getD 0 0).toNat : Int) = 35) (h3 : ¬ [] ∈ spB 32 (s.take (s.length - 1))) (h4 : (r.rd : Int) < 5) : aW r s = ({ (ba r (spB 32 (s.take (s.length - 1)))).1 with rd := (ba r (spB 32 (s.take (s.length - 1)))).1.rd + 1 }, (ba r (spB 32 (s.take (s.length - 1)))).2) := by
  rw [la h h2, if_neg h3]; unfold ct eD; rw [if_pos (by omega)]
theorem ig {r : RS} {s : Bs} (h : du s [10] = true) (h2 : ¬ s.take (s.length - 1) = [] ∧ ¬ (((s.take (s.length - 1)).getD 0 0).toNat : Int) = 35) (h3 : ¬ [] ∈ spB 32 (s.take (s.length - 1))) (h4 : 5 ≤ (r.rd : Int)) : aW r s = ({ (bI r (spB 32 (s.take (s.length - 1)))).1 with rd := (bI r (spB 32 (s.take (s.length - 1)))).1.rd + 1 }, (bI r (spB 32 (s.take (s.length - 1)))).2) := by
  rw [la h h2, if_neg h3]; unfold ct eD; rw [if_neg (by omega)]
theorem ui {R S I : TypeId} {r : RS} (h : LOK r) (s : Bs) : (SH R S I r).length ≤ (SH R S I (aW r s).1).length := by
  unfold aW
  split
  · exact Nat.le_refl _
  · split
    · exact Nat.le_refl _
    · split
      · exact Nat.le_refl _
      · unfold ct eD
        split
        · exact qm (fun e => (h.h3 e).1) _
        · exact qe (h.h5 (by omega)).1 _
/-plain-/
def eZ : Mdl := ⟨[], [], [], ⟨0, 0, [], []⟩⟩
def lQ (r : RS) : Mdl := ⟨r.nm, r.ins, r.outs, ⟨r.inp, r.st, r.nx, r.ot⟩⟩
def mm (k : Nat) (r : RS) : Mdl × Int × Int := if r.rd < 5 ∨ 0 < r.lf then (eZ, (k : Int) + 1, 12) else (lQ r, 0, 0)
def PL : List Bs → Nat → RS → Mdl × Int × Int
  | [], k, r => mm k r
  | l :: ls, k, r => if (aW r l).2 = 0 then PL ls (k + 1) (aW r l).1 else (eZ, (k : Int) + 1, (aW r l).2)
def gN : Nat → Bs → List Bs
  | 0, _ => []
  | f + 1, s => if s = [] then [] else s.take (lnE s) :: gN f (s.drop (lnE s))
def lns (s : Bs) : List Bs := gN s.length s
theorem ro : ∀ f, gN f [] = []
  | 0 => rfl
  | f + 1 => if_pos rfl
theorem gZ : ∀ (f : Nat) (s : Bs), s.length ≤ f → gN f s = gN s.length s
  | 0, s, h => by
    obtain rfl : s = [] := List.eq_nil_of_length_eq_zero (by omega)
    rfl
  | f + 1, s, h => by
    by_cases e : s = []
    · subst e; rw [ro]; rfl
    · have hp := ll e
      have hl := List.length_pos_iff.2 e
      obtain ⟨m, hm⟩ : ∃ m, s.length = m + 1 := ⟨s.length - 1, by omega⟩
      rw [hm]
      show (if s = [] then [] else s.take (lnE s) :: gN f (s.drop (lnE s))) = (if s = [] then [] else s.take (lnE s) :: gN m (s.drop (lnE s)))
      rw [if_neg e, if_neg e, gZ f (s.drop (lnE s)) (by rw [List.length_drop]; omega)]
      rw [gZ m (s.drop (lnE s)) (by rw [List.length_drop]; omega)]
 termination_by f => f
theorem j1 {s : Bs} (e : s ≠ []) : lns s = s.take (lnE s) :: lns (s.drop (lnE s)) := by
  have hp := ll e
  have hl := List.length_pos_iff.2 e
  obtain ⟨m, hm⟩ : ∃ m, s.length = m + 1 := ⟨s.length - 1, by omega⟩
  unfold lns
  rw [hm]
  show (if s = [] then [] else s.take (lnE s) :: gN m (s.drop (lnE s))) = _
  rw [if_neg e, gZ m _ (by rw [List.length_drop]; omega)]
def PM (s : Bs) : Mdl × Int × Int := if 1048576 < s.length then (eZ, 0, 3) else PL (lns s) 0 rs0
def bK (s : Bs) : Nat → RS
  | 0 => rs0
  | k + 1 => (aW (bK s k) (bV s k)).1
def OKR (s : Bs) (k : Nat) : Prop := ∀ j, j < k → aN s j ≠ [] ∧ (aW (bK s j) (bV s j)).2 = 0
theorem pJ {s : Bs} (h0 : ¬ 1048576 < s.length) : ∀ k, OKR s k → PM s = PL (lns (aN s k)) k (bK s k)
  | 0, _ => if_neg h0
  | k + 1, h => by
    rw [pJ h0 k fun j hj => h j (by omega)]
    obtain ⟨h1, h2⟩ := h k (by omega)
    rw [j1 h1]
    show (if (aW (bK s k) (bV s k)).2 = 0 then PL (lns (aN s (k + 1))) (k + 1) (bK s (k + 1)) else _) = _
    rw [if_pos h2]
theorem tl {s : Bs} (h0 : ¬ 1048576 < s.length) {k : Nat} (h : OKR s k) (he : aN s k = []) : PM s = mm k (bK s k) := by rw [pJ h0 k h, he]; rfl
theorem tQ {s : Bs} (h0 : ¬ 1048576 < s.length) {k : Nat} (h : OKR s k) (he : aN s k ≠ []) (h2 : ¬ (aW (bK s k) (bV s k)).2 = 0) : PM s = (eZ, (k : Int) + 1, (aW (bK s k) (bV s k)).2) := by
  rw [pJ h0 k h, j1 he]; exact if_neg h2
theorem rz {s : Bs} {k : Nat} (h : OKR s k) (he : aN s k ≠ []) (h2 : (aW (bK s k) (bV s k)).2 = 0) : OKR s (k + 1) := fun j hj => by
  by_cases e : j = k
  · subst e; exact ⟨he, h2⟩
  · exact h j (by omega)
structure RI (r : RS) : Prop where
  t3 : r.rd ≤ 3 → r.tb = false
  t4 : 4 ≤ r.rd → r.tb = true ∧ ROK r
  a1 : 2 ≤ r.rd → alE r.ins = 0
  a2 : 3 ≤ r.rd → alE r.outs = 0
  lf : 4 ≤ r.rd → -(r.rd : Int) ≤ r.lf ∧ r.lf ≤ 8192
theorem ud : RI rs0 := ⟨fun _ => rfl, fun h => by simp [rs0] at h, fun h => by simp [rs0] at h, fun h => by simp [rs0] at h, fun h => by simp [rs0] at h⟩
theorem t0 {r : RS} (h : RI r) (hr : r.rd ≤ 1900000) : LOK r := by
  refine ⟨fun e => ⟨h.t3 (by omega), ?_⟩, fun e => ?_, by omega⟩
  · have := fw (h.a1 (by omega)); exact ⟨this.n0, this.n1⟩
  · have := fw (h.a2 (by omega))
    have h4 := h.t4 (by omega)
    exact ⟨h4.1, h4.2, by have := this.n1; omega⟩
theorem rM {r : RS} {l : List Bs} (h : RI r) (h3 : r.rd = 3) (hn : dt l = 0) : RI { gc r l with rd := r.rd + 1 } := by
  have ha := fw (h.a1 (by omega))
  have hi0 := ha.n0
  have hi1 := ha.n1
  have hl : l.length ≤ 128 := by
    unfold dt at hn
    split at hn
    · omega
    · split at hn
      · omega
      · omega
  have hmu : (l.length : Int) * r.ins.length ≤ 128 * 64 := Int.mul_le_mul (by omega) (by omega) (by omega) (by omega)
  have hm0 : (0 : Int) ≤ (l.length : Int) * r.ins.length := Int.mul_nonneg (by omega) (by omega)
  have hrow : ∀ s, s < l.length → ((dy l.length r.ins.length).getD s []).length = r.ins.length := fun s hs => by
    unfold dy; simp [List.getD, hs]
  refine ⟨fun q => by simp only at q; omega, fun _ => ⟨rfl, iY .., iY .., hl, hi0, hi1, hrow, hrow, ?_, ?_⟩, fun _ => h.a1 (by omega), fun _ => h.a2 (by omega), fun _ => ⟨?_, ?_⟩⟩
  · show (-2000000 : Int) ≤ (l.length : Int) * r.ins.length; omega
  · show (l.length : Int) * r.ins.length ≤ 1000000; omega
  · show -((r.rd + 1 : Nat) : Int) ≤ (l.length : Int) * r.ins.length; omega
  · show (l.length : Int) * r.ins.length ≤ 8192; omega
theorem sd {r : RS} {w : List Bs} (h : RI r) (h5 : r.rd < 5) (he : (ba r w).2 = 0) : RI { (ba r w).1 with rd := (ba r w).1.rd + 1 } := by
  unfold ba at he ⊢
  split
  · rename_i q; rw [if_pos q] at he; simp at he
  · rename_i q
    rw [if_neg q] at he
    split
    · rename_i e0
      have := h.t3 (by omega)
      exact ⟨fun _ => this, fun q => by simp only at q; omega, fun q => by simp only at q; omega, fun q => by simp only at q; omega, fun q => by simp only at q; omega⟩
    · rename_i e0
      rw [if_neg e0] at he
      split
      · rename_i e1
        rw [if_pos e1] at he
        have := h.t3 (by omega)
        exact ⟨fun _ => this, fun q => by simp only at q; omega, fun _ => he, fun q => by simp only at q; omega, fun q => by simp only at q; omega⟩
      · rename_i e1
        rw [if_neg e1] at he
        split
        · rename_i e2
          rw [if_pos e2] at he
          have := h.t3 (by omega)
          exact ⟨fun _ => this, fun q => by simp only at q; omega, fun _ => h.a1 (by omega), fun _ => he, fun q => by simp only at q; omega⟩
        · rename_i e2
          rw [if_neg e2] at he
          split
          · rename_i e3
            rw [if_pos e3] at he
            unfold gO at he ⊢
            split
            · rename_i en
              exact rM h e3 en
            · rename_i en; rw [if_neg en] at he; exact absurd he en
          · rename_i e3
            have h4 := h.t4 (by omega)
            have hl := h.lf (by omega)
            refine ⟨fun q => by simp only at q; omega, fun _ => ⟨h4.1, h4.2.nl, h4.2.ol, h4.2.n2, h4.2.i1, h4.2.i2, h4.2.rl, h4.2.ql, h4.2.l0, h4.2.l1⟩, fun _ => h.a1 (by omega), fun _ => h.a2 (by omega), fun _ => ⟨?_, hl.2⟩⟩
            show -((r.rd + 1 : Nat) : Int) ≤ r.lf
            omega
theorem gR {xs : List (List Int)} {s a : Nat} {v : Int} (i : Nat) : ((xs.set s ((xs.getD s []).set a v)).getD i []).length = (xs.getD i []).length := by
  simp only [List.getD, List.getElem?_set]
  split
  · rename_i e; subst e
    split
    · rename_i hlt; simp [List.getElem?_eq_getElem hlt]
    · rename_i hlt; simp [List.getElem?_eq_none (by omega : xs.length ≤ s)]
  · rfl
theorem th {r : RS} {w : List Bs} (h : RI r) (h5 : 5 ≤ r.rd) (hr : r.rd ≤ 1900000) (he : (bI r w).2 = 0) : RI { (bI r w).1 with rd := (bI r w).1.rd + 1 } := by
  have h4 := h.t4 (by omega)
  have hl := h.lf (by omega)
  have key : ∀ s a t o, RI { fQ r s a t o with rd := (fQ r s a t o).rd + 1 } := fun s a t o => by
    refine ⟨fun q => by simp only [fQ] at q; omega, fun _ => ⟨h4.1, by simp only [fQ, List.length_set]; exact h4.2.nl, by simp only [fQ, List.length_set]; exact h4.2.ol, h4.2.n2, h4.2.i1, h4.2.i2, fun i hi => ?_, fun i hi => ?_, ?_, ?_⟩, fun _ => h.a1 (by omega), fun _ => h.a2 (by omega), fun _ => ⟨?_, ?_⟩⟩
    · exact (gR i).trans (h4.2.rl i hi)
    · exact (gR i).trans (h4.2.ql i hi)
    · show (-2000000 : Int) ≤ r.lf - 1; omega
    · show r.lf - 1 ≤ 1000000; omega
    · show -((r.rd + 1 : Nat) : Int) ≤ r.lf - 1; omega
    · show r.lf - 1 ≤ 8192; omega
  unfold bI at he ⊢
  split
  · rename_i q; rw [if_pos q] at he; simp at he
  · rename_i q
    rw [if_neg q] at he
    split
    · rename_i q2; rw [if_pos q2] at he; simp at he
    · rename_i q2
      rw [if_neg q2] at he
      split
      · rename_i q3; rw [if_pos q3] at he; simp at he
      · exact key _ _ _ _
theorem nY {r : RS} {s : Bs} (h : RI r) (hr : r.rd ≤ 1900000) (he : (aW r s).2 = 0) : RI (aW r s).1 ∧ (aW r s).1.rd ≤ r.rd + 1 := by
  unfold aW at he ⊢
  split
  · rename_i q; rw [if_pos q] at he; simp at he
  · rename_i q
    rw [if_neg q] at he
    split
    · exact ⟨h, Nat.le_succ _⟩
    · rename_i q2
      rw [if_neg q2] at he
      split
      · rename_i q3; rw [if_pos q3] at he; simp at he
      · rename_i q3
        rw [if_neg q3] at he
        unfold ct eD at he ⊢
        split
        · rename_i q4
          rw [if_pos q4] at he
          exact ⟨sd h q4 he, by simp only; rw [mB]; exact Nat.le_refl _⟩
        · rename_i q4
          rw [if_neg q4] at he
          exact ⟨th h (by omega) hr he, by simp only; rw [ow]; exact Nat.le_refl _⟩
theorem km {s : Bs} (hs : s.length ≤ 1048576) : ∀ {k : Nat}, OKR s k → RI (bK s k) ∧ (bK s k).rd ≤ k ∧ k ≤ s.length
  | 0, _ => ⟨ud, Nat.le_refl _, Nat.zero_le _⟩
  | k + 1, h => by
    obtain ⟨h1, h2, h3⟩ := km hs (k := k) fun j hj => h j (by omega)
    obtain ⟨h4, h5⟩ := h k (by omega)
    have h6 := gx s k h4
    have h7 := List.length_pos_iff.2 h4
    obtain ⟨g1, g2⟩ := nY h1 (by omega) h5
    exact ⟨g1, by show (aW (bK s k) (bV s k)).1.rd ≤ k + 1; omega, by omega⟩
/-plain-/
/-plain-/
def dx (L : List Bs) : Bs := (L.map (· ++ [10])).flatten
theorem gm (l : Bs) (L : List Bs) : dx (l :: L) = l ++ 10 :: dx L := by unfold dx; simp
theorem jy : ∀ {l : Bs} {L : List Bs}, Lib.join (l :: L) [10] ++ [10] = dx (l :: L)
  | l, [] => by rw [Lib.join_one, gm]; simp [dx]
  | l, m :: L => by rw [dw, gm, ← jy]; simp
theorem uE {l s : Bs} (h : (10 : UInt8) ∉ l) : Lib.indexByte (l ++ 10 :: s) 10 = l.length := by
  induction l with
  | nil => simp [Lib.indexByte]
  | cons b l ih =>
    simp only [List.mem_cons, not_or] at h
    have := ih h.2
    rw [ak]
    unfold Lib.indexByte
    have e : (b == 10) = false := by simpa using Ne.symm h.1
    rw [e, this]
    have e2 : ((l.length : Int) == -1) = false := beq_eq_false_iff_ne.2 (by omega)
    rw [e2]
    simp
theorem tq {l s : Bs} (h : (10 : UInt8) ∉ l) : lnE (l ++ 10 :: s) = l.length + 1 := by
  unfold lnE; rw [uE h, if_neg (by omega)]; rfl
theorem m5 : ∀ {L : List Bs}, (∀ l, l ∈ L → (10 : UInt8) ∉ l) → lns (dx L) = L.map (· ++ [10])
  | [], _ => rfl
  | l :: L, h => by
    have h1 := h l (by simp)
    rw [gm, j1 (by simp), tq h1]
    have e1 : (l ++ 10 :: dx L).take (l.length + 1) = l ++ [10] := by rw [List.take_append, List.take_of_length_le (by omega)]; simp
    have e2 : (l ++ 10 :: dx L).drop (l.length + 1) = dx L := by rw [List.drop_append, List.drop_of_length_le (by omega)]; simp
    rw [e1, e2, m5 fun x hx => h x (aC _ hx)]; rfl
def fO (r : RS) (l : Bs) : RS × Int := if l = [] ∨ l.getD 0 0 = 35 then (r, 0) else if [] ∈ spB 32 l then (r, 5) else ct (eD r (spB 32 l))
theorem pa (r : RS) (l : Bs) : aW r (l ++ [10]) = fO r l := by
  have h1 : du (l ++ [10]) [10] = true := rA.2 (List.suffix_append _ _)
  have h2 : (l ++ [(10 : UInt8)]).take ((l ++ [(10 : UInt8)]).length - 1) = l := by simp
  unfold aW fO
  rw [h1, h2, if_neg (by decide)]
theorem jL {r : RS} {w : Bs} {ws : List Bs} (h : ∀ y, y ∈ w :: ws → (32 : UInt8) ∉ y ∧ y ≠ []) (h35 : w.getD 0 0 ≠ 35) : fO r (Lib.join (w :: ws) [32]) = ct (eD r (w :: ws)) := by
  have hs := kS (c := 32) (x := w) (r := ws) fun y hy => (h y hy).1
  have hw := (h w (by simp)).2
  obtain ⟨b, w', rfl⟩ : ∃ b w', w = b :: w' := by cases w with
    | nil => exact absurd rfl hw
    | cons b w' => exact ⟨b, w', rfl⟩
  have hj : ∃ t, Lib.join ((b :: w') :: ws) [32] = b :: t := ⟨_, by rw [Lib.join_cons, ak]⟩
  obtain ⟨t, ht⟩ := hj
  unfold fO
  rw [hs, if_neg, if_neg]
  · intro hm; exact (h [] hm).2 rfl
  · rw [ht]; rintro (q | q)
    · cases q
    · exact h35 (by simpa [List.getD] using q)
theorem sT {L : List Bs} (h : ∀ l, l ∈ L → (10 : UInt8) ∉ l) (hs : ¬ 1048576 < (dx L).length) : PM (dx L) = PL (L.map (· ++ [10])) 0 rs0 := by
  unfold PM; rw [if_neg hs, m5 h]
theorem fb {L : List Bs} {k : Nat} {r r' : RS} {l : Bs} (h : fO r l = (r', 0)) : PL ((l :: L).map (· ++ [10])) k r = PL (L.map (· ++ [10])) (k + 1) r' := by
  rw [aS]
  show (if (aW r (l ++ [10])).2 = 0 then PL _ (k + 1) (aW r (l ++ [10])).1 else _) = _
  rw [pa, h, if_pos rfl]
theorem eC {s : Bs} (h : aY s = true) : s ≠ [] := fun e => by have := (cT h).2.1; rw [e] at this; simp at this
theorem rW {c : UInt8} (h : okI (c.toNat : Int)) : c ≠ 32 ∧ c ≠ 10 ∧ c ≠ 35 := by
  unfold okI at h
  refine ⟨fun e => ?_, fun e => ?_, fun e => ?_⟩ <;> (subst e; simp at h)
theorem oa {s : Bs} (h : aY s = true) : s.getD 0 0 ≠ 35 := by
  cases s with
  | nil => exact absurd rfl (eC h)
  | cons b s => exact (rW ((cT h).1 b (by simp))).2.2
theorem lD {s : Bs} (h : aY s = true) : (10 : UInt8) ∉ s := fun hm => (rW ((cT h).1 _ hm)).2.1 rfl
theorem lr : ∀ i : Nat, i < 128 → aY (qn i) = true ∧ ∀ j : Nat, j < i → qn j ≠ qn i := by decide +kernel
theorem dG {i : Nat} (h : i < 128) : aY (qn i) = true := (lr i h).1
theorem qw {i j : Nat} (hi : i < 128) (hj : j < 128) (e : qn i = qn j) : i = j := by
  rcases Nat.lt_trichotomy i j with h | h | h
  · exact absurd e ((lr j hj).2 i h)
  · exact h
  · exact absurd e.symm ((lr i hi).2 j h)
theorem tZ {n : Nat} (h : n ≤ 128) : ∀ i, i < n → nmE (qs n) i = 0 := fun i hi => by
  refine kG ?_ ?_
  · rw [cI hi]; exact dG (by omega)
  · rw [cI hi]
    intro hm
    obtain ⟨j, hj, e⟩ := mR.1 hm
    rw [List.length_take, ca] at hj
    rw [kJ (by omega), cI (by omega)] at e
    have := qw (by omega) (by omega) e
    omega
theorem rP {n : Nat} (h0 : 1 ≤ n) (h : n ≤ 128) : dt (qs n) = 0 := gD (by rw [ca]; omega) (by rw [ca]; omega) (by rw [ca]; exact tZ h)
theorem n7 {n i : Nat} (h : i < n) : qn i ∈ qs n := by rw [← cI h]; exact dR (by rw [ca]; exact h)
theorem nt {n i : Nat} (h : n ≤ 128) (hi : i < n) : pos (qs n) (qn i) = i :=
  (qp (fun j hj e => by rw [cI (by omega)] at e; have := qw (by omega) (by omega) e; omega) (by rw [ca]; exact hi) (cI hi)).1
/-plain-/
def nxD (n k : Nat) (done : List (Nat × Nat)) (m : List (List Int)) : List (List Int) := (List.range n).map fun s => (List.range k).map fun a => if (s, a) ∈ done then (m.getD s []).getD a 0 else -1
theorem sV (n k : Nat) (done : List (Nat × Nat)) (m : List (List Int)) : (nxD n k done m).length = n := by unfold nxD; simp
theorem nR {n k : Nat} {done : List (Nat × Nat)} {m : List (List Int)} {s : Nat} (h : s < n) : (nxD n k done m).getD s [] = (List.range k).map fun a => if (s, a) ∈ done then (m.getD s []).getD a 0 else -1 := by
  unfold nxD; simp [List.getD, h]
theorem tG {n k : Nat} {done : List (Nat × Nat)} {m : List (List Int)} {s a : Nat} (h : s < n) (ha : a < k) : ((nxD n k done m).getD s []).getD a 0 = if (s, a) ∈ done then (m.getD s []).getD a 0 else -1 := by
  rw [nR h]; simp [List.getD, ha]
theorem oR (n k : Nat) (m : List (List Int)) : nxD n k [] m = dy n k := by
  unfold nxD dy
  simp only [List.not_mem_nil, if_false]
  rw [show (List.range k).map (fun _ => (-1 : Int)) = List.replicate k (-1) by rw [List.map_const', List.length_range]]
  rw [List.map_const', List.length_range]
theorem oe {n k : Nat} {done : List (Nat × Nat)} {m : List (List Int)} {s a : Nat} (h : s < n) (ha : a < k) :
    (nxD n k done m).set s (((nxD n k done m).getD s []).set a ((m.getD s []).getD a 0)) = nxD n k (done ++ [(s, a)]) m := by
  rw [nR h]
  apply List.ext_getElem?
  intro i
  rw [List.getElem?_set]
  by_cases hi : s = i
  · subst hi
    rw [if_pos rfl, if_pos (by rw [sV]; exact h)]
    unfold nxD
    rw [List.getElem?_map, List.getElem?_range h, Option.map_some]
    congr 1
    apply List.ext_getElem?
    intro j
    rw [List.getElem?_set]
    by_cases hj : a = j
    · subst hj
      rw [if_pos rfl, if_pos (by simpa using ha), List.getElem?_map, List.getElem?_range ha, Option.map_some, if_pos (by simp)]
    · rw [if_neg hj, List.getElem?_map, List.getElem?_map]
      rcases Nat.lt_or_ge j k with hjk | hjk
      · rw [List.getElem?_range hjk, Option.map_some, Option.map_some]
        congr 1
        have : ((s, j) ∈ done ++ [(s, a)]) ↔ (s, j) ∈ done := by
          rw [List.mem_append, List.mem_singleton]
          exact ⟨fun q => q.elim id fun e => absurd (Prod.mk.inj e).2.symm hj, .inl⟩
        by_cases q : (s, j) ∈ done
        · rw [if_pos q, if_pos (this.2 q)]
        · rw [if_neg q, if_neg fun z => q (this.1 z)]
      · rw [List.getElem?_eq_none (by rw [List.length_range]; exact hjk)]; rfl
  · rw [if_neg hi]
    unfold nxD
    rw [List.getElem?_map, List.getElem?_map]
    rcases Nat.lt_or_ge i n with hin | hin
    · rw [List.getElem?_range hin, Option.map_some, Option.map_some]
      congr 1
      refine List.map_congr_left fun b _ => ?_
      have : ((i, b) ∈ done ++ [(s, a)]) ↔ (i, b) ∈ done := by
        rw [List.mem_append, List.mem_singleton]
        exact ⟨fun q => q.elim id fun e => absurd (Prod.mk.inj e).1.symm hi, .inl⟩
      by_cases q : (i, b) ∈ done
      · rw [if_pos q, if_pos (this.2 q)]
      · rw [if_neg q, if_neg fun z => q (this.1 z)]
    · rw [List.getElem?_eq_none (by rw [List.length_range]; exact hin)]; rfl
def stD (x : Mdl) (done : List (Nat × Nat)) : RS := ⟨x.nm, x.ins, x.outs, x.ins.length, x.m.st, nxD x.m.nx.length x.ins.length done x.m.nx, nxD x.m.nx.length x.ins.length done x.m.ot, qs x.m.nx.length, 5 + done.length, (x.m.nx.length : Int) * x.ins.length - done.length, true⟩
theorem ly (x : Mdl) (s a : Nat) : eU x s a = Lib.join [qn s, x.ins.getD a [], x.outs.getD ((x.m.ot.getD s []).getD a 0).toNat [], qn ((x.m.nx.getD s []).getD a 0).toNat] [32] := by
  unfold eU; rw [dw, dw, dw, Lib.join_one]; simp
theorem kj {xs : List Bs} (h : AOK xs) {y : Bs} (hy : y ∈ xs) : aY y = true := by
  obtain ⟨j, hj, rfl⟩ := mR.1 hy
  exact h.nm j hj
theorem re {x : Mdl} (h : MVO x) {done : List (Nat × Nat)} {s a : Nat} (hs : s < x.m.nx.length) (ha : a < x.ins.length) (hd : (s, a) ∉ done) : fO (stD x done) (eU x s a) = (stD x (done ++ [(s, a)]), 0) := by
  have hm := h.mo
  have hn2 := hm.n2
  have hil := h.il
  have hr := hm.nr s a hs (by omega)
  have ho := hm.or s a hs (by omega)
  have ho2 := h.ol s a hs (by omega)
  obtain ⟨t, ht⟩ : ∃ t : Nat, (x.m.nx.getD s []).getD a 0 = (t : Int) := ⟨((x.m.nx.getD s []).getD a 0).toNat, by omega⟩
  obtain ⟨o, hoo⟩ : ∃ o : Nat, (x.m.ot.getD s []).getD a 0 = (o : Int) := ⟨((x.m.ot.getD s []).getD a 0).toNat, by omega⟩
  have htl : t < x.m.nx.length := by omega
  have hol : o < x.outs.length := by omega
  have n0 := dG (i := s) (by omega)
  have n3 := dG (i := t) (by omega)
  have n1 := h.ai.nm a ha
  have n2 := h.ao.nm o hol
  rw [ly, ht, hoo, aE, aE]
  rw [jL (fun y hy => by
    simp only [List.mem_cons, List.not_mem_nil, or_false] at hy
    rcases hy with rfl | rfl | rfl | rfl
    · exact ⟨dO n0, eC n0⟩
    · exact ⟨dO n1, eC n1⟩
    · exact ⟨dO n2, eC n2⟩
    · exact ⟨dO n3, eC n3⟩) (oa n0)]
  unfold eD
  rw [if_neg (by show ¬ 5 + done.length < 5; omega)]
  have p0 : pos (qs x.m.nx.length) (qn s) = s := nt hn2 hs
  have p3 : pos (qs x.m.nx.length) (qn t) = t := nt hn2 htl
  have p1 := h.ai.pos ha
  have p2 := h.ao.pos hol
  have hneg : ((nxD x.m.nx.length x.ins.length done x.m.nx).getD s []).getD a 0 = -1 := by rw [tG hs ha, if_neg hd]
  have key := lj (r := stD x done) (w := [qn s, x.ins.getD a [], x.outs.getD o [], qn t]) rfl (n7 hs) (n7 htl) (dR ha) (dR hol) (by
    show ¬ 0 ≤ ((nxD x.m.nx.length x.ins.length done x.m.nx).getD (pos (qs x.m.nx.length) (qn s)) []).getD (pos x.ins (x.ins.getD a [])) 0
    rw [p0, p1, hneg]; decide)
  rw [key]
  unfold ct
  simp only [Prod.mk.injEq, and_true]
  show ({ fQ (stD x done) (pos (qs x.m.nx.length) (qn s)) (pos x.ins (x.ins.getD a [])) (pos (qs x.m.nx.length) (qn t)) (pos x.outs (x.outs.getD o [])) with rd := 5 + done.length + 1 } : RS) = _
  rw [p0, p1, p2, p3]
  unfold fQ stD
  simp only [RS.mk.injEq, ah, aj, aq, true_and, and_true]
  refine ⟨?_, ?_, by omega, by omega⟩
  · rw [← ht]; exact oe hs ha
  · rw [← hoo]; exact oe hs ha
theorem mC {x : Mdl} (h : MVO x) : ∀ {ps done : List (Nat × Nat)} {k : Nat}, (∀ p, p ∈ ps → p.1 < x.m.nx.length ∧ p.2 < x.ins.length) → (done ++ ps).Nodup →
    PL ((ps.map fun p => eU x p.1 p.2).map (· ++ [10])) k (stD x done) = mm (k + ps.length) (stD x (done ++ ps))
  | [], done, k, _, _ => by rw [List.append_nil]; rfl
  | p :: ps, done, k, hp, hn => by
    obtain ⟨h1, h2⟩ := hp p (by simp)
    have hd : (p.1, p.2) ∉ done := fun hm => by
      have := (List.nodup_append.1 hn).2.2
      exact this p hm p (by simp) rfl
    rw [aS, fb (re h h1 h2 hd)]
    have e : done ++ [(p.1, p.2)] ++ ps = done ++ p :: ps := by simp
    rw [mC h (fun q hq => hp q (aC _ hq)) (by rw [e]; exact hn), e]
    rw [aj, show k + 1 + ps.length = k + (ps.length + 1) by omega]
def rs1 (x : Mdl) : RS := { rs0 with nm := x.nm, rd := 1 }
def rs2 (x : Mdl) : RS := { rs1 x with ins := x.ins, rd := 2 }
def rs3 (x : Mdl) : RS := { rs2 x with outs := x.outs, rd := 3 }
def rs4 (x : Mdl) : RS := { gc (rs3 x) (qs x.m.nx.length) with rd := 4 }
theorem mJ : ∀ i : Nat, i < 5 → aY (kwd i) = true := by decide +kernel
theorem gn {r : RS} {i : Nat} (hi : i < 5) (hr : r.rd = i) {ws : List Bs} (h : ∀ y, y ∈ ws → aY y = true) : fO r (Lib.join (kwd i :: ws) [32]) = ct (ba r (kwd i :: ws)) := by
  have hk := mJ i hi
  rw [jL (fun y hy => by
    rcases List.mem_cons.1 hy with rfl | hy
    · exact ⟨dO hk, eC hk⟩
    · exact ⟨dO (h y hy), eC (h y hy)⟩) (oa hk)]
  unfold eD; rw [if_pos (by omega)]
theorem lN {w : Bs} {ws : List Bs} (h : ws ≠ []) : Lib.join (w :: ws) [32] = w ++ [32] ++ Lib.join ws [32] := by
  cases ws with
  | nil => exact absurd rfl h
  | cons y ws => exact dw ..
theorem mF {x : Mdl} (h : MVO x) : hdT x = [Lib.join [kwd 0, x.nm] [32], Lib.join (kwd 1 :: x.ins) [32], Lib.join (kwd 2 :: x.outs) [32], Lib.join (kwd 3 :: qs x.m.nx.length) [32], Lib.join [kwd 4, qn x.m.st.toNat] [32]] := by
  have h1 := h.ai.n0
  have h2 := h.ao.n0
  have h3 := h.mo.n1
  have e : ∀ {l : List Bs}, 1 ≤ l.length → l ≠ [] := fun h e => by rw [e] at h; simp at h
  rw [dw, dw, Lib.join_one, Lib.join_one, lN (e h1), lN (e h2), lN (e (by rw [ca]; exact h3))]
  rfl
theorem rF {x : Mdl} (h : MVO x) {L : List Bs} : PL ((hdT x ++ L).map (· ++ [10])) 0 rs0 = PL (L.map (· ++ [10])) 5 (stD x []) := by
  have hm := h.mo
  have hn1 := hm.n1
  have hn2 := hm.n2
  have hs1 := hm.s1
  have hs2 := hm.s2
  have hsn : x.m.st.toNat < x.m.nx.length := by omega
  rw [mF h]
  simp only [ak, ar]
  have l0 : fO rs0 (Lib.join [kwd 0, x.nm] [32]) = (rs1 x, 0) := by
    rw [gn (i := 0) (by decide) rfl (fun y hy => by rw [List.mem_singleton.1 hy]; exact h.nm), dF (r := rs0) (w := [kwd 0, x.nm]) ⟨rfl, .inr rfl⟩, if_pos (show (rs0).rd = 0 from rfl)]
    show ct (_, if aY x.nm = true then (0 : Int) else 9) = _
    rw [if_pos h.nm]; rfl
  have l1 : fO (rs1 x) (Lib.join (kwd 1 :: x.ins) [32]) = (rs2 x, 0) := by
    rw [gn (i := 1) (by decide) rfl (fun y hy => kj h.ai hy), dF (r := rs1 x) (w := kwd 1 :: x.ins) ⟨rfl, .inl ⟨(by decide : ¬ (1 : Int) = 0), (by decide : ¬ (1 : Int) = 4)⟩⟩, if_neg (show ¬ (rs1 x).rd = 0 from (by decide : ¬ (1 : Nat) = 0)), if_pos (show (rs1 x).rd = 1 from rfl)]
    show ct (_, alE x.ins) = _
    rw [fH (by have := h.ai.n0; omega) (by have := h.ai.n1; omega) fun q hq => kG (h.ai.nm q hq) (h.ai.nw q hq)]; rfl
  have l2 : fO (rs2 x) (Lib.join (kwd 2 :: x.outs) [32]) = (rs3 x, 0) := by
    rw [gn (i := 2) (by decide) rfl (fun y hy => kj h.ao hy), dF (r := rs2 x) (w := kwd 2 :: x.outs) ⟨rfl, .inl ⟨(by decide : ¬ (2 : Int) = 0), (by decide : ¬ (2 : Int) = 4)⟩⟩, if_neg (show ¬ (rs2 x).rd = 0 from (by decide : ¬ (2 : Nat) = 0)), if_neg (show ¬ (rs2 x).rd = 1 from (by decide : ¬ (2 : Nat) = 1)), if_pos (show (rs2 x).rd = 2 from rfl)]
    show ct (_, alE x.outs) = _
    rw [fH (by have := h.ao.n0; omega) (by have := h.ao.n1; omega) fun q hq => kG (h.ao.nm q hq) (h.ao.nw q hq)]; rfl
  have l3 : fO (rs3 x) (Lib.join (kwd 3 :: qs x.m.nx.length) [32]) = (rs4 x, 0) := by
    rw [gn (i := 3) (by decide) rfl (fun y hy => by
      obtain ⟨j, hj, rfl⟩ := mR.1 hy
      rw [ca] at hj
      rw [cI hj]; exact dG (by omega)), dF (r := rs3 x) (w := kwd 3 :: qs x.m.nx.length) ⟨rfl, .inl ⟨(by decide : ¬ (3 : Int) = 0), (by decide : ¬ (3 : Int) = 4)⟩⟩, if_neg (show ¬ (rs3 x).rd = 0 from (by decide : ¬ (3 : Nat) = 0)), if_neg (show ¬ (rs3 x).rd = 1 from (by decide : ¬ (3 : Nat) = 1)), if_neg (show ¬ (rs3 x).rd = 2 from (by decide : ¬ (3 : Nat) = 2)), if_pos (show (rs3 x).rd = 3 from rfl)]
    show ct (gO (rs3 x) (qs x.m.nx.length)) = _
    unfold gO
    rw [if_pos (rP hn1 hn2)]; rfl
  have l4 : fO (rs4 x) (Lib.join [kwd 4, qn x.m.st.toNat] [32]) = (stD x [], 0) := by
    rw [gn (i := 4) (by decide) rfl (fun y hy => by rw [List.mem_singleton.1 hy]; exact dG (by omega)), dF (r := rs4 x) (w := [kwd 4, qn x.m.st.toNat]) ⟨rfl, .inr rfl⟩, if_neg (show ¬ (rs4 x).rd = 0 from (by decide : ¬ (4 : Nat) = 0)), if_neg (show ¬ (rs4 x).rd = 1 from (by decide : ¬ (4 : Nat) = 1)), if_neg (show ¬ (rs4 x).rd = 2 from (by decide : ¬ (4 : Nat) = 2)), if_neg (show ¬ (rs4 x).rd = 3 from (by decide : ¬ (4 : Nat) = 3))]
    have hix : ixB (qs x.m.nx.length) (qn x.m.st.toNat) = x.m.st := by unfold ixB; rw [if_pos (n7 hsn), nt hn2 hsn]; omega
    show ct ({ rs4 x with st := ixB (qs x.m.nx.length) (qn x.m.st.toNat) }, if ixB (qs x.m.nx.length) (qn x.m.st.toNat) < 0 then (8 : Int) else 0) = _
    rw [hix, if_neg (by omega)]
    unfold ct stD
    rw [oR, oR]
    simp only [Prod.mk.injEq, and_true]
    unfold rs4 gc
    simp only [RS.mk.injEq, ca, aq, Nat.add_zero, true_and, and_true]
    refine ⟨rfl, rfl, rfl, rfl, rfl, rfl, ?_⟩
    show ((x.m.nx.length : Int) * x.ins.length) = (x.m.nx.length : Int) * x.ins.length - ((0 : Nat) : Int)
    omega
  rw [fb l0, fb l1, fb l2, fb l3, fb l4]
theorem mz {n k : Nat} {m : List (List Int)} {done : List (Nat × Nat)} (hl : m.length = n) (hr : ∀ s, s < n → (m.getD s []).length = k) (hd : ∀ s a, s < n → a < k → (s, a) ∈ done) : nxD n k done m = m := by
  apply List.ext_getElem?
  intro s
  unfold nxD
  rw [List.getElem?_map]
  rcases Nat.lt_or_ge s n with hs | hs
  · rw [List.getElem?_range hs, Option.map_some, List.getElem?_eq_getElem (by omega)]
    congr 1
    have e : m.getD s [] = m[s] := by simp [List.getD, List.getElem?_eq_getElem (show s < m.length by omega)]
    have hk := hr s hs
    rw [e] at hk ⊢
    apply List.ext_getElem?
    intro a
    rw [List.getElem?_map]
    rcases Nat.lt_or_ge a k with ha | ha
    · rw [List.getElem?_range ha, Option.map_some, if_pos (hd s a hs ha), List.getElem?_eq_getElem (by omega)]
      simp [List.getD, List.getElem?_eq_getElem (show a < m[s].length by omega)]
    · rw [List.getElem?_eq_none (by rw [List.length_range]; exact ha), List.getElem?_eq_none (by omega)]; rfl
  · rw [List.getElem?_eq_none (by rw [List.length_range]; exact hs), List.getElem?_eq_none (by omega)]; rfl
theorem rX {x : Mdl} (h : MVO x) {ps : List (Nat × Nat)} (hn : ps.Nodup) (hp : ∀ s a, (s, a) ∈ ps ↔ s < x.m.nx.length ∧ a < x.ins.length) (hl : ps.length = x.m.nx.length * x.ins.length)
    (hno : ∀ l, l ∈ hdT x ++ ps.map (fun p => eU x p.1 p.2) → (10 : UInt8) ∉ l) (hs : ¬ 1048576 < (dx (hdT x ++ ps.map fun p => eU x p.1 p.2)).length) : PM (dx (hdT x ++ ps.map fun p => eU x p.1 p.2)) = (x, 0, 0) := by
  have hm := h.mo
  have hil := h.il
  rw [sT hno hs, rF h, mC h (fun p hq => (hp p.1 p.2).1 hq) (by simpa using hn), ar]
  unfold mm
  have hlf : (stD x ps).lf = 0 := by
    show (x.m.nx.length : Int) * x.ins.length - ((ps.length : Nat) : Int) = 0
    rw [hl, Int.natCast_mul]; omega
  rw [if_neg (by rw [hlf]; show ¬ (5 + ps.length < 5 ∨ (0 : Int) < 0); omega)]
  have e1 := mz (n := x.m.nx.length) (k := x.ins.length) (m := x.m.nx) (done := ps) rfl (fun s hs => by have := hm.rl s hs; omega) (fun s a hs ha => (hp s a).2 ⟨hs, ha⟩)
  have e2 := mz (n := x.m.nx.length) (k := x.ins.length) (m := x.m.ot) (done := ps) hm.ol (fun s hs => by have := hm.ql s hs; omega) (fun s a hs ha => (hp s a).2 ⟨hs, ha⟩)
  unfold lQ stD
  simp only [e1, e2]
  obtain ⟨nm, ins, outs, ⟨inp, st, nx, ot⟩⟩ := x
  have : inp = (ins.length : Int) := hil
  subst this; rfl
/-plain-/
def prs (k : Nat) : Nat → List (Nat × Nat)
  | 0 => []
  | n + 1 => prs k n ++ (List.range k).map fun a => (n, a)
theorem iN {k : Nat} : ∀ {n : Nat} {s a : Nat}, (s, a) ∈ prs k n ↔ s < n ∧ a < k
  | 0, s, a => by simp [prs]
  | n + 1, s, a => by
    rw [prs, List.mem_append, iN, List.mem_map]
    constructor
    · rintro (h | ⟨b, hb, e⟩)
      · omega
      · have := List.mem_range.1 hb
        simp only [Prod.mk.injEq] at e; omega
    · rintro ⟨h1, h2⟩
      by_cases e : s = n
      · exact .inr ⟨a, List.mem_range.2 h2, by rw [e]⟩
      · exact .inl (by omega)
theorem lE {k : Nat} : ∀ n : Nat, (prs k n).Nodup
  | 0 => List.nodup_nil
  | n + 1 => by
    rw [prs, List.nodup_append]
    refine ⟨lE n, ?_, fun p hp q hq e => ?_⟩
    · unfold List.Nodup
      rw [List.pairwise_map]
      exact List.nodup_range.imp fun h e => h (Prod.mk.inj e).2
    · subst e
      obtain ⟨s, a⟩ := p
      have h1 := iN.1 hp
      obtain ⟨b, _, e⟩ := List.mem_map.1 hq
      simp only [Prod.mk.injEq] at e
      omega
theorem om {k : Nat} : ∀ n : Nat, (prs k n).length = n * k
  | 0 => by simp [prs]
  | n + 1 => by rw [prs, ah, om n, bY, List.length_range, Nat.add_mul, Nat.one_mul]
theorem mI {x : Mdl} (h : MVO x) : ∀ {n : Nat}, n ≤ x.m.nx.length → dh x n = (prs x.ins.length n).map fun p => eU x p.1 p.2
  | 0, _ => rfl
  | n + 1, hn => by
    have hr := h.mo.rl n (by omega)
    have hil := h.il
    rw [fq, mI h (by omega), prs, List.map_append, List.map_map]
    congr 1
    unfold dN
    rw [show (x.m.nx.getD n []).length = x.ins.length by omega]; rfl
theorem dK {ws : List Bs} (h : ∀ y, y ∈ ws → aY y = true) : (10 : UInt8) ∉ Lib.join ws [32] := by
  induction ws with
  | nil => simp [Lib.join_nil]
  | cons w ws ih =>
    cases ws with
    | nil => rw [Lib.join_one]; exact lD (h w (by simp))
    | cons v ws =>
      rw [dw]
      have := ih fun y hy => h y (aC _ hy)
      simp only [List.mem_append, List.mem_singleton, not_or]
      exact ⟨⟨lD (h w (by simp)), by decide⟩, this⟩
theorem qM {x : Mdl} (h : MVO x) {s a : Nat} (hs : s < x.m.nx.length) (ha : a < x.ins.length) : (10 : UInt8) ∉ eU x s a := by
  have hm := h.mo
  have hn2 := hm.n2
  have hil := h.il
  have hr := hm.nr s a hs (by omega)
  have ho := hm.or s a hs (by omega)
  have ho2 := h.ol s a hs (by omega)
  rw [ly]
  refine dK fun y hy => ?_
  simp only [List.mem_cons, List.not_mem_nil, or_false] at hy
  rcases hy with rfl | rfl | rfl | rfl
  · exact dG (by omega)
  · exact h.ai.nm a ha
  · exact h.ao.nm _ (by omega)
  · exact dG (by omega)
theorem s7 {x : Mdl} (h : MVO x) (l : Bs) (hl : l ∈ hdT x) : (10 : UInt8) ∉ l := by
  have hm := h.mo
  have hn2 := hm.n2
  have hs2 := hm.s2
  have hs1 := hm.s1
  rw [mF h] at hl
  simp only [List.mem_cons, List.not_mem_nil, or_false] at hl
  have hk := fun i hi => mJ i hi
  rcases hl with rfl | rfl | rfl | rfl | rfl
  · exact dK fun y hy => by simp only [List.mem_cons, List.not_mem_nil, or_false] at hy; rcases hy with rfl | rfl; exact hk 0 (by decide); exact h.nm
  · exact dK fun y hy => by rcases List.mem_cons.1 hy with rfl | hy; exact hk 1 (by decide); exact kj h.ai hy
  · exact dK fun y hy => by rcases List.mem_cons.1 hy with rfl | hy; exact hk 2 (by decide); exact kj h.ao hy
  · exact dK fun y hy => by
      rcases List.mem_cons.1 hy with rfl | hy
      · exact hk 3 (by decide)
      · obtain ⟨j, hj, rfl⟩ := mR.1 hy
        rw [ca] at hj
        rw [cI hj]; exact dG (by omega)
  · exact dK fun y hy => by simp only [List.mem_cons, List.not_mem_nil, or_false] at hy; rcases hy with rfl | rfl; exact hk 4 (by decide); exact dG (by omega)
theorem sP {x : Mdl} (h : mvE x = 0) : SM x = dx (hdT x ++ (prs x.ins.length x.m.nx.length).map fun p => eU x p.1 p.2) := by
  rw [i3 h, mI (iS h) (Nat.le_refl _)]
  exact jy
theorem oW {x : Mdl} (h : mvE x = 0) : (SM x).length ≤ 700001 := by
  rw [i3 h, ah]; have := mV (iS h); simp only [aj, aq]; omega
theorem o3 {x : Mdl} (h : mvE x = 0) : PM (SM x) = (x, 0, 0) := by
  have hv := iS h
  have hz := oW h
  rw [sP h] at hz ⊢
  refine rX hv (lE _) (fun s a => iN) (om _) (fun l hl => ?_) (by omega)
  rcases List.mem_append.1 hl with hl | hl
  · exact s7 hv l hl
  · obtain ⟨p, hp, rfl⟩ := List.mem_map.1 hl
    have := iN.1 (show (p.1, p.2) ∈ _ from hp)
    exact qM hv this.1 this.2
def lS (x y : Mdl) : Bool := decide (x.nm = y.nm) && decide (x.ins = y.ins) && decide (x.outs = y.outs) && iB x.m y.m
theorem pw {x y : Mdl} : lS x y = true ↔ x = y := by
  obtain ⟨a, b, c, ⟨d, e, f, g⟩⟩ := x
  obtain ⟨a', b', c', ⟨d', e', f', g'⟩⟩ := y
  unfold lS iB
  simp only [Bool.and_eq_true, decide_eq_true_eq, Mdl.mk.injEq, Mly.mk.injEq]
  constructor
  · rintro ⟨⟨⟨h1, h2⟩, h3⟩, ⟨⟨⟨h4, h5⟩, h6⟩, h7⟩⟩; exact ⟨h1, h2, h3, h4, h5, h6, h7⟩
  · rintro ⟨h1, h2, h3, h4, h5, h6, h7⟩; exact ⟨⟨⟨h1, h2⟩, h3⟩, ⟨⟨⟨h4, h5⟩, h6⟩, h7⟩⟩
theorem bQ (x : Mdl) : lS x x = true := pw.2 rfl
/-plain-/
def eh : Mdl := ⟨[103, 97, 116, 101], [[99, 111, 105, 110], [112, 117, 115, 104]], [[110, 111], [111, 107], [116, 117, 114, 110]], ⟨2, 0, [[1, 0], [1, 0]], [[1, 0], [1, 2]]⟩⟩
@[reducible] def gtx : Bs := [109, 97, 99, 104, 105, 110, 101, 32, 103, 97, 116, 101, 10, 105, 110, 112, 117, 116, 115, 32, 99, 111, 105, 110, 32, 112, 117, 115, 104, 10, 111, 117, 116, 112, 117, 116, 115, 32, 110, 111, 32, 111, 107, 32, 116, 117, 114, 110, 10, 115, 116, 97, 116, 101, 115, 32, 113, 48, 32, 113, 49, 10, 115, 116, 97, 114, 116, 32, 113, 48, 10, 113, 48, 32, 99, 111, 105, 110, 32, 111, 107, 32, 113, 49, 10, 113, 48, 32, 112, 117, 115, 104, 32, 110, 111, 32, 113, 48, 10, 113, 49, 32, 99, 111, 105, 110, 32, 111, 107, 32, 113, 49, 10]
@[reducible] def gtA : Bs := gtx ++ [113, 49, 32, 112, 117, 115, 104, 32, 116, 117, 114, 110, 32, 113, 48, 10]
@[reducible] def gtB : Bs := gtx ++ [113, 49, 32, 112, 117, 115, 104, 32, 116, 117, 114, 110, 32, 113, 50, 10]
@[reducible] def gtC : Bs := gtx ++ [113, 49, 32, 99, 111, 105, 110, 32, 116, 117, 114, 110, 32, 113, 48, 10]
theorem nC : mvE eh = 0 := by
  refine kI (by decide +kernel) (by decide +kernel) (by decide +kernel) (by decide +kernel) ⟨rfl, ?_⟩
  rw [ga (by decide +kernel), ← rq]
  decide +kernel
theorem qq : SM eh = gtA := by rw [i3 nC]; decide +kernel
theorem tT : PM gtA = (eh, 0, 0) := by rw [← qq]; exact o3 nC
theorem pT : (PM gtx).2 = (9, 12) := by decide +kernel
theorem qf : (PM gtB).2 = (9, 8) := by decide +kernel
theorem qj : (PM gtC).2 = (9, 7) := by decide +kernel
theorem qb : (PM []).2 = (1, 12) := by decide +kernel
/-plain-/
def dH (P : Program) (X : Nat → Prop) (W : World) : Ctx := { P := P, X := X, keep := fun _ => False, w0 := W, N := 0, bL := [], bσ := fun _ => undef, bw := W }
def jD (P : Program) (X : Nat → Prop) (L : List AO) (σ : Sig) (W : World) : Prop := INV (dH P X W) L σ W
structure KEPT (X : Nat → Prop) (W W' : World) : Prop where
  size : W.heap.size ≤ W'.heap.size
  same : ∀ b, X b → W'.heap[b]? = W.heap[b]?
  os : W'.os = W.os
  tape : W'.tape = W.tape
  output : W'.output = W.output
theorem pM {P : Program} {X : Nat → Prop} {L : List AO} {σ : Sig} {W : World} {f : FuncId} {args : List AV} {out : Out} {vs : List Value} (h : cH P L f args out) (hH : jD P X L σ W) (ha : aM (RV (dH P X W) L σ W) args vs) :
    Calls P f vs.toArray W fun e W' => ∃ v σ', e = .returned v ∧ jD P X (app L out) σ' W' ∧ RV (dH P X W') (app L out) σ' W' out.av v ∧ KEPT X W W' ∧ ∀ c u, RC (dH P X W) L σ W c u → RC (dH P X W') (app L out) σ' W' c u := by
  let C2 : Ctx := { P := P, X := X, keep := fun b => b < W.heap.size ∧ ¬ ∃ o, own L σ o b, w0 := W, N := 0, bL := [], bσ := fun _ => undef, bw := W }
  have hX : C2.X = (dH P X W).X := rfl
  have hP : C2.P = (dH P X W).P := rfl
  have hI : INV C2 L σ W := ⟨fun o ob e => by rw [kd hX hP]; exact hH.ob o ob e, hH.inj, fun o b ho => ⟨fun hk => hk.2 ⟨o, ho⟩, (hH.off o b ho).2⟩, fun b hb => ⟨hb.1, rfl⟩, fun b hb => hH.xlt b hb, Nat.le_refl _, rfl, rfl, rfl⟩
  refine (h.2 C2 L σ W vs rfl hI (by rw [kl hX]; exact ha) (fun _ _ => rfl) rfl).mono fun e W' hh => ?_
  obtain ⟨v, he, σ', g1, g2, g3⟩ := hh
  have hX2 : C2.X = (dH P X W').X := rfl
  have hP2 : C2.P = (dH P X W').P := rfl
  refine ⟨v, σ', he, ⟨fun o ob e => by rw [← kd hX2 hP2]; exact g1.ob o ob e, g1.inj, fun o b ho => ⟨fun hk => hk, (g1.off o b ho).2⟩, fun b hb => hb.elim, fun b hb => Nat.lt_of_lt_of_le (hH.xlt b hb) g1.size, Nat.le_refl _, rfl, rfl, rfl⟩, by rw [← kl hX2]; exact g2,
    ⟨g1.size, fun b hb => ?_, g1.os, g1.tape, g1.output⟩, fun c u hc => ?_⟩
  · exact (g1.kept b ⟨hH.xlt b hb, fun ⟨o, ho⟩ => (hH.off o b ho).2 hb⟩).2
  · rw [← gC hX2]; exact g3 c u (by rw [gC hX]; exact hc)
section
variable {C C' : Ctx} {L : List AO} {σ : Sig} {W W' : World}
theorem ja (hs : W.heap.size ≤ W'.heap.size) (hk : ∀ b, b < W.heap.size → ¬ avd C L σ b → W'.heap[b]? = W.heap[b]?) (hav : ∀ b, b < W.heap.size → avd C' L σ b → avd C L σ b) {t : Ty} {d : t.den} {off : Nat} {v : Value} (h : eB C L σ W t d off v) : eB C' L σ W' t d off v := by
  obtain ⟨b, o, cs, e, h1, h2, h3, h4⟩ := h
  exact ⟨b, o, cs, e, fun h => h1 (hav b h2 h), Nat.lt_of_lt_of_le h2 hs, fun j hj => by rw [← h3 j hj]; exact World.cell?_of_block (hk b h2 h1), h4.keep hs hk hav⟩
theorem oQ (hs : W.heap.size ≤ W'.heap.size) (hk : ∀ b, b < W.heap.size → ¬ avd C L σ b → W'.heap[b]? = W.heap[b]?) (hav : ∀ b, b < W.heap.size → avd C' L σ b → avd C L σ b) {f : FuncId} {ds : List ((t : Ty) × t.den)} {v : Value} (h : RFN C L σ W f ds v) : RFN C' L σ W' f ds v := by
  obtain ⟨b, o, vs, e, h1, h2, h3, h4⟩ := h
  exact ⟨b, o, vs, e, fun h => h1 (hav b h2 h), Nat.lt_of_lt_of_le h2 hs, by rw [← h3]; exact World.cell?_of_block (hk b h2 h1), h4.mono fun p u hp => ⟨hp.1, ja hs hk hav hp.2⟩⟩
theorem u0 (hs : W.heap.size ≤ W'.heap.size) (hk : ∀ b, b < W.heap.size → ¬ avd C L σ b → W'.heap[b]? = W.heap[b]?) (hav : ∀ b, b < W.heap.size → avd C' L σ b → avd C L σ b) {c : AC} {v : Value} (h : RC C L σ W c v) : RC C' L σ W' c v := by
  refine ⟨h.1, ?_⟩
  have h2 := h.2
  cases c with
  | list t xs => exact h2.keep hs hk hav
  | pat t d off => exact ja hs hk hav h2
  | pfn f ds => exact oQ hs hk hav h2
  | fn f caps =>
    obtain ⟨vs, e, ha⟩ := h2
    refine ⟨vs, e, ha.mono fun p u hp => ?_⟩
    cases p with
    | ref o => exact hp
    | pat t d => exact ⟨hp.1, ja hs hk hav hp.2⟩
    | pfn f ds => exact ⟨hp.1, oQ hs hk hav hp.2⟩
  | _ => exact h2
theorem oY {base : Nat} {e : TypeId} {sz : Nat} {v : Value} {n : Nat} {flat : List Value} (h : W.ownsRow base e sz v n flat) (hb : ∀ b, blk v = some b → W'.heap[b]? = W.heap[b]?) : W'.ownsRow base e sz v n flat := by
  refine ⟨h.1, ?_⟩
  rcases h.2 with h2 | ⟨g, cap, cur, e1, e2, e3, e4⟩
  · exact .inl h2
  · exact .inr ⟨g, cap, cur, e1, e2, by rw [hb g (by rw [e1]; rfl)]; exact e3, e4⟩
end
theorem rI {P : Program} {X X' : Nat → Prop} {L : List AO} {σ : Sig} {W W' : World} (hH : jD P X L σ W) (hs : W.heap.size ≤ W'.heap.size) (hk : ∀ b, b < W.heap.size → ¬ X b → W'.heap[b]? = W.heap[b]?)
    (hX : ∀ b, X' b → b < W.heap.size → X b) (hX2 : ∀ b, X' b → b < W'.heap.size) :
    jD P X' L σ W' ∧ ∀ c u, RC (dH P X W) L σ W c u → RC (dH P X' W') L σ W' c u := by
  have hk2 : ∀ b, b < W.heap.size → ¬ avd (dH P X W) L σ b → W'.heap[b]? = W.heap[b]? := fun b hb ha => hk b hb fun hx => ha (.inl hx)
  have hav : ∀ b, b < W.heap.size → avd (dH P X' W') L σ b → avd (dH P X W) L σ b := fun b hb ha => by
    rcases ha with ha | ha
    · exact .inl (hX b ha hb)
    · exact .inr ha
  have hrc : ∀ c u, RC (dH P X W) L σ W c u → RC (dH P X' W') L σ W' c u := fun c u h => u0 hs hk2 hav h
  have hown : ∀ o b, own L σ o b → b < W.heap.size ∧ ¬ X b := fun o b ho => ⟨dT hH ho, (hH.off o b ho).2⟩
  refine ⟨⟨fun o ob e => ?_, hH.inj, fun o b ho => ⟨fun h => h, fun hx => (hown o b ho).2 (hX b hx (hown o b ho).1)⟩, fun b hb => hb.elim, hX2, Nat.le_refl _, rfl, rfl, rfl⟩, hrc⟩
  have h1 := hH.ob o ob e
  have hsame : ∀ b, ob.live = true → blk (σ o) = some b → W'.heap[b]? = W.heap[b]? := fun b hl hb => by
    obtain ⟨q1, q2⟩ := hown o b ⟨ob, e, hl, hb⟩
    exact hk b q1 q2
  cases ob with
  | dead _ => trivial
  | vars T cs => obtain ⟨b, vs, e1, e2, e3⟩ := h1; exact ⟨b, vs, e1, (hsame b rfl (by rw [e1]; rfl)).trans e2, e3.mono fun c u hc => hrc c u hc⟩
  | row t e v xs => obtain ⟨flat, h2, h0, h3⟩ := h1; exact ⟨flat, oY h2 fun b hb => hsame b rfl hb, h0, fun i hi => (h3 i hi).keep hs hk2 hav⟩
  | mp T vk es => obtain ⟨b, ents, clock, e1, e2, e3⟩ := h1; exact ⟨b, ents, clock, e1, (hsame b rfl (by rw [e1]; rfl)).trans e2, e3⟩
  | itr s pos => obtain ⟨b, e1, e2⟩ := h1; exact ⟨b, e1, (hsame b rfl (by rw [e1]; rfl)).trans e2⟩
  | fact g x => obtain ⟨e1, e2⟩ := h1; exact ⟨e1, (hsame g rfl (by rw [e1]; rfl)).trans e2⟩
  | rowc e sz v cs => obtain ⟨flat, m, h2, h0, hl0, h3⟩ := h1; exact ⟨flat, m, oY h2 fun b hb => hsame b rfl hb, h0, hl0, h3.mono fun c u hc => hrc c u hc⟩
theorem r0 {P : Program} {X : Nat → Prop} {L : List AO} {σ : Sig} {W : World} {k v : Nat} {I : TypeId} {xs : List Int} (hH : jD P X L σ W) (hk : L[k]? = some (.row (.int .i64) I v xs)) {av : Nat → Prop} (hav : ∀ o b, own L σ o b → ¬ av b) :
    Dat av W (.list (.int .i64)) xs [σ k] := by
  obtain ⟨flat, h8, h9, h10⟩ := hH.ob k _ hk
  rcases h8.2 with ⟨e1, e2⟩ | ⟨g, cap, cur, e1, _, e3, e4, e5, e6, e7⟩
  · rw [e1]
    have : xs = [] := List.eq_nil_of_length_eq_zero e2
    subst this
    exact bU _
  · rw [e1]
    refine ⟨some ⟨g, 0, none⟩, cap, rfl, e4, ⟨e5, fun h => by cases h⟩, fun _ => ⟨g, 0, rfl, hav k g ⟨_, hk, rfl, by rw [e1]; rfl⟩, (Array.getElem?_eq_some_iff.1 e3).1, fun i hi => ⟨_, (h10 i hi).length, fun j hj => ?_, (h10 i hi : Dat _ _ (.int .i64) _ _)⟩⟩⟩
    have hm : (i + 1) * (Ty.int IntKind.i64).size ≤ xs.length * (Ty.int IntKind.i64).size := Nat.mul_le_mul_right _ hi
    rw [Nat.add_mul, Nat.one_mul] at hm
    rw [bj e3, List.getElem?_take_of_lt hj, List.getElem?_drop, ← e7, List.getElem?_take_of_lt (by omega)]
    simp
theorem mG {P : Program} {X : Nat → Prop} {L : List AO} {σ : Sig} {W : World} {k b : Nat} {S I : TypeId} {xs : List (List Int)} (hH : jD P X L σ W) (hk : L[k]? = some (.rowc S 1 0 (cq b xs.length)))
    (hr : ∀ i, i < xs.length → L[b + i]? = some (.row (.int .i64) I 0 (xs.getD i []))) {av : Nat → Prop} (hav : ∀ o b, own L σ o b → ¬ av b) :
    Dat av W (.list (.list (.int .i64))) xs [σ k] := by
  obtain ⟨flat, n, h8, h9, hl, h10⟩ := hH.ob k _ hk
  have hn : n = xs.length := by rw [cF] at hl; omega
  subst hn
  rcases h8.2 with ⟨e1, e2⟩ | ⟨g, cap, cur, e1, _, e3, e4, e5, e6, e7⟩
  · rw [e1]
    have : xs = [] := List.eq_nil_of_length_eq_zero e2
    subst this
    exact bU _
  · rw [e1]
    refine ⟨some ⟨g, 0, none⟩, cap, rfl, e4, ⟨e5, fun h => by cases h⟩, fun _ => ⟨g, 0, rfl, hav k g ⟨_, hk, rfl, by rw [e1]; rfl⟩, (Array.getElem?_eq_some_iff.1 e3).1, fun i hi => ⟨[σ (b + i)], rfl, fun j hj => ?_, r0 hH (hr i hi) hav⟩⟩⟩
    have hj0 : j = 0 := by have : (Ty.list (.int .i64)).size = 1 := rfl; omega
    subst hj0
    have hc : (cq b xs.length)[i]? = some (.row (b + i) 0) := by unfold cq; simp [hi]
    obtain ⟨u, hu, hcu⟩ := h10.at_ hc
    obtain ⟨_, ob, q1, q2, q3⟩ := hcu
    rw [hr i hi] at q1; cases q1
    obtain ⟨_, q4⟩ := q3 rfl rfl
    rw [bj e3, ← q4]
    rw [show (Ty.list (.int .i64)).size = 1 from rfl, Nat.mul_one, Nat.add_zero, Nat.zero_add]
    rw [← e7, Nat.mul_one, List.getElem?_take_of_lt hi] at hu
    simpa using hu
/-plain-/
def hF (h : PP → PP) (l : List W3) : List PP := l.map fun e => h e.1
structure HOM (A B : STP) (n : Nat) (I : PP → Prop) (h : PP → PP) : Prop where
  cl : ∀ p, I p → ∀ x, x < n → I (A p x)
  eq : ∀ p, I p → ∀ x, x < n → B (h p) x = h (A p x)
/-plain-/
theorem rx {P : List Bs} {k : Nat} {r : Bs} {c : UInt8} (h : spB c r = P.drop k) (hk : k + 1 = P.length) : r = P.getD k [] ∧ P.take k ++ [r] = P := by
  have h1 := List.drop_eq_getElem_cons (l := P) (i := k) (by omega)
  have h2 : P.drop (k + 1) = [] := List.drop_eq_nil_of_le (by omega)
  rw [h2] at h1
  rw [h1] at h
  have hl : (spB c r).length = 1 := by rw [h]; rfl
  have hn : c ∉ r := by
    rcases (show Lib.indexByte r c < 0 ∨ 0 ≤ Lib.indexByte r c by omega) with q | q
    · exact nL q
    · have := pV q
      rw [this] at hl
      have := kZ c (r.drop ((Lib.indexByte r c).toNat + 1))
      simp only [aj] at hl
      omega
  rw [ki hn] at h
  have e : r = P[k] := by simpa using h
  refine ⟨by rw [e]; simp [List.getD, List.getElem?_eq_getElem (show k < P.length by omega)], ?_⟩
  rw [e]
  have h3 := List.take_append_drop k P
  rw [h1] at h3
  exact h3
theorem pC {P : List Bs} {k : Nat} {r : Bs} {c : UInt8} (h : spB c r = P.drop k) (hk : k + 1 < P.length) : 0 ≤ Lib.indexByte r c ∧ r.take (Lib.indexByte r c).toNat = P.getD k [] ∧ spB c (r.drop ((Lib.indexByte r c).toNat + 1)) = P.drop (k + 1) ∧ (Lib.indexByte r c).toNat < r.length := by
  have h1 := List.drop_eq_getElem_cons (l := P) (i := k) (by omega)
  rcases (show Lib.indexByte r c < 0 ∨ 0 ≤ Lib.indexByte r c by omega) with q | q
  · rw [ki (nL q)] at h
    have := congrArg List.length h
    rw [List.length_drop] at this
    simp only [aj, aq] at this
    omega
  · rw [pV q, h1] at h
    obtain ⟨e1, e2⟩ := List.cons.inj h
    exact ⟨q, by rw [e1]; simp [List.getD, List.getElem?_eq_getElem (show k < P.length by omega)], e2, (gp q).1⟩
def pcs (P : List Bs) (k : Nat) : List Bs := P.take k ++ List.replicate (P.length - k) []
theorem oO {P : List Bs} {k : Nat} (h : k < P.length) {r : Bs} (e : r = P.getD k []) : (pcs P k).set k r = pcs P (k + 1) := by
  unfold pcs
  rw [List.set_append]
  have hl : (P.take k).length = k := by rw [List.length_take]; omega
  rw [hl, if_neg (by omega), Nat.sub_self, show P.length - k = (P.length - (k + 1)) + 1 by omega, List.replicate_succ, bu, e, show P.getD k [] = P[k] by simp [List.getD, List.getElem?_eq_getElem h]]
  have e2 : P.take (k + 1) = P.take k ++ [P[k]] := by rw [List.take_add_one, List.getElem?_eq_getElem h]; rfl
  rw [e2, List.append_assoc]; rfl
theorem kq {P : List Bs} {k : Nat} (h : k ≤ P.length) : (pcs P k).length = P.length := by unfold pcs; rw [ah, List.length_take, aI]; omega
theorem rL (P : List Bs) : pcs P P.length = P := by unfold pcs; simp
/-plain-/
/-plain-/
theorem nk {a b : List Bs} (h : a.length = b.length) (hq : ∀ q, q < a.length → a.getD q [] = b.getD q []) : a = b := by
  refine List.ext_getElem h fun i h1 h2 => ?_
  have := hq i h1
  simpa [List.getD, h1, h2] using this
/-plain-/
/-plain-/
def lq (P : Nat → Bool) (s : Nat) : Nat := ((List.range s).find? P).getD s
def rc0 (t : Dfa) (s : Nat) : Int := (lq (fun q => decide (t.acc.getD q false = t.acc.getD s false)) s : Int)
def rcF (t : Dfa) (cl : List Int) (s : Nat) : Int := (lq (fun q => decide (t.sg cl q = t.sg cl s)) s : Int)
def rcl (t : Dfa) : Nat → List Int
  | 0 => (List.range t.nx.length).map (rc0 t)
  | r + 1 => (List.range t.nx.length).map (rcF t (rcl t r))
def rC (t : Dfa) : List Int := rcl t t.nx.length
structure RCK (t : Dfa) : Prop where
  rg : ∀ s, s < t.nx.length → 0 ≤ (rC t).getD s 0 ∧ (rC t).getD s 0 ≤ s
  eq : ∀ s u, s < t.nx.length → u < t.nx.length → ((rC t).getD s 0 = (rC t).getD u 0 ↔ DEQ t t s u)
  id : ∀ s, s < t.nx.length → (rC t).getD ((rC t).getD s 0).toNat 0 = (rC t).getD s 0
/-plain-/
def hM (d : Dfa) (p : PP) : PP := (d.rep p.1, 0)
end Go.AV
