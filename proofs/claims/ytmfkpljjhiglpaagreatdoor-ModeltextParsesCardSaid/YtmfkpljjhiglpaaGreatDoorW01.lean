/- Contracts of functions of this seat, each out of a walk through its code, and plain facts on what they compute. Conditions: those that each theorem names. -/
import Derived.Test.YtmfkpljjhiglpaaGreatDoorW00
set_option linter.unusedSimpArgs false
set_option linter.unusedVariables false
set_option maxRecDepth 100000
namespace Go.AV
open Nat renaming reduceEqDiff → V, reduceAdd → O, reduceLeDiff → Z, reduceLT → ad, reduceMul → ab, reduceSub → aa
open List renaming set_cons_zero → bK, set_cons_succ → ba, getD_cons_zero → cM, length_append → aq, map_cons → aS, cons_append → am, map_nil → bM, length_cons → ak, nil_append → ar, take_succ_cons → bY, length_nil → aw, length_map → c0, length_replicate → aL, take_length → aD, mem_cons_self → aT, mem_cons_of_mem → aI
open Int renaming toNat_natCast → aN
/-plain-/
def bI1 (b : Bool) : Int := if b = true then 1 else 0
def xk (d : Dfa) (s : Nat) : Int := bI1 (d.acc.getD s false)
/-plain-/
/-plain-/
/-plain-/
/-plain-/
def Dfa.sg (d : Dfa) (cl : List Int) (s : Nat) : List Int := cl.getD s 0 :: (d.nx.getD s []).map fun t => cl.getD t.toNat 0
def Dfa.nxL (d : Dfa) (cl : List Int) : List Int := (List.range d.nx.length).map fun s => (pos (vy (d.sg cl) d.nx.length) (d.sg cl s) : Int)
def Dfa.cl (d : Dfa) : Nat → List Int
  | 0 => (List.range d.nx.length).map (xk d)
  | i + 1 => d.nxL (d.cl i)
def Dfa.cn (d : Dfa) : Nat → Nat
  | 0 => 0
  | i + 1 => (vy (d.sg (d.cl i)) d.nx.length).length
def xl (n : Int) (w : List Int) : Prop := ∀ x, x ∈ w → 0 ≤ x ∧ x < n
def DEQ (a b : Dfa) (s t : Int) : Prop := ∀ w : List Int, xl a.inp w → a.ac (a.run s w) = b.ac (b.run t w)
theorem DEQ.acc {a b : Dfa} {s t : Int} (h : DEQ a b s t) : a.ac s = b.ac t := h [] (fun x hx => by cases hx)
theorem DEQ.refl (d : Dfa) (s : Int) : DEQ d d s s := fun _ _ => rfl
theorem DEQ.symm {d : Dfa} {s t : Int} (h : DEQ d d s t) : DEQ d d t s := fun w hw => (h w hw).symm
theorem DEQ.trans {d : Dfa} {s t u : Int} (h : DEQ d d s t) (h2 : DEQ d d t u) : DEQ d d s u := fun w hw => (h w hw).trans (h2 w hw)
theorem DEQ.join {a b c : Dfa} {s t u : Int} (hi : a.inp = b.inp) (h : DEQ a b s t) (h2 : DEQ b c t u) : DEQ a c s u := fun w hw => (h w hw).trans (h2 w (hi ▸ hw))
/-plain-/
/-plain-/
/-plain-/
structure SIM (A B : STP) (n : Nat) (R : PP → PP → Prop) : Prop where
  st : ∀ p q, R p q → ∀ x, x < n → R (A p x) (B q x)
  bi : ∀ p q p' q', R p q → R p' q' → (p = p' ↔ q = q')
def RL (R : PP → PP → Prop) (l l' : List W3) : Prop := l.length = l'.length ∧ ∀ i, i < l.length → R (l.getD i w30).1 (l'.getD i w30).1 ∧ (l.getD i w30).2 = (l'.getD i w30).2
theorem RL.mem {A B : STP} {n : Nat} {R : PP → PP → Prop} (hs : SIM A B n R) {l l' : List W3} (h : RL R l l') {p q : PP} (hr : R p q) : p ∈ l.map Prod.fst ↔ q ∈ l'.map Prod.fst := by
  constructor
  · intro hm
    obtain ⟨e, he, e1⟩ := List.mem_map.1 hm
    obtain ⟨i, hi⟩ := List.getElem?_of_mem he
    have hlt := (List.getElem?_eq_some_iff.1 hi).1
    have h2 := h.2 i hlt
    have h3 : l.getD i w30 = e := by rw [List.getD, hi]; rfl
    rw [h3, e1] at h2
    have := (hs.bi _ _ _ _ h2.1 hr).1 rfl
    rw [← this]
    exact List.mem_map.2 ⟨_, pm (by rw [← h.1]; exact hlt), rfl⟩
  · intro hm
    obtain ⟨e, he, e1⟩ := List.mem_map.1 hm
    obtain ⟨i, hi⟩ := List.getElem?_of_mem he
    have hlt := (List.getElem?_eq_some_iff.1 hi).1
    have h2 := h.2 i (by rw [h.1]; exact hlt)
    have h3 : l'.getD i w30 = e := by rw [List.getD, hi]; rfl
    rw [h3, e1] at h2
    have := (hs.bi _ _ _ _ h2.1 hr).2 rfl
    rw [← this]
    exact List.mem_map.2 ⟨_, pm (by rw [h.1]; exact hlt), rfl⟩
theorem RL.snoc {R : PP → PP → Prop} {l l' : List W3} (h : RL R l l') {e f : W3} (hr : R e.1 f.1) (hw : e.2 = f.2) : RL R (l ++ [e]) (l' ++ [f]) := by
  refine ⟨by simp [h.1], fun i hi => ?_⟩
  rw [aq, List.length_singleton] at hi
  by_cases e1 : i < l.length
  · rw [cf e1, cf (by rw [← h.1]; exact e1)]; exact h.2 i e1
  · rw [dm (by omega), dm (by have := h.1; omega)]; exact ⟨hr, hw⟩
theorem RL.row {A B : STP} {n : Nat} {R : PP → PP → Prop} (hs : SIM A B n R) {l l' : List W3} (h : RL R l l') {e f : W3} (hr : R e.1 f.1) (hw : e.2 = f.2) : ∀ x, x ≤ n → RL R (gT A e l x) (gT B f l' x)
  | 0, _ => h
  | x + 1, hx => by
    have ih := h.row hs hr hw x (by omega)
    have h2 := hs.st _ _ hr x (by omega)
    rw [gG, gG]
    by_cases hm : A e.1 x ∈ (gT A e l x).map Prod.fst
    · rw [pG hm, pG ((ih.mem hs h2).1 hm)]; exact ih
    · rw [nU hm, nU (fun k => hm ((ih.mem hs h2).2 k))]
      exact ih.snoc h2 (by rw [hw])
theorem RL.one {R : PP → PP → Prop} {p q : PP} (h : R p q) : RL R [(p, [])] [(q, [])] := ⟨rfl, fun i hi => by
  have : i = 0 := by simpa using hi
  subst this; exact ⟨h, rfl⟩⟩
/-plain-/
/-plain-/
def SLT (u v : List Int) : Prop := u.length < v.length ∨ (u.length = v.length ∧ ∃ m, m < u.length ∧ (∀ q, q < m → u.getD q 0 = v.getD q 0) ∧ u.getD m 0 < v.getD m 0)
def SLE (u v : List Int) : Prop := u = v ∨ SLT u v
theorem SLT.trans {u v w : List Int} (h : SLT u v) (h2 : SLT v w) : SLT u w := by
  rcases h with h | ⟨h, m, a1, a2, a3⟩
  · rcases h2 with h2 | ⟨h2, _⟩
    · exact .inl (by omega)
    · exact .inl (by omega)
  · rcases h2 with h2 | ⟨h2, k, b1, b2, b3⟩
    · exact .inl (by omega)
    · refine .inr ⟨by omega, ?_⟩
      rcases Nat.lt_trichotomy m k with e | e | e
      · exact ⟨m, a1, fun q hq => (a2 q hq).trans (b2 q (by omega)), by rw [← b2 m e]; exact a3⟩
      · subst e; exact ⟨m, a1, fun q hq => (a2 q hq).trans (b2 q hq), by omega⟩
      · exact ⟨k, by omega, fun q hq => (a2 q (by omega)).trans (b2 q hq), by rw [a2 k e]; exact b3⟩
theorem SLE.trans_lt {u v w : List Int} (h : SLE u v) (h2 : SLT v w) : SLT u w := by
  rcases h with rfl | h
  · exact h2
  · exact h.trans h2
theorem SLE.trans {u v w : List Int} (h : SLE u v) (h2 : SLE v w) : SLE u w := by
  rcases h2 with rfl | h2
  · exact h
  · exact .inr (h.trans_lt h2)
theorem SLT.app {u v : List Int} (h : SLT u v) (a b : Int) : SLT (u ++ [a]) (v ++ [b]) := by
  rcases h with h | ⟨h, m, a1, a2, a3⟩
  · exact .inl (by simp; omega)
  · refine .inr ⟨by simp; omega, m, by simp; omega, fun q hq => ?_, ?_⟩
    · rw [cf (by omega), cf (by omega)]; exact a2 q hq
    · rw [cf a1, cf (by omega)]; exact a3
theorem SLT.last (u : List Int) {a b : Int} (h : a < b) : SLT (u ++ [a]) (u ++ [b]) := by
  refine .inr ⟨by simp, u.length, by simp, fun q hq => ?_, ?_⟩
  · rw [cf hq, cf hq]
  · rw [dm rfl, dm rfl]; exact h
theorem SLE.app {u v : List Int} (h : SLE u v) (a : Int) : SLE (u ++ [a]) (v ++ [a]) := by
  rcases h with rfl | h
  · exact .inl rfl
  · exact .inr (h.app a a)
theorem SLT.nil (u : List Int) (x : Int) : SLT [] (u ++ [x]) := .inl (by simp)
structure BW (A : STP) (n i : Nat) (l : List W3) : Prop where
  so : ∀ j k, j < k → k < l.length → SLT (l.getD j w30).2 (l.getD k w30).2
  mi : ∀ j, j < i → j < l.length → ∀ x, x < n → ∃ k, k < l.length ∧ (l.getD k w30).1 = A (l.getD j w30).1 x ∧ SLE (l.getD k w30).2 ((l.getD j w30).2 ++ [(x : Int)])
  up : i < l.length → ∀ k, k < l.length → SLT (l.getD k w30).2 ((l.getD i w30).2 ++ [0])
structure BX (A : STP) (n i x : Nat) (l0 l : List W3) : Prop where
  so : ∀ j k, j < k → k < l.length → SLT (l.getD j w30).2 (l.getD k w30).2
  mi : ∀ y, y < x → ∃ k, k < l.length ∧ (l.getD k w30).1 = A (l0.getD i w30).1 y ∧ SLE (l.getD k w30).2 ((l0.getD i w30).2 ++ [(y : Int)])
  up : ∀ k, k < l.length → SLT (l.getD k w30).2 ((l0.getD i w30).2 ++ [(x : Int)])
/-plain-/
structure LCL (A : STP) (n : Nat) (L : List W3) : Prop where
  nd : (L.map Prod.fst).Nodup
  cl : ∀ j, j < L.length → ∀ x, x < n → A (L.getD j w30).1 x ∈ L.map Prod.fst
variable {A : STP} {G : PP → Bool} {n : Nat} {L : List W3}
/-plain-/
def Dfa.sto (d : Dfa) : Nat → Nat → Nat
  | 0, i => i
  | f + 1, i => if d.cn (i + 1) = d.cn i then i else d.sto f (i + 1)
def Dfa.cls (d : Dfa) : List Int := d.cl (d.sto (d.nx.length + 1) 0 + 1)
def fsV (cl : List Int) (n s c : Nat) : Int := match (List.range n).find? (fun q => decide (s ≤ q) && decide (cl.getD q 0 = (c : Int))) with | some q => (q : Int) | none => 0
def fsL (cl : List Int) (n s : Nat) : List Int := (List.range n).map fun c => fsV cl n s c
def Dfa.rep (d : Dfa) (s : Int) : Int := (fsL d.cls d.nx.length 0).getD (d.cls.getD s.toNat 0).toNat 0
structure RPR (d : Dfa) (s r : Int) : Prop where
  rg : 0 ≤ r ∧ r < d.nx.length
  le : r ≤ s
  cl : d.cls.getD r.toNat 0 = d.cls.getD s.toNat 0
  mi : ∀ q : Nat, (q : Int) < r → d.cls.getD q 0 ≠ d.cls.getD s.toNat 0
/-plain-/
structure M1OK (d : Dfa) (q : PP) (x : Nat) : Prop where
  r1 : 0 ≤ q.1 ∧ q.1 < d.nx.length
  rl : ((d.nx.getD q.1.toNat []).length : Int) = d.inp
  t1 : 0 ≤ (d.nx.getD q.1.toNat []).getD x 0 ∧ (d.nx.getD q.1.toNat []).getD x 0 < d.nx.length
  c1 : 0 ≤ d.cls.getD ((d.nx.getD q.1.toNat []).getD x 0).toNat 0 ∧ d.cls.getD ((d.nx.getD q.1.toNat []).getD x 0).toNat 0 < d.nx.length
  e : d.rep (d.dl q.1 x) = (fsL d.cls d.nx.length 0).getD (d.cls.getD ((d.nx.getD q.1.toNat []).getD x 0).toNat 0).toNat 0
/-plain-/
structure SHP (d : Dfa) (P : List W3) (k : Nat) : Prop where
  rg : 0 ≤ (P.getD k w30).1.1 ∧ (P.getD k w30).1.1 < d.nx.length
/-plain-/
def rm (m : Mly) : Bool := m.ot.flatten.any fun o => decide (1 < o)
theorem nO : ∀ (xs : List Int) (b : Int), 1 < xs.foldl max b ↔ 1 < b ∨ ∃ o, o ∈ xs ∧ 1 < o
  | [], b => by simp
  | x :: xs, b => by
    rw [List.foldl_cons, nO xs]
    constructor
    · rintro (h | ⟨o, ho, h⟩)
      · by_cases h2 : 1 < b
        · exact .inl h2
        · exact .inr ⟨x, aT, by omega⟩
      · exact .inr ⟨o, aI _ ho, h⟩
    · rintro (h | ⟨o, ho, h⟩)
      · exact .inl (by omega)
      · rcases List.mem_cons.1 ho with rfl | ho
        · exact .inl (by omega)
        · exact .inr ⟨o, ho, h⟩
theorem vc {xs : List Int} (h : 0 < xs.length) : 1 < mxL xs ↔ ∃ o, o ∈ xs ∧ 1 < o := by
  unfold mxL
  rw [nO]
  constructor
  · rintro (h2 | h2)
    · exact ⟨_, iQ.2 ⟨0, h, rfl⟩, h2⟩
    · exact h2
  · exact .inr
theorem rq {m : Mly} : rm m = true ↔ ∃ o, o ∈ m.ot.flatten ∧ 1 < o := by unfold rm; rw [List.any_eq_true]; exact ⟨fun ⟨o, h1, h2⟩ => ⟨o, h1, by simpa using h2⟩, fun ⟨o, h1, h2⟩ => ⟨o, h1, by simpa using h2⟩⟩
theorem tP {m : Mly} (hm : MOK m) : 0 < m.ot.flatten.length := by
  have h := mg hm m.ot.length (Nat.le_refl _)
  rw [aD] at h
  have h1 := hm.i1; have h2 := hm.n1; have h3 := hm.ol
  have : 0 < (m.ot.length : Int) * m.inp := Int.mul_pos (by omega) (by omega)
  omega
theorem tt {xs : List Int} (h : 0 < xs.length) : 0 < (lg xs).length := by
  have : xs.getD 0 0 ∈ lg xs := ((eE xs).2 _).2 (iQ.2 ⟨0, h, rfl⟩)
  obtain ⟨j, hj, _⟩ := iQ.1 this
  omega
theorem w9 {m : Mly} (hv : bJ m = 0) : 0 < (eR m).length ∧ (1 < mxL (eR m) ↔ rm m = true) := by
  have hm := pH hv
  rw [gZ hv]
  have h := tt (tP hm)
  refine ⟨h, ?_⟩
  rw [vc h, rq]
  exact ⟨fun ⟨o, h1, h2⟩ => ⟨o, ((eE _).2 o).1 h1, h2⟩, fun ⟨o, h1, h2⟩ => ⟨o, ((eE _).2 o).2 h1, h2⟩⟩
/-plain-/
structure Mdl where
  nm : Bs
  ins : List Bs
  outs : List Bs
  m : Mly
def Mdl.cs (x : Mdl) : List AC := [.str x.nm, .list .str x.ins, .list .str x.outs, .int .i64 x.m.inp, .int .i64 x.m.st, .list (.list (.int .i64)) x.m.nx, .list (.list (.int .i64)) x.m.ot]
def Mdl.av (x : Mdl) : AV := .agg x.cs
def mvE (x : Mdl) : Int := if aY x.nm = false then 9 else if ¬ alE x.ins = 0 then alE x.ins else if ¬ alE x.outs = 0 then alE x.outs else if ¬ bJ x.m = 0 then bJ x.m else
  if x.m.inp = x.ins.length ∧ mxL (eR x.m) < x.outs.length then 0 else 2
theorem qZ {x : Mdl} (h : aY x.nm = false) : mvE x = 9 := if_pos h
theorem xn {x : Mdl} (h : aY x.nm = true) (h2 : ¬ alE x.ins = 0) : mvE x = alE x.ins := by unfold mvE; rw [if_neg (by rw [h]; decide), if_pos h2]
theorem xu {x : Mdl} (h : aY x.nm = true) (h2 : alE x.ins = 0) (h3 : ¬ alE x.outs = 0) : mvE x = alE x.outs := by unfold mvE; rw [if_neg (by rw [h]; decide), if_neg (fun k => k h2), if_pos h3]
theorem qj {x : Mdl} (h : aY x.nm = true) (h2 : alE x.ins = 0) (h3 : alE x.outs = 0) (h4 : ¬ bJ x.m = 0) : mvE x = bJ x.m := by
  unfold mvE; rw [if_neg (by rw [h]; decide), if_neg (fun k => k h2), if_neg (fun k => k h3), if_pos h4]
theorem qu {x : Mdl} (h : aY x.nm = true) (h2 : alE x.ins = 0) (h3 : alE x.outs = 0) (h4 : bJ x.m = 0) (h5 : ¬ (x.m.inp = x.ins.length ∧ mxL (eR x.m) < x.outs.length)) : mvE x = 2 := by
  unfold mvE; rw [if_neg (by rw [h]; decide), if_neg (fun k => k h2), if_neg (fun k => k h3), if_neg (fun k => k h4), if_neg h5]
theorem oX {x : Mdl} (h : aY x.nm = true) (h2 : alE x.ins = 0) (h3 : alE x.outs = 0) (h4 : bJ x.m = 0) (h5 : x.m.inp = x.ins.length ∧ mxL (eR x.m) < x.outs.length) : mvE x = 0 := by
  unfold mvE; rw [if_neg (by rw [h]; decide), if_neg (fun k => k h2), if_neg (fun k => k h3), if_neg (fun k => k h4), if_pos h5]
theorem qM {x : Mdl} (h : aY x.nm = true) {k : Nat} (hk : k < 2) (hq : ∀ q, q < k → alE ([x.ins, x.outs].getD q []) = 0) (hb : ¬ alE ([x.ins, x.outs].getD k []) = 0) : mvE x = alE ([x.ins, x.outs].getD k []) := by
  rcases (show k = 0 ∨ k = 1 by omega) with rfl | rfl
  · exact xn h hb
  · exact xu h (hq 0 (by omega)) hb
theorem vN {m : Mly} (hv : bJ m = 0) : 0 < (eR m).length := (w9 hv).1
/-plain-/
theorem ug {m : Mly} (h : bJ m = 0) {o : Int} : o ∈ eR m ↔ o ∈ m.ot.flatten := by rw [gZ h, (eE _).2]
def wQ (ls : List (List Int)) : Bool := ls.any fun r => decide (12 < r.length)
def g8 (m : Mly) : Bool := decide (12 < (m.nx.length : Int)) || decide (12 < (m.ot.length : Int)) || decide (6 < m.inp) || wQ m.nx || wQ m.ot
/-plain-/
def qn (i : Nat) : Bs := 113 :: Lib.decDigits i
def fI (x : Mdl) (s a : Nat) : Bs := qn s ++ [32] ++ x.ins.getD a [] ++ [32] ++ x.outs.getD ((x.m.ot.getD s []).getD a 0).toNat [] ++ [32] ++ qn ((x.m.nx.getD s []).getD a 0).toNat
def fq (x : Mdl) (s k : Nat) : List Bs := (List.range k).map (fI x s)
def qs (n : Nat) : List Bs := (List.range n).map qn
def hdT (x : Mdl) : List Bs := [[109, 97, 99, 104, 105, 110, 101, 32] ++ x.nm, [105, 110, 112, 117, 116, 115, 32] ++ Lib.join x.ins [32], [111, 117, 116, 112, 117, 116, 115, 32] ++ Lib.join x.outs [32], [115, 116, 97, 116, 101, 115, 32] ++ Lib.join (qs x.m.nx.length) [32], [115, 116, 97, 114, 116, 32] ++ qn x.m.st.toNat]
def et (x : Mdl) (k : Nat) : List Bs := ((List.range k).map fun s => fq x s (x.m.nx.getD s []).length).flatten
def SM (x : Mdl) : Bs := if mvE x = 0 then Lib.join (hdT x ++ et x x.m.nx.length) [10] ++ [10] else []
theorem np {x : Mdl} (h : mvE x = 0) : SM x = Lib.join (hdT x ++ et x x.m.nx.length) [10] ++ [10] := if_pos h
theorem sj {x : Mdl} (h : ¬ mvE x = 0) : SM x = [] := if_neg h
theorem pZ (x : Mdl) (s k : Nat) : fq x s (k + 1) = fq x s k ++ [fI x s k] := by unfold fq; rw [List.range_succ, List.map_append]; rfl
theorem ve (n : Nat) : qs (n + 1) = qs n ++ [qn n] := by unfold qs; rw [List.range_succ, List.map_append]; rfl
theorem jm (x : Mdl) (k : Nat) : et x (k + 1) = et x k ++ fq x k (x.m.nx.getD k []).length := by unfold et; rw [List.range_succ, List.map_append, List.flatten_append]; simp
theorem cW (n : Nat) : (qs n).length = n := by unfold qs; simp
theorem dJ {n i : Nat} (h : i < n) : (qs n).getD i [] = qn i := by unfold qs; simp [List.getD, h]
theorem mM (x : Mdl) (s k : Nat) : (fq x s k).length = k := by unfold fq; simp
structure MVO (x : Mdl) : Prop where
  nm : aY x.nm = true
  ai : AOK x.ins
  ao : AOK x.outs
  mo : MOK x.m
  vm : bJ x.m = 0
  il : x.m.inp = x.ins.length
  ol : ∀ s a : Nat, s < x.m.nx.length → (a : Int) < x.m.inp → (x.m.ot.getD s []).getD a 0 < x.outs.length
theorem ml {x : Mdl} (h : mvE x = 0) : MVO x := by
  unfold mvE at h
  split at h
  · omega
  · split at h
    · omega
    · split at h
      · omega
      · split at h
        · omega
        · split at h
          · rename_i h1 h2 h3 h4 h5
            have hv : bJ x.m = 0 := by omega
            have hm := pH hv
            refine ⟨by simpa using h1, iN (by omega), iN (by omega), hm, hv, h5.1, fun s a hs ha => ?_⟩
            have hol := hm.ol
            have hq := hm.ql s hs
            have hin : (x.m.ot.getD s []).getD a 0 ∈ x.m.ot.flatten := List.mem_flatten.2 ⟨x.m.ot.getD s [], by simp [List.getD, hol, hs], iF (by omega)⟩
            have : (x.m.ot.getD s []).getD a 0 ≤ mxL (eR x.m) := (mS _ _).2 _ ((ug hv).2 hin)
            omega
          · omega
theorem gh {sep : Bs} {B : Nat} : ∀ {l : List Bs}, (∀ y, y ∈ l → y.length ≤ B) → (Lib.join l sep).length ≤ l.length * (B + sep.length)
  | [], _ => Nat.zero_le _
  | [y], h => by rw [Lib.join_one]; have := h y (by simp); simp only [ak, aw]; omega
  | y :: z :: l, h => by
    have h1 := h y (by simp)
    have h2 := gh (sep := sep) (l := z :: l) fun q hq => h q (aI _ hq)
    have e : Lib.join (y :: z :: l) sep = y ++ sep ++ Lib.join (z :: l) sep := by rw [Lib.join_cons, Lib.join_cons]; simp [Lib.joinTail]
    rw [e, aq, aq]
    have e2 : (y :: z :: l).length * (B + sep.length) = (z :: l).length * (B + sep.length) + (B + sep.length) := by simp only [ak]; rw [Nat.add_mul _ 1, Nat.one_mul]
    omega
theorem qS : ∀ n : Nat, n < 128 → (Lib.decDigits n).length ≤ 3 := by decide +kernel
theorem iV {n : Nat} (h : n < 128) : (qn n).length ≤ 4 := by have := qS n h; unfold qn; simp; omega
theorem mq {xs : List Bs} (h : AOK xs) (y : Bs) (hy : y ∈ xs) : y.length ≤ 32 := by
  obtain ⟨j, hj, rfl⟩ := ld.1 hy
  exact (dM (h.nm j hj)).2.2
theorem iI {xs : List Bs} (h : AOK xs) (j : Nat) : (xs.getD j []).length ≤ 32 := by
  by_cases hj : j < xs.length
  · exact mq h _ (cU hj)
  · rw [List.getD, List.getElem?_eq_none (by omega)]; exact Nat.zero_le _
theorem uc {x : Mdl} (h : MVO x) {s a : Nat} (hs : s < x.m.nx.length) (ha : (a : Int) < x.m.inp) : (fI x s a).length ≤ 75 := by
  have h1 := iI h.ai a
  have h2 := iI h.ao ((x.m.ot.getD s []).getD a 0).toNat
  have hn2 := h.mo.n2
  have h3 := h.mo.nr s a hs ha
  have h4 := iV (n := s) (by omega)
  have h5 := iV (n := ((x.m.nx.getD s []).getD a 0).toNat) (by omega)
  unfold fI
  simp only [aq, ak, aw]
  omega
theorem ir {x : Mdl} (h : MVO x) (y : Bs) (hy : y ∈ hdT x) : y.length ≤ 2121 := by
  have h1 := (dM h.nm).2.2
  have h2 := gh (sep := [32]) (B := 32) (mq h.ai)
  have h3 := gh (sep := [32]) (B := 32) (mq h.ao)
  have hn2 := h.mo.n2
  have hs2 := h.mo.s2
  have h4 := gh (sep := [32]) (B := 4) (l := qs x.m.nx.length) fun y hy => by
    unfold qs at hy
    obtain ⟨i, hi, rfl⟩ := List.mem_map.1 hy
    have := List.mem_range.1 hi
    exact iV (by omega)
  have h5 := iV (n := x.m.st.toNat) (by omega)
  have hi1 := h.ai.n1
  have ho1 := h.ao.n1
  rw [cW] at h4
  simp only [ak, aw] at h2 h3 h4
  unfold hdT at hy
  simp only [List.mem_cons, List.not_mem_nil, or_false] at hy
  rcases hy with rfl | rfl | rfl | rfl | rfl <;> simp only [aq, ak, aw] <;> omega
theorem tu {x : Mdl} (h : MVO x) {k : Nat} (hk : k ≤ x.m.nx.length) (y : Bs) (hy : y ∈ et x k) : y.length ≤ 75 := by
  unfold et at hy
  obtain ⟨l, hl, hy⟩ := List.mem_flatten.1 hy
  obtain ⟨s, hs, rfl⟩ := List.mem_map.1 hl
  have := List.mem_range.1 hs
  unfold fq at hy
  obtain ⟨a, ha, rfl⟩ := List.mem_map.1 hy
  have := List.mem_range.1 ha
  have := h.mo.rl s (by omega)
  exact uc h (by omega) (by omega)
theorem ow {x : Mdl} (h : MVO x) : ∀ {k : Nat}, k ≤ x.m.nx.length → (et x k).length = k * x.ins.length
  | 0, _ => by simp [et]
  | k + 1, hk => by
    rw [jm, aq, ow h (by omega), mM, Nat.add_mul, Nat.one_mul]
    have := h.mo.rl k (by omega)
    have := h.il
    omega
theorem jx {x : Mdl} (h : MVO x) {k : Nat} (hk : k ≤ x.m.nx.length) : (et x k).length ≤ 8192 := by
  rw [ow h hk]
  have := h.mo.n2
  have := h.ai.n1
  exact Nat.le_trans (Nat.mul_le_mul (show k ≤ 128 by omega) (show x.ins.length ≤ 64 by exact h.ai.n1)) (by decide)
theorem mX {sep : Bs} : ∀ {a b : List Bs}, (Lib.join (a ++ b) sep).length ≤ (Lib.join a sep).length + sep.length + (Lib.join b sep).length
  | [], b => by simp [Lib.join_nil]
  | [y], [] => by rw [List.append_nil]; omega
  | [y], z :: b => by rw [List.singleton_append, Lib.join_one, Lib.join_cons, Lib.join_cons]; simp [Lib.joinTail]; omega
  | y :: z :: a, b => by
    have h := mX (sep := sep) (a := z :: a) (b := b)
    have e : ∀ l : List Bs, Lib.join (y :: z :: l) sep = y ++ sep ++ Lib.join (z :: l) sep := fun l => by rw [Lib.join_cons, Lib.join_cons]; simp [Lib.joinTail]
    rw [am, am, e, e, aq, aq, aq, aq]
    rw [am] at h
    omega
theorem sP {x : Mdl} (h : MVO x) : (Lib.join (hdT x ++ et x x.m.nx.length) [10]).length ≤ 700000 := by
  have h1 := gh (sep := [10]) (ir h)
  have h2 := gh (sep := [10]) (tu h (Nat.le_refl _))
  have h3 := jx h (Nat.le_refl _)
  have h4 := mX (sep := [10]) (a := hdT x) (b := et x x.m.nx.length)
  have h5 : (hdT x).length = 5 := rfl
  have h6 : (et x x.m.nx.length).length * (75 + [10].length) ≤ 8192 * 76 := Nat.mul_le_mul h3 (Nat.le_refl _)
  rw [h5] at h1
  simp only [ak, aw] at *
  omega
/-plain-/
def spB (c : UInt8) : Bs → List Bs
  | [] => [[]]
  | b :: s => if b = c then [] :: spB c s else (b :: (spB c s).headD []) :: (spB c s).tail
theorem jp (c b : UInt8) (s : Bs) : spB c (b :: s) = if b = c then [] :: spB c s else (b :: (spB c s).headD []) :: (spB c s).tail := rfl
theorem fb (c : UInt8) : ∀ s : Bs, spB c s = (spB c s).headD [] :: (spB c s).tail
  | [] => rfl
  | b :: s => by
    rw [jp]
    split <;> rfl
theorem jQ {c : UInt8} : ∀ {s : Bs}, c ∉ s → spB c s = [s]
  | [], _ => rfl
  | b :: s, h => by
    simp only [List.mem_cons, not_or] at h
    rw [jp, if_neg (Ne.symm h.1), jQ h.2]; rfl
theorem nE {c : UInt8} : ∀ {x : Bs} (s : Bs), c ∉ x → spB c (x ++ c :: s) = x :: spB c s
  | [], s, _ => by rw [ar, jp, if_pos rfl]
  | b :: x, s, h => by
    simp only [List.mem_cons, not_or] at h
    rw [am]
    rw [show spB c (b :: (x ++ c :: s)) = if b = c then [] :: spB c (x ++ c :: s) else (b :: (spB c (x ++ c :: s)).headD []) :: (spB c (x ++ c :: s)).tail from rfl]
    rw [if_neg (Ne.symm h.1), nE s h.2]; rfl
theorem fm (c : UInt8) (s : Bs) : 0 < (spB c s).length := by rw [fb]; simp
theorem mb {c : UInt8} : ∀ {s : Bs}, Lib.indexByte s c < 0 → c ∉ s
  | [], _ => by simp
  | b :: s, h => by
    unfold Lib.indexByte at h
    split at h
    · omega
    · rename_i hb
      have hb2 : ¬ c = b := fun e => hb (by rw [e]; exact beq_self_eq_true b)
      split at h
      · rename_i h2
        have h2 : Lib.indexByte s c = -1 := by simpa using h2
        simp only [List.mem_cons, not_or]
        exact ⟨hb2, mb (by omega)⟩
      · rename_i h2
        have h2 : ¬ Lib.indexByte s c = -1 := by simpa using h2
        have := Lib.indexByte_ge s c
        omega
theorem ge {c : UInt8} : ∀ {s : Bs}, 0 ≤ Lib.indexByte s c → (Lib.indexByte s c).toNat < s.length ∧ c ∉ s.take (Lib.indexByte s c).toNat ∧ s = s.take (Lib.indexByte s c).toNat ++ c :: s.drop ((Lib.indexByte s c).toNat + 1)
  | [], h => by unfold Lib.indexByte at h; omega
  | b :: s, h => by
    unfold Lib.indexByte at h ⊢
    split
    · rename_i hb
      have hb2 : b = c := by simpa using hb
      subst hb2
      exact ⟨by simp, by simp, by simp⟩
    · rename_i hb
      rw [if_neg hb] at h
      have hb2 : ¬ c = b := fun e => hb (by rw [e]; exact beq_self_eq_true b)
      split
      · rename_i h2; rw [if_pos h2] at h; omega
      · rename_i h2
        rw [if_neg h2] at h
        have h3 : ¬ Lib.indexByte s c = -1 := by simpa using h2
        have h4 := Lib.indexByte_ge s c
        obtain ⟨h5, h6, h7⟩ := ge (s := s) (c := c) (by omega)
        have e : (Lib.indexByte s c + 1).toNat = (Lib.indexByte s c).toNat + 1 := by omega
        rw [e]
        refine ⟨by simpa using h5, ?_, ?_⟩
        · rw [bY]; simp only [List.mem_cons, not_or]; exact ⟨hb2, h6⟩
        · rw [bY, List.drop_succ_cons, am, ← h7]
theorem pP {c : UInt8} {s : Bs} (h : 0 ≤ Lib.indexByte s c) : spB c s = s.take (Lib.indexByte s c).toNat :: spB c (s.drop ((Lib.indexByte s c).toNat + 1)) := by
  obtain ⟨_, h2, h3⟩ := ge h
  have := nE (s.drop ((Lib.indexByte s c).toNat + 1)) h2
  rw [← h3] at this
  exact this
theorem mC (c : UInt8) : ∀ s : Bs, (spB c s).length = Lib.countByte s c + 1
  | [] => rfl
  | b :: s => by
    have ih := mC c s
    have hp := fm c s
    rw [jp]
    unfold Lib.countByte at ih ⊢
    rw [List.count_cons]
    split
    · rename_i e; subst e; simp; omega
    · rename_i e
      have e2 : (b == c) = false := by simpa using e
      rw [e2]
      simp only [ak, List.length_tail, Bool.false_eq_true, if_false]
      omega
theorem la (c : UInt8) (s : Bs) : (spB c s).length ≤ s.length + 1 := by
  rw [mC]; have := List.count_le_length (a := c) (l := s); unfold Lib.countByte; omega
theorem tD (c : UInt8) (s : Bs) : Lib.countByte s c ≤ s.length := List.count_le_length
theorem oF (c : UInt8) (s : Bs) : ∀ st : List Bs × Bs, (s.foldl (fun st b => if b = c then (st.1 ++ [st.2], []) else (st.1, st.2 ++ [b])) st).1 ++ [(s.foldl (fun st b => if b = c then (st.1 ++ [st.2], []) else (st.1, st.2 ++ [b])) st).2] = st.1 ++ ((st.2 ++ (spB c s).headD []) :: (spB c s).tail) := by
  induction s with
  | nil => intro st; simp [spB]
  | cons b s ih =>
    intro st
    rw [List.foldl_cons, ih]
    rw [jp]
    by_cases e : b = c
    · rw [if_pos e, if_pos e]
      simp only [List.append_assoc, ar, List.headD_cons, List.tail_cons, List.append_nil, List.singleton_append]
      rw [← fb]
    · rw [if_neg e, if_neg e]
      simp only [List.headD_cons, List.tail_cons, List.append_assoc, List.singleton_append]
theorem vn (s : Bs) : spl s = spB 32 s := by
  rw [tH]
  have := oF 32 s ([], [])
  simp only [ar] at this
  rw [← fb] at this
  exact this
theorem iO {c : UInt8} : ∀ {s x : Bs}, x ∈ spB c s → c ∉ x
  | [], x, h => by simp [spB] at h; subst h; simp
  | b :: s, x, h => by
    rw [jp] at h
    split at h
    · rcases List.mem_cons.1 h with rfl | h
      · simp
      · exact iO h
    · rename_i e
      have hh := fb c s
      rcases List.mem_cons.1 h with rfl | h
      · have := iO (c := c) (s := s) (x := (spB c s).headD []) (by rw [hh]; simp)
        simp only [List.mem_cons, not_or]
        exact ⟨Ne.symm e, this⟩
      · exact iO (s := s) (by rw [hh]; exact aI _ h)
theorem dY (x y sep : Bs) (r : List Bs) : Lib.join (x :: y :: r) sep = x ++ sep ++ Lib.join (y :: r) sep := by rw [Lib.join_cons, Lib.join_cons]; simp [Lib.joinTail]
theorem na {c : UInt8} : ∀ {x : Bs} {r : List Bs}, (∀ y, y ∈ x :: r → c ∉ y) → spB c (Lib.join (x :: r) [c]) = x :: r
  | x, [], h => by rw [Lib.join_one]; exact jQ (h x (by simp))
  | x, y :: r, h => by
    have e : Lib.join (x :: y :: r) [c] = x ++ c :: Lib.join (y :: r) [c] := by rw [dY]; simp
    rw [e, nE _ (h x (by simp)), na fun z hz => h z (aI _ hz)]
/-plain-/
def lnE (s : Bs) : Nat := if Lib.indexByte s 10 < 0 then s.length else (Lib.indexByte s 10).toNat + 1
def aW (s : Bs) : Nat → Bs
  | 0 => s
  | k + 1 => (aW s k).drop (lnE (aW s k))
def cg (s : Bs) (k : Nat) : Bs := (aW s k).take (lnE (aW s k))
theorem wB (s : Bs) : lnE s ≤ s.length := by
  unfold lnE
  split
  · exact Nat.le_refl _
  · exact (ge (by omega)).1
theorem nW {s : Bs} (h : s ≠ []) : 1 ≤ lnE s := by
  unfold lnE
  split
  · exact List.length_pos_iff.2 h
  · omega
theorem iM (s : Bs) : ∀ k, aW s k ≠ [] → k + (aW s k).length ≤ s.length
  | 0, _ => by simp [aW]
  | k + 1, h => by
    have h0 : aW s k ≠ [] := fun e => h (by simp [aW, e])
    have ih := iM s k h0
    have h1 := nW h0
    have h2 := wB (aW s k)
    simp only [aW, List.length_drop]
    omega
theorem rb (s : Bs) (k : Nat) : (aW s k).length ≤ s.length := by
  by_cases h : aW s k = []
  · rw [h]; exact Nat.zero_le _
  · have := iM s k h; omega
theorem sO (l : Bs) (n : Nat) : (⟨l.toArray⟩ : ByteArray).extract 0 n = ⟨(l.take n).toArray⟩ := by
  apply ByteArray.ext
  simp [ByteArray.data_extract]
theorem qb (l : Bs) (n : Nat) : (⟨l.toArray⟩ : ByteArray).extract n l.length = ⟨(l.drop n).toArray⟩ := by
  apply ByteArray.ext
  simp [ByteArray.data_extract]
  rw [List.take_of_length_le (by rw [List.length_drop]; exact Nat.le_refl _)]
/-plain-/
def dH (s p : Bs) : Bool := decide (p.length ≤ s.length) && decide (s.drop (s.length - p.length) = p)
theorem og {s p : Bs} : dH s p = true ↔ p <:+ s := by
  unfold dH
  rw [Bool.and_eq_true, decide_eq_true_eq, decide_eq_true_eq, List.suffix_iff_eq_drop]
  constructor
  · intro h; exact h.2.symm
  · intro h
    refine ⟨?_, h.symm⟩
    have := congrArg List.length h
    rw [List.length_drop] at this
    omega
/-plain-/
def cL (b n : Nat) : List AC := (List.range n).map fun i => .row (b + i) 0
def fi (I : TypeId) (xs : List (List Int)) : List AO := xs.map fun l => .row (.int .i64) I 0 l
def dt (S I : TypeId) (b : Nat) (xs : List (List Int)) : List AO := .rowc S 1 0 (cL (b + 1) xs.length) :: fi I xs
def fl (L0 : List AO) (S I : TypeId) (n k : Nat) (xs : List (List Int)) : List AO := L0 ++ .rowc S 1 0 (cL (L0.length + 1) k ++ List.replicate (n - k) .nils) :: fi I xs
theorem di (b n : Nat) : (cL b n).length = n := by unfold cL; simp
theorem cS (I : TypeId) (xs : List (List Int)) : (fi I xs).length = xs.length := by unfold fi; simp
theorem wu (L0 : List AO) (S I : TypeId) (n : Nat) : fl L0 S I n 0 [] = L0 ++ [.rowc S 1 0 (List.replicate n .nils)] := by unfold fl cL fi; simp
theorem tA (L0 : List AO) (S I : TypeId) (n : Nat) (xs : List (List Int)) (h : xs.length = n) : fl L0 S I n n xs = L0 ++ dt S I L0.length xs := by unfold fl dt; rw [h, Nat.sub_self, List.replicate_zero, List.append_nil]
theorem jS (L0 : List AO) (S I : TypeId) (n k : Nat) (xs : List (List Int)) : (fl L0 S I n k xs)[L0.length]? = some (.rowc S 1 0 (cL (L0.length + 1) k ++ List.replicate (n - k) .nils)) := by unfold fl; simp
theorem kL (L0 : List AO) (S I : TypeId) (n k : Nat) (xs : List (List Int)) : (fl L0 S I n k xs).length = L0.length + 1 + xs.length := by unfold fl; simp [cS]; omega
theorem kS (L0 : List AO) (S I : TypeId) (n k : Nat) (xs : List (List Int)) (l : List Int) : fl L0 S I n k xs ++ [.row (.int .i64) I 0 l] = fl L0 S I n k (xs ++ [l]) := by unfold fl fi; simp
theorem ou {b n k : Nat} (h : k ≤ n) : (cL b k ++ List.replicate (n - k) AC.nils).length = n := by rw [aq, di, aL]; omega
theorem rG {b n k : Nat} (h : k < n) : bc (cL b k ++ List.replicate (n - k) .nils) k [.row (b + k) 0] = cL b (k + 1) ++ List.replicate (n - (k + 1)) .nils := by
  unfold bc
  have e : cL b (k + 1) = cL b k ++ [.row (b + k) 0] := by unfold cL; rw [List.range_succ, List.map_append]; rfl
  rw [e, List.take_append_of_le_length (by rw [di]; exact Nat.le_refl _), List.take_of_length_le (by rw [di]; exact Nat.le_refl _), List.drop_append, di, List.drop_of_length_le (by rw [di]; simp), ar]
  simp only [ak, aw, List.drop_replicate]
  rw [show n - k - (k + (0 + 1) - k) = n - (k + 1) by omega]
theorem tJ (L0 : List AO) (S I : TypeId) {n k : Nat} (xs : List (List Int)) (h : k < n) : (fl L0 S I n k xs).set L0.length (.rowc S 1 0 (bc (cL (L0.length + 1) k ++ List.replicate (n - k) .nils) k [.row (L0.length + 1 + k) 0])) = fl L0 S I n (k + 1) xs := by
  unfold fl; rw [rG h, List.set_append]; simp
/-plain-/
structure RS where
  nm : Bs
  ins : List Bs
  outs : List Bs
  inp : Int
  st : Int
  nx : List (List Int)
  ot : List (List Int)
  sts : List Bs
  rd : Nat
  lf : Int
  tb : Bool
def rs0 : RS := ⟨[], [], [], 0, 0, [], [], [], 0, 0, false⟩
def rdC (r : RS) (a b : AC) : List AC := [.str r.nm, .list .str r.ins, .list .str r.outs, .int .i64 r.inp, .int .i64 r.st, a, b, .list .str r.sts, .int .i64 (r.rd : Int), .int .i64 r.lf]
def rdT (S I : TypeId) (r : RS) : List AO := if r.tb = true then dt S I 1 r.nx ++ dt S I (2 + r.nx.length) r.ot else []
def rdA (r : RS) : AC := if r.tb = true then .rwc 1 0 else .nils
def rdB (r : RS) : AC := if r.tb = true then .rwc (2 + r.nx.length) 0 else .nils
def SH (R S I : TypeId) (r : RS) : List AO := .vars R (rdC r (rdA r) (rdB r)) :: rdT S I r
def eM (n : Nat) (L1 : List AO) : List (Nat × AO) := (List.range n).map fun k => (k, L1.getD k (.dead 0))
theorem jE : ∀ (n : Nat) {L0 L1 : List AO}, n ≤ L0.length → n ≤ L1.length → bE L0 (eM n L1) = L1.take n ++ L0.drop n
  | 0, L0, L1, _, _ => by simp [eM, bE]
  | n + 1, L0, L1, h0, h1 => by
    have ih := jE n (L0 := L0) (L1 := L1) (by omega) (by omega)
    have e : eM (n + 1) L1 = eM n L1 ++ [(n, L1.getD n (.dead 0))] := by unfold eM; rw [List.range_succ, List.map_append]; rfl
    rw [e, kb, ih, List.set_append, if_neg (by rw [List.length_take]; omega)]
    have e1 : L1.getD n (.dead 0) = L1[n] := by simp [List.getD, List.getElem?_eq_getElem (show n < L1.length by omega)]
    have e2 : L1.take (n + 1) = L1.take n ++ [L1[n]] := by rw [List.take_add_one, List.getElem?_eq_getElem (show n < L1.length by omega)]; rfl
    rw [e1, e2, List.length_take, Nat.min_eq_left (by omega), Nat.sub_self, List.drop_eq_getElem_cons (show n < L0.length by omega), bK, List.append_assoc]; rfl
theorem aH {L0 L1 : List AO} (h : L0.length ≤ L1.length) : bE L0 (eM L0.length L1) ++ L1.drop L0.length = L1 := by
  rw [jE _ (Nat.le_refl _) h, List.drop_length, List.append_nil, List.take_append_drop]
def kwd (i : Nat) : Bs := [[109, 97, 99, 104, 105, 110, 101], [105, 110, 112, 117, 116, 115], [111, 117, 116, 112, 117, 116, 115], [115, 116, 97, 116, 101, 115], [115, 116, 97, 114, 116]].getD i []
def ixB (l : List Bs) (x : Bs) : Int := if x ∈ l then (pos l x : Int) else -1
def dw (l : List Bs) : Int := if l.length = 0 then 19 else if 128 < l.length then 11 else cp (nmE l) l.length
def cI (n : Nat) (k : Nat) : List (List Int) := List.replicate n (List.replicate k (-1))
def gb (r : RS) (l : List Bs) : RS := { r with sts := l, lf := l.length * r.ins.length, inp := r.ins.length, st := 0, nx := cI l.length r.ins.length, ot := cI l.length r.ins.length, tb := true }
def gR (r : RS) (l : List Bs) : RS × Int := if dw l = 0 then (gb r l, 0) else (r, dw l)
def aU (r : RS) (w : List Bs) : RS × Int :=
  if ¬ w.getD 0 [] = kwd r.rd ∨ ((r.rd = 0 ∨ r.rd = 4) ∧ ¬ w.length = 2) then (r, 5)
  else if r.rd = 0 then ({ r with nm := w.getD 1 [] }, if aY (w.getD 1 []) = true then 0 else 9)
  else if r.rd = 1 then ({ r with ins := w.drop 1 }, alE (w.drop 1))
  else if r.rd = 2 then ({ r with outs := w.drop 1 }, alE (w.drop 1))
  else if r.rd = 3 then gR r (w.drop 1)
  else ({ r with st := ixB r.sts (w.getD 1 []) }, if ixB r.sts (w.getD 1 []) < 0 then 8 else 0)
def fN (r : RS) (s a : Nat) (t o : Int) : RS := { r with nx := r.nx.set s ((r.nx.getD s []).set a t), ot := r.ot.set s ((r.ot.getD s []).set a o), lf := r.lf - 1 }
def br (r : RS) (w : List Bs) : RS × Int :=
  if ¬ w.length = 4 then (r, 5)
  else if w.getD 0 [] ∉ r.sts ∨ w.getD 3 [] ∉ r.sts ∨ w.getD 1 [] ∉ r.ins ∨ w.getD 2 [] ∉ r.outs then (r, 8)
  else if 0 ≤ (r.nx.getD (pos r.sts (w.getD 0 [])) []).getD (pos r.ins (w.getD 1 [])) 0 then (r, 7)
  else (fN r (pos r.sts (w.getD 0 [])) (pos r.ins (w.getD 1 [])) (pos r.sts (w.getD 3 [])) (pos r.outs (w.getD 2 [])), 0)
def ey (r : RS) (w : List Bs) : RS × Int := if r.rd < 5 then aU r w else br r w
def cz (p : RS × Int) : RS × Int := ({ p.1 with rd := p.1.rd + 1 }, p.2)
def bg (r : RS) (s : Bs) : RS × Int :=
  if dH s [10] = false then (r, 5)
  else if s.take (s.length - 1) = [] ∨ (s.take (s.length - 1)).getD 0 0 = 35 then (r, 0)
  else if [] ∈ spB 32 (s.take (s.length - 1)) then (r, 5)
  else cz (ey r (spB 32 (s.take (s.length - 1))))
theorem fS {l : List Bs} (h : l.length = 0) : dw l = 19 := if_pos h
theorem du {l : List Bs} (h : ¬ l.length = 0) (h2 : 128 < l.length) : dw l = 11 := by unfold dw; rw [if_neg h, if_pos h2]
theorem fY {l : List Bs} (h : ¬ l.length = 0) (h2 : ¬ 128 < l.length) {k : Nat} (hk : k < l.length) (hq : ∀ q, q < k → nmE l q = 0) (hb : aY (l.getD k []) = false) : dw l = 9 := by
  have e : nmE l k = 9 := if_pos hb
  unfold dw; rw [if_neg h, if_neg h2, bC hq hk (by rw [e]; decide), e]
theorem fP {l : List Bs} (h : ¬ l.length = 0) (h2 : ¬ 128 < l.length) {k : Nat} (hk : k < l.length) (hq : ∀ q, q < k → nmE l q = 0) (hb : aY (l.getD k []) = true) (hi : l.getD k [] ∈ l.take k) : dw l = 7 := by
  have e : nmE l k = 7 := by unfold nmE; rw [if_neg (by rw [hb]; decide), if_pos hi]
  unfold dw; rw [if_neg h, if_neg h2, bC hq hk (by rw [e]; decide), e]
theorem ec {l : List Bs} (h : ¬ l.length = 0) (h2 : ¬ 128 < l.length) (hq : ∀ q, q < l.length → nmE l q = 0) : dw l = 0 := by
  unfold dw; rw [if_neg h, if_neg h2, bW hq]
def jV (R S I : TypeId) (r : RS) (a b : AC) (U : List AO) (l : List Bs) : List AO :=
  if dw l = 0 then .vars R (rdC (gb r l) (.rwc (U.length + 1) 0) (.rwc (U.length + 2 + l.length) 0)) :: (U ++ dt S I (U.length + 1) (cI l.length r.ins.length) ++ dt S I (U.length + 2 + l.length) (cI l.length r.ins.length))
  else .vars R (rdC r a b) :: U
theorem bG {R S I : TypeId} {r : RS} {a b : AC} {U : List AO} {l : List Bs} {e : Int} (he : dw l = e) (h0 : ¬ e = 0) : jV R S I r a b U l = .vars R (rdC r a b) :: U := if_neg (by rw [he]; exact h0)
theorem gg {R S I : TypeId} {r : RS} {a b : AC} {U : List AO} {l : List Bs} (he : dw l = 0) : jV R S I r a b U l = .vars R (rdC (gb r l) (.rwc (U.length + 1) 0) (.rwc (U.length + 2 + l.length) 0)) :: (U ++ dt S I (U.length + 1) (cI l.length r.ins.length) ++ dt S I (U.length + 2 + l.length) (cI l.length r.ins.length)) := if_pos he
theorem ct {R S I : TypeId} {r : RS} {a b : AC} {U : List AO} {l : List Bs} {x : AO} : (x :: U).length ≤ (jV R S I r a b U l).length := by
  unfold jV
  split
  · simp only [ak, aq]; omega
  · exact Nat.le_refl _
theorem f8 (S I : TypeId) (b : Nat) (xs : List (List Int)) : (dt S I b xs).length = xs.length + 1 := by unfold dt; simp [cS]
theorem iS (n k : Nat) : (cI n k).length = n := by unfold cI; simp
def fV (R S I : TypeId) (r : RS) (a b : AC) (U : List AO) (w : List Bs) : List AO :=
  if r.rd = 3 ∧ w.getD 0 [] = kwd 3 then jV R S I r a b U (w.drop 1) else .vars R (rdC (aU r w).1 a b) :: U
theorem kR {R S I : TypeId} {r : RS} {a b : AC} {U : List AO} {w : List Bs} (h : ¬ (r.rd = 3 ∧ w.getD 0 [] = kwd 3)) : fV R S I r a b U w = .vars R (rdC (aU r w).1 a b) :: U := if_neg h
theorem ra {R S I : TypeId} {r : RS} {a b : AC} {U : List AO} {w : List Bs} (h : r.rd = 3 ∧ w.getD 0 [] = kwd 3) : fV R S I r a b U w = jV R S I r a b U (w.drop 1) := if_pos h
theorem dg {R S I : TypeId} {r : RS} {a b : AC} {U : List AO} {w : List Bs} {x : AO} : (x :: U).length ≤ (fV R S I r a b U w).length := by
  unfold fV
  split
  · exact ct
  · exact Nat.le_refl _
theorem lD {R S I : TypeId} {r : RS} {a b : AC} {U : List AO} {w : List Bs} (h : ¬ w.getD 0 [] = kwd r.rd ∨ ((r.rd : Int) = 0 ∨ (r.rd : Int) = 4) ∧ ¬ (w.length : Int) = 2) : (aU r w).2 = 5 ∧ fV R S I r a b U w = .vars R (rdC r a b) :: U := by
  have e : aU r w = (r, 5) := if_pos (by rcases h with h | ⟨h1, h2⟩; exact .inl h; exact .inr ⟨by omega, by omega⟩)
  refine ⟨by rw [e], ?_⟩
  rw [kR, e]
  rintro ⟨q1, q2⟩
  rcases h with h | h
  · exact h (by rw [q1]; exact q2)
  · omega
theorem cV {r : RS} {w : List Bs} (h : w.getD 0 [] = kwd r.rd ∧ (¬ (r.rd : Int) = 0 ∧ ¬ (r.rd : Int) = 4 ∨ (w.length : Int) = 2)) : aU r w = if r.rd = 0 then ({ r with nm := w.getD 1 [] }, if aY (w.getD 1 []) = true then 0 else 9)
  else if r.rd = 1 then ({ r with ins := w.drop 1 }, alE (w.drop 1))
  else if r.rd = 2 then ({ r with outs := w.drop 1 }, alE (w.drop 1))
  else if r.rd = 3 then gR r (w.drop 1)
  else ({ r with st := ixB r.sts (w.getD 1 []) }, if ixB r.sts (w.getD 1 []) < 0 then 8 else 0) := by
  unfold aU
  rw [if_neg]
  rintro (q | q)
  · exact q h.1
  · omega
theorem iA {R S I : TypeId} {r r' : RS} {a b : AC} {U : List AO} {w : List Bs} {e : Int} (h3 : ¬ r.rd = 3) (h : aU r w = (r', e)) : (aU r w).2 = e ∧ fV R S I r a b U w = .vars R (rdC r' a b) :: U := by
  refine ⟨by rw [h], ?_⟩
  rw [kR (fun q => h3 q.1), h]
theorem ln {R S I : TypeId} {r : RS} {a b : AC} {U : List AO} {w : List Bs} (h : w.getD 0 [] = kwd r.rd ∧ (¬ (r.rd : Int) = 0 ∧ ¬ (r.rd : Int) = 4 ∨ (w.length : Int) = 2)) (h3 : r.rd = 3) : (aU r w).2 = dw (w.drop 1) ∧ fV R S I r a b U w = jV R S I r a b U (w.drop 1) := by
  refine ⟨?_, ra ⟨h3, by rw [← h3]; exact h.1⟩⟩
  rw [cV h, if_neg (by omega), if_neg (by omega), if_neg (by omega), if_pos h3]
  unfold gR
  split
  · rename_i e; exact e.symm
  · rfl
def RT (R S I : TypeId) (r : RS) : List AO := .vars R (rdC r (.rwc 1 0) (.rwc (2 + r.nx.length) 0)) :: (dt S I 1 r.nx ++ dt S I (2 + r.nx.length) r.ot)
theorem mE {I : TypeId} {xs : List (List Int)} {s : Nat} (h : s < xs.length) : (fi I xs)[s]? = some (.row (.int .i64) I 0 (xs.getD s [])) := by unfold fi; simp [List.getD, List.getElem?_eq_getElem h]
theorem nC {I : TypeId} {xs : List (List Int)} {s : Nat} (x : List Int) : (fi I xs).set s (.row (.int .i64) I 0 x) = fi I (xs.set s x) := by unfold fi; rw [List.map_set]
theorem nu {b n s : Nat} (h : s < n) : (cL b n).getD s .junk = .row (b + s) 0 := by unfold cL; simp [List.getD, h]
theorem sb (R S I : TypeId) (r : RS) : (RT R S I r).length = 3 + r.nx.length + r.ot.length := by unfold RT; simp only [ak, aq, f8]; omega
theorem fd (R S I : TypeId) (r : RS) : (RT R S I r)[0]? = some (.vars R (rdC r (.rwc 1 0) (.rwc (2 + r.nx.length) 0))) := rfl
theorem sH (R S I : TypeId) (r : RS) : (RT R S I r)[1]? = some (.rowc S 1 0 (cL 2 r.nx.length)) := rfl
theorem wL {R S I : TypeId} {r : RS} {s : Nat} (h : s < r.nx.length) : (RT R S I r)[2 + s]? = some (.row (.int .i64) I 0 (r.nx.getD s [])) := by
  unfold RT dt
  rw [show 2 + s = (s + 1) + 1 by omega, List.getElem?_cons_succ, am, List.getElem?_cons_succ, List.getElem?_append_left (by rw [cS]; exact h)]
  exact mE h
theorem uI (R S I : TypeId) (r : RS) : (RT R S I r)[2 + r.nx.length]? = some (.rowc S 1 0 (cL (3 + r.nx.length) r.ot.length)) := by
  unfold RT dt
  rw [show 2 + r.nx.length = (r.nx.length + 1) + 1 by omega, List.getElem?_cons_succ, am, List.getElem?_cons_succ, List.getElem?_append_right (by rw [cS]; exact Nat.le_refl _), cS, Nat.sub_self]
  rw [show r.nx.length + 1 + 1 + 1 = 3 + r.nx.length by omega]; rfl
theorem wH {R S I : TypeId} {r : RS} {s : Nat} (h : s < r.ot.length) : (RT R S I r)[3 + r.nx.length + s]? = some (.row (.int .i64) I 0 (r.ot.getD s [])) := by
  unfold RT dt
  rw [show 3 + r.nx.length + s = (r.nx.length + (s + 1)) + 1 + 1 by omega, List.getElem?_cons_succ, am, List.getElem?_cons_succ, List.getElem?_append_right (by rw [cS]; omega), cS, show r.nx.length + (s + 1) - r.nx.length = s + 1 by omega, List.getElem?_cons_succ]
  exact mE h
theorem wX {R S I : TypeId} {r : RS} {s : Nat} (h : s < r.nx.length) (x : List Int) : (RT R S I r).set (2 + s) (.row (.int .i64) I 0 x) = RT R S I { r with nx := r.nx.set s x } := by
  unfold RT dt
  rw [show 2 + s = (s + 1) + 1 by omega, ba, am, ba, List.set_append, if_pos (by rw [cS]; exact h), nC]
  simp only [List.length_set]; rfl
theorem wV {R S I : TypeId} {r : RS} {s : Nat} (h : s < r.ot.length) (x : List Int) : (RT R S I r).set (3 + r.nx.length + s) (.row (.int .i64) I 0 x) = RT R S I { r with ot := r.ot.set s x } := by
  unfold RT dt
  rw [show 3 + r.nx.length + s = (r.nx.length + (s + 1)) + 1 + 1 by omega, ba, am, ba, List.set_append, if_neg (by rw [cS]; omega), cS, show r.nx.length + (s + 1) - r.nx.length = s + 1 by omega, ba, nC]
  simp only [List.length_set]; rfl
theorem x5 {R S I : TypeId} {r : RS} (x : Int) : (RT R S I r).set 0 (.vars R [.str r.nm, .list .str r.ins, .list .str r.outs, .int .i64 r.inp, .int .i64 r.st, .rwc 1 0, .rwc (2 + r.nx.length) 0, .list .str r.sts, .int .i64 (r.rd : Int), .int .i64 x]) = RT R S I { r with lf := x } := rfl
structure ROK (r : RS) : Prop where
  nl : r.nx.length = r.sts.length
  ol : r.ot.length = r.sts.length
  n2 : r.sts.length ≤ 128
  i1 : 1 ≤ r.ins.length
  i2 : r.ins.length ≤ 64
  rl : ∀ s, s < r.sts.length → (r.nx.getD s []).length = r.ins.length
  ql : ∀ s, s < r.sts.length → (r.ot.getD s []).length = r.ins.length
  l0 : -2000000 ≤ r.lf
  l1 : r.lf ≤ 1000000
theorem wi {s1 s2 i1 o1 : List Bs} {a b c d : Bs} {x y : Int} (h : ((0 ≤ (if a ∈ s1 then x else -1) ∧ 0 ≤ (if b ∈ s2 then y else -1)) ∧ c ∈ i1) ∧ d ∈ o1) : a ∈ s1 ∧ b ∈ s2 ∧ c ∈ i1 ∧ d ∈ o1 := by
  obtain ⟨⟨⟨h1, h2⟩, h3⟩, h4⟩ := h
  refine ⟨?_, ?_, h3, h4⟩
  · split at h1
    · assumption
    · omega
  · split at h2
    · assumption
    · omega
theorem ko {s1 s2 i1 o1 : List Bs} {a b c d : Bs} {x y : Nat} (h : (((if a ∈ s1 then (x : Int) else -1) < 0 ∨ (if b ∈ s2 then (y : Int) else -1) < 0) ∨ ¬ c ∈ i1) ∨ ¬ d ∈ o1) : a ∉ s1 ∨ b ∉ s2 ∨ c ∉ i1 ∨ d ∉ o1 := by
  rcases h with ((h | h) | h) | h
  · split at h
    · omega
    · exact .inl (by assumption)
  · split at h
    · omega
    · exact .inr (.inl (by assumption))
  · exact .inr (.inr (.inl h))
  · exact .inr (.inr (.inr h))
theorem hM {r : RS} {w : List Bs} (h : ¬ (w.length : Int) = 4) : br r w = (r, 5) := if_pos (by omega)
theorem i8 {r : RS} {w : List Bs} (h : (w.length : Int) = 4) (h2 : w.getD 0 [] ∉ r.sts ∨ w.getD 3 [] ∉ r.sts ∨ w.getD 1 [] ∉ r.ins ∨ w.getD 2 [] ∉ r.outs) : br r w = (r, 8) := by unfold br; rw [if_neg (by omega), if_pos h2]
theorem ik {r : RS} {w : List Bs} (h : (w.length : Int) = 4) (h0 : w.getD 0 [] ∈ r.sts) (h3 : w.getD 3 [] ∈ r.sts) (h1 : w.getD 1 [] ∈ r.ins) (h2 : w.getD 2 [] ∈ r.outs) (h4 : 0 ≤ (r.nx.getD (pos r.sts (w.getD 0 [])) []).getD (pos r.ins (w.getD 1 [])) 0) : br r w = (r, 7) := by
  unfold br; rw [if_neg (by omega), if_neg (by rintro (q | q | q | q) <;> exact q (by assumption)), if_pos h4]
theorem gD {r : RS} {w : List Bs} (h : (w.length : Int) = 4) (h0 : w.getD 0 [] ∈ r.sts) (h3 : w.getD 3 [] ∈ r.sts) (h1 : w.getD 1 [] ∈ r.ins) (h2 : w.getD 2 [] ∈ r.outs) (h4 : ¬ 0 ≤ (r.nx.getD (pos r.sts (w.getD 0 [])) []).getD (pos r.ins (w.getD 1 [])) 0) :
    br r w = (fN r (pos r.sts (w.getD 0 [])) (pos r.ins (w.getD 1 [])) (pos r.sts (w.getD 3 [])) (pos r.outs (w.getD 2 [])), 0) := by
  unfold br; rw [if_neg (by omega), if_neg (by rintro (q | q | q | q) <;> exact q (by assumption)), if_neg h4]
theorem jz (R S I : TypeId) (r : RS) (w : List Bs) : (RT R S I r).length ≤ (RT R S I (br r w).1).length := by
  rw [sb, sb]
  unfold br fN
  split
  · exact Nat.le_refl _
  · split
    · exact Nat.le_refl _
    · split
      · exact Nat.le_refl _
      · simp
theorem oZ (R S I : TypeId) (r : RS) : (SH R S I r)[0]? = some (.vars R (rdC r (rdA r) (rdB r))) := rfl
theorem vl (R S I : TypeId) (r : RS) : (SH R S I r).set 0 (.vars R [.str r.nm, .list .str r.ins, .list .str r.outs, .int .i64 r.inp, .int .i64 r.st, rdA r, rdB r, .list .str r.sts, .int .i64 ((r.rd : Int) + 1), .int .i64 r.lf]) = SH R S I { r with rd := r.rd + 1 } := rfl
theorem fk {R S I : TypeId} {r : RS} (h : r.tb = true) : SH R S I r = RT R S I r := by unfold SH RT rdA rdB rdT; rw [if_pos h, if_pos h, if_pos h]
theorem tE {r : RS} {w : List Bs} (h : ¬ (r.rd = 3 ∧ w.getD 0 [] = kwd 3)) : (aU r w).1.tb = r.tb ∧ (aU r w).1.nx = r.nx ∧ (aU r w).1.ot = r.ot := by
  unfold aU
  split
  · exact ⟨rfl, rfl, rfl⟩
  · rename_i h1
    split
    · exact ⟨rfl, rfl, rfl⟩
    · split
      · exact ⟨rfl, rfl, rfl⟩
      · split
        · exact ⟨rfl, rfl, rfl⟩
        · split
          · rename_i h3
            exfalso
            refine h ⟨h3, ?_⟩
            rw [← h3]
            exact Decidable.byContradiction fun q => h1 (.inl q)
          · exact ⟨rfl, rfl, rfl⟩
theorem oC {R S I : TypeId} {r : RS} {w : List Bs} (h3 : r.rd = 3 → r.tb = false) : fV R S I r (rdA r) (rdB r) (rdT S I r) w = SH R S I (aU r w).1 := by
  by_cases h : r.rd = 3 ∧ w.getD 0 [] = kwd 3
  · rw [ra h]
    have e : aU r w = gR r (w.drop 1) := by
      unfold aU
      rw [if_neg (by rintro (q | q); exact q (by rw [h.1]; exact h.2); omega), if_neg (by omega), if_neg (by omega), if_neg (by omega), if_pos h.1]
    have ht := h3 h.1
    have hT : rdT S I r = [] := by unfold rdT; rw [ht]; rfl
    have hA : rdA r = .nils := by unfold rdA; rw [ht]; rfl
    rw [e, hT]
    unfold gR
    by_cases h0 : dw (w.drop 1) = 0
    · rw [if_pos h0, gg h0]
      rw [fk (show (gb r (w.drop 1)).tb = true from rfl)]
      unfold RT
      simp only [ar, aw, Nat.zero_add]
      rw [show (gb r (w.drop 1)).nx.length = (w.drop 1).length by unfold gb; simp [iS]]
      rfl
    · rw [if_neg h0, bG rfl h0]
      unfold SH
      rw [hT]
  · rw [kR h]
    obtain ⟨h1, h2, h4⟩ := tE h
    unfold SH rdA rdB rdT
    rw [h1, h2, h4]
theorem kf {r : RS} {w : List Bs} : (br r w).1.tb = r.tb := by
  unfold br fN
  split
  · rfl
  · split
    · rfl
    · split <;> rfl
structure LOK (r : RS) : Prop where
  h3 : r.rd = 3 → r.tb = false ∧ 1 ≤ r.ins.length ∧ r.ins.length ≤ 64
  h5 : 5 ≤ r.rd → r.tb = true ∧ ROK r ∧ r.outs.length ≤ 1000000
  rl : r.rd ≤ 2000000
theorem sh {R S I : TypeId} {r : RS} (h : r.rd = 3 → r.tb = false) (w : List Bs) : (SH R S I r).length ≤ (SH R S I (aU r w).1).length := by rw [← oC h]; exact dg
theorem sI {R S I : TypeId} {r : RS} (h : r.tb = true) (w : List Bs) : (SH R S I r).length ≤ (SH R S I (br r w).1).length := by rw [fk h, fk (kf.trans h)]; exact jz ..
theorem kY {s : Bs} {k : Nat} : ((s.getD k 0).toNat : Int) = 35 ↔ s.getD k 0 = 35 := by
  constructor
  · intro h
    apply UInt8.toNat_inj.1
    have e : ((35 : UInt8).toNat : Int) = 35 := by decide
    omega
  · intro h; rw [h]; decide
theorem kI {r : RS} {w : List Bs} : (aU r w).1.rd = r.rd := by
  unfold aU gR gb
  repeat' split
  all_goals rfl
theorem n7 {r : RS} {w : List Bs} : (br r w).1.rd = r.rd := by
  unfold br fN
  repeat' split
  all_goals rfl
theorem i4 {r : RS} {s : Bs} (h : dH s [10] = false) : bg r s = (r, 5) := if_pos h
theorem jF {r : RS} {s : Bs} (h : dH s [10] = true) (h2 : s.take (s.length - 1) = [] ∨ (((s.take (s.length - 1)).getD 0 0).toNat : Int) = 35) : bg r s = (r, 0) := by
  unfold bg
  rw [if_neg (by rw [h]; decide), if_pos]
  rcases h2 with h2 | h2
  · exact .inl h2
  · exact .inr (kY.1 h2)
theorem mR {r : RS} {s : Bs} (h : dH s [10] = true) (h2 : ¬ s.take (s.length - 1) = [] ∧ ¬ (((s.take (s.length - 1)).getD 0 0).toNat : Int) = 35) : bg r s = if [] ∈ spB 32 (s.take (s.length - 1)) then (r, 5) else cz (ey r (spB 32 (s.take (s.length - 1)))) := by
  unfold bg
  rw [if_neg (by rw [h]; decide), if_neg]
  rintro (q | q)
  · exact h2.1 q
  · exact h2.2 (kY.2 q)
theorem iq {r : RS} {s : Bs} (h : dH s [10] = true) (h2 : ¬ s.take (s.length - 1) = [] ∧ ¬ (((s.take (s.length - 1)).getD 0 0).toNat : Int) = 35) (h3 : [] ∈ spB 32 (s.take (s.length - 1))) : bg r s = (r, 5) := by rw [mR h h2, if_pos h3]
theorem ki {r : RS} {s : Bs} (h : dH s [10] = true) (h2 : ¬ s.take (s.length - 1) = [] ∧ ¬ (((s.take (s.length - 1)).getD 0 0).toNat : Int) = 35) (h3 : ¬ [] ∈ spB 32 (s.take (s.length - 1))) (h4 : (r.rd : Int) < 5) : bg r s = ({ (aU r (spB 32 (s.take (s.length - 1)))).1 with rd := (aU r (spB 32 (s.take (s.length - 1)))).1.rd + 1 }, (aU r (spB 32 (s.take (s.length - 1)))).2) := by
  rw [mR h h2, if_neg h3]; unfold cz ey; rw [if_pos (by omega)]
theorem jZ {r : RS} {s : Bs} (h : dH s [10] = true) (h2 : ¬ s.take (s.length - 1) = [] ∧ ¬ (((s.take (s.length - 1)).getD 0 0).toNat : Int) = 35) (h3 : ¬ [] ∈ spB 32 (s.take (s.length - 1))) (h4 : 5 ≤ (r.rd : Int)) : bg r s = ({ (br r (spB 32 (s.take (s.length - 1)))).1 with rd := (br r (spB 32 (s.take (s.length - 1)))).1.rd + 1 }, (br r (spB 32 (s.take (s.length - 1)))).2) := by
  rw [mR h h2, if_neg h3]; unfold cz ey; rw [if_neg (by omega)]
theorem x3 {R S I : TypeId} {r : RS} (h : LOK r) (s : Bs) : (SH R S I r).length ≤ (SH R S I (bg r s).1).length := by
  unfold bg
  split
  · exact Nat.le_refl _
  · split
    · exact Nat.le_refl _
    · split
      · exact Nat.le_refl _
      · unfold cz ey
        split
        · exact sh (fun e => (h.h3 e).1) _
        · exact sI (h.h5 (by omega)).1 _
/-plain-/
def gU : Mdl := ⟨[], [], [], ⟨0, 0, [], []⟩⟩
def sG (r : RS) : Mdl := ⟨r.nm, r.ins, r.outs, ⟨r.inp, r.st, r.nx, r.ot⟩⟩
def iy (k : Nat) (r : RS) : Mdl × Int × Int := if r.rd < 5 ∨ 0 < r.lf then (gU, (k : Int) + 1, 12) else (sG r, 0, 0)
def PL : List Bs → Nat → RS → Mdl × Int × Int
  | [], k, r => iy k r
  | l :: ls, k, r => if (bg r l).2 = 0 then PL ls (k + 1) (bg r l).1 else (gU, (k : Int) + 1, (bg r l).2)
def lP : Nat → Bs → List Bs
  | 0, _ => []
  | f + 1, s => if s = [] then [] else s.take (lnE s) :: lP f (s.drop (lnE s))
def lns (s : Bs) : List Bs := lP s.length s
theorem uh : ∀ f, lP f [] = []
  | 0 => rfl
  | f + 1 => if_pos rfl
theorem jk : ∀ (f : Nat) (s : Bs), s.length ≤ f → lP f s = lP s.length s
  | 0, s, h => by
    obtain rfl : s = [] := List.eq_nil_of_length_eq_zero (by omega)
    rfl
  | f + 1, s, h => by
    by_cases e : s = []
    · subst e; rw [uh]; rfl
    · have hp := nW e
      have hl := List.length_pos_iff.2 e
      obtain ⟨m, hm⟩ : ∃ m, s.length = m + 1 := ⟨s.length - 1, by omega⟩
      rw [hm]
      show (if s = [] then [] else s.take (lnE s) :: lP f (s.drop (lnE s))) = (if s = [] then [] else s.take (lnE s) :: lP m (s.drop (lnE s)))
      rw [if_neg e, if_neg e, jk f (s.drop (lnE s)) (by rw [List.length_drop]; omega)]
      rw [jk m (s.drop (lnE s)) (by rw [List.length_drop]; omega)]
 termination_by f => f
theorem vt : lns [] = [] := rfl
theorem iD {s : Bs} (e : s ≠ []) : lns s = s.take (lnE s) :: lns (s.drop (lnE s)) := by
  have hp := nW e
  have hl := List.length_pos_iff.2 e
  obtain ⟨m, hm⟩ : ∃ m, s.length = m + 1 := ⟨s.length - 1, by omega⟩
  unfold lns
  rw [hm]
  show (if s = [] then [] else s.take (lnE s) :: lP m (s.drop (lnE s))) = _
  rw [if_neg e, jk m _ (by rw [List.length_drop]; omega)]
def PM (s : Bs) : Mdl × Int × Int := if 1048576 < s.length then (gU, 0, 3) else PL (lns s) 0 rs0
def bV (s : Bs) : Nat → RS
  | 0 => rs0
  | k + 1 => (bg (bV s k) (cg s k)).1
def OKR (s : Bs) (k : Nat) : Prop := ∀ j, j < k → aW s j ≠ [] ∧ (bg (bV s j) (cg s j)).2 = 0
theorem rA {s : Bs} (h0 : ¬ 1048576 < s.length) : ∀ k, OKR s k → PM s = PL (lns (aW s k)) k (bV s k)
  | 0, _ => if_neg h0
  | k + 1, h => by
    rw [rA h0 k fun j hj => h j (by omega)]
    obtain ⟨h1, h2⟩ := h k (by omega)
    rw [iD h1]
    show (if (bg (bV s k) (cg s k)).2 = 0 then PL (lns (aW s (k + 1))) (k + 1) (bV s (k + 1)) else _) = _
    rw [if_pos h2]
theorem wj {s : Bs} (h0 : ¬ 1048576 < s.length) {k : Nat} (h : OKR s k) (he : aW s k = []) : PM s = iy k (bV s k) := by rw [rA h0 k h, he]; rfl
theorem vT {s : Bs} (h0 : ¬ 1048576 < s.length) {k : Nat} (h : OKR s k) (he : aW s k ≠ []) (h2 : ¬ (bg (bV s k) (cg s k)).2 = 0) : PM s = (gU, (k : Int) + 1, (bg (bV s k) (cg s k)).2) := by
  rw [rA h0 k h, iD he]; exact if_neg h2
theorem tw {s : Bs} {k : Nat} (h : OKR s k) (he : aW s k ≠ []) (h2 : (bg (bV s k) (cg s k)).2 = 0) : OKR s (k + 1) := fun j hj => by
  by_cases e : j = k
  · subst e; exact ⟨he, h2⟩
  · exact h j (by omega)
structure RI (r : RS) : Prop where
  t3 : r.rd ≤ 3 → r.tb = false
  t4 : 4 ≤ r.rd → r.tb = true ∧ ROK r
  a1 : 2 ≤ r.rd → alE r.ins = 0
  a2 : 3 ≤ r.rd → alE r.outs = 0
  lf : 4 ≤ r.rd → -(r.rd : Int) ≤ r.lf ∧ r.lf ≤ 8192
theorem wJ : RI rs0 := ⟨fun _ => rfl, fun h => by simp [rs0] at h, fun h => by simp [rs0] at h, fun h => by simp [rs0] at h, fun h => by simp [rs0] at h⟩
theorem w6 {r : RS} (h : RI r) (hr : r.rd ≤ 1900000) : LOK r := by
  refine ⟨fun e => ⟨h.t3 (by omega), ?_⟩, fun e => ?_, by omega⟩
  · have := iN (h.a1 (by omega)); exact ⟨this.n0, this.n1⟩
  · have := iN (h.a2 (by omega))
    have h4 := h.t4 (by omega)
    exact ⟨h4.1, h4.2, by have := this.n1; omega⟩
theorem uQ {r : RS} {l : List Bs} (h : RI r) (h3 : r.rd = 3) (hn : dw l = 0) : RI { gb r l with rd := r.rd + 1 } := by
  have ha := iN (h.a1 (by omega))
  have hi0 := ha.n0
  have hi1 := ha.n1
  have hl : l.length ≤ 128 := by
    unfold dw at hn
    split at hn
    · omega
    · split at hn
      · omega
      · omega
  have hmu : (l.length : Int) * r.ins.length ≤ 128 * 64 := Int.mul_le_mul (by omega) (by omega) (by omega) (by omega)
  have hm0 : (0 : Int) ≤ (l.length : Int) * r.ins.length := Int.mul_nonneg (by omega) (by omega)
  have hrow : ∀ s, s < l.length → ((cI l.length r.ins.length).getD s []).length = r.ins.length := fun s hs => by
    unfold cI; simp [List.getD, hs]
  refine ⟨fun q => by simp only at q; omega, fun _ => ⟨rfl, iS .., iS .., hl, hi0, hi1, hrow, hrow, ?_, ?_⟩, fun _ => h.a1 (by omega), fun _ => h.a2 (by omega), fun _ => ⟨?_, ?_⟩⟩
  · show (-2000000 : Int) ≤ (l.length : Int) * r.ins.length; omega
  · show (l.length : Int) * r.ins.length ≤ 1000000; omega
  · show -((r.rd + 1 : Nat) : Int) ≤ (l.length : Int) * r.ins.length; omega
  · show (l.length : Int) * r.ins.length ≤ 8192; omega
theorem uo {r : RS} {w : List Bs} (h : RI r) (h5 : r.rd < 5) (he : (aU r w).2 = 0) : RI { (aU r w).1 with rd := (aU r w).1.rd + 1 } := by
  unfold aU at he ⊢
  split
  · rename_i q; rw [if_pos q] at he; simp at he
  · rename_i q
    rw [if_neg q] at he
    split
    · rename_i e0
      have := h.t3 (by omega)
      exact ⟨fun _ => this, fun q => by simp only at q; omega, fun q => by simp only at q; omega, fun q => by simp only at q; omega, fun q => by simp only at q; omega⟩
    · rename_i e0
      rw [if_neg e0] at he
      split
      · rename_i e1
        rw [if_pos e1] at he
        have := h.t3 (by omega)
        exact ⟨fun _ => this, fun q => by simp only at q; omega, fun _ => he, fun q => by simp only at q; omega, fun q => by simp only at q; omega⟩
      · rename_i e1
        rw [if_neg e1] at he
        split
        · rename_i e2
          rw [if_pos e2] at he
          have := h.t3 (by omega)
          exact ⟨fun _ => this, fun q => by simp only at q; omega, fun _ => h.a1 (by omega), fun _ => he, fun q => by simp only at q; omega⟩
        · rename_i e2
          rw [if_neg e2] at he
          split
          · rename_i e3
            rw [if_pos e3] at he
            unfold gR at he ⊢
            split
            · rename_i en
              exact uQ h e3 en
            · rename_i en; rw [if_neg en] at he; exact absurd he en
          · rename_i e3
            have h4 := h.t4 (by omega)
            have hl := h.lf (by omega)
            refine ⟨fun q => by simp only at q; omega, fun _ => ⟨h4.1, h4.2.nl, h4.2.ol, h4.2.n2, h4.2.i1, h4.2.i2, h4.2.rl, h4.2.ql, h4.2.l0, h4.2.l1⟩, fun _ => h.a1 (by omega), fun _ => h.a2 (by omega), fun _ => ⟨?_, hl.2⟩⟩
            show -((r.rd + 1 : Nat) : Int) ≤ r.lf
            omega
theorem j6 {xs : List (List Int)} {s a : Nat} {v : Int} (i : Nat) : ((xs.set s ((xs.getD s []).set a v)).getD i []).length = (xs.getD i []).length := by
  simp only [List.getD, List.getElem?_set]
  split
  · rename_i e; subst e
    split
    · rename_i hlt; simp [List.getElem?_eq_getElem hlt]
    · rename_i hlt; simp [List.getElem?_eq_none (by omega : xs.length ≤ s)]
  · rfl
theorem w3 {r : RS} {w : List Bs} (h : RI r) (h5 : 5 ≤ r.rd) (hr : r.rd ≤ 1900000) (he : (br r w).2 = 0) : RI { (br r w).1 with rd := (br r w).1.rd + 1 } := by
  have h4 := h.t4 (by omega)
  have hl := h.lf (by omega)
  have key : ∀ s a t o, RI { fN r s a t o with rd := (fN r s a t o).rd + 1 } := fun s a t o => by
    refine ⟨fun q => by simp only [fN] at q; omega, fun _ => ⟨h4.1, by simp only [fN, List.length_set]; exact h4.2.nl, by simp only [fN, List.length_set]; exact h4.2.ol, h4.2.n2, h4.2.i1, h4.2.i2, fun i hi => ?_, fun i hi => ?_, ?_, ?_⟩, fun _ => h.a1 (by omega), fun _ => h.a2 (by omega), fun _ => ⟨?_, ?_⟩⟩
    · exact (j6 i).trans (h4.2.rl i hi)
    · exact (j6 i).trans (h4.2.ql i hi)
    · show (-2000000 : Int) ≤ r.lf - 1; omega
    · show r.lf - 1 ≤ 1000000; omega
    · show -((r.rd + 1 : Nat) : Int) ≤ r.lf - 1; omega
    · show r.lf - 1 ≤ 8192; omega
  unfold br at he ⊢
  split
  · rename_i q; rw [if_pos q] at he; simp at he
  · rename_i q
    rw [if_neg q] at he
    split
    · rename_i q2; rw [if_pos q2] at he; simp at he
    · rename_i q2
      rw [if_neg q2] at he
      split
      · rename_i q3; rw [if_pos q3] at he; simp at he
      · exact key _ _ _ _
theorem q9 {r : RS} {s : Bs} (h : RI r) (hr : r.rd ≤ 1900000) (he : (bg r s).2 = 0) : RI (bg r s).1 ∧ (bg r s).1.rd ≤ r.rd + 1 := by
  unfold bg at he ⊢
  split
  · rename_i q; rw [if_pos q] at he; simp at he
  · rename_i q
    rw [if_neg q] at he
    split
    · exact ⟨h, Nat.le_succ _⟩
    · rename_i q2
      rw [if_neg q2] at he
      split
      · rename_i q3; rw [if_pos q3] at he; simp at he
      · rename_i q3
        rw [if_neg q3] at he
        unfold cz ey at he ⊢
        split
        · rename_i q4
          rw [if_pos q4] at he
          exact ⟨uo h q4 he, by simp only; rw [kI]; exact Nat.le_refl _⟩
        · rename_i q4
          rw [if_neg q4] at he
          exact ⟨w3 h (by omega) hr he, by simp only; rw [n7]; exact Nat.le_refl _⟩
theorem mn {s : Bs} (hs : s.length ≤ 1048576) : ∀ {k : Nat}, OKR s k → RI (bV s k) ∧ (bV s k).rd ≤ k ∧ k ≤ s.length
  | 0, _ => ⟨wJ, Nat.le_refl _, Nat.zero_le _⟩
  | k + 1, h => by
    obtain ⟨h1, h2, h3⟩ := mn hs (k := k) fun j hj => h j (by omega)
    obtain ⟨h4, h5⟩ := h k (by omega)
    have h6 := iM s k h4
    have h7 := List.length_pos_iff.2 h4
    obtain ⟨g1, g2⟩ := q9 h1 (by omega) h5
    exact ⟨g1, by show (bg (bV s k) (cg s k)).1.rd ≤ k + 1; omega, by omega⟩
/-plain-/
/-plain-/
def dV (L : List Bs) : Bs := (L.map (· ++ [10])).flatten
theorem ib (l : Bs) (L : List Bs) : dV (l :: L) = l ++ 10 :: dV L := by unfold dV; simp
theorem lH : ∀ {l : Bs} {L : List Bs}, Lib.join (l :: L) [10] ++ [10] = dV (l :: L)
  | l, [] => by rw [Lib.join_one, ib]; simp [dV]
  | l, m :: L => by rw [dY, ib, ← lH]; simp
theorem xi {l s : Bs} (h : (10 : UInt8) ∉ l) : Lib.indexByte (l ++ 10 :: s) 10 = l.length := by
  induction l with
  | nil => simp [Lib.indexByte]
  | cons b l ih =>
    simp only [List.mem_cons, not_or] at h
    have := ih h.2
    rw [am]
    unfold Lib.indexByte
    have e : (b == 10) = false := by simpa using Ne.symm h.1
    rw [e, this]
    have e2 : ((l.length : Int) == -1) = false := beq_eq_false_iff_ne.2 (by omega)
    rw [e2]
    simp
theorem vV {l s : Bs} (h : (10 : UInt8) ∉ l) : lnE (l ++ 10 :: s) = l.length + 1 := by
  unfold lnE; rw [xi h, if_neg (by omega)]; rfl
theorem ox : ∀ {L : List Bs}, (∀ l, l ∈ L → (10 : UInt8) ∉ l) → lns (dV L) = L.map (· ++ [10])
  | [], _ => rfl
  | l :: L, h => by
    have h1 := h l (by simp)
    rw [ib, iD (by simp), vV h1]
    have e1 : (l ++ 10 :: dV L).take (l.length + 1) = l ++ [10] := by rw [List.take_append, List.take_of_length_le (by omega)]; simp
    have e2 : (l ++ 10 :: dV L).drop (l.length + 1) = dV L := by rw [List.drop_append, List.drop_of_length_le (by omega)]; simp
    rw [e1, e2, ox fun x hx => h x (aI _ hx)]; rfl
def cE (r : RS) (l : Bs) : RS × Int := if l = [] ∨ l.getD 0 0 = 35 then (r, 0) else if [] ∈ spB 32 l then (r, 5) else cz (ey r (spB 32 l))
theorem gz (r : RS) (l : Bs) : bg r (l ++ [10]) = cE r l := by
  have h1 : dH (l ++ [10]) [10] = true := og.2 (List.suffix_append _ _)
  have h2 : (l ++ [(10 : UInt8)]).take ((l ++ [(10 : UInt8)]).length - 1) = l := by simp
  unfold bg cE
  rw [h1, h2, if_neg (by decide)]
theorem ly {r : RS} {w : Bs} {ws : List Bs} (h : ∀ y, y ∈ w :: ws → (32 : UInt8) ∉ y ∧ y ≠ []) (h35 : w.getD 0 0 ≠ 35) : cE r (Lib.join (w :: ws) [32]) = cz (ey r (w :: ws)) := by
  have hs := na (c := 32) (x := w) (r := ws) fun y hy => (h y hy).1
  have hw := (h w (by simp)).2
  obtain ⟨b, w', rfl⟩ : ∃ b w', w = b :: w' := by cases w with
    | nil => exact absurd rfl hw
    | cons b w' => exact ⟨b, w', rfl⟩
  have hj : ∃ t, Lib.join ((b :: w') :: ws) [32] = b :: t := ⟨_, by rw [Lib.join_cons, am]⟩
  obtain ⟨t, ht⟩ := hj
  unfold cE
  rw [hs, if_neg, if_neg]
  · intro hm; exact (h [] hm).2 rfl
  · rw [ht]; rintro (q | q)
    · cases q
    · exact h35 (by simpa [List.getD] using q)
theorem uZ {L : List Bs} (h : ∀ l, l ∈ L → (10 : UInt8) ∉ l) (hs : ¬ 1048576 < (dV L).length) : PM (dV L) = PL (L.map (· ++ [10])) 0 rs0 := by
  unfold PM; rw [if_neg hs, ox h]
theorem gi {L : List Bs} {k : Nat} {r r' : RS} {l : Bs} (h : cE r l = (r', 0)) : PL ((l :: L).map (· ++ [10])) k r = PL (L.map (· ++ [10])) (k + 1) r' := by
  rw [aS]
  show (if (bg r (l ++ [10])).2 = 0 then PL _ (k + 1) (bg r (l ++ [10])).1 else _) = _
  rw [gz, h, if_pos rfl]
theorem fu {s : Bs} (h : aY s = true) : s ≠ [] := fun e => by have := (dM h).2.1; rw [e] at this; simp at this
theorem uM {c : UInt8} (h : okI (c.toNat : Int)) : c ≠ 32 ∧ c ≠ 10 ∧ c ≠ 35 := by
  unfold okI at h
  refine ⟨fun e => ?_, fun e => ?_, fun e => ?_⟩ <;> (subst e; simp at h)
theorem pU {s : Bs} (h : aY s = true) : s.getD 0 0 ≠ 35 := by
  cases s with
  | nil => exact absurd rfl (fu h)
  | cons b s => exact (uM ((dM h).1 b (by simp))).2.2
theorem mL {s : Bs} (h : aY s = true) : (10 : UInt8) ∉ s := fun hm => (uM ((dM h).1 _ hm)).2.1 rfl
theorem nG : ∀ i : Nat, i < 128 → aY (qn i) = true ∧ ∀ j : Nat, j < i → qn j ≠ qn i := by decide +kernel
theorem dZ {i : Nat} (h : i < 128) : aY (qn i) = true := (nG i h).1
theorem sJ {i j : Nat} (hi : i < 128) (hj : j < 128) (e : qn i = qn j) : i = j := by
  rcases Nat.lt_trichotomy i j with h | h | h
  · exact absurd e ((nG j hj).2 i h)
  · exact h
  · exact absurd e.symm ((nG i hi).2 j h)
theorem wE {n : Nat} (h : n ≤ 128) : ∀ i, i < n → nmE (qs n) i = 0 := fun i hi => by
  refine jh ?_ ?_
  · rw [dJ hi]; exact dZ (by omega)
  · rw [dJ hi]
    intro hm
    obtain ⟨j, hj, e⟩ := ld.1 hm
    rw [List.length_take, cW] at hj
    rw [gN (by omega), dJ (by omega)] at e
    have := sJ (by omega) (by omega) e
    omega
theorem uu {n : Nat} (h0 : 1 ≤ n) (h : n ≤ 128) : dw (qs n) = 0 := ec (by rw [cW]; omega) (by rw [cW]; omega) (by rw [cW]; exact wE h)
theorem pF {n i : Nat} (h : i < n) : qn i ∈ qs n := by rw [← dJ h]; exact cU (by rw [cW]; exact h)
theorem pc {n i : Nat} (h : n ≤ 128) (hi : i < n) : pos (qs n) (qn i) = i :=
  (km (fun j hj e => by rw [dJ (by omega)] at e; have := sJ (by omega) (by omega) e; omega) (by rw [cW]; exact hi) (dJ hi)).1
/-plain-/
def nxD (n k : Nat) (done : List (Nat × Nat)) (m : List (List Int)) : List (List Int) := (List.range n).map fun s => (List.range k).map fun a => if (s, a) ∈ done then (m.getD s []).getD a 0 else -1
theorem uC (n k : Nat) (done : List (Nat × Nat)) (m : List (List Int)) : (nxD n k done m).length = n := by unfold nxD; simp
theorem qx {n k : Nat} {done : List (Nat × Nat)} {m : List (List Int)} {s : Nat} (h : s < n) : (nxD n k done m).getD s [] = (List.range k).map fun a => if (s, a) ∈ done then (m.getD s []).getD a 0 else -1 := by
  unfold nxD; simp [List.getD, h]
theorem vM {n k : Nat} {done : List (Nat × Nat)} {m : List (List Int)} {s a : Nat} (h : s < n) (ha : a < k) : ((nxD n k done m).getD s []).getD a 0 = if (s, a) ∈ done then (m.getD s []).getD a 0 else -1 := by
  rw [qx h]; simp [List.getD, ha]
theorem qL (n k : Nat) (m : List (List Int)) : nxD n k [] m = cI n k := by
  unfold nxD cI
  simp only [List.not_mem_nil, if_false]
  rw [show (List.range k).map (fun _ => (-1 : Int)) = List.replicate k (-1) by rw [List.map_const', List.length_range]]
  rw [List.map_const', List.length_range]
theorem qc {n k : Nat} {done : List (Nat × Nat)} {m : List (List Int)} {s a : Nat} (h : s < n) (ha : a < k) :
    (nxD n k done m).set s (((nxD n k done m).getD s []).set a ((m.getD s []).getD a 0)) = nxD n k (done ++ [(s, a)]) m := by
  rw [qx h]
  apply List.ext_getElem?
  intro i
  rw [List.getElem?_set]
  by_cases hi : s = i
  · subst hi
    rw [if_pos rfl, if_pos (by rw [uC]; exact h)]
    unfold nxD
    rw [List.getElem?_map, List.getElem?_range h, Option.map_some]
    congr 1
    apply List.ext_getElem?
    intro j
    rw [List.getElem?_set]
    by_cases hj : a = j
    · subst hj
      rw [if_pos rfl, if_pos (by simpa using ha), List.getElem?_map, List.getElem?_range ha, Option.map_some, if_pos (by simp)]
    · rw [if_neg hj, List.getElem?_map, List.getElem?_map]
      rcases Nat.lt_or_ge j k with hjk | hjk
      · rw [List.getElem?_range hjk, Option.map_some, Option.map_some]
        congr 1
        have : ((s, j) ∈ done ++ [(s, a)]) ↔ (s, j) ∈ done := by
          rw [List.mem_append, List.mem_singleton]
          exact ⟨fun q => q.elim id fun e => absurd (Prod.mk.inj e).2.symm hj, .inl⟩
        by_cases q : (s, j) ∈ done
        · rw [if_pos q, if_pos (this.2 q)]
        · rw [if_neg q, if_neg fun z => q (this.1 z)]
      · rw [List.getElem?_eq_none (by rw [List.length_range]; exact hjk)]; rfl
  · rw [if_neg hi]
    unfold nxD
    rw [List.getElem?_map, List.getElem?_map]
    rcases Nat.lt_or_ge i n with hin | hin
    · rw [List.getElem?_range hin, Option.map_some, Option.map_some]
      congr 1
      refine List.map_congr_left fun b _ => ?_
      have : ((i, b) ∈ done ++ [(s, a)]) ↔ (i, b) ∈ done := by
        rw [List.mem_append, List.mem_singleton]
        exact ⟨fun q => q.elim id fun e => absurd (Prod.mk.inj e).1.symm hi, .inl⟩
      by_cases q : (i, b) ∈ done
      · rw [if_pos q, if_pos (this.2 q)]
      · rw [if_neg q, if_neg fun z => q (this.1 z)]
    · rw [List.getElem?_eq_none (by rw [List.length_range]; exact hin)]; rfl
def stD (x : Mdl) (done : List (Nat × Nat)) : RS := ⟨x.nm, x.ins, x.outs, x.ins.length, x.m.st, nxD x.m.nx.length x.ins.length done x.m.nx, nxD x.m.nx.length x.ins.length done x.m.ot, qs x.m.nx.length, 5 + done.length, (x.m.nx.length : Int) * x.ins.length - done.length, true⟩
theorem mN (x : Mdl) (s a : Nat) : fI x s a = Lib.join [qn s, x.ins.getD a [], x.outs.getD ((x.m.ot.getD s []).getD a 0).toNat [], qn ((x.m.nx.getD s []).getD a 0).toNat] [32] := by
  unfold fI; rw [dY, dY, dY, Lib.join_one]; simp
theorem mm {xs : List Bs} (h : AOK xs) {y : Bs} (hy : y ∈ xs) : aY y = true := by
  obtain ⟨j, hj, rfl⟩ := ld.1 hy
  exact h.nm j hj
theorem tG {x : Mdl} (h : MVO x) {done : List (Nat × Nat)} {s a : Nat} (hs : s < x.m.nx.length) (ha : a < x.ins.length) (hd : (s, a) ∉ done) : cE (stD x done) (fI x s a) = (stD x (done ++ [(s, a)]), 0) := by
  have hm := h.mo
  have hn2 := hm.n2
  have hil := h.il
  have hr := hm.nr s a hs (by omega)
  have ho := hm.or s a hs (by omega)
  have ho2 := h.ol s a hs (by omega)
  obtain ⟨t, ht⟩ : ∃ t : Nat, (x.m.nx.getD s []).getD a 0 = (t : Int) := ⟨((x.m.nx.getD s []).getD a 0).toNat, by omega⟩
  obtain ⟨o, hoo⟩ : ∃ o : Nat, (x.m.ot.getD s []).getD a 0 = (o : Int) := ⟨((x.m.ot.getD s []).getD a 0).toNat, by omega⟩
  have htl : t < x.m.nx.length := by omega
  have hol : o < x.outs.length := by omega
  have n0 := dZ (i := s) (by omega)
  have n3 := dZ (i := t) (by omega)
  have n1 := h.ai.nm a ha
  have n2 := h.ao.nm o hol
  rw [mN, ht, hoo, aN, aN]
  rw [ly (fun y hy => by
    simp only [List.mem_cons, List.not_mem_nil, or_false] at hy
    rcases hy with rfl | rfl | rfl | rfl
    · exact ⟨eu n0, fu n0⟩
    · exact ⟨eu n1, fu n1⟩
    · exact ⟨eu n2, fu n2⟩
    · exact ⟨eu n3, fu n3⟩) (pU n0)]
  unfold ey
  rw [if_neg (by show ¬ 5 + done.length < 5; omega)]
  have p0 : pos (qs x.m.nx.length) (qn s) = s := pc hn2 hs
  have p3 : pos (qs x.m.nx.length) (qn t) = t := pc hn2 htl
  have p1 := h.ai.pos ha
  have p2 := h.ao.pos hol
  have hneg : ((nxD x.m.nx.length x.ins.length done x.m.nx).getD s []).getD a 0 = -1 := by rw [vM hs ha, if_neg hd]
  have key := gD (r := stD x done) (w := [qn s, x.ins.getD a [], x.outs.getD o [], qn t]) rfl (pF hs) (pF htl) (cU ha) (cU hol) (by
    show ¬ 0 ≤ ((nxD x.m.nx.length x.ins.length done x.m.nx).getD (pos (qs x.m.nx.length) (qn s)) []).getD (pos x.ins (x.ins.getD a [])) 0
    rw [p0, p1, hneg]; decide)
  rw [key]
  unfold cz
  simp only [Prod.mk.injEq, and_true]
  show ({ fN (stD x done) (pos (qs x.m.nx.length) (qn s)) (pos x.ins (x.ins.getD a [])) (pos (qs x.m.nx.length) (qn t)) (pos x.outs (x.outs.getD o [])) with rd := 5 + done.length + 1 } : RS) = _
  rw [p0, p1, p2, p3]
  unfold fN stD
  simp only [RS.mk.injEq, aq, ak, aw, true_and, and_true]
  refine ⟨?_, ?_, by omega, by omega⟩
  · rw [← ht]; exact qc hs ha
  · rw [← hoo]; exact qc hs ha
theorem oJ {x : Mdl} (h : MVO x) : ∀ {ps done : List (Nat × Nat)} {k : Nat}, (∀ p, p ∈ ps → p.1 < x.m.nx.length ∧ p.2 < x.ins.length) → (done ++ ps).Nodup →
    PL ((ps.map fun p => fI x p.1 p.2).map (· ++ [10])) k (stD x done) = iy (k + ps.length) (stD x (done ++ ps))
  | [], done, k, _, _ => by rw [List.append_nil]; rfl
  | p :: ps, done, k, hp, hn => by
    obtain ⟨h1, h2⟩ := hp p (by simp)
    have hd : (p.1, p.2) ∉ done := fun hm => by
      have := (List.nodup_append.1 hn).2.2
      exact this p hm p (by simp) rfl
    rw [aS, gi (tG h h1 h2 hd)]
    have e : done ++ [(p.1, p.2)] ++ ps = done ++ p :: ps := by simp
    rw [oJ h (fun q hq => hp q (aI _ hq)) (by rw [e]; exact hn), e]
    rw [ak, show k + 1 + ps.length = k + (ps.length + 1) by omega]
def rs1 (x : Mdl) : RS := { rs0 with nm := x.nm, rd := 1 }
def rs2 (x : Mdl) : RS := { rs1 x with ins := x.ins, rd := 2 }
def rs3 (x : Mdl) : RS := { rs2 x with outs := x.outs, rd := 3 }
def rs4 (x : Mdl) : RS := { gb (rs3 x) (qs x.m.nx.length) with rd := 4 }
theorem oL : ∀ i : Nat, i < 5 → aY (kwd i) = true := by decide +kernel
theorem hG {r : RS} {i : Nat} (hi : i < 5) (hr : r.rd = i) {ws : List Bs} (h : ∀ y, y ∈ ws → aY y = true) : cE r (Lib.join (kwd i :: ws) [32]) = cz (aU r (kwd i :: ws)) := by
  have hk := oL i hi
  rw [ly (fun y hy => by
    rcases List.mem_cons.1 hy with rfl | hy
    · exact ⟨eu hk, fu hk⟩
    · exact ⟨eu (h y hy), fu (h y hy)⟩) (pU hk)]
  unfold ey; rw [if_pos (by omega)]
theorem mW {w : Bs} {ws : List Bs} (h : ws ≠ []) : Lib.join (w :: ws) [32] = w ++ [32] ++ Lib.join ws [32] := by
  cases ws with
  | nil => exact absurd rfl h
  | cons y ws => exact dY ..
theorem oc {x : Mdl} (h : MVO x) : hdT x = [Lib.join [kwd 0, x.nm] [32], Lib.join (kwd 1 :: x.ins) [32], Lib.join (kwd 2 :: x.outs) [32], Lib.join (kwd 3 :: qs x.m.nx.length) [32], Lib.join [kwd 4, qn x.m.st.toNat] [32]] := by
  have h1 := h.ai.n0
  have h2 := h.ao.n0
  have h3 := h.mo.n1
  have e : ∀ {l : List Bs}, 1 ≤ l.length → l ≠ [] := fun h e => by rw [e] at h; simp at h
  rw [dY, dY, Lib.join_one, Lib.join_one, mW (e h1), mW (e h2), mW (e (by rw [cW]; exact h3))]
  rfl
theorem u9 {x : Mdl} (h : MVO x) {L : List Bs} : PL ((hdT x ++ L).map (· ++ [10])) 0 rs0 = PL (L.map (· ++ [10])) 5 (stD x []) := by
  have hm := h.mo
  have hn1 := hm.n1
  have hn2 := hm.n2
  have hs1 := hm.s1
  have hs2 := hm.s2
  have hsn : x.m.st.toNat < x.m.nx.length := by omega
  rw [oc h]
  simp only [am, ar]
  have l0 : cE rs0 (Lib.join [kwd 0, x.nm] [32]) = (rs1 x, 0) := by
    rw [hG (i := 0) (by decide) rfl (fun y hy => by rw [List.mem_singleton.1 hy]; exact h.nm), cV (r := rs0) (w := [kwd 0, x.nm]) ⟨rfl, .inr rfl⟩, if_pos (show (rs0).rd = 0 from rfl)]
    show cz (_, if aY x.nm = true then (0 : Int) else 9) = _
    rw [if_pos h.nm]; rfl
  have l1 : cE (rs1 x) (Lib.join (kwd 1 :: x.ins) [32]) = (rs2 x, 0) := by
    rw [hG (i := 1) (by decide) rfl (fun y hy => mm h.ai hy), cV (r := rs1 x) (w := kwd 1 :: x.ins) ⟨rfl, .inl ⟨(by decide : ¬ (1 : Int) = 0), (by decide : ¬ (1 : Int) = 4)⟩⟩, if_neg (show ¬ (rs1 x).rd = 0 from (by decide : ¬ (1 : Nat) = 0)), if_pos (show (rs1 x).rd = 1 from rfl)]
    show cz (_, alE x.ins) = _
    rw [dK (by have := h.ai.n0; omega) (by have := h.ai.n1; omega) fun q hq => jh (h.ai.nm q hq) (h.ai.nw q hq)]; rfl
  have l2 : cE (rs2 x) (Lib.join (kwd 2 :: x.outs) [32]) = (rs3 x, 0) := by
    rw [hG (i := 2) (by decide) rfl (fun y hy => mm h.ao hy), cV (r := rs2 x) (w := kwd 2 :: x.outs) ⟨rfl, .inl ⟨(by decide : ¬ (2 : Int) = 0), (by decide : ¬ (2 : Int) = 4)⟩⟩, if_neg (show ¬ (rs2 x).rd = 0 from (by decide : ¬ (2 : Nat) = 0)), if_neg (show ¬ (rs2 x).rd = 1 from (by decide : ¬ (2 : Nat) = 1)), if_pos (show (rs2 x).rd = 2 from rfl)]
    show cz (_, alE x.outs) = _
    rw [dK (by have := h.ao.n0; omega) (by have := h.ao.n1; omega) fun q hq => jh (h.ao.nm q hq) (h.ao.nw q hq)]; rfl
  have l3 : cE (rs3 x) (Lib.join (kwd 3 :: qs x.m.nx.length) [32]) = (rs4 x, 0) := by
    rw [hG (i := 3) (by decide) rfl (fun y hy => by
      obtain ⟨j, hj, rfl⟩ := ld.1 hy
      rw [cW] at hj
      rw [dJ hj]; exact dZ (by omega)), cV (r := rs3 x) (w := kwd 3 :: qs x.m.nx.length) ⟨rfl, .inl ⟨(by decide : ¬ (3 : Int) = 0), (by decide : ¬ (3 : Int) = 4)⟩⟩, if_neg (show ¬ (rs3 x).rd = 0 from (by decide : ¬ (3 : Nat) = 0)), if_neg (show ¬ (rs3 x).rd = 1 from (by decide : ¬ (3 : Nat) = 1)), if_neg (show ¬ (rs3 x).rd = 2 from (by decide : ¬ (3 : Nat) = 2)), if_pos (show (rs3 x).rd = 3 from rfl)]
    show cz (gR (rs3 x) (qs x.m.nx.length)) = _
    unfold gR
    rw [if_pos (uu hn1 hn2)]; rfl
  have l4 : cE (rs4 x) (Lib.join [kwd 4, qn x.m.st.toNat] [32]) = (stD x [], 0) := by
    rw [hG (i := 4) (by decide) rfl (fun y hy => by rw [List.mem_singleton.1 hy]; exact dZ (by omega)), cV (r := rs4 x) (w := [kwd 4, qn x.m.st.toNat]) ⟨rfl, .inr rfl⟩, if_neg (show ¬ (rs4 x).rd = 0 from (by decide : ¬ (4 : Nat) = 0)), if_neg (show ¬ (rs4 x).rd = 1 from (by decide : ¬ (4 : Nat) = 1)), if_neg (show ¬ (rs4 x).rd = 2 from (by decide : ¬ (4 : Nat) = 2)), if_neg (show ¬ (rs4 x).rd = 3 from (by decide : ¬ (4 : Nat) = 3))]
    have hix : ixB (qs x.m.nx.length) (qn x.m.st.toNat) = x.m.st := by unfold ixB; rw [if_pos (pF hsn), pc hn2 hsn]; omega
    show cz ({ rs4 x with st := ixB (qs x.m.nx.length) (qn x.m.st.toNat) }, if ixB (qs x.m.nx.length) (qn x.m.st.toNat) < 0 then (8 : Int) else 0) = _
    rw [hix, if_neg (by omega)]
    unfold cz stD
    rw [qL, qL]
    simp only [Prod.mk.injEq, and_true]
    unfold rs4 gb
    simp only [RS.mk.injEq, cW, aw, Nat.add_zero, true_and, and_true]
    refine ⟨rfl, rfl, rfl, rfl, rfl, rfl, ?_⟩
    show ((x.m.nx.length : Int) * x.ins.length) = (x.m.nx.length : Int) * x.ins.length - ((0 : Nat) : Int)
    omega
  rw [gi l0, gi l1, gi l2, gi l3, gi l4]
theorem oo {n k : Nat} {m : List (List Int)} {done : List (Nat × Nat)} (hl : m.length = n) (hr : ∀ s, s < n → (m.getD s []).length = k) (hd : ∀ s a, s < n → a < k → (s, a) ∈ done) : nxD n k done m = m := by
  apply List.ext_getElem?
  intro s
  unfold nxD
  rw [List.getElem?_map]
  rcases Nat.lt_or_ge s n with hs | hs
  · rw [List.getElem?_range hs, Option.map_some, List.getElem?_eq_getElem (by omega)]
    congr 1
    have e : m.getD s [] = m[s] := by simp [List.getD, List.getElem?_eq_getElem (show s < m.length by omega)]
    have hk := hr s hs
    rw [e] at hk ⊢
    apply List.ext_getElem?
    intro a
    rw [List.getElem?_map]
    rcases Nat.lt_or_ge a k with ha | ha
    · rw [List.getElem?_range ha, Option.map_some, if_pos (hd s a hs ha), List.getElem?_eq_getElem (by omega)]
      simp [List.getD, List.getElem?_eq_getElem (show a < m[s].length by omega)]
    · rw [List.getElem?_eq_none (by rw [List.length_range]; exact ha), List.getElem?_eq_none (by omega)]; rfl
  · rw [List.getElem?_eq_none (by rw [List.length_range]; exact hs), List.getElem?_eq_none (by omega)]; rfl
theorem uU {x : Mdl} (h : MVO x) {ps : List (Nat × Nat)} (hn : ps.Nodup) (hp : ∀ s a, (s, a) ∈ ps ↔ s < x.m.nx.length ∧ a < x.ins.length) (hl : ps.length = x.m.nx.length * x.ins.length)
    (hno : ∀ l, l ∈ hdT x ++ ps.map (fun p => fI x p.1 p.2) → (10 : UInt8) ∉ l) (hs : ¬ 1048576 < (dV (hdT x ++ ps.map fun p => fI x p.1 p.2)).length) : PM (dV (hdT x ++ ps.map fun p => fI x p.1 p.2)) = (x, 0, 0) := by
  have hm := h.mo
  have hil := h.il
  rw [uZ hno hs, u9 h, oJ h (fun p hq => (hp p.1 p.2).1 hq) (by simpa using hn), ar]
  unfold iy
  have hlf : (stD x ps).lf = 0 := by
    show (x.m.nx.length : Int) * x.ins.length - ((ps.length : Nat) : Int) = 0
    rw [hl, Int.natCast_mul]; omega
  rw [if_neg (by rw [hlf]; show ¬ (5 + ps.length < 5 ∨ (0 : Int) < 0); omega)]
  have e1 := oo (n := x.m.nx.length) (k := x.ins.length) (m := x.m.nx) (done := ps) rfl (fun s hs => by have := hm.rl s hs; omega) (fun s a hs ha => (hp s a).2 ⟨hs, ha⟩)
  have e2 := oo (n := x.m.nx.length) (k := x.ins.length) (m := x.m.ot) (done := ps) hm.ol (fun s hs => by have := hm.ql s hs; omega) (fun s a hs ha => (hp s a).2 ⟨hs, ha⟩)
  unfold sG stD
  simp only [e1, e2]
  obtain ⟨nm, ins, outs, ⟨inp, st, nx, ot⟩⟩ := x
  have : inp = (ins.length : Int) := hil
  subst this; rfl
/-plain-/
def prs (k : Nat) : Nat → List (Nat × Nat)
  | 0 => []
  | n + 1 => prs k n ++ (List.range k).map fun a => (n, a)
theorem jN {k : Nat} : ∀ {n : Nat} {s a : Nat}, (s, a) ∈ prs k n ↔ s < n ∧ a < k
  | 0, s, a => by simp [prs]
  | n + 1, s, a => by
    rw [prs, List.mem_append, jN, List.mem_map]
    constructor
    · rintro (h | ⟨b, hb, e⟩)
      · omega
      · have := List.mem_range.1 hb
        simp only [Prod.mk.injEq] at e; omega
    · rintro ⟨h1, h2⟩
      by_cases e : s = n
      · exact .inr ⟨a, List.mem_range.2 h2, by rw [e]⟩
      · exact .inl (by omega)
theorem nK {k : Nat} : ∀ n : Nat, (prs k n).Nodup
  | 0 => List.nodup_nil
  | n + 1 => by
    rw [prs, List.nodup_append]
    refine ⟨nK n, ?_, fun p hp q hq e => ?_⟩
    · unfold List.Nodup
      rw [List.pairwise_map]
      exact List.nodup_range.imp fun h e => h (Prod.mk.inj e).2
    · subst e
      obtain ⟨s, a⟩ := p
      have h1 := jN.1 hp
      obtain ⟨b, _, e⟩ := List.mem_map.1 hq
      simp only [Prod.mk.injEq] at e
      omega
theorem qG {k : Nat} : ∀ n : Nat, (prs k n).length = n * k
  | 0 => by simp [prs]
  | n + 1 => by rw [prs, aq, qG n, c0, List.length_range, Nat.add_mul, Nat.one_mul]
theorem p6 {x : Mdl} (h : MVO x) : ∀ {n : Nat}, n ≤ x.m.nx.length → et x n = (prs x.ins.length n).map fun p => fI x p.1 p.2
  | 0, _ => rfl
  | n + 1, hn => by
    have hr := h.mo.rl n (by omega)
    have hil := h.il
    rw [jm, p6 h (by omega), prs, List.map_append, List.map_map]
    congr 1
    unfold fq
    rw [show (x.m.nx.getD n []).length = x.ins.length by omega]; rfl
theorem eC {ws : List Bs} (h : ∀ y, y ∈ ws → aY y = true) : (10 : UInt8) ∉ Lib.join ws [32] := by
  induction ws with
  | nil => simp [Lib.join_nil]
  | cons w ws ih =>
    cases ws with
    | nil => rw [Lib.join_one]; exact mL (h w (by simp))
    | cons v ws =>
      rw [dY]
      have := ih fun y hy => h y (aI _ hy)
      simp only [List.mem_append, List.mem_singleton, not_or]
      exact ⟨⟨mL (h w (by simp)), by decide⟩, this⟩
theorem th {x : Mdl} (h : MVO x) {s a : Nat} (hs : s < x.m.nx.length) (ha : a < x.ins.length) : (10 : UInt8) ∉ fI x s a := by
  have hm := h.mo
  have hn2 := hm.n2
  have hil := h.il
  have hr := hm.nr s a hs (by omega)
  have ho := hm.or s a hs (by omega)
  have ho2 := h.ol s a hs (by omega)
  rw [mN]
  refine eC fun y hy => ?_
  simp only [List.mem_cons, List.not_mem_nil, or_false] at hy
  rcases hy with rfl | rfl | rfl | rfl
  · exact dZ (by omega)
  · exact h.ai.nm a ha
  · exact h.ao.nm _ (by omega)
  · exact dZ (by omega)
theorem vg {x : Mdl} (h : MVO x) (l : Bs) (hl : l ∈ hdT x) : (10 : UInt8) ∉ l := by
  have hm := h.mo
  have hn2 := hm.n2
  have hs2 := hm.s2
  have hs1 := hm.s1
  rw [oc h] at hl
  simp only [List.mem_cons, List.not_mem_nil, or_false] at hl
  have hk := fun i hi => oL i hi
  rcases hl with rfl | rfl | rfl | rfl | rfl
  · exact eC fun y hy => by simp only [List.mem_cons, List.not_mem_nil, or_false] at hy; rcases hy with rfl | rfl; exact hk 0 (by decide); exact h.nm
  · exact eC fun y hy => by rcases List.mem_cons.1 hy with rfl | hy; exact hk 1 (by decide); exact mm h.ai hy
  · exact eC fun y hy => by rcases List.mem_cons.1 hy with rfl | hy; exact hk 2 (by decide); exact mm h.ao hy
  · exact eC fun y hy => by
      rcases List.mem_cons.1 hy with rfl | hy
      · exact hk 3 (by decide)
      · obtain ⟨j, hj, rfl⟩ := ld.1 hy
        rw [cW] at hj
        rw [dJ hj]; exact dZ (by omega)
  · exact eC fun y hy => by simp only [List.mem_cons, List.not_mem_nil, or_false] at hy; rcases hy with rfl | rfl; exact hk 4 (by decide); exact dZ (by omega)
theorem uR {x : Mdl} (h : mvE x = 0) : SM x = dV (hdT x ++ (prs x.ins.length x.m.nx.length).map fun p => fI x p.1 p.2) := by
  rw [np h, p6 (ml h) (Nat.le_refl _)]
  exact lH
theorem vr {x : Mdl} (h : mvE x = 0) : (SM x).length ≤ 700001 := by
  rw [np h, aq]; have := sP (ml h); simp only [ak, aw]; omega
theorem uW {x : Mdl} (h : mvE x = 0) : PM (SM x) = (x, 0, 0) := by
  have hv := ml h
  have hz := vr h
  rw [uR h] at hz ⊢
  refine uU hv (nK _) (fun s a => jN) (qG _) (fun l hl => ?_) (by omega)
  rcases List.mem_append.1 hl with hl | hl
  · exact vg hv l hl
  · obtain ⟨p, hp, rfl⟩ := List.mem_map.1 hl
    have := jN.1 (show (p.1, p.2) ∈ _ from hp)
    exact th hv this.1 this.2
def pN (x y : Mdl) : Bool := decide (x.nm = y.nm) && decide (x.ins = y.ins) && decide (x.outs = y.outs) && jK x.m y.m
theorem re {x y : Mdl} : pN x y = true ↔ x = y := by
  obtain ⟨a, b, c, ⟨d, e, f, g⟩⟩ := x
  obtain ⟨a', b', c', ⟨d', e', f', g'⟩⟩ := y
  unfold pN jK
  simp only [Bool.and_eq_true, decide_eq_true_eq, Mdl.mk.injEq, Mly.mk.injEq]
  constructor
  · rintro ⟨⟨⟨h1, h2⟩, h3⟩, ⟨⟨⟨h4, h5⟩, h6⟩, h7⟩⟩; exact ⟨h1, h2, h3, h4, h5, h6, h7⟩
  · rintro ⟨h1, h2, h3, h4, h5, h6, h7⟩; exact ⟨⟨⟨h1, h2⟩, h3⟩, ⟨⟨⟨h4, h5⟩, h6⟩, h7⟩⟩
theorem iB (x : Mdl) : pN x x = true := re.2 rfl
/-plain-/
def eU : Mdl := ⟨[103, 97, 116, 101], [[99, 111, 105, 110], [112, 117, 115, 104]], [[110, 111], [111, 107], [116, 117, 114, 110]], ⟨2, 0, [[1, 0], [1, 0]], [[1, 0], [1, 2]]⟩⟩
@[reducible] def gtx : Bs := [109, 97, 99, 104, 105, 110, 101, 32, 103, 97, 116, 101, 10, 105, 110, 112, 117, 116, 115, 32, 99, 111, 105, 110, 32, 112, 117, 115, 104, 10, 111, 117, 116, 112, 117, 116, 115, 32, 110, 111, 32, 111, 107, 32, 116, 117, 114, 110, 10, 115, 116, 97, 116, 101, 115, 32, 113, 48, 32, 113, 49, 10, 115, 116, 97, 114, 116, 32, 113, 48, 10, 113, 48, 32, 99, 111, 105, 110, 32, 111, 107, 32, 113, 49, 10, 113, 48, 32, 112, 117, 115, 104, 32, 110, 111, 32, 113, 48, 10, 113, 49, 32, 99, 111, 105, 110, 32, 111, 107, 32, 113, 49, 10]
@[reducible] def gtA : Bs := gtx ++ [113, 49, 32, 112, 117, 115, 104, 32, 116, 117, 114, 110, 32, 113, 48, 10]
@[reducible] def gtB : Bs := gtx ++ [113, 49, 32, 112, 117, 115, 104, 32, 116, 117, 114, 110, 32, 113, 50, 10]
@[reducible] def gtC : Bs := gtx ++ [113, 49, 32, 99, 111, 105, 110, 32, 116, 117, 114, 110, 32, 113, 48, 10]
theorem pp : mvE eU = 0 := by
  refine oX (by decide +kernel) (by decide +kernel) (by decide +kernel) (by decide +kernel) ⟨rfl, ?_⟩
  rw [gZ (by decide +kernel), ← tX]
  decide +kernel
theorem sA : SM eU = gtA := by rw [np pp]; decide +kernel
theorem wx : PM gtA = (eU, 0, 0) := by rw [← sA]; exact uW pp
theorem se : (PM gtx).2 = (9, 12) := by decide +kernel
theorem sx : (PM gtB).2 = (9, 8) := by decide +kernel
theorem sm : (PM gtC).2 = (9, 7) := by decide +kernel
theorem s7 : (PM []).2 = (1, 12) := by decide +kernel
/-plain-/
def ep (P : Program) (X : Nat → Prop) (W : World) : Ctx := { P := P, X := X, keep := fun _ => False, w0 := W, N := 0, bL := [], bσ := fun _ => undef, bw := W }
def ll (P : Program) (X : Nat → Prop) (L : List AO) (σ : Sig) (W : World) : Prop := INV (ep P X W) L σ W
structure KEPT (X : Nat → Prop) (W W' : World) : Prop where
  size : W.heap.size ≤ W'.heap.size
  same : ∀ b, X b → W'.heap[b]? = W.heap[b]?
  os : W'.os = W.os
  tape : W'.tape = W.tape
  output : W'.output = W.output
theorem ry {P : Program} {X : Nat → Prop} {L : List AO} {σ : Sig} {W : World} {f : FuncId} {args : List AV} {out : Out} {vs : List Value} (h : dI P L f args out) (hH : ll P X L σ W) (ha : aV (RV (ep P X W) L σ W) args vs) :
    Calls P f vs.toArray W fun e W' => ∃ v σ', e = .returned v ∧ ll P X (app L out) σ' W' ∧ RV (ep P X W') (app L out) σ' W' out.av v ∧ KEPT X W W' ∧ ∀ c u, RC (ep P X W) L σ W c u → RC (ep P X W') (app L out) σ' W' c u := by
  let C2 : Ctx := { P := P, X := X, keep := fun b => b < W.heap.size ∧ ¬ ∃ o, own L σ o b, w0 := W, N := 0, bL := [], bσ := fun _ => undef, bw := W }
  have hX : C2.X = (ep P X W).X := rfl
  have hP : C2.P = (ep P X W).P := rfl
  have hI : INV C2 L σ W := ⟨fun o ob e => by rw [mc hX hP]; exact hH.ob o ob e, hH.inj, fun o b ho => ⟨fun hk => hk.2 ⟨o, ho⟩, (hH.off o b ho).2⟩, fun b hb => ⟨hb.1, rfl⟩, fun b hb => hH.xlt b hb, Nat.le_refl _, rfl, rfl, rfl⟩
  refine (h.2 C2 L σ W vs rfl hI (by rw [mf hX]; exact ha) (fun _ _ => rfl) rfl).mono fun e W' hh => ?_
  obtain ⟨v, he, σ', g1, g2, g3⟩ := hh
  have hX2 : C2.X = (ep P X W').X := rfl
  have hP2 : C2.P = (ep P X W').P := rfl
  refine ⟨v, σ', he, ⟨fun o ob e => by rw [← mc hX2 hP2]; exact g1.ob o ob e, g1.inj, fun o b ho => ⟨fun hk => hk, (g1.off o b ho).2⟩, fun b hb => hb.elim, fun b hb => Nat.lt_of_lt_of_le (hH.xlt b hb) g1.size, Nat.le_refl _, rfl, rfl, rfl⟩, by rw [← mf hX2]; exact g2,
    ⟨g1.size, fun b hb => ?_, g1.os, g1.tape, g1.output⟩, fun c u hc => ?_⟩
  · exact (g1.kept b ⟨hH.xlt b hb, fun ⟨o, ho⟩ => (hH.off o b ho).2 hb⟩).2
  · rw [← iU hX2]; exact g3 c u (by rw [iU hX]; exact hc)
section
variable {C C' : Ctx} {L : List AO} {σ : Sig} {W W' : World}
theorem kV (hs : W.heap.size ≤ W'.heap.size) (hk : ∀ b, b < W.heap.size → ¬ avd C L σ b → W'.heap[b]? = W.heap[b]?) (hav : ∀ b, b < W.heap.size → avd C' L σ b → avd C L σ b) {t : Ty} {d : t.den} {off : Nat} {v : Value} (h : gk C L σ W t d off v) : gk C' L σ W' t d off v := by
  obtain ⟨b, o, cs, e, h1, h2, h3, h4⟩ := h
  exact ⟨b, o, cs, e, fun h => h1 (hav b h2 h), Nat.lt_of_lt_of_le h2 hs, fun j hj => by rw [← h3 j hj]; exact World.cell?_of_block (hk b h2 h1), h4.keep hs hk hav⟩
theorem pX (hs : W.heap.size ≤ W'.heap.size) (hk : ∀ b, b < W.heap.size → ¬ avd C L σ b → W'.heap[b]? = W.heap[b]?) (hav : ∀ b, b < W.heap.size → avd C' L σ b → avd C L σ b) {f : FuncId} {ds : List ((t : Ty) × t.den)} {v : Value} (h : RFN C L σ W f ds v) : RFN C' L σ W' f ds v := by
  obtain ⟨b, o, vs, e, h1, h2, h3, h4⟩ := h
  exact ⟨b, o, vs, e, fun h => h1 (hav b h2 h), Nat.lt_of_lt_of_le h2 hs, by rw [← h3]; exact World.cell?_of_block (hk b h2 h1), h4.mono fun p u hp => ⟨hp.1, kV hs hk hav hp.2⟩⟩
theorem wb (hs : W.heap.size ≤ W'.heap.size) (hk : ∀ b, b < W.heap.size → ¬ avd C L σ b → W'.heap[b]? = W.heap[b]?) (hav : ∀ b, b < W.heap.size → avd C' L σ b → avd C L σ b) {c : AC} {v : Value} (h : RC C L σ W c v) : RC C' L σ W' c v := by
  refine ⟨h.1, ?_⟩
  have h2 := h.2
  cases c with
  | list t xs => exact h2.keep hs hk hav
  | pat t d off => exact kV hs hk hav h2
  | pfn f ds => exact pX hs hk hav h2
  | fn f caps =>
    obtain ⟨vs, e, ha⟩ := h2
    refine ⟨vs, e, ha.mono fun p u hp => ?_⟩
    cases p with
    | ref o => exact hp
    | pat t d => exact ⟨hp.1, kV hs hk hav hp.2⟩
    | pfn f ds => exact ⟨hp.1, pX hs hk hav hp.2⟩
  | _ => exact h2
theorem qH {base : Nat} {e : TypeId} {sz : Nat} {v : Value} {n : Nat} {flat : List Value} (h : W.ownsRow base e sz v n flat) (hb : ∀ b, blk v = some b → W'.heap[b]? = W.heap[b]?) : W'.ownsRow base e sz v n flat := by
  refine ⟨h.1, ?_⟩
  rcases h.2 with h2 | ⟨g, cap, cur, e1, e2, e3, e4⟩
  · exact .inl h2
  · exact .inr ⟨g, cap, cur, e1, e2, by rw [hb g (by rw [e1]; rfl)]; exact e3, e4⟩
end
theorem sS {P : Program} {X X' : Nat → Prop} {L : List AO} {σ : Sig} {W W' : World} (hH : ll P X L σ W) (hs : W.heap.size ≤ W'.heap.size) (hk : ∀ b, b < W.heap.size → ¬ X b → W'.heap[b]? = W.heap[b]?)
    (hX : ∀ b, X' b → b < W.heap.size → X b) (hX2 : ∀ b, X' b → b < W'.heap.size) :
    ll P X' L σ W' ∧ ∀ c u, RC (ep P X W) L σ W c u → RC (ep P X' W') L σ W' c u := by
  have hk2 : ∀ b, b < W.heap.size → ¬ avd (ep P X W) L σ b → W'.heap[b]? = W.heap[b]? := fun b hb ha => hk b hb fun hx => ha (.inl hx)
  have hav : ∀ b, b < W.heap.size → avd (ep P X' W') L σ b → avd (ep P X W) L σ b := fun b hb ha => by
    rcases ha with ha | ha
    · exact .inl (hX b ha hb)
    · exact .inr ha
  have hrc : ∀ c u, RC (ep P X W) L σ W c u → RC (ep P X' W') L σ W' c u := fun c u h => wb hs hk2 hav h
  have hown : ∀ o b, own L σ o b → b < W.heap.size ∧ ¬ X b := fun o b ho => ⟨fz hH ho, (hH.off o b ho).2⟩
  refine ⟨⟨fun o ob e => ?_, hH.inj, fun o b ho => ⟨fun h => h, fun hx => (hown o b ho).2 (hX b hx (hown o b ho).1)⟩, fun b hb => hb.elim, hX2, Nat.le_refl _, rfl, rfl, rfl⟩, hrc⟩
  have h1 := hH.ob o ob e
  have hsame : ∀ b, ob.live = true → blk (σ o) = some b → W'.heap[b]? = W.heap[b]? := fun b hl hb => by
    obtain ⟨q1, q2⟩ := hown o b ⟨ob, e, hl, hb⟩
    exact hk b q1 q2
  cases ob with
  | dead _ => trivial
  | vars T cs => obtain ⟨b, vs, e1, e2, e3⟩ := h1; exact ⟨b, vs, e1, (hsame b rfl (by rw [e1]; rfl)).trans e2, e3.mono fun c u hc => hrc c u hc⟩
  | row t e v xs => obtain ⟨flat, h2, h0, h3⟩ := h1; exact ⟨flat, qH h2 fun b hb => hsame b rfl hb, h0, fun i hi => (h3 i hi).keep hs hk2 hav⟩
  | mp T vk es => obtain ⟨b, ents, clock, e1, e2, e3⟩ := h1; exact ⟨b, ents, clock, e1, (hsame b rfl (by rw [e1]; rfl)).trans e2, e3⟩
  | itr s pos => obtain ⟨b, e1, e2⟩ := h1; exact ⟨b, e1, (hsame b rfl (by rw [e1]; rfl)).trans e2⟩
  | fact g x => obtain ⟨e1, e2⟩ := h1; exact ⟨e1, (hsame g rfl (by rw [e1]; rfl)).trans e2⟩
  | rowc e sz v cs => obtain ⟨flat, m, h2, h0, hl0, h3⟩ := h1; exact ⟨flat, m, qH h2 fun b hb => hsame b rfl hb, h0, hl0, h3.mono fun c u hc => hrc c u hc⟩
theorem tC {P : Program} {X : Nat → Prop} {L : List AO} {σ : Sig} {W : World} {k v : Nat} {I : TypeId} {xs : List Int} (hH : ll P X L σ W) (hk : L[k]? = some (.row (.int .i64) I v xs)) {av : Nat → Prop} (hav : ∀ o b, own L σ o b → ¬ av b) :
    Dat av W (.list (.int .i64)) xs [σ k] := by
  obtain ⟨flat, h8, h9, h10⟩ := hH.ob k _ hk
  rcases h8.2 with ⟨e1, e2⟩ | ⟨g, cap, cur, e1, _, e3, e4, e5, e6, e7⟩
  · rw [e1]
    have : xs = [] := List.eq_nil_of_length_eq_zero e2
    subst this
    exact bT _
  · rw [e1]
    refine ⟨some ⟨g, 0, none⟩, cap, rfl, e4, ⟨e5, fun h => by cases h⟩, fun _ => ⟨g, 0, rfl, hav k g ⟨_, hk, rfl, by rw [e1]; rfl⟩, (Array.getElem?_eq_some_iff.1 e3).1, fun i hi => ⟨_, (h10 i hi).length, fun j hj => ?_, (h10 i hi : Dat _ _ (.int .i64) _ _)⟩⟩⟩
    have hm : (i + 1) * (Ty.int IntKind.i64).size ≤ xs.length * (Ty.int IntKind.i64).size := Nat.mul_le_mul_right _ hi
    rw [Nat.add_mul, Nat.one_mul] at hm
    rw [bq e3, List.getElem?_take_of_lt hj, List.getElem?_drop, ← e7, List.getElem?_take_of_lt (by omega)]
    simp
theorem om {P : Program} {X : Nat → Prop} {L : List AO} {σ : Sig} {W : World} {k b : Nat} {S I : TypeId} {xs : List (List Int)} (hH : ll P X L σ W) (hk : L[k]? = some (.rowc S 1 0 (cL b xs.length)))
    (hr : ∀ i, i < xs.length → L[b + i]? = some (.row (.int .i64) I 0 (xs.getD i []))) {av : Nat → Prop} (hav : ∀ o b, own L σ o b → ¬ av b) :
    Dat av W (.list (.list (.int .i64))) xs [σ k] := by
  obtain ⟨flat, n, h8, h9, hl, h10⟩ := hH.ob k _ hk
  have hn : n = xs.length := by rw [di] at hl; omega
  subst hn
  rcases h8.2 with ⟨e1, e2⟩ | ⟨g, cap, cur, e1, _, e3, e4, e5, e6, e7⟩
  · rw [e1]
    have : xs = [] := List.eq_nil_of_length_eq_zero e2
    subst this
    exact bT _
  · rw [e1]
    refine ⟨some ⟨g, 0, none⟩, cap, rfl, e4, ⟨e5, fun h => by cases h⟩, fun _ => ⟨g, 0, rfl, hav k g ⟨_, hk, rfl, by rw [e1]; rfl⟩, (Array.getElem?_eq_some_iff.1 e3).1, fun i hi => ⟨[σ (b + i)], rfl, fun j hj => ?_, tC hH (hr i hi) hav⟩⟩⟩
    have hj0 : j = 0 := by have : (Ty.list (.int .i64)).size = 1 := rfl; omega
    subst hj0
    have hc : (cL b xs.length)[i]? = some (.row (b + i) 0) := by unfold cL; simp [hi]
    obtain ⟨u, hu, hcu⟩ := h10.at_ hc
    obtain ⟨_, ob, q1, q2, q3⟩ := hcu
    rw [hr i hi] at q1; cases q1
    obtain ⟨_, q4⟩ := q3 rfl rfl
    rw [bq e3, ← q4]
    rw [show (Ty.list (.int .i64)).size = 1 from rfl, Nat.mul_one, Nat.add_zero, Nat.zero_add]
    rw [← e7, Nat.mul_one, List.getElem?_take_of_lt hi] at hu
    simpa using hu
/-plain-/
def hF (h : PP → PP) (l : List W3) : List PP := l.map fun e => h e.1
structure HOM (A B : STP) (n : Nat) (I : PP → Prop) (h : PP → PP) : Prop where
  cl : ∀ p, I p → ∀ x, x < n → I (A p x)
  eq : ∀ p, I p → ∀ x, x < n → B (h p) x = h (A p x)
/-plain-/
theorem tZ {P : List Bs} {k : Nat} {r : Bs} {c : UInt8} (h : spB c r = P.drop k) (hk : k + 1 = P.length) : r = P.getD k [] ∧ P.take k ++ [r] = P := by
  have h1 := List.drop_eq_getElem_cons (l := P) (i := k) (by omega)
  have h2 : P.drop (k + 1) = [] := List.drop_eq_nil_of_le (by omega)
  rw [h2] at h1
  rw [h1] at h
  have hl : (spB c r).length = 1 := by rw [h]; rfl
  have hn : c ∉ r := by
    rcases (show Lib.indexByte r c < 0 ∨ 0 ≤ Lib.indexByte r c by omega) with q | q
    · exact mb q
    · have := pP q
      rw [this] at hl
      have := fm c (r.drop ((Lib.indexByte r c).toNat + 1))
      simp only [ak] at hl
      omega
  rw [jQ hn] at h
  have e : r = P[k] := by simpa using h
  refine ⟨by rw [e]; simp [List.getD, List.getElem?_eq_getElem (show k < P.length by omega)], ?_⟩
  rw [e]
  have h3 := List.take_append_drop k P
  rw [h1] at h3
  exact h3
theorem rr {P : List Bs} {k : Nat} {r : Bs} {c : UInt8} (h : spB c r = P.drop k) (hk : k + 1 < P.length) : 0 ≤ Lib.indexByte r c ∧ r.take (Lib.indexByte r c).toNat = P.getD k [] ∧ spB c (r.drop ((Lib.indexByte r c).toNat + 1)) = P.drop (k + 1) ∧ (Lib.indexByte r c).toNat < r.length := by
  have h1 := List.drop_eq_getElem_cons (l := P) (i := k) (by omega)
  rcases (show Lib.indexByte r c < 0 ∨ 0 ≤ Lib.indexByte r c by omega) with q | q
  · rw [jQ (mb q)] at h
    have := congrArg List.length h
    rw [List.length_drop] at this
    simp only [ak, aw] at this
    omega
  · rw [pP q, h1] at h
    obtain ⟨e1, e2⟩ := List.cons.inj h
    exact ⟨q, by rw [e1]; simp [List.getD, List.getElem?_eq_getElem (show k < P.length by omega)], e2, (ge q).1⟩
def pcs (P : List Bs) (k : Nat) : List Bs := P.take k ++ List.replicate (P.length - k) []
theorem qF {P : List Bs} {k : Nat} (h : k < P.length) {r : Bs} (e : r = P.getD k []) : (pcs P k).set k r = pcs P (k + 1) := by
  unfold pcs
  rw [List.set_append]
  have hl : (P.take k).length = k := by rw [List.length_take]; omega
  rw [hl, if_neg (by omega), Nat.sub_self, show P.length - k = (P.length - (k + 1)) + 1 by omega, List.replicate_succ, bK, e, show P.getD k [] = P[k] by simp [List.getD, List.getElem?_eq_getElem h]]
  have e2 : P.take (k + 1) = P.take k ++ [P[k]] := by rw [List.take_add_one, List.getElem?_eq_getElem h]; rfl
  rw [e2, List.append_assoc]; rfl
theorem mK {P : List Bs} {k : Nat} (h : k ≤ P.length) : (pcs P k).length = P.length := by unfold pcs; rw [aq, List.length_take, aL]; omega
theorem vv (P : List Bs) : pcs P P.length = P := by unfold pcs; simp
/-plain-/
theorem vC {xs : List Bs} {k : Nat} (hk : k < xs.length) (h : idA xs (xs.getD k []) < (k : Int)) : xs.getD k [] ∈ xs.take k := by
  have hm := cU hk
  unfold idA at h
  rw [if_pos hm] at h
  rw [ld]
  refine ⟨pos xs (xs.getD k []), by rw [List.length_take]; omega, ?_⟩
  rw [gN (by omega)]
  exact mH hm
theorem ul {xs : List Bs} {k : Nat} (hk : k < xs.length) (h : ¬ idA xs (xs.getD k []) < (k : Int)) : xs.getD k [] ∉ xs.take k := by
  intro hin
  have hm := cU hk
  unfold idA at h
  rw [if_pos hm] at h
  obtain ⟨j, hj, e⟩ := ld.1 hin
  rw [List.length_take] at hj
  rw [gN (by omega)] at e
  have := mr (q := xs.getD k []) (l := xs) (k := j) (by omega)
  exact this e
theorem gd {s : Bs} (h : s = []) : aG s = [] := if_pos h
/-plain-/
theorem oP (n : Nat) : (((n + 1 : Nat) : Int) - 1).toNat = n := by omega
def woL (s : Bs) : List Bs := if [] ∈ aG s then [] else aG s
theorem uv {s : Bs} (h : [] ∈ aG s) : woL s = [] := if_pos h
theorem oq {s : Bs} (h : [] ∉ aG s) : woL s = aG s := if_neg h
theorem mQ {s : Bs} (h : ¬ s = []) : aG s = spl s := if_neg h
theorem eY {l : List Bs} {a b : Bs} : (l ++ [a]).set l.length b = l ++ [b] := by simp
theorem mF (s : Bs) : spl s = (dO s s.length).1 ++ [(s.take s.length).drop (dO s s.length).2] := by rw [aD]; rfl
theorem ph {a b : List Bs} (h : a.length = b.length) (hq : ∀ q, q < a.length → a.getD q [] = b.getD q []) : a = b := by
  refine List.ext_getElem h fun i h1 h2 => ?_
  have := hq i h1
  simpa [List.getD, h1, h2] using this
/-plain-/
def eo (c : UInt8) (s : Bs) : Nat → List Bs × Nat
  | 0 => ([], 0)
  | k + 1 => if bt s k = (c.toNat : Int) then ((eo c s k).1 ++ [(s.take k).drop (eo c s k).2], k + 1) else eo c s k
theorem iJ {c : UInt8} {s : Bs} {k : Nat} (h : bt s k = (c.toNat : Int)) : eo c s (k + 1) = ((eo c s k).1 ++ [(s.take k).drop (eo c s k).2], k + 1) := if_pos h
theorem jB {c : UInt8} {s : Bs} {k : Nat} (h : ¬ bt s k = (c.toNat : Int)) : eo c s (k + 1) = eo c s k := if_neg h
theorem jj (c : UInt8) (s : Bs) : ∀ k, (eo c s k).2 ≤ k
  | 0 => Nat.le_refl _
  | k + 1 => by
    have := jj c s k
    simp only [eo]
    split
    · exact Nat.le_refl _
    · omega
theorem oh (c : UInt8) (s : Bs) : ∀ k, (eo c s k).1.length ≤ k
  | 0 => Nat.le_refl _
  | k + 1 => by
    have := oh c s k
    simp only [eo]
    split
    · rw [aq]; simp only [ak, aw]; omega
    · omega
theorem wM {c : UInt8} {s : Bs} {k : Nat} : bt s k = (c.toNat : Int) ↔ s.getD k 0 = c := by
  unfold bt
  constructor
  · intro h; exact UInt8.toNat_inj.1 (by omega)
  · intro h; rw [h]
theorem nn (c : UInt8) (s : Bs) : ∀ k, k ≤ s.length → (s.take k).foldl (fun (st : List Bs × Bs) b => if b = c then (st.1 ++ [st.2], []) else (st.1, st.2 ++ [b])) ([], []) = ((eo c s k).1, (s.take k).drop (eo c s k).2)
  | 0, _ => rfl
  | k + 1, h => by
    have ih := nn c s k (by omega)
    have hf := jj c s k
    rw [iz (by omega), List.foldl_append, ih, List.foldl_cons, List.foldl_nil]
    by_cases e : bt s k = (c.toNat : Int)
    · rw [iJ e, if_pos (wM.1 e)]
      simp only []
      have e9 : (s.take k ++ [s.getD k 0]).drop (k + 1) = [] := List.drop_eq_nil_of_le (by rw [aq, List.length_take]; simp only [ak, aw]; omega)
      rw [e9]
    · rw [jB e, if_neg (fun h => e (wM.2 h))]
      simp only []
      rw [List.drop_append_of_le_length (by rw [List.length_take]; omega)]
theorem kz (c : UInt8) (s : Bs) : (eo c s s.length).1 ++ [(s.take s.length).drop (eo c s s.length).2] = spB c s := by
  have h1 := nn c s s.length (Nat.le_refl _)
  have h2 := oF c s ([], [])
  rw [aD] at h1 ⊢
  rw [h1] at h2
  simp only [ar] at h2
  rw [h2, ← fb]
theorem pM {c : UInt8} {s y : Bs} (h : y ∈ spB c s) : y.length ≤ s.length := by
  induction s generalizing y with
  | nil => simp [spB] at h; subst h; exact Nat.le_refl _
  | cons b s ih =>
    rw [jp] at h
    have hh := fb c s
    split at h
    · rcases List.mem_cons.1 h with rfl | h
      · exact Nat.zero_le _
      · have := ih h; simp only [ak]; omega
    · rcases List.mem_cons.1 h with rfl | h
      · have := ih (y := (spB c s).headD []) (by rw [hh]; simp)
        simp only [ak]; omega
      · have := ih (by rw [hh]; exact aI _ h)
        simp only [ak]; omega
theorem jW (c : UInt8) (s : Bs) (k : Nat) : ((spB c s).getD k []).length ≤ s.length := by
  by_cases h : k < (spB c s).length
  · exact pM (cU h)
  · rw [List.getD, List.getElem?_eq_none (by omega)]; exact Nat.zero_le _
end Go.AV
