/- Contracts of functions of this seat, each out of a walk through its code, and plain facts on what they compute. Conditions: those that each theorem names. -/
import Derived.Test.YtmfkpljjhiglpaaDoorW00
set_option linter.unusedSimpArgs false
set_option linter.unusedVariables false
set_option maxRecDepth 100000
namespace Go.AV
open Nat renaming reduceEqDiff → M, reduceAdd → E, reduceLeDiff → O, reduceLT → Z, reduceMul → Y, reduceSub → V
open List renaming set_cons_zero → bH, set_cons_succ → b0, getD_cons_zero → cK, length_append → ag, map_cons → aV, cons_append → ak, map_nil → bC, length_cons → ah, nil_append → am, take_succ_cons → cb, length_nil → aq, length_map → bV, length_replicate → aI, take_length → aD, mem_cons_self → aR, mem_cons_of_mem → aC
open Int renaming toNat_natCast → aM
/-plain-/
def bI1 (b : Bool) : Int := if b = true then 1 else 0
def uG (d : Dfa) (s : Nat) : Int := bI1 (d.acc.getD s false)
/-plain-/
/-plain-/
/-plain-/
/-plain-/
def Dfa.sg (d : Dfa) (cl : List Int) (s : Nat) : List Int := cl.getD s 0 :: (d.nx.getD s []).map fun t => cl.getD t.toNat 0
def Dfa.nxL (d : Dfa) (cl : List Int) : List Int := (List.range d.nx.length).map fun s => (pos (sf (d.sg cl) d.nx.length) (d.sg cl s) : Int)
def Dfa.cl (d : Dfa) : Nat → List Int
  | 0 => (List.range d.nx.length).map (uG d)
  | i + 1 => d.nxL (d.cl i)
def Dfa.cn (d : Dfa) : Nat → Nat
  | 0 => 0
  | i + 1 => (sf (d.sg (d.cl i)) d.nx.length).length
def uO (n : Int) (w : List Int) : Prop := ∀ x, x ∈ w → 0 ≤ x ∧ x < n
def DEQ (a b : Dfa) (s t : Int) : Prop := ∀ w : List Int, uO a.inp w → a.ac (a.run s w) = b.ac (b.run t w)
theorem DEQ.refl (d : Dfa) (s : Int) : DEQ d d s s := fun _ _ => rfl
theorem DEQ.symm {d : Dfa} {s t : Int} (h : DEQ d d s t) : DEQ d d t s := fun w hw => (h w hw).symm
theorem DEQ.trans {d : Dfa} {s t u : Int} (h : DEQ d d s t) (h2 : DEQ d d t u) : DEQ d d s u := fun w hw => (h w hw).trans (h2 w hw)
theorem DEQ.join {a b c : Dfa} {s t u : Int} (hi : a.inp = b.inp) (h : DEQ a b s t) (h2 : DEQ b c t u) : DEQ a c s u := fun w hw => (h w hw).trans (h2 w (hi ▸ hw))
/-plain-/
/-plain-/
/-plain-/
structure SIM (A B : STP) (n : Nat) (R : PP → PP → Prop) : Prop where
  st : ∀ p q, R p q → ∀ x, x < n → R (A p x) (B q x)
  bi : ∀ p q p' q', R p q → R p' q' → (p = p' ↔ q = q')
def RL (R : PP → PP → Prop) (l l' : List W3) : Prop := l.length = l'.length ∧ ∀ i, i < l.length → R (l.getD i w30).1 (l'.getD i w30).1 ∧ (l.getD i w30).2 = (l'.getD i w30).2
theorem RL.mem {A B : STP} {n : Nat} {R : PP → PP → Prop} (hs : SIM A B n R) {l l' : List W3} (h : RL R l l') {p q : PP} (hr : R p q) : p ∈ l.map Prod.fst ↔ q ∈ l'.map Prod.fst := by
  constructor
  · intro hm
    obtain ⟨e, he, e1⟩ := List.mem_map.1 hm
    obtain ⟨i, hi⟩ := List.getElem?_of_mem he
    have hlt := (List.getElem?_eq_some_iff.1 hi).1
    have h2 := h.2 i hlt
    have h3 : l.getD i w30 = e := by rw [List.getD, hi]; rfl
    rw [h3, e1] at h2
    have := (hs.bi _ _ _ _ h2.1 hr).1 rfl
    rw [← this]
    exact List.mem_map.2 ⟨_, nO (by rw [← h.1]; exact hlt), rfl⟩
  · intro hm
    obtain ⟨e, he, e1⟩ := List.mem_map.1 hm
    obtain ⟨i, hi⟩ := List.getElem?_of_mem he
    have hlt := (List.getElem?_eq_some_iff.1 hi).1
    have h2 := h.2 i (by rw [h.1]; exact hlt)
    have h3 : l'.getD i w30 = e := by rw [List.getD, hi]; rfl
    rw [h3, e1] at h2
    have := (hs.bi _ _ _ _ h2.1 hr).2 rfl
    rw [← this]
    exact List.mem_map.2 ⟨_, nO (by rw [h.1]; exact hlt), rfl⟩
theorem RL.snoc {R : PP → PP → Prop} {l l' : List W3} (h : RL R l l') {e f : W3} (hr : R e.1 f.1) (hw : e.2 = f.2) : RL R (l ++ [e]) (l' ++ [f]) := by
  refine ⟨by simp [h.1], fun i hi => ?_⟩
  rw [ag, List.length_singleton] at hi
  by_cases e1 : i < l.length
  · rw [bM e1, bM (by rw [← h.1]; exact e1)]; exact h.2 i e1
  · rw [cM (by omega), cM (by have := h.1; omega)]; exact ⟨hr, hw⟩
theorem RL.row {A B : STP} {n : Nat} {R : PP → PP → Prop} (hs : SIM A B n R) {l l' : List W3} (h : RL R l l') {e f : W3} (hr : R e.1 f.1) (hw : e.2 = f.2) : ∀ x, x ≤ n → RL R (fK A e l x) (fK B f l' x)
  | 0, _ => h
  | x + 1, hx => by
    have ih := h.row hs hr hw x (by omega)
    have h2 := hs.st _ _ hr x (by omega)
    rw [fy, fy]
    by_cases hm : A e.1 x ∈ (fK A e l x).map Prod.fst
    · rw [nN hm, nN ((ih.mem hs h2).1 hm)]; exact ih
    · rw [l8 hm, l8 (fun k => hm ((ih.mem hs h2).2 k))]
      exact ih.snoc h2 (by rw [hw])
theorem RL.one {R : PP → PP → Prop} {p q : PP} (h : R p q) : RL R [(p, [])] [(q, [])] := ⟨rfl, fun i hi => by
  have : i = 0 := by simpa using hi
  subst this; exact ⟨h, rfl⟩⟩
/-plain-/
/-plain-/
def SLT (u v : List Int) : Prop := u.length < v.length ∨ (u.length = v.length ∧ ∃ m, m < u.length ∧ (∀ q, q < m → u.getD q 0 = v.getD q 0) ∧ u.getD m 0 < v.getD m 0)
def SLE (u v : List Int) : Prop := u = v ∨ SLT u v
theorem SLT.trans {u v w : List Int} (h : SLT u v) (h2 : SLT v w) : SLT u w := by
  rcases h with h | ⟨h, m, a1, a2, a3⟩
  · rcases h2 with h2 | ⟨h2, _⟩
    · exact .inl (by omega)
    · exact .inl (by omega)
  · rcases h2 with h2 | ⟨h2, k, b1, b2, b3⟩
    · exact .inl (by omega)
    · refine .inr ⟨by omega, ?_⟩
      rcases Nat.lt_trichotomy m k with e | e | e
      · exact ⟨m, a1, fun q hq => (a2 q hq).trans (b2 q (by omega)), by rw [← b2 m e]; exact a3⟩
      · subst e; exact ⟨m, a1, fun q hq => (a2 q hq).trans (b2 q hq), by omega⟩
      · exact ⟨k, by omega, fun q hq => (a2 q (by omega)).trans (b2 q hq), by rw [a2 k e]; exact b3⟩
theorem SLE.trans_lt {u v w : List Int} (h : SLE u v) (h2 : SLT v w) : SLT u w := by
  rcases h with rfl | h
  · exact h2
  · exact h.trans h2
theorem SLE.trans {u v w : List Int} (h : SLE u v) (h2 : SLE v w) : SLE u w := by
  rcases h2 with rfl | h2
  · exact h
  · exact .inr (h.trans_lt h2)
theorem SLT.app {u v : List Int} (h : SLT u v) (a b : Int) : SLT (u ++ [a]) (v ++ [b]) := by
  rcases h with h | ⟨h, m, a1, a2, a3⟩
  · exact .inl (by simp; omega)
  · refine .inr ⟨by simp; omega, m, by simp; omega, fun q hq => ?_, ?_⟩
    · rw [bM (by omega), bM (by omega)]; exact a2 q hq
    · rw [bM a1, bM (by omega)]; exact a3
theorem SLT.last (u : List Int) {a b : Int} (h : a < b) : SLT (u ++ [a]) (u ++ [b]) := by
  refine .inr ⟨by simp, u.length, by simp, fun q hq => ?_, ?_⟩
  · rw [bM hq, bM hq]
  · rw [cM rfl, cM rfl]; exact h
theorem SLE.app {u v : List Int} (h : SLE u v) (a : Int) : SLE (u ++ [a]) (v ++ [a]) := by
  rcases h with rfl | h
  · exact .inl rfl
  · exact .inr (h.app a a)
theorem SLT.nil (u : List Int) (x : Int) : SLT [] (u ++ [x]) := .inl (by simp)
structure BW (A : STP) (n i : Nat) (l : List W3) : Prop where
  so : ∀ j k, j < k → k < l.length → SLT (l.getD j w30).2 (l.getD k w30).2
  mi : ∀ j, j < i → j < l.length → ∀ x, x < n → ∃ k, k < l.length ∧ (l.getD k w30).1 = A (l.getD j w30).1 x ∧ SLE (l.getD k w30).2 ((l.getD j w30).2 ++ [(x : Int)])
  up : i < l.length → ∀ k, k < l.length → SLT (l.getD k w30).2 ((l.getD i w30).2 ++ [0])
structure BX (A : STP) (n i x : Nat) (l0 l : List W3) : Prop where
  so : ∀ j k, j < k → k < l.length → SLT (l.getD j w30).2 (l.getD k w30).2
  mi : ∀ y, y < x → ∃ k, k < l.length ∧ (l.getD k w30).1 = A (l0.getD i w30).1 y ∧ SLE (l.getD k w30).2 ((l0.getD i w30).2 ++ [(y : Int)])
  up : ∀ k, k < l.length → SLT (l.getD k w30).2 ((l0.getD i w30).2 ++ [(x : Int)])
/-plain-/
structure LCL (A : STP) (n : Nat) (L : List W3) : Prop where
  nd : (L.map Prod.fst).Nodup
  cl : ∀ j, j < L.length → ∀ x, x < n → A (L.getD j w30).1 x ∈ L.map Prod.fst
variable {A : STP} {G : PP → Bool} {n : Nat} {L : List W3}
/-plain-/
def Dfa.sto (d : Dfa) : Nat → Nat → Nat
  | 0, i => i
  | f + 1, i => if d.cn (i + 1) = d.cn i then i else d.sto f (i + 1)
def Dfa.cls (d : Dfa) : List Int := d.cl (d.sto (d.nx.length + 1) 0 + 1)
def fsV (cl : List Int) (n s c : Nat) : Int := match (List.range n).find? (fun q => decide (s ≤ q) && decide (cl.getD q 0 = (c : Int))) with | some q => (q : Int) | none => 0
def fsL (cl : List Int) (n s : Nat) : List Int := (List.range n).map fun c => fsV cl n s c
def Dfa.rep (d : Dfa) (s : Int) : Int := (fsL d.cls d.nx.length 0).getD (d.cls.getD s.toNat 0).toNat 0
structure RPR (d : Dfa) (s r : Int) : Prop where
  rg : 0 ≤ r ∧ r < d.nx.length
  le : r ≤ s
  cl : d.cls.getD r.toNat 0 = d.cls.getD s.toNat 0
  mi : ∀ q : Nat, (q : Int) < r → d.cls.getD q 0 ≠ d.cls.getD s.toNat 0
/-plain-/
structure M1OK (d : Dfa) (q : PP) (x : Nat) : Prop where
  r1 : 0 ≤ q.1 ∧ q.1 < d.nx.length
  rl : ((d.nx.getD q.1.toNat []).length : Int) = d.inp
  t1 : 0 ≤ (d.nx.getD q.1.toNat []).getD x 0 ∧ (d.nx.getD q.1.toNat []).getD x 0 < d.nx.length
  c1 : 0 ≤ d.cls.getD ((d.nx.getD q.1.toNat []).getD x 0).toNat 0 ∧ d.cls.getD ((d.nx.getD q.1.toNat []).getD x 0).toNat 0 < d.nx.length
  e : d.rep (d.dl q.1 x) = (fsL d.cls d.nx.length 0).getD (d.cls.getD ((d.nx.getD q.1.toNat []).getD x 0).toNat 0).toNat 0
/-plain-/
structure SHP (d : Dfa) (P : List W3) (k : Nat) : Prop where
  rg : 0 ≤ (P.getD k w30).1.1 ∧ (P.getD k w30).1.1 < d.nx.length
/-plain-/
def pF (m : Mly) : Bool := m.ot.flatten.any fun o => decide (1 < o)
theorem kJ : ∀ (xs : List Int) (b : Int), 1 < xs.foldl max b ↔ 1 < b ∨ ∃ o, o ∈ xs ∧ 1 < o
  | [], b => by simp
  | x :: xs, b => by
    rw [List.foldl_cons, kJ xs]
    constructor
    · rintro (h | ⟨o, ho, h⟩)
      · by_cases h2 : 1 < b
        · exact .inl h2
        · exact .inr ⟨x, aR, by omega⟩
      · exact .inr ⟨o, aC _ ho, h⟩
    · rintro (h | ⟨o, ho, h⟩)
      · exact .inl (by omega)
      · rcases List.mem_cons.1 ho with rfl | ho
        · exact .inl (by omega)
        · exact .inr ⟨o, ho, h⟩
theorem rK {xs : List Int} (h : 0 < xs.length) : 1 < mxL xs ↔ ∃ o, o ∈ xs ∧ 1 < o := by
  unfold mxL
  rw [kJ]
  constructor
  · rintro (h2 | h2)
    · exact ⟨_, gA.2 ⟨0, h, rfl⟩, h2⟩
    · exact h2
  · exact .inr
theorem pE {m : Mly} : pF m = true ↔ ∃ o, o ∈ m.ot.flatten ∧ 1 < o := by unfold pF; rw [List.any_eq_true]; exact ⟨fun ⟨o, h1, h2⟩ => ⟨o, h1, by simpa using h2⟩, fun ⟨o, h1, h2⟩ => ⟨o, h1, by simpa using h2⟩⟩
theorem rF {m : Mly} (hm : MOK m) : 0 < m.ot.flatten.length := by
  have h := kq hm m.ot.length (Nat.le_refl _)
  rw [aD] at h
  have h1 := hm.i1; have h2 := hm.n1; have h3 := hm.ol
  have : 0 < (m.ot.length : Int) * m.inp := Int.mul_pos (by omega) (by omega)
  omega
theorem rD {xs : List Int} (h : 0 < xs.length) : 0 < (jz xs).length := by
  have : xs.getD 0 0 ∈ jz xs := ((dO xs).2 _).2 (gA.2 ⟨0, h, rfl⟩)
  obtain ⟨j, hj, _⟩ := gA.1 this
  omega
theorem tW {m : Mly} (hv : bv m = 0) : 0 < (dY m).length ∧ (1 < mxL (dY m) ↔ pF m = true) := by
  have hm := nG hv
  rw [fX hv]
  have h := rD (rF hm)
  refine ⟨h, ?_⟩
  rw [rK h, pE]
  exact ⟨fun ⟨o, h1, h2⟩ => ⟨o, ((dO _).2 o).1 h1, h2⟩, fun ⟨o, h1, h2⟩ => ⟨o, ((dO _).2 o).2 h1, h2⟩⟩
/-plain-/
structure Mdl where
  nm : Bs
  ins : List Bs
  outs : List Bs
  m : Mly
def Mdl.cs (x : Mdl) : List AC := [.str x.nm, .list .str x.ins, .list .str x.outs, .int .i64 x.m.inp, .int .i64 x.m.st, .list (.list (.int .i64)) x.m.nx, .list (.list (.int .i64)) x.m.ot]
def Mdl.av (x : Mdl) : AV := .agg x.cs
def mvE (x : Mdl) : Int := if aZ x.nm = false then 9 else if ¬ alE x.ins = 0 then alE x.ins else if ¬ alE x.outs = 0 then alE x.outs else if ¬ bv x.m = 0 then bv x.m else
  if x.m.inp = x.ins.length ∧ mxL (dY x.m) < x.outs.length then 0 else 2
theorem pb {x : Mdl} (h : aZ x.nm = false) : mvE x = 9 := if_pos h
theorem uU {x : Mdl} (h : aZ x.nm = true) (h2 : ¬ alE x.ins = 0) : mvE x = alE x.ins := by unfold mvE; rw [if_neg (by rw [h]; decide), if_pos h2]
theorem uQ {x : Mdl} (h : aZ x.nm = true) (h2 : alE x.ins = 0) (h3 : ¬ alE x.outs = 0) : mvE x = alE x.outs := by unfold mvE; rw [if_neg (by rw [h]; decide), if_neg (fun k => k h2), if_pos h3]
theorem nY {x : Mdl} (h : aZ x.nm = true) (h2 : alE x.ins = 0) (h3 : alE x.outs = 0) (h4 : ¬ bv x.m = 0) : mvE x = bv x.m := by
  unfold mvE; rw [if_neg (by rw [h]; decide), if_neg (fun k => k h2), if_neg (fun k => k h3), if_pos h4]
theorem oH {x : Mdl} (h : aZ x.nm = true) (h2 : alE x.ins = 0) (h3 : alE x.outs = 0) (h4 : bv x.m = 0) (h5 : ¬ (x.m.inp = x.ins.length ∧ mxL (dY x.m) < x.outs.length)) : mvE x = 2 := by
  unfold mvE; rw [if_neg (by rw [h]; decide), if_neg (fun k => k h2), if_neg (fun k => k h3), if_neg (fun k => k h4), if_neg h5]
theorem mU {x : Mdl} (h : aZ x.nm = true) (h2 : alE x.ins = 0) (h3 : alE x.outs = 0) (h4 : bv x.m = 0) (h5 : x.m.inp = x.ins.length ∧ mxL (dY x.m) < x.outs.length) : mvE x = 0 := by
  unfold mvE; rw [if_neg (by rw [h]; decide), if_neg (fun k => k h2), if_neg (fun k => k h3), if_neg (fun k => k h4), if_pos h5]
theorem oy {x : Mdl} (h : aZ x.nm = true) {k : Nat} (hk : k < 2) (hq : ∀ q, q < k → alE ([x.ins, x.outs].getD q []) = 0) (hb : ¬ alE ([x.ins, x.outs].getD k []) = 0) : mvE x = alE ([x.ins, x.outs].getD k []) := by
  rcases (show k = 0 ∨ k = 1 by omega) with rfl | rfl
  · exact uU h hb
  · exact uQ h (hq 0 (by omega)) hb
theorem tK {m : Mly} (hv : bv m = 0) : 0 < (dY m).length := (tW hv).1
/-plain-/
theorem ry {m : Mly} (h : bv m = 0) {o : Int} : o ∈ dY m ↔ o ∈ m.ot.flatten := by rw [fX h, (dO _).2]
def ui (ls : List (List Int)) : Bool := ls.any fun r => decide (12 < r.length)
def g8 (m : Mly) : Bool := decide (12 < (m.nx.length : Int)) || decide (12 < (m.ot.length : Int)) || decide (6 < m.inp) || ui m.nx || ui m.ot
/-plain-/
def qn (i : Nat) : Bs := 113 :: Lib.decDigits i
def eO (x : Mdl) (s a : Nat) : Bs := qn s ++ [32] ++ x.ins.getD a [] ++ [32] ++ x.outs.getD ((x.m.ot.getD s []).getD a 0).toNat [] ++ [32] ++ qn ((x.m.nx.getD s []).getD a 0).toNat
def eL (x : Mdl) (s k : Nat) : List Bs := (List.range k).map (eO x s)
def qs (n : Nat) : List Bs := (List.range n).map qn
def hdT (x : Mdl) : List Bs := [[109, 97, 99, 104, 105, 110, 101, 32] ++ x.nm, [105, 110, 112, 117, 116, 115, 32] ++ Lib.join x.ins [32], [111, 117, 116, 112, 117, 116, 115, 32] ++ Lib.join x.outs [32], [115, 116, 97, 116, 101, 115, 32] ++ Lib.join (qs x.m.nx.length) [32], [115, 116, 97, 114, 116, 32] ++ qn x.m.st.toNat]
def dG (x : Mdl) (k : Nat) : List Bs := ((List.range k).map fun s => eL x s (x.m.nx.getD s []).length).flatten
def SM (x : Mdl) : Bs := if mvE x = 0 then Lib.join (hdT x ++ dG x x.m.nx.length) [10] ++ [10] else []
theorem lM {x : Mdl} (h : mvE x = 0) : SM x = Lib.join (hdT x ++ dG x x.m.nx.length) [10] ++ [10] := if_pos h
theorem qq {x : Mdl} (h : ¬ mvE x = 0) : SM x = [] := if_neg h
theorem oD (x : Mdl) (s k : Nat) : eL x s (k + 1) = eL x s k ++ [eO x s k] := by unfold eL; rw [List.range_succ, List.map_append]; rfl
theorem sK (n : Nat) : qs (n + 1) = qs n ++ [qn n] := by unfold qs; rw [List.range_succ, List.map_append]; rfl
theorem i7 (x : Mdl) (k : Nat) : dG x (k + 1) = dG x k ++ eL x k (x.m.nx.getD k []).length := by unfold dG; rw [List.range_succ, List.map_append, List.flatten_append]; simp
theorem cu (n : Nat) : (qs n).length = n := by unfold qs; simp
theorem dg {n i : Nat} (h : i < n) : (qs n).getD i [] = qn i := by unfold qs; simp [List.getD, h]
theorem lg (x : Mdl) (s k : Nat) : (eL x s k).length = k := by unfold eL; simp
structure MVO (x : Mdl) : Prop where
  nm : aZ x.nm = true
  ai : AOK x.ins
  ao : AOK x.outs
  mo : MOK x.m
  vm : bv x.m = 0
  il : x.m.inp = x.ins.length
  ol : ∀ s a : Nat, s < x.m.nx.length → (a : Int) < x.m.inp → (x.m.ot.getD s []).getD a 0 < x.outs.length
theorem kt {x : Mdl} (h : mvE x = 0) : MVO x := by
  unfold mvE at h
  split at h
  · omega
  · split at h
    · omega
    · split at h
      · omega
      · split at h
        · omega
        · split at h
          · rename_i h1 h2 h3 h4 h5
            have hv : bv x.m = 0 := by omega
            have hm := nG hv
            refine ⟨by simpa using h1, iT (by omega), iT (by omega), hm, hv, h5.1, fun s a hs ha => ?_⟩
            have hol := hm.ol
            have hq := hm.ql s hs
            have hin : (x.m.ot.getD s []).getD a 0 ∈ x.m.ot.flatten := List.mem_flatten.2 ⟨x.m.ot.getD s [], by simp [List.getD, hol, hs], gp (by omega)⟩
            have : (x.m.ot.getD s []).getD a 0 ≤ mxL (dY x.m) := (kU _ _).2 _ ((ry hv).2 hin)
            omega
          · omega
theorem fa {sep : Bs} {B : Nat} : ∀ {l : List Bs}, (∀ y, y ∈ l → y.length ≤ B) → (Lib.join l sep).length ≤ l.length * (B + sep.length)
  | [], _ => Nat.zero_le _
  | [y], h => by rw [Lib.join_one]; have := h y (by simp); simp only [ah, aq]; omega
  | y :: z :: l, h => by
    have h1 := h y (by simp)
    have h2 := fa (sep := sep) (l := z :: l) fun q hq => h q (aC _ hq)
    have e : Lib.join (y :: z :: l) sep = y ++ sep ++ Lib.join (z :: l) sep := by rw [Lib.join_cons, Lib.join_cons]; simp [Lib.joinTail]
    rw [e, ag, ag]
    have e2 : (y :: z :: l).length * (B + sep.length) = (z :: l).length * (B + sep.length) + (B + sep.length) := by simp only [ah]; rw [Nat.add_mul _ 1, Nat.one_mul]
    omega
theorem oM : ∀ n : Nat, n < 128 → (Lib.decDigits n).length ≤ 3 := by decide +kernel
theorem gJ {n : Nat} (h : n < 128) : (qn n).length ≤ 4 := by have := oM n h; unfold qn; simp; omega
theorem kQ {xs : List Bs} (h : AOK xs) (y : Bs) (hy : y ∈ xs) : y.length ≤ 32 := by
  obtain ⟨j, hj, rfl⟩ := mQ.1 hy
  exact (dj (h.nm j hj)).2.2
theorem gD {xs : List Bs} (h : AOK xs) (j : Nat) : (xs.getD j []).length ≤ 32 := by
  by_cases hj : j < xs.length
  · exact kQ h _ (dk hj)
  · rw [List.getD, List.getElem?_eq_none (by omega)]; exact Nat.zero_le _
theorem rq {x : Mdl} (h : MVO x) {s a : Nat} (hs : s < x.m.nx.length) (ha : (a : Int) < x.m.inp) : (eO x s a).length ≤ 75 := by
  have h1 := gD h.ai a
  have h2 := gD h.ao ((x.m.ot.getD s []).getD a 0).toNat
  have hn2 := h.mo.n2
  have h3 := h.mo.nr s a hs ha
  have h4 := gJ (n := s) (by omega)
  have h5 := gJ (n := ((x.m.nx.getD s []).getD a 0).toNat) (by omega)
  unfold eO
  simp only [ag, ah, aq]
  omega
theorem fR {x : Mdl} (h : MVO x) (y : Bs) (hy : y ∈ hdT x) : y.length ≤ 2121 := by
  have h1 := (dj h.nm).2.2
  have h2 := fa (sep := [32]) (B := 32) (kQ h.ai)
  have h3 := fa (sep := [32]) (B := 32) (kQ h.ao)
  have hn2 := h.mo.n2
  have hs2 := h.mo.s2
  have h4 := fa (sep := [32]) (B := 4) (l := qs x.m.nx.length) fun y hy => by
    unfold qs at hy
    obtain ⟨i, hi, rfl⟩ := List.mem_map.1 hy
    have := List.mem_range.1 hi
    exact gJ (by omega)
  have h5 := gJ (n := x.m.st.toNat) (by omega)
  have hi1 := h.ai.n1
  have ho1 := h.ao.n1
  rw [cu] at h4
  simp only [ah, aq] at h2 h3 h4
  unfold hdT at hy
  simp only [List.mem_cons, List.not_mem_nil, or_false] at hy
  rcases hy with rfl | rfl | rfl | rfl | rfl <;> simp only [ag, ah, aq] <;> omega
theorem qV {x : Mdl} (h : MVO x) {k : Nat} (hk : k ≤ x.m.nx.length) (y : Bs) (hy : y ∈ dG x k) : y.length ≤ 75 := by
  unfold dG at hy
  obtain ⟨l, hl, hy⟩ := List.mem_flatten.1 hy
  obtain ⟨s, hs, rfl⟩ := List.mem_map.1 hl
  have := List.mem_range.1 hs
  unfold eL at hy
  obtain ⟨a, ha, rfl⟩ := List.mem_map.1 hy
  have := List.mem_range.1 ha
  have := h.mo.rl s (by omega)
  exact rq h (by omega) (by omega)
theorem mE {x : Mdl} (h : MVO x) : ∀ {k : Nat}, k ≤ x.m.nx.length → (dG x k).length = k * x.ins.length
  | 0, _ => by simp [dG]
  | k + 1, hk => by
    rw [i7, ag, mE h (by omega), lg, Nat.add_mul, Nat.one_mul]
    have := h.mo.rl k (by omega)
    have := h.il
    omega
theorem i8 {x : Mdl} (h : MVO x) {k : Nat} (hk : k ≤ x.m.nx.length) : (dG x k).length ≤ 8192 := by
  rw [mE h hk]
  have := h.mo.n2
  have := h.ai.n1
  exact Nat.le_trans (Nat.mul_le_mul (show k ≤ 128 by omega) (show x.ins.length ≤ 64 by exact h.ai.n1)) (by decide)
theorem lx {sep : Bs} : ∀ {a b : List Bs}, (Lib.join (a ++ b) sep).length ≤ (Lib.join a sep).length + sep.length + (Lib.join b sep).length
  | [], b => by simp [Lib.join_nil]
  | [y], [] => by rw [List.append_nil]; omega
  | [y], z :: b => by rw [List.singleton_append, Lib.join_one, Lib.join_cons, Lib.join_cons]; simp [Lib.joinTail]; omega
  | y :: z :: a, b => by
    have h := lx (sep := sep) (a := z :: a) (b := b)
    have e : ∀ l : List Bs, Lib.join (y :: z :: l) sep = y ++ sep ++ Lib.join (z :: l) sep := fun l => by rw [Lib.join_cons, Lib.join_cons]; simp [Lib.joinTail]
    rw [ak, ak, e, e, ag, ag, ag, ag]
    rw [ak] at h
    omega
theorem qw {x : Mdl} (h : MVO x) : (Lib.join (hdT x ++ dG x x.m.nx.length) [10]).length ≤ 700000 := by
  have h1 := fa (sep := [10]) (fR h)
  have h2 := fa (sep := [10]) (qV h (Nat.le_refl _))
  have h3 := i8 h (Nat.le_refl _)
  have h4 := lx (sep := [10]) (a := hdT x) (b := dG x x.m.nx.length)
  have h5 : (hdT x).length = 5 := rfl
  have h6 : (dG x x.m.nx.length).length * (75 + [10].length) ≤ 8192 * 76 := Nat.mul_le_mul h3 (Nat.le_refl _)
  rw [h5] at h1
  simp only [ah, aq] at *
  omega
/-plain-/
def spB (c : UInt8) : Bs → List Bs
  | [] => [[]]
  | b :: s => if b = c then [] :: spB c s else (b :: (spB c s).headD []) :: (spB c s).tail
theorem gg (c b : UInt8) (s : Bs) : spB c (b :: s) = if b = c then [] :: spB c s else (b :: (spB c s).headD []) :: (spB c s).tail := rfl
theorem eu (c : UInt8) : ∀ s : Bs, spB c s = (spB c s).headD [] :: (spB c s).tail
  | [] => rfl
  | b :: s => by
    rw [gg]
    split <;> rfl
theorem kr {c : UInt8} : ∀ {s : Bs}, c ∉ s → spB c s = [s]
  | [], _ => rfl
  | b :: s, h => by
    simp only [List.mem_cons, not_or] at h
    rw [gg, if_neg (Ne.symm h.1), kr h.2]; rfl
theorem iV {c : UInt8} : ∀ {x : Bs} (s : Bs), c ∉ x → spB c (x ++ c :: s) = x :: spB c s
  | [], s, _ => by rw [am, gg, if_pos rfl]
  | b :: x, s, h => by
    simp only [List.mem_cons, not_or] at h
    rw [ak]
    rw [show spB c (b :: (x ++ c :: s)) = if b = c then [] :: spB c (x ++ c :: s) else (b :: (spB c (x ++ c :: s)).headD []) :: (spB c (x ++ c :: s)).tail from rfl]
    rw [if_neg (Ne.symm h.1), iV s h.2]; rfl
theorem gc (c : UInt8) (s : Bs) : 0 < (spB c s).length := by rw [eu]; simp
theorem nz {c : UInt8} : ∀ {s : Bs}, Lib.indexByte s c < 0 → c ∉ s
  | [], _ => by simp
  | b :: s, h => by
    unfold Lib.indexByte at h
    split at h
    · omega
    · rename_i hb
      have hb2 : ¬ c = b := fun e => hb (by rw [e]; exact beq_self_eq_true b)
      split at h
      · rename_i h2
        have h2 : Lib.indexByte s c = -1 := by simpa using h2
        simp only [List.mem_cons, not_or]
        exact ⟨hb2, nz (by omega)⟩
      · rename_i h2
        have h2 : ¬ Lib.indexByte s c = -1 := by simpa using h2
        have := Lib.indexByte_ge s c
        omega
theorem fY {c : UInt8} : ∀ {s : Bs}, 0 ≤ Lib.indexByte s c → (Lib.indexByte s c).toNat < s.length ∧ c ∉ s.take (Lib.indexByte s c).toNat ∧ s = s.take (Lib.indexByte s c).toNat ++ c :: s.drop ((Lib.indexByte s c).toNat + 1)
  | [], h => by unfold Lib.indexByte at h; omega
  | b :: s, h => by
    unfold Lib.indexByte at h ⊢
    split
    · rename_i hb
      have hb2 : b = c := by simpa using hb
      subst hb2
      exact ⟨by simp, by simp, by simp⟩
    · rename_i hb
      rw [if_neg hb] at h
      have hb2 : ¬ c = b := fun e => hb (by rw [e]; exact beq_self_eq_true b)
      split
      · rename_i h2; rw [if_pos h2] at h; omega
      · rename_i h2
        rw [if_neg h2] at h
        have h3 : ¬ Lib.indexByte s c = -1 := by simpa using h2
        have h4 := Lib.indexByte_ge s c
        obtain ⟨h5, h6, h7⟩ := fY (s := s) (c := c) (by omega)
        have e : (Lib.indexByte s c + 1).toNat = (Lib.indexByte s c).toNat + 1 := by omega
        rw [e]
        refine ⟨by simpa using h5, ?_, ?_⟩
        · rw [cb]; simp only [List.mem_cons, not_or]; exact ⟨hb2, h6⟩
        · rw [cb, List.drop_succ_cons, ak, ← h7]
theorem qx {c : UInt8} {s : Bs} (h : 0 ≤ Lib.indexByte s c) : spB c s = s.take (Lib.indexByte s c).toNat :: spB c (s.drop ((Lib.indexByte s c).toNat + 1)) := by
  obtain ⟨_, h2, h3⟩ := fY h
  have := iV (s.drop ((Lib.indexByte s c).toNat + 1)) h2
  rw [← h3] at this
  exact this
theorem kH (c : UInt8) : ∀ s : Bs, (spB c s).length = Lib.countByte s c + 1
  | [] => rfl
  | b :: s => by
    have ih := kH c s
    have hp := gc c s
    rw [gg]
    unfold Lib.countByte at ih ⊢
    rw [List.count_cons]
    split
    · rename_i e; subst e; simp; omega
    · rename_i e
      have e2 : (b == c) = false := by simpa using e
      rw [e2]
      simp only [ah, List.length_tail, Bool.false_eq_true, if_false]
      omega
theorem mC (c : UInt8) (s : Bs) : (spB c s).length ≤ s.length + 1 := by
  rw [kH]; have := List.count_le_length (a := c) (l := s); unfold Lib.countByte; omega
theorem qX (c : UInt8) (s : Bs) : Lib.countByte s c ≤ s.length := List.count_le_length
theorem qO (c : UInt8) (s : Bs) : ∀ st : List Bs × Bs, (s.foldl (fun st b => if b = c then (st.1 ++ [st.2], []) else (st.1, st.2 ++ [b])) st).1 ++ [(s.foldl (fun st b => if b = c then (st.1 ++ [st.2], []) else (st.1, st.2 ++ [b])) st).2] = st.1 ++ ((st.2 ++ (spB c s).headD []) :: (spB c s).tail) := by
  induction s with
  | nil => intro st; simp [spB]
  | cons b s ih =>
    intro st
    rw [List.foldl_cons, ih]
    rw [gg]
    by_cases e : b = c
    · rw [if_pos e, if_pos e]
      simp only [List.append_assoc, am, List.headD_cons, List.tail_cons, List.append_nil, List.singleton_append]
      rw [← eu]
    · rw [if_neg e, if_neg e]
      simp only [List.headD_cons, List.tail_cons, List.append_assoc, List.singleton_append]
theorem fe {c : UInt8} : ∀ {s x : Bs}, x ∈ spB c s → c ∉ x
  | [], x, h => by simp [spB] at h; subst h; simp
  | b :: s, x, h => by
    rw [gg] at h
    split at h
    · rcases List.mem_cons.1 h with rfl | h
      · simp
      · exact fe h
    · rename_i e
      have hh := eu c s
      rcases List.mem_cons.1 h with rfl | h
      · have := fe (c := c) (s := s) (x := (spB c s).headD []) (by rw [hh]; simp)
        simp only [List.mem_cons, not_or]
        exact ⟨Ne.symm e, this⟩
      · exact fe (s := s) (by rw [hh]; exact aC _ h)
theorem dh (x y sep : Bs) (r : List Bs) : Lib.join (x :: y :: r) sep = x ++ sep ++ Lib.join (y :: r) sep := by rw [Lib.join_cons, Lib.join_cons]; simp [Lib.joinTail]
theorem sm (b : UInt8) (x sep : Bs) (r : List Bs) : Lib.join ((b :: x) :: r) sep = b :: Lib.join (x :: r) sep := by rw [Lib.join_cons, Lib.join_cons, ak]
theorem mB (c : UInt8) : ∀ s : Bs, Lib.join (spB c s) [c] = s
  | [] => by simp [spB, Lib.join_one]
  | b :: s => by
    have ih := mB c s
    have hh := eu c s
    rw [gg]
    split
    · rename_i e
      rw [hh, dh, ← hh, ih, e]; rfl
    · rw [sm, ← hh, ih]
theorem lc {c : UInt8} : ∀ {x : Bs} {r : List Bs}, (∀ y, y ∈ x :: r → c ∉ y) → spB c (Lib.join (x :: r) [c]) = x :: r
  | x, [], h => by rw [Lib.join_one]; exact kr (h x (by simp))
  | x, y :: r, h => by
    have e : Lib.join (x :: y :: r) [c] = x ++ c :: Lib.join (y :: r) [c] := by rw [dh]; simp
    rw [e, iV _ (h x (by simp)), lc fun z hz => h z (aC _ hz)]
/-plain-/
def lnE (s : Bs) : Nat := if Lib.indexByte s 10 < 0 then s.length else (Lib.indexByte s 10).toNat + 1
def aN (s : Bs) : Nat → Bs
  | 0 => s
  | k + 1 => (aN s k).drop (lnE (aN s k))
def bS (s : Bs) (k : Nat) : Bs := (aN s k).take (lnE (aN s k))
theorem tN (s : Bs) : lnE s ≤ s.length := by
  unfold lnE
  split
  · exact Nat.le_refl _
  · exact (fY (by omega)).1
theorem lP {s : Bs} (h : s ≠ []) : 1 ≤ lnE s := by
  unfold lnE
  split
  · exact List.length_pos_iff.2 h
  · omega
theorem gx (s : Bs) : ∀ k, aN s k ≠ [] → k + (aN s k).length ≤ s.length
  | 0, _ => by simp [aN]
  | k + 1, h => by
    have h0 : aN s k ≠ [] := fun e => h (by simp [aN, e])
    have ih := gx s k h0
    have h1 := lP h0
    have h2 := tN (aN s k)
    simp only [aN, List.length_drop]
    omega
theorem nS (s : Bs) (k : Nat) : (aN s k).length ≤ s.length := by
  by_cases h : aN s k = []
  · rw [h]; exact Nat.zero_le _
  · have := gx s k h; omega
theorem pS (l : Bs) (n : Nat) : (⟨l.toArray⟩ : ByteArray).extract 0 n = ⟨(l.take n).toArray⟩ := by
  apply ByteArray.ext
  simp [ByteArray.data_extract]
theorem oX (l : Bs) (n : Nat) : (⟨l.toArray⟩ : ByteArray).extract n l.length = ⟨(l.drop n).toArray⟩ := by
  apply ByteArray.ext
  simp [ByteArray.data_extract]
  rw [List.take_of_length_le (by rw [List.length_drop]; exact Nat.le_refl _)]
/-plain-/
def du (s p : Bs) : Bool := decide (p.length ≤ s.length) && decide (s.drop (s.length - p.length) = p)
theorem rB {s p : Bs} : du s p = true ↔ p <:+ s := by
  unfold du
  rw [Bool.and_eq_true, decide_eq_true_eq, decide_eq_true_eq, List.suffix_iff_eq_drop]
  constructor
  · intro h; exact h.2.symm
  · intro h
    refine ⟨?_, h.symm⟩
    have := congrArg List.length h
    rw [List.length_drop] at this
    omega
/-plain-/
def ci (b n : Nat) : List AC := (List.range n).map fun i => .row (b + i) 0
def eH (I : TypeId) (xs : List (List Int)) : List AO := xs.map fun l => .row (.int .i64) I 0 l
def cX (S I : TypeId) (b : Nat) (xs : List (List Int)) : List AO := .rowc S 1 0 (ci (b + 1) xs.length) :: eH I xs
def eF (L0 : List AO) (S I : TypeId) (n k : Nat) (xs : List (List Int)) : List AO := L0 ++ .rowc S 1 0 (ci (L0.length + 1) k ++ List.replicate (n - k) .nils) :: eH I xs
theorem cJ (b n : Nat) : (ci b n).length = n := by unfold ci; simp
theorem cr (I : TypeId) (xs : List (List Int)) : (eH I xs).length = xs.length := by unfold eH; simp
theorem th (L0 : List AO) (S I : TypeId) (n : Nat) : eF L0 S I n 0 [] = L0 ++ [.rowc S 1 0 (List.replicate n .nils)] := by unfold eF ci eH; simp
theorem qF (L0 : List AO) (S I : TypeId) (n : Nat) (xs : List (List Int)) (h : xs.length = n) : eF L0 S I n n xs = L0 ++ cX S I L0.length xs := by unfold eF cX; rw [h, Nat.sub_self, List.replicate_zero, List.append_nil]
theorem iG (L0 : List AO) (S I : TypeId) (n k : Nat) (xs : List (List Int)) : (eF L0 S I n k xs)[L0.length]? = some (.rowc S 1 0 (ci (L0.length + 1) k ++ List.replicate (n - k) .nils)) := by unfold eF; simp
theorem jd (L0 : List AO) (S I : TypeId) (n k : Nat) (xs : List (List Int)) : (eF L0 S I n k xs).length = L0.length + 1 + xs.length := by unfold eF; simp [cr]; omega
theorem jv (L0 : List AO) (S I : TypeId) (n k : Nat) (xs : List (List Int)) (l : List Int) : eF L0 S I n k xs ++ [.row (.int .i64) I 0 l] = eF L0 S I n k (xs ++ [l]) := by unfold eF eH; simp
theorem mj {b n k : Nat} (h : k ≤ n) : (ci b k ++ List.replicate (n - k) AC.nils).length = n := by rw [ag, cJ, aI]; omega
theorem pG {b n k : Nat} (h : k < n) : ba (ci b k ++ List.replicate (n - k) .nils) k [.row (b + k) 0] = ci b (k + 1) ++ List.replicate (n - (k + 1)) .nils := by
  unfold ba
  have e : ci b (k + 1) = ci b k ++ [.row (b + k) 0] := by unfold ci; rw [List.range_succ, List.map_append]; rfl
  rw [e, List.take_append_of_le_length (by rw [cJ]; exact Nat.le_refl _), List.take_of_length_le (by rw [cJ]; exact Nat.le_refl _), List.drop_append, cJ, List.drop_of_length_le (by rw [cJ]; simp), am]
  simp only [ah, aq, List.drop_replicate]
  rw [show n - k - (k + (0 + 1) - k) = n - (k + 1) by omega]
theorem rn (L0 : List AO) (S I : TypeId) {n k : Nat} (xs : List (List Int)) (h : k < n) : (eF L0 S I n k xs).set L0.length (.rowc S 1 0 (ba (ci (L0.length + 1) k ++ List.replicate (n - k) .nils) k [.row (L0.length + 1 + k) 0])) = eF L0 S I n (k + 1) xs := by
  unfold eF; rw [pG h, List.set_append]; simp
/-plain-/
structure RS where
  nm : Bs
  ins : List Bs
  outs : List Bs
  inp : Int
  st : Int
  nx : List (List Int)
  ot : List (List Int)
  sts : List Bs
  rd : Nat
  lf : Int
  tb : Bool
def rs0 : RS := ⟨[], [], [], 0, 0, [], [], [], 0, 0, false⟩
def rdC (r : RS) (a b : AC) : List AC := [.str r.nm, .list .str r.ins, .list .str r.outs, .int .i64 r.inp, .int .i64 r.st, a, b, .list .str r.sts, .int .i64 (r.rd : Int), .int .i64 r.lf]
def rdT (S I : TypeId) (r : RS) : List AO := if r.tb = true then cX S I 1 r.nx ++ cX S I (2 + r.nx.length) r.ot else []
def rdA (r : RS) : AC := if r.tb = true then .rwc 1 0 else .nils
def rdB (r : RS) : AC := if r.tb = true then .rwc (2 + r.nx.length) 0 else .nils
def SH (R S I : TypeId) (r : RS) : List AO := .vars R (rdC r (rdA r) (rdB r)) :: rdT S I r
def ff (n : Nat) (L1 : List AO) : List (Nat × AO) := (List.range n).map fun k => (k, L1.getD k (.dead 0))
theorem iA : ∀ (n : Nat) {L0 L1 : List AO}, n ≤ L0.length → n ≤ L1.length → bq L0 (ff n L1) = L1.take n ++ L0.drop n
  | 0, L0, L1, _, _ => by simp [ff, bq]
  | n + 1, L0, L1, h0, h1 => by
    have ih := iA n (L0 := L0) (L1 := L1) (by omega) (by omega)
    have e : ff (n + 1) L1 = ff n L1 ++ [(n, L1.getD n (.dead 0))] := by unfold ff; rw [List.range_succ, List.map_append]; rfl
    rw [e, iU, ih, List.set_append, if_neg (by rw [List.length_take]; omega)]
    have e1 : L1.getD n (.dead 0) = L1[n] := by simp [List.getD, List.getElem?_eq_getElem (show n < L1.length by omega)]
    have e2 : L1.take (n + 1) = L1.take n ++ [L1[n]] := by rw [List.take_add_one, List.getElem?_eq_getElem (show n < L1.length by omega)]; rfl
    rw [e1, e2, List.length_take, Nat.min_eq_left (by omega), Nat.sub_self, List.drop_eq_getElem_cons (show n < L0.length by omega), bH, List.append_assoc]; rfl
theorem aF {L0 L1 : List AO} (h : L0.length ≤ L1.length) : bq L0 (ff L0.length L1) ++ L1.drop L0.length = L1 := by
  rw [iA _ (Nat.le_refl _) h, List.drop_length, List.append_nil, List.take_append_drop]
def kwd (i : Nat) : Bs := [[109, 97, 99, 104, 105, 110, 101], [105, 110, 112, 117, 116, 115], [111, 117, 116, 112, 117, 116, 115], [115, 116, 97, 116, 101, 115], [115, 116, 97, 114, 116]].getD i []
def ixB (l : List Bs) (x : Bs) : Int := if x ∈ l then (pos l x : Int) else -1
def dm (l : List Bs) : Int := if l.length = 0 then 19 else if 128 < l.length then 11 else ca (nmE l) l.length
def fJ (n : Nat) (k : Nat) : List (List Int) := List.replicate n (List.replicate k (-1))
def gQ (r : RS) (l : List Bs) : RS := { r with sts := l, lf := l.length * r.ins.length, inp := r.ins.length, st := 0, nx := fJ l.length r.ins.length, ot := fJ l.length r.ins.length, tb := true }
def iL (r : RS) (l : List Bs) : RS × Int := if dm l = 0 then (gQ r l, 0) else (r, dm l)
def bc (r : RS) (w : List Bs) : RS × Int :=
  if ¬ w.getD 0 [] = kwd r.rd ∨ ((r.rd = 0 ∨ r.rd = 4) ∧ ¬ w.length = 2) then (r, 5)
  else if r.rd = 0 then ({ r with nm := w.getD 1 [] }, if aZ (w.getD 1 []) = true then 0 else 9)
  else if r.rd = 1 then ({ r with ins := w.drop 1 }, alE (w.drop 1))
  else if r.rd = 2 then ({ r with outs := w.drop 1 }, alE (w.drop 1))
  else if r.rd = 3 then iL r (w.drop 1)
  else ({ r with st := ixB r.sts (w.getD 1 []) }, if ixB r.sts (w.getD 1 []) < 0 then 8 else 0)
def fL (r : RS) (s a : Nat) (t o : Int) : RS := { r with nx := r.nx.set s ((r.nx.getD s []).set a t), ot := r.ot.set s ((r.ot.getD s []).set a o), lf := r.lf - 1 }
def bK (r : RS) (w : List Bs) : RS × Int :=
  if ¬ w.length = 4 then (r, 5)
  else if w.getD 0 [] ∉ r.sts ∨ w.getD 3 [] ∉ r.sts ∨ w.getD 1 [] ∉ r.ins ∨ w.getD 2 [] ∉ r.outs then (r, 8)
  else if 0 ≤ (r.nx.getD (pos r.sts (w.getD 0 [])) []).getD (pos r.ins (w.getD 1 [])) 0 then (r, 7)
  else (fL r (pos r.sts (w.getD 0 [])) (pos r.ins (w.getD 1 [])) (pos r.sts (w.getD 3 [])) (pos r.outs (w.getD 2 [])), 0)
def f0 (r : RS) (w : List Bs) : RS × Int := if r.rd < 5 then bc r w else bK r w
def cv (p : RS × Int) : RS × Int := ({ p.1 with rd := p.1.rd + 1 }, p.2)
def aS (r : RS) (s : Bs) : RS × Int :=
  if du s [10] = false then (r, 5)
  else if s.take (s.length - 1) = [] ∨ (s.take (s.length - 1)).getD 0 0 = 35 then (r, 0)
  else if [] ∈ spB 32 (s.take (s.length - 1)) then (r, 5)
  else cv (f0 r (spB 32 (s.take (s.length - 1))))
theorem kC {l : List Bs} (h : l.length = 0) : dm l = 19 := if_pos h
theorem fP {l : List Bs} (h : ¬ l.length = 0) (h2 : 128 < l.length) : dm l = 11 := by unfold dm; rw [if_neg h, if_pos h2]
theorem lL {l : List Bs} (h : ¬ l.length = 0) (h2 : ¬ 128 < l.length) {k : Nat} (hk : k < l.length) (hq : ∀ q, q < k → nmE l q = 0) (hb : aZ (l.getD k []) = false) : dm l = 9 := by
  have e : nmE l k = 9 := if_pos hb
  unfold dm; rw [if_neg h, if_neg h2, bh hq hk (by rw [e]; decide), e]
theorem la {l : List Bs} (h : ¬ l.length = 0) (h2 : ¬ 128 < l.length) {k : Nat} (hk : k < l.length) (hq : ∀ q, q < k → nmE l q = 0) (hb : aZ (l.getD k []) = true) (hi : l.getD k [] ∈ l.take k) : dm l = 7 := by
  have e : nmE l k = 7 := by unfold nmE; rw [if_neg (by rw [hb]; decide), if_pos hi]
  unfold dm; rw [if_neg h, if_neg h2, bh hq hk (by rw [e]; decide), e]
theorem gn {l : List Bs} (h : ¬ l.length = 0) (h2 : ¬ 128 < l.length) (hq : ∀ q, q < l.length → nmE l q = 0) : dm l = 0 := by
  unfold dm; rw [if_neg h, if_neg h2, bQ hq]
def im (R S I : TypeId) (r : RS) (a b : AC) (U : List AO) (l : List Bs) : List AO :=
  if dm l = 0 then .vars R (rdC (gQ r l) (.rwc (U.length + 1) 0) (.rwc (U.length + 2 + l.length) 0)) :: (U ++ cX S I (U.length + 1) (fJ l.length r.ins.length) ++ cX S I (U.length + 2 + l.length) (fJ l.length r.ins.length))
  else .vars R (rdC r a b) :: U
theorem br {R S I : TypeId} {r : RS} {a b : AC} {U : List AO} {l : List Bs} {e : Int} (he : dm l = e) (h0 : ¬ e = 0) : im R S I r a b U l = .vars R (rdC r a b) :: U := if_neg (by rw [he]; exact h0)
theorem fd {R S I : TypeId} {r : RS} {a b : AC} {U : List AO} {l : List Bs} (he : dm l = 0) : im R S I r a b U l = .vars R (rdC (gQ r l) (.rwc (U.length + 1) 0) (.rwc (U.length + 2 + l.length) 0)) :: (U ++ cX S I (U.length + 1) (fJ l.length r.ins.length) ++ cX S I (U.length + 2 + l.length) (fJ l.length r.ins.length)) := if_pos he
theorem c0 {R S I : TypeId} {r : RS} {a b : AC} {U : List AO} {l : List Bs} {x : AO} : (x :: U).length ≤ (im R S I r a b U l).length := by
  unfold im
  split
  · simp only [ah, ag]; omega
  · exact Nat.le_refl _
theorem et (S I : TypeId) (b : Nat) (xs : List (List Int)) : (cX S I b xs).length = xs.length + 1 := by unfold cX; simp [cr]
theorem jp (n k : Nat) : (fJ n k).length = n := by unfold fJ; simp
def eZ (R S I : TypeId) (r : RS) (a b : AC) (U : List AO) (w : List Bs) : List AO :=
  if r.rd = 3 ∧ w.getD 0 [] = kwd 3 then im R S I r a b U (w.drop 1) else .vars R (rdC (bc r w).1 a b) :: U
theorem jg {R S I : TypeId} {r : RS} {a b : AC} {U : List AO} {w : List Bs} (h : ¬ (r.rd = 3 ∧ w.getD 0 [] = kwd 3)) : eZ R S I r a b U w = .vars R (rdC (bc r w).1 a b) :: U := if_neg h
theorem oo {R S I : TypeId} {r : RS} {a b : AC} {U : List AO} {w : List Bs} (h : r.rd = 3 ∧ w.getD 0 [] = kwd 3) : eZ R S I r a b U w = im R S I r a b U (w.drop 1) := if_pos h
theorem cF {R S I : TypeId} {r : RS} {a b : AC} {U : List AO} {w : List Bs} {x : AO} : (x :: U).length ≤ (eZ R S I r a b U w).length := by
  unfold eZ
  split
  · exact c0
  · exact Nat.le_refl _
theorem jM {R S I : TypeId} {r : RS} {a b : AC} {U : List AO} {w : List Bs} (h : ¬ w.getD 0 [] = kwd r.rd ∨ ((r.rd : Int) = 0 ∨ (r.rd : Int) = 4) ∧ ¬ (w.length : Int) = 2) : (bc r w).2 = 5 ∧ eZ R S I r a b U w = .vars R (rdC r a b) :: U := by
  have e : bc r w = (r, 5) := if_pos (by rcases h with h | ⟨h1, h2⟩; exact .inl h; exact .inr ⟨by omega, by omega⟩)
  refine ⟨by rw [e], ?_⟩
  rw [jg, e]
  rintro ⟨q1, q2⟩
  rcases h with h | h
  · exact h (by rw [q1]; exact q2)
  · omega
theorem dw {r : RS} {w : List Bs} (h : w.getD 0 [] = kwd r.rd ∧ (¬ (r.rd : Int) = 0 ∧ ¬ (r.rd : Int) = 4 ∨ (w.length : Int) = 2)) : bc r w = if r.rd = 0 then ({ r with nm := w.getD 1 [] }, if aZ (w.getD 1 []) = true then 0 else 9)
  else if r.rd = 1 then ({ r with ins := w.drop 1 }, alE (w.drop 1))
  else if r.rd = 2 then ({ r with outs := w.drop 1 }, alE (w.drop 1))
  else if r.rd = 3 then iL r (w.drop 1)
  else ({ r with st := ixB r.sts (w.getD 1 []) }, if ixB r.sts (w.getD 1 []) < 0 then 8 else 0) := by
  unfold bc
  rw [if_neg]
  rintro (q | q)
  · exact q h.1
  · omega
theorem fS {R S I : TypeId} {r r' : RS} {a b : AC} {U : List AO} {w : List Bs} {e : Int} (h3 : ¬ r.rd = 3) (h : bc r w = (r', e)) : (bc r w).2 = e ∧ eZ R S I r a b U w = .vars R (rdC r' a b) :: U := by
  refine ⟨by rw [h], ?_⟩
  rw [jg (fun q => h3 q.1), h]
theorem jE {R S I : TypeId} {r : RS} {a b : AC} {U : List AO} {w : List Bs} (h : w.getD 0 [] = kwd r.rd ∧ (¬ (r.rd : Int) = 0 ∧ ¬ (r.rd : Int) = 4 ∨ (w.length : Int) = 2)) (h3 : r.rd = 3) : (bc r w).2 = dm (w.drop 1) ∧ eZ R S I r a b U w = im R S I r a b U (w.drop 1) := by
  refine ⟨?_, oo ⟨h3, by rw [← h3]; exact h.1⟩⟩
  rw [dw h, if_neg (by omega), if_neg (by omega), if_neg (by omega), if_pos h3]
  unfold iL
  split
  · rename_i e; exact e.symm
  · rfl
def RT (R S I : TypeId) (r : RS) : List AO := .vars R (rdC r (.rwc 1 0) (.rwc (2 + r.nx.length) 0)) :: (cX S I 1 r.nx ++ cX S I (2 + r.nx.length) r.ot)
theorem ky {I : TypeId} {xs : List (List Int)} {s : Nat} (h : s < xs.length) : (eH I xs)[s]? = some (.row (.int .i64) I 0 (xs.getD s [])) := by unfold eH; simp [List.getD, List.getElem?_eq_getElem h]
theorem lH {I : TypeId} {xs : List (List Int)} {s : Nat} (x : List Int) : (eH I xs).set s (.row (.int .i64) I 0 x) = eH I (xs.set s x) := by unfold eH; rw [List.map_set]
theorem lv {b n s : Nat} (h : s < n) : (ci b n).getD s .junk = .row (b + s) 0 := by unfold ci; simp [List.getD, h]
theorem pX (R S I : TypeId) (r : RS) : (RT R S I r).length = 3 + r.nx.length + r.ot.length := by unfold RT; simp only [ah, ag, et]; omega
theorem eK (R S I : TypeId) (r : RS) : (RT R S I r)[0]? = some (.vars R (rdC r (.rwc 1 0) (.rwc (2 + r.nx.length) 0))) := rfl
theorem qe (R S I : TypeId) (r : RS) : (RT R S I r)[1]? = some (.rowc S 1 0 (ci 2 r.nx.length)) := rfl
theorem um {R S I : TypeId} {r : RS} {s : Nat} (h : s < r.nx.length) : (RT R S I r)[2 + s]? = some (.row (.int .i64) I 0 (r.nx.getD s [])) := by
  unfold RT cX
  rw [show 2 + s = (s + 1) + 1 by omega, List.getElem?_cons_succ, ak, List.getElem?_cons_succ, List.getElem?_append_left (by rw [cr]; exact h)]
  exact ky h
theorem su (R S I : TypeId) (r : RS) : (RT R S I r)[2 + r.nx.length]? = some (.rowc S 1 0 (ci (3 + r.nx.length) r.ot.length)) := by
  unfold RT cX
  rw [show 2 + r.nx.length = (r.nx.length + 1) + 1 by omega, List.getElem?_cons_succ, ak, List.getElem?_cons_succ, List.getElem?_append_right (by rw [cr]; exact Nat.le_refl _), cr, Nat.sub_self]
  rw [show r.nx.length + 1 + 1 + 1 = 3 + r.nx.length by omega]; rfl
theorem ug {R S I : TypeId} {r : RS} {s : Nat} (h : s < r.ot.length) : (RT R S I r)[3 + r.nx.length + s]? = some (.row (.int .i64) I 0 (r.ot.getD s [])) := by
  unfold RT cX
  rw [show 3 + r.nx.length + s = (r.nx.length + (s + 1)) + 1 + 1 by omega, List.getElem?_cons_succ, ak, List.getElem?_cons_succ, List.getElem?_append_right (by rw [cr]; omega), cr, show r.nx.length + (s + 1) - r.nx.length = s + 1 by omega, List.getElem?_cons_succ]
  exact ky h
theorem uB {R S I : TypeId} {r : RS} {s : Nat} (h : s < r.nx.length) (x : List Int) : (RT R S I r).set (2 + s) (.row (.int .i64) I 0 x) = RT R S I { r with nx := r.nx.set s x } := by
  unfold RT cX
  rw [show 2 + s = (s + 1) + 1 by omega, b0, ak, b0, List.set_append, if_pos (by rw [cr]; exact h), lH]
  simp only [List.length_set]; rfl
theorem uA {R S I : TypeId} {r : RS} {s : Nat} (h : s < r.ot.length) (x : List Int) : (RT R S I r).set (3 + r.nx.length + s) (.row (.int .i64) I 0 x) = RT R S I { r with ot := r.ot.set s x } := by
  unfold RT cX
  rw [show 3 + r.nx.length + s = (r.nx.length + (s + 1)) + 1 + 1 by omega, b0, ak, b0, List.set_append, if_neg (by rw [cr]; omega), cr, show r.nx.length + (s + 1) - r.nx.length = s + 1 by omega, b0, lH]
  simp only [List.length_set]; rfl
theorem uD {R S I : TypeId} {r : RS} (x : Int) : (RT R S I r).set 0 (.vars R [.str r.nm, .list .str r.ins, .list .str r.outs, .int .i64 r.inp, .int .i64 r.st, .rwc 1 0, .rwc (2 + r.nx.length) 0, .list .str r.sts, .int .i64 (r.rd : Int), .int .i64 x]) = RT R S I { r with lf := x } := rfl
structure ROK (r : RS) : Prop where
  nl : r.nx.length = r.sts.length
  ol : r.ot.length = r.sts.length
  n2 : r.sts.length ≤ 128
  i1 : 1 ≤ r.ins.length
  i2 : r.ins.length ≤ 64
  rl : ∀ s, s < r.sts.length → (r.nx.getD s []).length = r.ins.length
  ql : ∀ s, s < r.sts.length → (r.ot.getD s []).length = r.ins.length
  l0 : -2000000 ≤ r.lf
  l1 : r.lf ≤ 1000000
theorem tt {s1 s2 i1 o1 : List Bs} {a b c d : Bs} {x y : Int} (h : ((0 ≤ (if a ∈ s1 then x else -1) ∧ 0 ≤ (if b ∈ s2 then y else -1)) ∧ c ∈ i1) ∧ d ∈ o1) : a ∈ s1 ∧ b ∈ s2 ∧ c ∈ i1 ∧ d ∈ o1 := by
  obtain ⟨⟨⟨h1, h2⟩, h3⟩, h4⟩ := h
  refine ⟨?_, ?_, h3, h4⟩
  · split at h1
    · assumption
    · omega
  · split at h2
    · assumption
    · omega
theorem iK {s1 s2 i1 o1 : List Bs} {a b c d : Bs} {x y : Nat} (h : (((if a ∈ s1 then (x : Int) else -1) < 0 ∨ (if b ∈ s2 then (y : Int) else -1) < 0) ∨ ¬ c ∈ i1) ∨ ¬ d ∈ o1) : a ∉ s1 ∨ b ∉ s2 ∨ c ∉ i1 ∨ d ∉ o1 := by
  rcases h with ((h | h) | h) | h
  · split at h
    · omega
    · exact .inl (by assumption)
  · split at h
    · omega
    · exact .inr (.inl (by assumption))
  · exact .inr (.inr (.inl h))
  · exact .inr (.inr (.inr h))
theorem nk {r : RS} {w : List Bs} (h : ¬ (w.length : Int) = 4) : bK r w = (r, 5) := if_pos (by omega)
theorem nf {r : RS} {w : List Bs} (h : (w.length : Int) = 4) (h2 : w.getD 0 [] ∉ r.sts ∨ w.getD 3 [] ∉ r.sts ∨ w.getD 1 [] ∉ r.ins ∨ w.getD 2 [] ∉ r.outs) : bK r w = (r, 8) := by unfold bK; rw [if_neg (by omega), if_pos h2]
theorem nt {r : RS} {w : List Bs} (h : (w.length : Int) = 4) (h0 : w.getD 0 [] ∈ r.sts) (h3 : w.getD 3 [] ∈ r.sts) (h1 : w.getD 1 [] ∈ r.ins) (h2 : w.getD 2 [] ∈ r.outs) (h4 : 0 ≤ (r.nx.getD (pos r.sts (w.getD 0 [])) []).getD (pos r.ins (w.getD 1 [])) 0) : bK r w = (r, 7) := by
  unfold bK; rw [if_neg (by omega), if_neg (by rintro (q | q | q | q) <;> exact q (by assumption)), if_pos h4]
theorem kV {r : RS} {w : List Bs} (h : (w.length : Int) = 4) (h0 : w.getD 0 [] ∈ r.sts) (h3 : w.getD 3 [] ∈ r.sts) (h1 : w.getD 1 [] ∈ r.ins) (h2 : w.getD 2 [] ∈ r.outs) (h4 : ¬ 0 ≤ (r.nx.getD (pos r.sts (w.getD 0 [])) []).getD (pos r.ins (w.getD 1 [])) 0) :
    bK r w = (fL r (pos r.sts (w.getD 0 [])) (pos r.ins (w.getD 1 [])) (pos r.sts (w.getD 3 [])) (pos r.outs (w.getD 2 [])), 0) := by
  unfold bK; rw [if_neg (by omega), if_neg (by rintro (q | q | q | q) <;> exact q (by assumption)), if_neg h4]
theorem iw (R S I : TypeId) (r : RS) (w : List Bs) : (RT R S I r).length ≤ (RT R S I (bK r w).1).length := by
  rw [pX, pX]
  unfold bK fL
  split
  · exact Nat.le_refl _
  · split
    · exact Nat.le_refl _
    · split
      · exact Nat.le_refl _
      · simp
theorem mP (R S I : TypeId) (r : RS) : (SH R S I r)[0]? = some (.vars R (rdC r (rdA r) (rdB r))) := rfl
theorem si (R S I : TypeId) (r : RS) : (SH R S I r).set 0 (.vars R [.str r.nm, .list .str r.ins, .list .str r.outs, .int .i64 r.inp, .int .i64 r.st, rdA r, rdB r, .list .str r.sts, .int .i64 ((r.rd : Int) + 1), .int .i64 r.lf]) = SH R S I { r with rd := r.rd + 1 } := rfl
theorem eJ {R S I : TypeId} {r : RS} (h : r.tb = true) : SH R S I r = RT R S I r := by unfold SH RT rdA rdB rdT; rw [if_pos h, if_pos h, if_pos h]
theorem r9 {r : RS} {w : List Bs} (h : ¬ (r.rd = 3 ∧ w.getD 0 [] = kwd 3)) : (bc r w).1.tb = r.tb ∧ (bc r w).1.nx = r.nx ∧ (bc r w).1.ot = r.ot := by
  unfold bc
  split
  · exact ⟨rfl, rfl, rfl⟩
  · rename_i h1
    split
    · exact ⟨rfl, rfl, rfl⟩
    · split
      · exact ⟨rfl, rfl, rfl⟩
      · split
        · exact ⟨rfl, rfl, rfl⟩
        · split
          · rename_i h3
            exfalso
            refine h ⟨h3, ?_⟩
            rw [← h3]
            exact Decidable.byContradiction fun q => h1 (.inl q)
          · exact ⟨rfl, rfl, rfl⟩
theorem mG {R S I : TypeId} {r : RS} {w : List Bs} (h3 : r.rd = 3 → r.tb = false) : eZ R S I r (rdA r) (rdB r) (rdT S I r) w = SH R S I (bc r w).1 := by
  by_cases h : r.rd = 3 ∧ w.getD 0 [] = kwd 3
  · rw [oo h]
    have e : bc r w = iL r (w.drop 1) := by
      unfold bc
      rw [if_neg (by rintro (q | q); exact q (by rw [h.1]; exact h.2); omega), if_neg (by omega), if_neg (by omega), if_neg (by omega), if_pos h.1]
    have ht := h3 h.1
    have hT : rdT S I r = [] := by unfold rdT; rw [ht]; rfl
    have hA : rdA r = .nils := by unfold rdA; rw [ht]; rfl
    rw [e, hT]
    unfold iL
    by_cases h0 : dm (w.drop 1) = 0
    · rw [if_pos h0, fd h0]
      rw [eJ (show (gQ r (w.drop 1)).tb = true from rfl)]
      unfold RT
      simp only [am, aq, Nat.zero_add]
      rw [show (gQ r (w.drop 1)).nx.length = (w.drop 1).length by unfold gQ; simp [jp]]
      rfl
    · rw [if_neg h0, br rfl h0]
      unfold SH
      rw [hT]
  · rw [jg h]
    obtain ⟨h1, h2, h4⟩ := r9 h
    unfold SH rdA rdB rdT
    rw [h1, h2, h4]
theorem nX {r : RS} {w : List Bs} : (bK r w).1.tb = r.tb := by
  unfold bK fL
  split
  · rfl
  · split
    · rfl
    · split <;> rfl
structure LOK (r : RS) : Prop where
  h3 : r.rd = 3 → r.tb = false ∧ 1 ≤ r.ins.length ∧ r.ins.length ≤ 64
  h5 : 5 ≤ r.rd → r.tb = true ∧ ROK r ∧ r.outs.length ≤ 1000000
  rl : r.rd ≤ 2000000
theorem qt {R S I : TypeId} {r : RS} (h : r.rd = 3 → r.tb = false) (w : List Bs) : (SH R S I r).length ≤ (SH R S I (bc r w).1).length := by rw [← mG h]; exact cF
theorem qc {R S I : TypeId} {r : RS} (h : r.tb = true) (w : List Bs) : (SH R S I r).length ≤ (SH R S I (bK r w).1).length := by rw [eJ h, eJ (nX.trans h)]; exact iw ..
theorem sS {s : Bs} {k : Nat} : ((s.getD k 0).toNat : Int) = 35 ↔ s.getD k 0 = 35 := by
  constructor
  · intro h
    apply UInt8.toNat_inj.1
    have e : ((35 : UInt8).toNat : Int) = 35 := by decide
    omega
  · intro h; rw [h]; decide
theorem mH {r : RS} {w : List Bs} : (bc r w).1.rd = r.rd := by
  unfold bc iL gQ
  repeat' split
  all_goals rfl
theorem o6 {r : RS} {w : List Bs} : (bK r w).1.rd = r.rd := by
  unfold bK fL
  repeat' split
  all_goals rfl
theorem fQ {r : RS} {s : Bs} (h : du s [10] = false) : aS r s = (r, 5) := if_pos h
theorem iY {r : RS} {s : Bs} (h : du s [10] = true) (h2 : s.take (s.length - 1) = [] ∨ (((s.take (s.length - 1)).getD 0 0).toNat : Int) = 35) : aS r s = (r, 0) := by
  unfold aS
  rw [if_neg (by rw [h]; decide), if_pos]
  rcases h2 with h2 | h2
  · exact .inl h2
  · exact .inr (sS.1 h2)
theorem lj {r : RS} {s : Bs} (h : du s [10] = true) (h2 : ¬ s.take (s.length - 1) = [] ∧ ¬ (((s.take (s.length - 1)).getD 0 0).toNat : Int) = 35) : aS r s = if [] ∈ spB 32 (s.take (s.length - 1)) then (r, 5) else cv (f0 r (spB 32 (s.take (s.length - 1)))) := by
  unfold aS
  rw [if_neg (by rw [h]; decide), if_neg]
  rintro (q | q)
  · exact h2.1 q
  · exact h2.2 (sS.2 q)
theorem gm {r : RS} {s : Bs} (h : du s [10] = true) (h2 : ¬ s.take (s.length - 1) = [] ∧ ¬ (((s.take (s.length - 1)).getD 0 0).toNat : Int) = 35) (h3 : [] ∈ spB 32 (s.take (s.length - 1))) : aS r s = (r, 5) := by rw [lj h h2, if_pos h3]
theorem iW {r : RS} {s : Bs} (h : du s [10] = true) (h2 : ¬ s.take (s.length - 1) = [] ∧ ¬ (((s.take (s.length - 1)).getD 0 0).toNat : Int) = 35) (h3 : ¬ [] ∈ spB 32 (s.take (s.length - 1))) (h4 : (r.rd : Int) < 5) : aS r s = ({ (bc r (spB 32 (s.take (s.length - 1)))).1 with rd := (bc r (spB 32 (s.take (s.length - 1)))).1.rd + 1 }, (bc r (spB 32 (s.take (s.length - 1)))).2) := by
  rw [lj h h2, if_neg h3]; unfold cv f0; rw [if_pos (by omega)]
theorem ik {r : RS} {s : Bs} (h : du s [10] = true) (h2 : ¬ s.take (s.length - 1) = [] ∧ ¬ (((s.take (s.length - 1)).getD 0 0).toNat : Int) = 35) (h3 : ¬ [] ∈ spB 32 (s.take (s.length - 1))) (h4 : 5 ≤ (r.rd : Int)) : aS r s = ({ (bK r (spB 32 (s.take (s.length - 1)))).1 with rd := (bK r (spB 32 (s.take (s.length - 1)))).1.rd + 1 }, (bK r (spB 32 (s.take (s.length - 1)))).2) := by
  rw [lj h h2, if_neg h3]; unfold cv f0; rw [if_neg (by omega)]
theorem uu {R S I : TypeId} {r : RS} (h : LOK r) (s : Bs) : (SH R S I r).length ≤ (SH R S I (aS r s).1).length := by
  unfold aS
  split
  · exact Nat.le_refl _
  · split
    · exact Nat.le_refl _
    · split
      · exact Nat.le_refl _
      · unfold cv f0
        split
        · exact qt (fun e => (h.h3 e).1) _
        · exact qc (h.h5 (by omega)).1 _
/-plain-/
def jU : Mdl := ⟨[], [], [], ⟨0, 0, [], []⟩⟩
def sn (r : RS) : Mdl := ⟨r.nm, r.ins, r.outs, ⟨r.inp, r.st, r.nx, r.ot⟩⟩
def dv (k : Nat) (r : RS) : Mdl × Int × Int := if r.rd < 5 ∨ 0 < r.lf then (jU, (k : Int) + 1, 12) else (sn r, 0, 0)
def PL : List Bs → Nat → RS → Mdl × Int × Int
  | [], k, r => dv k r
  | l :: ls, k, r => if (aS r l).2 = 0 then PL ls (k + 1) (aS r l).1 else (jU, (k : Int) + 1, (aS r l).2)
def gV : Nat → Bs → List Bs
  | 0, _ => []
  | f + 1, s => if s = [] then [] else s.take (lnE s) :: gV f (s.drop (lnE s))
def lns (s : Bs) : List Bs := gV s.length s
theorem rC : ∀ f, gV f [] = []
  | 0 => rfl
  | f + 1 => if_pos rfl
theorem hM : ∀ (f : Nat) (s : Bs), s.length ≤ f → gV f s = gV s.length s
  | 0, s, h => by
    obtain rfl : s = [] := List.eq_nil_of_length_eq_zero (by omega)
    rfl
  | f + 1, s, h => by
    by_cases e : s = []
    · subst e; rw [rC]; rfl
    · have hp := lP e
      have hl := List.length_pos_iff.2 e
      obtain ⟨m, hm⟩ : ∃ m, s.length = m + 1 := ⟨s.length - 1, by omega⟩
      rw [hm]
      show (if s = [] then [] else s.take (lnE s) :: gV f (s.drop (lnE s))) = (if s = [] then [] else s.take (lnE s) :: gV m (s.drop (lnE s)))
      rw [if_neg e, if_neg e, hM f (s.drop (lnE s)) (by rw [List.length_drop]; omega)]
      rw [hM m (s.drop (lnE s)) (by rw [List.length_drop]; omega)]
 termination_by f => f
theorem jn {s : Bs} (e : s ≠ []) : lns s = s.take (lnE s) :: lns (s.drop (lnE s)) := by
  have hp := lP e
  have hl := List.length_pos_iff.2 e
  obtain ⟨m, hm⟩ : ∃ m, s.length = m + 1 := ⟨s.length - 1, by omega⟩
  unfold lns
  rw [hm]
  show (if s = [] then [] else s.take (lnE s) :: gV m (s.drop (lnE s))) = _
  rw [if_neg e, hM m _ (by rw [List.length_drop]; omega)]
def PM (s : Bs) : Mdl × Int × Int := if 1048576 < s.length then (jU, 0, 3) else PL (lns s) 0 rs0
def bG (s : Bs) : Nat → RS
  | 0 => rs0
  | k + 1 => (aS (bG s k) (bS s k)).1
def OKR (s : Bs) (k : Nat) : Prop := ∀ j, j < k → aN s j ≠ [] ∧ (aS (bG s j) (bS s j)).2 = 0
theorem px {s : Bs} (h0 : ¬ 1048576 < s.length) : ∀ k, OKR s k → PM s = PL (lns (aN s k)) k (bG s k)
  | 0, _ => if_neg h0
  | k + 1, h => by
    rw [px h0 k fun j hj => h j (by omega)]
    obtain ⟨h1, h2⟩ := h k (by omega)
    rw [jn h1]
    show (if (aS (bG s k) (bS s k)).2 = 0 then PL (lns (aN s (k + 1))) (k + 1) (bG s (k + 1)) else _) = _
    rw [if_pos h2]
theorem tR {s : Bs} (h0 : ¬ 1048576 < s.length) {k : Nat} (h : OKR s k) (he : aN s k = []) : PM s = dv k (bG s k) := by rw [px h0 k h, he]; rfl
theorem tV {s : Bs} (h0 : ¬ 1048576 < s.length) {k : Nat} (h : OKR s k) (he : aN s k ≠ []) (h2 : ¬ (aS (bG s k) (bS s k)).2 = 0) : PM s = (jU, (k : Int) + 1, (aS (bG s k) (bS s k)).2) := by
  rw [px h0 k h, jn he]; exact if_neg h2
theorem qY {s : Bs} {k : Nat} (h : OKR s k) (he : aN s k ≠ []) (h2 : (aS (bG s k) (bS s k)).2 = 0) : OKR s (k + 1) := fun j hj => by
  by_cases e : j = k
  · subst e; exact ⟨he, h2⟩
  · exact h j (by omega)
structure RI (r : RS) : Prop where
  t3 : r.rd ≤ 3 → r.tb = false
  t4 : 4 ≤ r.rd → r.tb = true ∧ ROK r
  a1 : 2 ≤ r.rd → alE r.ins = 0
  a2 : 3 ≤ r.rd → alE r.outs = 0
  lf : 4 ≤ r.rd → -(r.rd : Int) ≤ r.lf ∧ r.lf ≤ 8192
theorem uS : RI rs0 := ⟨fun _ => rfl, fun h => by simp [rs0] at h, fun h => by simp [rs0] at h, fun h => by simp [rs0] at h, fun h => by simp [rs0] at h⟩
theorem tC {r : RS} (h : RI r) (hr : r.rd ≤ 1900000) : LOK r := by
  refine ⟨fun e => ⟨h.t3 (by omega), ?_⟩, fun e => ?_, by omega⟩
  · have := iT (h.a1 (by omega)); exact ⟨this.n0, this.n1⟩
  · have := iT (h.a2 (by omega))
    have h4 := h.t4 (by omega)
    exact ⟨h4.1, h4.2, by have := this.n1; omega⟩
theorem sU {r : RS} {l : List Bs} (h : RI r) (h3 : r.rd = 3) (hn : dm l = 0) : RI { gQ r l with rd := r.rd + 1 } := by
  have ha := iT (h.a1 (by omega))
  have hi0 := ha.n0
  have hi1 := ha.n1
  have hl : l.length ≤ 128 := by
    unfold dm at hn
    split at hn
    · omega
    · split at hn
      · omega
      · omega
  have hmu : (l.length : Int) * r.ins.length ≤ 128 * 64 := Int.mul_le_mul (by omega) (by omega) (by omega) (by omega)
  have hm0 : (0 : Int) ≤ (l.length : Int) * r.ins.length := Int.mul_nonneg (by omega) (by omega)
  have hrow : ∀ s, s < l.length → ((fJ l.length r.ins.length).getD s []).length = r.ins.length := fun s hs => by
    unfold fJ; simp [List.getD, hs]
  refine ⟨fun q => by simp only at q; omega, fun _ => ⟨rfl, jp .., jp .., hl, hi0, hi1, hrow, hrow, ?_, ?_⟩, fun _ => h.a1 (by omega), fun _ => h.a2 (by omega), fun _ => ⟨?_, ?_⟩⟩
  · show (-2000000 : Int) ≤ (l.length : Int) * r.ins.length; omega
  · show (l.length : Int) * r.ins.length ≤ 1000000; omega
  · show -((r.rd + 1 : Nat) : Int) ≤ (l.length : Int) * r.ins.length; omega
  · show (l.length : Int) * r.ins.length ≤ 8192; omega
theorem rV {r : RS} {w : List Bs} (h : RI r) (h5 : r.rd < 5) (he : (bc r w).2 = 0) : RI { (bc r w).1 with rd := (bc r w).1.rd + 1 } := by
  unfold bc at he ⊢
  split
  · rename_i q; rw [if_pos q] at he; simp at he
  · rename_i q
    rw [if_neg q] at he
    split
    · rename_i e0
      have := h.t3 (by omega)
      exact ⟨fun _ => this, fun q => by simp only at q; omega, fun q => by simp only at q; omega, fun q => by simp only at q; omega, fun q => by simp only at q; omega⟩
    · rename_i e0
      rw [if_neg e0] at he
      split
      · rename_i e1
        rw [if_pos e1] at he
        have := h.t3 (by omega)
        exact ⟨fun _ => this, fun q => by simp only at q; omega, fun _ => he, fun q => by simp only at q; omega, fun q => by simp only at q; omega⟩
      · rename_i e1
        rw [if_neg e1] at he
        split
        · rename_i e2
          rw [if_pos e2] at he
          have := h.t3 (by omega)
          exact ⟨fun _ => this, fun q => by simp only at q; omega, fun _ => h.a1 (by omega), fun _ => he, fun q => by simp only at q; omega⟩
        · rename_i e2
          rw [if_neg e2] at he
          split
          · rename_i e3
            rw [if_pos e3] at he
            unfold iL at he ⊢
            split
            · rename_i en
              exact sU h e3 en
            · rename_i en; rw [if_neg en] at he; exact absurd he en
          · rename_i e3
            have h4 := h.t4 (by omega)
            have hl := h.lf (by omega)
            refine ⟨fun q => by simp only at q; omega, fun _ => ⟨h4.1, h4.2.nl, h4.2.ol, h4.2.n2, h4.2.i1, h4.2.i2, h4.2.rl, h4.2.ql, h4.2.l0, h4.2.l1⟩, fun _ => h.a1 (by omega), fun _ => h.a2 (by omega), fun _ => ⟨?_, hl.2⟩⟩
            show -((r.rd + 1 : Nat) : Int) ≤ r.lf
            omega
theorem gO {xs : List (List Int)} {s a : Nat} {v : Int} (i : Nat) : ((xs.set s ((xs.getD s []).set a v)).getD i []).length = (xs.getD i []).length := by
  simp only [List.getD, List.getElem?_set]
  split
  · rename_i e; subst e
    split
    · rename_i hlt; simp [List.getElem?_eq_getElem hlt]
    · rename_i hlt; simp [List.getElem?_eq_none (by omega : xs.length ≤ s)]
  · rfl
theorem tY {r : RS} {w : List Bs} (h : RI r) (h5 : 5 ≤ r.rd) (hr : r.rd ≤ 1900000) (he : (bK r w).2 = 0) : RI { (bK r w).1 with rd := (bK r w).1.rd + 1 } := by
  have h4 := h.t4 (by omega)
  have hl := h.lf (by omega)
  have key : ∀ s a t o, RI { fL r s a t o with rd := (fL r s a t o).rd + 1 } := fun s a t o => by
    refine ⟨fun q => by simp only [fL] at q; omega, fun _ => ⟨h4.1, by simp only [fL, List.length_set]; exact h4.2.nl, by simp only [fL, List.length_set]; exact h4.2.ol, h4.2.n2, h4.2.i1, h4.2.i2, fun i hi => ?_, fun i hi => ?_, ?_, ?_⟩, fun _ => h.a1 (by omega), fun _ => h.a2 (by omega), fun _ => ⟨?_, ?_⟩⟩
    · exact (gO i).trans (h4.2.rl i hi)
    · exact (gO i).trans (h4.2.ql i hi)
    · show (-2000000 : Int) ≤ r.lf - 1; omega
    · show r.lf - 1 ≤ 1000000; omega
    · show -((r.rd + 1 : Nat) : Int) ≤ r.lf - 1; omega
    · show r.lf - 1 ≤ 8192; omega
  unfold bK at he ⊢
  split
  · rename_i q; rw [if_pos q] at he; simp at he
  · rename_i q
    rw [if_neg q] at he
    split
    · rename_i q2; rw [if_pos q2] at he; simp at he
    · rename_i q2
      rw [if_neg q2] at he
      split
      · rename_i q3; rw [if_pos q3] at he; simp at he
      · exact key _ _ _ _
theorem sX {r : RS} {s : Bs} (h : RI r) (hr : r.rd ≤ 1900000) (he : (aS r s).2 = 0) : RI (aS r s).1 ∧ (aS r s).1.rd ≤ r.rd + 1 := by
  unfold aS at he ⊢
  split
  · rename_i q; rw [if_pos q] at he; simp at he
  · rename_i q
    rw [if_neg q] at he
    split
    · exact ⟨h, Nat.le_succ _⟩
    · rename_i q2
      rw [if_neg q2] at he
      split
      · rename_i q3; rw [if_pos q3] at he; simp at he
      · rename_i q3
        rw [if_neg q3] at he
        unfold cv f0 at he ⊢
        split
        · rename_i q4
          rw [if_pos q4] at he
          exact ⟨rV h q4 he, by simp only; rw [mH]; exact Nat.le_refl _⟩
        · rename_i q4
          rw [if_neg q4] at he
          exact ⟨tY h (by omega) hr he, by simp only; rw [o6]; exact Nat.le_refl _⟩
theorem kn {s : Bs} (hs : s.length ≤ 1048576) : ∀ {k : Nat}, OKR s k → RI (bG s k) ∧ (bG s k).rd ≤ k ∧ k ≤ s.length
  | 0, _ => ⟨uS, Nat.le_refl _, Nat.zero_le _⟩
  | k + 1, h => by
    obtain ⟨h1, h2, h3⟩ := kn hs (k := k) fun j hj => h j (by omega)
    obtain ⟨h4, h5⟩ := h k (by omega)
    have h6 := gx s k h4
    have h7 := List.length_pos_iff.2 h4
    obtain ⟨g1, g2⟩ := sX h1 (by omega) h5
    exact ⟨g1, by show (aS (bG s k) (bS s k)).1.rd ≤ k + 1; omega, by omega⟩
/-plain-/
/-plain-/
def bf (L : List Bs) : Bs := (L.map (· ++ [10])).flatten
theorem dr (l : Bs) (L : List Bs) : bf (l :: L) = l ++ 10 :: bf L := by unfold bf; simp
theorem ge : ∀ {l : Bs} {L : List Bs}, Lib.join (l :: L) [10] ++ [10] = bf (l :: L)
  | l, [] => by rw [Lib.join_one, dr]; simp [bf]
  | l, m :: L => by rw [dh, dr, ← ge]; simp
theorem uJ {l s : Bs} (h : (10 : UInt8) ∉ l) : Lib.indexByte (l ++ 10 :: s) 10 = l.length := by
  induction l with
  | nil => simp [Lib.indexByte]
  | cons b l ih =>
    simp only [List.mem_cons, not_or] at h
    have := ih h.2
    rw [ak]
    unfold Lib.indexByte
    have e : (b == 10) = false := by simpa using Ne.symm h.1
    rw [e, this]
    have e2 : ((l.length : Int) == -1) = false := beq_eq_false_iff_ne.2 (by omega)
    rw [e2]
    simp
theorem ua {l s : Bs} (h : (10 : UInt8) ∉ l) : lnE (l ++ 10 :: s) = l.length + 1 := by
  unfold lnE; rw [uJ h, if_neg (by omega)]; rfl
theorem mm : ∀ {L : List Bs}, (∀ l, l ∈ L → (10 : UInt8) ∉ l) → lns (bf L) = L.map (· ++ [10])
  | [], _ => rfl
  | l :: L, h => by
    have h1 := h l (by simp)
    rw [dr, jn (by simp), ua h1]
    have e1 : (l ++ 10 :: bf L).take (l.length + 1) = l ++ [10] := by rw [List.take_append, List.take_of_length_le (by omega)]; simp
    have e2 : (l ++ 10 :: bf L).drop (l.length + 1) = bf L := by rw [List.drop_append, List.drop_of_length_le (by omega)]; simp
    rw [e1, e2, mm fun x hx => h x (aC _ hx)]; rfl
def ec (r : RS) (l : Bs) : RS × Int := if l = [] ∨ l.getD 0 0 = 35 then (r, 0) else if [] ∈ spB 32 l then (r, 5) else cv (f0 r (spB 32 l))
theorem pv (r : RS) (l : Bs) : aS r (l ++ [10]) = ec r l := by
  have h1 : du (l ++ [10]) [10] = true := rB.2 (List.suffix_append _ _)
  have h2 : (l ++ [(10 : UInt8)]).take ((l ++ [(10 : UInt8)]).length - 1) = l := by simp
  unfold aS ec
  rw [h1, h2, if_neg (by decide)]
theorem jW {r : RS} {w : Bs} {ws : List Bs} (h : ∀ y, y ∈ w :: ws → (32 : UInt8) ∉ y ∧ y ≠ []) (h35 : w.getD 0 0 ≠ 35) : ec r (Lib.join (w :: ws) [32]) = cv (f0 r (w :: ws)) := by
  have hs := lc (c := 32) (x := w) (r := ws) fun y hy => (h y hy).1
  have hw := (h w (by simp)).2
  obtain ⟨b, w', rfl⟩ : ∃ b w', w = b :: w' := by cases w with
    | nil => exact absurd rfl hw
    | cons b w' => exact ⟨b, w', rfl⟩
  have hj : ∃ t, Lib.join ((b :: w') :: ws) [32] = b :: t := ⟨_, by rw [Lib.join_cons, ak]⟩
  obtain ⟨t, ht⟩ := hj
  unfold ec
  rw [hs, if_neg, if_neg]
  · intro hm; exact (h [] hm).2 rfl
  · rw [ht]; rintro (q | q)
    · cases q
    · exact h35 (by simpa [List.getD] using q)
theorem lp {L : List Bs} (h : ∀ l, l ∈ L → (10 : UInt8) ∉ l) (hs : ¬ 1048576 < (bf L).length) : PM (bf L) = PL (L.map (· ++ [10])) 0 rs0 := by
  unfold PM; rw [if_neg hs, mm h]
theorem eB {L : List Bs} {k : Nat} {r r' : RS} {l : Bs} (h : ec r l = (r', 0)) : PL ((l :: L).map (· ++ [10])) k r = PL (L.map (· ++ [10])) (k + 1) r' := by
  rw [aV]
  show (if (aS r (l ++ [10])).2 = 0 then PL _ (k + 1) (aS r (l ++ [10])).1 else _) = _
  rw [pv, h, if_pos rfl]
theorem eG {s : Bs} (h : aZ s = true) : s ≠ [] := fun e => by have := (dj h).2.1; rw [e] at this; simp at this
theorem sx {c : UInt8} (h : okI (c.toNat : Int)) : c ≠ 32 ∧ c ≠ 10 ∧ c ≠ 35 := by
  unfold okI at h
  refine ⟨fun e => ?_, fun e => ?_, fun e => ?_⟩ <;> (subst e; simp at h)
theorem oV {s : Bs} (h : aZ s = true) : s.getD 0 0 ≠ 35 := by
  cases s with
  | nil => exact absurd rfl (eG h)
  | cons b s => exact (sx ((dj h).1 b (by simp))).2.2
theorem kS {s : Bs} (h : aZ s = true) : (10 : UInt8) ∉ s := fun hm => (sx ((dj h).1 _ hm)).2.1 rfl
theorem kO : ∀ i : Nat, i < 128 → aZ (qn i) = true ∧ ∀ j : Nat, j < i → qn j ≠ qn i := by decide +kernel
theorem dD {i : Nat} (h : i < 128) : aZ (qn i) = true := (kO i h).1
theorem qi {i j : Nat} (hi : i < 128) (hj : j < 128) (e : qn i = qn j) : i = j := by
  rcases Nat.lt_trichotomy i j with h | h | h
  · exact absurd e ((kO j hj).2 i h)
  · exact h
  · exact absurd e.symm ((kO i hi).2 j h)
theorem tB {n : Nat} (h : n ≤ 128) : ∀ i, i < n → nmE (qs n) i = 0 := fun i hi => by
  refine lr ?_ ?_
  · rw [dg hi]; exact dD (by omega)
  · rw [dg hi]
    intro hm
    obtain ⟨j, hj, e⟩ := mQ.1 hm
    rw [List.length_take, cu] at hj
    rw [lK (by omega), dg (by omega)] at e
    have := qi (by omega) (by omega) e
    omega
theorem rP {n : Nat} (h0 : 1 ≤ n) (h : n ≤ 128) : dm (qs n) = 0 := gn (by rw [cu]; omega) (by rw [cu]; omega) (by rw [cu]; exact tB h)
theorem ng {n i : Nat} (h : i < n) : qn i ∈ qs n := by rw [← dg h]; exact dk (by rw [cu]; exact h)
theorem np {n i : Nat} (h : n ≤ 128) (hi : i < n) : pos (qs n) (qn i) = i :=
  (qm (fun j hj e => by rw [dg (by omega)] at e; have := qi (by omega) (by omega) e; omega) (by rw [cu]; exact hi) (dg hi)).1
/-plain-/
def nxD (n k : Nat) (done : List (Nat × Nat)) (m : List (List Int)) : List (List Int) := (List.range n).map fun s => (List.range k).map fun a => if (s, a) ∈ done then (m.getD s []).getD a 0 else -1
theorem sH (n k : Nat) (done : List (Nat × Nat)) (m : List (List Int)) : (nxD n k done m).length = n := by unfold nxD; simp
theorem pc {n k : Nat} {done : List (Nat × Nat)} {m : List (List Int)} {s : Nat} (h : s < n) : (nxD n k done m).getD s [] = (List.range k).map fun a => if (s, a) ∈ done then (m.getD s []).getD a 0 else -1 := by
  unfold nxD; simp [List.getD, h]
theorem uc {n k : Nat} {done : List (Nat × Nat)} {m : List (List Int)} {s a : Nat} (h : s < n) (ha : a < k) : ((nxD n k done m).getD s []).getD a 0 = if (s, a) ∈ done then (m.getD s []).getD a 0 else -1 := by
  rw [pc h]; simp [List.getD, ha]
theorem oG (n k : Nat) (m : List (List Int)) : nxD n k [] m = fJ n k := by
  unfold nxD fJ
  simp only [List.not_mem_nil, if_false]
  rw [show (List.range k).map (fun _ => (-1 : Int)) = List.replicate k (-1) by rw [List.map_const', List.length_range]]
  rw [List.map_const', List.length_range]
theorem o7 {n k : Nat} {done : List (Nat × Nat)} {m : List (List Int)} {s a : Nat} (h : s < n) (ha : a < k) :
    (nxD n k done m).set s (((nxD n k done m).getD s []).set a ((m.getD s []).getD a 0)) = nxD n k (done ++ [(s, a)]) m := by
  rw [pc h]
  apply List.ext_getElem?
  intro i
  rw [List.getElem?_set]
  by_cases hi : s = i
  · subst hi
    rw [if_pos rfl, if_pos (by rw [sH]; exact h)]
    unfold nxD
    rw [List.getElem?_map, List.getElem?_range h, Option.map_some]
    congr 1
    apply List.ext_getElem?
    intro j
    rw [List.getElem?_set]
    by_cases hj : a = j
    · subst hj
      rw [if_pos rfl, if_pos (by simpa using ha), List.getElem?_map, List.getElem?_range ha, Option.map_some, if_pos (by simp)]
    · rw [if_neg hj, List.getElem?_map, List.getElem?_map]
      rcases Nat.lt_or_ge j k with hjk | hjk
      · rw [List.getElem?_range hjk, Option.map_some, Option.map_some]
        congr 1
        have : ((s, j) ∈ done ++ [(s, a)]) ↔ (s, j) ∈ done := by
          rw [List.mem_append, List.mem_singleton]
          exact ⟨fun q => q.elim id fun e => absurd (Prod.mk.inj e).2.symm hj, .inl⟩
        by_cases q : (s, j) ∈ done
        · rw [if_pos q, if_pos (this.2 q)]
        · rw [if_neg q, if_neg fun z => q (this.1 z)]
      · rw [List.getElem?_eq_none (by rw [List.length_range]; exact hjk)]; rfl
  · rw [if_neg hi]
    unfold nxD
    rw [List.getElem?_map, List.getElem?_map]
    rcases Nat.lt_or_ge i n with hin | hin
    · rw [List.getElem?_range hin, Option.map_some, Option.map_some]
      congr 1
      refine List.map_congr_left fun b _ => ?_
      have : ((i, b) ∈ done ++ [(s, a)]) ↔ (i, b) ∈ done := by
        rw [List.mem_append, List.mem_singleton]
        exact ⟨fun q => q.elim id fun e => absurd (Prod.mk.inj e).1.symm hi, .inl⟩
      by_cases q : (i, b) ∈ done
      · rw [if_pos q, if_pos (this.2 q)]
      · rw [if_neg q, if_neg fun z => q (this.1 z)]
    · rw [List.getElem?_eq_none (by rw [List.length_range]; exact hin)]; rfl
def stD (x : Mdl) (done : List (Nat × Nat)) : RS := ⟨x.nm, x.ins, x.outs, x.ins.length, x.m.st, nxD x.m.nx.length x.ins.length done x.m.nx, nxD x.m.nx.length x.ins.length done x.m.ot, qs x.m.nx.length, 5 + done.length, (x.m.nx.length : Int) * x.ins.length - done.length, true⟩
theorem ld (x : Mdl) (s a : Nat) : eO x s a = Lib.join [qn s, x.ins.getD a [], x.outs.getD ((x.m.ot.getD s []).getD a 0).toNat [], qn ((x.m.nx.getD s []).getD a 0).toNat] [32] := by
  unfold eO; rw [dh, dh, dh, Lib.join_one]; simp
theorem ku {xs : List Bs} (h : AOK xs) {y : Bs} (hy : y ∈ xs) : aZ y = true := by
  obtain ⟨j, hj, rfl⟩ := mQ.1 hy
  exact h.nm j hj
theorem qT {x : Mdl} (h : MVO x) {done : List (Nat × Nat)} {s a : Nat} (hs : s < x.m.nx.length) (ha : a < x.ins.length) (hd : (s, a) ∉ done) : ec (stD x done) (eO x s a) = (stD x (done ++ [(s, a)]), 0) := by
  have hm := h.mo
  have hn2 := hm.n2
  have hil := h.il
  have hr := hm.nr s a hs (by omega)
  have ho := hm.or s a hs (by omega)
  have ho2 := h.ol s a hs (by omega)
  obtain ⟨t, ht⟩ : ∃ t : Nat, (x.m.nx.getD s []).getD a 0 = (t : Int) := ⟨((x.m.nx.getD s []).getD a 0).toNat, by omega⟩
  obtain ⟨o, hoo⟩ : ∃ o : Nat, (x.m.ot.getD s []).getD a 0 = (o : Int) := ⟨((x.m.ot.getD s []).getD a 0).toNat, by omega⟩
  have htl : t < x.m.nx.length := by omega
  have hol : o < x.outs.length := by omega
  have n0 := dD (i := s) (by omega)
  have n3 := dD (i := t) (by omega)
  have n1 := h.ai.nm a ha
  have n2 := h.ao.nm o hol
  rw [ld, ht, hoo, aM, aM]
  rw [jW (fun y hy => by
    simp only [List.mem_cons, List.not_mem_nil, or_false] at hy
    rcases hy with rfl | rfl | rfl | rfl
    · exact ⟨dK n0, eG n0⟩
    · exact ⟨dK n1, eG n1⟩
    · exact ⟨dK n2, eG n2⟩
    · exact ⟨dK n3, eG n3⟩) (oV n0)]
  unfold f0
  rw [if_neg (by show ¬ 5 + done.length < 5; omega)]
  have p0 : pos (qs x.m.nx.length) (qn s) = s := np hn2 hs
  have p3 : pos (qs x.m.nx.length) (qn t) = t := np hn2 htl
  have p1 := h.ai.pos ha
  have p2 := h.ao.pos hol
  have hneg : ((nxD x.m.nx.length x.ins.length done x.m.nx).getD s []).getD a 0 = -1 := by rw [uc hs ha, if_neg hd]
  have key := kV (r := stD x done) (w := [qn s, x.ins.getD a [], x.outs.getD o [], qn t]) rfl (ng hs) (ng htl) (dk ha) (dk hol) (by
    show ¬ 0 ≤ ((nxD x.m.nx.length x.ins.length done x.m.nx).getD (pos (qs x.m.nx.length) (qn s)) []).getD (pos x.ins (x.ins.getD a [])) 0
    rw [p0, p1, hneg]; decide)
  rw [key]
  unfold cv
  simp only [Prod.mk.injEq, and_true]
  show ({ fL (stD x done) (pos (qs x.m.nx.length) (qn s)) (pos x.ins (x.ins.getD a [])) (pos (qs x.m.nx.length) (qn t)) (pos x.outs (x.outs.getD o [])) with rd := 5 + done.length + 1 } : RS) = _
  rw [p0, p1, p2, p3]
  unfold fL stD
  simp only [RS.mk.injEq, ag, ah, aq, true_and, and_true]
  refine ⟨?_, ?_, by omega, by omega⟩
  · rw [← ht]; exact o7 hs ha
  · rw [← hoo]; exact o7 hs ha
theorem mM {x : Mdl} (h : MVO x) : ∀ {ps done : List (Nat × Nat)} {k : Nat}, (∀ p, p ∈ ps → p.1 < x.m.nx.length ∧ p.2 < x.ins.length) → (done ++ ps).Nodup →
    PL ((ps.map fun p => eO x p.1 p.2).map (· ++ [10])) k (stD x done) = dv (k + ps.length) (stD x (done ++ ps))
  | [], done, k, _, _ => by rw [List.append_nil]; rfl
  | p :: ps, done, k, hp, hn => by
    obtain ⟨h1, h2⟩ := hp p (by simp)
    have hd : (p.1, p.2) ∉ done := fun hm => by
      have := (List.nodup_append.1 hn).2.2
      exact this p hm p (by simp) rfl
    rw [aV, eB (qT h h1 h2 hd)]
    have e : done ++ [(p.1, p.2)] ++ ps = done ++ p :: ps := by simp
    rw [mM h (fun q hq => hp q (aC _ hq)) (by rw [e]; exact hn), e]
    rw [ah, show k + 1 + ps.length = k + (ps.length + 1) by omega]
def rs1 (x : Mdl) : RS := { rs0 with nm := x.nm, rd := 1 }
def rs2 (x : Mdl) : RS := { rs1 x with ins := x.ins, rd := 2 }
def rs3 (x : Mdl) : RS := { rs2 x with outs := x.outs, rd := 3 }
def rs4 (x : Mdl) : RS := { gQ (rs3 x) (qs x.m.nx.length) with rd := 4 }
theorem mq : ∀ i : Nat, i < 5 → aZ (kwd i) = true := by decide +kernel
theorem gd {r : RS} {i : Nat} (hi : i < 5) (hr : r.rd = i) {ws : List Bs} (h : ∀ y, y ∈ ws → aZ y = true) : ec r (Lib.join (kwd i :: ws) [32]) = cv (bc r (kwd i :: ws)) := by
  have hk := mq i hi
  rw [jW (fun y hy => by
    rcases List.mem_cons.1 hy with rfl | hy
    · exact ⟨dK hk, eG hk⟩
    · exact ⟨dK (h y hy), eG (h y hy)⟩) (oV hk)]
  unfold f0; rw [if_pos (by omega)]
theorem ll {w : Bs} {ws : List Bs} (h : ws ≠ []) : Lib.join (w :: ws) [32] = w ++ [32] ++ Lib.join ws [32] := by
  cases ws with
  | nil => exact absurd rfl h
  | cons y ws => exact dh ..
theorem mz {x : Mdl} (h : MVO x) : hdT x = [Lib.join [kwd 0, x.nm] [32], Lib.join (kwd 1 :: x.ins) [32], Lib.join (kwd 2 :: x.outs) [32], Lib.join (kwd 3 :: qs x.m.nx.length) [32], Lib.join [kwd 4, qn x.m.st.toNat] [32]] := by
  have h1 := h.ai.n0
  have h2 := h.ao.n0
  have h3 := h.mo.n1
  have e : ∀ {l : List Bs}, 1 ≤ l.length → l ≠ [] := fun h e => by rw [e] at h; simp at h
  rw [dh, dh, Lib.join_one, Lib.join_one, ll (e h1), ll (e h2), ll (e (by rw [cu]; exact h3))]
  rfl
theorem qP {x : Mdl} (h : MVO x) {L : List Bs} : PL ((hdT x ++ L).map (· ++ [10])) 0 rs0 = PL (L.map (· ++ [10])) 5 (stD x []) := by
  have hm := h.mo
  have hn1 := hm.n1
  have hn2 := hm.n2
  have hs1 := hm.s1
  have hs2 := hm.s2
  have hsn : x.m.st.toNat < x.m.nx.length := by omega
  rw [mz h]
  simp only [ak, am]
  have l0 : ec rs0 (Lib.join [kwd 0, x.nm] [32]) = (rs1 x, 0) := by
    rw [gd (i := 0) (by decide) rfl (fun y hy => by rw [List.mem_singleton.1 hy]; exact h.nm), dw (r := rs0) (w := [kwd 0, x.nm]) ⟨rfl, .inr rfl⟩, if_pos (show (rs0).rd = 0 from rfl)]
    show cv (_, if aZ x.nm = true then (0 : Int) else 9) = _
    rw [if_pos h.nm]; rfl
  have l1 : ec (rs1 x) (Lib.join (kwd 1 :: x.ins) [32]) = (rs2 x, 0) := by
    rw [gd (i := 1) (by decide) rfl (fun y hy => ku h.ai hy), dw (r := rs1 x) (w := kwd 1 :: x.ins) ⟨rfl, .inl ⟨(by decide : ¬ (1 : Int) = 0), (by decide : ¬ (1 : Int) = 4)⟩⟩, if_neg (show ¬ (rs1 x).rd = 0 from (by decide : ¬ (1 : Nat) = 0)), if_pos (show (rs1 x).rd = 1 from rfl)]
    show cv (_, alE x.ins) = _
    rw [fE (by have := h.ai.n0; omega) (by have := h.ai.n1; omega) fun q hq => lr (h.ai.nm q hq) (h.ai.nw q hq)]; rfl
  have l2 : ec (rs2 x) (Lib.join (kwd 2 :: x.outs) [32]) = (rs3 x, 0) := by
    rw [gd (i := 2) (by decide) rfl (fun y hy => ku h.ao hy), dw (r := rs2 x) (w := kwd 2 :: x.outs) ⟨rfl, .inl ⟨(by decide : ¬ (2 : Int) = 0), (by decide : ¬ (2 : Int) = 4)⟩⟩, if_neg (show ¬ (rs2 x).rd = 0 from (by decide : ¬ (2 : Nat) = 0)), if_neg (show ¬ (rs2 x).rd = 1 from (by decide : ¬ (2 : Nat) = 1)), if_pos (show (rs2 x).rd = 2 from rfl)]
    show cv (_, alE x.outs) = _
    rw [fE (by have := h.ao.n0; omega) (by have := h.ao.n1; omega) fun q hq => lr (h.ao.nm q hq) (h.ao.nw q hq)]; rfl
  have l3 : ec (rs3 x) (Lib.join (kwd 3 :: qs x.m.nx.length) [32]) = (rs4 x, 0) := by
    rw [gd (i := 3) (by decide) rfl (fun y hy => by
      obtain ⟨j, hj, rfl⟩ := mQ.1 hy
      rw [cu] at hj
      rw [dg hj]; exact dD (by omega)), dw (r := rs3 x) (w := kwd 3 :: qs x.m.nx.length) ⟨rfl, .inl ⟨(by decide : ¬ (3 : Int) = 0), (by decide : ¬ (3 : Int) = 4)⟩⟩, if_neg (show ¬ (rs3 x).rd = 0 from (by decide : ¬ (3 : Nat) = 0)), if_neg (show ¬ (rs3 x).rd = 1 from (by decide : ¬ (3 : Nat) = 1)), if_neg (show ¬ (rs3 x).rd = 2 from (by decide : ¬ (3 : Nat) = 2)), if_pos (show (rs3 x).rd = 3 from rfl)]
    show cv (iL (rs3 x) (qs x.m.nx.length)) = _
    unfold iL
    rw [if_pos (rP hn1 hn2)]; rfl
  have l4 : ec (rs4 x) (Lib.join [kwd 4, qn x.m.st.toNat] [32]) = (stD x [], 0) := by
    rw [gd (i := 4) (by decide) rfl (fun y hy => by rw [List.mem_singleton.1 hy]; exact dD (by omega)), dw (r := rs4 x) (w := [kwd 4, qn x.m.st.toNat]) ⟨rfl, .inr rfl⟩, if_neg (show ¬ (rs4 x).rd = 0 from (by decide : ¬ (4 : Nat) = 0)), if_neg (show ¬ (rs4 x).rd = 1 from (by decide : ¬ (4 : Nat) = 1)), if_neg (show ¬ (rs4 x).rd = 2 from (by decide : ¬ (4 : Nat) = 2)), if_neg (show ¬ (rs4 x).rd = 3 from (by decide : ¬ (4 : Nat) = 3))]
    have hix : ixB (qs x.m.nx.length) (qn x.m.st.toNat) = x.m.st := by unfold ixB; rw [if_pos (ng hsn), np hn2 hsn]; omega
    show cv ({ rs4 x with st := ixB (qs x.m.nx.length) (qn x.m.st.toNat) }, if ixB (qs x.m.nx.length) (qn x.m.st.toNat) < 0 then (8 : Int) else 0) = _
    rw [hix, if_neg (by omega)]
    unfold cv stD
    rw [oG, oG]
    simp only [Prod.mk.injEq, and_true]
    unfold rs4 gQ
    simp only [RS.mk.injEq, cu, aq, Nat.add_zero, true_and, and_true]
    refine ⟨rfl, rfl, rfl, rfl, rfl, rfl, ?_⟩
    show ((x.m.nx.length : Int) * x.ins.length) = (x.m.nx.length : Int) * x.ins.length - ((0 : Nat) : Int)
    omega
  rw [eB l0, eB l1, eB l2, eB l3, eB l4]
theorem mW {n k : Nat} {m : List (List Int)} {done : List (Nat × Nat)} (hl : m.length = n) (hr : ∀ s, s < n → (m.getD s []).length = k) (hd : ∀ s a, s < n → a < k → (s, a) ∈ done) : nxD n k done m = m := by
  apply List.ext_getElem?
  intro s
  unfold nxD
  rw [List.getElem?_map]
  rcases Nat.lt_or_ge s n with hs | hs
  · rw [List.getElem?_range hs, Option.map_some, List.getElem?_eq_getElem (by omega)]
    congr 1
    have e : m.getD s [] = m[s] := by simp [List.getD, List.getElem?_eq_getElem (show s < m.length by omega)]
    have hk := hr s hs
    rw [e] at hk ⊢
    apply List.ext_getElem?
    intro a
    rw [List.getElem?_map]
    rcases Nat.lt_or_ge a k with ha | ha
    · rw [List.getElem?_range ha, Option.map_some, if_pos (hd s a hs ha), List.getElem?_eq_getElem (by omega)]
      simp [List.getD, List.getElem?_eq_getElem (show a < m[s].length by omega)]
    · rw [List.getElem?_eq_none (by rw [List.length_range]; exact ha), List.getElem?_eq_none (by omega)]; rfl
  · rw [List.getElem?_eq_none (by rw [List.length_range]; exact hs), List.getElem?_eq_none (by omega)]; rfl
theorem sJ {x : Mdl} (h : MVO x) {ps : List (Nat × Nat)} (hn : ps.Nodup) (hp : ∀ s a, (s, a) ∈ ps ↔ s < x.m.nx.length ∧ a < x.ins.length) (hl : ps.length = x.m.nx.length * x.ins.length)
    (hno : ∀ l, l ∈ hdT x ++ ps.map (fun p => eO x p.1 p.2) → (10 : UInt8) ∉ l) (hs : ¬ 1048576 < (bf (hdT x ++ ps.map fun p => eO x p.1 p.2)).length) : PM (bf (hdT x ++ ps.map fun p => eO x p.1 p.2)) = (x, 0, 0) := by
  have hm := h.mo
  have hil := h.il
  rw [lp hno hs, qP h, mM h (fun p hq => (hp p.1 p.2).1 hq) (by simpa using hn), am]
  unfold dv
  have hlf : (stD x ps).lf = 0 := by
    show (x.m.nx.length : Int) * x.ins.length - ((ps.length : Nat) : Int) = 0
    rw [hl, Int.natCast_mul]; omega
  rw [if_neg (by rw [hlf]; show ¬ (5 + ps.length < 5 ∨ (0 : Int) < 0); omega)]
  have e1 := mW (n := x.m.nx.length) (k := x.ins.length) (m := x.m.nx) (done := ps) rfl (fun s hs => by have := hm.rl s hs; omega) (fun s a hs ha => (hp s a).2 ⟨hs, ha⟩)
  have e2 := mW (n := x.m.nx.length) (k := x.ins.length) (m := x.m.ot) (done := ps) hm.ol (fun s hs => by have := hm.ql s hs; omega) (fun s a hs ha => (hp s a).2 ⟨hs, ha⟩)
  unfold sn stD
  simp only [e1, e2]
  obtain ⟨nm, ins, outs, ⟨inp, st, nx, ot⟩⟩ := x
  have : inp = (ins.length : Int) := hil
  subst this; rfl
/-plain-/
def prs (k : Nat) : Nat → List (Nat × Nat)
  | 0 => []
  | n + 1 => prs k n ++ (List.range k).map fun a => (n, a)
theorem iN {k : Nat} : ∀ {n : Nat} {s a : Nat}, (s, a) ∈ prs k n ↔ s < n ∧ a < k
  | 0, s, a => by simp [prs]
  | n + 1, s, a => by
    rw [prs, List.mem_append, iN, List.mem_map]
    constructor
    · rintro (h | ⟨b, hb, e⟩)
      · omega
      · have := List.mem_range.1 hb
        simp only [Prod.mk.injEq] at e; omega
    · rintro ⟨h1, h2⟩
      by_cases e : s = n
      · exact .inr ⟨a, List.mem_range.2 h2, by rw [e]⟩
      · exact .inl (by omega)
theorem kE {k : Nat} : ∀ n : Nat, (prs k n).Nodup
  | 0 => List.nodup_nil
  | n + 1 => by
    rw [prs, List.nodup_append]
    refine ⟨kE n, ?_, fun p hp q hq e => ?_⟩
    · unfold List.Nodup
      rw [List.pairwise_map]
      exact List.nodup_range.imp fun h e => h (Prod.mk.inj e).2
    · subst e
      obtain ⟨s, a⟩ := p
      have h1 := iN.1 hp
      obtain ⟨b, _, e⟩ := List.mem_map.1 hq
      simp only [Prod.mk.injEq] at e
      omega
theorem ov {k : Nat} : ∀ n : Nat, (prs k n).length = n * k
  | 0 => by simp [prs]
  | n + 1 => by rw [prs, ag, ov n, bV, List.length_range, Nat.add_mul, Nat.one_mul]
theorem md {x : Mdl} (h : MVO x) : ∀ {n : Nat}, n ≤ x.m.nx.length → dG x n = (prs x.ins.length n).map fun p => eO x p.1 p.2
  | 0, _ => rfl
  | n + 1, hn => by
    have hr := h.mo.rl n (by omega)
    have hil := h.il
    rw [i7, md h (by omega), prs, List.map_append, List.map_map]
    congr 1
    unfold eL
    rw [show (x.m.nx.getD n []).length = x.ins.length by omega]; rfl
theorem dM {ws : List Bs} (h : ∀ y, y ∈ ws → aZ y = true) : (10 : UInt8) ∉ Lib.join ws [32] := by
  induction ws with
  | nil => simp [Lib.join_nil]
  | cons w ws ih =>
    cases ws with
    | nil => rw [Lib.join_one]; exact kS (h w (by simp))
    | cons v ws =>
      rw [dh]
      have := ih fun y hy => h y (aC _ hy)
      simp only [List.mem_append, List.mem_singleton, not_or]
      exact ⟨⟨kS (h w (by simp)), by decide⟩, this⟩
theorem rb {x : Mdl} (h : MVO x) {s a : Nat} (hs : s < x.m.nx.length) (ha : a < x.ins.length) : (10 : UInt8) ∉ eO x s a := by
  have hm := h.mo
  have hn2 := hm.n2
  have hil := h.il
  have hr := hm.nr s a hs (by omega)
  have ho := hm.or s a hs (by omega)
  have ho2 := h.ol s a hs (by omega)
  rw [ld]
  refine dM fun y hy => ?_
  simp only [List.mem_cons, List.not_mem_nil, or_false] at hy
  rcases hy with rfl | rfl | rfl | rfl
  · exact dD (by omega)
  · exact h.ai.nm a ha
  · exact h.ao.nm _ (by omega)
  · exact dD (by omega)
theorem rO {x : Mdl} (h : MVO x) (l : Bs) (hl : l ∈ hdT x) : (10 : UInt8) ∉ l := by
  have hm := h.mo
  have hn2 := hm.n2
  have hs2 := hm.s2
  have hs1 := hm.s1
  rw [mz h] at hl
  simp only [List.mem_cons, List.not_mem_nil, or_false] at hl
  have hk := fun i hi => mq i hi
  rcases hl with rfl | rfl | rfl | rfl | rfl
  · exact dM fun y hy => by simp only [List.mem_cons, List.not_mem_nil, or_false] at hy; rcases hy with rfl | rfl; exact hk 0 (by decide); exact h.nm
  · exact dM fun y hy => by rcases List.mem_cons.1 hy with rfl | hy; exact hk 1 (by decide); exact ku h.ai hy
  · exact dM fun y hy => by rcases List.mem_cons.1 hy with rfl | hy; exact hk 2 (by decide); exact ku h.ao hy
  · exact dM fun y hy => by
      rcases List.mem_cons.1 hy with rfl | hy
      · exact hk 3 (by decide)
      · obtain ⟨j, hj, rfl⟩ := mQ.1 hy
        rw [cu] at hj
        rw [dg hj]; exact dD (by omega)
  · exact dM fun y hy => by simp only [List.mem_cons, List.not_mem_nil, or_false] at hy; rcases hy with rfl | rfl; exact hk 4 (by decide); exact dD (by omega)
theorem sA {x : Mdl} (h : mvE x = 0) : SM x = bf (hdT x ++ (prs x.ins.length x.m.nx.length).map fun p => eO x p.1 p.2) := by
  rw [lM h, md (kt h) (Nat.le_refl _)]
  exact ge
theorem sO {x : Mdl} (h : mvE x = 0) : (SM x).length ≤ 700001 := by
  rw [lM h, ag]; have := qw (kt h); simp only [ah, aq]; omega
theorem sI {x : Mdl} (h : mvE x = 0) : PM (SM x) = (x, 0, 0) := by
  have hv := kt h
  have hz := sO h
  rw [sA h] at hz ⊢
  refine sJ hv (kE _) (fun s a => iN) (ov _) (fun l hl => ?_) (by omega)
  rcases List.mem_append.1 hl with hl | hl
  · exact rO hv l hl
  · obtain ⟨p, hp, rfl⟩ := List.mem_map.1 hl
    have := iN.1 (show (p.1, p.2) ∈ _ from hp)
    exact rb hv this.1 this.2
def nu (x y : Mdl) : Bool := decide (x.nm = y.nm) && decide (x.ins = y.ins) && decide (x.outs = y.outs) && iH x.m y.m
theorem pu {x y : Mdl} : nu x y = true ↔ x = y := by
  obtain ⟨a, b, c, ⟨d, e, f, g⟩⟩ := x
  obtain ⟨a', b', c', ⟨d', e', f', g'⟩⟩ := y
  unfold nu iH
  simp only [Bool.and_eq_true, decide_eq_true_eq, Mdl.mk.injEq, Mly.mk.injEq]
  constructor
  · rintro ⟨⟨⟨h1, h2⟩, h3⟩, ⟨⟨⟨h4, h5⟩, h6⟩, h7⟩⟩; exact ⟨h1, h2, h3, h4, h5, h6, h7⟩
  · rintro ⟨h1, h2, h3, h4, h5, h6, h7⟩; exact ⟨⟨⟨h1, h2⟩, h3⟩, ⟨⟨⟨h4, h5⟩, h6⟩, h7⟩⟩
theorem bJ (x : Mdl) : nu x x = true := pu.2 rfl
/-plain-/
def dV : Mdl := ⟨[103, 97, 116, 101], [[99, 111, 105, 110], [112, 117, 115, 104]], [[110, 111], [111, 107], [116, 117, 114, 110]], ⟨2, 0, [[1, 0], [1, 0]], [[1, 0], [1, 2]]⟩⟩
@[reducible] def gtx : Bs := [109, 97, 99, 104, 105, 110, 101, 32, 103, 97, 116, 101, 10, 105, 110, 112, 117, 116, 115, 32, 99, 111, 105, 110, 32, 112, 117, 115, 104, 10, 111, 117, 116, 112, 117, 116, 115, 32, 110, 111, 32, 111, 107, 32, 116, 117, 114, 110, 10, 115, 116, 97, 116, 101, 115, 32, 113, 48, 32, 113, 49, 10, 115, 116, 97, 114, 116, 32, 113, 48, 10, 113, 48, 32, 99, 111, 105, 110, 32, 111, 107, 32, 113, 49, 10, 113, 48, 32, 112, 117, 115, 104, 32, 110, 111, 32, 113, 48, 10, 113, 49, 32, 99, 111, 105, 110, 32, 111, 107, 32, 113, 49, 10]
@[reducible] def gtA : Bs := gtx ++ [113, 49, 32, 112, 117, 115, 104, 32, 116, 117, 114, 110, 32, 113, 48, 10]
@[reducible] def gtB : Bs := gtx ++ [113, 49, 32, 112, 117, 115, 104, 32, 116, 117, 114, 110, 32, 113, 50, 10]
@[reducible] def gtC : Bs := gtx ++ [113, 49, 32, 99, 111, 105, 110, 32, 116, 117, 114, 110, 32, 113, 48, 10]
theorem nC : mvE dV = 0 := by
  refine mU (by decide +kernel) (by decide +kernel) (by decide +kernel) (by decide +kernel) ⟨rfl, ?_⟩
  rw [fX (by decide +kernel), ← rr]
  decide +kernel
theorem qd : SM dV = gtA := by rw [lM nC]; decide +kernel
theorem tF : PM gtA = (dV, 0, 0) := by rw [← qd]; exact sI nC
theorem qk : (PM gtx).2 = (9, 12) := by decide +kernel
theorem pU : (PM gtB).2 = (9, 8) := by decide +kernel
theorem qr : (PM gtC).2 = (9, 7) := by decide +kernel
theorem qg : (PM []).2 = (1, 12) := by decide +kernel
/-plain-/
def dI (P : Program) (X : Nat → Prop) (W : World) : Ctx := { P := P, X := X, keep := fun _ => False, w0 := W, N := 0, bL := [], bσ := fun _ => undef, bw := W }
def jT (P : Program) (X : Nat → Prop) (L : List AO) (σ : Sig) (W : World) : Prop := INV (dI P X W) L σ W
structure KEPT (X : Nat → Prop) (W W' : World) : Prop where
  size : W.heap.size ≤ W'.heap.size
  same : ∀ b, X b → W'.heap[b]? = W.heap[b]?
  os : W'.os = W.os
  tape : W'.tape = W.tape
  output : W'.output = W.output
theorem pQ {P : Program} {X : Nat → Prop} {L : List AO} {σ : Sig} {W : World} {f : FuncId} {args : List AV} {out : Out} {vs : List Value} (h : ee P L f args out) (hH : jT P X L σ W) (ha : aO (RV (dI P X W) L σ W) args vs) :
    Calls P f vs.toArray W fun e W' => ∃ v σ', e = .returned v ∧ jT P X (app L out) σ' W' ∧ RV (dI P X W') (app L out) σ' W' out.av v ∧ KEPT X W W' ∧ ∀ c u, RC (dI P X W) L σ W c u → RC (dI P X W') (app L out) σ' W' c u := by
  let C2 : Ctx := { P := P, X := X, keep := fun b => b < W.heap.size ∧ ¬ ∃ o, own L σ o b, w0 := W, N := 0, bL := [], bσ := fun _ => undef, bw := W }
  have hX : C2.X = (dI P X W).X := rfl
  have hP : C2.P = (dI P X W).P := rfl
  have hI : INV C2 L σ W := ⟨fun o ob e => by rw [km hX hP]; exact hH.ob o ob e, hH.inj, fun o b ho => ⟨fun hk => hk.2 ⟨o, ho⟩, (hH.off o b ho).2⟩, fun b hb => ⟨hb.1, rfl⟩, fun b hb => hH.xlt b hb, Nat.le_refl _, rfl, rfl, rfl⟩
  refine (h.2 C2 L σ W vs rfl hI (by rw [kl hX]; exact ha) (fun _ _ => rfl) rfl).mono fun e W' hh => ?_
  obtain ⟨v, he, σ', g1, g2, g3⟩ := hh
  have hX2 : C2.X = (dI P X W').X := rfl
  have hP2 : C2.P = (dI P X W').P := rfl
  refine ⟨v, σ', he, ⟨fun o ob e => by rw [← km hX2 hP2]; exact g1.ob o ob e, g1.inj, fun o b ho => ⟨fun hk => hk, (g1.off o b ho).2⟩, fun b hb => hb.elim, fun b hb => Nat.lt_of_lt_of_le (hH.xlt b hb) g1.size, Nat.le_refl _, rfl, rfl, rfl⟩, by rw [← kl hX2]; exact g2,
    ⟨g1.size, fun b hb => ?_, g1.os, g1.tape, g1.output⟩, fun c u hc => ?_⟩
  · exact (g1.kept b ⟨hH.xlt b hb, fun ⟨o, ho⟩ => (hH.off o b ho).2 hb⟩).2
  · rw [← gy hX2]; exact g3 c u (by rw [gy hX]; exact hc)
section
variable {C C' : Ctx} {L : List AO} {σ : Sig} {W W' : World}
theorem jh (hs : W.heap.size ≤ W'.heap.size) (hk : ∀ b, b < W.heap.size → ¬ avd C L σ b → W'.heap[b]? = W.heap[b]?) (hav : ∀ b, b < W.heap.size → avd C' L σ b → avd C L σ b) {t : Ty} {d : t.den} {off : Nat} {v : Value} (h : fi C L σ W t d off v) : fi C' L σ W' t d off v := by
  obtain ⟨b, o, cs, e, h1, h2, h3, h4⟩ := h
  exact ⟨b, o, cs, e, fun h => h1 (hav b h2 h), Nat.lt_of_lt_of_le h2 hs, fun j hj => by rw [← h3 j hj]; exact World.cell?_of_block (hk b h2 h1), h4.keep hs hk hav⟩
theorem p5 (hs : W.heap.size ≤ W'.heap.size) (hk : ∀ b, b < W.heap.size → ¬ avd C L σ b → W'.heap[b]? = W.heap[b]?) (hav : ∀ b, b < W.heap.size → avd C' L σ b → avd C L σ b) {f : FuncId} {ds : List ((t : Ty) × t.den)} {v : Value} (h : RFN C L σ W f ds v) : RFN C' L σ W' f ds v := by
  obtain ⟨b, o, vs, e, h1, h2, h3, h4⟩ := h
  exact ⟨b, o, vs, e, fun h => h1 (hav b h2 h), Nat.lt_of_lt_of_le h2 hs, by rw [← h3]; exact World.cell?_of_block (hk b h2 h1), h4.mono fun p u hp => ⟨hp.1, jh hs hk hav hp.2⟩⟩
theorem tE (hs : W.heap.size ≤ W'.heap.size) (hk : ∀ b, b < W.heap.size → ¬ avd C L σ b → W'.heap[b]? = W.heap[b]?) (hav : ∀ b, b < W.heap.size → avd C' L σ b → avd C L σ b) {c : AC} {v : Value} (h : RC C L σ W c v) : RC C' L σ W' c v := by
  refine ⟨h.1, ?_⟩
  have h2 := h.2
  cases c with
  | list t xs => exact h2.keep hs hk hav
  | pat t d off => exact jh hs hk hav h2
  | pfn f ds => exact p5 hs hk hav h2
  | fn f caps =>
    obtain ⟨vs, e, ha⟩ := h2
    refine ⟨vs, e, ha.mono fun p u hp => ?_⟩
    cases p with
    | ref o => exact hp
    | pat t d => exact ⟨hp.1, jh hs hk hav hp.2⟩
    | pfn f ds => exact ⟨hp.1, p5 hs hk hav hp.2⟩
  | _ => exact h2
theorem oP {base : Nat} {e : TypeId} {sz : Nat} {v : Value} {n : Nat} {flat : List Value} (h : W.ownsRow base e sz v n flat) (hb : ∀ b, blk v = some b → W'.heap[b]? = W.heap[b]?) : W'.ownsRow base e sz v n flat := by
  refine ⟨h.1, ?_⟩
  rcases h.2 with h2 | ⟨g, cap, cur, e1, e2, e3, e4⟩
  · exact .inl h2
  · exact .inr ⟨g, cap, cur, e1, e2, by rw [hb g (by rw [e1]; rfl)]; exact e3, e4⟩
end
theorem qU {P : Program} {X X' : Nat → Prop} {L : List AO} {σ : Sig} {W W' : World} (hH : jT P X L σ W) (hs : W.heap.size ≤ W'.heap.size) (hk : ∀ b, b < W.heap.size → ¬ X b → W'.heap[b]? = W.heap[b]?)
    (hX : ∀ b, X' b → b < W.heap.size → X b) (hX2 : ∀ b, X' b → b < W'.heap.size) :
    jT P X' L σ W' ∧ ∀ c u, RC (dI P X W) L σ W c u → RC (dI P X' W') L σ W' c u := by
  have hk2 : ∀ b, b < W.heap.size → ¬ avd (dI P X W) L σ b → W'.heap[b]? = W.heap[b]? := fun b hb ha => hk b hb fun hx => ha (.inl hx)
  have hav : ∀ b, b < W.heap.size → avd (dI P X' W') L σ b → avd (dI P X W) L σ b := fun b hb ha => by
    rcases ha with ha | ha
    · exact .inl (hX b ha hb)
    · exact .inr ha
  have hrc : ∀ c u, RC (dI P X W) L σ W c u → RC (dI P X' W') L σ W' c u := fun c u h => tE hs hk2 hav h
  have hown : ∀ o b, own L σ o b → b < W.heap.size ∧ ¬ X b := fun o b ho => ⟨eR hH ho, (hH.off o b ho).2⟩
  refine ⟨⟨fun o ob e => ?_, hH.inj, fun o b ho => ⟨fun h => h, fun hx => (hown o b ho).2 (hX b hx (hown o b ho).1)⟩, fun b hb => hb.elim, hX2, Nat.le_refl _, rfl, rfl, rfl⟩, hrc⟩
  have h1 := hH.ob o ob e
  have hsame : ∀ b, ob.live = true → blk (σ o) = some b → W'.heap[b]? = W.heap[b]? := fun b hl hb => by
    obtain ⟨q1, q2⟩ := hown o b ⟨ob, e, hl, hb⟩
    exact hk b q1 q2
  cases ob with
  | dead _ => trivial
  | vars T cs => obtain ⟨b, vs, e1, e2, e3⟩ := h1; exact ⟨b, vs, e1, (hsame b rfl (by rw [e1]; rfl)).trans e2, e3.mono fun c u hc => hrc c u hc⟩
  | row t e v xs => obtain ⟨flat, h2, h0, h3⟩ := h1; exact ⟨flat, oP h2 fun b hb => hsame b rfl hb, h0, fun i hi => (h3 i hi).keep hs hk2 hav⟩
  | mp T vk es => obtain ⟨b, ents, clock, e1, e2, e3⟩ := h1; exact ⟨b, ents, clock, e1, (hsame b rfl (by rw [e1]; rfl)).trans e2, e3⟩
  | itr s pos => obtain ⟨b, e1, e2⟩ := h1; exact ⟨b, e1, (hsame b rfl (by rw [e1]; rfl)).trans e2⟩
  | rowc e sz v cs => obtain ⟨flat, m, h2, h0, hl0, h3⟩ := h1; exact ⟨flat, m, oP h2 fun b hb => hsame b rfl hb, h0, hl0, h3.mono fun c u hc => hrc c u hc⟩
theorem re {P : Program} {X : Nat → Prop} {L : List AO} {σ : Sig} {W : World} {k v : Nat} {I : TypeId} {xs : List Int} (hH : jT P X L σ W) (hk : L[k]? = some (.row (.int .i64) I v xs)) {av : Nat → Prop} (hav : ∀ o b, own L σ o b → ¬ av b) :
    Dat av W (.list (.int .i64)) xs [σ k] := by
  obtain ⟨flat, h8, h9, h10⟩ := hH.ob k _ hk
  rcases h8.2 with ⟨e1, e2⟩ | ⟨g, cap, cur, e1, _, e3, e4, e5, e6, e7⟩
  · rw [e1]
    have : xs = [] := List.eq_nil_of_length_eq_zero e2
    subst this
    exact bT _
  · rw [e1]
    refine ⟨some ⟨g, 0, none⟩, cap, rfl, e4, ⟨e5, fun h => by cases h⟩, fun _ => ⟨g, 0, rfl, hav k g ⟨_, hk, rfl, by rw [e1]; rfl⟩, (Array.getElem?_eq_some_iff.1 e3).1, fun i hi => ⟨_, (h10 i hi).length, fun j hj => ?_, (h10 i hi : Dat _ _ (.int .i64) _ _)⟩⟩⟩
    have hm : (i + 1) * (Ty.int IntKind.i64).size ≤ xs.length * (Ty.int IntKind.i64).size := Nat.mul_le_mul_right _ hi
    rw [Nat.add_mul, Nat.one_mul] at hm
    rw [bm e3, List.getElem?_take_of_lt hj, List.getElem?_drop, ← e7, List.getElem?_take_of_lt (by omega)]
    simp
theorem m8 {P : Program} {X : Nat → Prop} {L : List AO} {σ : Sig} {W : World} {k b : Nat} {S I : TypeId} {xs : List (List Int)} (hH : jT P X L σ W) (hk : L[k]? = some (.rowc S 1 0 (ci b xs.length)))
    (hr : ∀ i, i < xs.length → L[b + i]? = some (.row (.int .i64) I 0 (xs.getD i []))) {av : Nat → Prop} (hav : ∀ o b, own L σ o b → ¬ av b) :
    Dat av W (.list (.list (.int .i64))) xs [σ k] := by
  obtain ⟨flat, n, h8, h9, hl, h10⟩ := hH.ob k _ hk
  have hn : n = xs.length := by rw [cJ] at hl; omega
  subst hn
  rcases h8.2 with ⟨e1, e2⟩ | ⟨g, cap, cur, e1, _, e3, e4, e5, e6, e7⟩
  · rw [e1]
    have : xs = [] := List.eq_nil_of_length_eq_zero e2
    subst this
    exact bT _
  · rw [e1]
    refine ⟨some ⟨g, 0, none⟩, cap, rfl, e4, ⟨e5, fun h => by cases h⟩, fun _ => ⟨g, 0, rfl, hav k g ⟨_, hk, rfl, by rw [e1]; rfl⟩, (Array.getElem?_eq_some_iff.1 e3).1, fun i hi => ⟨[σ (b + i)], rfl, fun j hj => ?_, re hH (hr i hi) hav⟩⟩⟩
    have hj0 : j = 0 := by have : (Ty.list (.int .i64)).size = 1 := rfl; omega
    subst hj0
    have hc : (ci b xs.length)[i]? = some (.row (b + i) 0) := by unfold ci; simp [hi]
    obtain ⟨u, hu, hcu⟩ := h10.at_ hc
    obtain ⟨_, ob, q1, q2, q3⟩ := hcu
    rw [hr i hi] at q1; cases q1
    obtain ⟨_, q4⟩ := q3 rfl rfl
    rw [bm e3, ← q4]
    rw [show (Ty.list (.int .i64)).size = 1 from rfl, Nat.mul_one, Nat.add_zero, Nat.zero_add]
    rw [← e7, Nat.mul_one, List.getElem?_take_of_lt hi] at hu
    simpa using hu
/-plain-/
def hF (h : PP → PP) (l : List W3) : List PP := l.map fun e => h e.1
structure HOM (A B : STP) (n : Nat) (I : PP → Prop) (h : PP → PP) : Prop where
  cl : ∀ p, I p → ∀ x, x < n → I (A p x)
  eq : ∀ p, I p → ∀ x, x < n → B (h p) x = h (A p x)
/-plain-/
theorem rG {P : List Bs} {k : Nat} {r : Bs} {c : UInt8} (h : spB c r = P.drop k) (hk : k + 1 = P.length) : r = P.getD k [] ∧ P.take k ++ [r] = P := by
  have h1 := List.drop_eq_getElem_cons (l := P) (i := k) (by omega)
  have h2 : P.drop (k + 1) = [] := List.drop_eq_nil_of_le (by omega)
  rw [h2] at h1
  rw [h1] at h
  have hl : (spB c r).length = 1 := by rw [h]; rfl
  have hn : c ∉ r := by
    rcases (show Lib.indexByte r c < 0 ∨ 0 ≤ Lib.indexByte r c by omega) with q | q
    · exact nz q
    · have := qx q
      rw [this] at hl
      have := gc c (r.drop ((Lib.indexByte r c).toNat + 1))
      simp only [ah] at hl
      omega
  rw [kr hn] at h
  have e : r = P[k] := by simpa using h
  refine ⟨by rw [e]; simp [List.getD, List.getElem?_eq_getElem (show k < P.length by omega)], ?_⟩
  rw [e]
  have h3 := List.take_append_drop k P
  rw [h1] at h3
  exact h3
theorem pB {P : List Bs} {k : Nat} {r : Bs} {c : UInt8} (h : spB c r = P.drop k) (hk : k + 1 < P.length) : 0 ≤ Lib.indexByte r c ∧ r.take (Lib.indexByte r c).toNat = P.getD k [] ∧ spB c (r.drop ((Lib.indexByte r c).toNat + 1)) = P.drop (k + 1) ∧ (Lib.indexByte r c).toNat < r.length := by
  have h1 := List.drop_eq_getElem_cons (l := P) (i := k) (by omega)
  rcases (show Lib.indexByte r c < 0 ∨ 0 ≤ Lib.indexByte r c by omega) with q | q
  · rw [kr (nz q)] at h
    have := congrArg List.length h
    rw [List.length_drop] at this
    simp only [ah, aq] at this
    omega
  · rw [qx q, h1] at h
    obtain ⟨e1, e2⟩ := List.cons.inj h
    exact ⟨q, by rw [e1]; simp [List.getD, List.getElem?_eq_getElem (show k < P.length by omega)], e2, (fY q).1⟩
def pcs (P : List Bs) (k : Nat) : List Bs := P.take k ++ List.replicate (P.length - k) []
theorem p9 {P : List Bs} {k : Nat} (h : k < P.length) {r : Bs} (e : r = P.getD k []) : (pcs P k).set k r = pcs P (k + 1) := by
  unfold pcs
  rw [List.set_append]
  have hl : (P.take k).length = k := by rw [List.length_take]; omega
  rw [hl, if_neg (by omega), Nat.sub_self, show P.length - k = (P.length - (k + 1)) + 1 by omega, List.replicate_succ, bH, e, show P.getD k [] = P[k] by simp [List.getD, List.getElem?_eq_getElem h]]
  have e2 : P.take (k + 1) = P.take k ++ [P[k]] := by rw [List.take_add_one, List.getElem?_eq_getElem h]; rfl
  rw [e2, List.append_assoc]; rfl
theorem kI {P : List Bs} {k : Nat} (h : k ≤ P.length) : (pcs P k).length = P.length := by unfold pcs; rw [ag, List.length_take, aI]; omega
theorem rN (P : List Bs) : pcs P P.length = P := by unfold pcs; simp
/-plain-/
/-plain-/
theorem sZ (n : Nat) : (((n + 1 : Nat) : Int) - 1).toNat = n := by omega
theorem je {l : List Bs} {a b : Bs} : (l ++ [a]).set l.length b = l ++ [b] := by simp
theorem nq {a b : List Bs} (h : a.length = b.length) (hq : ∀ q, q < a.length → a.getD q [] = b.getD q []) : a = b := by
  refine List.ext_getElem h fun i h1 h2 => ?_
  have := hq i h1
  simpa [List.getD, h1, h2] using this
/-plain-/
def dH (c : UInt8) (s : Bs) : Nat → List Bs × Nat
  | 0 => ([], 0)
  | k + 1 => if bt s k = (c.toNat : Int) then ((dH c s k).1 ++ [(s.take k).drop (dH c s k).2], k + 1) else dH c s k
theorem gE {c : UInt8} {s : Bs} {k : Nat} (h : bt s k = (c.toNat : Int)) : dH c s (k + 1) = ((dH c s k).1 ++ [(s.take k).drop (dH c s k).2], k + 1) := if_pos h
theorem iX {c : UInt8} {s : Bs} {k : Nat} (h : ¬ bt s k = (c.toNat : Int)) : dH c s (k + 1) = dH c s k := if_neg h
theorem hZ (c : UInt8) (s : Bs) : ∀ k, (dH c s k).2 ≤ k
  | 0 => Nat.le_refl _
  | k + 1 => by
    have := hZ c s k
    simp only [dH]
    split
    · exact Nat.le_refl _
    · omega
theorem mT (c : UInt8) (s : Bs) : ∀ k, (dH c s k).1.length ≤ k
  | 0 => Nat.le_refl _
  | k + 1 => by
    have := mT c s k
    simp only [dH]
    split
    · rw [ag]; simp only [ah, aq]; omega
    · omega
theorem ul {c : UInt8} {s : Bs} {k : Nat} : bt s k = (c.toNat : Int) ↔ s.getD k 0 = c := by
  unfold bt
  constructor
  · intro h; exact UInt8.toNat_inj.1 (by omega)
  · intro h; rw [h]
theorem kP (c : UInt8) (s : Bs) : ∀ k, k ≤ s.length → (s.take k).foldl (fun (st : List Bs × Bs) b => if b = c then (st.1 ++ [st.2], []) else (st.1, st.2 ++ [b])) ([], []) = ((dH c s k).1, (s.take k).drop (dH c s k).2)
  | 0, _ => rfl
  | k + 1, h => by
    have ih := kP c s k (by omega)
    have hf := hZ c s k
    rw [jO (by omega), List.foldl_append, ih, List.foldl_cons, List.foldl_nil]
    by_cases e : bt s k = (c.toNat : Int)
    · rw [gE e, if_pos (ul.1 e)]
      simp only []
      have e9 : (s.take k ++ [s.getD k 0]).drop (k + 1) = [] := List.drop_eq_nil_of_le (by rw [ag, List.length_take]; simp only [ah, aq]; omega)
      rw [e9]
    · rw [iX e, if_neg (fun h => e (ul.2 h))]
      simp only []
      rw [List.drop_append_of_le_length (by rw [List.length_take]; omega)]
theorem jt (c : UInt8) (s : Bs) : (dH c s s.length).1 ++ [(s.take s.length).drop (dH c s s.length).2] = spB c s := by
  have h1 := kP c s s.length (Nat.le_refl _)
  have h2 := qO c s ([], [])
  rw [aD] at h1 ⊢
  rw [h1] at h2
  simp only [am] at h2
  rw [h2, ← eu]
theorem eD (a b : List Bs) : bf (a ++ b) = bf a ++ bf b := by unfold bf; simp
theorem eV (a : List Bs) (x : Bs) : bf (a ++ [x]) = bf a ++ x ++ [10] := by rw [eD]; unfold bf; simp
theorem iy {l : List Bs} {k : Nat} (h : k < l.length) : l.take (k + 1) = l.take k ++ [l.getD k []] := by rw [List.take_add_one, List.getElem?_eq_getElem h]; simp [List.getD, h]
theorem jI {l : List Bs} {k : Nat} (h : k < l.length) : bf (l.take (k + 1)) = bf (l.take k) ++ l.getD k [] ++ [10] := by rw [iy h, eV]
theorem lV (l : List Bs) (k : Nat) : (bf (l.take k)).length ≤ (bf l).length := by
  have : bf l = bf (l.take k) ++ bf (l.drop k) := by rw [← eD, List.take_append_drop]
  rw [this, ag]; omega
theorem nQ {l : List Bs} (h : l ≠ []) : Lib.join l [10] ++ [10] = bf l := by
  cases l with
  | nil => exact absurd rfl h
  | cons a l => exact ge
theorem tp (c : UInt8) (s : Bs) : spB c s ≠ [] := fun e => by have := gc c s; rw [e] at this; simp at this
theorem jc (s : Bs) : bf (spB 10 s) = s ++ [10] := by rw [← nQ (tp 10 s), mB]
theorem lE : ∀ {L : List Bs}, (∀ l, l ∈ L → (10 : UInt8) ∉ l) → spB 10 (bf L) = L ++ [[]]
  | [], _ => rfl
  | l :: L, h => by
    rw [dr, iV _ (h l (by simp)), lE fun x hx => h x (aC _ hx)]; rfl
theorem od {s : Bs} (h : s = [] ∨ s.getD (s.length - 1) 0 = 10) : ∃ L, spB 10 s = L ++ [[]] ∧ bf L = s ∧ ∀ l, l ∈ L → (10 : UInt8) ∉ l := by
  rcases h with rfl | h
  · exact ⟨[], rfl, rfl, fun l hl => by simp at hl⟩
  · by_cases he : s = []
    · subst he; exact ⟨[], rfl, rfl, fun l hl => by simp at hl⟩
    · have hl := List.length_pos_iff.2 he
      have e : s = s.take (s.length - 1) ++ [10] := by
        have := jO (s := s) (k := s.length - 1) (by omega)
        rw [show s.length - 1 + 1 = s.length by omega, aD, h] at this
        exact this
      refine ⟨spB 10 (s.take (s.length - 1)), ?_, ?_, fun l hl => fe hl⟩
      · conv => lhs; rw [e, ← jc]
        exact lE fun l hl => fe hl
      · rw [jc, ← e]
def dd (sk : Bs) (k : Nat) (l : List Bs) : Nat → Bs
  | 0 => []
  | i + 1 => (if i = k then dd sk k l i ++ sk ++ [10] else dd sk k l i) ++ l.getD i [] ++ [10]
theorem ep {sk : Bs} {k : Nat} {l : List Bs} {i : Nat} (h : i = k) : dd sk k l (i + 1) = dd sk k l i ++ sk ++ [10] ++ l.getD i [] ++ [10] := by
  show (if i = k then dd sk k l i ++ sk ++ [10] else dd sk k l i) ++ l.getD i [] ++ [10] = _
  rw [if_pos h]
theorem ex {sk : Bs} {k : Nat} {l : List Bs} {i : Nat} (h : ¬ i = k) : dd sk k l (i + 1) = dd sk k l i ++ l.getD i [] ++ [10] := by
  show (if i = k then dd sk k l i ++ sk ++ [10] else dd sk k l i) ++ l.getD i [] ++ [10] = _
  rw [if_neg h]
theorem lD {sk : Bs} {k : Nat} {l : List Bs} : ∀ {i : Nat}, i ≤ k → i ≤ l.length → dd sk k l i = bf (l.take i)
  | 0, _, _ => rfl
  | i + 1, h, hl => by rw [ex (by omega), lD (by omega) (by omega), jI (by omega)]
theorem oT {sk : Bs} {k : Nat} {l : List Bs} : ∀ {i : Nat}, k < i → i ≤ l.length → dd sk k l i = bf (l.take k) ++ sk ++ [10] ++ bf ((l.take i).drop k)
  | 0, h, _ => by omega
  | i + 1, h, hl => by
    have e2 : (l.take (i + 1)).drop k = (l.take i).drop k ++ [l.getD i []] := by rw [iy (by omega), List.drop_append_of_le_length (by rw [List.length_take]; omega)]
    by_cases e : i = k
    · subst e
      rw [ep rfl, lD (Nat.le_refl _) (by omega), e2, eV, List.drop_of_length_le (by rw [List.length_take]; omega)]
      simp [bf]
    · rw [ex e, oT (by omega) (by omega), e2, eV]
      simp only [List.append_assoc]
theorem ma {sk : Bs} {k : Nat} {l : List Bs} : ∀ {i : Nat}, i ≤ l.length → (dd sk k l i).length ≤ (bf (l.take i)).length + (if k < i then sk.length + 1 else 0)
  | 0, _ => Nat.zero_le _
  | i + 1, h => by
    have ih := ma (sk := sk) (k := k) (l := l) (i := i) (by omega)
    rw [jI (by omega)]
    by_cases e : i = k
    · rw [ep e]; simp only [ag, ah, aq]; rw [if_neg (by omega)] at ih; rw [if_pos (by omega)]; omega
    · rw [ex e]; simp only [ag, ah, aq]
      by_cases q : k < i
      · rw [if_pos q] at ih; rw [if_pos (by omega)]; omega
      · rw [if_neg q] at ih; rw [if_neg (by omega)]; omega
theorem iD {sk : Bs} {k : Nat} {s : Bs} {i : Nat} (h : i ≤ (spB 10 s).length) : (dd sk k (spB 10 s) i).length ≤ s.length + 1 + sk.length + 1 := by
  have h1 := ma (sk := sk) (k := k) h
  have h2 := lV (spB 10 s) i
  rw [jc, ag] at h2
  simp only [ah, aq] at h2
  split at h1 <;> omega
def db (sk : Bs) (k : Nat) (l : List Bs) : Bs := if k = l.length - 1 then dd sk k l (l.length - 1) ++ sk ++ [10] else dd sk k l (l.length - 1)
theorem pw {sk : Bs} {k : Nat} {L : List Bs} (hk : k < (L ++ [[]]).length) : db sk k (L ++ [[]]) = bf (L.take k ++ sk :: L.drop k) := by
  have hl : (L ++ [[]]).length = L.length + 1 := by simp
  unfold db
  rw [hl, Nat.add_sub_cancel]
  have e1 : (L ++ [[]]).take L.length = L := by simp
  by_cases e : k = L.length
  · rw [if_pos e, lD (by omega) (by omega), e1, e, aD, List.drop_length, eV]
  · rw [if_neg e, oT (by omega) (by omega), e1, eD, dr, List.take_append_of_le_length (by omega)]; simp
theorem tX (r : RS) : ec r [] = (r, 0) := if_pos (.inl rfl)
theorem u0 (r : RS) (x : Bs) : ec r (35 :: x) = (r, 0) := if_pos (.inr rfl)
def shf (k : Nat) (p : Mdl × Int × Int) : Mdl × Int × Int := if ¬ p.2.2 = 0 ∧ (k : Int) < p.2.1 then (p.1, p.2.1 + 1, p.2.2) else p
theorem sE (k : Nat) (r : RS) : (¬ (dv k r).2.2 = 0 ∧ (k : Int) < (dv k r).2.1) ∧ dv (k + 1) r = ((dv k r).1, (dv k r).2.1 + 1, (dv k r).2.2) ∨ (dv k r).2.2 = 0 ∧ dv (k + 1) r = dv k r := by
  unfold dv
  by_cases h : r.rd < 5 ∨ 0 < r.lf
  · rw [if_pos h, if_pos h]; refine .inl ⟨⟨by simp, by simp only; omega⟩, ?_⟩; simp
  · rw [if_neg h, if_neg h]; exact .inr ⟨rfl, rfl⟩
theorem rL : ∀ (L : List Bs) (k : Nat) (r : RS), (¬ (PL L k r).2.2 = 0 ∧ (k : Int) < (PL L k r).2.1) ∧ PL L (k + 1) r = ((PL L k r).1, (PL L k r).2.1 + 1, (PL L k r).2.2) ∨ (PL L k r).2.2 = 0 ∧ PL L (k + 1) r = PL L k r
  | [], k, r => sE k r
  | l :: L, k, r => by
    have e : ∀ k, PL (l :: L) k r = if (aS r l).2 = 0 then PL L (k + 1) (aS r l).1 else (jU, (k : Int) + 1, (aS r l).2) := fun _ => rfl
    rw [e, e]
    by_cases h : (aS r l).2 = 0
    · rw [if_pos h, if_pos h]
      rcases rL L (k + 1) (aS r l).1 with ⟨⟨h1, h2⟩, h3⟩ | h1
      · exact .inl ⟨⟨h1, by omega⟩, h3⟩
      · exact .inr h1
    · rw [if_neg h, if_neg h]
      refine .inl ⟨⟨h, by simp only; omega⟩, ?_⟩
      simp
theorem tk (L : List Bs) (k : Nat) (r : RS) : PL L (k + 1) r = shf k (PL L k r) := by
  unfold shf
  rcases rL L k r with ⟨h1, h2⟩ | ⟨h1, h2⟩
  · rw [if_pos h1, h2]
  · rw [if_neg (fun q => q.1 h1), h2]
theorem oa {sk : Bs} (hs : ∀ r, ec r sk = (r, 0)) : ∀ (A B : List Bs) (k : Nat) (r : RS), PL ((A ++ sk :: B).map (· ++ [10])) k r = shf (k + A.length) (PL ((A ++ B).map (· ++ [10])) k r)
  | [], B, k, r => by
    rw [am, am, eB (hs r), tk]; rfl
  | a :: A, B, k, r => by
    have e : ∀ C : List Bs, PL ((a :: C).map (· ++ [10])) k r = if (aS r (a ++ [10])).2 = 0 then PL (C.map (· ++ [10])) (k + 1) (aS r (a ++ [10])).1 else (jU, (k : Int) + 1, (aS r (a ++ [10])).2) := fun _ => rfl
    rw [ak, ak, e, e, ah]
    by_cases h : (aS r (a ++ [10])).2 = 0
    · rw [if_pos h, if_pos h, oa hs A B, show k + 1 + A.length = k + (A.length + 1) by omega]
    · rw [if_neg h, if_neg h]
      unfold shf
      rw [if_neg (by simp only; omega)]
theorem oF {sk s : Bs} {k : Nat} (hs : ∀ r, ec r sk = (r, 0)) (h10 : (10 : UInt8) ∉ sk) (he : s = [] ∨ s.getD (s.length - 1) 0 = 10) (hk : k < (spB 10 s).length) (hz : s.length + sk.length ≤ 900000) :
    PM (db sk k (spB 10 s)) = shf k (PM s) ∧ (db sk k (spB 10 s)).length = s.length + sk.length + 1 := by
  obtain ⟨L, h1, h2, h3⟩ := od he
  rw [h1] at hk ⊢
  have hl : (L ++ [[]]).length = L.length + 1 := by simp
  rw [pw hk]
  have hlen : (bf (L.take k ++ sk :: L.drop k)).length = s.length + sk.length + 1 := by
    have : bf L = bf (L.take k) ++ bf (L.drop k) := by rw [← eD, List.take_append_drop]
    rw [← h2, this, eD, dr]
    simp only [ag, ah]; omega
  refine ⟨?_, hlen⟩
  rw [lp (fun l hl => by
    rcases List.mem_append.1 hl with hl | hl
    · exact h3 l (List.mem_of_mem_take hl)
    · rcases List.mem_cons.1 hl with rfl | hl
      · exact h10
      · exact h3 l (List.mem_of_mem_drop hl)) (by rw [hlen]; omega), oa hs, List.take_append_drop, List.length_take, Nat.min_eq_left (by omega), Nat.zero_add]
  rw [← lp h3 (by rw [h2]; omega), h2]
theorem na {c : UInt8} {s y : Bs} (h : y ∈ spB c s) : y.length ≤ s.length := by
  induction s generalizing y with
  | nil => simp [spB] at h; subst h; exact Nat.le_refl _
  | cons b s ih =>
    rw [gg] at h
    have hh := eu c s
    split at h
    · rcases List.mem_cons.1 h with rfl | h
      · exact Nat.zero_le _
      · have := ih h; simp only [ah]; omega
    · rcases List.mem_cons.1 h with rfl | h
      · have := ih (y := (spB c s).headD []) (by rw [hh]; simp)
        simp only [ah]; omega
      · have := ih (by rw [hh]; exact aC _ h)
        simp only [ah]; omega
theorem iZ (c : UInt8) (s : Bs) (k : Nat) : ((spB c s).getD k []).length ≤ s.length := by
  by_cases h : k < (spB c s).length
  · exact na (dk h)
  · rw [List.getD, List.getElem?_eq_none (by omega)]; exact Nat.zero_le _
theorem mg : ∀ (f : Nat) (s : Bs), (gV f s).length ≤ f
  | 0, _ => Nat.zero_le _
  | f + 1, s => by
    show (if s = [] then [] else s.take (lnE s) :: gV f (s.drop (lnE s))).length ≤ _
    have := mg f (s.drop (lnE s))
    split
    · exact Nat.zero_le _
    · rw [ah]; omega
theorem o3 : ∀ (L : List Bs) (k : Nat) (r : RS), 0 ≤ (PL L k r).2.1 ∧ (PL L k r).2.1 ≤ (k : Int) + L.length + 1
  | [], k, r => by
    show 0 ≤ (dv k r).2.1 ∧ (dv k r).2.1 ≤ _
    unfold dv
    split <;> simp only [aq] <;> omega
  | l :: L, k, r => by
    have e : PL (l :: L) k r = if (aS r l).2 = 0 then PL L (k + 1) (aS r l).1 else (jU, (k : Int) + 1, (aS r l).2) := rfl
    have ih := o3 L (k + 1) (aS r l).1
    rw [e, ah]
    split
    · omega
    · simp only; omega
theorem sj (s : Bs) : 0 ≤ (PM s).2.1 ∧ (PM s).2.1 ≤ (s.length : Int) + 1 := by
  unfold PM
  split
  · simp only; omega
  · have h1 := o3 (lns s) 0 rs0
    have h2 : (lns s).length ≤ s.length := mg _ _
    omega
theorem js {k : Nat} {p : Mdl × Int × Int} (h : ¬ p.2.2 = 0 ∧ (k : Int) < p.2.1) : shf k p = (p.1, p.2.1 + 1, p.2.2) := if_pos h
theorem j9 {k : Nat} {p : Mdl × Int × Int} (h : ¬ (¬ p.2.2 = 0 ∧ (k : Int) < p.2.1)) : shf k p = p := if_neg h
theorem tO {rm : Bs} {p k : Nat} {l : List Bs} (hk : k = l.length - 1) (h : p = l.length - 1) : dd (35 :: rm) p l k ++ [35] ++ rm ++ [10] = db (35 :: rm) p l ∧ dd [] p l k ++ [10] = db [] p l := by
  unfold db; rw [if_pos h, if_pos h, hk]; exact ⟨by simp, by simp⟩
theorem tG {rm : Bs} {p k : Nat} {l : List Bs} (hk : k = l.length - 1) (h : ¬ p = l.length - 1) : dd (35 :: rm) p l k = db (35 :: rm) p l ∧ dd [] p l k = db [] p l := by
  unfold db; rw [if_neg h, if_neg h, hk]; exact ⟨rfl, rfl⟩
theorem sl {rm : Bs} {k : Nat} (hk : rm.length ≤ k) (h : ∀ q, q < k → ¬ bt rm q = 10) : (10 : UInt8) ∉ rm := fun hm => by
  obtain ⟨i, hi, e⟩ := List.mem_iff_getElem.1 hm
  refine h i (by omega) ?_
  unfold bt
  simp [List.getD, List.getElem?_eq_getElem hi, e]
theorem uv {s : Bs} (h : (s.length : Int) ≤ 0 ∨ ((s.getD ((s.length : Int) - 1).toNat 0).toNat : Int) = 10) : s = [] ∨ s.getD (s.length - 1) 0 = 10 := by
  rcases h with h | h
  · exact .inl (List.eq_nil_of_length_eq_zero (by omega))
  · refine .inr (UInt8.toNat_inj.1 ?_)
    rw [show ((s.length : Int) - 1).toNat = s.length - 1 by omega] at h
    exact Int.ofNat.inj h
end Go.AV
namespace Go.Proofs.YtmfkpljjhiglpaaDoor
open Go Go.AV
open Nat renaming reduceEqDiff → M, reduceAdd → E, reduceLeDiff → O, reduceLT → Z, reduceMul → Y, reduceSub → V
open List renaming set_cons_zero → bH, set_cons_succ → b0, getD_cons_zero → cK, length_append → ag, map_cons → aV, cons_append → ak, map_nil → bC, length_cons → ah, nil_append → am, take_succ_cons → cb, length_nil → aq, length_map → bV, length_replicate → aI, take_length → aD, mem_cons_self → aR, mem_cons_of_mem → aC
open Int renaming toNat_natCast → aM
theorem zT : type_of% (And.intro Tryd.ea49 (And.intro Tryd.ea90 (And.intro Tryd.el22 (And.intro Tryd.el25 (And.intro Tryd.el44 (And.intro Tryd.sa49 (And.intro Tryd.sa90 (And.intro Tryd.st24 (And.intro Tryd.st27 (And.intro Tryd.st29 (And.intro Tryd.st56 (And.intro Tryd.td1 (And.intro Tryd.td2 (And.intro Tryd.td21 (And.intro Tryd.td22 (And.intro Tryd.td24 (And.intro Tryd.td25 (And.intro Tryd.td27 (And.intro Tryd.td29 (And.intro Tryd.td3 (And.intro Tryd.td32 (And.intro Tryd.td4 (And.intro Tryd.td40 (And.intro Tryd.td44 (And.intro Tryd.td49 (And.intro Tryd.td5 (And.intro Tryd.td54 (And.intro Tryd.td56 (And.intro Tryd.td9 Tryd.td90))))))))))))))))))))))))))))) :=
  And.intro Tryd.ea49 (And.intro Tryd.ea90 (And.intro Tryd.el22 (And.intro Tryd.el25 (And.intro Tryd.el44 (And.intro Tryd.sa49 (And.intro Tryd.sa90 (And.intro Tryd.st24 (And.intro Tryd.st27 (And.intro Tryd.st29 (And.intro Tryd.st56 (And.intro Tryd.td1 (And.intro Tryd.td2 (And.intro Tryd.td21 (And.intro Tryd.td22 (And.intro Tryd.td24 (And.intro Tryd.td25 (And.intro Tryd.td27 (And.intro Tryd.td29 (And.intro Tryd.td3 (And.intro Tryd.td32 (And.intro Tryd.td4 (And.intro Tryd.td40 (And.intro Tryd.td44 (And.intro Tryd.td49 (And.intro Tryd.td5 (And.intro Tryd.td54 (And.intro Tryd.td56 (And.intro Tryd.td9 Tryd.td90))))))))))))))))))))))))))))
theorem mn  : bI Tryd.prog 15 [] (dV.av) := by
 refine aP Tryd.func15 rfl (by kernel_rfl) (Nat.le_of_ble_eq_true rfl) rfl fun C hP hN hB => ?_
 replace hN : C.N = 13 := hN
 simp only [aW, E]
 refine ab fun _ k1 => ?_
 refine af hP hN rfl ?_
 (refine aa rfl fun _ k0 => ?_; simp only [zO, zT, acs, reduceCtorEq, M, E, O, Z, Y, V, dV, Mdl.av, Mdl.cs]; (repeat refine an ?_); (try refine .inl ?_); apply k0; clear k0; simp only [zP, E])
 refine ae ?_
 apply k1; clear k1; refine kp [0] ?_
 refine ab fun _ k2 => ?_
 refine af hP hN rfl ?_
 iterate 13 (refine aa rfl fun _ k0 => ?_; simp only [zO, zT, acs, reduceCtorEq, M, E, O, Z, Y, V, dV, Mdl.av, Mdl.cs]; (repeat refine an ?_); (try refine .inl ?_); apply k0; clear k0; simp only [zP, E])
 refine ae ?_
 apply k2; clear k2; refine kp [0] ?_
 refine ay ?_
 refine ⟨nr, _, rfl, ?_⟩; simp only [zF, zP, M, E, dV, Mdl.av, Mdl.cs]
 refine VLE.of_eq ?_
 rfl
end Go.Proofs.YtmfkpljjhiglpaaDoor
