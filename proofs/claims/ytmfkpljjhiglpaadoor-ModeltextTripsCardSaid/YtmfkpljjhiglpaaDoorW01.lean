/- Contracts of functions of this seat, each out of a walk through its code, and plain facts on what they compute. Conditions: those that each theorem names. -/
import Derived.Test.YtmfkpljjhiglpaaDoorW00
set_option linter.unusedSimpArgs false
set_option linter.unusedVariables false
set_option maxRecDepth 100000
namespace Go.AV
open Nat renaming reduceEqDiff → M, reduceAdd → E, reduceLeDiff → O, reduceLT → Z, reduceMul → Y, reduceSub → V
open List renaming set_cons_zero → bQ, set_cons_succ → ba, getD_cons_zero → cY, length_append → ag, map_cons → aU, cons_append → ah, map_nil → bE, length_cons → ak, nil_append → am, take_succ_cons → ci, length_nil → ay, length_map → bV, length_replicate → aH, take_length → aE, mem_cons_self → aR, mem_cons_of_mem → aG
open Int renaming toNat_natCast → aJ
/-plain-/
def bI1 (b : Bool) : Int := if b = true then 1 else 0
def ug (d : Dfa) (s : Nat) : Int := bI1 (d.acc.getD s false)
/-plain-/
/-plain-/
/-plain-/
/-plain-/
def Dfa.sg (d : Dfa) (cl : List Int) (s : Nat) : List Int := cl.getD s 0 :: (d.nx.getD s []).map fun t => cl.getD t.toNat 0
def Dfa.nxL (d : Dfa) (cl : List Int) : List Int := (List.range d.nx.length).map fun s => (pos (rN (d.sg cl) d.nx.length) (d.sg cl s) : Int)
def Dfa.cl (d : Dfa) : Nat → List Int
  | 0 => (List.range d.nx.length).map (ug d)
  | i + 1 => d.nxL (d.cl i)
def Dfa.cn (d : Dfa) : Nat → Nat
  | 0 => 0
  | i + 1 => (rN (d.sg (d.cl i)) d.nx.length).length
def ub (n : Int) (w : List Int) : Prop := ∀ x, x ∈ w → 0 ≤ x ∧ x < n
def DEQ (a b : Dfa) (s t : Int) : Prop := ∀ w : List Int, ub a.inp w → a.ac (a.run s w) = b.ac (b.run t w)
theorem DEQ.refl (d : Dfa) (s : Int) : DEQ d d s s := fun _ _ => rfl
theorem DEQ.symm {d : Dfa} {s t : Int} (h : DEQ d d s t) : DEQ d d t s := fun w hw => (h w hw).symm
theorem DEQ.trans {d : Dfa} {s t u : Int} (h : DEQ d d s t) (h2 : DEQ d d t u) : DEQ d d s u := fun w hw => (h w hw).trans (h2 w hw)
theorem DEQ.join {a b c : Dfa} {s t u : Int} (hi : a.inp = b.inp) (h : DEQ a b s t) (h2 : DEQ b c t u) : DEQ a c s u := fun w hw => (h w hw).trans (h2 w (hi ▸ hw))
/-plain-/
/-plain-/
/-plain-/
structure SIM (A B : STP) (n : Nat) (R : PP → PP → Prop) : Prop where
  st : ∀ p q, R p q → ∀ x, x < n → R (A p x) (B q x)
  bi : ∀ p q p' q', R p q → R p' q' → (p = p' ↔ q = q')
def RL (R : PP → PP → Prop) (l l' : List W3) : Prop := l.length = l'.length ∧ ∀ i, i < l.length → R (l.getD i w30).1 (l'.getD i w30).1 ∧ (l.getD i w30).2 = (l'.getD i w30).2
theorem RL.mem {A B : STP} {n : Nat} {R : PP → PP → Prop} (hs : SIM A B n R) {l l' : List W3} (h : RL R l l') {p q : PP} (hr : R p q) : p ∈ l.map Prod.fst ↔ q ∈ l'.map Prod.fst := by
  constructor
  · intro hm
    obtain ⟨e, he, e1⟩ := List.mem_map.1 hm
    obtain ⟨i, hi⟩ := List.getElem?_of_mem he
    have hlt := (List.getElem?_eq_some_iff.1 hi).1
    have h2 := h.2 i hlt
    have h3 : l.getD i w30 = e := by rw [List.getD, hi]; rfl
    rw [h3, e1] at h2
    have := (hs.bi _ _ _ _ h2.1 hr).1 rfl
    rw [← this]
    exact List.mem_map.2 ⟨_, nn (by rw [← h.1]; exact hlt), rfl⟩
  · intro hm
    obtain ⟨e, he, e1⟩ := List.mem_map.1 hm
    obtain ⟨i, hi⟩ := List.getElem?_of_mem he
    have hlt := (List.getElem?_eq_some_iff.1 hi).1
    have h2 := h.2 i (by rw [h.1]; exact hlt)
    have h3 : l'.getD i w30 = e := by rw [List.getD, hi]; rfl
    rw [h3, e1] at h2
    have := (hs.bi _ _ _ _ h2.1 hr).2 rfl
    rw [← this]
    exact List.mem_map.2 ⟨_, nn (by rw [h.1]; exact hlt), rfl⟩
theorem RL.snoc {R : PP → PP → Prop} {l l' : List W3} (h : RL R l l') {e f : W3} (hr : R e.1 f.1) (hw : e.2 = f.2) : RL R (l ++ [e]) (l' ++ [f]) := by
  refine ⟨by simp [h.1], fun i hi => ?_⟩
  rw [ag, List.length_singleton] at hi
  by_cases e1 : i < l.length
  · rw [bJ e1, bJ (by rw [← h.1]; exact e1)]; exact h.2 i e1
  · rw [cF (by omega), cF (by have := h.1; omega)]; exact ⟨hr, hw⟩
theorem RL.row {A B : STP} {n : Nat} {R : PP → PP → Prop} (hs : SIM A B n R) {l l' : List W3} (h : RL R l l') {e f : W3} (hr : R e.1 f.1) (hw : e.2 = f.2) : ∀ x, x ≤ n → RL R (fx A e l x) (fx B f l' x)
  | 0, _ => h
  | x + 1, hx => by
    have ih := h.row hs hr hw x (by omega)
    have h2 := hs.st _ _ hr x (by omega)
    rw [fh, fh]
    by_cases hm : A e.1 x ∈ (fx A e l x).map Prod.fst
    · rw [mT hm, mT ((ih.mem hs h2).1 hm)]; exact ih
    · rw [kB hm, kB (fun k => hm ((ih.mem hs h2).2 k))]
      exact ih.snoc h2 (by rw [hw])
theorem RL.one {R : PP → PP → Prop} {p q : PP} (h : R p q) : RL R [(p, [])] [(q, [])] := ⟨rfl, fun i hi => by
  have : i = 0 := by simpa using hi
  subst this; exact ⟨h, rfl⟩⟩
/-plain-/
/-plain-/
def SLT (u v : List Int) : Prop := u.length < v.length ∨ (u.length = v.length ∧ ∃ m, m < u.length ∧ (∀ q, q < m → u.getD q 0 = v.getD q 0) ∧ u.getD m 0 < v.getD m 0)
def SLE (u v : List Int) : Prop := u = v ∨ SLT u v
theorem SLT.trans {u v w : List Int} (h : SLT u v) (h2 : SLT v w) : SLT u w := by
  rcases h with h | ⟨h, m, a1, a2, a3⟩
  · rcases h2 with h2 | ⟨h2, _⟩
    · exact .inl (by omega)
    · exact .inl (by omega)
  · rcases h2 with h2 | ⟨h2, k, b1, b2, b3⟩
    · exact .inl (by omega)
    · refine .inr ⟨by omega, ?_⟩
      rcases Nat.lt_trichotomy m k with e | e | e
      · exact ⟨m, a1, fun q hq => (a2 q hq).trans (b2 q (by omega)), by rw [← b2 m e]; exact a3⟩
      · subst e; exact ⟨m, a1, fun q hq => (a2 q hq).trans (b2 q hq), by omega⟩
      · exact ⟨k, by omega, fun q hq => (a2 q (by omega)).trans (b2 q hq), by rw [a2 k e]; exact b3⟩
theorem SLE.trans_lt {u v w : List Int} (h : SLE u v) (h2 : SLT v w) : SLT u w := by
  rcases h with rfl | h
  · exact h2
  · exact h.trans h2
theorem SLE.trans {u v w : List Int} (h : SLE u v) (h2 : SLE v w) : SLE u w := by
  rcases h2 with rfl | h2
  · exact h
  · exact .inr (h.trans_lt h2)
theorem SLT.app {u v : List Int} (h : SLT u v) (a b : Int) : SLT (u ++ [a]) (v ++ [b]) := by
  rcases h with h | ⟨h, m, a1, a2, a3⟩
  · exact .inl (by simp; omega)
  · refine .inr ⟨by simp; omega, m, by simp; omega, fun q hq => ?_, ?_⟩
    · rw [bJ (by omega), bJ (by omega)]; exact a2 q hq
    · rw [bJ a1, bJ (by omega)]; exact a3
theorem SLT.last (u : List Int) {a b : Int} (h : a < b) : SLT (u ++ [a]) (u ++ [b]) := by
  refine .inr ⟨by simp, u.length, by simp, fun q hq => ?_, ?_⟩
  · rw [bJ hq, bJ hq]
  · rw [cF rfl, cF rfl]; exact h
theorem SLE.app {u v : List Int} (h : SLE u v) (a : Int) : SLE (u ++ [a]) (v ++ [a]) := by
  rcases h with rfl | h
  · exact .inl rfl
  · exact .inr (h.app a a)
theorem SLT.nil (u : List Int) (x : Int) : SLT [] (u ++ [x]) := .inl (by simp)
structure BW (A : STP) (n i : Nat) (l : List W3) : Prop where
  so : ∀ j k, j < k → k < l.length → SLT (l.getD j w30).2 (l.getD k w30).2
  mi : ∀ j, j < i → j < l.length → ∀ x, x < n → ∃ k, k < l.length ∧ (l.getD k w30).1 = A (l.getD j w30).1 x ∧ SLE (l.getD k w30).2 ((l.getD j w30).2 ++ [(x : Int)])
  up : i < l.length → ∀ k, k < l.length → SLT (l.getD k w30).2 ((l.getD i w30).2 ++ [0])
structure BX (A : STP) (n i x : Nat) (l0 l : List W3) : Prop where
  so : ∀ j k, j < k → k < l.length → SLT (l.getD j w30).2 (l.getD k w30).2
  mi : ∀ y, y < x → ∃ k, k < l.length ∧ (l.getD k w30).1 = A (l0.getD i w30).1 y ∧ SLE (l.getD k w30).2 ((l0.getD i w30).2 ++ [(y : Int)])
  up : ∀ k, k < l.length → SLT (l.getD k w30).2 ((l0.getD i w30).2 ++ [(x : Int)])
/-plain-/
structure LCL (A : STP) (n : Nat) (L : List W3) : Prop where
  nd : (L.map Prod.fst).Nodup
  cl : ∀ j, j < L.length → ∀ x, x < n → A (L.getD j w30).1 x ∈ L.map Prod.fst
variable {A : STP} {G : PP → Bool} {n : Nat} {L : List W3}
/-plain-/
def Dfa.sto (d : Dfa) : Nat → Nat → Nat
  | 0, i => i
  | f + 1, i => if d.cn (i + 1) = d.cn i then i else d.sto f (i + 1)
def Dfa.cls (d : Dfa) : List Int := d.cl (d.sto (d.nx.length + 1) 0 + 1)
def fsV (cl : List Int) (n s c : Nat) : Int := match (List.range n).find? (fun q => decide (s ≤ q) && decide (cl.getD q 0 = (c : Int))) with | some q => (q : Int) | none => 0
def fsL (cl : List Int) (n s : Nat) : List Int := (List.range n).map fun c => fsV cl n s c
def Dfa.rep (d : Dfa) (s : Int) : Int := (fsL d.cls d.nx.length 0).getD (d.cls.getD s.toNat 0).toNat 0
structure RPR (d : Dfa) (s r : Int) : Prop where
  rg : 0 ≤ r ∧ r < d.nx.length
  le : r ≤ s
  cl : d.cls.getD r.toNat 0 = d.cls.getD s.toNat 0
  mi : ∀ q : Nat, (q : Int) < r → d.cls.getD q 0 ≠ d.cls.getD s.toNat 0
/-plain-/
structure M1OK (d : Dfa) (q : PP) (x : Nat) : Prop where
  r1 : 0 ≤ q.1 ∧ q.1 < d.nx.length
  rl : ((d.nx.getD q.1.toNat []).length : Int) = d.inp
  t1 : 0 ≤ (d.nx.getD q.1.toNat []).getD x 0 ∧ (d.nx.getD q.1.toNat []).getD x 0 < d.nx.length
  c1 : 0 ≤ d.cls.getD ((d.nx.getD q.1.toNat []).getD x 0).toNat 0 ∧ d.cls.getD ((d.nx.getD q.1.toNat []).getD x 0).toNat 0 < d.nx.length
  e : d.rep (d.dl q.1 x) = (fsL d.cls d.nx.length 0).getD (d.cls.getD ((d.nx.getD q.1.toNat []).getD x 0).toNat 0).toNat 0
/-plain-/
structure SHP (d : Dfa) (P : List W3) (k : Nat) : Prop where
  rg : 0 ≤ (P.getD k w30).1.1 ∧ (P.getD k w30).1.1 < d.nx.length
/-plain-/
def pa (m : Mly) : Bool := m.ot.flatten.any fun o => decide (1 < o)
theorem lv : ∀ (xs : List Int) (b : Int), 1 < xs.foldl max b ↔ 1 < b ∨ ∃ o, o ∈ xs ∧ 1 < o
  | [], b => by simp
  | x :: xs, b => by
    rw [List.foldl_cons, lv xs]
    constructor
    · rintro (h | ⟨o, ho, h⟩)
      · by_cases h2 : 1 < b
        · exact .inl h2
        · exact .inr ⟨x, aR, by omega⟩
      · exact .inr ⟨o, aG _ ho, h⟩
    · rintro (h | ⟨o, ho, h⟩)
      · exact .inl (by omega)
      · rcases List.mem_cons.1 ho with rfl | ho
        · exact .inl (by omega)
        · exact .inr ⟨o, ho, h⟩
theorem sm {xs : List Int} (h : 0 < xs.length) : 1 < mxL xs ↔ ∃ o, o ∈ xs ∧ 1 < o := by
  unfold mxL
  rw [lv]
  constructor
  · rintro (h2 | h2)
    · exact ⟨_, gq.2 ⟨0, h, rfl⟩, h2⟩
    · exact h2
  · exact .inr
theorem pj {m : Mly} : pa m = true ↔ ∃ o, o ∈ m.ot.flatten ∧ 1 < o := by unfold pa; rw [List.any_eq_true]; exact ⟨fun ⟨o, h1, h2⟩ => ⟨o, h1, by simpa using h2⟩, fun ⟨o, h1, h2⟩ => ⟨o, h1, by simpa using h2⟩⟩
theorem qf {m : Mly} (hm : MOK m) : 0 < m.ot.flatten.length := by
  have h := kb hm m.ot.length (Nat.le_refl _)
  rw [aE] at h
  have h1 := hm.i1; have h2 := hm.n1; have h3 := hm.ol
  have : 0 < (m.ot.length : Int) * m.inp := Int.mul_pos (by omega) (by omega)
  omega
theorem qr {xs : List Int} (h : 0 < xs.length) : 0 < (jq xs).length := by
  have : xs.getD 0 0 ∈ jq xs := ((dC xs).2 _).2 (gq.2 ⟨0, h, rfl⟩)
  obtain ⟨j, hj, _⟩ := gq.1 this
  omega
theorem sP {m : Mly} (hv : br m = 0) : 0 < (dN m).length ∧ (1 < mxL (dN m) ↔ pa m = true) := by
  have hm := nj hv
  rw [fK hv]
  have h := qr (qf hm)
  refine ⟨h, ?_⟩
  rw [sm h, pj]
  exact ⟨fun ⟨o, h1, h2⟩ => ⟨o, ((dC _).2 o).1 h1, h2⟩, fun ⟨o, h1, h2⟩ => ⟨o, ((dC _).2 o).2 h1, h2⟩⟩
/-plain-/
structure Mdl where
  nm : Bs
  ins : List Bs
  outs : List Bs
  m : Mly
def Mdl.cs (x : Mdl) : List AC := [.str x.nm, .list .str x.ins, .list .str x.outs, .int .i64 x.m.inp, .int .i64 x.m.st, .list (.list (.int .i64)) x.m.nx, .list (.list (.int .i64)) x.m.ot]
def Mdl.av (x : Mdl) : AV := .agg x.cs
def mvE (x : Mdl) : Int := if aX x.nm = false then 9 else if ¬ alE x.ins = 0 then alE x.ins else if ¬ alE x.outs = 0 then alE x.outs else if ¬ br x.m = 0 then br x.m else
  if x.m.inp = x.ins.length ∧ mxL (dN x.m) < x.outs.length then 0 else 2
theorem nB {x : Mdl} (h : aX x.nm = false) : mvE x = 9 := if_pos h
theorem tW {x : Mdl} (h : aX x.nm = true) (h2 : ¬ alE x.ins = 0) : mvE x = alE x.ins := by unfold mvE; rw [if_neg (by rw [h]; decide), if_pos h2]
theorem tV {x : Mdl} (h : aX x.nm = true) (h2 : alE x.ins = 0) (h3 : ¬ alE x.outs = 0) : mvE x = alE x.outs := by unfold mvE; rw [if_neg (by rw [h]; decide), if_neg (fun k => k h2), if_pos h3]
theorem oO {x : Mdl} (h : aX x.nm = true) (h2 : alE x.ins = 0) (h3 : alE x.outs = 0) (h4 : ¬ br x.m = 0) : mvE x = br x.m := by
  unfold mvE; rw [if_neg (by rw [h]; decide), if_neg (fun k => k h2), if_neg (fun k => k h3), if_pos h4]
theorem oe {x : Mdl} (h : aX x.nm = true) (h2 : alE x.ins = 0) (h3 : alE x.outs = 0) (h4 : br x.m = 0) (h5 : ¬ (x.m.inp = x.ins.length ∧ mxL (dN x.m) < x.outs.length)) : mvE x = 2 := by
  unfold mvE; rw [if_neg (by rw [h]; decide), if_neg (fun k => k h2), if_neg (fun k => k h3), if_neg (fun k => k h4), if_neg h5]
theorem m7 {x : Mdl} (h : aX x.nm = true) (h2 : alE x.ins = 0) (h3 : alE x.outs = 0) (h4 : br x.m = 0) (h5 : x.m.inp = x.ins.length ∧ mxL (dN x.m) < x.outs.length) : mvE x = 0 := by
  unfold mvE; rw [if_neg (by rw [h]; decide), if_neg (fun k => k h2), if_neg (fun k => k h3), if_neg (fun k => k h4), if_pos h5]
theorem nH {x : Mdl} (h : aX x.nm = true) {k : Nat} (hk : k < 2) (hq : ∀ q, q < k → alE ([x.ins, x.outs].getD q []) = 0) (hb : ¬ alE ([x.ins, x.outs].getD k []) = 0) : mvE x = alE ([x.ins, x.outs].getD k []) := by
  rcases (show k = 0 ∨ k = 1 by omega) with rfl | rfl
  · exact tW h hb
  · exact tV h (hq 0 (by omega)) hb
theorem sQ {m : Mly} (hv : br m = 0) : 0 < (dN m).length := (sP hv).1
/-plain-/
theorem qx {m : Mly} (h : br m = 0) {o : Int} : o ∈ dN m ↔ o ∈ m.ot.flatten := by rw [fK h, (dC _).2]
def tA (ls : List (List Int)) : Bool := ls.any fun r => decide (12 < r.length)
def g8 (m : Mly) : Bool := decide (12 < (m.nx.length : Int)) || decide (12 < (m.ot.length : Int)) || decide (6 < m.inp) || tA m.nx || tA m.ot
/-plain-/
def qn (i : Nat) : Bs := 113 :: Lib.decDigits i
def eG (x : Mdl) (s a : Nat) : Bs := qn s ++ [32] ++ x.ins.getD a [] ++ [32] ++ x.outs.getD ((x.m.ot.getD s []).getD a 0).toNat [] ++ [32] ++ qn ((x.m.nx.getD s []).getD a 0).toNat
def ew (x : Mdl) (s k : Nat) : List Bs := (List.range k).map (eG x s)
def qs (n : Nat) : List Bs := (List.range n).map qn
def hdT (x : Mdl) : List Bs := [[109, 97, 99, 104, 105, 110, 101, 32] ++ x.nm, [105, 110, 112, 117, 116, 115, 32] ++ Lib.join x.ins [32], [111, 117, 116, 112, 117, 116, 115, 32] ++ Lib.join x.outs [32], [115, 116, 97, 116, 101, 115, 32] ++ Lib.join (qs x.m.nx.length) [32], [115, 116, 97, 114, 116, 32] ++ qn x.m.st.toNat]
def dv (x : Mdl) (k : Nat) : List Bs := ((List.range k).map fun s => ew x s (x.m.nx.getD s []).length).flatten
def SM (x : Mdl) : Bs := if mvE x = 0 then Lib.join (hdT x ++ dv x x.m.nx.length) [10] ++ [10] else []
theorem kH {x : Mdl} (h : mvE x = 0) : SM x = Lib.join (hdT x ++ dv x x.m.nx.length) [10] ++ [10] := if_pos h
theorem ib {x : Mdl} (h : ¬ mvE x = 0) : SM x = [] := if_neg h
theorem om (x : Mdl) (s k : Nat) : ew x s (k + 1) = ew x s k ++ [eG x s k] := by unfold ew; rw [List.range_succ, List.map_append]; rfl
theorem rO (n : Nat) : qs (n + 1) = qs n ++ [qn n] := by unfold qs; rw [List.range_succ, List.map_append]; rfl
theorem gY (x : Mdl) (k : Nat) : dv x (k + 1) = dv x k ++ ew x k (x.m.nx.getD k []).length := by unfold dv; rw [List.range_succ, List.map_append, List.flatten_append]; simp
theorem cq (n : Nat) : (qs n).length = n := by unfold qs; simp
theorem cV {n i : Nat} (h : i < n) : (qs n).getD i [] = qn i := by unfold qs; simp [List.getD, h]
theorem kP (x : Mdl) (s k : Nat) : (ew x s k).length = k := by unfold ew; simp
structure MVO (x : Mdl) : Prop where
  nm : aX x.nm = true
  ai : AOK x.ins
  ao : AOK x.outs
  mo : MOK x.m
  vm : br x.m = 0
  il : x.m.inp = x.ins.length
  ol : ∀ s a : Nat, s < x.m.nx.length → (a : Int) < x.m.inp → (x.m.ot.getD s []).getD a 0 < x.outs.length
theorem jZ {x : Mdl} (h : mvE x = 0) : MVO x := by
  unfold mvE at h
  split at h
  · omega
  · split at h
    · omega
    · split at h
      · omega
      · split at h
        · omega
        · split at h
          · rename_i h1 h2 h3 h4 h5
            have hv : br x.m = 0 := by omega
            have hm := nj hv
            refine ⟨by simpa using h1, ig (by omega), ig (by omega), hm, hv, h5.1, fun s a hs ha => ?_⟩
            have hol := hm.ol
            have hq := hm.ql s hs
            have hin : (x.m.ot.getD s []).getD a 0 ∈ x.m.ot.flatten := List.mem_flatten.2 ⟨x.m.ot.getD s [], by simp [List.getD, hol, hs], gv (by omega)⟩
            have : (x.m.ot.getD s []).getD a 0 ≤ mxL (dN x.m) := (ko _ _).2 _ ((qx hv).2 hin)
            omega
          · omega
theorem eU {sep : Bs} {B : Nat} : ∀ {l : List Bs}, (∀ y, y ∈ l → y.length ≤ B) → (Lib.join l sep).length ≤ l.length * (B + sep.length)
  | [], _ => Nat.zero_le _
  | [y], h => by rw [Lib.join_one]; have := h y (by simp); simp only [ak, ay]; omega
  | y :: z :: l, h => by
    have h1 := h y (by simp)
    have h2 := eU (sep := sep) (l := z :: l) fun q hq => h q (aG _ hq)
    have e : Lib.join (y :: z :: l) sep = y ++ sep ++ Lib.join (z :: l) sep := by rw [Lib.join_cons, Lib.join_cons]; simp [Lib.joinTail]
    rw [e, ag, ag]
    have e2 : (y :: z :: l).length * (B + sep.length) = (z :: l).length * (B + sep.length) + (B + sep.length) := by simp only [ak]; rw [Nat.add_mul _ 1, Nat.one_mul]
    omega
theorem ow : ∀ n : Nat, n < 128 → (Lib.decDigits n).length ≤ 3 := by decide +kernel
theorem gn {n : Nat} (h : n < 128) : (qn n).length ≤ 4 := by have := ow n h; unfold qn; simp; omega
theorem kW {xs : List Bs} (h : AOK xs) (y : Bs) (hy : y ∈ xs) : y.length ≤ 32 := by
  obtain ⟨j, hj, rfl⟩ := mB.1 hy
  exact (d7 (h.nm j hj)).2.2
theorem gd {xs : List Bs} (h : AOK xs) (j : Nat) : (xs.getD j []).length ≤ 32 := by
  by_cases hj : j < xs.length
  · exact kW h _ (dz hj)
  · rw [List.getD, List.getElem?_eq_none (by omega)]; exact Nat.zero_le _
theorem qv {x : Mdl} (h : MVO x) {s a : Nat} (hs : s < x.m.nx.length) (ha : (a : Int) < x.m.inp) : (eG x s a).length ≤ 75 := by
  have h1 := gd h.ai a
  have h2 := gd h.ao ((x.m.ot.getD s []).getD a 0).toNat
  have hn2 := h.mo.n2
  have h3 := h.mo.nr s a hs ha
  have h4 := gn (n := s) (by omega)
  have h5 := gn (n := ((x.m.nx.getD s []).getD a 0).toNat) (by omega)
  unfold eG
  simp only [ag, ak, ay]
  omega
theorem fY {x : Mdl} (h : MVO x) (y : Bs) (hy : y ∈ hdT x) : y.length ≤ 2121 := by
  have h1 := (d7 h.nm).2.2
  have h2 := eU (sep := [32]) (B := 32) (kW h.ai)
  have h3 := eU (sep := [32]) (B := 32) (kW h.ao)
  have hn2 := h.mo.n2
  have hs2 := h.mo.s2
  have h4 := eU (sep := [32]) (B := 4) (l := qs x.m.nx.length) fun y hy => by
    unfold qs at hy
    obtain ⟨i, hi, rfl⟩ := List.mem_map.1 hy
    have := List.mem_range.1 hi
    exact gn (by omega)
  have h5 := gn (n := x.m.st.toNat) (by omega)
  have hi1 := h.ai.n1
  have ho1 := h.ao.n1
  rw [cq] at h4
  simp only [ak, ay] at h2 h3 h4
  unfold hdT at hy
  simp only [List.mem_cons, List.not_mem_nil, or_false] at hy
  rcases hy with rfl | rfl | rfl | rfl | rfl <;> simp only [ag, ak, ay] <;> omega
theorem ri {x : Mdl} (h : MVO x) {k : Nat} (hk : k ≤ x.m.nx.length) (y : Bs) (hy : y ∈ dv x k) : y.length ≤ 75 := by
  unfold dv at hy
  obtain ⟨l, hl, hy⟩ := List.mem_flatten.1 hy
  obtain ⟨s, hs, rfl⟩ := List.mem_map.1 hl
  have := List.mem_range.1 hs
  unfold ew at hy
  obtain ⟨a, ha, rfl⟩ := List.mem_map.1 hy
  have := List.mem_range.1 ha
  have := h.mo.rl s (by omega)
  exact qv h (by omega) (by omega)
theorem mq {x : Mdl} (h : MVO x) : ∀ {k : Nat}, k ≤ x.m.nx.length → (dv x k).length = k * x.ins.length
  | 0, _ => by simp [dv]
  | k + 1, hk => by
    rw [gY, ag, mq h (by omega), kP, Nat.add_mul, Nat.one_mul]
    have := h.mo.rl k (by omega)
    have := h.il
    omega
theorem gK {x : Mdl} (h : MVO x) {k : Nat} (hk : k ≤ x.m.nx.length) : (dv x k).length ≤ 8192 := by
  rw [mq h hk]
  have := h.mo.n2
  have := h.ai.n1
  exact Nat.le_trans (Nat.mul_le_mul (show k ≤ 128 by omega) (show x.ins.length ≤ 64 by exact h.ai.n1)) (by decide)
theorem ly {sep : Bs} : ∀ {a b : List Bs}, (Lib.join (a ++ b) sep).length ≤ (Lib.join a sep).length + sep.length + (Lib.join b sep).length
  | [], b => by simp [Lib.join_nil]
  | [y], [] => by rw [List.append_nil]; omega
  | [y], z :: b => by rw [List.singleton_append, Lib.join_one, Lib.join_cons, Lib.join_cons]; simp [Lib.joinTail]; omega
  | y :: z :: a, b => by
    have h := ly (sep := sep) (a := z :: a) (b := b)
    have e : ∀ l : List Bs, Lib.join (y :: z :: l) sep = y ++ sep ++ Lib.join (z :: l) sep := fun l => by rw [Lib.join_cons, Lib.join_cons]; simp [Lib.joinTail]
    rw [ah, ah, e, e, ag, ag, ag, ag]
    rw [ah] at h
    omega
theorem pB {x : Mdl} (h : MVO x) : (Lib.join (hdT x ++ dv x x.m.nx.length) [10]).length ≤ 700000 := by
  have h1 := eU (sep := [10]) (fY h)
  have h2 := eU (sep := [10]) (ri h (Nat.le_refl _))
  have h3 := gK h (Nat.le_refl _)
  have h4 := ly (sep := [10]) (a := hdT x) (b := dv x x.m.nx.length)
  have h5 : (hdT x).length = 5 := rfl
  have h6 : (dv x x.m.nx.length).length * (75 + [10].length) ≤ 8192 * 76 := Nat.mul_le_mul h3 (Nat.le_refl _)
  rw [h5] at h1
  simp only [ak, ay] at *
  omega
/-plain-/
def spB (c : UInt8) : Bs → List Bs
  | [] => [[]]
  | b :: s => if b = c then [] :: spB c s else (b :: (spB c s).headD []) :: (spB c s).tail
theorem mX (c b : UInt8) (s : Bs) : spB c (b :: s) = if b = c then [] :: spB c s else (b :: (spB c s).headD []) :: (spB c s).tail := rfl
theorem qU (c : UInt8) : ∀ s : Bs, spB c s = (spB c s).headD [] :: (spB c s).tail
  | [] => rfl
  | b :: s => by
    rw [mX]
    split <;> rfl
theorem jU {c : UInt8} : ∀ {s : Bs}, c ∉ s → spB c s = [s]
  | [], _ => rfl
  | b :: s, h => by
    simp only [List.mem_cons, not_or] at h
    rw [mX, if_neg (Ne.symm h.1), jU h.2]; rfl
theorem kl {c : UInt8} : ∀ {x : Bs} (s : Bs), c ∉ x → spB c (x ++ c :: s) = x :: spB c s
  | [], s, _ => by rw [am, mX, if_pos rfl]
  | b :: x, s, h => by
    simp only [List.mem_cons, not_or] at h
    rw [ah]
    rw [show spB c (b :: (x ++ c :: s)) = if b = c then [] :: spB c (x ++ c :: s) else (b :: (spB c (x ++ c :: s)).headD []) :: (spB c (x ++ c :: s)).tail from rfl]
    rw [if_neg (Ne.symm h.1), kl s h.2]; rfl
theorem kt (c : UInt8) (s : Bs) : 0 < (spB c s).length := by rw [qU]; simp
theorem mS {c : UInt8} : ∀ {s : Bs}, Lib.indexByte s c < 0 → c ∉ s
  | [], _ => by simp
  | b :: s, h => by
    unfold Lib.indexByte at h
    split at h
    · omega
    · rename_i hb
      have hb2 : ¬ c = b := fun e => hb (by rw [e]; exact beq_self_eq_true b)
      split at h
      · rename_i h2
        have h2 : Lib.indexByte s c = -1 := by simpa using h2
        simp only [List.mem_cons, not_or]
        exact ⟨hb2, mS (by omega)⟩
      · rename_i h2
        have h2 : ¬ Lib.indexByte s c = -1 := by simpa using h2
        have := Lib.indexByte_ge s c
        omega
theorem fP {c : UInt8} : ∀ {s : Bs}, 0 ≤ Lib.indexByte s c → (Lib.indexByte s c).toNat < s.length ∧ c ∉ s.take (Lib.indexByte s c).toNat ∧ s = s.take (Lib.indexByte s c).toNat ++ c :: s.drop ((Lib.indexByte s c).toNat + 1)
  | [], h => by unfold Lib.indexByte at h; omega
  | b :: s, h => by
    unfold Lib.indexByte at h ⊢
    split
    · rename_i hb
      have hb2 : b = c := by simpa using hb
      subst hb2
      exact ⟨by simp, by simp, by simp⟩
    · rename_i hb
      rw [if_neg hb] at h
      have hb2 : ¬ c = b := fun e => hb (by rw [e]; exact beq_self_eq_true b)
      split
      · rename_i h2; rw [if_pos h2] at h; omega
      · rename_i h2
        rw [if_neg h2] at h
        have h3 : ¬ Lib.indexByte s c = -1 := by simpa using h2
        have h4 := Lib.indexByte_ge s c
        obtain ⟨h5, h6, h7⟩ := fP (s := s) (c := c) (by omega)
        have e : (Lib.indexByte s c + 1).toNat = (Lib.indexByte s c).toNat + 1 := by omega
        rw [e]
        refine ⟨by simpa using h5, ?_, ?_⟩
        · rw [ci]; simp only [List.mem_cons, not_or]; exact ⟨hb2, h6⟩
        · rw [ci, List.drop_succ_cons, ah, ← h7]
theorem px {c : UInt8} {s : Bs} (h : 0 ≤ Lib.indexByte s c) : spB c s = s.take (Lib.indexByte s c).toNat :: spB c (s.drop ((Lib.indexByte s c).toNat + 1)) := by
  obtain ⟨_, h2, h3⟩ := fP h
  have := kl (s.drop ((Lib.indexByte s c).toNat + 1)) h2
  rw [← h3] at this
  exact this
theorem ln (c : UInt8) : ∀ s : Bs, (spB c s).length = Lib.countByte s c + 1
  | [] => rfl
  | b :: s => by
    have ih := ln c s
    have hp := kt c s
    rw [mX]
    unfold Lib.countByte at ih ⊢
    rw [List.count_cons]
    split
    · rename_i e; subst e; simp; omega
    · rename_i e
      have e2 : (b == c) = false := by simpa using e
      rw [e2]
      simp only [ak, List.length_tail, Bool.false_eq_true, if_false]
      omega
theorem qY (c : UInt8) (s : Bs) : (spB c s).length ≤ s.length + 1 := by
  rw [ln]; have := List.count_le_length (a := c) (l := s); unfold Lib.countByte; omega
theorem qj (c : UInt8) (s : Bs) : Lib.countByte s c ≤ s.length := List.count_le_length
theorem dn (x y sep : Bs) (r : List Bs) : Lib.join (x :: y :: r) sep = x ++ sep ++ Lib.join (y :: r) sep := by rw [Lib.join_cons, Lib.join_cons]; simp [Lib.joinTail]
theorem la {c : UInt8} : ∀ {x : Bs} {r : List Bs}, (∀ y, y ∈ x :: r → c ∉ y) → spB c (Lib.join (x :: r) [c]) = x :: r
  | x, [], h => by rw [Lib.join_one]; exact jU (h x (by simp))
  | x, y :: r, h => by
    have e : Lib.join (x :: y :: r) [c] = x ++ c :: Lib.join (y :: r) [c] := by rw [dn]; simp
    rw [e, kl _ (h x (by simp)), la fun z hz => h z (aG _ hz)]
/-plain-/
def lnE (s : Bs) : Nat := if Lib.indexByte s 10 < 0 then s.length else (Lib.indexByte s 10).toNat + 1
def aN (s : Bs) : Nat → Bs
  | 0 => s
  | k + 1 => (aN s k).drop (lnE (aN s k))
def bM (s : Bs) (k : Nat) : Bs := (aN s k).take (lnE (aN s k))
theorem t0 (s : Bs) : lnE s ≤ s.length := by
  unfold lnE
  split
  · exact Nat.le_refl _
  · exact (fP (by omega)).1
theorem lE {s : Bs} (h : s ≠ []) : 1 ≤ lnE s := by
  unfold lnE
  split
  · exact List.length_pos_iff.2 h
  · omega
theorem gi (s : Bs) : ∀ k, aN s k ≠ [] → k + (aN s k).length ≤ s.length
  | 0, _ => by simp [aN]
  | k + 1, h => by
    have h0 : aN s k ≠ [] := fun e => h (by simp [aN, e])
    have ih := gi s k h0
    have h1 := lE h0
    have h2 := t0 (aN s k)
    simp only [aN, List.length_drop]
    omega
theorem oM (s : Bs) (k : Nat) : (aN s k).length ≤ s.length := by
  by_cases h : aN s k = []
  · rw [h]; exact Nat.zero_le _
  · have := gi s k h; omega
theorem pL (l : Bs) (n : Nat) : (⟨l.toArray⟩ : ByteArray).extract 0 n = ⟨(l.take n).toArray⟩ := by
  apply ByteArray.ext
  simp [ByteArray.data_extract]
theorem oN (l : Bs) (n : Nat) : (⟨l.toArray⟩ : ByteArray).extract n l.length = ⟨(l.drop n).toArray⟩ := by
  apply ByteArray.ext
  simp [ByteArray.data_extract]
  rw [List.take_of_length_le (by rw [List.length_drop]; exact Nat.le_refl _)]
/-plain-/
def da (s p : Bs) : Bool := decide (p.length ≤ s.length) && decide (s.drop (s.length - p.length) = p)
theorem qO {s p : Bs} : da s p = true ↔ p <:+ s := by
  unfold da
  rw [Bool.and_eq_true, decide_eq_true_eq, decide_eq_true_eq, List.suffix_iff_eq_drop]
  constructor
  · intro h; exact h.2.symm
  · intro h
    refine ⟨?_, h.symm⟩
    have := congrArg List.length h
    rw [List.length_drop] at this
    omega
/-plain-/
def cf (b n : Nat) : List AC := (List.range n).map fun i => .row (b + i) 0
def eu (I : TypeId) (xs : List (List Int)) : List AO := xs.map fun l => .row (.int .i64) I 0 l
def cK (S I : TypeId) (b : Nat) (xs : List (List Int)) : List AO := .rowc S 1 0 (cf (b + 1) xs.length) :: eu I xs
def et (L0 : List AO) (S I : TypeId) (n k : Nat) (xs : List (List Int)) : List AO := L0 ++ .rowc S 1 0 (cf (L0.length + 1) k ++ List.replicate (n - k) .nils) :: eu I xs
theorem cz (b n : Nat) : (cf b n).length = n := by unfold cf; simp
theorem co (I : TypeId) (xs : List (List Int)) : (eu I xs).length = xs.length := by unfold eu; simp
theorem tg (L0 : List AO) (S I : TypeId) (n : Nat) : et L0 S I n 0 [] = L0 ++ [.rowc S 1 0 (List.replicate n .nils)] := by unfold et cf eu; simp
theorem qN (L0 : List AO) (S I : TypeId) (n : Nat) (xs : List (List Int)) (h : xs.length = n) : et L0 S I n n xs = L0 ++ cK S I L0.length xs := by unfold et cK; rw [h, Nat.sub_self, List.replicate_zero, List.append_nil]
theorem iu (L0 : List AO) (S I : TypeId) (n k : Nat) (xs : List (List Int)) : (et L0 S I n k xs)[L0.length]? = some (.rowc S 1 0 (cf (L0.length + 1) k ++ List.replicate (n - k) .nils)) := by unfold et; simp
theorem iO (L0 : List AO) (S I : TypeId) (n k : Nat) (xs : List (List Int)) : (et L0 S I n k xs).length = L0.length + 1 + xs.length := by unfold et; simp [co]; omega
theorem je (L0 : List AO) (S I : TypeId) (n k : Nat) (xs : List (List Int)) (l : List Int) : et L0 S I n k xs ++ [.row (.int .i64) I 0 l] = et L0 S I n k (xs ++ [l]) := by unfold et eu; simp
theorem mc {b n k : Nat} (h : k ≤ n) : (cf b k ++ List.replicate (n - k) AC.nils).length = n := by rw [ag, cz, aH]; omega
theorem pt {b n k : Nat} (h : k < n) : aY (cf b k ++ List.replicate (n - k) .nils) k [.row (b + k) 0] = cf b (k + 1) ++ List.replicate (n - (k + 1)) .nils := by
  unfold aY
  have e : cf b (k + 1) = cf b k ++ [.row (b + k) 0] := by unfold cf; rw [List.range_succ, List.map_append]; rfl
  rw [e, List.take_append_of_le_length (by rw [cz]; exact Nat.le_refl _), List.take_of_length_le (by rw [cz]; exact Nat.le_refl _), List.drop_append, cz, List.drop_of_length_le (by rw [cz]; simp), am]
  simp only [ak, ay, List.drop_replicate]
  rw [show n - k - (k + (0 + 1) - k) = n - (k + 1) by omega]
theorem rh (L0 : List AO) (S I : TypeId) {n k : Nat} (xs : List (List Int)) (h : k < n) : (et L0 S I n k xs).set L0.length (.rowc S 1 0 (aY (cf (L0.length + 1) k ++ List.replicate (n - k) .nils) k [.row (L0.length + 1 + k) 0])) = et L0 S I n (k + 1) xs := by
  unfold et; rw [pt h, List.set_append]; simp
/-plain-/
structure RS where
  nm : Bs
  ins : List Bs
  outs : List Bs
  inp : Int
  st : Int
  nx : List (List Int)
  ot : List (List Int)
  sts : List Bs
  rd : Nat
  lf : Int
  tb : Bool
def rs0 : RS := ⟨[], [], [], 0, 0, [], [], [], 0, 0, false⟩
def rdC (r : RS) (a b : AC) : List AC := [.str r.nm, .list .str r.ins, .list .str r.outs, .int .i64 r.inp, .int .i64 r.st, a, b, .list .str r.sts, .int .i64 (r.rd : Int), .int .i64 r.lf]
def rdT (S I : TypeId) (r : RS) : List AO := if r.tb = true then cK S I 1 r.nx ++ cK S I (2 + r.nx.length) r.ot else []
def rdA (r : RS) : AC := if r.tb = true then .rwc 1 0 else .nils
def rdB (r : RS) : AC := if r.tb = true then .rwc (2 + r.nx.length) 0 else .nils
def SH (R S I : TypeId) (r : RS) : List AO := .vars R (rdC r (rdA r) (rdB r)) :: rdT S I r
def eP (n : Nat) (L1 : List AO) : List (Nat × AO) := (List.range n).map fun k => (k, L1.getD k (.dead 0))
theorem i6 : ∀ (n : Nat) {L0 L1 : List AO}, n ≤ L0.length → n ≤ L1.length → bo L0 (eP n L1) = L1.take n ++ L0.drop n
  | 0, L0, L1, _, _ => by simp [eP, bo]
  | n + 1, L0, L1, h0, h1 => by
    have ih := i6 n (L0 := L0) (L1 := L1) (by omega) (by omega)
    have e : eP (n + 1) L1 = eP n L1 ++ [(n, L1.getD n (.dead 0))] := by unfold eP; rw [List.range_succ, List.map_append]; rfl
    rw [e, i8, ih, List.set_append, if_neg (by rw [List.length_take]; omega)]
    have e1 : L1.getD n (.dead 0) = L1[n] := by simp [List.getD, List.getElem?_eq_getElem (show n < L1.length by omega)]
    have e2 : L1.take (n + 1) = L1.take n ++ [L1[n]] := by rw [List.take_add_one, List.getElem?_eq_getElem (show n < L1.length by omega)]; rfl
    rw [e1, e2, List.length_take, Nat.min_eq_left (by omega), Nat.sub_self, List.drop_eq_getElem_cons (show n < L0.length by omega), bQ, List.append_assoc]; rfl
theorem aC {L0 L1 : List AO} (h : L0.length ≤ L1.length) : bo L0 (eP L0.length L1) ++ L1.drop L0.length = L1 := by
  rw [i6 _ (Nat.le_refl _) h, List.drop_length, List.append_nil, List.take_append_drop]
def kwd (i : Nat) : Bs := [[109, 97, 99, 104, 105, 110, 101], [105, 110, 112, 117, 116, 115], [111, 117, 116, 112, 117, 116, 115], [115, 116, 97, 116, 101, 115], [115, 116, 97, 114, 116]].getD i []
def ixB (l : List Bs) (x : Bs) : Int := if x ∈ l then (pos l x : Int) else -1
def dh (l : List Bs) : Int := if l.length = 0 then 19 else if 128 < l.length then 11 else bW (nmE l) l.length
def fy (n : Nat) (k : Nat) : List (List Int) := List.replicate n (List.replicate k (-1))
def gC (r : RS) (l : List Bs) : RS := { r with sts := l, lf := l.length * r.ins.length, inp := r.ins.length, st := 0, nx := fy l.length r.ins.length, ot := fy l.length r.ins.length, tb := true }
def iJ (r : RS) (l : List Bs) : RS × Int := if dh l = 0 then (gC r l, 0) else (r, dh l)
def b0 (r : RS) (w : List Bs) : RS × Int :=
  if ¬ w.getD 0 [] = kwd r.rd ∨ ((r.rd = 0 ∨ r.rd = 4) ∧ ¬ w.length = 2) then (r, 5)
  else if r.rd = 0 then ({ r with nm := w.getD 1 [] }, if aX (w.getD 1 []) = true then 0 else 9)
  else if r.rd = 1 then ({ r with ins := w.drop 1 }, alE (w.drop 1))
  else if r.rd = 2 then ({ r with outs := w.drop 1 }, alE (w.drop 1))
  else if r.rd = 3 then iJ r (w.drop 1)
  else ({ r with st := ixB r.sts (w.getD 1 []) }, if ixB r.sts (w.getD 1 []) < 0 then 8 else 0)
def fA (r : RS) (s a : Nat) (t o : Int) : RS := { r with nx := r.nx.set s ((r.nx.getD s []).set a t), ot := r.ot.set s ((r.ot.getD s []).set a o), lf := r.lf - 1 }
def bI (r : RS) (w : List Bs) : RS × Int :=
  if ¬ w.length = 4 then (r, 5)
  else if w.getD 0 [] ∉ r.sts ∨ w.getD 3 [] ∉ r.sts ∨ w.getD 1 [] ∉ r.ins ∨ w.getD 2 [] ∉ r.outs then (r, 8)
  else if 0 ≤ (r.nx.getD (pos r.sts (w.getD 0 [])) []).getD (pos r.ins (w.getD 1 [])) 0 then (r, 7)
  else (fA r (pos r.sts (w.getD 0 [])) (pos r.ins (w.getD 1 [])) (pos r.sts (w.getD 3 [])) (pos r.outs (w.getD 2 [])), 0)
def eK (r : RS) (w : List Bs) : RS × Int := if r.rd < 5 then b0 r w else bI r w
def cp (p : RS × Int) : RS × Int := ({ p.1 with rd := p.1.rd + 1 }, p.2)
def bc (r : RS) (s : Bs) : RS × Int :=
  if da s [10] = false then (r, 5)
  else if s.take (s.length - 1) = [] ∨ (s.take (s.length - 1)).getD 0 0 = 35 then (r, 0)
  else if [] ∈ spB 32 (s.take (s.length - 1)) then (r, 5)
  else cp (eK r (spB 32 (s.take (s.length - 1))))
theorem lu {l : List Bs} (h : l.length = 0) : dh l = 19 := if_pos h
theorem fW {l : List Bs} (h : ¬ l.length = 0) (h2 : 128 < l.length) : dh l = 11 := by unfold dh; rw [if_neg h, if_pos h2]
theorem lI {l : List Bs} (h : ¬ l.length = 0) (h2 : ¬ 128 < l.length) {k : Nat} (hk : k < l.length) (hq : ∀ q, q < k → nmE l q = 0) (hb : aX (l.getD k []) = false) : dh l = 9 := by
  have e : nmE l k = 9 := if_pos hb
  unfold dh; rw [if_neg h, if_neg h2, bg hq hk (by rw [e]; decide), e]
theorem ll {l : List Bs} (h : ¬ l.length = 0) (h2 : ¬ 128 < l.length) {k : Nat} (hk : k < l.length) (hq : ∀ q, q < k → nmE l q = 0) (hb : aX (l.getD k []) = true) (hi : l.getD k [] ∈ l.take k) : dh l = 7 := by
  have e : nmE l k = 7 := by unfold nmE; rw [if_neg (by rw [hb]; decide), if_pos hi]
  unfold dh; rw [if_neg h, if_neg h2, bg hq hk (by rw [e]; decide), e]
theorem ga {l : List Bs} (h : ¬ l.length = 0) (h2 : ¬ 128 < l.length) (hq : ∀ q, q < l.length → nmE l q = 0) : dh l = 0 := by
  unfold dh; rw [if_neg h, if_neg h2, bP hq]
def iN (R S I : TypeId) (r : RS) (a b : AC) (U : List AO) (l : List Bs) : List AO :=
  if dh l = 0 then .vars R (rdC (gC r l) (.rwc (U.length + 1) 0) (.rwc (U.length + 2 + l.length) 0)) :: (U ++ cK S I (U.length + 1) (fy l.length r.ins.length) ++ cK S I (U.length + 2 + l.length) (fy l.length r.ins.length))
  else .vars R (rdC r a b) :: U
theorem bp {R S I : TypeId} {r : RS} {a b : AC} {U : List AO} {l : List Bs} {e : Int} (he : dh l = e) (h0 : ¬ e = 0) : iN R S I r a b U l = .vars R (rdC r a b) :: U := if_neg (by rw [he]; exact h0)
theorem eR {R S I : TypeId} {r : RS} {a b : AC} {U : List AO} {l : List Bs} (he : dh l = 0) : iN R S I r a b U l = .vars R (rdC (gC r l) (.rwc (U.length + 1) 0) (.rwc (U.length + 2 + l.length) 0)) :: (U ++ cK S I (U.length + 1) (fy l.length r.ins.length) ++ cK S I (U.length + 2 + l.length) (fy l.length r.ins.length)) := if_pos he
theorem bY {R S I : TypeId} {r : RS} {a b : AC} {U : List AO} {l : List Bs} {x : AO} : (x :: U).length ≤ (iN R S I r a b U l).length := by
  unfold iN
  split
  · simp only [ak, ag]; omega
  · exact Nat.le_refl _
theorem dZ (S I : TypeId) (b : Nat) (xs : List (List Int)) : (cK S I b xs).length = xs.length + 1 := by unfold cK; simp [co]
theorem jc (n k : Nat) : (fy n k).length = n := by unfold fy; simp
def eJ (R S I : TypeId) (r : RS) (a b : AC) (U : List AO) (w : List Bs) : List AO :=
  if r.rd = 3 ∧ w.getD 0 [] = kwd 3 then iN R S I r a b U (w.drop 1) else .vars R (rdC (b0 r w).1 a b) :: U
theorem j8 {R S I : TypeId} {r : RS} {a b : AC} {U : List AO} {w : List Bs} (h : ¬ (r.rd = 3 ∧ w.getD 0 [] = kwd 3)) : eJ R S I r a b U w = .vars R (rdC (b0 r w).1 a b) :: U := if_neg h
theorem o2 {R S I : TypeId} {r : RS} {a b : AC} {U : List AO} {w : List Bs} (h : r.rd = 3 ∧ w.getD 0 [] = kwd 3) : eJ R S I r a b U w = iN R S I r a b U (w.drop 1) := if_pos h
theorem cw {R S I : TypeId} {r : RS} {a b : AC} {U : List AO} {w : List Bs} {x : AO} : (x :: U).length ≤ (eJ R S I r a b U w).length := by
  unfold eJ
  split
  · exact bY
  · exact Nat.le_refl _
theorem js {R S I : TypeId} {r : RS} {a b : AC} {U : List AO} {w : List Bs} (h : ¬ w.getD 0 [] = kwd r.rd ∨ ((r.rd : Int) = 0 ∨ (r.rd : Int) = 4) ∧ ¬ (w.length : Int) = 2) : (b0 r w).2 = 5 ∧ eJ R S I r a b U w = .vars R (rdC r a b) :: U := by
  have e : b0 r w = (r, 5) := if_pos (by rcases h with h | ⟨h1, h2⟩; exact .inl h; exact .inr ⟨by omega, by omega⟩)
  refine ⟨by rw [e], ?_⟩
  rw [j8, e]
  rintro ⟨q1, q2⟩
  rcases h with h | h
  · exact h (by rw [q1]; exact q2)
  · omega
theorem dr {r : RS} {w : List Bs} (h : w.getD 0 [] = kwd r.rd ∧ (¬ (r.rd : Int) = 0 ∧ ¬ (r.rd : Int) = 4 ∨ (w.length : Int) = 2)) : b0 r w = if r.rd = 0 then ({ r with nm := w.getD 1 [] }, if aX (w.getD 1 []) = true then 0 else 9)
  else if r.rd = 1 then ({ r with ins := w.drop 1 }, alE (w.drop 1))
  else if r.rd = 2 then ({ r with outs := w.drop 1 }, alE (w.drop 1))
  else if r.rd = 3 then iJ r (w.drop 1)
  else ({ r with st := ixB r.sts (w.getD 1 []) }, if ixB r.sts (w.getD 1 []) < 0 then 8 else 0) := by
  unfold b0
  rw [if_neg]
  rintro (q | q)
  · exact q h.1
  · omega
theorem fR {R S I : TypeId} {r r' : RS} {a b : AC} {U : List AO} {w : List Bs} {e : Int} (h3 : ¬ r.rd = 3) (h : b0 r w = (r', e)) : (b0 r w).2 = e ∧ eJ R S I r a b U w = .vars R (rdC r' a b) :: U := by
  refine ⟨by rw [h], ?_⟩
  rw [j8 (fun q => h3 q.1), h]
theorem jv {R S I : TypeId} {r : RS} {a b : AC} {U : List AO} {w : List Bs} (h : w.getD 0 [] = kwd r.rd ∧ (¬ (r.rd : Int) = 0 ∧ ¬ (r.rd : Int) = 4 ∨ (w.length : Int) = 2)) (h3 : r.rd = 3) : (b0 r w).2 = dh (w.drop 1) ∧ eJ R S I r a b U w = iN R S I r a b U (w.drop 1) := by
  refine ⟨?_, o2 ⟨h3, by rw [← h3]; exact h.1⟩⟩
  rw [dr h, if_neg (by omega), if_neg (by omega), if_neg (by omega), if_pos h3]
  unfold iJ
  split
  · rename_i e; exact e.symm
  · rfl
def RT (R S I : TypeId) (r : RS) : List AO := .vars R (rdC r (.rwc 1 0) (.rwc (2 + r.nx.length) 0)) :: (cK S I 1 r.nx ++ cK S I (2 + r.nx.length) r.ot)
theorem kV {I : TypeId} {xs : List (List Int)} {s : Nat} (h : s < xs.length) : (eu I xs)[s]? = some (.row (.int .i64) I 0 (xs.getD s [])) := by unfold eu; simp [List.getD, List.getElem?_eq_getElem h]
theorem lB {I : TypeId} {xs : List (List Int)} {s : Nat} (x : List Int) : (eu I xs).set s (.row (.int .i64) I 0 x) = eu I (xs.set s x) := by unfold eu; rw [List.map_set]
theorem lg {b n s : Nat} (h : s < n) : (cf b n).getD s .junk = .row (b + s) 0 := by unfold cf; simp [List.getD, h]
theorem pQ (R S I : TypeId) (r : RS) : (RT R S I r).length = 3 + r.nx.length + r.ot.length := by unfold RT; simp only [ak, ag, dZ]; omega
theorem eB (R S I : TypeId) (r : RS) : (RT R S I r)[0]? = some (.vars R (rdC r (.rwc 1 0) (.rwc (2 + r.nx.length) 0))) := rfl
theorem pY (R S I : TypeId) (r : RS) : (RT R S I r)[1]? = some (.rowc S 1 0 (cf 2 r.nx.length)) := rfl
theorem tw {R S I : TypeId} {r : RS} {s : Nat} (h : s < r.nx.length) : (RT R S I r)[2 + s]? = some (.row (.int .i64) I 0 (r.nx.getD s [])) := by
  unfold RT cK
  rw [show 2 + s = (s + 1) + 1 by omega, List.getElem?_cons_succ, ah, List.getElem?_cons_succ, List.getElem?_append_left (by rw [co]; exact h)]
  exact kV h
theorem rB (R S I : TypeId) (r : RS) : (RT R S I r)[2 + r.nx.length]? = some (.rowc S 1 0 (cf (3 + r.nx.length) r.ot.length)) := by
  unfold RT cK
  rw [show 2 + r.nx.length = (r.nx.length + 1) + 1 by omega, List.getElem?_cons_succ, ah, List.getElem?_cons_succ, List.getElem?_append_right (by rw [co]; exact Nat.le_refl _), co, Nat.sub_self]
  rw [show r.nx.length + 1 + 1 + 1 = 3 + r.nx.length by omega]; rfl
theorem tF {R S I : TypeId} {r : RS} {s : Nat} (h : s < r.ot.length) : (RT R S I r)[3 + r.nx.length + s]? = some (.row (.int .i64) I 0 (r.ot.getD s [])) := by
  unfold RT cK
  rw [show 3 + r.nx.length + s = (r.nx.length + (s + 1)) + 1 + 1 by omega, List.getElem?_cons_succ, ah, List.getElem?_cons_succ, List.getElem?_append_right (by rw [co]; omega), co, show r.nx.length + (s + 1) - r.nx.length = s + 1 by omega, List.getElem?_cons_succ]
  exact kV h
theorem tN {R S I : TypeId} {r : RS} {s : Nat} (h : s < r.nx.length) (x : List Int) : (RT R S I r).set (2 + s) (.row (.int .i64) I 0 x) = RT R S I { r with nx := r.nx.set s x } := by
  unfold RT cK
  rw [show 2 + s = (s + 1) + 1 by omega, ba, ah, ba, List.set_append, if_pos (by rw [co]; exact h), lB]
  simp only [List.length_set]; rfl
theorem tM {R S I : TypeId} {r : RS} {s : Nat} (h : s < r.ot.length) (x : List Int) : (RT R S I r).set (3 + r.nx.length + s) (.row (.int .i64) I 0 x) = RT R S I { r with ot := r.ot.set s x } := by
  unfold RT cK
  rw [show 3 + r.nx.length + s = (r.nx.length + (s + 1)) + 1 + 1 by omega, ba, ah, ba, List.set_append, if_neg (by rw [co]; omega), co, show r.nx.length + (s + 1) - r.nx.length = s + 1 by omega, ba, lB]
  simp only [List.length_set]; rfl
theorem tS {R S I : TypeId} {r : RS} (x : Int) : (RT R S I r).set 0 (.vars R [.str r.nm, .list .str r.ins, .list .str r.outs, .int .i64 r.inp, .int .i64 r.st, .rwc 1 0, .rwc (2 + r.nx.length) 0, .list .str r.sts, .int .i64 (r.rd : Int), .int .i64 x]) = RT R S I { r with lf := x } := rfl
structure ROK (r : RS) : Prop where
  nl : r.nx.length = r.sts.length
  ol : r.ot.length = r.sts.length
  n2 : r.sts.length ≤ 128
  i1 : 1 ≤ r.ins.length
  i2 : r.ins.length ≤ 64
  rl : ∀ s, s < r.sts.length → (r.nx.getD s []).length = r.ins.length
  ql : ∀ s, s < r.sts.length → (r.ot.getD s []).length = r.ins.length
  l0 : -2000000 ≤ r.lf
  l1 : r.lf ≤ 1000000
theorem sO {s1 s2 i1 o1 : List Bs} {a b c d : Bs} {x y : Int} (h : ((0 ≤ (if a ∈ s1 then x else -1) ∧ 0 ≤ (if b ∈ s2 then y else -1)) ∧ c ∈ i1) ∧ d ∈ o1) : a ∈ s1 ∧ b ∈ s2 ∧ c ∈ i1 ∧ d ∈ o1 := by
  obtain ⟨⟨⟨h1, h2⟩, h3⟩, h4⟩ := h
  refine ⟨?_, ?_, h3, h4⟩
  · split at h1
    · assumption
    · omega
  · split at h2
    · assumption
    · omega
theorem ij {s1 s2 i1 o1 : List Bs} {a b c d : Bs} {x y : Nat} (h : (((if a ∈ s1 then (x : Int) else -1) < 0 ∨ (if b ∈ s2 then (y : Int) else -1) < 0) ∨ ¬ c ∈ i1) ∨ ¬ d ∈ o1) : a ∉ s1 ∨ b ∉ s2 ∨ c ∉ i1 ∨ d ∉ o1 := by
  rcases h with ((h | h) | h) | h
  · split at h
    · omega
    · exact .inl (by assumption)
  · split at h
    · omega
    · exact .inr (.inl (by assumption))
  · exact .inr (.inr (.inl h))
  · exact .inr (.inr (.inr h))
theorem nA {r : RS} {w : List Bs} (h : ¬ (w.length : Int) = 4) : bI r w = (r, 5) := if_pos (by omega)
theorem nb {r : RS} {w : List Bs} (h : (w.length : Int) = 4) (h2 : w.getD 0 [] ∉ r.sts ∨ w.getD 3 [] ∉ r.sts ∨ w.getD 1 [] ∉ r.ins ∨ w.getD 2 [] ∉ r.outs) : bI r w = (r, 8) := by unfold bI; rw [if_neg (by omega), if_pos h2]
theorem nh {r : RS} {w : List Bs} (h : (w.length : Int) = 4) (h0 : w.getD 0 [] ∈ r.sts) (h3 : w.getD 3 [] ∈ r.sts) (h1 : w.getD 1 [] ∈ r.ins) (h2 : w.getD 2 [] ∈ r.outs) (h4 : 0 ≤ (r.nx.getD (pos r.sts (w.getD 0 [])) []).getD (pos r.ins (w.getD 1 [])) 0) : bI r w = (r, 7) := by
  unfold bI; rw [if_neg (by omega), if_neg (by rintro (q | q | q | q) <;> exact q (by assumption)), if_pos h4]
theorem kK {r : RS} {w : List Bs} (h : (w.length : Int) = 4) (h0 : w.getD 0 [] ∈ r.sts) (h3 : w.getD 3 [] ∈ r.sts) (h1 : w.getD 1 [] ∈ r.ins) (h2 : w.getD 2 [] ∈ r.outs) (h4 : ¬ 0 ≤ (r.nx.getD (pos r.sts (w.getD 0 [])) []).getD (pos r.ins (w.getD 1 [])) 0) :
    bI r w = (fA r (pos r.sts (w.getD 0 [])) (pos r.ins (w.getD 1 [])) (pos r.sts (w.getD 3 [])) (pos r.outs (w.getD 2 [])), 0) := by
  unfold bI; rw [if_neg (by omega), if_neg (by rintro (q | q | q | q) <;> exact q (by assumption)), if_neg h4]
theorem i3 (R S I : TypeId) (r : RS) (w : List Bs) : (RT R S I r).length ≤ (RT R S I (bI r w).1).length := by
  rw [pQ, pQ]
  unfold bI fA
  split
  · exact Nat.le_refl _
  · split
    · exact Nat.le_refl _
    · split
      · exact Nat.le_refl _
      · simp
theorem mJ (R S I : TypeId) (r : RS) : (SH R S I r)[0]? = some (.vars R (rdC r (rdA r) (rdB r))) := rfl
theorem rU (R S I : TypeId) (r : RS) : (SH R S I r).set 0 (.vars R [.str r.nm, .list .str r.ins, .list .str r.outs, .int .i64 r.inp, .int .i64 r.st, rdA r, rdB r, .list .str r.sts, .int .i64 ((r.rd : Int) + 1), .int .i64 r.lf]) = SH R S I { r with rd := r.rd + 1 } := rfl
theorem eo {R S I : TypeId} {r : RS} (h : r.tb = true) : SH R S I r = RT R S I r := by unfold SH RT rdA rdB rdT; rw [if_pos h, if_pos h, if_pos h]
theorem qQ {r : RS} {w : List Bs} (h : ¬ (r.rd = 3 ∧ w.getD 0 [] = kwd 3)) : (b0 r w).1.tb = r.tb ∧ (b0 r w).1.nx = r.nx ∧ (b0 r w).1.ot = r.ot := by
  unfold b0
  split
  · exact ⟨rfl, rfl, rfl⟩
  · rename_i h1
    split
    · exact ⟨rfl, rfl, rfl⟩
    · split
      · exact ⟨rfl, rfl, rfl⟩
      · split
        · exact ⟨rfl, rfl, rfl⟩
        · split
          · rename_i h3
            exfalso
            refine h ⟨h3, ?_⟩
            rw [← h3]
            exact Decidable.byContradiction fun q => h1 (.inl q)
          · exact ⟨rfl, rfl, rfl⟩
theorem lW {R S I : TypeId} {r : RS} {w : List Bs} (h3 : r.rd = 3 → r.tb = false) : eJ R S I r (rdA r) (rdB r) (rdT S I r) w = SH R S I (b0 r w).1 := by
  by_cases h : r.rd = 3 ∧ w.getD 0 [] = kwd 3
  · rw [o2 h]
    have e : b0 r w = iJ r (w.drop 1) := by
      unfold b0
      rw [if_neg (by rintro (q | q); exact q (by rw [h.1]; exact h.2); omega), if_neg (by omega), if_neg (by omega), if_neg (by omega), if_pos h.1]
    have ht := h3 h.1
    have hT : rdT S I r = [] := by unfold rdT; rw [ht]; rfl
    have hA : rdA r = .nils := by unfold rdA; rw [ht]; rfl
    rw [e, hT]
    unfold iJ
    by_cases h0 : dh (w.drop 1) = 0
    · rw [if_pos h0, eR h0]
      rw [eo (show (gC r (w.drop 1)).tb = true from rfl)]
      unfold RT
      simp only [am, ay, Nat.zero_add]
      rw [show (gC r (w.drop 1)).nx.length = (w.drop 1).length by unfold gC; simp [jc]]
      rfl
    · rw [if_neg h0, bp rfl h0]
      unfold SH
      rw [hT]
  · rw [j8 h]
    obtain ⟨h1, h2, h4⟩ := qQ h
    unfold SH rdA rdB rdT
    rw [h1, h2, h4]
theorem nY {r : RS} {w : List Bs} : (bI r w).1.tb = r.tb := by
  unfold bI fA
  split
  · rfl
  · split
    · rfl
    · split <;> rfl
structure LOK (r : RS) : Prop where
  h3 : r.rd = 3 → r.tb = false ∧ 1 ≤ r.ins.length ∧ r.ins.length ≤ 64
  h5 : 5 ≤ r.rd → r.tb = true ∧ ROK r ∧ r.outs.length ≤ 1000000
  rl : r.rd ≤ 2000000
theorem pE {R S I : TypeId} {r : RS} (h : r.rd = 3 → r.tb = false) (w : List Bs) : (SH R S I r).length ≤ (SH R S I (b0 r w).1).length := by rw [← lW h]; exact cw
theorem pR {R S I : TypeId} {r : RS} (h : r.tb = true) (w : List Bs) : (SH R S I r).length ≤ (SH R S I (bI r w).1).length := by rw [eo h, eo (nY.trans h)]; exact i3 ..
theorem rj {s : Bs} {k : Nat} : ((s.getD k 0).toNat : Int) = 35 ↔ s.getD k 0 = 35 := by
  constructor
  · intro h
    apply UInt8.toNat_inj.1
    have e : ((35 : UInt8).toNat : Int) = 35 := by decide
    omega
  · intro h; rw [h]; decide
theorem mh {r : RS} {w : List Bs} : (b0 r w).1.rd = r.rd := by
  unfold b0 iJ gC
  repeat' split
  all_goals rfl
theorem oG {r : RS} {w : List Bs} : (bI r w).1.rd = r.rd := by
  unfold bI fA
  repeat' split
  all_goals rfl
theorem fM {r : RS} {s : Bs} (h : da s [10] = false) : bc r s = (r, 5) := if_pos h
theorem iE {r : RS} {s : Bs} (h : da s [10] = true) (h2 : s.take (s.length - 1) = [] ∨ (((s.take (s.length - 1)).getD 0 0).toNat : Int) = 35) : bc r s = (r, 0) := by
  unfold bc
  rw [if_neg (by rw [h]; decide), if_pos]
  rcases h2 with h2 | h2
  · exact .inl h2
  · exact .inr (rj.1 h2)
theorem l7 {r : RS} {s : Bs} (h : da s [10] = true) (h2 : ¬ s.take (s.length - 1) = [] ∧ ¬ (((s.take (s.length - 1)).getD 0 0).toNat : Int) = 35) : bc r s = if [] ∈ spB 32 (s.take (s.length - 1)) then (r, 5) else cp (eK r (spB 32 (s.take (s.length - 1)))) := by
  unfold bc
  rw [if_neg (by rw [h]; decide), if_neg]
  rintro (q | q)
  · exact h2.1 q
  · exact h2.2 (rj.2 q)
theorem fE {r : RS} {s : Bs} (h : da s [10] = true) (h2 : ¬ s.take (s.length - 1) = [] ∧ ¬ (((s.take (s.length - 1)).getD 0 0).toNat : Int) = 35) (h3 : [] ∈ spB 32 (s.take (s.length - 1))) : bc r s = (r, 5) := by rw [l7 h h2, if_pos h3]
theorem iB {r : RS} {s : Bs} (h : da s [10] = true) (h2 : ¬ s.take (s.length - 1) = [] ∧ ¬ (((s.take (s.length - 1)).getD 0 0).toNat : Int) = 35) (h3 : ¬ [] ∈ spB 32 (s.take (s.length - 1))) (h4 : (r.rd : Int) < 5) : bc r s = ({ (b0 r (spB 32 (s.take (s.length - 1)))).1 with rd := (b0 r (spB 32 (s.take (s.length - 1)))).1.rd + 1 }, (b0 r (spB 32 (s.take (s.length - 1)))).2) := by
  rw [l7 h h2, if_neg h3]; unfold cp eK; rw [if_pos (by omega)]
theorem i4 {r : RS} {s : Bs} (h : da s [10] = true) (h2 : ¬ s.take (s.length - 1) = [] ∧ ¬ (((s.take (s.length - 1)).getD 0 0).toNat : Int) = 35) (h3 : ¬ [] ∈ spB 32 (s.take (s.length - 1))) (h4 : 5 ≤ (r.rd : Int)) : bc r s = ({ (bI r (spB 32 (s.take (s.length - 1)))).1 with rd := (bI r (spB 32 (s.take (s.length - 1)))).1.rd + 1 }, (bI r (spB 32 (s.take (s.length - 1)))).2) := by
  rw [l7 h h2, if_neg h3]; unfold cp eK; rw [if_neg (by omega)]
theorem tT {R S I : TypeId} {r : RS} (h : LOK r) (s : Bs) : (SH R S I r).length ≤ (SH R S I (bc r s).1).length := by
  unfold bc
  split
  · exact Nat.le_refl _
  · split
    · exact Nat.le_refl _
    · split
      · exact Nat.le_refl _
      · unfold cp eK
        split
        · exact pE (fun e => (h.h3 e).1) _
        · exact pR (h.h5 (by omega)).1 _
/-plain-/
def nK : Mdl := ⟨[], [], [], ⟨0, 0, [], []⟩⟩
def rk (r : RS) : Mdl := ⟨r.nm, r.ins, r.outs, ⟨r.inp, r.st, r.nx, r.ot⟩⟩
def mE (k : Nat) (r : RS) : Mdl × Int × Int := if r.rd < 5 ∨ 0 < r.lf then (nK, (k : Int) + 1, 12) else (rk r, 0, 0)
def PL : List Bs → Nat → RS → Mdl × Int × Int
  | [], k, r => mE k r
  | l :: ls, k, r => if (bc r l).2 = 0 then PL ls (k + 1) (bc r l).1 else (nK, (k : Int) + 1, (bc r l).2)
def jC : Nat → Bs → List Bs
  | 0, _ => []
  | f + 1, s => if s = [] then [] else s.take (lnE s) :: jC f (s.drop (lnE s))
def lns (s : Bs) : List Bs := jC s.length s
theorem qA : ∀ f, jC f [] = []
  | 0 => rfl
  | f + 1 => if_pos rfl
theorem gP : ∀ (f : Nat) (s : Bs), s.length ≤ f → jC f s = jC s.length s
  | 0, s, h => by
    obtain rfl : s = [] := List.eq_nil_of_length_eq_zero (by omega)
    rfl
  | f + 1, s, h => by
    by_cases e : s = []
    · subst e; rw [qA]; rfl
    · have hp := lE e
      have hl := List.length_pos_iff.2 e
      obtain ⟨m, hm⟩ : ∃ m, s.length = m + 1 := ⟨s.length - 1, by omega⟩
      rw [hm]
      show (if s = [] then [] else s.take (lnE s) :: jC f (s.drop (lnE s))) = (if s = [] then [] else s.take (lnE s) :: jC m (s.drop (lnE s)))
      rw [if_neg e, if_neg e, gP f (s.drop (lnE s)) (by rw [List.length_drop]; omega)]
      rw [gP m (s.drop (lnE s)) (by rw [List.length_drop]; omega)]
 termination_by f => f
theorem iS {s : Bs} (e : s ≠ []) : lns s = s.take (lnE s) :: lns (s.drop (lnE s)) := by
  have hp := lE e
  have hl := List.length_pos_iff.2 e
  obtain ⟨m, hm⟩ : ∃ m, s.length = m + 1 := ⟨s.length - 1, by omega⟩
  unfold lns
  rw [hm]
  show (if s = [] then [] else s.take (lnE s) :: jC m (s.drop (lnE s))) = _
  rw [if_neg e, gP m _ (by rw [List.length_drop]; omega)]
def PM (s : Bs) : Mdl × Int × Int := if 1048576 < s.length then (nK, 0, 3) else PL (lns s) 0 rs0
def bD (s : Bs) : Nat → RS
  | 0 => rs0
  | k + 1 => (bc (bD s k) (bM s k)).1
def OKR (s : Bs) (k : Nat) : Prop := ∀ j, j < k → aN s j ≠ [] ∧ (bc (bD s j) (bM s j)).2 = 0
theorem oS {s : Bs} (h0 : ¬ 1048576 < s.length) : ∀ k, OKR s k → PM s = PL (lns (aN s k)) k (bD s k)
  | 0, _ => if_neg h0
  | k + 1, h => by
    rw [oS h0 k fun j hj => h j (by omega)]
    obtain ⟨h1, h2⟩ := h k (by omega)
    rw [iS h1]
    show (if (bc (bD s k) (bM s k)).2 = 0 then PL (lns (aN s (k + 1))) (k + 1) (bD s (k + 1)) else _) = _
    rw [if_pos h2]
theorem sT {s : Bs} (h0 : ¬ 1048576 < s.length) {k : Nat} (h : OKR s k) (he : aN s k = []) : PM s = mE k (bD s k) := by rw [oS h0 k h, he]; rfl
theorem sB {s : Bs} (h0 : ¬ 1048576 < s.length) {k : Nat} (h : OKR s k) (he : aN s k ≠ []) (h2 : ¬ (bc (bD s k) (bM s k)).2 = 0) : PM s = (nK, (k : Int) + 1, (bc (bD s k) (bM s k)).2) := by
  rw [oS h0 k h, iS he]; exact if_neg h2
theorem qp {s : Bs} {k : Nat} (h : OKR s k) (he : aN s k ≠ []) (h2 : (bc (bD s k) (bM s k)).2 = 0) : OKR s (k + 1) := fun j hj => by
  by_cases e : j = k
  · subst e; exact ⟨he, h2⟩
  · exact h j (by omega)
structure RI (r : RS) : Prop where
  t3 : r.rd ≤ 3 → r.tb = false
  t4 : 4 ≤ r.rd → r.tb = true ∧ ROK r
  a1 : 2 ≤ r.rd → alE r.ins = 0
  a2 : 3 ≤ r.rd → alE r.outs = 0
  lf : 4 ≤ r.rd → -(r.rd : Int) ≤ r.lf ∧ r.lf ≤ 8192
theorem u9 : RI rs0 := ⟨fun _ => rfl, fun h => by simp [rs0] at h, fun h => by simp [rs0] at h, fun h => by simp [rs0] at h, fun h => by simp [rs0] at h⟩
theorem sJ {r : RS} (h : RI r) (hr : r.rd ≤ 1900000) : LOK r := by
  refine ⟨fun e => ⟨h.t3 (by omega), ?_⟩, fun e => ?_, by omega⟩
  · have := ig (h.a1 (by omega)); exact ⟨this.n0, this.n1⟩
  · have := ig (h.a2 (by omega))
    have h4 := h.t4 (by omega)
    exact ⟨h4.1, h4.2, by have := this.n1; omega⟩
theorem ro {r : RS} {l : List Bs} (h : RI r) (h3 : r.rd = 3) (hn : dh l = 0) : RI { gC r l with rd := r.rd + 1 } := by
  have ha := ig (h.a1 (by omega))
  have hi0 := ha.n0
  have hi1 := ha.n1
  have hl : l.length ≤ 128 := by
    unfold dh at hn
    split at hn
    · omega
    · split at hn
      · omega
      · omega
  have hmu : (l.length : Int) * r.ins.length ≤ 128 * 64 := Int.mul_le_mul (by omega) (by omega) (by omega) (by omega)
  have hm0 : (0 : Int) ≤ (l.length : Int) * r.ins.length := Int.mul_nonneg (by omega) (by omega)
  have hrow : ∀ s, s < l.length → ((fy l.length r.ins.length).getD s []).length = r.ins.length := fun s hs => by
    unfold fy; simp [List.getD, hs]
  refine ⟨fun q => by simp only at q; omega, fun _ => ⟨rfl, jc .., jc .., hl, hi0, hi1, hrow, hrow, ?_, ?_⟩, fun _ => h.a1 (by omega), fun _ => h.a2 (by omega), fun _ => ⟨?_, ?_⟩⟩
  · show (-2000000 : Int) ≤ (l.length : Int) * r.ins.length; omega
  · show (l.length : Int) * r.ins.length ≤ 1000000; omega
  · show -((r.rd + 1 : Nat) : Int) ≤ (l.length : Int) * r.ins.length; omega
  · show (l.length : Int) * r.ins.length ≤ 8192; omega
theorem rW {r : RS} {w : List Bs} (h : RI r) (h5 : r.rd < 5) (he : (b0 r w).2 = 0) : RI { (b0 r w).1 with rd := (b0 r w).1.rd + 1 } := by
  unfold b0 at he ⊢
  split
  · rename_i q; rw [if_pos q] at he; simp at he
  · rename_i q
    rw [if_neg q] at he
    split
    · rename_i e0
      have := h.t3 (by omega)
      exact ⟨fun _ => this, fun q => by simp only at q; omega, fun q => by simp only at q; omega, fun q => by simp only at q; omega, fun q => by simp only at q; omega⟩
    · rename_i e0
      rw [if_neg e0] at he
      split
      · rename_i e1
        rw [if_pos e1] at he
        have := h.t3 (by omega)
        exact ⟨fun _ => this, fun q => by simp only at q; omega, fun _ => he, fun q => by simp only at q; omega, fun q => by simp only at q; omega⟩
      · rename_i e1
        rw [if_neg e1] at he
        split
        · rename_i e2
          rw [if_pos e2] at he
          have := h.t3 (by omega)
          exact ⟨fun _ => this, fun q => by simp only at q; omega, fun _ => h.a1 (by omega), fun _ => he, fun q => by simp only at q; omega⟩
        · rename_i e2
          rw [if_neg e2] at he
          split
          · rename_i e3
            rw [if_pos e3] at he
            unfold iJ at he ⊢
            split
            · rename_i en
              exact ro h e3 en
            · rename_i en; rw [if_neg en] at he; exact absurd he en
          · rename_i e3
            have h4 := h.t4 (by omega)
            have hl := h.lf (by omega)
            refine ⟨fun q => by simp only at q; omega, fun _ => ⟨h4.1, h4.2.nl, h4.2.ol, h4.2.n2, h4.2.i1, h4.2.i2, h4.2.rl, h4.2.ql, h4.2.l0, h4.2.l1⟩, fun _ => h.a1 (by omega), fun _ => h.a2 (by omega), fun _ => ⟨?_, hl.2⟩⟩
            show -((r.rd + 1 : Nat) : Int) ≤ r.lf
            omega
theorem gG {xs : List (List Int)} {s a : Nat} {v : Int} (i : Nat) : ((xs.set s ((xs.getD s []).set a v)).getD i []).length = (xs.getD i []).length := by
  simp only [List.getD, List.getElem?_set]
  split
  · rename_i e; subst e
    split
    · rename_i hlt; simp [List.getElem?_eq_getElem hlt]
    · rename_i hlt; simp [List.getElem?_eq_none (by omega : xs.length ≤ s)]
  · rfl
theorem tq {r : RS} {w : List Bs} (h : RI r) (h5 : 5 ≤ r.rd) (hr : r.rd ≤ 1900000) (he : (bI r w).2 = 0) : RI { (bI r w).1 with rd := (bI r w).1.rd + 1 } := by
  have h4 := h.t4 (by omega)
  have hl := h.lf (by omega)
  have key : ∀ s a t o, RI { fA r s a t o with rd := (fA r s a t o).rd + 1 } := fun s a t o => by
    refine ⟨fun q => by simp only [fA] at q; omega, fun _ => ⟨h4.1, by simp only [fA, List.length_set]; exact h4.2.nl, by simp only [fA, List.length_set]; exact h4.2.ol, h4.2.n2, h4.2.i1, h4.2.i2, fun i hi => ?_, fun i hi => ?_, ?_, ?_⟩, fun _ => h.a1 (by omega), fun _ => h.a2 (by omega), fun _ => ⟨?_, ?_⟩⟩
    · exact (gG i).trans (h4.2.rl i hi)
    · exact (gG i).trans (h4.2.ql i hi)
    · show (-2000000 : Int) ≤ r.lf - 1; omega
    · show r.lf - 1 ≤ 1000000; omega
    · show -((r.rd + 1 : Nat) : Int) ≤ r.lf - 1; omega
    · show r.lf - 1 ≤ 8192; omega
  unfold bI at he ⊢
  split
  · rename_i q; rw [if_pos q] at he; simp at he
  · rename_i q
    rw [if_neg q] at he
    split
    · rename_i q2; rw [if_pos q2] at he; simp at he
    · rename_i q2
      rw [if_neg q2] at he
      split
      · rename_i q3; rw [if_pos q3] at he; simp at he
      · exact key _ _ _ _
theorem rn {r : RS} {s : Bs} (h : RI r) (hr : r.rd ≤ 1900000) (he : (bc r s).2 = 0) : RI (bc r s).1 ∧ (bc r s).1.rd ≤ r.rd + 1 := by
  unfold bc at he ⊢
  split
  · rename_i q; rw [if_pos q] at he; simp at he
  · rename_i q
    rw [if_neg q] at he
    split
    · exact ⟨h, Nat.le_succ _⟩
    · rename_i q2
      rw [if_neg q2] at he
      split
      · rename_i q3; rw [if_pos q3] at he; simp at he
      · rename_i q3
        rw [if_neg q3] at he
        unfold cp eK at he ⊢
        split
        · rename_i q4
          rw [if_pos q4] at he
          exact ⟨rW h q4 he, by simp only; rw [mh]; exact Nat.le_refl _⟩
        · rename_i q4
          rw [if_neg q4] at he
          exact ⟨tq h (by omega) hr he, by simp only; rw [oG]; exact Nat.le_refl _⟩
theorem jY {s : Bs} (hs : s.length ≤ 1048576) : ∀ {k : Nat}, OKR s k → RI (bD s k) ∧ (bD s k).rd ≤ k ∧ k ≤ s.length
  | 0, _ => ⟨u9, Nat.le_refl _, Nat.zero_le _⟩
  | k + 1, h => by
    obtain ⟨h1, h2, h3⟩ := jY hs (k := k) fun j hj => h j (by omega)
    obtain ⟨h4, h5⟩ := h k (by omega)
    have h6 := gi s k h4
    have h7 := List.length_pos_iff.2 h4
    obtain ⟨g1, g2⟩ := rn h1 (by omega) h5
    exact ⟨g1, by show (bc (bD s k) (bM s k)).1.rd ≤ k + 1; omega, by omega⟩
/-plain-/
def j4 (l : List (List Int)) (n : Nat) : Bool := (List.range (min l.length n)).any (fun i => decide (6 < (l.getD i []).length))
def mr (x : Mdl) : Bool := j4 x.m.nx 13 || j4 x.m.ot 21 || decide (100 < (x.nm.length : Int)) || grB x.ins || grB x.outs || decide (12 < (x.m.nx.length : Int)) || decide (20 < (x.m.ot.length : Int))
theorem gg {l : List (List Int)} {n k : Nat} (h : k < l.length) (h2 : k < n) (h3 : 6 < (l.getD k []).length) : j4 l n = true := by
  unfold j4; rw [List.any_eq_true]; exact ⟨k, List.mem_range.2 (by omega), by simpa using h3⟩
theorem gl {l : List (List Int)} {n k : Nat} (hk : l.length ≤ k ∨ n ≤ k) (h : ∀ q, q < k → (l.getD q []).length ≤ 6) : j4 l n = false := by
  unfold j4; rw [List.any_eq_false]; intro q hq; have := List.mem_range.1 hq; have := h q (by omega); simp only [decide_eq_true_eq]; omega
/-plain-/
def dp (L : List Bs) : Bs := (L.map (· ++ [10])).flatten
theorem fL (l : Bs) (L : List Bs) : dp (l :: L) = l ++ 10 :: dp L := by unfold dp; simp
theorem jA : ∀ {l : Bs} {L : List Bs}, Lib.join (l :: L) [10] ++ [10] = dp (l :: L)
  | l, [] => by rw [Lib.join_one, fL]; simp [dp]
  | l, m :: L => by rw [dn, fL, ← jA]; simp
theorem ua {l s : Bs} (h : (10 : UInt8) ∉ l) : Lib.indexByte (l ++ 10 :: s) 10 = l.length := by
  induction l with
  | nil => simp [Lib.indexByte]
  | cons b l ih =>
    simp only [List.mem_cons, not_or] at h
    have := ih h.2
    rw [ah]
    unfold Lib.indexByte
    have e : (b == 10) = false := by simpa using Ne.symm h.1
    rw [e, this]
    have e2 : ((l.length : Int) == -1) = false := beq_eq_false_iff_ne.2 (by omega)
    rw [e2]
    simp
theorem tn {l s : Bs} (h : (10 : UInt8) ∉ l) : lnE (l ++ 10 :: s) = l.length + 1 := by
  unfold lnE; rw [ua h, if_neg (by omega)]; rfl
theorem mn : ∀ {L : List Bs}, (∀ l, l ∈ L → (10 : UInt8) ∉ l) → lns (dp L) = L.map (· ++ [10])
  | [], _ => rfl
  | l :: L, h => by
    have h1 := h l (by simp)
    rw [fL, iS (by simp), tn h1]
    have e1 : (l ++ 10 :: dp L).take (l.length + 1) = l ++ [10] := by rw [List.take_append, List.take_of_length_le (by omega)]; simp
    have e2 : (l ++ 10 :: dp L).drop (l.length + 1) = dp L := by rw [List.drop_append, List.drop_of_length_le (by omega)]; simp
    rw [e1, e2, mn fun x hx => h x (aG _ hx)]; rfl
def fB (r : RS) (l : Bs) : RS × Int := if l = [] ∨ l.getD 0 0 = 35 then (r, 0) else if [] ∈ spB 32 l then (r, 5) else cp (eK r (spB 32 l))
theorem oW (r : RS) (l : Bs) : bc r (l ++ [10]) = fB r l := by
  have h1 : da (l ++ [10]) [10] = true := qO.2 (List.suffix_append _ _)
  have h2 : (l ++ [(10 : UInt8)]).take ((l ++ [(10 : UInt8)]).length - 1) = l := by simp
  unfold bc fB
  rw [h1, h2, if_neg (by decide)]
theorem jz {r : RS} {w : Bs} {ws : List Bs} (h : ∀ y, y ∈ w :: ws → (32 : UInt8) ∉ y ∧ y ≠ []) (h35 : w.getD 0 0 ≠ 35) : fB r (Lib.join (w :: ws) [32]) = cp (eK r (w :: ws)) := by
  have hs := la (c := 32) (x := w) (r := ws) fun y hy => (h y hy).1
  have hw := (h w (by simp)).2
  obtain ⟨b, w', rfl⟩ : ∃ b w', w = b :: w' := by cases w with
    | nil => exact absurd rfl hw
    | cons b w' => exact ⟨b, w', rfl⟩
  have hj : ∃ t, Lib.join ((b :: w') :: ws) [32] = b :: t := ⟨_, by rw [Lib.join_cons, ah]⟩
  obtain ⟨t, ht⟩ := hj
  unfold fB
  rw [hs, if_neg, if_neg]
  · intro hm; exact (h [] hm).2 rfl
  · rw [ht]; rintro (q | q)
    · cases q
    · exact h35 (by simpa [List.getD] using q)
theorem rP {L : List Bs} (h : ∀ l, l ∈ L → (10 : UInt8) ∉ l) (hs : ¬ 1048576 < (dp L).length) : PM (dp L) = PL (L.map (· ++ [10])) 0 rs0 := by
  unfold PM; rw [if_neg hs, mn h]
theorem eW {L : List Bs} {k : Nat} {r r' : RS} {l : Bs} (h : fB r l = (r', 0)) : PL ((l :: L).map (· ++ [10])) k r = PL (L.map (· ++ [10])) (k + 1) r' := by
  rw [aU]
  show (if (bc r (l ++ [10])).2 = 0 then PL _ (k + 1) (bc r (l ++ [10])).1 else _) = _
  rw [oW, h, if_pos rfl]
theorem ep {s : Bs} (h : aX s = true) : s ≠ [] := fun e => by have := (d7 h).2.1; rw [e] at this; simp at this
theorem sk {c : UInt8} (h : okI (c.toNat : Int)) : c ≠ 32 ∧ c ≠ 10 ∧ c ≠ 35 := by
  unfold okI at h
  refine ⟨fun e => ?_, fun e => ?_, fun e => ?_⟩ <;> (subst e; simp at h)
theorem oz {s : Bs} (h : aX s = true) : s.getD 0 0 ≠ 35 := by
  cases s with
  | nil => exact absurd rfl (ep h)
  | cons b s => exact (sk ((d7 h).1 b (by simp))).2.2
theorem lc {s : Bs} (h : aX s = true) : (10 : UInt8) ∉ s := fun hm => (sk ((d7 h).1 _ hm)).2.1 rfl
theorem kg : ∀ i : Nat, i < 128 → aX (qn i) = true ∧ ∀ j : Nat, j < i → qn j ≠ qn i := by decide +kernel
theorem dt {i : Nat} (h : i < 128) : aX (qn i) = true := (kg i h).1
theorem pM {i j : Nat} (hi : i < 128) (hj : j < 128) (e : qn i = qn j) : i = j := by
  rcases Nat.lt_trichotomy i j with h | h | h
  · exact absurd e ((kg j hj).2 i h)
  · exact h
  · exact absurd e.symm ((kg i hi).2 j h)
theorem sA {n : Nat} (h : n ≤ 128) : ∀ i, i < n → nmE (qs n) i = 0 := fun i hi => by
  refine ke ?_ ?_
  · rw [cV hi]; exact dt (by omega)
  · rw [cV hi]
    intro hm
    obtain ⟨j, hj, e⟩ := mB.1 hm
    rw [List.length_take, cq] at hj
    rw [kw (by omega), cV (by omega)] at e
    have := pM (by omega) (by omega) e
    omega
theorem sv {n : Nat} (h0 : 1 ≤ n) (h : n ≤ 128) : dh (qs n) = 0 := ga (by rw [cq]; omega) (by rw [cq]; omega) (by rw [cq]; exact sA h)
theorem n6 {n i : Nat} (h : i < n) : qn i ∈ qs n := by rw [← cV h]; exact dz (by rw [cq]; exact h)
theorem n7 {n i : Nat} (h : n ≤ 128) (hi : i < n) : pos (qs n) (qn i) = i :=
  (pF (fun j hj e => by rw [cV (by omega)] at e; have := pM (by omega) (by omega) e; omega) (by rw [cq]; exact hi) (cV hi)).1
/-plain-/
def nxD (n k : Nat) (done : List (Nat × Nat)) (m : List (List Int)) : List (List Int) := (List.range n).map fun s => (List.range k).map fun a => if (s, a) ∈ done then (m.getD s []).getD a 0 else -1
theorem rZ (n k : Nat) (done : List (Nat × Nat)) (m : List (List Int)) : (nxD n k done m).length = n := by unfold nxD; simp
theorem oC {n k : Nat} {done : List (Nat × Nat)} {m : List (List Int)} {s : Nat} (h : s < n) : (nxD n k done m).getD s [] = (List.range k).map fun a => if (s, a) ∈ done then (m.getD s []).getD a 0 else -1 := by
  unfold nxD; simp [List.getD, h]
theorem tl {n k : Nat} {done : List (Nat × Nat)} {m : List (List Int)} {s a : Nat} (h : s < n) (ha : a < k) : ((nxD n k done m).getD s []).getD a 0 = if (s, a) ∈ done then (m.getD s []).getD a 0 else -1 := by
  rw [oC h]; simp [List.getD, ha]
theorem oA (n k : Nat) (m : List (List Int)) : nxD n k [] m = fy n k := by
  unfold nxD fy
  simp only [List.not_mem_nil, if_false]
  rw [show (List.range k).map (fun _ => (-1 : Int)) = List.replicate k (-1) by rw [List.map_const', List.length_range]]
  rw [List.map_const', List.length_range]
theorem oP {n k : Nat} {done : List (Nat × Nat)} {m : List (List Int)} {s a : Nat} (h : s < n) (ha : a < k) :
    (nxD n k done m).set s (((nxD n k done m).getD s []).set a ((m.getD s []).getD a 0)) = nxD n k (done ++ [(s, a)]) m := by
  rw [oC h]
  apply List.ext_getElem?
  intro i
  rw [List.getElem?_set]
  by_cases hi : s = i
  · subst hi
    rw [if_pos rfl, if_pos (by rw [rZ]; exact h)]
    unfold nxD
    rw [List.getElem?_map, List.getElem?_range h, Option.map_some]
    congr 1
    apply List.ext_getElem?
    intro j
    rw [List.getElem?_set]
    by_cases hj : a = j
    · subst hj
      rw [if_pos rfl, if_pos (by simpa using ha), List.getElem?_map, List.getElem?_range ha, Option.map_some, if_pos (by simp)]
    · rw [if_neg hj, List.getElem?_map, List.getElem?_map]
      rcases Nat.lt_or_ge j k with hjk | hjk
      · rw [List.getElem?_range hjk, Option.map_some, Option.map_some]
        congr 1
        have : ((s, j) ∈ done ++ [(s, a)]) ↔ (s, j) ∈ done := by
          rw [List.mem_append, List.mem_singleton]
          exact ⟨fun q => q.elim id fun e => absurd (Prod.mk.inj e).2.symm hj, .inl⟩
        by_cases q : (s, j) ∈ done
        · rw [if_pos q, if_pos (this.2 q)]
        · rw [if_neg q, if_neg fun z => q (this.1 z)]
      · rw [List.getElem?_eq_none (by rw [List.length_range]; exact hjk)]; rfl
  · rw [if_neg hi]
    unfold nxD
    rw [List.getElem?_map, List.getElem?_map]
    rcases Nat.lt_or_ge i n with hin | hin
    · rw [List.getElem?_range hin, Option.map_some, Option.map_some]
      congr 1
      refine List.map_congr_left fun b _ => ?_
      have : ((i, b) ∈ done ++ [(s, a)]) ↔ (i, b) ∈ done := by
        rw [List.mem_append, List.mem_singleton]
        exact ⟨fun q => q.elim id fun e => absurd (Prod.mk.inj e).1.symm hi, .inl⟩
      by_cases q : (i, b) ∈ done
      · rw [if_pos q, if_pos (this.2 q)]
      · rw [if_neg q, if_neg fun z => q (this.1 z)]
    · rw [List.getElem?_eq_none (by rw [List.length_range]; exact hin)]; rfl
def stD (x : Mdl) (done : List (Nat × Nat)) : RS := ⟨x.nm, x.ins, x.outs, x.ins.length, x.m.st, nxD x.m.nx.length x.ins.length done x.m.nx, nxD x.m.nx.length x.ins.length done x.m.ot, qs x.m.nx.length, 5 + done.length, (x.m.nx.length : Int) * x.ins.length - done.length, true⟩
theorem kJ (x : Mdl) (s a : Nat) : eG x s a = Lib.join [qn s, x.ins.getD a [], x.outs.getD ((x.m.ot.getD s []).getD a 0).toNat [], qn ((x.m.nx.getD s []).getD a 0).toNat] [32] := by
  unfold eG; rw [dn, dn, dn, Lib.join_one]; simp
theorem jT {xs : List Bs} (h : AOK xs) {y : Bs} (hy : y ∈ xs) : aX y = true := by
  obtain ⟨j, hj, rfl⟩ := mB.1 hy
  exact h.nm j hj
theorem qg {x : Mdl} (h : MVO x) {done : List (Nat × Nat)} {s a : Nat} (hs : s < x.m.nx.length) (ha : a < x.ins.length) (hd : (s, a) ∉ done) : fB (stD x done) (eG x s a) = (stD x (done ++ [(s, a)]), 0) := by
  have hm := h.mo
  have hn2 := hm.n2
  have hil := h.il
  have hr := hm.nr s a hs (by omega)
  have ho := hm.or s a hs (by omega)
  have ho2 := h.ol s a hs (by omega)
  obtain ⟨t, ht⟩ : ∃ t : Nat, (x.m.nx.getD s []).getD a 0 = (t : Int) := ⟨((x.m.nx.getD s []).getD a 0).toNat, by omega⟩
  obtain ⟨o, hoo⟩ : ∃ o : Nat, (x.m.ot.getD s []).getD a 0 = (o : Int) := ⟨((x.m.ot.getD s []).getD a 0).toNat, by omega⟩
  have htl : t < x.m.nx.length := by omega
  have hol : o < x.outs.length := by omega
  have n0 := dt (i := s) (by omega)
  have n3 := dt (i := t) (by omega)
  have n1 := h.ai.nm a ha
  have n2 := h.ao.nm o hol
  rw [kJ, ht, hoo, aJ, aJ]
  rw [jz (fun y hy => by
    simp only [List.mem_cons, List.not_mem_nil, or_false] at hy
    rcases hy with rfl | rfl | rfl | rfl
    · exact ⟨dB n0, ep n0⟩
    · exact ⟨dB n1, ep n1⟩
    · exact ⟨dB n2, ep n2⟩
    · exact ⟨dB n3, ep n3⟩) (oz n0)]
  unfold eK
  rw [if_neg (by show ¬ 5 + done.length < 5; omega)]
  have p0 : pos (qs x.m.nx.length) (qn s) = s := n7 hn2 hs
  have p3 : pos (qs x.m.nx.length) (qn t) = t := n7 hn2 htl
  have p1 := h.ai.pos ha
  have p2 := h.ao.pos hol
  have hneg : ((nxD x.m.nx.length x.ins.length done x.m.nx).getD s []).getD a 0 = -1 := by rw [tl hs ha, if_neg hd]
  have key := kK (r := stD x done) (w := [qn s, x.ins.getD a [], x.outs.getD o [], qn t]) rfl (n6 hs) (n6 htl) (dz ha) (dz hol) (by
    show ¬ 0 ≤ ((nxD x.m.nx.length x.ins.length done x.m.nx).getD (pos (qs x.m.nx.length) (qn s)) []).getD (pos x.ins (x.ins.getD a [])) 0
    rw [p0, p1, hneg]; decide)
  rw [key]
  unfold cp
  simp only [Prod.mk.injEq, and_true]
  show ({ fA (stD x done) (pos (qs x.m.nx.length) (qn s)) (pos x.ins (x.ins.getD a [])) (pos (qs x.m.nx.length) (qn t)) (pos x.outs (x.outs.getD o [])) with rd := 5 + done.length + 1 } : RS) = _
  rw [p0, p1, p2, p3]
  unfold fA stD
  simp only [RS.mk.injEq, ag, ak, ay, true_and, and_true]
  refine ⟨?_, ?_, by omega, by omega⟩
  · rw [← ht]; exact oP hs ha
  · rw [← hoo]; exact oP hs ha
theorem me {x : Mdl} (h : MVO x) : ∀ {ps done : List (Nat × Nat)} {k : Nat}, (∀ p, p ∈ ps → p.1 < x.m.nx.length ∧ p.2 < x.ins.length) → (done ++ ps).Nodup →
    PL ((ps.map fun p => eG x p.1 p.2).map (· ++ [10])) k (stD x done) = mE (k + ps.length) (stD x (done ++ ps))
  | [], done, k, _, _ => by rw [List.append_nil]; rfl
  | p :: ps, done, k, hp, hn => by
    obtain ⟨h1, h2⟩ := hp p (by simp)
    have hd : (p.1, p.2) ∉ done := fun hm => by
      have := (List.nodup_append.1 hn).2.2
      exact this p hm p (by simp) rfl
    rw [aU, eW (qg h h1 h2 hd)]
    have e : done ++ [(p.1, p.2)] ++ ps = done ++ p :: ps := by simp
    rw [me h (fun q hq => hp q (aG _ hq)) (by rw [e]; exact hn), e]
    rw [ak, show k + 1 + ps.length = k + (ps.length + 1) by omega]
def rs1 (x : Mdl) : RS := { rs0 with nm := x.nm, rd := 1 }
def rs2 (x : Mdl) : RS := { rs1 x with ins := x.ins, rd := 2 }
def rs3 (x : Mdl) : RS := { rs2 x with outs := x.outs, rd := 3 }
def rs4 (x : Mdl) : RS := { gC (rs3 x) (qs x.m.nx.length) with rd := 4 }
theorem mf : ∀ i : Nat, i < 5 → aX (kwd i) = true := by decide +kernel
theorem fX {r : RS} {i : Nat} (hi : i < 5) (hr : r.rd = i) {ws : List Bs} (h : ∀ y, y ∈ ws → aX y = true) : fB r (Lib.join (kwd i :: ws) [32]) = cp (b0 r (kwd i :: ws)) := by
  have hk := mf i hi
  rw [jz (fun y hy => by
    rcases List.mem_cons.1 hy with rfl | hy
    · exact ⟨dB hk, ep hk⟩
    · exact ⟨dB (h y hy), ep (h y hy)⟩) (oz hk)]
  unfold eK; rw [if_pos (by omega)]
theorem kU {w : Bs} {ws : List Bs} (h : ws ≠ []) : Lib.join (w :: ws) [32] = w ++ [32] ++ Lib.join ws [32] := by
  cases ws with
  | nil => exact absurd rfl h
  | cons y ws => exact dn ..
theorem mj {x : Mdl} (h : MVO x) : hdT x = [Lib.join [kwd 0, x.nm] [32], Lib.join (kwd 1 :: x.ins) [32], Lib.join (kwd 2 :: x.outs) [32], Lib.join (kwd 3 :: qs x.m.nx.length) [32], Lib.join [kwd 4, qn x.m.st.toNat] [32]] := by
  have h1 := h.ai.n0
  have h2 := h.ao.n0
  have h3 := h.mo.n1
  have e : ∀ {l : List Bs}, 1 ≤ l.length → l ≠ [] := fun h e => by rw [e] at h; simp at h
  rw [dn, dn, Lib.join_one, Lib.join_one, kU (e h1), kU (e h2), kU (e (by rw [cq]; exact h3))]
  rfl
theorem r7 {x : Mdl} (h : MVO x) {L : List Bs} : PL ((hdT x ++ L).map (· ++ [10])) 0 rs0 = PL (L.map (· ++ [10])) 5 (stD x []) := by
  have hm := h.mo
  have hn1 := hm.n1
  have hn2 := hm.n2
  have hs1 := hm.s1
  have hs2 := hm.s2
  have hsn : x.m.st.toNat < x.m.nx.length := by omega
  rw [mj h]
  simp only [ah, am]
  have l0 : fB rs0 (Lib.join [kwd 0, x.nm] [32]) = (rs1 x, 0) := by
    rw [fX (i := 0) (by decide) rfl (fun y hy => by rw [List.mem_singleton.1 hy]; exact h.nm), dr (r := rs0) (w := [kwd 0, x.nm]) ⟨rfl, .inr rfl⟩, if_pos (show (rs0).rd = 0 from rfl)]
    show cp (_, if aX x.nm = true then (0 : Int) else 9) = _
    rw [if_pos h.nm]; rfl
  have l1 : fB (rs1 x) (Lib.join (kwd 1 :: x.ins) [32]) = (rs2 x, 0) := by
    rw [fX (i := 1) (by decide) rfl (fun y hy => jT h.ai hy), dr (r := rs1 x) (w := kwd 1 :: x.ins) ⟨rfl, .inl ⟨(by decide : ¬ (1 : Int) = 0), (by decide : ¬ (1 : Int) = 4)⟩⟩, if_neg (show ¬ (rs1 x).rd = 0 from (by decide : ¬ (1 : Nat) = 0)), if_pos (show (rs1 x).rd = 1 from rfl)]
    show cp (_, alE x.ins) = _
    rw [fb (by have := h.ai.n0; omega) (by have := h.ai.n1; omega) fun q hq => ke (h.ai.nm q hq) (h.ai.nw q hq)]; rfl
  have l2 : fB (rs2 x) (Lib.join (kwd 2 :: x.outs) [32]) = (rs3 x, 0) := by
    rw [fX (i := 2) (by decide) rfl (fun y hy => jT h.ao hy), dr (r := rs2 x) (w := kwd 2 :: x.outs) ⟨rfl, .inl ⟨(by decide : ¬ (2 : Int) = 0), (by decide : ¬ (2 : Int) = 4)⟩⟩, if_neg (show ¬ (rs2 x).rd = 0 from (by decide : ¬ (2 : Nat) = 0)), if_neg (show ¬ (rs2 x).rd = 1 from (by decide : ¬ (2 : Nat) = 1)), if_pos (show (rs2 x).rd = 2 from rfl)]
    show cp (_, alE x.outs) = _
    rw [fb (by have := h.ao.n0; omega) (by have := h.ao.n1; omega) fun q hq => ke (h.ao.nm q hq) (h.ao.nw q hq)]; rfl
  have l3 : fB (rs3 x) (Lib.join (kwd 3 :: qs x.m.nx.length) [32]) = (rs4 x, 0) := by
    rw [fX (i := 3) (by decide) rfl (fun y hy => by
      obtain ⟨j, hj, rfl⟩ := mB.1 hy
      rw [cq] at hj
      rw [cV hj]; exact dt (by omega)), dr (r := rs3 x) (w := kwd 3 :: qs x.m.nx.length) ⟨rfl, .inl ⟨(by decide : ¬ (3 : Int) = 0), (by decide : ¬ (3 : Int) = 4)⟩⟩, if_neg (show ¬ (rs3 x).rd = 0 from (by decide : ¬ (3 : Nat) = 0)), if_neg (show ¬ (rs3 x).rd = 1 from (by decide : ¬ (3 : Nat) = 1)), if_neg (show ¬ (rs3 x).rd = 2 from (by decide : ¬ (3 : Nat) = 2)), if_pos (show (rs3 x).rd = 3 from rfl)]
    show cp (iJ (rs3 x) (qs x.m.nx.length)) = _
    unfold iJ
    rw [if_pos (sv hn1 hn2)]; rfl
  have l4 : fB (rs4 x) (Lib.join [kwd 4, qn x.m.st.toNat] [32]) = (stD x [], 0) := by
    rw [fX (i := 4) (by decide) rfl (fun y hy => by rw [List.mem_singleton.1 hy]; exact dt (by omega)), dr (r := rs4 x) (w := [kwd 4, qn x.m.st.toNat]) ⟨rfl, .inr rfl⟩, if_neg (show ¬ (rs4 x).rd = 0 from (by decide : ¬ (4 : Nat) = 0)), if_neg (show ¬ (rs4 x).rd = 1 from (by decide : ¬ (4 : Nat) = 1)), if_neg (show ¬ (rs4 x).rd = 2 from (by decide : ¬ (4 : Nat) = 2)), if_neg (show ¬ (rs4 x).rd = 3 from (by decide : ¬ (4 : Nat) = 3))]
    have hix : ixB (qs x.m.nx.length) (qn x.m.st.toNat) = x.m.st := by unfold ixB; rw [if_pos (n6 hsn), n7 hn2 hsn]; omega
    show cp ({ rs4 x with st := ixB (qs x.m.nx.length) (qn x.m.st.toNat) }, if ixB (qs x.m.nx.length) (qn x.m.st.toNat) < 0 then (8 : Int) else 0) = _
    rw [hix, if_neg (by omega)]
    unfold cp stD
    rw [oA, oA]
    simp only [Prod.mk.injEq, and_true]
    unfold rs4 gC
    simp only [RS.mk.injEq, cq, ay, Nat.add_zero, true_and, and_true]
    refine ⟨rfl, rfl, rfl, rfl, rfl, rfl, ?_⟩
    show ((x.m.nx.length : Int) * x.ins.length) = (x.m.nx.length : Int) * x.ins.length - ((0 : Nat) : Int)
    omega
  rw [eW l0, eW l1, eW l2, eW l3, eW l4]
theorem lR {n k : Nat} {m : List (List Int)} {done : List (Nat × Nat)} (hl : m.length = n) (hr : ∀ s, s < n → (m.getD s []).length = k) (hd : ∀ s a, s < n → a < k → (s, a) ∈ done) : nxD n k done m = m := by
  apply List.ext_getElem?
  intro s
  unfold nxD
  rw [List.getElem?_map]
  rcases Nat.lt_or_ge s n with hs | hs
  · rw [List.getElem?_range hs, Option.map_some, List.getElem?_eq_getElem (by omega)]
    congr 1
    have e : m.getD s [] = m[s] := by simp [List.getD, List.getElem?_eq_getElem (show s < m.length by omega)]
    have hk := hr s hs
    rw [e] at hk ⊢
    apply List.ext_getElem?
    intro a
    rw [List.getElem?_map]
    rcases Nat.lt_or_ge a k with ha | ha
    · rw [List.getElem?_range ha, Option.map_some, if_pos (hd s a hs ha), List.getElem?_eq_getElem (by omega)]
      simp [List.getD, List.getElem?_eq_getElem (show a < m[s].length by omega)]
    · rw [List.getElem?_eq_none (by rw [List.length_range]; exact ha), List.getElem?_eq_none (by omega)]; rfl
  · rw [List.getElem?_eq_none (by rw [List.length_range]; exact hs), List.getElem?_eq_none (by omega)]; rfl
theorem rp {x : Mdl} (h : MVO x) {ps : List (Nat × Nat)} (hn : ps.Nodup) (hp : ∀ s a, (s, a) ∈ ps ↔ s < x.m.nx.length ∧ a < x.ins.length) (hl : ps.length = x.m.nx.length * x.ins.length)
    (hno : ∀ l, l ∈ hdT x ++ ps.map (fun p => eG x p.1 p.2) → (10 : UInt8) ∉ l) (hs : ¬ 1048576 < (dp (hdT x ++ ps.map fun p => eG x p.1 p.2)).length) : PM (dp (hdT x ++ ps.map fun p => eG x p.1 p.2)) = (x, 0, 0) := by
  have hm := h.mo
  have hil := h.il
  rw [rP hno hs, r7 h, me h (fun p hq => (hp p.1 p.2).1 hq) (by simpa using hn), am]
  unfold mE
  have hlf : (stD x ps).lf = 0 := by
    show (x.m.nx.length : Int) * x.ins.length - ((ps.length : Nat) : Int) = 0
    rw [hl, Int.natCast_mul]; omega
  rw [if_neg (by rw [hlf]; show ¬ (5 + ps.length < 5 ∨ (0 : Int) < 0); omega)]
  have e1 := lR (n := x.m.nx.length) (k := x.ins.length) (m := x.m.nx) (done := ps) rfl (fun s hs => by have := hm.rl s hs; omega) (fun s a hs ha => (hp s a).2 ⟨hs, ha⟩)
  have e2 := lR (n := x.m.nx.length) (k := x.ins.length) (m := x.m.ot) (done := ps) hm.ol (fun s hs => by have := hm.ql s hs; omega) (fun s a hs ha => (hp s a).2 ⟨hs, ha⟩)
  unfold rk stD
  simp only [e1, e2]
  obtain ⟨nm, ins, outs, ⟨inp, st, nx, ot⟩⟩ := x
  have : inp = (ins.length : Int) := hil
  subst this; rfl
/-plain-/
def prs (k : Nat) : Nat → List (Nat × Nat)
  | 0 => []
  | n + 1 => prs k n ++ (List.range k).map fun a => (n, a)
theorem iL {k : Nat} : ∀ {n : Nat} {s a : Nat}, (s, a) ∈ prs k n ↔ s < n ∧ a < k
  | 0, s, a => by simp [prs]
  | n + 1, s, a => by
    rw [prs, List.mem_append, iL, List.mem_map]
    constructor
    · rintro (h | ⟨b, hb, e⟩)
      · omega
      · have := List.mem_range.1 hb
        simp only [Prod.mk.injEq] at e; omega
    · rintro ⟨h1, h2⟩
      by_cases e : s = n
      · exact .inr ⟨a, List.mem_range.2 h2, by rw [e]⟩
      · exact .inl (by omega)
theorem lz {k : Nat} : ∀ n : Nat, (prs k n).Nodup
  | 0 => List.nodup_nil
  | n + 1 => by
    rw [prs, List.nodup_append]
    refine ⟨lz n, ?_, fun p hp q hq e => ?_⟩
    · unfold List.Nodup
      rw [List.pairwise_map]
      exact List.nodup_range.imp fun h e => h (Prod.mk.inj e).2
    · subst e
      obtain ⟨s, a⟩ := p
      have h1 := iL.1 hp
      obtain ⟨b, _, e⟩ := List.mem_map.1 hq
      simp only [Prod.mk.injEq] at e
      omega
theorem nT {k : Nat} : ∀ n : Nat, (prs k n).length = n * k
  | 0 => by simp [prs]
  | n + 1 => by rw [prs, ag, nT n, bV, List.length_range, Nat.add_mul, Nat.one_mul]
theorem mH {x : Mdl} (h : MVO x) : ∀ {n : Nat}, n ≤ x.m.nx.length → dv x n = (prs x.ins.length n).map fun p => eG x p.1 p.2
  | 0, _ => rfl
  | n + 1, hn => by
    have hr := h.mo.rl n (by omega)
    have hil := h.il
    rw [gY, mH h (by omega), prs, List.map_append, List.map_map]
    congr 1
    unfold ew
    rw [show (x.m.nx.getD n []).length = x.ins.length by omega]; rfl
theorem dx {ws : List Bs} (h : ∀ y, y ∈ ws → aX y = true) : (10 : UInt8) ∉ Lib.join ws [32] := by
  induction ws with
  | nil => simp [Lib.join_nil]
  | cons w ws ih =>
    cases ws with
    | nil => rw [Lib.join_one]; exact lc (h w (by simp))
    | cons v ws =>
      rw [dn]
      have := ih fun y hy => h y (aG _ hy)
      simp only [List.mem_append, List.mem_singleton, not_or]
      exact ⟨⟨lc (h w (by simp)), by decide⟩, this⟩
theorem qC {x : Mdl} (h : MVO x) {s a : Nat} (hs : s < x.m.nx.length) (ha : a < x.ins.length) : (10 : UInt8) ∉ eG x s a := by
  have hm := h.mo
  have hn2 := hm.n2
  have hil := h.il
  have hr := hm.nr s a hs (by omega)
  have ho := hm.or s a hs (by omega)
  have ho2 := h.ol s a hs (by omega)
  rw [kJ]
  refine dx fun y hy => ?_
  simp only [List.mem_cons, List.not_mem_nil, or_false] at hy
  rcases hy with rfl | rfl | rfl | rfl
  · exact dt (by omega)
  · exact h.ai.nm a ha
  · exact h.ao.nm _ (by omega)
  · exact dt (by omega)
theorem rz {x : Mdl} (h : MVO x) (l : Bs) (hl : l ∈ hdT x) : (10 : UInt8) ∉ l := by
  have hm := h.mo
  have hn2 := hm.n2
  have hs2 := hm.s2
  have hs1 := hm.s1
  rw [mj h] at hl
  simp only [List.mem_cons, List.not_mem_nil, or_false] at hl
  have hk := fun i hi => mf i hi
  rcases hl with rfl | rfl | rfl | rfl | rfl
  · exact dx fun y hy => by simp only [List.mem_cons, List.not_mem_nil, or_false] at hy; rcases hy with rfl | rfl; exact hk 0 (by decide); exact h.nm
  · exact dx fun y hy => by rcases List.mem_cons.1 hy with rfl | hy; exact hk 1 (by decide); exact jT h.ai hy
  · exact dx fun y hy => by rcases List.mem_cons.1 hy with rfl | hy; exact hk 2 (by decide); exact jT h.ao hy
  · exact dx fun y hy => by
      rcases List.mem_cons.1 hy with rfl | hy
      · exact hk 3 (by decide)
      · obtain ⟨j, hj, rfl⟩ := mB.1 hy
        rw [cq] at hj
        rw [cV hj]; exact dt (by omega)
  · exact dx fun y hy => by simp only [List.mem_cons, List.not_mem_nil, or_false] at hy; rcases hy with rfl | rfl; exact hk 4 (by decide); exact dt (by omega)
theorem si {x : Mdl} (h : mvE x = 0) : SM x = dp (hdT x ++ (prs x.ins.length x.m.nx.length).map fun p => eG x p.1 p.2) := by
  rw [kH h, mH (jZ h) (Nat.le_refl _)]
  exact jA
theorem oK {x : Mdl} (h : mvE x = 0) : (SM x).length ≤ 700001 := by
  rw [kH h, ag]; have := pB (jZ h); simp only [ak, ay]; omega
theorem eY {x : Mdl} (h : mvE x = 0) : PM (SM x) = (x, 0, 0) := by
  have hv := jZ h
  have hz := oK h
  rw [si h] at hz ⊢
  refine rp hv (lz _) (fun s a => iL) (nT _) (fun l hl => ?_) (by omega)
  rcases List.mem_append.1 hl with hl | hl
  · exact rz hv l hl
  · obtain ⟨p, hp, rfl⟩ := List.mem_map.1 hl
    have := iL.1 (show (p.1, p.2) ∈ _ from hp)
    exact qC hv this.1 this.2
theorem tc {x y : Mdl} (hx : mvE x = 0) (hy : mvE y = 0) : SM x = SM y ↔ x = y := by
  constructor
  · intro e
    have h1 := eY hx
    have h2 := eY hy
    rw [e, h2] at h1
    exact (congrArg Prod.fst h1).symm
  · intro e; rw [e]
def gR (x y : Mdl) : Bool := decide (x.nm = y.nm) && decide (x.ins = y.ins) && decide (x.outs = y.outs) && iz x.m y.m
theorem kq {x y : Mdl} : gR x y = true ↔ x = y := by
  obtain ⟨a, b, c, ⟨d, e, f, g⟩⟩ := x
  obtain ⟨a', b', c', ⟨d', e', f', g'⟩⟩ := y
  unfold gR iz
  simp only [Bool.and_eq_true, decide_eq_true_eq, Mdl.mk.injEq, Mly.mk.injEq]
  constructor
  · rintro ⟨⟨⟨h1, h2⟩, h3⟩, ⟨⟨⟨h4, h5⟩, h6⟩, h7⟩⟩; exact ⟨h1, h2, h3, h4, h5, h6, h7⟩
  · rintro ⟨h1, h2, h3, h4, h5, h6, h7⟩; exact ⟨⟨⟨h1, h2⟩, h3⟩, ⟨⟨⟨h4, h5⟩, h6⟩, h7⟩⟩
theorem dK (x : Mdl) : gR x x = true := kq.2 rfl
theorem lh {x y : Mdl} (hx : mvE x = 0) (hy : mvE y = 0) : decide (SM x = SM y) = gR x y := by
  by_cases h : x = y
  · subst h; rw [dK]; simp
  · have h1 : ¬ SM x = SM y := fun e => h ((tc hx hy).1 e)
    have h2 : gR x y = false := by
      cases q : gR x y with
      | false => rfl
      | true => exact absurd (kq.1 q) h
    rw [h2]; simp [h1]
theorem jB {x : Mdl} (h : mr x = false) : x.m.nx.length ≤ 12 := by
  unfold mr at h
  simp only [Bool.or_eq_false_iff, decide_eq_false_iff_not] at h
  omega
/-plain-/
def dO : Mdl := ⟨[103, 97, 116, 101], [[99, 111, 105, 110], [112, 117, 115, 104]], [[110, 111], [111, 107], [116, 117, 114, 110]], ⟨2, 0, [[1, 0], [1, 0]], [[1, 0], [1, 2]]⟩⟩
@[reducible] def gtx : Bs := [109, 97, 99, 104, 105, 110, 101, 32, 103, 97, 116, 101, 10, 105, 110, 112, 117, 116, 115, 32, 99, 111, 105, 110, 32, 112, 117, 115, 104, 10, 111, 117, 116, 112, 117, 116, 115, 32, 110, 111, 32, 111, 107, 32, 116, 117, 114, 110, 10, 115, 116, 97, 116, 101, 115, 32, 113, 48, 32, 113, 49, 10, 115, 116, 97, 114, 116, 32, 113, 48, 10, 113, 48, 32, 99, 111, 105, 110, 32, 111, 107, 32, 113, 49, 10, 113, 48, 32, 112, 117, 115, 104, 32, 110, 111, 32, 113, 48, 10, 113, 49, 32, 99, 111, 105, 110, 32, 111, 107, 32, 113, 49, 10]
@[reducible] def gtA : Bs := gtx ++ [113, 49, 32, 112, 117, 115, 104, 32, 116, 117, 114, 110, 32, 113, 48, 10]
@[reducible] def gtB : Bs := gtx ++ [113, 49, 32, 112, 117, 115, 104, 32, 116, 117, 114, 110, 32, 113, 50, 10]
@[reducible] def gtC : Bs := gtx ++ [113, 49, 32, 99, 111, 105, 110, 32, 116, 117, 114, 110, 32, 113, 48, 10]
theorem mM : mvE dO = 0 := by
  refine m7 (by decide +kernel) (by decide +kernel) (by decide +kernel) (by decide +kernel) ⟨rfl, ?_⟩
  rw [fK (by decide +kernel), ← qV]
  decide +kernel
theorem pJ : SM dO = gtA := by rw [kH mM]; decide +kernel
theorem sG : PM gtA = (dO, 0, 0) := by rw [← pJ]; exact eY mM
theorem pW : (PM gtx).2 = (9, 12) := by decide +kernel
theorem pH : (PM gtB).2 = (9, 8) := by decide +kernel
theorem pT : (PM gtC).2 = (9, 7) := by decide +kernel
theorem pV : (PM []).2 = (1, 12) := by decide +kernel
/-plain-/
def du (P : Program) (X : Nat → Prop) (W : World) : Ctx := { P := P, X := X, keep := fun _ => False, w0 := W, N := 0, bL := [], bσ := fun _ => undef, bw := W }
def ji (P : Program) (X : Nat → Prop) (L : List AO) (σ : Sig) (W : World) : Prop := INV (du P X W) L σ W
structure KEPT (X : Nat → Prop) (W W' : World) : Prop where
  size : W.heap.size ≤ W'.heap.size
  same : ∀ b, X b → W'.heap[b]? = W.heap[b]?
  os : W'.os = W.os
  tape : W'.tape = W.tape
  output : W'.output = W.output
theorem oZ {P : Program} {X : Nat → Prop} {L : List AO} {σ : Sig} {W : World} {f : FuncId} {args : List AV} {out : Out} {vs : List Value} (h : dR P L f args out) (hH : ji P X L σ W) (ha : aP (RV (du P X W) L σ W) args vs) :
    Calls P f vs.toArray W fun e W' => ∃ v σ', e = .returned v ∧ ji P X (app L out) σ' W' ∧ RV (du P X W') (app L out) σ' W' out.av v ∧ KEPT X W W' ∧ ∀ c u, RC (du P X W) L σ W c u → RC (du P X W') (app L out) σ' W' c u := by
  let C2 : Ctx := { P := P, X := X, keep := fun b => b < W.heap.size ∧ ¬ ∃ o, own L σ o b, w0 := W, N := 0, bL := [], bσ := fun _ => undef, bw := W }
  have hX : C2.X = (du P X W).X := rfl
  have hP : C2.P = (du P X W).P := rfl
  have hI : INV C2 L σ W := ⟨fun o ob e => by rw [jV hX hP]; exact hH.ob o ob e, hH.inj, fun o b ho => ⟨fun hk => hk.2 ⟨o, ho⟩, (hH.off o b ho).2⟩, fun b hb => ⟨hb.1, rfl⟩, fun b hb => hH.xlt b hb, Nat.le_refl _, rfl, rfl, rfl⟩
  refine (h.2 C2 L σ W vs rfl hI (by rw [ka hX]; exact ha) (fun _ _ => rfl) rfl).mono fun e W' hh => ?_
  obtain ⟨v, he, σ', g1, g2, g3⟩ := hh
  have hX2 : C2.X = (du P X W').X := rfl
  have hP2 : C2.P = (du P X W').P := rfl
  refine ⟨v, σ', he, ⟨fun o ob e => by rw [← jV hX2 hP2]; exact g1.ob o ob e, g1.inj, fun o b ho => ⟨fun hk => hk, (g1.off o b ho).2⟩, fun b hb => hb.elim, fun b hb => Nat.lt_of_lt_of_le (hH.xlt b hb) g1.size, Nat.le_refl _, rfl, rfl, rfl⟩, by rw [← ka hX2]; exact g2,
    ⟨g1.size, fun b hb => ?_, g1.os, g1.tape, g1.output⟩, fun c u hc => ?_⟩
  · exact (g1.kept b ⟨hH.xlt b hb, fun ⟨o, ho⟩ => (hH.off o b ho).2 hb⟩).2
  · rw [← gb hX2]; exact g3 c u (by rw [gb hX]; exact hc)
section
variable {C C' : Ctx} {L : List AO} {σ : Sig} {W W' : World}
theorem iP (hs : W.heap.size ≤ W'.heap.size) (hk : ∀ b, b < W.heap.size → ¬ avd C L σ b → W'.heap[b]? = W.heap[b]?) (hav : ∀ b, b < W.heap.size → avd C' L σ b → avd C L σ b) {t : Ty} {d : t.den} {off : Nat} {v : Value} (h : f0 C L σ W t d off v) : f0 C' L σ W' t d off v := by
  obtain ⟨b, o, cs, e, h1, h2, h3, h4⟩ := h
  exact ⟨b, o, cs, e, fun h => h1 (hav b h2 h), Nat.lt_of_lt_of_le h2 hs, fun j hj => by rw [← h3 j hj]; exact World.cell?_of_block (hk b h2 h1), h4.keep hs hk hav⟩
theorem nN (hs : W.heap.size ≤ W'.heap.size) (hk : ∀ b, b < W.heap.size → ¬ avd C L σ b → W'.heap[b]? = W.heap[b]?) (hav : ∀ b, b < W.heap.size → avd C' L σ b → avd C L σ b) {f : FuncId} {ds : List ((t : Ty) × t.den)} {v : Value} (h : RFN C L σ W f ds v) : RFN C' L σ W' f ds v := by
  obtain ⟨b, o, vs, e, h1, h2, h3, h4⟩ := h
  exact ⟨b, o, vs, e, fun h => h1 (hav b h2 h), Nat.lt_of_lt_of_le h2 hs, by rw [← h3]; exact World.cell?_of_block (hk b h2 h1), h4.mono fun p u hp => ⟨hp.1, iP hs hk hav hp.2⟩⟩
theorem sD (hs : W.heap.size ≤ W'.heap.size) (hk : ∀ b, b < W.heap.size → ¬ avd C L σ b → W'.heap[b]? = W.heap[b]?) (hav : ∀ b, b < W.heap.size → avd C' L σ b → avd C L σ b) {c : AC} {v : Value} (h : RC C L σ W c v) : RC C' L σ W' c v := by
  refine ⟨h.1, ?_⟩
  have h2 := h.2
  cases c with
  | list t xs => exact h2.keep hs hk hav
  | pat t d off => exact iP hs hk hav h2
  | pfn f ds => exact nN hs hk hav h2
  | fn f caps =>
    obtain ⟨vs, e, ha⟩ := h2
    refine ⟨vs, e, ha.mono fun p u hp => ?_⟩
    cases p with
    | ref o => exact hp
    | pat t d => exact ⟨hp.1, iP hs hk hav hp.2⟩
    | pfn f ds => exact ⟨hp.1, nN hs hk hav hp.2⟩
  | _ => exact h2
theorem oy {base : Nat} {e : TypeId} {sz : Nat} {v : Value} {n : Nat} {flat : List Value} (h : W.ownsRow base e sz v n flat) (hb : ∀ b, blk v = some b → W'.heap[b]? = W.heap[b]?) : W'.ownsRow base e sz v n flat := by
  refine ⟨h.1, ?_⟩
  rcases h.2 with h2 | ⟨g, cap, cur, e1, e2, e3, e4⟩
  · exact .inl h2
  · exact .inr ⟨g, cap, cur, e1, e2, by rw [hb g (by rw [e1]; rfl)]; exact e3, e4⟩
end
theorem ra {P : Program} {X X' : Nat → Prop} {L : List AO} {σ : Sig} {W W' : World} (hH : ji P X L σ W) (hs : W.heap.size ≤ W'.heap.size) (hk : ∀ b, b < W.heap.size → ¬ X b → W'.heap[b]? = W.heap[b]?)
    (hX : ∀ b, X' b → b < W.heap.size → X b) (hX2 : ∀ b, X' b → b < W'.heap.size) :
    ji P X' L σ W' ∧ ∀ c u, RC (du P X W) L σ W c u → RC (du P X' W') L σ W' c u := by
  have hk2 : ∀ b, b < W.heap.size → ¬ avd (du P X W) L σ b → W'.heap[b]? = W.heap[b]? := fun b hb ha => hk b hb fun hx => ha (.inl hx)
  have hav : ∀ b, b < W.heap.size → avd (du P X' W') L σ b → avd (du P X W) L σ b := fun b hb ha => by
    rcases ha with ha | ha
    · exact .inl (hX b ha hb)
    · exact .inr ha
  have hrc : ∀ c u, RC (du P X W) L σ W c u → RC (du P X' W') L σ W' c u := fun c u h => sD hs hk2 hav h
  have hown : ∀ o b, own L σ o b → b < W.heap.size ∧ ¬ X b := fun o b ho => ⟨eH hH ho, (hH.off o b ho).2⟩
  refine ⟨⟨fun o ob e => ?_, hH.inj, fun o b ho => ⟨fun h => h, fun hx => (hown o b ho).2 (hX b hx (hown o b ho).1)⟩, fun b hb => hb.elim, hX2, Nat.le_refl _, rfl, rfl, rfl⟩, hrc⟩
  have h1 := hH.ob o ob e
  have hsame : ∀ b, ob.live = true → blk (σ o) = some b → W'.heap[b]? = W.heap[b]? := fun b hl hb => by
    obtain ⟨q1, q2⟩ := hown o b ⟨ob, e, hl, hb⟩
    exact hk b q1 q2
  cases ob with
  | dead _ => trivial
  | vars T cs => obtain ⟨b, vs, e1, e2, e3⟩ := h1; exact ⟨b, vs, e1, (hsame b rfl (by rw [e1]; rfl)).trans e2, e3.mono fun c u hc => hrc c u hc⟩
  | row t e v xs => obtain ⟨flat, h2, h0, h3⟩ := h1; exact ⟨flat, oy h2 fun b hb => hsame b rfl hb, h0, fun i hi => (h3 i hi).keep hs hk2 hav⟩
  | mp T vk es => obtain ⟨b, ents, clock, e1, e2, e3⟩ := h1; exact ⟨b, ents, clock, e1, (hsame b rfl (by rw [e1]; rfl)).trans e2, e3⟩
  | itr s pos => obtain ⟨b, e1, e2⟩ := h1; exact ⟨b, e1, (hsame b rfl (by rw [e1]; rfl)).trans e2⟩
  | rowc e sz v cs => obtain ⟨flat, m, h2, h0, hl0, h3⟩ := h1; exact ⟨flat, m, oy h2 fun b hb => hsame b rfl hb, h0, hl0, h3.mono fun c u hc => hrc c u hc⟩
theorem qc {P : Program} {X : Nat → Prop} {L : List AO} {σ : Sig} {W : World} {k v : Nat} {I : TypeId} {xs : List Int} (hH : ji P X L σ W) (hk : L[k]? = some (.row (.int .i64) I v xs)) {av : Nat → Prop} (hav : ∀ o b, own L σ o b → ¬ av b) :
    Dat av W (.list (.int .i64)) xs [σ k] := by
  obtain ⟨flat, h8, h9, h10⟩ := hH.ob k _ hk
  rcases h8.2 with ⟨e1, e2⟩ | ⟨g, cap, cur, e1, _, e3, e4, e5, e6, e7⟩
  · rw [e1]
    have : xs = [] := List.eq_nil_of_length_eq_zero e2
    subst this
    exact bH _
  · rw [e1]
    refine ⟨some ⟨g, 0, none⟩, cap, rfl, e4, ⟨e5, fun h => by cases h⟩, fun _ => ⟨g, 0, rfl, hav k g ⟨_, hk, rfl, by rw [e1]; rfl⟩, (Array.getElem?_eq_some_iff.1 e3).1, fun i hi => ⟨_, (h10 i hi).length, fun j hj => ?_, (h10 i hi : Dat _ _ (.int .i64) _ _)⟩⟩⟩
    have hm : (i + 1) * (Ty.int IntKind.i64).size ≤ xs.length * (Ty.int IntKind.i64).size := Nat.mul_le_mul_right _ hi
    rw [Nat.add_mul, Nat.one_mul] at hm
    rw [bj e3, List.getElem?_take_of_lt hj, List.getElem?_drop, ← e7, List.getElem?_take_of_lt (by omega)]
    simp
theorem mI {P : Program} {X : Nat → Prop} {L : List AO} {σ : Sig} {W : World} {k b : Nat} {S I : TypeId} {xs : List (List Int)} (hH : ji P X L σ W) (hk : L[k]? = some (.rowc S 1 0 (cf b xs.length)))
    (hr : ∀ i, i < xs.length → L[b + i]? = some (.row (.int .i64) I 0 (xs.getD i []))) {av : Nat → Prop} (hav : ∀ o b, own L σ o b → ¬ av b) :
    Dat av W (.list (.list (.int .i64))) xs [σ k] := by
  obtain ⟨flat, n, h8, h9, hl, h10⟩ := hH.ob k _ hk
  have hn : n = xs.length := by rw [cz] at hl; omega
  subst hn
  rcases h8.2 with ⟨e1, e2⟩ | ⟨g, cap, cur, e1, _, e3, e4, e5, e6, e7⟩
  · rw [e1]
    have : xs = [] := List.eq_nil_of_length_eq_zero e2
    subst this
    exact bH _
  · rw [e1]
    refine ⟨some ⟨g, 0, none⟩, cap, rfl, e4, ⟨e5, fun h => by cases h⟩, fun _ => ⟨g, 0, rfl, hav k g ⟨_, hk, rfl, by rw [e1]; rfl⟩, (Array.getElem?_eq_some_iff.1 e3).1, fun i hi => ⟨[σ (b + i)], rfl, fun j hj => ?_, qc hH (hr i hi) hav⟩⟩⟩
    have hj0 : j = 0 := by have : (Ty.list (.int .i64)).size = 1 := rfl; omega
    subst hj0
    have hc : (cf b xs.length)[i]? = some (.row (b + i) 0) := by unfold cf; simp [hi]
    obtain ⟨u, hu, hcu⟩ := h10.at_ hc
    obtain ⟨_, ob, q1, q2, q3⟩ := hcu
    rw [hr i hi] at q1; cases q1
    obtain ⟨_, q4⟩ := q3 rfl rfl
    rw [bj e3, ← q4]
    rw [show (Ty.list (.int .i64)).size = 1 from rfl, Nat.mul_one, Nat.add_zero, Nat.zero_add]
    rw [← e7, Nat.mul_one, List.getElem?_take_of_lt hi] at hu
    simpa using hu
/-plain-/
def hF (h : PP → PP) (l : List W3) : List PP := l.map fun e => h e.1
structure HOM (A B : STP) (n : Nat) (I : PP → Prop) (h : PP → PP) : Prop where
  cl : ∀ p, I p → ∀ x, x < n → I (A p x)
  eq : ∀ p, I p → ∀ x, x < n → B (h p) x = h (A p x)
/-plain-/
theorem qq {P : List Bs} {k : Nat} {r : Bs} {c : UInt8} (h : spB c r = P.drop k) (hk : k + 1 = P.length) : r = P.getD k [] ∧ P.take k ++ [r] = P := by
  have h1 := List.drop_eq_getElem_cons (l := P) (i := k) (by omega)
  have h2 : P.drop (k + 1) = [] := List.drop_eq_nil_of_le (by omega)
  rw [h2] at h1
  rw [h1] at h
  have hl : (spB c r).length = 1 := by rw [h]; rfl
  have hn : c ∉ r := by
    rcases (show Lib.indexByte r c < 0 ∨ 0 ≤ Lib.indexByte r c by omega) with q | q
    · exact mS q
    · have := px q
      rw [this] at hl
      have := kt c (r.drop ((Lib.indexByte r c).toNat + 1))
      simp only [ak] at hl
      omega
  rw [jU hn] at h
  have e : r = P[k] := by simpa using h
  refine ⟨by rw [e]; simp [List.getD, List.getElem?_eq_getElem (show k < P.length by omega)], ?_⟩
  rw [e]
  have h3 := List.take_append_drop k P
  rw [h1] at h3
  exact h3
theorem p7 {P : List Bs} {k : Nat} {r : Bs} {c : UInt8} (h : spB c r = P.drop k) (hk : k + 1 < P.length) : 0 ≤ Lib.indexByte r c ∧ r.take (Lib.indexByte r c).toNat = P.getD k [] ∧ spB c (r.drop ((Lib.indexByte r c).toNat + 1)) = P.drop (k + 1) ∧ (Lib.indexByte r c).toNat < r.length := by
  have h1 := List.drop_eq_getElem_cons (l := P) (i := k) (by omega)
  rcases (show Lib.indexByte r c < 0 ∨ 0 ≤ Lib.indexByte r c by omega) with q | q
  · rw [jU (mS q)] at h
    have := congrArg List.length h
    rw [List.length_drop] at this
    simp only [ak, ay] at this
    omega
  · rw [px q, h1] at h
    obtain ⟨e1, e2⟩ := List.cons.inj h
    exact ⟨q, by rw [e1]; simp [List.getD, List.getElem?_eq_getElem (show k < P.length by omega)], e2, (fP q).1⟩
def pcs (P : List Bs) (k : Nat) : List Bs := P.take k ++ List.replicate (P.length - k) []
theorem oB {P : List Bs} {k : Nat} (h : k < P.length) {r : Bs} (e : r = P.getD k []) : (pcs P k).set k r = pcs P (k + 1) := by
  unfold pcs
  rw [List.set_append]
  have hl : (P.take k).length = k := by rw [List.length_take]; omega
  rw [hl, if_neg (by omega), Nat.sub_self, show P.length - k = (P.length - (k + 1)) + 1 by omega, List.replicate_succ, bQ, e, show P.getD k [] = P[k] by simp [List.getD, List.getElem?_eq_getElem h]]
  have e2 : P.take (k + 1) = P.take k ++ [P[k]] := by rw [List.take_add_one, List.getElem?_eq_getElem h]; rfl
  rw [e2, List.append_assoc]; rfl
theorem kD {P : List Bs} {k : Nat} (h : k ≤ P.length) : (pcs P k).length = P.length := by unfold pcs; rw [ag, List.length_take, aH]; omega
theorem sf (P : List Bs) : pcs P P.length = P := by unfold pcs; simp
/-plain-/
/-plain-/
theorem mQ {a b : List Bs} (h : a.length = b.length) (hq : ∀ q, q < a.length → a.getD q [] = b.getD q []) : a = b := by
  refine List.ext_getElem h fun i h1 h2 => ?_
  have := hq i h1
  simpa [List.getD, h1, h2] using this
theorem tE {xs : List Bs} {k : Nat} (h : k < xs.length) (h2 : k < 71) (h3 : 100 < (xs.getD k []).length) : grB xs = true := by
  unfold grB
  rw [Bool.or_eq_true]
  exact .inl (List.any_eq_true.2 ⟨k, List.mem_range.2 (by omega), by simpa using h3⟩)
theorem tB {xs : List Bs} {k : Nat} (h : ¬ (k < xs.length ∧ k < 71)) (hq : ∀ q, q < k → (xs.getD q []).length ≤ 100) : grB xs = decide (70 < (xs.length : Int)) := by
  unfold grB
  have : (List.range (min xs.length 71)).any (fun i => decide (100 < (xs.getD i []).length)) = false := by
    rw [List.any_eq_false]
    intro i hi
    have := List.mem_range.1 hi
    have := hq i (by omega)
    simp; exact this
  rw [this, Bool.false_or]
end Go.AV
namespace Go.Proofs.YtmfkpljjhiglpaaDoor
open Go Go.AV
open Nat renaming reduceEqDiff → M, reduceAdd → E, reduceLeDiff → O, reduceLT → Z, reduceMul → Y, reduceSub → V
open List renaming set_cons_zero → bQ, set_cons_succ → ba, getD_cons_zero → cY, length_append → ag, map_cons → aU, cons_append → ah, map_nil → bE, length_cons → ak, nil_append → am, take_succ_cons → ci, length_nil → ay, length_map → bV, length_replicate → aH, take_length → aE, mem_cons_self → aR, mem_cons_of_mem → aG
open Int renaming toNat_natCast → aJ
theorem zT : type_of% (And.intro Tryd.ea49 (And.intro Tryd.ea90 (And.intro Tryd.el22 (And.intro Tryd.el25 (And.intro Tryd.el44 (And.intro Tryd.sa49 (And.intro Tryd.sa90 (And.intro Tryd.st24 (And.intro Tryd.st27 (And.intro Tryd.st29 (And.intro Tryd.st56 (And.intro Tryd.td1 (And.intro Tryd.td2 (And.intro Tryd.td21 (And.intro Tryd.td22 (And.intro Tryd.td24 (And.intro Tryd.td25 (And.intro Tryd.td27 (And.intro Tryd.td29 (And.intro Tryd.td3 (And.intro Tryd.td32 (And.intro Tryd.td4 (And.intro Tryd.td44 (And.intro Tryd.td49 (And.intro Tryd.td5 (And.intro Tryd.td54 (And.intro Tryd.td56 (And.intro Tryd.td9 Tryd.td90)))))))))))))))))))))))))))) :=
  And.intro Tryd.ea49 (And.intro Tryd.ea90 (And.intro Tryd.el22 (And.intro Tryd.el25 (And.intro Tryd.el44 (And.intro Tryd.sa49 (And.intro Tryd.sa90 (And.intro Tryd.st24 (And.intro Tryd.st27 (And.intro Tryd.st29 (And.intro Tryd.st56 (And.intro Tryd.td1 (And.intro Tryd.td2 (And.intro Tryd.td21 (And.intro Tryd.td22 (And.intro Tryd.td24 (And.intro Tryd.td25 (And.intro Tryd.td27 (And.intro Tryd.td29 (And.intro Tryd.td3 (And.intro Tryd.td32 (And.intro Tryd.td4 (And.intro Tryd.td44 (And.intro Tryd.td49 (And.intro Tryd.td5 (And.intro Tryd.td54 (And.intro Tryd.td56 (And.intro Tryd.td9 Tryd.td90)))))))))))))))))))))))))))
abbrev MyD := Int × (Int × (List (List Int) × (List (List Int) × Unit)))
abbrev MoD := List UInt8 × ((List (List UInt8) × Unit) × ((List (List UInt8) × Unit) × (MyD × Unit)))
def Xof (d : MoD) : Mdl := ⟨d.1, d.2.1.1, d.2.2.1.1, ⟨d.2.2.2.1.1, d.2.2.2.1.2.1, d.2.2.2.1.2.2.1, d.2.2.2.1.2.2.2.1⟩⟩
/- mdlTh -/
theorem mz  : bG Tryd.prog 15 [] (dO.av) := by
 refine aO Tryd.func15 rfl (by kernel_rfl) (Nat.le_of_ble_eq_true rfl) rfl fun C hP hN hB => ?_
 replace hN : C.N = 13 := hN
 simp only [aT, E]
 refine ab fun _ k1 => ?_
 refine af hP hN rfl ?_
 (refine aa rfl fun _ k0 => ?_; simp only [zO, zT, acs, reduceCtorEq, M, E, O, Z, Y, V, dO, Mdl.av, Mdl.cs]; (repeat refine an ?_); (try refine .inl ?_); apply k0; clear k0; simp only [zP, E])
 refine ae ?_
 apply k1; clear k1; refine kp [0] ?_
 refine ab fun _ k2 => ?_
 refine af hP hN rfl ?_
 iterate 13 (refine aa rfl fun _ k0 => ?_; simp only [zO, zT, acs, reduceCtorEq, M, E, O, Z, Y, V, dO, Mdl.av, Mdl.cs]; (repeat refine an ?_); (try refine .inl ?_); apply k0; clear k0; simp only [zP, E])
 refine ae ?_
 apply k2; clear k2; refine kp [0] ?_
 refine aq ?_
 refine ⟨nr, _, rfl, ?_⟩; simp only [zF, zP, M, E, dO, Mdl.av, Mdl.cs]
 refine VLE.of_eq ?_
 rfl
section
open Go.RowKit
def ITC (F : Fence) (n : Nat) (P : Program) (gf : Nat) (lb : Array Value) (encs : Nat → Array Value) (fin : Nat → Prop) (Bx : Nat → World → Prop) (stp : Nat → World → World) : Prop :=
  ∀ (l : Nat) (J JY Jx : Nat → World → Prop) (W : World), (∀ k W, J k W → Bx k W) → (∀ k W, JY k W → Bx k W) → (∀ k W, JY k W → J (k + 1) (stp k W)) →
    (∀ k W, J k W → ¬ fin k → YieldAt F (n - 1) P l (encs k) W fun e W' => (e = .returned (.bool true) ∧ JY k W') ∨ (e = .returned (.bool false) ∧ Jx k W')) → J 0 W →
    CallsIn F n P gf (#[.func (.yield l) #[] #[]] ++ lb) W fun e W' => (∃ v, e = .returned v) ∧ ((∃ k, fin k ∧ J k W') ∨ (∃ k, ¬ fin k ∧ Jx k W'))
def tG (D : Nat) (IY : Nat → World → Prop) (Ix : Code → Nat → World → Prop) (k : Nat) (W : World) : Go.Exit → Act → World → Prop
  | .normal, _, W' => (W'.heap[D]? = W.heap[D]? ∧ W'.heap[D + 1]? = W.heap[D + 1]?) ∧ IY k W'
  | .ret, _, W' => (W'.heap[D]? = W.heap[D]? ∧ W'.heap[D + 1]? = W.heap[D + 1]?) ∧ Ix .ret k W'
  | _, _, _ => False
theorem mO {F : Fence} {n : Nat} {P : Program} {g : Operand} {ps : Array Tmp} {assign body : Code} {Q : Go.Exit → Act → World → Prop} {a : Act} {w : World}
    (hro : F.round = none) (h1 : 1 ≤ n) {gf : Nat} {lb : Array Value} (hg : a.eval g = .func (.func gf) #[] lb) (hFg : F.fn gf) (eg : ∀ args w, (callFunc gf args).run P w = .ok (.enter gf args) w)
    {encs : Nat → Array Value} {fin : Nat → Prop} {Bx : Nat → World → Prop} {stp : Nat → World → World} (hit : ITC F (n - 1) P gf lb encs fin Bx stp) (hps : ∀ k, (encs k).size = ps.size)
    (hstp : ∀ k W b, w.heap.size ≤ b → (stp k W).heap[b]? = W.heap[b]?)
    (I IY : Nat → World → Prop) (Ix : Code → Nat → World → Prop) (hIb : ∀ k W, I k W → Bx k W) (hYb : ∀ k W, IY k W → Bx k W) (hst : ∀ k W, IY k W → I (k + 1) (stp k W))
    (hIp : ∀ k W r, I k W → w.heap.size + 1 < W.heap.size → I k (W.putObj (w.heap.size + 1) (.loop r))) (hYp : ∀ k W r, IY k W → w.heap.size + 1 < W.heap.size → IY k (W.putObj (w.heap.size + 1) (.loop r))) (hXp : ∀ c k W r, Ix c k W → w.heap.size + 1 < W.heap.size → Ix c k (W.putObj (w.heap.size + 1) (.loop r)))
    (h0 : ∀ r, I 0 ((w.alloc (.deferred (some []))).alloc (.loop r))) (a₁ : Nat → Act)
    (hassign : ∀ (l : Nat) (k : Nat) (W : World) (K : Act → World → Prop), K (a₁ k) W →
      assign.wpIn (F.inRound l) (n - 1 - 1) P (Exit.then K (fun _ _ _ => False)) { tmps := (ps.zip (encs k)).foldl (fun t (p, v) => t.setIfInBounds p v) a.tmps, defers := [] } W)
    (hbody : ∀ (k : Nat) (W : World), I k W → ¬ fin k → body.wpIn (F.inRound (w.heap.size + 1)) (n - 1 - 1) P (tG w.heap.size IY Ix k W) (a₁ k) W)
    (hdone : ∀ (k : Nat) (W : World), fin k → I k W → W.heap[w.heap.size]? = some (.deferred (some [])) → Q .normal { a with defers := { target := .collected w.heap.size, args := #[] } :: a.defers } W)
    (hstop : ∀ (c : Code) (k : Nat) (W : World), ¬ fin k → Ix c k W → W.heap[w.heap.size]? = some (.deferred (some [])) → c.wpIn F n P Q { a with defers := { target := .collected w.heap.size, args := #[] } :: a.defers } W) :
    (Code.rangeFunc g ps assign body).wpIn F n P Q a w := by
  refine wpIn_rangeFunc ?_
  intro fn hfn
  rw [hro]
  obtain ⟨rec, hrec⟩ : ∃ rec : LoopState → Option Code → Loop, rec = fun st pe => { state := st, pending := pe, fn, tmps := a.tmps, params := ps, assign, body, defers := w.heap.size } := ⟨_, rfl⟩
  obtain ⟨W1, hW1⟩ : ∃ W1, (w.alloc (.deferred (some []))).alloc (.loop (rec .ready none)) = W1 := ⟨_, rfl⟩
  have hL1 : W1.heap[w.heap.size + 1]? = some (.loop (rec .ready none)) := by
    rw [← hW1]; have := World.alloc_heap_new (w.alloc (.deferred (some []))) (.loop (rec .ready none)); rwa [World.size_alloc] at this
  have k1 : W1.heap[w.heap.size]? = some (.deferred (some [])) := by
    rw [← hW1]; exact (Below.heap_alloc _ _ _ (by simp)).trans (World.alloc_heap_new w _)
  have hI1 : I 0 W1 := by rw [← hW1]; exact h0 _
  refine ⟨w.heap.size + 1, [{ target := .collected w.heap.size, args := #[] }], W1, { target := .fn (.func gf) lb, args := #[.func (.yield (w.heap.size + 1)) #[] #[]] }, W1, gf,
    #[.func (.yield (w.heap.size + 1)) #[] #[]] ++ lb, W1, ?_, ?_, ?_, ?_, fun _ => h1, ?_⟩
  · rw [← hW1, hrec]; exact run_enterLoop_outer _ _ _ _ _
  · simp only [resolve, hg]
    simp [go_sem]
  · intro f' hf'; simp [Target.leads] at hf'; subst hf'; exact hFg
  · simp [invoke, go_sem, eg]
  · refine (hit (w.heap.size + 1)
      (fun k W => I k W ∧ W.heap[w.heap.size + 1]? = some (.loop (rec .ready none)) ∧ W.heap[w.heap.size]? = some (.deferred (some [])))
      (fun k W => IY k W ∧ W.heap[w.heap.size + 1]? = some (.loop (rec .ready none)) ∧ W.heap[w.heap.size]? = some (.deferred (some [])))
      (fun k W => ∃ c, Ix c k W ∧ W.heap[w.heap.size + 1]? = some (.loop (rec .done (some c))) ∧ W.heap[w.heap.size]? = some (.deferred (some [])))
      W1 (fun k W h => hIb k W h.1) (fun k W h => hYb k W h.1) (fun k W h => ⟨hst k W h.1, (hstp k W _ (Nat.le_succ _)).trans h.2.1, (hstp k W _ (Nat.le_refl _)).trans h.2.2⟩) ?_ ⟨hI1, hL1, k1⟩).mono ?_
    · rintro k W ⟨hi, hl, hk⟩ hnf
      have hlt : w.heap.size + 1 < W.heap.size := (Array.getElem?_eq_some_iff.1 hl).1
      have hy := run_yield (P := P) (args := encs k) hl (by rw [hrec]; exact hps k)
      rw [hrec] at hy
      refine ⟨fn, _, assign, body, hy, roundIn_of_wpIn hfn (hassign _ k W _ ?_)⟩
      clear hy
      refine ⟨_, run_beginRound hl (by rw [hrec]), ?_⟩
      have hl2 : (W.putObj (w.heap.size + 1) (.loop { rec .ready none with state := .busy })).heap[w.heap.size + 1]? = some (.loop { rec .ready none with state := .busy }) := World.putObj_heap_same hlt
      have hk2 : (W.putObj (w.heap.size + 1) (.loop { rec .ready none with state := .busy })).heap[w.heap.size]? = some (.deferred (some [])) := (World.putObj_heap_other (by omega)).trans hk
      refine wpIn_mono (hbody k _ (hIp k W _ hi hlt) hnf) ?_
      have fin2 : ∀ (jump : Option Code) (W3 : World), (W3.heap[w.heap.size]? = (W.putObj (w.heap.size + 1) (.loop { rec .ready none with state := .busy })).heap[w.heap.size]? ∧ W3.heap[w.heap.size + 1]? = (W.putObj (w.heap.size + 1) (.loop { rec .ready none with state := .busy })).heap[w.heap.size + 1]?) →
          w.heap.size + 1 < W3.heap.size ∧
          (Instr.endRound (w.heap.size + 1) jump).run P W3 = .ok (.bool jump.isNone) (W3.putObj (w.heap.size + 1) (.loop (rec (if jump.isNone then .ready else .done) jump))) ∧
          (W3.putObj (w.heap.size + 1) (.loop (rec (if jump.isNone then .ready else .done) jump))).heap[w.heap.size + 1]? = some (.loop (rec (if jump.isNone then .ready else .done) jump)) ∧
          (W3.putObj (w.heap.size + 1) (.loop (rec (if jump.isNone then .ready else .done) jump))).heap[w.heap.size]? = some (.deferred (some [])) := fun jump W3 hk3 => by
        have hl3 := hk3.2.trans hl2
        have := run_endRound (P := P) jump hl3
        rw [hrec] at this ⊢
        have hlt3 := (Array.getElem?_eq_some_iff.1 hl3).1
        exact ⟨hlt3, this, World.putObj_heap_same hlt3, (World.putObj_heap_other (by omega)).trans (hk3.1.trans hk2)⟩
      rintro e a3 W3 hp
      cases e with
      | normal =>
        obtain ⟨hk3, hi3⟩ := hp
        obtain ⟨hlt3, hr, hl4, hk4⟩ := fin2 none W3 hk3
        exact ⟨_, _, hr, .inl ⟨rfl, hYp k W3 _ hi3 hlt3, hl4, hk4⟩⟩
      | ret =>
        obtain ⟨hk3, hi3⟩ := hp
        obtain ⟨hlt3, hr, hl4, hk4⟩ := fin2 (some .ret) W3 hk3
        exact ⟨_, _, hr, .inr ⟨rfl, .ret, hXp _ k W3 _ hi3 hlt3, hl4, hk4⟩⟩
      | exit id => exact hp.elim
      | goto t => exact hp.elim
      | panic ch => exact hp.elim
      | outgrown => exact hp.elim
    · rintro e W2 ⟨⟨v, rfl⟩, (⟨k, hf, hi, hl, hk⟩ | ⟨k, hf, c, hi, hl, hk⟩)⟩
      · have hlt := (Array.getElem?_eq_some_iff.1 hl).1
        exact ⟨none, _, by have := run_endLoop (P := P) hl (by rw [hrec]; simp); rw [hrec] at this; exact this, hdone k _ hf (hIp k W2 _ hi hlt) ((World.putObj_heap_other (by omega)).trans hk)⟩
      · have hlt := (Array.getElem?_eq_some_iff.1 hl).1
        exact ⟨some c, _, by have := run_endLoop (P := P) hl (by rw [hrec]; simp); rw [hrec] at this; exact this, hstop c k _ hf (hXp c k W2 _ hi hlt) ((World.putObj_heap_other (by omega)).trans hk)⟩
end
open Go.Shelf in
def Tryd.lays137_ren : Go.Shelf.Ren := ⟨fun | 137 => 35 | 217 => 48 | 266 => 68 | n => n, fun | 9 => 9 | 5 => 5 | 3 => 3 | n => n, fun | n => n⟩
theorem Tryd.lays137 : Go.Proofs.Lays.n137 Tryd.prog Tryd.lays137_ren := {
  mixed := by kernel_rfl,
  f137 := Tryd.func35.trans (congrArg some (by kernel_rfl)),
  f217 := Tryd.func48.trans (congrArg some (by kernel_rfl)),
  f266 := Tryd.func68.trans (congrArg some (by kernel_rfl)),
  t3 := Tryd.underlying3,
  a3 := Tryd.isAgg3,
  z3 := Tryd.sizeOf3,
  v3 := Tryd.zeroValue3,
  t5 := Tryd.underlying5,
  a5 := Tryd.isAgg5,
  z5 := Tryd.sizeOf5,
  v5 := Tryd.zeroValue5,
  t9 := Tryd.underlying9,
  a9 := Tryd.isAgg9,
  z9 := Tryd.sizeOf9,
  v9 := Tryd.zeroValue9 }
theorem sY (s : List UInt8) : bG Tryd.prog 35 [.one (.str s), .one (.int .u8 10)] (.one (.int .i64 (Lib.indexByte s 10))) := by
  refine ⟨⟨Tryd.f35, Tryd.func35, by kernel_rfl, by kernel_rfl⟩, fun C L σ w vs hP hi ha => ?_⟩
  match vs, ha with
  | [v1, v2], ⟨h1, h2, _⟩ =>
  have e1 : v1 = .string ⟨s.toArray⟩ := h1.2
  have e2 := h2.2
  subst e1
  simp only [RC0] at e2
  subst e2
  refine Calls.mono (Any.strings_IndexByte Tryd.lays137 ⟨s.toArray⟩ 10 w) fun e w' hh => ?_
  obtain ⟨e1, e2⟩ := hh
  subst e2
  exact ⟨_, e1, MORE.refl _, rfl, rfl⟩
section
open Go.RowKit Go.Shelf
attribute [local go_sem] Oper.semAt_some
set_option maxHeartbeats 2000000 in
theorem nG (n : Nat) (hn : 1 ≤ n) (s : Bs) (hs : s.length ≤ 1048576) (B : Nat) : ITC Fence.wide n Tryd.prog 34 #[.pointer (some ⟨B, 0, none⟩)] (fun k => #[.int .i64 ((k : Int) + 1), .string ⟨(bM s k).toArray⟩]) (fun k => aN s k = [])
    (fun k W => W.heap[B]? = some (.cells #[.string ⟨(aN s k).toArray⟩] 9 (0, 0))) (fun k W => W.setCell ⟨B, 0, none⟩ (.string ⟨(aN s (k + 1)).toArray⟩)) := by
  intro l J JY Jx W hJb hYb hst hY h0
  have w35 : Fence.wide.fn 35 := trivial
  refine callsIn_of_wp Tryd.func34 rfl trivial ?_ rfl
  simp only [Tryd.ntmps34, List.size_toArray, ak, ay, E, V, Array.replicate_succ, Array.replicate_zero, List.push_toArray, List.append_toArray, am, ah]
  gi_wp2
  gi_loopw [3] (fun i wr => ∃ k : Nat, i = .int .i64 ((k : Int) + 1) ∧ J k wr) (fun i _ => s.length + 2 - (intOf i).toNat)
  case atStart => exact ⟨0, rfl, h0⟩
  case round =>
    obtain ⟨k, rfl, hJ⟩ := hrel
    have hb := hJb _ _ hJ
    have hrl := oM s k
    have cB : wr.cell? ⟨B, 0, none⟩ = some (.string ⟨(aN s k).toArray⟩) := by simp [World.cell?, hb]
    by_cases he : aN s k = []
    · gi_wp2
      go_end0
      exact ⟨⟨_, rfl⟩, .inl ⟨k, he, hJ⟩⟩
    · have he2 : (!(aN s k).isEmpty) = true := by cases h : aN s k with
        | nil => exact absurd h he
        | cons _ _ => rfl
      have hix := callsIn_wide (n := n - 1).2 (show Calls Tryd.prog 35 #[.string ⟨(aN s k).toArray⟩, .int .u8 10] wr fun e w' => e = .returned (.int .i64 (Lib.indexByte (aN s k) 10)) ∧ w' = wr from Any.strings_IndexByte Tryd.lays137 ⟨(aN s k).toArray⟩ 10 wr)
      obtain ⟨fn, tmps, assign, body, hy, hR⟩ := hY k wr hJ he
      have hk2 := gi s k he
      by_cases hi : Lib.indexByte (aN s k) 10 < 0
      · have hi2 : Lib.indexByte (aN s k) 10 = -1 := by have := Lib.indexByte_ge (aN s k) 10; omega
        have hE : lnE (aN s k) = (aN s k).length := if_pos hi
        have hx1 : (⟨(aN s k).toArray⟩ : ByteArray).extract 0 (aN s k).length = ⟨(bM s k).toArray⟩ := by rw [pL]; unfold bM; rw [hE]
        have hx2 : (⟨(aN s k).toArray⟩ : ByteArray).extract (aN s k).length (aN s k).length = ⟨(aN s (k + 1)).toArray⟩ := by rw [oN]; show _ = (⟨((aN s k).drop (lnE (aN s k))).toArray⟩ : ByteArray); rw [hE]
        have hz : (⟨(aN s (k + 1)).toArray⟩ : ByteArray) = ByteArray.empty := by show (⟨((aN s k).drop (lnE (aN s k))).toArray⟩ : ByteArray) = _; rw [hE, List.drop_length]; rfl
        rw [hi2] at hix
        clear hi hi2 hE
        gi_wp2_with (gi_at_call 35; refine hix.mono ?_; rintro e w' ⟨rfl, hw⟩; rw [hw])
        refine hR.mono ?_
        rintro e W3 (⟨rfl, hJ3⟩ | ⟨rfl, hJx⟩)
        · have b3 := hYb _ _ hJ3
          have c3 : W3.cell? ⟨B, 0, none⟩ = some (.string ⟨(aN s k).toArray⟩) := by simp [World.cell?, b3]
          have f3 : W3.frozen? ⟨B, 0, none⟩ = false := by simp [World.frozen?, b3]
          have hJ4 := hst k W3 hJ3
          try rw [hz] at hJ4
          clear b3 hJ3
          gi_wp2
          go_roundw
          case rel => exact ⟨k + 1, by simp, hJ4⟩
          case measure => simp [intOf]; omega
        · gi_wp2
          refine bodyPost_ret (results_none rfl _ _ _) rfl ?_
          exact ⟨⟨_, rfl⟩, .inr ⟨k, he, hJx⟩⟩
      · have q1 := (fP (s := aN s k) (c := 10) (by omega)).1
        obtain ⟨i, hj, hi0, hE, hel⟩ : ∃ i : Int, Lib.indexByte (aN s k) 10 = i ∧ 0 ≤ i ∧ lnE (aN s k) = (i + 1).toNat ∧ i + 1 ≤ ((aN s k).length : Int) :=
          ⟨Lib.indexByte (aN s k) 10, rfl, by omega, by unfold lnE; rw [if_neg hi]; omega, by omega⟩
        have hx1 : (⟨(aN s k).toArray⟩ : ByteArray).extract 0 (i + 1).toNat = ⟨(bM s k).toArray⟩ := by rw [pL]; unfold bM; rw [hE]
        have hx2 : (⟨(aN s k).toArray⟩ : ByteArray).extract (i + 1).toNat (aN s k).length = ⟨(aN s (k + 1)).toArray⟩ := by rw [oN]; show _ = (⟨((aN s k).drop (lnE (aN s k))).toArray⟩ : ByteArray); rw [hE]
        rw [hj] at hix
        have hi1 : i ≤ 1048575 := by omega
        clear hi hj hE q1
        gi_wp2_with (gi_at_call 35; refine hix.mono ?_; rintro e w' ⟨rfl, hw⟩; rw [hw])
        refine hR.mono ?_
        rintro e W3 (⟨rfl, hJ3⟩ | ⟨rfl, hJx⟩)
        · have b3 := hYb _ _ hJ3
          have c3 : W3.cell? ⟨B, 0, none⟩ = some (.string ⟨(aN s k).toArray⟩) := by simp [World.cell?, b3]
          have f3 : W3.frozen? ⟨B, 0, none⟩ = false := by simp [World.frozen?, b3]
          have hJ4 := hst k W3 hJ3
          try rw [hz] at hJ4
          clear b3 hJ3
          gi_wp2
          go_roundw
          case rel => exact ⟨k + 1, by simp, hJ4⟩
          case measure => simp [intOf]; omega
        · gi_wp2
          refine bodyPost_ret (results_none rfl _ _ _) rfl ?_
          exact ⟨⟨_, rfl⟩, .inr ⟨k, he, hJx⟩⟩
theorem sN (n : Nat) (x : ByteArray) (w : World) :
    CallsIn Fence.wide n Tryd.prog 23 #[.string x] w fun e w' => e = .returned (.func (.func 34) #[] #[.pointer (some ⟨w.heap.size, 0, none⟩)]) ∧ w' = w.alloc (.cells #[.string x] 9) := by
  refine callsIn_of_wp Tryd.func23 rfl trivial ?_ rfl
  simp only [Tryd.ntmps23, List.size_toArray, ak, ay, E, V, Array.replicate_succ, Array.replicate_zero, List.push_toArray, List.append_toArray, am, ah]
  gi_wp2
  go_ret
  exact ⟨rfl, rfl⟩
end
theorem qi (s p : Bs) (hs : s.length ≤ 9223372036854775807) : bG Tryd.prog 69 [.one (.str s), .one (.str p)] (.one (.bool (da s p))) := by
 refine aO Tryd.func69 rfl (by kernel_rfl) (Nat.le_of_ble_eq_true rfl) rfl fun C hP hN hB => ?_
 replace hN : C.N = 21 := hN
 simp only [aT, E]
 refine ab fun _ k1 => ?_
 refine af hP hN rfl ?_
 (refine aa rfl fun _ k0 => ?_; simp only [zO, zT, acs, reduceCtorEq, M, E, O, Z, Y, V]; (repeat refine an ?_); (try refine .inl ?_); apply k0; clear k0; simp only [zP, E])
 refine ae ?_
 apply k1; clear k1; refine kp [0, 1, 4] ?_
 refine ab fun _ k2 => ?_
 refine af hP hN rfl ?_
 iterate 6 (refine aa rfl fun _ k0 => ?_; simp only [zO, zT, acs, reduceCtorEq, M, E, O, Z, Y, V]; (repeat refine an ?_); (try refine .inl ?_); apply k0; clear k0; simp only [zP, E])
 refine' ar (want := true) 9 rfl (m := 10) (by simp only [zP, M, E]; exact rfl) (by kernel_rfl) rfl rfl rfl rfl rfl (fun hg3 => ?a3) ?b3 ?c3
 case a3 =>
  have hq3 := hg3; (try simp only [zB, reduceCtorEq] at hg3); simp only [zE]
  iterate 6 (refine aK rfl fun _ k0 => ?_; simp only [zO, zT, acs, reduceCtorEq, M, E, O, Z, Y, V]; (repeat refine an ?_); (try refine .inl ?_); apply k0; clear k0; simp only [zP, E])
  (refine aK rfl fun _ k0 => ?_; simp only [zE, op1, ev, lkp, cW, bq, cr, bnd, Ty.size, reduceCtorEq, M, E, O, Z, Y, V, Tryd.td9]; (repeat refine an ?_); (try refine .inl ?_); apply k0; clear k0; simp only [zP, E])
  iterate 2 (refine aK rfl fun _ k0 => ?_; simp only [zO, zT, acs, reduceCtorEq, M, E, O, Z, Y, V]; (repeat refine an ?_); (try refine .inl ?_); apply k0; clear k0; simp only [zP, E])
  (refine aa rfl fun _ k0 => ?_; simp only [zO, zT, acs, reduceCtorEq, M, E, O, Z, Y, V]; (repeat refine an ?_); (try refine .inl ?_); apply k0; clear k0; simp only [zP, E])
  refine ae ?_
  refine ⟨by simp only [zP, M, E]; exact rfl, rfl, ?_, rfl⟩; (repeat refine au rfl ?_); exact aL (by exact rfl) hq3
 case b3 => exact bb
 simp only [aF, az]
 (refine aa rfl fun _ k0 => ?_; simp only [zO, zT, acs, reduceCtorEq, M, E, O, Z, Y, V]; (repeat refine an ?_); (try refine .inl ?_); apply k0; clear k0; simp only [zP, E])
 refine ae ?_
 apply k2; clear k2; refine kp [0, 1, 4] ?_
 refine aq ?_
 refine ⟨nr, _, rfl, ?_⟩; simp only [zF, zP, M, E]
 refine VLE.of_eq ?_
 have e : decide ((p.length : Int) ≤ s.length) = decide (p.length ≤ s.length) := decide_eq_decide.2 Int.ofNat_le
 rw [e, aE, Int.toNat_sub]; rfl
theorem pb (s p : Bs) (hs : s.length ≤ 9223372036854775807) : bG Tryd.prog 49 [.one (.str s), .one (.str p)] (.tup [.one (.str (if da s p = true then s.take (s.length - p.length) else s)), .one (.bool (da s p))]) := by
 refine aO Tryd.func49 rfl (by kernel_rfl) (Nat.le_of_ble_eq_true rfl) rfl fun C hP hN hB => ?_
 replace hN : C.N = 18 := hN
 simp only [aT, E]
 refine ab fun _ k1 => ?_
 refine af hP hN rfl ?_
 iterate 2 (refine aa rfl fun _ k0 => ?_; simp only [zO, zT, acs, reduceCtorEq, M, E, O, Z, Y, V]; (repeat refine an ?_); (try refine .inl ?_); apply k0; clear k0; simp only [zP, E])
 refine ae ?_
 apply k1; clear k1; refine kp [0, 1, 4, 5] ?_
 refine ab fun _ k2 => ?_
 refine ab fun _ k3 => ?_
 refine af hP hN rfl ?_
 iterate 2 (refine aa rfl fun _ k0 => ?_; simp only [zO, zT, acs, reduceCtorEq, M, E, O, Z, Y, V]; (repeat refine an ?_); (try refine .inl ?_); apply k0; clear k0; simp only [zP, E])
 refine aa rfl fun _ k0 => ?_
 refine aw (h := aj (qi s p hs)) rfl rfl (by first | exact rfl | (simp only [ev, zP, M, E]; exact rfl)) (by simp only [zV, acs, reduceCtorEq, M, E, O, Z, Y, V]) ?_
 apply k0; clear k0; simp only [zP, E]
 (refine aa rfl fun _ k0 => ?_; simp only [zO, zT, acs, reduceCtorEq, M, E, O, Z, Y, V]; (repeat refine an ?_); (try refine .inl ?_); apply k0; clear k0; simp only [zP, E])
 refine ae ?_
 apply k3; clear k3; refine kp [0, 1, 4, 5, 9] ?_
 refine cd (fun hc4 => ?_) (fun hc4 => ?_)
 ·(try simp only [zB, reduceCtorEq] at hc4)
  have hsf : da s p = false := by simpa using hc4
  refine ab fun _ k5 => ?_
  refine af hP hN rfl ?_
  iterate 3 (refine aa rfl fun _ k0 => ?_; simp only [zO, zT, acs, reduceCtorEq, M, E, O, Z, Y, V]; (repeat refine an ?_); (try refine .inl ?_); apply k0; clear k0; simp only [zP, E])
  refine ae ?_
  apply k5; clear k5; refine kp [0, 1, 4, 5, 9] ?_
  refine aq ?_
  refine ⟨nr, _, rfl, ?_⟩; simp only [zF, zP, M, E]
  refine VLE.of_eq ?_
  simp only [hsf, if_true, List.drop_zero, Int.toNat_sub, Int.toNat_zero, Bool.false_eq_true, if_false]
 (try simp only [zB, reduceCtorEq] at hc4)
 have hsf : da s p = true := by simpa using hc4
 have hle : p.length ≤ s.length := by unfold da at hsf; simp only [Bool.and_eq_true, decide_eq_true_eq] at hsf; exact hsf.1
 refine ax ?_
 apply k2; clear k2; refine kp [0, 1, 4, 5, 9] ?_
 refine ab fun _ k6 => ?_
 refine af hP hN rfl ?_
 iterate 6 (refine aa rfl fun _ k0 => ?_; simp only [zO, zT, acs, reduceCtorEq, M, E, O, Z, Y, V]; (repeat refine an ?_); (try refine .inl ?_); apply k0; clear k0; simp only [zP, E])
 (refine aa rfl fun _ k0 => ?_; simp only [zE, op1, ev, lkp, cW, bq, cL, jF, j5, bZ, cH, fz, Nat.div_one, dA, cO, Ty.size, aV, dite_true, fu, bz, cZ, ey, cQ, dH, cr, bnd, reduceCtorEq, M, E, O, Z, Y, V, Tryd.td3, Tryd.td4, Tryd.td9]; (repeat refine an ?_); (try refine .inl ?_); apply k0; clear k0; simp only [zP, E])
 iterate 2 (refine aa rfl fun _ k0 => ?_; simp only [zO, zT, acs, reduceCtorEq, M, E, O, Z, Y, V]; (repeat refine an ?_); (try refine .inl ?_); apply k0; clear k0; simp only [zP, E])
 refine ae ?_
 apply k6; clear k6; refine kp [0, 1, 4, 5, 9] ?_
 refine aq ?_
 refine ⟨nr, _, rfl, ?_⟩; simp only [zF, zP, M, E]
 refine VLE.of_eq ?_
 simp only [hsf, if_true, List.drop_zero, Int.toNat_sub, Int.toNat_zero, Bool.false_eq_true, if_false]
theorem qT (s p : Bs) (hs : s.length ≤ 9223372036854775807) : bG Tryd.prog 36 [.one (.str s), .one (.str p)] (.tup [.one (.str (if da s p = true then s.take (s.length - p.length) else s)), .one (.bool (da s p))]) := by
 refine aO Tryd.func36 rfl (by kernel_rfl) (Nat.le_of_ble_eq_true rfl) rfl fun C hP hN hB => ?_
 replace hN : C.N = 11 := hN
 simp only [aT, E]
 refine ab fun _ k1 => ?_
 refine af hP hN rfl ?_
 iterate 2 (refine aa rfl fun _ k0 => ?_; simp only [zO, zT, acs, reduceCtorEq, M, E, O, Z, Y, V]; (repeat refine an ?_); (try refine .inl ?_); apply k0; clear k0; simp only [zP, E])
 refine ae ?_
 apply k1; clear k1; refine kp [0, 1, 4, 5] ?_
 refine ab fun _ k2 => ?_
 refine af hP hN rfl ?_
 iterate 2 (refine aa rfl fun _ k0 => ?_; simp only [zO, zT, acs, reduceCtorEq, M, E, O, Z, Y, V]; (repeat refine an ?_); (try refine .inl ?_); apply k0; clear k0; simp only [zP, E])
 refine aa rfl fun _ k0 => ?_
 refine aw (h := aj (pb s p hs)) rfl rfl (by first | exact rfl | (simp only [ev, zP, M, E]; exact rfl)) (by simp only [zV, acs, reduceCtorEq, M, E, O, Z, Y, V]) ?_
 apply k0; clear k0; simp only [zP, E]
 iterate 4 (refine aa rfl fun _ k0 => ?_; simp only [zO, zT, acs, reduceCtorEq, M, E, O, Z, Y, V]; (repeat refine an ?_); (try refine .inl ?_); apply k0; clear k0; simp only [zP, E])
 refine ae ?_
 apply k2; clear k2; refine kp [0, 1, 4, 5] ?_
 refine aq ?_
 refine ⟨nr, _, rfl, ?_⟩; simp only [zF, zP, M, E]
 refine VLE.of_eq ?_
 rfl
end Go.Proofs.YtmfkpljjhiglpaaDoor
