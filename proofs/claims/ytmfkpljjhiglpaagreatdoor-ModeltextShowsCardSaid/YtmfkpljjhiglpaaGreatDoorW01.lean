/- Contracts of functions of this seat, each out of a walk through its code, and plain facts on what they compute. Conditions: those that each theorem names. -/
import Derived.Test.YtmfkpljjhiglpaaGreatDoorW00
set_option linter.unusedSimpArgs false
set_option linter.unusedVariables false
set_option maxRecDepth 100000
namespace Go.AV
open Nat renaming reduceEqDiff → M, reduceAdd → E, reduceLeDiff → O, reduceLT → Z, reduceMul → Y, reduceSub → V
open List renaming set_cons_zero → bJ, set_cons_succ → be, getD_cons_zero → cI, length_append → ag, map_cons → aT, cons_append → ak, map_nil → bG, length_cons → ah, nil_append → ar, take_succ_cons → cf, length_nil → am, length_map → bV, length_replicate → aI, take_length → aG, mem_cons_self → aS, mem_cons_of_mem → aF
open Int renaming toNat_natCast → aJ
/-plain-/
def bI1 (b : Bool) : Int := if b = true then 1 else 0
def uR (d : Dfa) (s : Nat) : Int := bI1 (d.acc.getD s false)
/-plain-/
/-plain-/
/-plain-/
/-plain-/
def Dfa.sg (d : Dfa) (cl : List Int) (s : Nat) : List Int := cl.getD s 0 :: (d.nx.getD s []).map fun t => cl.getD t.toNat 0
def Dfa.nxL (d : Dfa) (cl : List Int) : List Int := (List.range d.nx.length).map fun s => (pos (sL (d.sg cl) d.nx.length) (d.sg cl s) : Int)
def Dfa.cl (d : Dfa) : Nat → List Int
  | 0 => (List.range d.nx.length).map (uR d)
  | i + 1 => d.nxL (d.cl i)
def Dfa.cn (d : Dfa) : Nat → Nat
  | 0 => 0
  | i + 1 => (sL (d.sg (d.cl i)) d.nx.length).length
def uQ (n : Int) (w : List Int) : Prop := ∀ x, x ∈ w → 0 ≤ x ∧ x < n
def DEQ (a b : Dfa) (s t : Int) : Prop := ∀ w : List Int, uQ a.inp w → a.ac (a.run s w) = b.ac (b.run t w)
theorem DEQ.refl (d : Dfa) (s : Int) : DEQ d d s s := fun _ _ => rfl
theorem DEQ.symm {d : Dfa} {s t : Int} (h : DEQ d d s t) : DEQ d d t s := fun w hw => (h w hw).symm
theorem DEQ.trans {d : Dfa} {s t u : Int} (h : DEQ d d s t) (h2 : DEQ d d t u) : DEQ d d s u := fun w hw => (h w hw).trans (h2 w hw)
theorem DEQ.join {a b c : Dfa} {s t u : Int} (hi : a.inp = b.inp) (h : DEQ a b s t) (h2 : DEQ b c t u) : DEQ a c s u := fun w hw => (h w hw).trans (h2 w (hi ▸ hw))
/-plain-/
/-plain-/
/-plain-/
structure SIM (A B : STP) (n : Nat) (R : PP → PP → Prop) : Prop where
  st : ∀ p q, R p q → ∀ x, x < n → R (A p x) (B q x)
  bi : ∀ p q p' q', R p q → R p' q' → (p = p' ↔ q = q')
def RL (R : PP → PP → Prop) (l l' : List W3) : Prop := l.length = l'.length ∧ ∀ i, i < l.length → R (l.getD i w30).1 (l'.getD i w30).1 ∧ (l.getD i w30).2 = (l'.getD i w30).2
theorem RL.mem {A B : STP} {n : Nat} {R : PP → PP → Prop} (hs : SIM A B n R) {l l' : List W3} (h : RL R l l') {p q : PP} (hr : R p q) : p ∈ l.map Prod.fst ↔ q ∈ l'.map Prod.fst := by
  constructor
  · intro hm
    obtain ⟨e, he, e1⟩ := List.mem_map.1 hm
    obtain ⟨i, hi⟩ := List.getElem?_of_mem he
    have hlt := (List.getElem?_eq_some_iff.1 hi).1
    have h2 := h.2 i hlt
    have h3 : l.getD i w30 = e := by rw [List.getD, hi]; rfl
    rw [h3, e1] at h2
    have := (hs.bi _ _ _ _ h2.1 hr).1 rfl
    rw [← this]
    exact List.mem_map.2 ⟨_, nY (by rw [← h.1]; exact hlt), rfl⟩
  · intro hm
    obtain ⟨e, he, e1⟩ := List.mem_map.1 hm
    obtain ⟨i, hi⟩ := List.getElem?_of_mem he
    have hlt := (List.getElem?_eq_some_iff.1 hi).1
    have h2 := h.2 i (by rw [h.1]; exact hlt)
    have h3 : l'.getD i w30 = e := by rw [List.getD, hi]; rfl
    rw [h3, e1] at h2
    have := (hs.bi _ _ _ _ h2.1 hr).2 rfl
    rw [← this]
    exact List.mem_map.2 ⟨_, nY (by rw [h.1]; exact hlt), rfl⟩
theorem RL.snoc {R : PP → PP → Prop} {l l' : List W3} (h : RL R l l') {e f : W3} (hr : R e.1 f.1) (hw : e.2 = f.2) : RL R (l ++ [e]) (l' ++ [f]) := by
  refine ⟨by simp [h.1], fun i hi => ?_⟩
  rw [ag, List.length_singleton] at hi
  by_cases e1 : i < l.length
  · rw [bQ e1, bQ (by rw [← h.1]; exact e1)]; exact h.2 i e1
  · rw [cM (by omega), cM (by have := h.1; omega)]; exact ⟨hr, hw⟩
theorem RL.row {A B : STP} {n : Nat} {R : PP → PP → Prop} (hs : SIM A B n R) {l l' : List W3} (h : RL R l l') {e f : W3} (hr : R e.1 f.1) (hw : e.2 = f.2) : ∀ x, x ≤ n → RL R (fO A e l x) (fO B f l' x)
  | 0, _ => h
  | x + 1, hx => by
    have ih := h.row hs hr hw x (by omega)
    have h2 := hs.st _ _ hr x (by omega)
    rw [fo, fo]
    by_cases hm : A e.1 x ∈ (fO A e l x).map Prod.fst
    · rw [nT hm, nT ((ih.mem hs h2).1 hm)]; exact ih
    · rw [lS hm, lS (fun k => hm ((ih.mem hs h2).2 k))]
      exact ih.snoc h2 (by rw [hw])
theorem RL.one {R : PP → PP → Prop} {p q : PP} (h : R p q) : RL R [(p, [])] [(q, [])] := ⟨rfl, fun i hi => by
  have : i = 0 := by simpa using hi
  subst this; exact ⟨h, rfl⟩⟩
/-plain-/
/-plain-/
def SLT (u v : List Int) : Prop := u.length < v.length ∨ (u.length = v.length ∧ ∃ m, m < u.length ∧ (∀ q, q < m → u.getD q 0 = v.getD q 0) ∧ u.getD m 0 < v.getD m 0)
def SLE (u v : List Int) : Prop := u = v ∨ SLT u v
theorem SLT.trans {u v w : List Int} (h : SLT u v) (h2 : SLT v w) : SLT u w := by
  rcases h with h | ⟨h, m, a1, a2, a3⟩
  · rcases h2 with h2 | ⟨h2, _⟩
    · exact .inl (by omega)
    · exact .inl (by omega)
  · rcases h2 with h2 | ⟨h2, k, b1, b2, b3⟩
    · exact .inl (by omega)
    · refine .inr ⟨by omega, ?_⟩
      rcases Nat.lt_trichotomy m k with e | e | e
      · exact ⟨m, a1, fun q hq => (a2 q hq).trans (b2 q (by omega)), by rw [← b2 m e]; exact a3⟩
      · subst e; exact ⟨m, a1, fun q hq => (a2 q hq).trans (b2 q hq), by omega⟩
      · exact ⟨k, by omega, fun q hq => (a2 q (by omega)).trans (b2 q hq), by rw [a2 k e]; exact b3⟩
theorem SLE.trans_lt {u v w : List Int} (h : SLE u v) (h2 : SLT v w) : SLT u w := by
  rcases h with rfl | h
  · exact h2
  · exact h.trans h2
theorem SLE.trans {u v w : List Int} (h : SLE u v) (h2 : SLE v w) : SLE u w := by
  rcases h2 with rfl | h2
  · exact h
  · exact .inr (h.trans_lt h2)
theorem SLT.app {u v : List Int} (h : SLT u v) (a b : Int) : SLT (u ++ [a]) (v ++ [b]) := by
  rcases h with h | ⟨h, m, a1, a2, a3⟩
  · exact .inl (by simp; omega)
  · refine .inr ⟨by simp; omega, m, by simp; omega, fun q hq => ?_, ?_⟩
    · rw [bQ (by omega), bQ (by omega)]; exact a2 q hq
    · rw [bQ a1, bQ (by omega)]; exact a3
theorem SLT.last (u : List Int) {a b : Int} (h : a < b) : SLT (u ++ [a]) (u ++ [b]) := by
  refine .inr ⟨by simp, u.length, by simp, fun q hq => ?_, ?_⟩
  · rw [bQ hq, bQ hq]
  · rw [cM rfl, cM rfl]; exact h
theorem SLE.app {u v : List Int} (h : SLE u v) (a : Int) : SLE (u ++ [a]) (v ++ [a]) := by
  rcases h with rfl | h
  · exact .inl rfl
  · exact .inr (h.app a a)
theorem SLT.nil (u : List Int) (x : Int) : SLT [] (u ++ [x]) := .inl (by simp)
structure BW (A : STP) (n i : Nat) (l : List W3) : Prop where
  so : ∀ j k, j < k → k < l.length → SLT (l.getD j w30).2 (l.getD k w30).2
  mi : ∀ j, j < i → j < l.length → ∀ x, x < n → ∃ k, k < l.length ∧ (l.getD k w30).1 = A (l.getD j w30).1 x ∧ SLE (l.getD k w30).2 ((l.getD j w30).2 ++ [(x : Int)])
  up : i < l.length → ∀ k, k < l.length → SLT (l.getD k w30).2 ((l.getD i w30).2 ++ [0])
structure BX (A : STP) (n i x : Nat) (l0 l : List W3) : Prop where
  so : ∀ j k, j < k → k < l.length → SLT (l.getD j w30).2 (l.getD k w30).2
  mi : ∀ y, y < x → ∃ k, k < l.length ∧ (l.getD k w30).1 = A (l0.getD i w30).1 y ∧ SLE (l.getD k w30).2 ((l0.getD i w30).2 ++ [(y : Int)])
  up : ∀ k, k < l.length → SLT (l.getD k w30).2 ((l0.getD i w30).2 ++ [(x : Int)])
/-plain-/
structure LCL (A : STP) (n : Nat) (L : List W3) : Prop where
  nd : (L.map Prod.fst).Nodup
  cl : ∀ j, j < L.length → ∀ x, x < n → A (L.getD j w30).1 x ∈ L.map Prod.fst
variable {A : STP} {G : PP → Bool} {n : Nat} {L : List W3}
/-plain-/
def Dfa.sto (d : Dfa) : Nat → Nat → Nat
  | 0, i => i
  | f + 1, i => if d.cn (i + 1) = d.cn i then i else d.sto f (i + 1)
def Dfa.cls (d : Dfa) : List Int := d.cl (d.sto (d.nx.length + 1) 0 + 1)
def fsV (cl : List Int) (n s c : Nat) : Int := match (List.range n).find? (fun q => decide (s ≤ q) && decide (cl.getD q 0 = (c : Int))) with | some q => (q : Int) | none => 0
def fsL (cl : List Int) (n s : Nat) : List Int := (List.range n).map fun c => fsV cl n s c
def Dfa.rep (d : Dfa) (s : Int) : Int := (fsL d.cls d.nx.length 0).getD (d.cls.getD s.toNat 0).toNat 0
structure RPR (d : Dfa) (s r : Int) : Prop where
  rg : 0 ≤ r ∧ r < d.nx.length
  le : r ≤ s
  cl : d.cls.getD r.toNat 0 = d.cls.getD s.toNat 0
  mi : ∀ q : Nat, (q : Int) < r → d.cls.getD q 0 ≠ d.cls.getD s.toNat 0
/-plain-/
structure M1OK (d : Dfa) (q : PP) (x : Nat) : Prop where
  r1 : 0 ≤ q.1 ∧ q.1 < d.nx.length
  rl : ((d.nx.getD q.1.toNat []).length : Int) = d.inp
  t1 : 0 ≤ (d.nx.getD q.1.toNat []).getD x 0 ∧ (d.nx.getD q.1.toNat []).getD x 0 < d.nx.length
  c1 : 0 ≤ d.cls.getD ((d.nx.getD q.1.toNat []).getD x 0).toNat 0 ∧ d.cls.getD ((d.nx.getD q.1.toNat []).getD x 0).toNat 0 < d.nx.length
  e : d.rep (d.dl q.1 x) = (fsL d.cls d.nx.length 0).getD (d.cls.getD ((d.nx.getD q.1.toNat []).getD x 0).toNat 0).toNat 0
/-plain-/
structure SHP (d : Dfa) (P : List W3) (k : Nat) : Prop where
  rg : 0 ≤ (P.getD k w30).1.1 ∧ (P.getD k w30).1.1 < d.nx.length
/-plain-/
def pL (m : Mly) : Bool := m.ot.flatten.any fun o => decide (1 < o)
theorem kL : ∀ (xs : List Int) (b : Int), 1 < xs.foldl max b ↔ 1 < b ∨ ∃ o, o ∈ xs ∧ 1 < o
  | [], b => by simp
  | x :: xs, b => by
    rw [List.foldl_cons, kL xs]
    constructor
    · rintro (h | ⟨o, ho, h⟩)
      · by_cases h2 : 1 < b
        · exact .inl h2
        · exact .inr ⟨x, aS, by omega⟩
      · exact .inr ⟨o, aF _ ho, h⟩
    · rintro (h | ⟨o, ho, h⟩)
      · exact .inl (by omega)
      · rcases List.mem_cons.1 ho with rfl | ho
        · exact .inl (by omega)
        · exact .inr ⟨o, ho, h⟩
theorem sv {xs : List Int} (h : 0 < xs.length) : 1 < mxL xs ↔ ∃ o, o ∈ xs ∧ 1 < o := by
  unfold mxL
  rw [kL]
  constructor
  · rintro (h2 | h2)
    · exact ⟨_, gC.2 ⟨0, h, rfl⟩, h2⟩
    · exact h2
  · exact .inr
theorem pV {m : Mly} : pL m = true ↔ ∃ o, o ∈ m.ot.flatten ∧ 1 < o := by unfold pL; rw [List.any_eq_true]; exact ⟨fun ⟨o, h1, h2⟩ => ⟨o, h1, by simpa using h2⟩, fun ⟨o, h1, h2⟩ => ⟨o, h1, by simpa using h2⟩⟩
theorem qV {m : Mly} (hm : MOK m) : 0 < m.ot.flatten.length := by
  have h := ky hm m.ot.length (Nat.le_refl _)
  rw [aG] at h
  have h1 := hm.i1; have h2 := hm.n1; have h3 := hm.ol
  have : 0 < (m.ot.length : Int) * m.inp := Int.mul_pos (by omega) (by omega)
  omega
theorem rA {xs : List Int} (h : 0 < xs.length) : 0 < (jY xs).length := by
  have : xs.getD 0 0 ∈ jY xs := ((dG xs).2 _).2 (gC.2 ⟨0, h, rfl⟩)
  obtain ⟨j, hj, _⟩ := gC.1 this
  omega
theorem uc {m : Mly} (hv : b0 m = 0) : 0 < (cO m).length ∧ (1 < mxL (cO m) ↔ pL m = true) := by
  have hm := gO hv
  rw [gd hv]
  have h := rA (qV hm)
  refine ⟨h, ?_⟩
  rw [sv h, pV]
  exact ⟨fun ⟨o, h1, h2⟩ => ⟨o, ((dG _).2 o).1 h1, h2⟩, fun ⟨o, h1, h2⟩ => ⟨o, ((dG _).2 o).2 h1, h2⟩⟩
/-plain-/
structure Mdl where
  nm : Bs
  ins : List Bs
  outs : List Bs
  m : Mly
def Mdl.cs (x : Mdl) : List AC := [.str x.nm, .list .str x.ins, .list .str x.outs, .int .i64 x.m.inp, .int .i64 x.m.st, .list (.list (.int .i64)) x.m.nx, .list (.list (.int .i64)) x.m.ot]
def Mdl.av (x : Mdl) : AV := .agg x.cs
def mvE (x : Mdl) : Int := if aY x.nm = false then 9 else if ¬ alE x.ins = 0 then alE x.ins else if ¬ alE x.outs = 0 then alE x.outs else if ¬ b0 x.m = 0 then b0 x.m else
  if x.m.inp = x.ins.length ∧ mxL (cO x.m) < x.outs.length then 0 else 2
theorem fR {x : Mdl} (h : aY x.nm = false) : mvE x = 9 := if_pos h
theorem jJ {x : Mdl} (h : aY x.nm = true) (h2 : ¬ alE x.ins = 0) : mvE x = alE x.ins := by unfold mvE; rw [if_neg (by rw [h]; decide), if_pos h2]
theorem kc {x : Mdl} (h : aY x.nm = true) (h2 : alE x.ins = 0) (h3 : ¬ alE x.outs = 0) : mvE x = alE x.outs := by unfold mvE; rw [if_neg (by rw [h]; decide), if_neg (fun k => k h2), if_pos h3]
theorem fS {x : Mdl} (h : aY x.nm = true) (h2 : alE x.ins = 0) (h3 : alE x.outs = 0) (h4 : ¬ b0 x.m = 0) : mvE x = b0 x.m := by
  unfold mvE; rw [if_neg (by rw [h]; decide), if_neg (fun k => k h2), if_neg (fun k => k h3), if_pos h4]
theorem fT {x : Mdl} (h : aY x.nm = true) (h2 : alE x.ins = 0) (h3 : alE x.outs = 0) (h4 : b0 x.m = 0) (h5 : ¬ (x.m.inp = x.ins.length ∧ mxL (cO x.m) < x.outs.length)) : mvE x = 2 := by
  unfold mvE; rw [if_neg (by rw [h]; decide), if_neg (fun k => k h2), if_neg (fun k => k h3), if_neg (fun k => k h4), if_neg h5]
theorem f0 {x : Mdl} (h : aY x.nm = true) (h2 : alE x.ins = 0) (h3 : alE x.outs = 0) (h4 : b0 x.m = 0) (h5 : x.m.inp = x.ins.length ∧ mxL (cO x.m) < x.outs.length) : mvE x = 0 := by
  unfold mvE; rw [if_neg (by rw [h]; decide), if_neg (fun k => k h2), if_neg (fun k => k h3), if_neg (fun k => k h4), if_pos h5]
theorem oN {x : Mdl} (h : aY x.nm = true) {k : Nat} (hk : k < 2) (hq : ∀ q, q < k → alE ([x.ins, x.outs].getD q []) = 0) (hb : ¬ alE ([x.ins, x.outs].getD k []) = 0) : mvE x = alE ([x.ins, x.outs].getD k []) := by
  rcases (show k = 0 ∨ k = 1 by omega) with rfl | rfl
  · exact jJ h hb
  · exact kc h (hq 0 (by omega)) hb
theorem qk {m : Mly} (hv : b0 m = 0) : 0 < (cO m).length := (uc hv).1
/-plain-/
theorem jq {m : Mly} (h : b0 m = 0) {o : Int} : o ∈ cO m ↔ o ∈ m.ot.flatten := by rw [gd h, (dG _).2]
def un (ls : List (List Int)) : Bool := ls.any fun r => decide (12 < r.length)
def g8 (m : Mly) : Bool := decide (12 < (m.nx.length : Int)) || decide (12 < (m.ot.length : Int)) || decide (6 < m.inp) || un m.nx || un m.ot
/-plain-/
def qn (i : Nat) : Bs := 113 :: Lib.decDigits i
def eM (x : Mdl) (s a : Nat) : Bs := qn s ++ [32] ++ x.ins.getD a [] ++ [32] ++ x.outs.getD ((x.m.ot.getD s []).getD a 0).toNat [] ++ [32] ++ qn ((x.m.nx.getD s []).getD a 0).toNat
def cQ (x : Mdl) (s k : Nat) : List Bs := (List.range k).map (eM x s)
def qs (n : Nat) : List Bs := (List.range n).map qn
def hdT (x : Mdl) : List Bs := [[109, 97, 99, 104, 105, 110, 101, 32] ++ x.nm, [105, 110, 112, 117, 116, 115, 32] ++ Lib.join x.ins [32], [111, 117, 116, 112, 117, 116, 115, 32] ++ Lib.join x.outs [32], [115, 116, 97, 116, 101, 115, 32] ++ Lib.join (qs x.m.nx.length) [32], [115, 116, 97, 114, 116, 32] ++ qn x.m.st.toNat]
def cC (x : Mdl) (k : Nat) : List Bs := ((List.range k).map fun s => cQ x s (x.m.nx.getD s []).length).flatten
def SM (x : Mdl) : Bs := if mvE x = 0 then Lib.join (hdT x ++ cC x x.m.nx.length) [10] ++ [10] else []
theorem jv {x : Mdl} (h : mvE x = 0) : SM x = Lib.join (hdT x ++ cC x x.m.nx.length) [10] ++ [10] := if_pos h
theorem kA {x : Mdl} (h : ¬ mvE x = 0) : SM x = [] := if_neg h
theorem ka (x : Mdl) (s k : Nat) : cQ x s (k + 1) = cQ x s k ++ [eM x s k] := by unfold cQ; rw [List.range_succ, List.map_append]; rfl
theorem pc (n : Nat) : qs (n + 1) = qs n ++ [qn n] := by unfold qs; rw [List.range_succ, List.map_append]; rfl
theorem fC (x : Mdl) (k : Nat) : cC x (k + 1) = cC x k ++ cQ x k (x.m.nx.getD k []).length := by unfold cC; rw [List.range_succ, List.map_append, List.flatten_append]; simp
theorem ca (n : Nat) : (qs n).length = n := by unfold qs; simp
theorem cw {n i : Nat} (h : i < n) : (qs n).getD i [] = qn i := by unfold qs; simp [List.getD, h]
theorem ig (x : Mdl) (s k : Nat) : (cQ x s k).length = k := by unfold cQ; simp
structure MVO (x : Mdl) : Prop where
  nm : aY x.nm = true
  ai : AOK x.ins
  ao : AOK x.outs
  mo : MOK x.m
  vm : b0 x.m = 0
  il : x.m.inp = x.ins.length
  ol : ∀ s a : Nat, s < x.m.nx.length → (a : Int) < x.m.inp → (x.m.ot.getD s []).getD a 0 < x.outs.length
theorem ja {x : Mdl} (h : mvE x = 0) : MVO x := by
  unfold mvE at h
  split at h
  · omega
  · split at h
    · omega
    · split at h
      · omega
      · split at h
        · omega
        · split at h
          · rename_i h1 h2 h3 h4 h5
            have hv : b0 x.m = 0 := by omega
            have hm := gO hv
            refine ⟨by simpa using h1, iu (by omega), iu (by omega), hm, hv, h5.1, fun s a hs ha => ?_⟩
            have hol := hm.ol
            have hq := hm.ql s hs
            have hin : (x.m.ot.getD s []).getD a 0 ∈ x.m.ot.flatten := List.mem_flatten.2 ⟨x.m.ot.getD s [], by simp [List.getD, hol, hs], eh (by omega)⟩
            have : (x.m.ot.getD s []).getD a 0 ≤ mxL (cO x.m) := (iO _ _).2 _ ((jq hv).2 hin)
            omega
          · omega
theorem eB {sep : Bs} {B : Nat} : ∀ {l : List Bs}, (∀ y, y ∈ l → y.length ≤ B) → (Lib.join l sep).length ≤ l.length * (B + sep.length)
  | [], _ => Nat.zero_le _
  | [y], h => by rw [Lib.join_one]; have := h y (by simp); simp only [ah, am]; omega
  | y :: z :: l, h => by
    have h1 := h y (by simp)
    have h2 := eB (sep := sep) (l := z :: l) fun q hq => h q (aF _ hq)
    have e : Lib.join (y :: z :: l) sep = y ++ sep ++ Lib.join (z :: l) sep := by rw [Lib.join_cons, Lib.join_cons]; simp [Lib.joinTail]
    rw [e, ag, ag]
    have e2 : (y :: z :: l).length * (B + sep.length) = (z :: l).length * (B + sep.length) + (B + sep.length) := by simp only [ah]; rw [Nat.add_mul _ 1, Nat.one_mul]
    omega
theorem l9 : ∀ n : Nat, n < 128 → (Lib.decDigits n).length ≤ 3 := by decide +kernel
theorem dK {n : Nat} (h : n < 128) : (qn n).length ≤ 4 := by have := l9 n h; unfold qn; simp; omega
theorem fY {xs : List Bs} (h : AOK xs) (y : Bs) (hy : y ∈ xs) : y.length ≤ 32 := by
  obtain ⟨j, hj, rfl⟩ := jV.1 hy
  exact (cX (h.nm j hj)).2.2
theorem ef {xs : List Bs} (h : AOK xs) (j : Nat) : (xs.getD j []).length ≤ 32 := by
  by_cases hj : j < xs.length
  · exact fY h _ (cG hj)
  · rw [List.getD, List.getElem?_eq_none (by omega)]; exact Nat.zero_le _
theorem jf {x : Mdl} (h : MVO x) {s a : Nat} (hs : s < x.m.nx.length) (ha : (a : Int) < x.m.inp) : (eM x s a).length ≤ 75 := by
  have h1 := ef h.ai a
  have h2 := ef h.ao ((x.m.ot.getD s []).getD a 0).toNat
  have hn2 := h.mo.n2
  have h3 := h.mo.nr s a hs ha
  have h4 := dK (n := s) (by omega)
  have h5 := dK (n := ((x.m.nx.getD s []).getD a 0).toNat) (by omega)
  unfold eM
  simp only [ag, ah, am]
  omega
theorem eF {x : Mdl} (h : MVO x) (y : Bs) (hy : y ∈ hdT x) : y.length ≤ 2121 := by
  have h1 := (cX h.nm).2.2
  have h2 := eB (sep := [32]) (B := 32) (fY h.ai)
  have h3 := eB (sep := [32]) (B := 32) (fY h.ao)
  have hn2 := h.mo.n2
  have hs2 := h.mo.s2
  have h4 := eB (sep := [32]) (B := 4) (l := qs x.m.nx.length) fun y hy => by
    unfold qs at hy
    obtain ⟨i, hi, rfl⟩ := List.mem_map.1 hy
    have := List.mem_range.1 hi
    exact dK (by omega)
  have h5 := dK (n := x.m.st.toNat) (by omega)
  have hi1 := h.ai.n1
  have ho1 := h.ao.n1
  rw [ca] at h4
  simp only [ah, am] at h2 h3 h4
  unfold hdT at hy
  simp only [List.mem_cons, List.not_mem_nil, or_false] at hy
  rcases hy with rfl | rfl | rfl | rfl | rfl <;> simp only [ag, ah, am] <;> omega
theorem mS {x : Mdl} (h : MVO x) {k : Nat} (hk : k ≤ x.m.nx.length) (y : Bs) (hy : y ∈ cC x k) : y.length ≤ 75 := by
  unfold cC at hy
  obtain ⟨l, hl, hy⟩ := List.mem_flatten.1 hy
  obtain ⟨s, hs, rfl⟩ := List.mem_map.1 hl
  have := List.mem_range.1 hs
  unfold cQ at hy
  obtain ⟨a, ha, rfl⟩ := List.mem_map.1 hy
  have := List.mem_range.1 ha
  have := h.mo.rl s (by omega)
  exact jf h (by omega) (by omega)
theorem mH {x : Mdl} (h : MVO x) : ∀ {k : Nat}, k ≤ x.m.nx.length → (cC x k).length = k * x.ins.length
  | 0, _ => by simp [cC]
  | k + 1, hk => by
    rw [fC, ag, mH h (by omega), ig, Nat.add_mul, Nat.one_mul]
    have := h.mo.rl k (by omega)
    have := h.il
    omega
theorem fl {x : Mdl} (h : MVO x) {k : Nat} (hk : k ≤ x.m.nx.length) : (cC x k).length ≤ 8192 := by
  rw [mH h hk]
  have := h.mo.n2
  have := h.ai.n1
  exact Nat.le_trans (Nat.mul_le_mul (show k ≤ 128 by omega) (show x.ins.length ≤ 64 by exact h.ai.n1)) (by decide)
theorem lR {sep : Bs} : ∀ {a b : List Bs}, (Lib.join (a ++ b) sep).length ≤ (Lib.join a sep).length + sep.length + (Lib.join b sep).length
  | [], b => by simp [Lib.join_nil]
  | [y], [] => by rw [List.append_nil]; omega
  | [y], z :: b => by rw [List.singleton_append, Lib.join_one, Lib.join_cons, Lib.join_cons]; simp [Lib.joinTail]; omega
  | y :: z :: a, b => by
    have h := lR (sep := sep) (a := z :: a) (b := b)
    have e : ∀ l : List Bs, Lib.join (y :: z :: l) sep = y ++ sep ++ Lib.join (z :: l) sep := fun l => by rw [Lib.join_cons, Lib.join_cons]; simp [Lib.joinTail]
    rw [ak, ak, e, e, ag, ag, ag, ag]
    rw [ak] at h
    omega
theorem qz {x : Mdl} (h : MVO x) : (Lib.join (hdT x ++ cC x x.m.nx.length) [10]).length ≤ 700000 := by
  have h1 := eB (sep := [10]) (eF h)
  have h2 := eB (sep := [10]) (mS h (Nat.le_refl _))
  have h3 := fl h (Nat.le_refl _)
  have h4 := lR (sep := [10]) (a := hdT x) (b := cC x x.m.nx.length)
  have h5 : (hdT x).length = 5 := rfl
  have h6 : (cC x x.m.nx.length).length * (75 + [10].length) ≤ 8192 * 76 := Nat.mul_le_mul h3 (Nat.le_refl _)
  rw [h5] at h1
  simp only [ah, am] at *
  omega
/-plain-/
def spB (c : UInt8) : Bs → List Bs
  | [] => [[]]
  | b :: s => if b = c then [] :: spB c s else (b :: (spB c s).headD []) :: (spB c s).tail
theorem nP (c b : UInt8) (s : Bs) : spB c (b :: s) = if b = c then [] :: spB c s else (b :: (spB c s).headD []) :: (spB c s).tail := rfl
theorem r9 (c : UInt8) : ∀ s : Bs, spB c s = (spB c s).headD [] :: (spB c s).tail
  | [] => rfl
  | b :: s => by
    rw [nP]
    split <;> rfl
theorem kz {c : UInt8} : ∀ {s : Bs}, c ∉ s → spB c s = [s]
  | [], _ => rfl
  | b :: s, h => by
    simp only [List.mem_cons, not_or] at h
    rw [nP, if_neg (Ne.symm h.1), kz h.2]; rfl
theorem lF {c : UInt8} : ∀ {x : Bs} (s : Bs), c ∉ x → spB c (x ++ c :: s) = x :: spB c s
  | [], s, _ => by rw [ar, nP, if_pos rfl]
  | b :: x, s, h => by
    simp only [List.mem_cons, not_or] at h
    rw [ak]
    rw [show spB c (b :: (x ++ c :: s)) = if b = c then [] :: spB c (x ++ c :: s) else (b :: (spB c (x ++ c :: s)).headD []) :: (spB c (x ++ c :: s)).tail from rfl]
    rw [if_neg (Ne.symm h.1), lF s h.2]; rfl
theorem m0 (c : UInt8) (s : Bs) : 0 < (spB c s).length := by rw [r9]; simp
theorem nC {c : UInt8} : ∀ {s : Bs}, Lib.indexByte s c < 0 → c ∉ s
  | [], _ => by simp
  | b :: s, h => by
    unfold Lib.indexByte at h
    split at h
    · omega
    · rename_i hb
      have hb2 : ¬ c = b := fun e => hb (by rw [e]; exact beq_self_eq_true b)
      split at h
      · rename_i h2
        have h2 : Lib.indexByte s c = -1 := by simpa using h2
        simp only [List.mem_cons, not_or]
        exact ⟨hb2, nC (by omega)⟩
      · rename_i h2
        have h2 : ¬ Lib.indexByte s c = -1 := by simpa using h2
        have := Lib.indexByte_ge s c
        omega
theorem ge {c : UInt8} : ∀ {s : Bs}, 0 ≤ Lib.indexByte s c → (Lib.indexByte s c).toNat < s.length ∧ c ∉ s.take (Lib.indexByte s c).toNat ∧ s = s.take (Lib.indexByte s c).toNat ++ c :: s.drop ((Lib.indexByte s c).toNat + 1)
  | [], h => by unfold Lib.indexByte at h; omega
  | b :: s, h => by
    unfold Lib.indexByte at h ⊢
    split
    · rename_i hb
      have hb2 : b = c := by simpa using hb
      subst hb2
      exact ⟨by simp, by simp, by simp⟩
    · rename_i hb
      rw [if_neg hb] at h
      have hb2 : ¬ c = b := fun e => hb (by rw [e]; exact beq_self_eq_true b)
      split
      · rename_i h2; rw [if_pos h2] at h; omega
      · rename_i h2
        rw [if_neg h2] at h
        have h3 : ¬ Lib.indexByte s c = -1 := by simpa using h2
        have h4 := Lib.indexByte_ge s c
        obtain ⟨h5, h6, h7⟩ := ge (s := s) (c := c) (by omega)
        have e : (Lib.indexByte s c + 1).toNat = (Lib.indexByte s c).toNat + 1 := by omega
        rw [e]
        refine ⟨by simpa using h5, ?_, ?_⟩
        · rw [cf]; simp only [List.mem_cons, not_or]; exact ⟨hb2, h6⟩
        · rw [cf, List.drop_succ_cons, ak, ← h7]
theorem qa {c : UInt8} {s : Bs} (h : 0 ≤ Lib.indexByte s c) : spB c s = s.take (Lib.indexByte s c).toNat :: spB c (s.drop ((Lib.indexByte s c).toNat + 1)) := by
  obtain ⟨_, h2, h3⟩ := ge h
  have := lF (s.drop ((Lib.indexByte s c).toNat + 1)) h2
  rw [← h3] at this
  exact this
theorem lr (c : UInt8) : ∀ s : Bs, (spB c s).length = Lib.countByte s c + 1
  | [] => rfl
  | b :: s => by
    have ih := lr c s
    have hp := m0 c s
    rw [nP]
    unfold Lib.countByte at ih ⊢
    rw [List.count_cons]
    split
    · rename_i e; subst e; simp; omega
    · rename_i e
      have e2 : (b == c) = false := by simpa using e
      rw [e2]
      simp only [ah, List.length_tail, Bool.false_eq_true, if_false]
      omega
theorem r7 (c : UInt8) (s : Bs) : (spB c s).length ≤ s.length + 1 := by
  rw [lr]; have := List.count_le_length (a := c) (l := s); unfold Lib.countByte; omega
theorem rM (c : UInt8) (s : Bs) : Lib.countByte s c ≤ s.length := List.count_le_length
theorem cH (x y sep : Bs) (r : List Bs) : Lib.join (x :: y :: r) sep = x ++ sep ++ Lib.join (y :: r) sep := by rw [Lib.join_cons, Lib.join_cons]; simp [Lib.joinTail]
theorem kM {c : UInt8} : ∀ {x : Bs} {r : List Bs}, (∀ y, y ∈ x :: r → c ∉ y) → spB c (Lib.join (x :: r) [c]) = x :: r
  | x, [], h => by rw [Lib.join_one]; exact kz (h x (by simp))
  | x, y :: r, h => by
    have e : Lib.join (x :: y :: r) [c] = x ++ c :: Lib.join (y :: r) [c] := by rw [cH]; simp
    rw [e, lF _ (h x (by simp)), kM fun z hz => h z (aF _ hz)]
/-plain-/
def lnE (s : Bs) : Nat := if Lib.indexByte s 10 < 0 then s.length else (Lib.indexByte s 10).toNat + 1
def aP (s : Bs) : Nat → Bs
  | 0 => s
  | k + 1 => (aP s k).drop (lnE (aP s k))
def bT (s : Bs) (k : Nat) : Bs := (aP s k).take (lnE (aP s k))
theorem tP (s : Bs) : lnE s ≤ s.length := by
  unfold lnE
  split
  · exact Nat.le_refl _
  · exact (ge (by omega)).1
theorem kO {s : Bs} (h : s ≠ []) : 1 ≤ lnE s := by
  unfold lnE
  split
  · exact List.length_pos_iff.2 h
  · omega
theorem gS (s : Bs) : ∀ k, aP s k ≠ [] → k + (aP s k).length ≤ s.length
  | 0, _ => by simp [aP]
  | k + 1, h => by
    have h0 : aP s k ≠ [] := fun e => h (by simp [aP, e])
    have ih := gS s k h0
    have h1 := kO h0
    have h2 := tP (aP s k)
    simp only [aP, List.length_drop]
    omega
theorem oP (s : Bs) (k : Nat) : (aP s k).length ≤ s.length := by
  by_cases h : aP s k = []
  · rw [h]; exact Nat.zero_le _
  · have := gS s k h; omega
theorem qg (l : Bs) (n : Nat) : (⟨l.toArray⟩ : ByteArray).extract 0 n = ⟨(l.take n).toArray⟩ := by
  apply ByteArray.ext
  simp [ByteArray.data_extract]
theorem o9 (l : Bs) (n : Nat) : (⟨l.toArray⟩ : ByteArray).extract n l.length = ⟨(l.drop n).toArray⟩ := by
  apply ByteArray.ext
  simp [ByteArray.data_extract]
  rw [List.take_of_length_le (by rw [List.length_drop]; exact Nat.le_refl _)]
/-plain-/
def dn (s p : Bs) : Bool := decide (p.length ≤ s.length) && decide (s.drop (s.length - p.length) = p)
theorem rK {s p : Bs} : dn s p = true ↔ p <:+ s := by
  unfold dn
  rw [Bool.and_eq_true, decide_eq_true_eq, decide_eq_true_eq, List.suffix_iff_eq_drop]
  constructor
  · intro h; exact h.2.symm
  · intro h
    refine ⟨?_, h.symm⟩
    have := congrArg List.length h
    rw [List.length_drop] at this
    omega
/-plain-/
def ck (b n : Nat) : List AC := (List.range n).map fun i => .row (b + i) 0
def eG (I : TypeId) (xs : List (List Int)) : List AO := xs.map fun l => .row (.int .i64) I 0 l
def cY (S I : TypeId) (b : Nat) (xs : List (List Int)) : List AO := .rowc S 1 0 (ck (b + 1) xs.length) :: eG I xs
def eu (L0 : List AO) (S I : TypeId) (n k : Nat) (xs : List (List Int)) : List AO := L0 ++ .rowc S 1 0 (ck (L0.length + 1) k ++ List.replicate (n - k) .nils) :: eG I xs
theorem cE (b n : Nat) : (ck b n).length = n := by unfold ck; simp
theorem cr (I : TypeId) (xs : List (List Int)) : (eG I xs).length = xs.length := by unfold eG; simp
theorem ue (L0 : List AO) (S I : TypeId) (n : Nat) : eu L0 S I n 0 [] = L0 ++ [.rowc S 1 0 (List.replicate n .nils)] := by unfold eu ck eG; simp
theorem qJ (L0 : List AO) (S I : TypeId) (n : Nat) (xs : List (List Int)) (h : xs.length = n) : eu L0 S I n n xs = L0 ++ cY S I L0.length xs := by unfold eu cY; rw [h, Nat.sub_self, List.replicate_zero, List.append_nil]
theorem iU (L0 : List AO) (S I : TypeId) (n k : Nat) (xs : List (List Int)) : (eu L0 S I n k xs)[L0.length]? = some (.rowc S 1 0 (ck (L0.length + 1) k ++ List.replicate (n - k) .nils)) := by unfold eu; simp
theorem jo (L0 : List AO) (S I : TypeId) (n k : Nat) (xs : List (List Int)) : (eu L0 S I n k xs).length = L0.length + 1 + xs.length := by unfold eu; simp [cr]; omega
theorem ji (L0 : List AO) (S I : TypeId) (n k : Nat) (xs : List (List Int)) (l : List Int) : eu L0 S I n k xs ++ [.row (.int .i64) I 0 l] = eu L0 S I n k (xs ++ [l]) := by unfold eu eG; simp
theorem mX {b n k : Nat} (h : k ≤ n) : (ck b k ++ List.replicate (n - k) AC.nils).length = n := by rw [ag, cE, aI]; omega
theorem pJ {b n k : Nat} (h : k < n) : bg (ck b k ++ List.replicate (n - k) .nils) k [.row (b + k) 0] = ck b (k + 1) ++ List.replicate (n - (k + 1)) .nils := by
  unfold bg
  have e : ck b (k + 1) = ck b k ++ [.row (b + k) 0] := by unfold ck; rw [List.range_succ, List.map_append]; rfl
  rw [e, List.take_append_of_le_length (by rw [cE]; exact Nat.le_refl _), List.take_of_length_le (by rw [cE]; exact Nat.le_refl _), List.drop_append, cE, List.drop_of_length_le (by rw [cE]; simp), ar]
  simp only [ah, am, List.drop_replicate]
  rw [show n - k - (k + (0 + 1) - k) = n - (k + 1) by omega]
theorem rx (L0 : List AO) (S I : TypeId) {n k : Nat} (xs : List (List Int)) (h : k < n) : (eu L0 S I n k xs).set L0.length (.rowc S 1 0 (bg (ck (L0.length + 1) k ++ List.replicate (n - k) .nils) k [.row (L0.length + 1 + k) 0])) = eu L0 S I n (k + 1) xs := by
  unfold eu; rw [pJ h, List.set_append]; simp
/-plain-/
structure RS where
  nm : Bs
  ins : List Bs
  outs : List Bs
  inp : Int
  st : Int
  nx : List (List Int)
  ot : List (List Int)
  sts : List Bs
  rd : Nat
  lf : Int
  tb : Bool
def rs0 : RS := ⟨[], [], [], 0, 0, [], [], [], 0, 0, false⟩
def rdC (r : RS) (a b : AC) : List AC := [.str r.nm, .list .str r.ins, .list .str r.outs, .int .i64 r.inp, .int .i64 r.st, a, b, .list .str r.sts, .int .i64 (r.rd : Int), .int .i64 r.lf]
def rdT (S I : TypeId) (r : RS) : List AO := if r.tb = true then cY S I 1 r.nx ++ cY S I (2 + r.nx.length) r.ot else []
def rdA (r : RS) : AC := if r.tb = true then .rwc 1 0 else .nils
def rdB (r : RS) : AC := if r.tb = true then .rwc (2 + r.nx.length) 0 else .nils
def SH (R S I : TypeId) (r : RS) : List AO := .vars R (rdC r (rdA r) (rdB r)) :: rdT S I r
def eZ (n : Nat) (L1 : List AO) : List (Nat × AO) := (List.range n).map fun k => (k, L1.getD k (.dead 0))
theorem iX : ∀ (n : Nat) {L0 L1 : List AO}, n ≤ L0.length → n ≤ L1.length → bD L0 (eZ n L1) = L1.take n ++ L0.drop n
  | 0, L0, L1, _, _ => by simp [eZ, bD]
  | n + 1, L0, L1, h0, h1 => by
    have ih := iX n (L0 := L0) (L1 := L1) (by omega) (by omega)
    have e : eZ (n + 1) L1 = eZ n L1 ++ [(n, L1.getD n (.dead 0))] := by unfold eZ; rw [List.range_succ, List.map_append]; rfl
    rw [e, ir, ih, List.set_append, if_neg (by rw [List.length_take]; omega)]
    have e1 : L1.getD n (.dead 0) = L1[n] := by simp [List.getD, List.getElem?_eq_getElem (show n < L1.length by omega)]
    have e2 : L1.take (n + 1) = L1.take n ++ [L1[n]] := by rw [List.take_add_one, List.getElem?_eq_getElem (show n < L1.length by omega)]; rfl
    rw [e1, e2, List.length_take, Nat.min_eq_left (by omega), Nat.sub_self, List.drop_eq_getElem_cons (show n < L0.length by omega), bJ, List.append_assoc]; rfl
theorem aH {L0 L1 : List AO} (h : L0.length ≤ L1.length) : bD L0 (eZ L0.length L1) ++ L1.drop L0.length = L1 := by
  rw [iX _ (Nat.le_refl _) h, List.drop_length, List.append_nil, List.take_append_drop]
def kwd (i : Nat) : Bs := [[109, 97, 99, 104, 105, 110, 101], [105, 110, 112, 117, 116, 115], [111, 117, 116, 112, 117, 116, 115], [115, 116, 97, 116, 101, 115], [115, 116, 97, 114, 116]].getD i []
def ixB (l : List Bs) (x : Bs) : Int := if x ∈ l then (pos l x : Int) else -1
def dq (l : List Bs) : Int := if l.length = 0 then 19 else if 128 < l.length then 11 else bZ (nmE l) l.length
def fQ (n : Nat) (k : Nat) : List (List Int) := List.replicate n (List.replicate k (-1))
def gY (r : RS) (l : List Bs) : RS := { r with sts := l, lf := l.length * r.ins.length, inp := r.ins.length, st := 0, nx := fQ l.length r.ins.length, ot := fQ l.length r.ins.length, tb := true }
def jc (r : RS) (l : List Bs) : RS × Int := if dq l = 0 then (gY r l, 0) else (r, dq l)
def bh (r : RS) (w : List Bs) : RS × Int :=
  if ¬ w.getD 0 [] = kwd r.rd ∨ ((r.rd = 0 ∨ r.rd = 4) ∧ ¬ w.length = 2) then (r, 5)
  else if r.rd = 0 then ({ r with nm := w.getD 1 [] }, if aY (w.getD 1 []) = true then 0 else 9)
  else if r.rd = 1 then ({ r with ins := w.drop 1 }, alE (w.drop 1))
  else if r.rd = 2 then ({ r with outs := w.drop 1 }, alE (w.drop 1))
  else if r.rd = 3 then jc r (w.drop 1)
  else ({ r with st := ixB r.sts (w.getD 1 []) }, if ixB r.sts (w.getD 1 []) < 0 then 8 else 0)
def fP (r : RS) (s a : Nat) (t o : Int) : RS := { r with nx := r.nx.set s ((r.nx.getD s []).set a t), ot := r.ot.set s ((r.ot.getD s []).set a o), lf := r.lf - 1 }
def bP (r : RS) (w : List Bs) : RS × Int :=
  if ¬ w.length = 4 then (r, 5)
  else if w.getD 0 [] ∉ r.sts ∨ w.getD 3 [] ∉ r.sts ∨ w.getD 1 [] ∉ r.ins ∨ w.getD 2 [] ∉ r.outs then (r, 8)
  else if 0 ≤ (r.nx.getD (pos r.sts (w.getD 0 [])) []).getD (pos r.ins (w.getD 1 [])) 0 then (r, 7)
  else (fP r (pos r.sts (w.getD 0 [])) (pos r.ins (w.getD 1 [])) (pos r.sts (w.getD 3 [])) (pos r.outs (w.getD 2 [])), 0)
def eU (r : RS) (w : List Bs) : RS × Int := if r.rd < 5 then bh r w else bP r w
def cu (p : RS × Int) : RS × Int := ({ p.1 with rd := p.1.rd + 1 }, p.2)
def bj (r : RS) (s : Bs) : RS × Int :=
  if dn s [10] = false then (r, 5)
  else if s.take (s.length - 1) = [] ∨ (s.take (s.length - 1)).getD 0 0 = 35 then (r, 0)
  else if [] ∈ spB 32 (s.take (s.length - 1)) then (r, 5)
  else cu (eU r (spB 32 (s.take (s.length - 1))))
theorem lq {l : List Bs} (h : l.length = 0) : dq l = 19 := if_pos h
theorem gi {l : List Bs} (h : ¬ l.length = 0) (h2 : 128 < l.length) : dq l = 11 := by unfold dq; rw [if_neg h, if_pos h2]
theorem lu {l : List Bs} (h : ¬ l.length = 0) (h2 : ¬ 128 < l.length) {k : Nat} (hk : k < l.length) (hq : ∀ q, q < k → nmE l q = 0) (hb : aY (l.getD k []) = false) : dq l = 9 := by
  have e : nmE l k = 9 := if_pos hb
  unfold dq; rw [if_neg h, if_neg h2, aV hq hk (by rw [e]; decide), e]
theorem lJ {l : List Bs} (h : ¬ l.length = 0) (h2 : ¬ 128 < l.length) {k : Nat} (hk : k < l.length) (hq : ∀ q, q < k → nmE l q = 0) (hb : aY (l.getD k []) = true) (hi : l.getD k [] ∈ l.take k) : dq l = 7 := by
  have e : nmE l k = 7 := by unfold nmE; rw [if_neg (by rw [hb]; decide), if_pos hi]
  unfold dq; rw [if_neg h, if_neg h2, aV hq hk (by rw [e]; decide), e]
theorem gQ {l : List Bs} (h : ¬ l.length = 0) (h2 : ¬ 128 < l.length) (hq : ∀ q, q < l.length → nmE l q = 0) : dq l = 0 := by
  unfold dq; rw [if_neg h, if_neg h2, bf hq]
def iE (R S I : TypeId) (r : RS) (a b : AC) (U : List AO) (l : List Bs) : List AO :=
  if dq l = 0 then .vars R (rdC (gY r l) (.rwc (U.length + 1) 0) (.rwc (U.length + 2 + l.length) 0)) :: (U ++ cY S I (U.length + 1) (fQ l.length r.ins.length) ++ cY S I (U.length + 2 + l.length) (fQ l.length r.ins.length))
  else .vars R (rdC r a b) :: U
theorem bE {R S I : TypeId} {r : RS} {a b : AC} {U : List AO} {l : List Bs} {e : Int} (he : dq l = e) (h0 : ¬ e = 0) : iE R S I r a b U l = .vars R (rdC r a b) :: U := if_neg (by rw [he]; exact h0)
theorem eY {R S I : TypeId} {r : RS} {a b : AC} {U : List AO} {l : List Bs} (he : dq l = 0) : iE R S I r a b U l = .vars R (rdC (gY r l) (.rwc (U.length + 1) 0) (.rwc (U.length + 2 + l.length) 0)) :: (U ++ cY S I (U.length + 1) (fQ l.length r.ins.length) ++ cY S I (U.length + 2 + l.length) (fQ l.length r.ins.length)) := if_pos he
theorem c0 {R S I : TypeId} {r : RS} {a b : AC} {U : List AO} {l : List Bs} {x : AO} : (x :: U).length ≤ (iE R S I r a b U l).length := by
  unfold iE
  split
  · simp only [ah, ag]; omega
  · exact Nat.le_refl _
theorem eo (S I : TypeId) (b : Nat) (xs : List (List Int)) : (cY S I b xs).length = xs.length + 1 := by unfold cY; simp [cr]
theorem jy (n k : Nat) : (fQ n k).length = n := by unfold fQ; simp
def eT (R S I : TypeId) (r : RS) (a b : AC) (U : List AO) (w : List Bs) : List AO :=
  if r.rd = 3 ∧ w.getD 0 [] = kwd 3 then iE R S I r a b U (w.drop 1) else .vars R (rdC (bh r w).1 a b) :: U
theorem jl {R S I : TypeId} {r : RS} {a b : AC} {U : List AO} {w : List Bs} (h : ¬ (r.rd = 3 ∧ w.getD 0 [] = kwd 3)) : eT R S I r a b U w = .vars R (rdC (bh r w).1 a b) :: U := if_neg h
theorem ow {R S I : TypeId} {r : RS} {a b : AC} {U : List AO} {w : List Bs} (h : r.rd = 3 ∧ w.getD 0 [] = kwd 3) : eT R S I r a b U w = iE R S I r a b U (w.drop 1) := if_pos h
theorem cF {R S I : TypeId} {r : RS} {a b : AC} {U : List AO} {w : List Bs} {x : AO} : (x :: U).length ≤ (eT R S I r a b U w).length := by
  unfold eT
  split
  · exact c0
  · exact Nat.le_refl _
theorem jS {R S I : TypeId} {r : RS} {a b : AC} {U : List AO} {w : List Bs} (h : ¬ w.getD 0 [] = kwd r.rd ∨ ((r.rd : Int) = 0 ∨ (r.rd : Int) = 4) ∧ ¬ (w.length : Int) = 2) : (bh r w).2 = 5 ∧ eT R S I r a b U w = .vars R (rdC r a b) :: U := by
  have e : bh r w = (r, 5) := if_pos (by rcases h with h | ⟨h1, h2⟩; exact .inl h; exact .inr ⟨by omega, by omega⟩)
  refine ⟨by rw [e], ?_⟩
  rw [jl, e]
  rintro ⟨q1, q2⟩
  rcases h with h | h
  · exact h (by rw [q1]; exact q2)
  · omega
theorem dw {r : RS} {w : List Bs} (h : w.getD 0 [] = kwd r.rd ∧ (¬ (r.rd : Int) = 0 ∧ ¬ (r.rd : Int) = 4 ∨ (w.length : Int) = 2)) : bh r w = if r.rd = 0 then ({ r with nm := w.getD 1 [] }, if aY (w.getD 1 []) = true then 0 else 9)
  else if r.rd = 1 then ({ r with ins := w.drop 1 }, alE (w.drop 1))
  else if r.rd = 2 then ({ r with outs := w.drop 1 }, alE (w.drop 1))
  else if r.rd = 3 then jc r (w.drop 1)
  else ({ r with st := ixB r.sts (w.getD 1 []) }, if ixB r.sts (w.getD 1 []) < 0 then 8 else 0) := by
  unfold bh
  rw [if_neg]
  rintro (q | q)
  · exact q h.1
  · omega
theorem gl {R S I : TypeId} {r r' : RS} {a b : AC} {U : List AO} {w : List Bs} {e : Int} (h3 : ¬ r.rd = 3) (h : bh r w = (r', e)) : (bh r w).2 = e ∧ eT R S I r a b U w = .vars R (rdC r' a b) :: U := by
  refine ⟨by rw [h], ?_⟩
  rw [jl (fun q => h3 q.1), h]
theorem jX {R S I : TypeId} {r : RS} {a b : AC} {U : List AO} {w : List Bs} (h : w.getD 0 [] = kwd r.rd ∧ (¬ (r.rd : Int) = 0 ∧ ¬ (r.rd : Int) = 4 ∨ (w.length : Int) = 2)) (h3 : r.rd = 3) : (bh r w).2 = dq (w.drop 1) ∧ eT R S I r a b U w = iE R S I r a b U (w.drop 1) := by
  refine ⟨?_, ow ⟨h3, by rw [← h3]; exact h.1⟩⟩
  rw [dw h, if_neg (by omega), if_neg (by omega), if_neg (by omega), if_pos h3]
  unfold jc
  split
  · rename_i e; exact e.symm
  · rfl
def RT (R S I : TypeId) (r : RS) : List AO := .vars R (rdC r (.rwc 1 0) (.rwc (2 + r.nx.length) 0)) :: (cY S I 1 r.nx ++ cY S I (2 + r.nx.length) r.ot)
theorem kK {I : TypeId} {xs : List (List Int)} {s : Nat} (h : s < xs.length) : (eG I xs)[s]? = some (.row (.int .i64) I 0 (xs.getD s [])) := by unfold eG; simp [List.getD, List.getElem?_eq_getElem h]
theorem kQ {I : TypeId} {xs : List (List Int)} {s : Nat} (x : List Int) : (eG I xs).set s (.row (.int .i64) I 0 x) = eG I (xs.set s x) := by unfold eG; rw [List.map_set]
theorem kP {b n s : Nat} (h : s < n) : (ck b n).getD s .junk = .row (b + s) 0 := by unfold ck; simp [List.getD, h]
theorem qd (R S I : TypeId) (r : RS) : (RT R S I r).length = 3 + r.nx.length + r.ot.length := by unfold RT; simp only [ah, ag, eo]; omega
theorem eC (R S I : TypeId) (r : RS) : (RT R S I r)[0]? = some (.vars R (rdC r (.rwc 1 0) (.rwc (2 + r.nx.length) 0))) := rfl
theorem q9 (R S I : TypeId) (r : RS) : (RT R S I r)[1]? = some (.rowc S 1 0 (ck 2 r.nx.length)) := rfl
theorem uj {R S I : TypeId} {r : RS} {s : Nat} (h : s < r.nx.length) : (RT R S I r)[2 + s]? = some (.row (.int .i64) I 0 (r.nx.getD s [])) := by
  unfold RT cY
  rw [show 2 + s = (s + 1) + 1 by omega, List.getElem?_cons_succ, ak, List.getElem?_cons_succ, List.getElem?_append_left (by rw [cr]; exact h)]
  exact kK h
theorem tl (R S I : TypeId) (r : RS) : (RT R S I r)[2 + r.nx.length]? = some (.rowc S 1 0 (ck (3 + r.nx.length) r.ot.length)) := by
  unfold RT cY
  rw [show 2 + r.nx.length = (r.nx.length + 1) + 1 by omega, List.getElem?_cons_succ, ak, List.getElem?_cons_succ, List.getElem?_append_right (by rw [cr]; exact Nat.le_refl _), cr, Nat.sub_self]
  rw [show r.nx.length + 1 + 1 + 1 = 3 + r.nx.length by omega]; rfl
theorem uo {R S I : TypeId} {r : RS} {s : Nat} (h : s < r.ot.length) : (RT R S I r)[3 + r.nx.length + s]? = some (.row (.int .i64) I 0 (r.ot.getD s [])) := by
  unfold RT cY
  rw [show 3 + r.nx.length + s = (r.nx.length + (s + 1)) + 1 + 1 by omega, List.getElem?_cons_succ, ak, List.getElem?_cons_succ, List.getElem?_append_right (by rw [cr]; omega), cr, show r.nx.length + (s + 1) - r.nx.length = s + 1 by omega, List.getElem?_cons_succ]
  exact kK h
theorem ux {R S I : TypeId} {r : RS} {s : Nat} (h : s < r.nx.length) (x : List Int) : (RT R S I r).set (2 + s) (.row (.int .i64) I 0 x) = RT R S I { r with nx := r.nx.set s x } := by
  unfold RT cY
  rw [show 2 + s = (s + 1) + 1 by omega, be, ak, be, List.set_append, if_pos (by rw [cr]; exact h), kQ]
  simp only [List.length_set]; rfl
theorem uD {R S I : TypeId} {r : RS} {s : Nat} (h : s < r.ot.length) (x : List Int) : (RT R S I r).set (3 + r.nx.length + s) (.row (.int .i64) I 0 x) = RT R S I { r with ot := r.ot.set s x } := by
  unfold RT cY
  rw [show 3 + r.nx.length + s = (r.nx.length + (s + 1)) + 1 + 1 by omega, be, ak, be, List.set_append, if_neg (by rw [cr]; omega), cr, show r.nx.length + (s + 1) - r.nx.length = s + 1 by omega, be, kQ]
  simp only [List.length_set]; rfl
theorem uG {R S I : TypeId} {r : RS} (x : Int) : (RT R S I r).set 0 (.vars R [.str r.nm, .list .str r.ins, .list .str r.outs, .int .i64 r.inp, .int .i64 r.st, .rwc 1 0, .rwc (2 + r.nx.length) 0, .list .str r.sts, .int .i64 (r.rd : Int), .int .i64 x]) = RT R S I { r with lf := x } := rfl
structure ROK (r : RS) : Prop where
  nl : r.nx.length = r.sts.length
  ol : r.ot.length = r.sts.length
  n2 : r.sts.length ≤ 128
  i1 : 1 ≤ r.ins.length
  i2 : r.ins.length ≤ 64
  rl : ∀ s, s < r.sts.length → (r.nx.getD s []).length = r.ins.length
  ql : ∀ s, s < r.sts.length → (r.ot.getD s []).length = r.ins.length
  l0 : -2000000 ≤ r.lf
  l1 : r.lf ≤ 1000000
theorem tN {s1 s2 i1 o1 : List Bs} {a b c d : Bs} {x y : Int} (h : ((0 ≤ (if a ∈ s1 then x else -1) ∧ 0 ≤ (if b ∈ s2 then y else -1)) ∧ c ∈ i1) ∧ d ∈ o1) : a ∈ s1 ∧ b ∈ s2 ∧ c ∈ i1 ∧ d ∈ o1 := by
  obtain ⟨⟨⟨h1, h2⟩, h3⟩, h4⟩ := h
  refine ⟨?_, ?_, h3, h4⟩
  · split at h1
    · assumption
    · omega
  · split at h2
    · assumption
    · omega
theorem j3 {s1 s2 i1 o1 : List Bs} {a b c d : Bs} {x y : Nat} (h : (((if a ∈ s1 then (x : Int) else -1) < 0 ∨ (if b ∈ s2 then (y : Int) else -1) < 0) ∨ ¬ c ∈ i1) ∨ ¬ d ∈ o1) : a ∉ s1 ∨ b ∉ s2 ∨ c ∉ i1 ∨ d ∉ o1 := by
  rcases h with ((h | h) | h) | h
  · split at h
    · omega
    · exact .inl (by assumption)
  · split at h
    · omega
    · exact .inr (.inl (by assumption))
  · exact .inr (.inr (.inl h))
  · exact .inr (.inr (.inr h))
theorem nH {r : RS} {w : List Bs} (h : ¬ (w.length : Int) = 4) : bP r w = (r, 5) := if_pos (by omega)
theorem nD {r : RS} {w : List Bs} (h : (w.length : Int) = 4) (h2 : w.getD 0 [] ∉ r.sts ∨ w.getD 3 [] ∉ r.sts ∨ w.getD 1 [] ∉ r.ins ∨ w.getD 2 [] ∉ r.outs) : bP r w = (r, 8) := by unfold bP; rw [if_neg (by omega), if_pos h2]
theorem nX {r : RS} {w : List Bs} (h : (w.length : Int) = 4) (h0 : w.getD 0 [] ∈ r.sts) (h3 : w.getD 3 [] ∈ r.sts) (h1 : w.getD 1 [] ∈ r.ins) (h2 : w.getD 2 [] ∈ r.outs) (h4 : 0 ≤ (r.nx.getD (pos r.sts (w.getD 0 [])) []).getD (pos r.ins (w.getD 1 [])) 0) : bP r w = (r, 7) := by
  unfold bP; rw [if_neg (by omega), if_neg (by rintro (q | q | q | q) <;> exact q (by assumption)), if_pos h4]
theorem lC {r : RS} {w : List Bs} (h : (w.length : Int) = 4) (h0 : w.getD 0 [] ∈ r.sts) (h3 : w.getD 3 [] ∈ r.sts) (h1 : w.getD 1 [] ∈ r.ins) (h2 : w.getD 2 [] ∈ r.outs) (h4 : ¬ 0 ≤ (r.nx.getD (pos r.sts (w.getD 0 [])) []).getD (pos r.ins (w.getD 1 [])) 0) :
    bP r w = (fP r (pos r.sts (w.getD 0 [])) (pos r.ins (w.getD 1 [])) (pos r.sts (w.getD 3 [])) (pos r.outs (w.getD 2 [])), 0) := by
  unfold bP; rw [if_neg (by omega), if_neg (by rintro (q | q | q | q) <;> exact q (by assumption)), if_neg h4]
theorem iV (R S I : TypeId) (r : RS) (w : List Bs) : (RT R S I r).length ≤ (RT R S I (bP r w).1).length := by
  rw [qd, qd]
  unfold bP fP
  split
  · exact Nat.le_refl _
  · split
    · exact Nat.le_refl _
    · split
      · exact Nat.le_refl _
      · simp
theorem mu (R S I : TypeId) (r : RS) : (SH R S I r)[0]? = some (.vars R (rdC r (rdA r) (rdB r))) := rfl
theorem ta (R S I : TypeId) (r : RS) : (SH R S I r).set 0 (.vars R [.str r.nm, .list .str r.ins, .list .str r.outs, .int .i64 r.inp, .int .i64 r.st, rdA r, rdB r, .list .str r.sts, .int .i64 ((r.rd : Int) + 1), .int .i64 r.lf]) = SH R S I { r with rd := r.rd + 1 } := rfl
theorem ep {R S I : TypeId} {r : RS} (h : r.tb = true) : SH R S I r = RT R S I r := by unfold SH RT rdA rdB rdT; rw [if_pos h, if_pos h, if_pos h]
theorem rE {r : RS} {w : List Bs} (h : ¬ (r.rd = 3 ∧ w.getD 0 [] = kwd 3)) : (bh r w).1.tb = r.tb ∧ (bh r w).1.nx = r.nx ∧ (bh r w).1.ot = r.ot := by
  unfold bh
  split
  · exact ⟨rfl, rfl, rfl⟩
  · rename_i h1
    split
    · exact ⟨rfl, rfl, rfl⟩
    · split
      · exact ⟨rfl, rfl, rfl⟩
      · split
        · exact ⟨rfl, rfl, rfl⟩
        · split
          · rename_i h3
            exfalso
            refine h ⟨h3, ?_⟩
            rw [← h3]
            exact Decidable.byContradiction fun q => h1 (.inl q)
          · exact ⟨rfl, rfl, rfl⟩
theorem mv {R S I : TypeId} {r : RS} {w : List Bs} (h3 : r.rd = 3 → r.tb = false) : eT R S I r (rdA r) (rdB r) (rdT S I r) w = SH R S I (bh r w).1 := by
  by_cases h : r.rd = 3 ∧ w.getD 0 [] = kwd 3
  · rw [ow h]
    have e : bh r w = jc r (w.drop 1) := by
      unfold bh
      rw [if_neg (by rintro (q | q); exact q (by rw [h.1]; exact h.2); omega), if_neg (by omega), if_neg (by omega), if_neg (by omega), if_pos h.1]
    have ht := h3 h.1
    have hT : rdT S I r = [] := by unfold rdT; rw [ht]; rfl
    have hA : rdA r = .nils := by unfold rdA; rw [ht]; rfl
    rw [e, hT]
    unfold jc
    by_cases h0 : dq (w.drop 1) = 0
    · rw [if_pos h0, eY h0]
      rw [ep (show (gY r (w.drop 1)).tb = true from rfl)]
      unfold RT
      simp only [ar, am, Nat.zero_add]
      rw [show (gY r (w.drop 1)).nx.length = (w.drop 1).length by unfold gY; simp [jy]]
      rfl
    · rw [if_neg h0, bE rfl h0]
      unfold SH
      rw [hT]
  · rw [jl h]
    obtain ⟨h1, h2, h4⟩ := rE h
    unfold SH rdA rdB rdT
    rw [h1, h2, h4]
theorem oz {r : RS} {w : List Bs} : (bP r w).1.tb = r.tb := by
  unfold bP fP
  split
  · rfl
  · split
    · rfl
    · split <;> rfl
structure LOK (r : RS) : Prop where
  h3 : r.rd = 3 → r.tb = false ∧ 1 ≤ r.ins.length ∧ r.ins.length ≤ 64
  h5 : 5 ≤ r.rd → r.tb = true ∧ ROK r ∧ r.outs.length ≤ 1000000
  rl : r.rd ≤ 2000000
theorem qu {R S I : TypeId} {r : RS} (h : r.rd = 3 → r.tb = false) (w : List Bs) : (SH R S I r).length ≤ (SH R S I (bh r w).1).length := by rw [← mv h]; exact cF
theorem qb {R S I : TypeId} {r : RS} (h : r.tb = true) (w : List Bs) : (SH R S I r).length ≤ (SH R S I (bP r w).1).length := by rw [ep h, ep (oz.trans h)]; exact iV ..
theorem sR {s : Bs} {k : Nat} : ((s.getD k 0).toNat : Int) = 35 ↔ s.getD k 0 = 35 := by
  constructor
  · intro h
    apply UInt8.toNat_inj.1
    have e : ((35 : UInt8).toNat : Int) = 35 := by decide
    omega
  · intro h; rw [h]; decide
theorem mr {r : RS} {w : List Bs} : (bh r w).1.rd = r.rd := by
  unfold bh jc gY
  repeat' split
  all_goals rfl
theorem p6 {r : RS} {w : List Bs} : (bP r w).1.rd = r.rd := by
  unfold bP fP
  repeat' split
  all_goals rfl
theorem gp {r : RS} {s : Bs} (h : dn s [10] = false) : bj r s = (r, 5) := if_pos h
theorem iN {r : RS} {s : Bs} (h : dn s [10] = true) (h2 : s.take (s.length - 1) = [] ∨ (((s.take (s.length - 1)).getD 0 0).toNat : Int) = 35) : bj r s = (r, 0) := by
  unfold bj
  rw [if_neg (by rw [h]; decide), if_pos]
  rcases h2 with h2 | h2
  · exact .inl h2
  · exact .inr (sR.1 h2)
theorem lc {r : RS} {s : Bs} (h : dn s [10] = true) (h2 : ¬ s.take (s.length - 1) = [] ∧ ¬ (((s.take (s.length - 1)).getD 0 0).toNat : Int) = 35) : bj r s = if [] ∈ spB 32 (s.take (s.length - 1)) then (r, 5) else cu (eU r (spB 32 (s.take (s.length - 1)))) := by
  unfold bj
  rw [if_neg (by rw [h]; decide), if_neg]
  rintro (q | q)
  · exact h2.1 q
  · exact h2.2 (sR.2 q)
theorem gb {r : RS} {s : Bs} (h : dn s [10] = true) (h2 : ¬ s.take (s.length - 1) = [] ∧ ¬ (((s.take (s.length - 1)).getD 0 0).toNat : Int) = 35) (h3 : [] ∈ spB 32 (s.take (s.length - 1))) : bj r s = (r, 5) := by rw [lc h h2, if_pos h3]
theorem j9 {r : RS} {s : Bs} (h : dn s [10] = true) (h2 : ¬ s.take (s.length - 1) = [] ∧ ¬ (((s.take (s.length - 1)).getD 0 0).toNat : Int) = 35) (h3 : ¬ [] ∈ spB 32 (s.take (s.length - 1))) (h4 : (r.rd : Int) < 5) : bj r s = ({ (bh r (spB 32 (s.take (s.length - 1)))).1 with rd := (bh r (spB 32 (s.take (s.length - 1)))).1.rd + 1 }, (bh r (spB 32 (s.take (s.length - 1)))).2) := by
  rw [lc h h2, if_neg h3]; unfold cu eU; rw [if_pos (by omega)]
theorem iZ {r : RS} {s : Bs} (h : dn s [10] = true) (h2 : ¬ s.take (s.length - 1) = [] ∧ ¬ (((s.take (s.length - 1)).getD 0 0).toNat : Int) = 35) (h3 : ¬ [] ∈ spB 32 (s.take (s.length - 1))) (h4 : 5 ≤ (r.rd : Int)) : bj r s = ({ (bP r (spB 32 (s.take (s.length - 1)))).1 with rd := (bP r (spB 32 (s.take (s.length - 1)))).1.rd + 1 }, (bP r (spB 32 (s.take (s.length - 1)))).2) := by
  rw [lc h h2, if_neg h3]; unfold cu eU; rw [if_neg (by omega)]
theorem uw {R S I : TypeId} {r : RS} (h : LOK r) (s : Bs) : (SH R S I r).length ≤ (SH R S I (bj r s).1).length := by
  unfold bj
  split
  · exact Nat.le_refl _
  · split
    · exact Nat.le_refl _
    · split
      · exact Nat.le_refl _
      · unfold cu eU
        split
        · exact qu (fun e => (h.h3 e).1) _
        · exact qb (h.h5 (by omega)).1 _
/-plain-/
def nZ : Mdl := ⟨[], [], [], ⟨0, 0, [], []⟩⟩
def tk (r : RS) : Mdl := ⟨r.nm, r.ins, r.outs, ⟨r.inp, r.st, r.nx, r.ot⟩⟩
def mI (k : Nat) (r : RS) : Mdl × Int × Int := if r.rd < 5 ∨ 0 < r.lf then (nZ, (k : Int) + 1, 12) else (tk r, 0, 0)
def PL : List Bs → Nat → RS → Mdl × Int × Int
  | [], k, r => mI k r
  | l :: ls, k, r => if (bj r l).2 = 0 then PL ls (k + 1) (bj r l).1 else (nZ, (k : Int) + 1, (bj r l).2)
def jN : Nat → Bs → List Bs
  | 0, _ => []
  | f + 1, s => if s = [] then [] else s.take (lnE s) :: jN f (s.drop (lnE s))
def lns (s : Bs) : List Bs := jN s.length s
theorem qG : ∀ f, jN f [] = []
  | 0 => rfl
  | f + 1 => if_pos rfl
theorem i8 : ∀ (f : Nat) (s : Bs), s.length ≤ f → jN f s = jN s.length s
  | 0, s, h => by
    obtain rfl : s = [] := List.eq_nil_of_length_eq_zero (by omega)
    rfl
  | f + 1, s, h => by
    by_cases e : s = []
    · subst e; rw [qG]; rfl
    · have hp := kO e
      have hl := List.length_pos_iff.2 e
      obtain ⟨m, hm⟩ : ∃ m, s.length = m + 1 := ⟨s.length - 1, by omega⟩
      rw [hm]
      show (if s = [] then [] else s.take (lnE s) :: jN f (s.drop (lnE s))) = (if s = [] then [] else s.take (lnE s) :: jN m (s.drop (lnE s)))
      rw [if_neg e, if_neg e, i8 f (s.drop (lnE s)) (by rw [List.length_drop]; omega)]
      rw [i8 m (s.drop (lnE s)) (by rw [List.length_drop]; omega)]
 termination_by f => f
theorem jp {s : Bs} (e : s ≠ []) : lns s = s.take (lnE s) :: lns (s.drop (lnE s)) := by
  have hp := kO e
  have hl := List.length_pos_iff.2 e
  obtain ⟨m, hm⟩ : ∃ m, s.length = m + 1 := ⟨s.length - 1, by omega⟩
  unfold lns
  rw [hm]
  show (if s = [] then [] else s.take (lnE s) :: jN m (s.drop (lnE s))) = _
  rw [if_neg e, i8 m _ (by rw [List.length_drop]; omega)]
def PM (s : Bs) : Mdl × Int × Int := if 1048576 < s.length then (nZ, 0, 3) else PL (lns s) 0 rs0
def bH (s : Bs) : Nat → RS
  | 0 => rs0
  | k + 1 => (bj (bH s k) (bT s k)).1
def OKR (s : Bs) (k : Nat) : Prop := ∀ j, j < k → aP s j ≠ [] ∧ (bj (bH s j) (bT s j)).2 = 0
theorem pB {s : Bs} (h0 : ¬ 1048576 < s.length) : ∀ k, OKR s k → PM s = PL (lns (aP s k)) k (bH s k)
  | 0, _ => if_neg h0
  | k + 1, h => by
    rw [pB h0 k fun j hj => h j (by omega)]
    obtain ⟨h1, h2⟩ := h k (by omega)
    rw [jp h1]
    show (if (bj (bH s k) (bT s k)).2 = 0 then PL (lns (aP s (k + 1))) (k + 1) (bH s (k + 1)) else _) = _
    rw [if_pos h2]
theorem tp {s : Bs} (h0 : ¬ 1048576 < s.length) {k : Nat} (h : OKR s k) (he : aP s k = []) : PM s = mI k (bH s k) := by rw [pB h0 k h, he]; rfl
theorem tJ {s : Bs} (h0 : ¬ 1048576 < s.length) {k : Nat} (h : OKR s k) (he : aP s k ≠ []) (h2 : ¬ (bj (bH s k) (bT s k)).2 = 0) : PM s = (nZ, (k : Int) + 1, (bj (bH s k) (bT s k)).2) := by
  rw [pB h0 k h, jp he]; exact if_neg h2
theorem ra {s : Bs} {k : Nat} (h : OKR s k) (he : aP s k ≠ []) (h2 : (bj (bH s k) (bT s k)).2 = 0) : OKR s (k + 1) := fun j hj => by
  by_cases e : j = k
  · subst e; exact ⟨he, h2⟩
  · exact h j (by omega)
structure RI (r : RS) : Prop where
  t3 : r.rd ≤ 3 → r.tb = false
  t4 : 4 ≤ r.rd → r.tb = true ∧ ROK r
  a1 : 2 ≤ r.rd → alE r.ins = 0
  a2 : 3 ≤ r.rd → alE r.outs = 0
  lf : 4 ≤ r.rd → -(r.rd : Int) ≤ r.lf ∧ r.lf ≤ 8192
theorem uU : RI rs0 := ⟨fun _ => rfl, fun h => by simp [rs0] at h, fun h => by simp [rs0] at h, fun h => by simp [rs0] at h, fun h => by simp [rs0] at h⟩
theorem tw {r : RS} (h : RI r) (hr : r.rd ≤ 1900000) : LOK r := by
  refine ⟨fun e => ⟨h.t3 (by omega), ?_⟩, fun e => ?_, by omega⟩
  · have := iu (h.a1 (by omega)); exact ⟨this.n0, this.n1⟩
  · have := iu (h.a2 (by omega))
    have h4 := h.t4 (by omega)
    exact ⟨h4.1, h4.2, by have := this.n1; omega⟩
theorem sE {r : RS} {l : List Bs} (h : RI r) (h3 : r.rd = 3) (hn : dq l = 0) : RI { gY r l with rd := r.rd + 1 } := by
  have ha := iu (h.a1 (by omega))
  have hi0 := ha.n0
  have hi1 := ha.n1
  have hl : l.length ≤ 128 := by
    unfold dq at hn
    split at hn
    · omega
    · split at hn
      · omega
      · omega
  have hmu : (l.length : Int) * r.ins.length ≤ 128 * 64 := Int.mul_le_mul (by omega) (by omega) (by omega) (by omega)
  have hm0 : (0 : Int) ≤ (l.length : Int) * r.ins.length := Int.mul_nonneg (by omega) (by omega)
  have hrow : ∀ s, s < l.length → ((fQ l.length r.ins.length).getD s []).length = r.ins.length := fun s hs => by
    unfold fQ; simp [List.getD, hs]
  refine ⟨fun q => by simp only at q; omega, fun _ => ⟨rfl, jy .., jy .., hl, hi0, hi1, hrow, hrow, ?_, ?_⟩, fun _ => h.a1 (by omega), fun _ => h.a2 (by omega), fun _ => ⟨?_, ?_⟩⟩
  · show (-2000000 : Int) ≤ (l.length : Int) * r.ins.length; omega
  · show (l.length : Int) * r.ins.length ≤ 1000000; omega
  · show -((r.rd + 1 : Nat) : Int) ≤ (l.length : Int) * r.ins.length; omega
  · show (l.length : Int) * r.ins.length ≤ 8192; omega
theorem sq {r : RS} {w : List Bs} (h : RI r) (h5 : r.rd < 5) (he : (bh r w).2 = 0) : RI { (bh r w).1 with rd := (bh r w).1.rd + 1 } := by
  unfold bh at he ⊢
  split
  · rename_i q; rw [if_pos q] at he; simp at he
  · rename_i q
    rw [if_neg q] at he
    split
    · rename_i e0
      have := h.t3 (by omega)
      exact ⟨fun _ => this, fun q => by simp only at q; omega, fun q => by simp only at q; omega, fun q => by simp only at q; omega, fun q => by simp only at q; omega⟩
    · rename_i e0
      rw [if_neg e0] at he
      split
      · rename_i e1
        rw [if_pos e1] at he
        have := h.t3 (by omega)
        exact ⟨fun _ => this, fun q => by simp only at q; omega, fun _ => he, fun q => by simp only at q; omega, fun q => by simp only at q; omega⟩
      · rename_i e1
        rw [if_neg e1] at he
        split
        · rename_i e2
          rw [if_pos e2] at he
          have := h.t3 (by omega)
          exact ⟨fun _ => this, fun q => by simp only at q; omega, fun _ => h.a1 (by omega), fun _ => he, fun q => by simp only at q; omega⟩
        · rename_i e2
          rw [if_neg e2] at he
          split
          · rename_i e3
            rw [if_pos e3] at he
            unfold jc at he ⊢
            split
            · rename_i en
              exact sE h e3 en
            · rename_i en; rw [if_neg en] at he; exact absurd he en
          · rename_i e3
            have h4 := h.t4 (by omega)
            have hl := h.lf (by omega)
            refine ⟨fun q => by simp only at q; omega, fun _ => ⟨h4.1, h4.2.nl, h4.2.ol, h4.2.n2, h4.2.i1, h4.2.i2, h4.2.rl, h4.2.ql, h4.2.l0, h4.2.l1⟩, fun _ => h.a1 (by omega), fun _ => h.a2 (by omega), fun _ => ⟨?_, hl.2⟩⟩
            show -((r.rd + 1 : Nat) : Int) ≤ r.lf
            omega
theorem i4 {xs : List (List Int)} {s a : Nat} {v : Int} (i : Nat) : ((xs.set s ((xs.getD s []).set a v)).getD i []).length = (xs.getD i []).length := by
  simp only [List.getD, List.getElem?_set]
  split
  · rename_i e; subst e
    split
    · rename_i hlt; simp [List.getElem?_eq_getElem hlt]
    · rename_i hlt; simp [List.getElem?_eq_none (by omega : xs.length ≤ s)]
  · rfl
theorem tx {r : RS} {w : List Bs} (h : RI r) (h5 : 5 ≤ r.rd) (hr : r.rd ≤ 1900000) (he : (bP r w).2 = 0) : RI { (bP r w).1 with rd := (bP r w).1.rd + 1 } := by
  have h4 := h.t4 (by omega)
  have hl := h.lf (by omega)
  have key : ∀ s a t o, RI { fP r s a t o with rd := (fP r s a t o).rd + 1 } := fun s a t o => by
    refine ⟨fun q => by simp only [fP] at q; omega, fun _ => ⟨h4.1, by simp only [fP, List.length_set]; exact h4.2.nl, by simp only [fP, List.length_set]; exact h4.2.ol, h4.2.n2, h4.2.i1, h4.2.i2, fun i hi => ?_, fun i hi => ?_, ?_, ?_⟩, fun _ => h.a1 (by omega), fun _ => h.a2 (by omega), fun _ => ⟨?_, ?_⟩⟩
    · exact (i4 i).trans (h4.2.rl i hi)
    · exact (i4 i).trans (h4.2.ql i hi)
    · show (-2000000 : Int) ≤ r.lf - 1; omega
    · show r.lf - 1 ≤ 1000000; omega
    · show -((r.rd + 1 : Nat) : Int) ≤ r.lf - 1; omega
    · show r.lf - 1 ≤ 8192; omega
  unfold bP at he ⊢
  split
  · rename_i q; rw [if_pos q] at he; simp at he
  · rename_i q
    rw [if_neg q] at he
    split
    · rename_i q2; rw [if_pos q2] at he; simp at he
    · rename_i q2
      rw [if_neg q2] at he
      split
      · rename_i q3; rw [if_pos q3] at he; simp at he
      · exact key _ _ _ _
theorem sk {r : RS} {s : Bs} (h : RI r) (hr : r.rd ≤ 1900000) (he : (bj r s).2 = 0) : RI (bj r s).1 ∧ (bj r s).1.rd ≤ r.rd + 1 := by
  unfold bj at he ⊢
  split
  · rename_i q; rw [if_pos q] at he; simp at he
  · rename_i q
    rw [if_neg q] at he
    split
    · exact ⟨h, Nat.le_succ _⟩
    · rename_i q2
      rw [if_neg q2] at he
      split
      · rename_i q3; rw [if_pos q3] at he; simp at he
      · rename_i q3
        rw [if_neg q3] at he
        unfold cu eU at he ⊢
        split
        · rename_i q4
          rw [if_pos q4] at he
          exact ⟨sq h q4 he, by simp only; rw [mr]; exact Nat.le_refl _⟩
        · rename_i q4
          rw [if_neg q4] at he
          exact ⟨tx h (by omega) hr he, by simp only; rw [p6]; exact Nat.le_refl _⟩
theorem kB {s : Bs} (hs : s.length ≤ 1048576) : ∀ {k : Nat}, OKR s k → RI (bH s k) ∧ (bH s k).rd ≤ k ∧ k ≤ s.length
  | 0, _ => ⟨uU, Nat.le_refl _, Nat.zero_le _⟩
  | k + 1, h => by
    obtain ⟨h1, h2, h3⟩ := kB hs (k := k) fun j hj => h j (by omega)
    obtain ⟨h4, h5⟩ := h k (by omega)
    have h6 := gS s k h4
    have h7 := List.length_pos_iff.2 h4
    obtain ⟨g1, g2⟩ := sk h1 (by omega) h5
    exact ⟨g1, by show (bj (bH s k) (bT s k)).1.rd ≤ k + 1; omega, by omega⟩
/-plain-/
def jx (l : List (List Int)) (n : Nat) : Bool := (List.range (min l.length n)).any (fun i => decide (6 < (l.getD i []).length))
def hQ (x : Mdl) : Bool := jx x.m.nx 13 || jx x.m.ot 21 || decide (100 < (x.nm.length : Int)) || grB x.ins || grB x.outs || decide (12 < (x.m.nx.length : Int)) || decide (20 < (x.m.ot.length : Int))
theorem gD {l : List (List Int)} {n k : Nat} (h : k < l.length) (h2 : k < n) (h3 : 6 < (l.getD k []).length) : jx l n = true := by
  unfold jx; rw [List.any_eq_true]; exact ⟨k, List.mem_range.2 (by omega), by simpa using h3⟩
theorem gK {l : List (List Int)} {n k : Nat} (hk : l.length ≤ k ∨ n ≤ k) (h : ∀ q, q < k → (l.getD q []).length ≤ 6) : jx l n = false := by
  unfold jx; rw [List.any_eq_false]; intro q hq; have := List.mem_range.1 hq; have := h q (by omega); simp only [decide_eq_true_eq]; omega
/-plain-/
def bK (L : List Bs) : Bs := (L.map (· ++ [10])).flatten
theorem eL (l : Bs) (L : List Bs) : bK (l :: L) = l ++ 10 :: bK L := by unfold bK; simp
theorem gy : ∀ {l : Bs} {L : List Bs}, Lib.join (l :: L) [10] ++ [10] = bK (l :: L)
  | l, [] => by rw [Lib.join_one, eL]; simp [bK]
  | l, m :: L => by rw [cH, eL, ← gy]; simp
theorem uT {l s : Bs} (h : (10 : UInt8) ∉ l) : Lib.indexByte (l ++ 10 :: s) 10 = l.length := by
  induction l with
  | nil => simp [Lib.indexByte]
  | cons b l ih =>
    simp only [List.mem_cons, not_or] at h
    have := ih h.2
    rw [ak]
    unfold Lib.indexByte
    have e : (b == 10) = false := by simpa using Ne.symm h.1
    rw [e, this]
    have e2 : ((l.length : Int) == -1) = false := beq_eq_false_iff_ne.2 (by omega)
    rw [e2]
    simp
theorem tL {l s : Bs} (h : (10 : UInt8) ∉ l) : lnE (l ++ 10 :: s) = l.length + 1 := by
  unfold lnE; rw [uT h, if_neg (by omega)]; rfl
theorem mU : ∀ {L : List Bs}, (∀ l, l ∈ L → (10 : UInt8) ∉ l) → lns (bK L) = L.map (· ++ [10])
  | [], _ => rfl
  | l :: L, h => by
    have h1 := h l (by simp)
    rw [eL, jp (by simp), tL h1]
    have e1 : (l ++ 10 :: bK L).take (l.length + 1) = l ++ [10] := by rw [List.take_append, List.take_of_length_le (by omega)]; simp
    have e2 : (l ++ 10 :: bK L).drop (l.length + 1) = bK L := by rw [List.drop_append, List.drop_of_length_le (by omega)]; simp
    rw [e1, e2, mU fun x hx => h x (aF _ hx)]; rfl
def fN (r : RS) (l : Bs) : RS × Int := if l = [] ∨ l.getD 0 0 = 35 then (r, 0) else if [] ∈ spB 32 l then (r, 5) else cu (eU r (spB 32 l))
theorem pX (r : RS) (l : Bs) : bj r (l ++ [10]) = fN r l := by
  have h1 : dn (l ++ [10]) [10] = true := rK.2 (List.suffix_append _ _)
  have h2 : (l ++ [(10 : UInt8)]).take ((l ++ [(10 : UInt8)]).length - 1) = l := by simp
  unfold bj fN
  rw [h1, h2, if_neg (by decide)]
theorem jP {r : RS} {w : Bs} {ws : List Bs} (h : ∀ y, y ∈ w :: ws → (32 : UInt8) ∉ y ∧ y ≠ []) (h35 : w.getD 0 0 ≠ 35) : fN r (Lib.join (w :: ws) [32]) = cu (eU r (w :: ws)) := by
  have hs := kM (c := 32) (x := w) (r := ws) fun y hy => (h y hy).1
  have hw := (h w (by simp)).2
  obtain ⟨b, w', rfl⟩ : ∃ b w', w = b :: w' := by cases w with
    | nil => exact absurd rfl hw
    | cons b w' => exact ⟨b, w', rfl⟩
  have hj : ∃ t, Lib.join ((b :: w') :: ws) [32] = b :: t := ⟨_, by rw [Lib.join_cons, ak]⟩
  obtain ⟨t, ht⟩ := hj
  unfold fN
  rw [hs, if_neg, if_neg]
  · intro hm; exact (h [] hm).2 rfl
  · rw [ht]; rintro (q | q)
    · cases q
    · exact h35 (by simpa [List.getD] using q)
theorem rQ {L : List Bs} (h : ∀ l, l ∈ L → (10 : UInt8) ∉ l) (hs : ¬ 1048576 < (bK L).length) : PM (bK L) = PL (L.map (· ++ [10])) 0 rs0 := by
  unfold PM; rw [if_neg hs, mU h]
theorem fg {L : List Bs} {k : Nat} {r r' : RS} {l : Bs} (h : fN r l = (r', 0)) : PL ((l :: L).map (· ++ [10])) k r = PL (L.map (· ++ [10])) (k + 1) r' := by
  rw [aT]
  show (if (bj r (l ++ [10])).2 = 0 then PL _ (k + 1) (bj r (l ++ [10])).1 else _) = _
  rw [pX, h, if_pos rfl]
theorem ew {s : Bs} (h : aY s = true) : s ≠ [] := fun e => by have := (cX h).2.1; rw [e] at this; simp at this
theorem sb {c : UInt8} (h : okI (c.toNat : Int)) : c ≠ 32 ∧ c ≠ 10 ∧ c ≠ 35 := by
  unfold okI at h
  refine ⟨fun e => ?_, fun e => ?_, fun e => ?_⟩ <;> (subst e; simp at h)
theorem oR {s : Bs} (h : aY s = true) : s.getD 0 0 ≠ 35 := by
  cases s with
  | nil => exact absurd rfl (ew h)
  | cons b s => exact (sb ((cX h).1 b (by simp))).2.2
theorem lw {s : Bs} (h : aY s = true) : (10 : UInt8) ∉ s := fun hm => (sb ((cX h).1 _ hm)).2.1 rfl
theorem lO : ∀ i : Nat, i < 128 → aY (qn i) = true ∧ ∀ j : Nat, j < i → qn j ≠ qn i := by decide +kernel
theorem dz {i : Nat} (h : i < 128) : aY (qn i) = true := (lO i h).1
theorem qe {i j : Nat} (hi : i < 128) (hj : j < 128) (e : qn i = qn j) : i = j := by
  rcases Nat.lt_trichotomy i j with h | h | h
  · exact absurd e ((lO j hj).2 i h)
  · exact h
  · exact absurd e.symm ((lO i hi).2 j h)
theorem u0 {n : Nat} (h : n ≤ 128) : ∀ i, i < n → nmE (qs n) i = 0 := fun i hi => by
  refine jr ?_ ?_
  · rw [cw hi]; exact dz (by omega)
  · rw [cw hi]
    intro hm
    obtain ⟨j, hj, e⟩ := jV.1 hm
    rw [List.length_take, ca] at hj
    rw [fL (by omega), cw (by omega)] at e
    have := qe (by omega) (by omega) e
    omega
theorem sr {n : Nat} (h0 : 1 ≤ n) (h : n ≤ 128) : dq (qs n) = 0 := gQ (by rw [ca]; omega) (by rw [ca]; omega) (by rw [ca]; exact u0 h)
theorem nq {n i : Nat} (h : i < n) : qn i ∈ qs n := by rw [← cw h]; exact cG (by rw [ca]; exact h)
theorem nB {n i : Nat} (h : n ≤ 128) (hi : i < n) : pos (qs n) (qn i) = i :=
  (mw (fun j hj e => by rw [cw (by omega)] at e; have := qe (by omega) (by omega) e; omega) (by rw [ca]; exact hi) (cw hi)).1
/-plain-/
def nxD (n k : Nat) (done : List (Nat × Nat)) (m : List (List Int)) : List (List Int) := (List.range n).map fun s => (List.range k).map fun a => if (s, a) ∈ done then (m.getD s []).getD a 0 else -1
theorem rS (n k : Nat) (done : List (Nat × Nat)) (m : List (List Int)) : (nxD n k done m).length = n := by unfold nxD; simp
theorem ox {n k : Nat} {done : List (Nat × Nat)} {m : List (List Int)} {s : Nat} (h : s < n) : (nxD n k done m).getD s [] = (List.range k).map fun a => if (s, a) ∈ done then (m.getD s []).getD a 0 else -1 := by
  unfold nxD; simp [List.getD, h]
theorem tF {n k : Nat} {done : List (Nat × Nat)} {m : List (List Int)} {s a : Nat} (h : s < n) (ha : a < k) : ((nxD n k done m).getD s []).getD a 0 = if (s, a) ∈ done then (m.getD s []).getD a 0 else -1 := by
  rw [ox h]; simp [List.getD, ha]
theorem o3 (n k : Nat) (m : List (List Int)) : nxD n k [] m = fQ n k := by
  unfold nxD fQ
  simp only [List.not_mem_nil, if_false]
  rw [show (List.range k).map (fun _ => (-1 : Int)) = List.replicate k (-1) by rw [List.map_const', List.length_range]]
  rw [List.map_const', List.length_range]
theorem oh {n k : Nat} {done : List (Nat × Nat)} {m : List (List Int)} {s a : Nat} (h : s < n) (ha : a < k) :
    (nxD n k done m).set s (((nxD n k done m).getD s []).set a ((m.getD s []).getD a 0)) = nxD n k (done ++ [(s, a)]) m := by
  rw [ox h]
  apply List.ext_getElem?
  intro i
  rw [List.getElem?_set]
  by_cases hi : s = i
  · subst hi
    rw [if_pos rfl, if_pos (by rw [rS]; exact h)]
    unfold nxD
    rw [List.getElem?_map, List.getElem?_range h, Option.map_some]
    congr 1
    apply List.ext_getElem?
    intro j
    rw [List.getElem?_set]
    by_cases hj : a = j
    · subst hj
      rw [if_pos rfl, if_pos (by simpa using ha), List.getElem?_map, List.getElem?_range ha, Option.map_some, if_pos (by simp)]
    · rw [if_neg hj, List.getElem?_map, List.getElem?_map]
      rcases Nat.lt_or_ge j k with hjk | hjk
      · rw [List.getElem?_range hjk, Option.map_some, Option.map_some]
        congr 1
        have : ((s, j) ∈ done ++ [(s, a)]) ↔ (s, j) ∈ done := by
          rw [List.mem_append, List.mem_singleton]
          exact ⟨fun q => q.elim id fun e => absurd (Prod.mk.inj e).2.symm hj, .inl⟩
        by_cases q : (s, j) ∈ done
        · rw [if_pos q, if_pos (this.2 q)]
        · rw [if_neg q, if_neg fun z => q (this.1 z)]
      · rw [List.getElem?_eq_none (by rw [List.length_range]; exact hjk)]; rfl
  · rw [if_neg hi]
    unfold nxD
    rw [List.getElem?_map, List.getElem?_map]
    rcases Nat.lt_or_ge i n with hin | hin
    · rw [List.getElem?_range hin, Option.map_some, Option.map_some]
      congr 1
      refine List.map_congr_left fun b _ => ?_
      have : ((i, b) ∈ done ++ [(s, a)]) ↔ (i, b) ∈ done := by
        rw [List.mem_append, List.mem_singleton]
        exact ⟨fun q => q.elim id fun e => absurd (Prod.mk.inj e).1.symm hi, .inl⟩
      by_cases q : (i, b) ∈ done
      · rw [if_pos q, if_pos (this.2 q)]
      · rw [if_neg q, if_neg fun z => q (this.1 z)]
    · rw [List.getElem?_eq_none (by rw [List.length_range]; exact hin)]; rfl
def stD (x : Mdl) (done : List (Nat × Nat)) : RS := ⟨x.nm, x.ins, x.outs, x.ins.length, x.m.st, nxD x.m.nx.length x.ins.length done x.m.nx, nxD x.m.nx.length x.ins.length done x.m.ot, qs x.m.nx.length, 5 + done.length, (x.m.nx.length : Int) * x.ins.length - done.length, true⟩
theorem fq (x : Mdl) (s a : Nat) : eM x s a = Lib.join [qn s, x.ins.getD a [], x.outs.getD ((x.m.ot.getD s []).getD a 0).toNat [], qn ((x.m.nx.getD s []).getD a 0).toNat] [32] := by
  unfold eM; rw [cH, cH, cH, Lib.join_one]; simp
theorem kF {xs : List Bs} (h : AOK xs) {y : Bs} (hy : y ∈ xs) : aY y = true := by
  obtain ⟨j, hj, rfl⟩ := jV.1 hy
  exact h.nm j hj
theorem rn {x : Mdl} (h : MVO x) {done : List (Nat × Nat)} {s a : Nat} (hs : s < x.m.nx.length) (ha : a < x.ins.length) (hd : (s, a) ∉ done) : fN (stD x done) (eM x s a) = (stD x (done ++ [(s, a)]), 0) := by
  have hm := h.mo
  have hn2 := hm.n2
  have hil := h.il
  have hr := hm.nr s a hs (by omega)
  have ho := hm.or s a hs (by omega)
  have ho2 := h.ol s a hs (by omega)
  obtain ⟨t, ht⟩ : ∃ t : Nat, (x.m.nx.getD s []).getD a 0 = (t : Int) := ⟨((x.m.nx.getD s []).getD a 0).toNat, by omega⟩
  obtain ⟨o, hoo⟩ : ∃ o : Nat, (x.m.ot.getD s []).getD a 0 = (o : Int) := ⟨((x.m.ot.getD s []).getD a 0).toNat, by omega⟩
  have htl : t < x.m.nx.length := by omega
  have hol : o < x.outs.length := by omega
  have n0 := dz (i := s) (by omega)
  have n3 := dz (i := t) (by omega)
  have n1 := h.ai.nm a ha
  have n2 := h.ao.nm o hol
  rw [fq, ht, hoo, aJ, aJ]
  rw [jP (fun y hy => by
    simp only [List.mem_cons, List.not_mem_nil, or_false] at hy
    rcases hy with rfl | rfl | rfl | rfl
    · exact ⟨dI n0, ew n0⟩
    · exact ⟨dI n1, ew n1⟩
    · exact ⟨dI n2, ew n2⟩
    · exact ⟨dI n3, ew n3⟩) (oR n0)]
  unfold eU
  rw [if_neg (by show ¬ 5 + done.length < 5; omega)]
  have p0 : pos (qs x.m.nx.length) (qn s) = s := nB hn2 hs
  have p3 : pos (qs x.m.nx.length) (qn t) = t := nB hn2 htl
  have p1 := h.ai.pos ha
  have p2 := h.ao.pos hol
  have hneg : ((nxD x.m.nx.length x.ins.length done x.m.nx).getD s []).getD a 0 = -1 := by rw [tF hs ha, if_neg hd]
  have key := lC (r := stD x done) (w := [qn s, x.ins.getD a [], x.outs.getD o [], qn t]) rfl (nq hs) (nq htl) (cG ha) (cG hol) (by
    show ¬ 0 ≤ ((nxD x.m.nx.length x.ins.length done x.m.nx).getD (pos (qs x.m.nx.length) (qn s)) []).getD (pos x.ins (x.ins.getD a [])) 0
    rw [p0, p1, hneg]; decide)
  rw [key]
  unfold cu
  simp only [Prod.mk.injEq, and_true]
  show ({ fP (stD x done) (pos (qs x.m.nx.length) (qn s)) (pos x.ins (x.ins.getD a [])) (pos (qs x.m.nx.length) (qn t)) (pos x.outs (x.outs.getD o [])) with rd := 5 + done.length + 1 } : RS) = _
  rw [p0, p1, p2, p3]
  unfold fP stD
  simp only [RS.mk.injEq, ag, ah, am, true_and, and_true]
  refine ⟨?_, ?_, by omega, by omega⟩
  · rw [← ht]; exact oh hs ha
  · rw [← hoo]; exact oh hs ha
theorem mm {x : Mdl} (h : MVO x) : ∀ {ps done : List (Nat × Nat)} {k : Nat}, (∀ p, p ∈ ps → p.1 < x.m.nx.length ∧ p.2 < x.ins.length) → (done ++ ps).Nodup →
    PL ((ps.map fun p => eM x p.1 p.2).map (· ++ [10])) k (stD x done) = mI (k + ps.length) (stD x (done ++ ps))
  | [], done, k, _, _ => by rw [List.append_nil]; rfl
  | p :: ps, done, k, hp, hn => by
    obtain ⟨h1, h2⟩ := hp p (by simp)
    have hd : (p.1, p.2) ∉ done := fun hm => by
      have := (List.nodup_append.1 hn).2.2
      exact this p hm p (by simp) rfl
    rw [aT, fg (rn h h1 h2 hd)]
    have e : done ++ [(p.1, p.2)] ++ ps = done ++ p :: ps := by simp
    rw [mm h (fun q hq => hp q (aF _ hq)) (by rw [e]; exact hn), e]
    rw [ah, show k + 1 + ps.length = k + (ps.length + 1) by omega]
def rs1 (x : Mdl) : RS := { rs0 with nm := x.nm, rd := 1 }
def rs2 (x : Mdl) : RS := { rs1 x with ins := x.ins, rd := 2 }
def rs3 (x : Mdl) : RS := { rs2 x with outs := x.outs, rd := 3 }
def rs4 (x : Mdl) : RS := { gY (rs3 x) (qs x.m.nx.length) with rd := 4 }
theorem mG : ∀ i : Nat, i < 5 → aY (kwd i) = true := by decide +kernel
theorem gu {r : RS} {i : Nat} (hi : i < 5) (hr : r.rd = i) {ws : List Bs} (h : ∀ y, y ∈ ws → aY y = true) : fN r (Lib.join (kwd i :: ws) [32]) = cu (bh r (kwd i :: ws)) := by
  have hk := mG i hi
  rw [jP (fun y hy => by
    rcases List.mem_cons.1 hy with rfl | hy
    · exact ⟨dI hk, ew hk⟩
    · exact ⟨dI (h y hy), ew (h y hy)⟩) (oR hk)]
  unfold eU; rw [if_pos (by omega)]
theorem li {w : Bs} {ws : List Bs} (h : ws ≠ []) : Lib.join (w :: ws) [32] = w ++ [32] ++ Lib.join ws [32] := by
  cases ws with
  | nil => exact absurd rfl h
  | cons y ws => exact cH ..
theorem gF {x : Mdl} (h : MVO x) : hdT x = [Lib.join [kwd 0, x.nm] [32], Lib.join (kwd 1 :: x.ins) [32], Lib.join (kwd 2 :: x.outs) [32], Lib.join (kwd 3 :: qs x.m.nx.length) [32], Lib.join [kwd 4, qn x.m.st.toNat] [32]] := by
  have h1 := h.ai.n0
  have h2 := h.ao.n0
  have h3 := h.mo.n1
  have e : ∀ {l : List Bs}, 1 ≤ l.length → l ≠ [] := fun h e => by rw [e] at h; simp at h
  rw [cH, cH, Lib.join_one, Lib.join_one, li (e h1), li (e h2), li (e (by rw [ca]; exact h3))]
  rfl
theorem rp {x : Mdl} (h : MVO x) {L : List Bs} : PL ((hdT x ++ L).map (· ++ [10])) 0 rs0 = PL (L.map (· ++ [10])) 5 (stD x []) := by
  have hm := h.mo
  have hn1 := hm.n1
  have hn2 := hm.n2
  have hs1 := hm.s1
  have hs2 := hm.s2
  have hsn : x.m.st.toNat < x.m.nx.length := by omega
  rw [gF h]
  simp only [ak, ar]
  have l0 : fN rs0 (Lib.join [kwd 0, x.nm] [32]) = (rs1 x, 0) := by
    rw [gu (i := 0) (by decide) rfl (fun y hy => by rw [List.mem_singleton.1 hy]; exact h.nm), dw (r := rs0) (w := [kwd 0, x.nm]) ⟨rfl, .inr rfl⟩, if_pos (show (rs0).rd = 0 from rfl)]
    show cu (_, if aY x.nm = true then (0 : Int) else 9) = _
    rw [if_pos h.nm]; rfl
  have l1 : fN (rs1 x) (Lib.join (kwd 1 :: x.ins) [32]) = (rs2 x, 0) := by
    rw [gu (i := 1) (by decide) rfl (fun y hy => kF h.ai hy), dw (r := rs1 x) (w := kwd 1 :: x.ins) ⟨rfl, .inl ⟨(by decide : ¬ (1 : Int) = 0), (by decide : ¬ (1 : Int) = 4)⟩⟩, if_neg (show ¬ (rs1 x).rd = 0 from (by decide : ¬ (1 : Nat) = 0)), if_pos (show (rs1 x).rd = 1 from rfl)]
    show cu (_, alE x.ins) = _
    rw [dk (by have := h.ai.n0; omega) (by have := h.ai.n1; omega) fun q hq => jr (h.ai.nm q hq) (h.ai.nw q hq)]; rfl
  have l2 : fN (rs2 x) (Lib.join (kwd 2 :: x.outs) [32]) = (rs3 x, 0) := by
    rw [gu (i := 2) (by decide) rfl (fun y hy => kF h.ao hy), dw (r := rs2 x) (w := kwd 2 :: x.outs) ⟨rfl, .inl ⟨(by decide : ¬ (2 : Int) = 0), (by decide : ¬ (2 : Int) = 4)⟩⟩, if_neg (show ¬ (rs2 x).rd = 0 from (by decide : ¬ (2 : Nat) = 0)), if_neg (show ¬ (rs2 x).rd = 1 from (by decide : ¬ (2 : Nat) = 1)), if_pos (show (rs2 x).rd = 2 from rfl)]
    show cu (_, alE x.outs) = _
    rw [dk (by have := h.ao.n0; omega) (by have := h.ao.n1; omega) fun q hq => jr (h.ao.nm q hq) (h.ao.nw q hq)]; rfl
  have l3 : fN (rs3 x) (Lib.join (kwd 3 :: qs x.m.nx.length) [32]) = (rs4 x, 0) := by
    rw [gu (i := 3) (by decide) rfl (fun y hy => by
      obtain ⟨j, hj, rfl⟩ := jV.1 hy
      rw [ca] at hj
      rw [cw hj]; exact dz (by omega)), dw (r := rs3 x) (w := kwd 3 :: qs x.m.nx.length) ⟨rfl, .inl ⟨(by decide : ¬ (3 : Int) = 0), (by decide : ¬ (3 : Int) = 4)⟩⟩, if_neg (show ¬ (rs3 x).rd = 0 from (by decide : ¬ (3 : Nat) = 0)), if_neg (show ¬ (rs3 x).rd = 1 from (by decide : ¬ (3 : Nat) = 1)), if_neg (show ¬ (rs3 x).rd = 2 from (by decide : ¬ (3 : Nat) = 2)), if_pos (show (rs3 x).rd = 3 from rfl)]
    show cu (jc (rs3 x) (qs x.m.nx.length)) = _
    unfold jc
    rw [if_pos (sr hn1 hn2)]; rfl
  have l4 : fN (rs4 x) (Lib.join [kwd 4, qn x.m.st.toNat] [32]) = (stD x [], 0) := by
    rw [gu (i := 4) (by decide) rfl (fun y hy => by rw [List.mem_singleton.1 hy]; exact dz (by omega)), dw (r := rs4 x) (w := [kwd 4, qn x.m.st.toNat]) ⟨rfl, .inr rfl⟩, if_neg (show ¬ (rs4 x).rd = 0 from (by decide : ¬ (4 : Nat) = 0)), if_neg (show ¬ (rs4 x).rd = 1 from (by decide : ¬ (4 : Nat) = 1)), if_neg (show ¬ (rs4 x).rd = 2 from (by decide : ¬ (4 : Nat) = 2)), if_neg (show ¬ (rs4 x).rd = 3 from (by decide : ¬ (4 : Nat) = 3))]
    have hix : ixB (qs x.m.nx.length) (qn x.m.st.toNat) = x.m.st := by unfold ixB; rw [if_pos (nq hsn), nB hn2 hsn]; omega
    show cu ({ rs4 x with st := ixB (qs x.m.nx.length) (qn x.m.st.toNat) }, if ixB (qs x.m.nx.length) (qn x.m.st.toNat) < 0 then (8 : Int) else 0) = _
    rw [hix, if_neg (by omega)]
    unfold cu stD
    rw [o3, o3]
    simp only [Prod.mk.injEq, and_true]
    unfold rs4 gY
    simp only [RS.mk.injEq, ca, am, Nat.add_zero, true_and, and_true]
    refine ⟨rfl, rfl, rfl, rfl, rfl, rfl, ?_⟩
    show ((x.m.nx.length : Int) * x.ins.length) = (x.m.nx.length : Int) * x.ins.length - ((0 : Nat) : Int)
    omega
  rw [fg l0, fg l1, fg l2, fg l3, fg l4]
theorem mP {n k : Nat} {m : List (List Int)} {done : List (Nat × Nat)} (hl : m.length = n) (hr : ∀ s, s < n → (m.getD s []).length = k) (hd : ∀ s a, s < n → a < k → (s, a) ∈ done) : nxD n k done m = m := by
  apply List.ext_getElem?
  intro s
  unfold nxD
  rw [List.getElem?_map]
  rcases Nat.lt_or_ge s n with hs | hs
  · rw [List.getElem?_range hs, Option.map_some, List.getElem?_eq_getElem (by omega)]
    congr 1
    have e : m.getD s [] = m[s] := by simp [List.getD, List.getElem?_eq_getElem (show s < m.length by omega)]
    have hk := hr s hs
    rw [e] at hk ⊢
    apply List.ext_getElem?
    intro a
    rw [List.getElem?_map]
    rcases Nat.lt_or_ge a k with ha | ha
    · rw [List.getElem?_range ha, Option.map_some, if_pos (hd s a hs ha), List.getElem?_eq_getElem (by omega)]
      simp [List.getD, List.getElem?_eq_getElem (show a < m[s].length by omega)]
    · rw [List.getElem?_eq_none (by rw [List.length_range]; exact ha), List.getElem?_eq_none (by omega)]; rfl
  · rw [List.getElem?_eq_none (by rw [List.length_range]; exact hs), List.getElem?_eq_none (by omega)]; rfl
theorem su {x : Mdl} (h : MVO x) {ps : List (Nat × Nat)} (hn : ps.Nodup) (hp : ∀ s a, (s, a) ∈ ps ↔ s < x.m.nx.length ∧ a < x.ins.length) (hl : ps.length = x.m.nx.length * x.ins.length)
    (hno : ∀ l, l ∈ hdT x ++ ps.map (fun p => eM x p.1 p.2) → (10 : UInt8) ∉ l) (hs : ¬ 1048576 < (bK (hdT x ++ ps.map fun p => eM x p.1 p.2)).length) : PM (bK (hdT x ++ ps.map fun p => eM x p.1 p.2)) = (x, 0, 0) := by
  have hm := h.mo
  have hil := h.il
  rw [rQ hno hs, rp h, mm h (fun p hq => (hp p.1 p.2).1 hq) (by simpa using hn), ar]
  unfold mI
  have hlf : (stD x ps).lf = 0 := by
    show (x.m.nx.length : Int) * x.ins.length - ((ps.length : Nat) : Int) = 0
    rw [hl, Int.natCast_mul]; omega
  rw [if_neg (by rw [hlf]; show ¬ (5 + ps.length < 5 ∨ (0 : Int) < 0); omega)]
  have e1 := mP (n := x.m.nx.length) (k := x.ins.length) (m := x.m.nx) (done := ps) rfl (fun s hs => by have := hm.rl s hs; omega) (fun s a hs ha => (hp s a).2 ⟨hs, ha⟩)
  have e2 := mP (n := x.m.nx.length) (k := x.ins.length) (m := x.m.ot) (done := ps) hm.ol (fun s hs => by have := hm.ql s hs; omega) (fun s a hs ha => (hp s a).2 ⟨hs, ha⟩)
  unfold tk stD
  simp only [e1, e2]
  obtain ⟨nm, ins, outs, ⟨inp, st, nx, ot⟩⟩ := x
  have : inp = (ins.length : Int) := hil
  subst this; rfl
/-plain-/
def prs (k : Nat) : Nat → List (Nat × Nat)
  | 0 => []
  | n + 1 => prs k n ++ (List.range k).map fun a => (n, a)
theorem j2 {k : Nat} : ∀ {n : Nat} {s a : Nat}, (s, a) ∈ prs k n ↔ s < n ∧ a < k
  | 0, s, a => by simp [prs]
  | n + 1, s, a => by
    rw [prs, List.mem_append, j2, List.mem_map]
    constructor
    · rintro (h | ⟨b, hb, e⟩)
      · omega
      · have := List.mem_range.1 hb
        simp only [Prod.mk.injEq] at e; omega
    · rintro ⟨h1, h2⟩
      by_cases e : s = n
      · exact .inr ⟨a, List.mem_range.2 h2, by rw [e]⟩
      · exact .inl (by omega)
theorem lB {k : Nat} : ∀ n : Nat, (prs k n).Nodup
  | 0 => List.nodup_nil
  | n + 1 => by
    rw [prs, List.nodup_append]
    refine ⟨lB n, ?_, fun p hp q hq e => ?_⟩
    · unfold List.Nodup
      rw [List.pairwise_map]
      exact List.nodup_range.imp fun h e => h (Prod.mk.inj e).2
    · subst e
      obtain ⟨s, a⟩ := p
      have h1 := j2.1 hp
      obtain ⟨b, _, e⟩ := List.mem_map.1 hq
      simp only [Prod.mk.injEq] at e
      omega
theorem om {k : Nat} : ∀ n : Nat, (prs k n).length = n * k
  | 0 => by simp [prs]
  | n + 1 => by rw [prs, ag, om n, bV, List.length_range, Nat.add_mul, Nat.one_mul]
theorem mZ {x : Mdl} (h : MVO x) : ∀ {n : Nat}, n ≤ x.m.nx.length → cC x n = (prs x.ins.length n).map fun p => eM x p.1 p.2
  | 0, _ => rfl
  | n + 1, hn => by
    have hr := h.mo.rl n (by omega)
    have hil := h.il
    rw [fC, mZ h (by omega), prs, List.map_append, List.map_map]
    congr 1
    unfold cQ
    rw [show (x.m.nx.getD n []).length = x.ins.length by omega]; rfl
theorem dH {ws : List Bs} (h : ∀ y, y ∈ ws → aY y = true) : (10 : UInt8) ∉ Lib.join ws [32] := by
  induction ws with
  | nil => simp [Lib.join_nil]
  | cons w ws ih =>
    cases ws with
    | nil => rw [Lib.join_one]; exact lw (h w (by simp))
    | cons v ws =>
      rw [cH]
      have := ih fun y hy => h y (aF _ hy)
      simp only [List.mem_append, List.mem_singleton, not_or]
      exact ⟨⟨lw (h w (by simp)), by decide⟩, this⟩
theorem qO {x : Mdl} (h : MVO x) {s a : Nat} (hs : s < x.m.nx.length) (ha : a < x.ins.length) : (10 : UInt8) ∉ eM x s a := by
  have hm := h.mo
  have hn2 := hm.n2
  have hil := h.il
  have hr := hm.nr s a hs (by omega)
  have ho := hm.or s a hs (by omega)
  have ho2 := h.ol s a hs (by omega)
  rw [fq]
  refine dH fun y hy => ?_
  simp only [List.mem_cons, List.not_mem_nil, or_false] at hy
  rcases hy with rfl | rfl | rfl | rfl
  · exact dz (by omega)
  · exact h.ai.nm a ha
  · exact h.ao.nm _ (by omega)
  · exact dz (by omega)
theorem sJ {x : Mdl} (h : MVO x) (l : Bs) (hl : l ∈ hdT x) : (10 : UInt8) ∉ l := by
  have hm := h.mo
  have hn2 := hm.n2
  have hs2 := hm.s2
  have hs1 := hm.s1
  rw [gF h] at hl
  simp only [List.mem_cons, List.not_mem_nil, or_false] at hl
  have hk := fun i hi => mG i hi
  rcases hl with rfl | rfl | rfl | rfl | rfl
  · exact dH fun y hy => by simp only [List.mem_cons, List.not_mem_nil, or_false] at hy; rcases hy with rfl | rfl; exact hk 0 (by decide); exact h.nm
  · exact dH fun y hy => by rcases List.mem_cons.1 hy with rfl | hy; exact hk 1 (by decide); exact kF h.ai hy
  · exact dH fun y hy => by rcases List.mem_cons.1 hy with rfl | hy; exact hk 2 (by decide); exact kF h.ao hy
  · exact dH fun y hy => by
      rcases List.mem_cons.1 hy with rfl | hy
      · exact hk 3 (by decide)
      · obtain ⟨j, hj, rfl⟩ := jV.1 hy
        rw [ca] at hj
        rw [cw hj]; exact dz (by omega)
  · exact dH fun y hy => by simp only [List.mem_cons, List.not_mem_nil, or_false] at hy; rcases hy with rfl | rfl; exact hk 4 (by decide); exact dz (by omega)
theorem sW {x : Mdl} (h : mvE x = 0) : SM x = bK (hdT x ++ (prs x.ins.length x.m.nx.length).map fun p => eM x p.1 p.2) := by
  rw [jv h, mZ (ja h) (Nat.le_refl _)]
  exact gy
theorem rV {x : Mdl} (h : mvE x = 0) : (SM x).length ≤ 700001 := by
  rw [jv h, ag]; have := qz (ja h); simp only [ah, am]; omega
theorem t8 {x : Mdl} (h : mvE x = 0) : PM (SM x) = (x, 0, 0) := by
  have hv := ja h
  have hz := rV h
  rw [sW h] at hz ⊢
  refine su hv (lB _) (fun s a => j2) (om _) (fun l hl => ?_) (by omega)
  rcases List.mem_append.1 hl with hl | hl
  · exact sJ hv l hl
  · obtain ⟨p, hp, rfl⟩ := List.mem_map.1 hl
    have := j2.1 (show (p.1, p.2) ∈ _ from hp)
    exact qO hv this.1 this.2
def nS (x y : Mdl) : Bool := decide (x.nm = y.nm) && decide (x.ins = y.ins) && decide (x.outs = y.outs) && jb x.m y.m
theorem pM {x y : Mdl} : nS x y = true ↔ x = y := by
  obtain ⟨a, b, c, ⟨d, e, f, g⟩⟩ := x
  obtain ⟨a', b', c', ⟨d', e', f', g'⟩⟩ := y
  unfold nS jb
  simp only [Bool.and_eq_true, decide_eq_true_eq, Mdl.mk.injEq, Mly.mk.injEq]
  constructor
  · rintro ⟨⟨⟨h1, h2⟩, h3⟩, ⟨⟨⟨h4, h5⟩, h6⟩, h7⟩⟩; exact ⟨h1, h2, h3, h4, h5, h6, h7⟩
  · rintro ⟨h1, h2, h3, h4, h5, h6, h7⟩; exact ⟨⟨⟨h1, h2⟩, h3⟩, ⟨⟨⟨h4, h5⟩, h6⟩, h7⟩⟩
theorem oX (x : Mdl) : nS x x = true := pM.2 rfl
theorem pf {x : Mdl} (h : hQ x = false) : x.m.nx.length ≤ 12 := by
  unfold hQ at h
  simp only [Bool.or_eq_false_iff, decide_eq_false_iff_not] at h
  omega
/-plain-/
def dU : Mdl := ⟨[103, 97, 116, 101], [[99, 111, 105, 110], [112, 117, 115, 104]], [[110, 111], [111, 107], [116, 117, 114, 110]], ⟨2, 0, [[1, 0], [1, 0]], [[1, 0], [1, 2]]⟩⟩
@[reducible] def gtx : Bs := [109, 97, 99, 104, 105, 110, 101, 32, 103, 97, 116, 101, 10, 105, 110, 112, 117, 116, 115, 32, 99, 111, 105, 110, 32, 112, 117, 115, 104, 10, 111, 117, 116, 112, 117, 116, 115, 32, 110, 111, 32, 111, 107, 32, 116, 117, 114, 110, 10, 115, 116, 97, 116, 101, 115, 32, 113, 48, 32, 113, 49, 10, 115, 116, 97, 114, 116, 32, 113, 48, 10, 113, 48, 32, 99, 111, 105, 110, 32, 111, 107, 32, 113, 49, 10, 113, 48, 32, 112, 117, 115, 104, 32, 110, 111, 32, 113, 48, 10, 113, 49, 32, 99, 111, 105, 110, 32, 111, 107, 32, 113, 49, 10]
@[reducible] def gtA : Bs := gtx ++ [113, 49, 32, 112, 117, 115, 104, 32, 116, 117, 114, 110, 32, 113, 48, 10]
@[reducible] def gtB : Bs := gtx ++ [113, 49, 32, 112, 117, 115, 104, 32, 116, 117, 114, 110, 32, 113, 50, 10]
@[reducible] def gtC : Bs := gtx ++ [113, 49, 32, 99, 111, 105, 110, 32, 116, 117, 114, 110, 32, 113, 48, 10]
theorem nK : mvE dU = 0 := by
  refine f0 (by decide +kernel) (by decide +kernel) (by decide +kernel) (by decide +kernel) ⟨rfl, ?_⟩
  rw [gd (by decide +kernel), ← rh]
  decide +kernel
theorem qy : SM dU = gtA := by rw [jv nK]; decide +kernel
theorem tv : PM gtA = (dU, 0, 0) := by rw [← qy]; exact t8 nK
theorem qr : (PM gtx).2 = (9, 12) := by decide +kernel
theorem qf : (PM gtB).2 = (9, 8) := by decide +kernel
theorem qc : (PM gtC).2 = (9, 7) := by decide +kernel
theorem qB : (PM []).2 = (1, 12) := by decide +kernel
/-plain-/
def dB (P : Program) (X : Nat → Prop) (W : World) : Ctx := { P := P, X := X, keep := fun _ => False, w0 := W, N := 0, bL := [], bσ := fun _ => undef, bw := W }
def kd (P : Program) (X : Nat → Prop) (L : List AO) (σ : Sig) (W : World) : Prop := INV (dB P X W) L σ W
structure KEPT (X : Nat → Prop) (W W' : World) : Prop where
  size : W.heap.size ≤ W'.heap.size
  same : ∀ b, X b → W'.heap[b]? = W.heap[b]?
  os : W'.os = W.os
  tape : W'.tape = W.tape
  output : W'.output = W.output
theorem pE {P : Program} {X : Nat → Prop} {L : List AO} {σ : Sig} {W : World} {f : FuncId} {args : List AV} {out : Out} {vs : List Value} (h : dW P L f args out) (hH : kd P X L σ W) (ha : aQ (RV (dB P X W) L σ W) args vs) :
    Calls P f vs.toArray W fun e W' => ∃ v σ', e = .returned v ∧ kd P X (app L out) σ' W' ∧ RV (dB P X W') (app L out) σ' W' out.av v ∧ KEPT X W W' ∧ ∀ c u, RC (dB P X W) L σ W c u → RC (dB P X W') (app L out) σ' W' c u := by
  let C2 : Ctx := { P := P, X := X, keep := fun b => b < W.heap.size ∧ ¬ ∃ o, own L σ o b, w0 := W, N := 0, bL := [], bσ := fun _ => undef, bw := W }
  have hX : C2.X = (dB P X W).X := rfl
  have hP : C2.P = (dB P X W).P := rfl
  have hI : INV C2 L σ W := ⟨fun o ob e => by rw [kG hX hP]; exact hH.ob o ob e, hH.inj, fun o b ho => ⟨fun hk => hk.2 ⟨o, ho⟩, (hH.off o b ho).2⟩, fun b hb => ⟨hb.1, rfl⟩, fun b hb => hH.xlt b hb, Nat.le_refl _, rfl, rfl, rfl⟩
  refine (h.2 C2 L σ W vs rfl hI (by rw [kC hX]; exact ha) (fun _ _ => rfl) rfl).mono fun e W' hh => ?_
  obtain ⟨v, he, σ', g1, g2, g3⟩ := hh
  have hX2 : C2.X = (dB P X W').X := rfl
  have hP2 : C2.P = (dB P X W').P := rfl
  refine ⟨v, σ', he, ⟨fun o ob e => by rw [← kG hX2 hP2]; exact g1.ob o ob e, g1.inj, fun o b ho => ⟨fun hk => hk, (g1.off o b ho).2⟩, fun b hb => hb.elim, fun b hb => Nat.lt_of_lt_of_le (hH.xlt b hb) g1.size, Nat.le_refl _, rfl, rfl, rfl⟩, by rw [← kC hX2]; exact g2,
    ⟨g1.size, fun b hb => ?_, g1.os, g1.tape, g1.output⟩, fun c u hc => ?_⟩
  · exact (g1.kept b ⟨hH.xlt b hb, fun ⟨o, ho⟩ => (hH.off o b ho).2 hb⟩).2
  · rw [← gG hX2]; exact g3 c u (by rw [gG hX]; exact hc)
section
variable {C C' : Ctx} {L : List AO} {σ : Sig} {W W' : World}
theorem jA (hs : W.heap.size ≤ W'.heap.size) (hk : ∀ b, b < W.heap.size → ¬ avd C L σ b → W'.heap[b]? = W.heap[b]?) (hav : ∀ b, b < W.heap.size → avd C' L σ b → avd C L σ b) {t : Ty} {d : t.den} {off : Nat} {v : Value} (h : ff C L σ W t d off v) : ff C' L σ W' t d off v := by
  obtain ⟨b, o, cs, e, h1, h2, h3, h4⟩ := h
  exact ⟨b, o, cs, e, fun h => h1 (hav b h2 h), Nat.lt_of_lt_of_le h2 hs, fun j hj => by rw [← h3 j hj]; exact World.cell?_of_block (hk b h2 h1), h4.keep hs hk hav⟩
theorem pd (hs : W.heap.size ≤ W'.heap.size) (hk : ∀ b, b < W.heap.size → ¬ avd C L σ b → W'.heap[b]? = W.heap[b]?) (hav : ∀ b, b < W.heap.size → avd C' L σ b → avd C L σ b) {f : FuncId} {ds : List ((t : Ty) × t.den)} {v : Value} (h : RFN C L σ W f ds v) : RFN C' L σ W' f ds v := by
  obtain ⟨b, o, vs, e, h1, h2, h3, h4⟩ := h
  exact ⟨b, o, vs, e, fun h => h1 (hav b h2 h), Nat.lt_of_lt_of_le h2 hs, by rw [← h3]; exact World.cell?_of_block (hk b h2 h1), h4.mono fun p u hp => ⟨hp.1, jA hs hk hav hp.2⟩⟩
theorem tT (hs : W.heap.size ≤ W'.heap.size) (hk : ∀ b, b < W.heap.size → ¬ avd C L σ b → W'.heap[b]? = W.heap[b]?) (hav : ∀ b, b < W.heap.size → avd C' L σ b → avd C L σ b) {c : AC} {v : Value} (h : RC C L σ W c v) : RC C' L σ W' c v := by
  refine ⟨h.1, ?_⟩
  have h2 := h.2
  cases c with
  | list t xs => exact h2.keep hs hk hav
  | pat t d off => exact jA hs hk hav h2
  | pfn f ds => exact pd hs hk hav h2
  | fn f caps =>
    obtain ⟨vs, e, ha⟩ := h2
    refine ⟨vs, e, ha.mono fun p u hp => ?_⟩
    cases p with
    | ref o => exact hp
    | pat t d => exact ⟨hp.1, jA hs hk hav hp.2⟩
    | pfn f ds => exact ⟨hp.1, pd hs hk hav hp.2⟩
  | _ => exact h2
theorem oG {base : Nat} {e : TypeId} {sz : Nat} {v : Value} {n : Nat} {flat : List Value} (h : W.ownsRow base e sz v n flat) (hb : ∀ b, blk v = some b → W'.heap[b]? = W.heap[b]?) : W'.ownsRow base e sz v n flat := by
  refine ⟨h.1, ?_⟩
  rcases h.2 with h2 | ⟨g, cap, cur, e1, e2, e3, e4⟩
  · exact .inl h2
  · exact .inr ⟨g, cap, cur, e1, e2, by rw [hb g (by rw [e1]; rfl)]; exact e3, e4⟩
end
theorem rO {P : Program} {X X' : Nat → Prop} {L : List AO} {σ : Sig} {W W' : World} (hH : kd P X L σ W) (hs : W.heap.size ≤ W'.heap.size) (hk : ∀ b, b < W.heap.size → ¬ X b → W'.heap[b]? = W.heap[b]?)
    (hX : ∀ b, X' b → b < W.heap.size → X b) (hX2 : ∀ b, X' b → b < W'.heap.size) :
    kd P X' L σ W' ∧ ∀ c u, RC (dB P X W) L σ W c u → RC (dB P X' W') L σ W' c u := by
  have hk2 : ∀ b, b < W.heap.size → ¬ avd (dB P X W) L σ b → W'.heap[b]? = W.heap[b]? := fun b hb ha => hk b hb fun hx => ha (.inl hx)
  have hav : ∀ b, b < W.heap.size → avd (dB P X' W') L σ b → avd (dB P X W) L σ b := fun b hb ha => by
    rcases ha with ha | ha
    · exact .inl (hX b ha hb)
    · exact .inr ha
  have hrc : ∀ c u, RC (dB P X W) L σ W c u → RC (dB P X' W') L σ W' c u := fun c u h => tT hs hk2 hav h
  have hown : ∀ o b, own L σ o b → b < W.heap.size ∧ ¬ X b := fun o b ho => ⟨eJ hH ho, (hH.off o b ho).2⟩
  refine ⟨⟨fun o ob e => ?_, hH.inj, fun o b ho => ⟨fun h => h, fun hx => (hown o b ho).2 (hX b hx (hown o b ho).1)⟩, fun b hb => hb.elim, hX2, Nat.le_refl _, rfl, rfl, rfl⟩, hrc⟩
  have h1 := hH.ob o ob e
  have hsame : ∀ b, ob.live = true → blk (σ o) = some b → W'.heap[b]? = W.heap[b]? := fun b hl hb => by
    obtain ⟨q1, q2⟩ := hown o b ⟨ob, e, hl, hb⟩
    exact hk b q1 q2
  cases ob with
  | dead _ => trivial
  | vars T cs => obtain ⟨b, vs, e1, e2, e3⟩ := h1; exact ⟨b, vs, e1, (hsame b rfl (by rw [e1]; rfl)).trans e2, e3.mono fun c u hc => hrc c u hc⟩
  | row t e v xs => obtain ⟨flat, h2, h0, h3⟩ := h1; exact ⟨flat, oG h2 fun b hb => hsame b rfl hb, h0, fun i hi => (h3 i hi).keep hs hk2 hav⟩
  | mp T vk es => obtain ⟨b, ents, clock, e1, e2, e3⟩ := h1; exact ⟨b, ents, clock, e1, (hsame b rfl (by rw [e1]; rfl)).trans e2, e3⟩
  | itr s pos => obtain ⟨b, e1, e2⟩ := h1; exact ⟨b, e1, (hsame b rfl (by rw [e1]; rfl)).trans e2⟩
  | rowc e sz v cs => obtain ⟨flat, m, h2, h0, hl0, h3⟩ := h1; exact ⟨flat, m, oG h2 fun b hb => hsame b rfl hb, h0, hl0, h3.mono fun c u hc => hrc c u hc⟩
theorem rG {P : Program} {X : Nat → Prop} {L : List AO} {σ : Sig} {W : World} {k v : Nat} {I : TypeId} {xs : List Int} (hH : kd P X L σ W) (hk : L[k]? = some (.row (.int .i64) I v xs)) {av : Nat → Prop} (hav : ∀ o b, own L σ o b → ¬ av b) :
    Dat av W (.list (.int .i64)) xs [σ k] := by
  obtain ⟨flat, h8, h9, h10⟩ := hH.ob k _ hk
  rcases h8.2 with ⟨e1, e2⟩ | ⟨g, cap, cur, e1, _, e3, e4, e5, e6, e7⟩
  · rw [e1]
    have : xs = [] := List.eq_nil_of_length_eq_zero e2
    subst this
    exact bM _
  · rw [e1]
    refine ⟨some ⟨g, 0, none⟩, cap, rfl, e4, ⟨e5, fun h => by cases h⟩, fun _ => ⟨g, 0, rfl, hav k g ⟨_, hk, rfl, by rw [e1]; rfl⟩, (Array.getElem?_eq_some_iff.1 e3).1, fun i hi => ⟨_, (h10 i hi).length, fun j hj => ?_, (h10 i hi : Dat _ _ (.int .i64) _ _)⟩⟩⟩
    have hm : (i + 1) * (Ty.int IntKind.i64).size ≤ xs.length * (Ty.int IntKind.i64).size := Nat.mul_le_mul_right _ hi
    rw [Nat.add_mul, Nat.one_mul] at hm
    rw [bo e3, List.getElem?_take_of_lt hj, List.getElem?_drop, ← e7, List.getElem?_take_of_lt (by omega)]
    simp
theorem mL {P : Program} {X : Nat → Prop} {L : List AO} {σ : Sig} {W : World} {k b : Nat} {S I : TypeId} {xs : List (List Int)} (hH : kd P X L σ W) (hk : L[k]? = some (.rowc S 1 0 (ck b xs.length)))
    (hr : ∀ i, i < xs.length → L[b + i]? = some (.row (.int .i64) I 0 (xs.getD i []))) {av : Nat → Prop} (hav : ∀ o b, own L σ o b → ¬ av b) :
    Dat av W (.list (.list (.int .i64))) xs [σ k] := by
  obtain ⟨flat, n, h8, h9, hl, h10⟩ := hH.ob k _ hk
  have hn : n = xs.length := by rw [cE] at hl; omega
  subst hn
  rcases h8.2 with ⟨e1, e2⟩ | ⟨g, cap, cur, e1, _, e3, e4, e5, e6, e7⟩
  · rw [e1]
    have : xs = [] := List.eq_nil_of_length_eq_zero e2
    subst this
    exact bM _
  · rw [e1]
    refine ⟨some ⟨g, 0, none⟩, cap, rfl, e4, ⟨e5, fun h => by cases h⟩, fun _ => ⟨g, 0, rfl, hav k g ⟨_, hk, rfl, by rw [e1]; rfl⟩, (Array.getElem?_eq_some_iff.1 e3).1, fun i hi => ⟨[σ (b + i)], rfl, fun j hj => ?_, rG hH (hr i hi) hav⟩⟩⟩
    have hj0 : j = 0 := by have : (Ty.list (.int .i64)).size = 1 := rfl; omega
    subst hj0
    have hc : (ck b xs.length)[i]? = some (.row (b + i) 0) := by unfold ck; simp [hi]
    obtain ⟨u, hu, hcu⟩ := h10.at_ hc
    obtain ⟨_, ob, q1, q2, q3⟩ := hcu
    rw [hr i hi] at q1; cases q1
    obtain ⟨_, q4⟩ := q3 rfl rfl
    rw [bo e3, ← q4]
    rw [show (Ty.list (.int .i64)).size = 1 from rfl, Nat.mul_one, Nat.add_zero, Nat.zero_add]
    rw [← e7, Nat.mul_one, List.getElem?_take_of_lt hi] at hu
    simpa using hu
/-plain-/
def hF (h : PP → PP) (l : List W3) : List PP := l.map fun e => h e.1
structure HOM (A B : STP) (n : Nat) (I : PP → Prop) (h : PP → PP) : Prop where
  cl : ∀ p, I p → ∀ x, x < n → I (A p x)
  eq : ∀ p, I p → ∀ x, x < n → B (h p) x = h (A p x)
/-plain-/
theorem ri {P : List Bs} {k : Nat} {r : Bs} {c : UInt8} (h : spB c r = P.drop k) (hk : k + 1 = P.length) : r = P.getD k [] ∧ P.take k ++ [r] = P := by
  have h1 := List.drop_eq_getElem_cons (l := P) (i := k) (by omega)
  have h2 : P.drop (k + 1) = [] := List.drop_eq_nil_of_le (by omega)
  rw [h2] at h1
  rw [h1] at h
  have hl : (spB c r).length = 1 := by rw [h]; rfl
  have hn : c ∉ r := by
    rcases (show Lib.indexByte r c < 0 ∨ 0 ≤ Lib.indexByte r c by omega) with q | q
    · exact nC q
    · have := qa q
      rw [this] at hl
      have := m0 c (r.drop ((Lib.indexByte r c).toNat + 1))
      simp only [ah] at hl
      omega
  rw [kz hn] at h
  have e : r = P[k] := by simpa using h
  refine ⟨by rw [e]; simp [List.getD, List.getElem?_eq_getElem (show k < P.length by omega)], ?_⟩
  rw [e]
  have h3 := List.take_append_drop k P
  rw [h1] at h3
  exact h3
theorem pO {P : List Bs} {k : Nat} {r : Bs} {c : UInt8} (h : spB c r = P.drop k) (hk : k + 1 < P.length) : 0 ≤ Lib.indexByte r c ∧ r.take (Lib.indexByte r c).toNat = P.getD k [] ∧ spB c (r.drop ((Lib.indexByte r c).toNat + 1)) = P.drop (k + 1) ∧ (Lib.indexByte r c).toNat < r.length := by
  have h1 := List.drop_eq_getElem_cons (l := P) (i := k) (by omega)
  rcases (show Lib.indexByte r c < 0 ∨ 0 ≤ Lib.indexByte r c by omega) with q | q
  · rw [kz (nC q)] at h
    have := congrArg List.length h
    rw [List.length_drop] at this
    simp only [ah, am] at this
    omega
  · rw [qa q, h1] at h
    obtain ⟨e1, e2⟩ := List.cons.inj h
    exact ⟨q, by rw [e1]; simp [List.getD, List.getElem?_eq_getElem (show k < P.length by omega)], e2, (ge q).1⟩
def pcs (P : List Bs) (k : Nat) : List Bs := P.take k ++ List.replicate (P.length - k) []
theorem pa {P : List Bs} {k : Nat} (h : k < P.length) {r : Bs} (e : r = P.getD k []) : (pcs P k).set k r = pcs P (k + 1) := by
  unfold pcs
  rw [List.set_append]
  have hl : (P.take k).length = k := by rw [List.length_take]; omega
  rw [hl, if_neg (by omega), Nat.sub_self, show P.length - k = (P.length - (k + 1)) + 1 by omega, List.replicate_succ, bJ, e, show P.getD k [] = P[k] by simp [List.getD, List.getElem?_eq_getElem h]]
  have e2 : P.take (k + 1) = P.take k ++ [P[k]] := by rw [List.take_add_one, List.getElem?_eq_getElem h]; rfl
  rw [e2, List.append_assoc]; rfl
theorem m5 {P : List Bs} {k : Nat} (h : k ≤ P.length) : (pcs P k).length = P.length := by unfold pcs; rw [ag, List.length_take, aI]; omega
theorem rX (P : List Bs) : pcs P P.length = P := by unfold pcs; simp
/-plain-/
theorem uz {xs : List Bs} {k : Nat} (hk : k < xs.length) (h : idA xs (xs.getD k []) < (k : Int)) : xs.getD k [] ∈ xs.take k := by
  have hm := cG hk
  unfold idA at h
  rw [if_pos hm] at h
  rw [jV]
  refine ⟨pos xs (xs.getD k []), by rw [List.length_take]; omega, ?_⟩
  rw [fL (by omega)]
  exact lg hm
theorem uF {xs : List Bs} {k : Nat} (hk : k < xs.length) (h : ¬ idA xs (xs.getD k []) < (k : Int)) : xs.getD k [] ∉ xs.take k := by
  intro hin
  have hm := cG hk
  unfold idA at h
  rw [if_pos hm] at h
  obtain ⟨j, hj, e⟩ := jV.1 hin
  rw [List.length_take] at hj
  rw [fL (by omega)] at e
  have := ll (q := xs.getD k []) (l := xs) (k := j) (by omega)
  exact this e
/-plain-/
def DIG : Bs := [48, 49, 50, 51, 52, 53, 54, 55, 56, 57]
theorem m8 : ∀ n : Nat, n < 10 → (DIG.take (n + 1)).drop n = Lib.decDigits n := by decide +kernel
theorem pg : ∀ n : Nat, n < 100 → ¬ n < 10 → Lib.decDigits (n / 10) ++ (DIG.take (n % 10 + 1)).drop (n % 10) = Lib.decDigits n := by decide +kernel
theorem kS (n : Nat) : Int.tdiv (n : Int) 10 = ((n / 10 : Nat) : Int) := rfl
theorem m7 (n : Nat) : Int.tmod (n : Int) 10 = ((n % 10 : Nat) : Int) := rfl
theorem j4 (n : Nat) : ((n : Int) + 1).toNat = n + 1 := by omega
theorem nM {a b : List Bs} (h : a.length = b.length) (hq : ∀ q, q < a.length → a.getD q [] = b.getD q []) : a = b := by
  refine List.ext_getElem h fun i h1 h2 => ?_
  have := hq i h1
  simpa [List.getD, h1, h2] using this
theorem um {xs : List Bs} {k : Nat} (h : k < xs.length) (h2 : k < 71) (h3 : 100 < (xs.getD k []).length) : grB xs = true := by
  unfold grB
  rw [Bool.or_eq_true]
  exact .inl (List.any_eq_true.2 ⟨k, List.mem_range.2 (by omega), by simpa using h3⟩)
theorem uh {xs : List Bs} {k : Nat} (h : ¬ (k < xs.length ∧ k < 71)) (hq : ∀ q, q < k → (xs.getD q []).length ≤ 100) : grB xs = decide (70 < (xs.length : Int)) := by
  unfold grB
  have : (List.range (min xs.length 71)).any (fun i => decide (100 < (xs.getD i []).length)) = false := by
    rw [List.any_eq_false]
    intro i hi
    have := List.mem_range.1 hi
    have := hq i (by omega)
    simp; exact this
  rw [this, Bool.false_or]
theorem sU {xs : List Bs} (h : grB xs = false) : xs.length ≤ 70 ∧ ∀ k, k < xs.length → (xs.getD k []).length ≤ 100 := by
  unfold grB at h
  rw [Bool.or_eq_false_iff, List.any_eq_false] at h
  obtain ⟨h1, h2⟩ := h
  simp only [decide_eq_false_iff_not] at h2
  refine ⟨by omega, fun k hk => ?_⟩
  have := h1 k (List.mem_range.2 (by omega))
  simp at this
  simpa [List.getD] using this
/-plain-/
theorem rq {x : Mdl} (h : hQ x = false) : x.nm.length ≤ 1048576 ∧ (∀ k, k < x.ins.length → (x.ins.getD k []).length ≤ 1048576) ∧ (∀ k, k < x.outs.length → (x.outs.getD k []).length ≤ 1048576) := by
  unfold hQ at h
  simp only [Bool.or_eq_false_iff, decide_eq_false_iff_not] at h
  obtain ⟨⟨⟨⟨⟨⟨_, _⟩, h1⟩, h2⟩, h3⟩, _⟩, _⟩ := h
  have g2 := (sU h2).2
  have g3 := (sU h3).2
  refine ⟨by omega, fun k hk => ?_, fun k hk => ?_⟩
  · have := g2 k hk; omega
  · have := g3 k hk; omega
/-plain-/
theorem ik (a b : List Bs) : bK (a ++ b) = bK a ++ bK b := by unfold bK; simp
theorem p5 (a : List Bs) (x : Bs) : bK (a ++ [x]) = bK a ++ x ++ [10] := by rw [ik]; unfold bK; simp
theorem nN {l : List Bs} {k : Nat} (h : k < l.length) : l.take (k + 1) = l.take k ++ [l.getD k []] := by rw [List.take_add_one, List.getElem?_eq_getElem h]; simp [List.getD, h]
theorem fF {B : Nat} : ∀ {l : List Bs}, (∀ y, y ∈ l → y.length ≤ B) → (bK l).length ≤ l.length * (B + 1)
  | [], _ => Nat.zero_le _
  | y :: l, h => by
    have h1 := h y (by simp)
    have h2 := fF (l := l) fun z hz => h z (aF _ hz)
    rw [eL, ag, ah, ah, Nat.add_mul, Nat.one_mul]; omega
theorem nL {l : List Bs} (h : l ≠ []) : Lib.join l [10] ++ [10] = bK l := by
  cases l with
  | nil => exact absurd rfl h
  | cons a l => exact gy
/-plain-/
theorem i7 {m : Mly} (hv : b0 m = 0) {n : Int} (h : ∀ s a : Nat, s < m.nx.length → (a : Int) < m.inp → (m.ot.getD s []).getD a 0 < n) : mxL (cO m) < n := by
  have hp := qk hv
  have hin : mxL (cO m) ∈ cO m := by
    unfold mxL
    rcases o8 (cO m) ((cO m).getD 0 0) with e | e
    · rw [e]; exact eh hp
    · exact e
  obtain ⟨s, a, hs, ha, e⟩ := rm (gO hv) ((jq hv).1 hin)
  rw [← e]
  exact h s a hs ha
theorem uy {m : Mly} (hv : b0 m = 0) {s a : Nat} (hs : s < m.nx.length) (ha : (a : Int) < m.inp) : (m.ot.getD s []).getD a 0 ≤ mxL (cO m) := by
  have hm := gO hv
  have hol := hm.ol
  have hq := hm.ql s hs
  have hin : (m.ot.getD s []).getD a 0 ∈ m.ot.flatten := List.mem_flatten.2 ⟨m.ot.getD s [], by simp [List.getD, hol, hs], eh (by omega)⟩
  exact (iO _ _).2 _ ((jq hv).2 hin)
theorem oS {ws : List Bs} {k : Nat} (h : k < ws.length) : Lib.join (ws.take (k + 1)) [32] = (if k = 0 then [] else Lib.join (ws.take k) [32] ++ [32]) ++ ws.getD k [] := by
  rw [nN h]
  generalize hl : ws.take k = l
  have hk : l.length = k := by rw [← hl, List.length_take]; omega
  clear hl
  induction l generalizing k with
  | nil => simp only [am] at hk; subst hk; rw [if_pos rfl]; simp [Lib.join_one]
  | cons y l ih =>
    simp only [ah] at hk
    rw [if_neg (by omega)]
    have : ∀ {l : List Bs} {y z : Bs}, Lib.join (y :: l ++ [z]) [32] = Lib.join (y :: l) [32] ++ [32] ++ z := by
      intro l
      induction l with
      | nil => intro y z; rw [List.singleton_append, cH, Lib.join_one, Lib.join_one]
      | cons x l ih2 => intro y z; rw [ak, ak, cH, ← ak, ih2, cH]; simp only [List.append_assoc]
    exact this
theorem kT (ws : List Bs) : Lib.join (ws.take 0) [32] = [] := Lib.join_nil _
theorem l7 {ws : List Bs} (hl : ws.length ≤ 1000000) (hw : ∀ y, y ∈ ws → y.length ≤ 1000000) (k : Nat) : (Lib.join (ws.take k) [32]).length ≤ 1000001000000 := by
  have h1 := eB (sep := [32]) (l := ws.take k) (B := 1000000) fun y hy => hw y (List.mem_of_mem_take hy)
  have h2 : (ws.take k).length ≤ 1000000 := by rw [List.length_take]; omega
  have h3 : (ws.take k).length * (1000000 + [(32 : UInt8)].length) ≤ 1000000 * 1000001 := Nat.mul_le_mul h2 (Nat.le_refl _)
  omega
/-plain-/
theorem sD {x : Mdl} (h : MVO x) : bK (hdT x ++ cC x 0) = Lib.join [[109, 97, 99, 104, 105, 110, 101], x.nm] [32] ++ [10] ++ (Lib.join ([105, 110, 112, 117, 116, 115] :: x.ins) [32] ++ [10]) ++ (Lib.join ([111, 117, 116, 112, 117, 116, 115] :: x.outs) [32] ++ [10]) ++ (Lib.join ([115, 116, 97, 116, 101, 115] :: qs x.m.nx.length) [32] ++ [10]) ++ (Lib.join [[115, 116, 97, 114, 116], qn x.m.st.toNat] [32] ++ [10]) := by
  rw [show cC x 0 = [] from rfl, List.append_nil, gF h]
  unfold bK
  simp only [aT, bG, List.flatten_cons, List.flatten_nil, List.append_nil, List.append_assoc]
  rfl
theorem rR {x : Mdl} (h : MVO x) : (Lib.join [[109, 97, 99, 104, 105, 110, 101], x.nm] [32]).length ≤ 2121 ∧ (Lib.join ([105, 110, 112, 117, 116, 115] :: x.ins) [32]).length ≤ 2121 ∧ (Lib.join ([111, 117, 116, 112, 117, 116, 115] :: x.outs) [32]).length ≤ 2121 ∧ (Lib.join ([115, 116, 97, 116, 101, 115] :: qs x.m.nx.length) [32]).length ≤ 2121 ∧ (Lib.join [[115, 116, 97, 114, 116], qn x.m.st.toNat] [32]).length ≤ 2121 := by
  have hl := eF h
  rw [gF h] at hl
  refine ⟨hl _ ?_, hl _ ?_, hl _ ?_, hl _ ?_, hl _ ?_⟩
  · exact List.mem_cons.2 (.inl rfl)
  · exact List.mem_cons.2 (.inr (List.mem_cons.2 (.inl rfl)))
  · exact List.mem_cons.2 (.inr (List.mem_cons.2 (.inr (List.mem_cons.2 (.inl rfl)))))
  · exact List.mem_cons.2 (.inr (List.mem_cons.2 (.inr (List.mem_cons.2 (.inr (List.mem_cons.2 (.inl rfl)))))))
  · exact List.mem_cons.2 (.inr (List.mem_cons.2 (.inr (List.mem_cons.2 (.inr (List.mem_cons.2 (.inr (List.mem_cons.2 (.inl rfl)))))))))
theorem tR {x : Mdl} (h : MVO x) : (∀ y, y ∈ [[109, 97, 99, 104, 105, 110, 101], x.nm] → y.length ≤ 1000000) ∧ (∀ y, y ∈ ([105, 110, 112, 117, 116, 115] :: x.ins) → y.length ≤ 1000000) ∧ (∀ y, y ∈ ([111, 117, 116, 112, 117, 116, 115] :: x.outs) → y.length ≤ 1000000) ∧ (∀ y, y ∈ ([115, 116, 97, 116, 101, 115] :: qs x.m.nx.length) → y.length ≤ 1000000) ∧ (∀ y, y ∈ [[115, 116, 97, 114, 116], qn x.m.st.toNat] → y.length ≤ 1000000) := by
  have h1 := (cX h.nm).2.2
  have h2 := fY h.ai
  have h3 := fY h.ao
  have hn2 := h.mo.n2
  have hs2 := h.mo.s2
  have h5 := dK (n := x.m.st.toNat) (by omega)
  refine ⟨fun y hy => ?_, fun y hy => ?_, fun y hy => ?_, fun y hy => ?_, fun y hy => ?_⟩
  · simp only [List.mem_cons, List.not_mem_nil, or_false] at hy
    rcases hy with rfl | rfl
    · decide
    · omega
  · rcases List.mem_cons.1 hy with rfl | hy
    · decide
    · have := h2 y hy; omega
  · rcases List.mem_cons.1 hy with rfl | hy
    · decide
    · have := h3 y hy; omega
  · rcases List.mem_cons.1 hy with rfl | hy
    · decide
    · unfold qs at hy
      obtain ⟨i, hi, rfl⟩ := List.mem_map.1 hy
      have := List.mem_range.1 hi
      have := dK (n := i) (by omega)
      omega
  · simp only [List.mem_cons, List.not_mem_nil, or_false] at hy
    rcases hy with rfl | rfl
    · decide
    · omega
theorem rZ {x : Mdl} (h : MVO x) {s j : Nat} (hs : s < x.m.nx.length) (hj : (j : Int) < x.m.inp) : ∀ y, y ∈ [qn s, x.ins.getD j [], x.outs.getD ((x.m.ot.getD s []).getD j 0).toNat [], qn ((x.m.nx.getD s []).getD j 0).toNat] → y.length ≤ 1000000 := by
  intro y hy
  have h1 := ef h.ai j
  have h2 := ef h.ao ((x.m.ot.getD s []).getD j 0).toNat
  have hn2 := h.mo.n2
  have h3 := h.mo.nr s j hs hj
  have h4 := dK (n := s) (by omega)
  have h5 := dK (n := ((x.m.nx.getD s []).getD j 0).toNat) (by omega)
  simp only [List.mem_cons, List.not_mem_nil, or_false] at hy
  rcases hy with rfl | rfl | rfl | rfl <;> omega
theorem sj {x : Mdl} (h : MVO x) {s j : Nat} (hs : s < x.m.nx.length) (hj : j ≤ x.ins.length) : (bK (hdT x ++ cC x s ++ cQ x s j)).length ≤ 1000000 := by
  have h1 := fF (eF h)
  have h2 := fF (mS h (k := s) (by omega))
  have h3 := fl h (k := s) (by omega)
  have hil := h.il
  have hi1 := h.ai.n1
  have h4 := fF (B := 75) (l := cQ x s j) fun y hy => by
    unfold cQ at hy
    obtain ⟨a, ha, rfl⟩ := List.mem_map.1 hy
    have := List.mem_range.1 ha
    exact jf h hs (by omega)
  rw [ig] at h4
  rw [show (hdT x).length = 5 from rfl] at h1
  rw [ik, ik, ag, ag]
  omega
theorem mQ {x : Mdl} (h : mvE x = 0) : SM x = bK (hdT x ++ cC x x.m.nx.length) := by
  rw [jv h]; exact nL (by unfold hdT; simp)
theorem qZ {x : Mdl} {s j : Nat} : bK (hdT x ++ cC x s ++ cQ x s (j + 1)) = bK (hdT x ++ cC x s ++ cQ x s j) ++ (Lib.join [qn s, x.ins.getD j [], x.outs.getD ((x.m.ot.getD s []).getD j 0).toNat [], qn ((x.m.nx.getD s []).getD j 0).toNat] [32] ++ [10]) := by
  rw [ka, ← List.append_assoc, p5, fq, List.append_assoc]
end Go.AV
namespace Go.Proofs.YtmfkpljjhiglpaaGreatDoor
open Go Go.AV
open Nat renaming reduceEqDiff → M, reduceAdd → E, reduceLeDiff → O, reduceLT → Z, reduceMul → Y, reduceSub → V
open List renaming set_cons_zero → bJ, set_cons_succ → be, getD_cons_zero → cI, length_append → ag, map_cons → aT, cons_append → ak, map_nil → bG, length_cons → ah, nil_append → ar, take_succ_cons → cf, length_nil → am, length_map → bV, length_replicate → aI, take_length → aG, mem_cons_self → aS, mem_cons_of_mem → aF
open Int renaming toNat_natCast → aJ
theorem zT : type_of% (And.intro Tryz.ea105 (And.intro Tryz.ea51 (And.intro Tryz.el22 (And.intro Tryz.el25 (And.intro Tryz.el45 (And.intro Tryz.sa105 (And.intro Tryz.sa51 (And.intro Tryz.st24 (And.intro Tryz.st27 (And.intro Tryz.st29 (And.intro Tryz.st60 (And.intro Tryz.td1 (And.intro Tryz.td105 (And.intro Tryz.td2 (And.intro Tryz.td21 (And.intro Tryz.td22 (And.intro Tryz.td24 (And.intro Tryz.td25 (And.intro Tryz.td27 (And.intro Tryz.td29 (And.intro Tryz.td3 (And.intro Tryz.td32 (And.intro Tryz.td4 (And.intro Tryz.td45 (And.intro Tryz.td5 (And.intro Tryz.td51 (And.intro Tryz.td58 (And.intro Tryz.td60 Tryz.td9)))))))))))))))))))))))))))) :=
  And.intro Tryz.ea105 (And.intro Tryz.ea51 (And.intro Tryz.el22 (And.intro Tryz.el25 (And.intro Tryz.el45 (And.intro Tryz.sa105 (And.intro Tryz.sa51 (And.intro Tryz.st24 (And.intro Tryz.st27 (And.intro Tryz.st29 (And.intro Tryz.st60 (And.intro Tryz.td1 (And.intro Tryz.td105 (And.intro Tryz.td2 (And.intro Tryz.td21 (And.intro Tryz.td22 (And.intro Tryz.td24 (And.intro Tryz.td25 (And.intro Tryz.td27 (And.intro Tryz.td29 (And.intro Tryz.td3 (And.intro Tryz.td32 (And.intro Tryz.td4 (And.intro Tryz.td45 (And.intro Tryz.td5 (And.intro Tryz.td51 (And.intro Tryz.td58 (And.intro Tryz.td60 Tryz.td9)))))))))))))))))))))))))))
end Go.Proofs.YtmfkpljjhiglpaaGreatDoor
