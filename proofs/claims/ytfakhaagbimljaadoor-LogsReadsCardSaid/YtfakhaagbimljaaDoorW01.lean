/- Contracts of functions of this seat, each out of a walk through its code, and plain facts on what they compute. Conditions: those that each theorem names. -/
import Derived.Test.YtfakhaagbimljaaDoorW00
set_option linter.unusedSimpArgs false
set_option linter.unusedVariables false
set_option maxRecDepth 100000
namespace Go.AV
open Nat renaming reduceEqDiff → J, reduceAdd → D, reduceLeDiff → O, reduceLT → V, reduceMul → S, reduceSub → U
open List renaming set_cons_zero → bn, set_cons_succ → bo, getD_cons_zero → bT, length_append → ag, map_cons → aQ, cons_append → b0, map_nil → bb, length_cons → ae, nil_append → b6, take_succ_cons → aj, length_nil → aq, length_map → bP, length_replicate → bh, take_length → aA, mem_cons_self → aN, mem_cons_of_mem → aK
open Int renaming toNat_natCast → af
/-plain-/
structure Dfa where
  inp : Int
  st : Int
  nx : List (List Int)
  acc : List Bool
def Dfa.av (d : Dfa) : AV := .agg [.int .i64 d.inp, .int .i64 d.st, .list (.list (.int .i64)) d.nx, .list .bool d.acc]
def Dfa.row (d : Dfa) (s : Int) : List Int := d.nx.getD s.toNat []
def Dfa.dl (d : Dfa) (s a : Int) : Int := (d.row s).getD a.toNat 0
def Dfa.ac (d : Dfa) (s : Int) : Bool := d.acc.getD s.toNat false
def Dfa.run (d : Dfa) (s : Int) (w : List Int) : Int := w.foldl (fun s a => d.dl s a) s
def Dfa.cb (d : Dfa) (s a : Nat) : Prop := (d.row s).getD a 0 < 0 ∨ (d.nx.length : Int) ≤ (d.row s).getD a 0
structure DOK (d : Dfa) : Prop where
  i1 : 1 ≤ d.inp
  i2 : d.inp ≤ 1024
  n1 : 1 ≤ d.nx.length
  n2 : d.nx.length ≤ 128
  s1 : 0 ≤ d.st
  s2 : d.st < d.nx.length
  al : d.acc.length = d.nx.length
  rl : ∀ s : Nat, s < d.nx.length → ((d.row s).length : Int) = d.inp
  cl : ∀ s a : Nat, s < d.nx.length → (a : Int) < d.inp → 0 ≤ (d.row s).getD a 0 ∧ (d.row s).getD a 0 < d.nx.length
theorem DOK.dl {d : Dfa} (h : DOK d) {s a : Int} (hs : 0 ≤ s ∧ s < d.nx.length) (ha : 0 ≤ a ∧ a < d.inp) : 0 ≤ d.dl s a ∧ d.dl s a < d.nx.length := by
  have := h.cl s.toNat a.toNat (by omega) (by omega)
  unfold Dfa.dl
  have e : d.row (s.toNat : Int) = d.row s := by unfold Dfa.row; rw [af]
  rw [e] at this; exact this
/-plain-/
/-plain-/
def bI1 (b : Bool) : Int := if b = true then 1 else 0
def uU (d : Dfa) (s : Nat) : Int := bI1 (d.acc.getD s false)
/-plain-/
def cmn : List Int → List Int → Nat
  | x :: a, y :: b => if x = y then cmn a b + 1 else 0
  | _, _ => 0
theorem ee : ∀ {k : Nat} {a b : List Int}, (∀ q, q < k → a.getD q 0 = b.getD q 0) → k ≤ a.length → k ≤ b.length → ¬ (k < a.length ∧ k < b.length ∧ a.getD k 0 = b.getD k 0) → cmn a b = k
  | 0, [], _, _, _, _, _ => by simp [cmn]
  | 0, _ :: _, [], _, _, _, _ => by simp [cmn]
  | 0, x :: a, y :: b, _, _, _, h => by
    have : x ≠ y := fun e => h ⟨by simp, by simp, by simpa [List.getD] using e⟩
    simp [cmn, this]
  | k + 1, [], _, _, h, _, _ => by simp at h
  | k + 1, _ :: _, [], _, _, h, _ => by simp at h
  | k + 1, x :: a, y :: b, hq, h1, h2, h => by
    have e : x = y := by simpa [List.getD] using hq 0 (by omega)
    simp only [cmn, if_pos e]
    congr 1
    refine ee (fun q hq2 => ?_) (by simpa using h1) (by simpa using h2) fun h3 => h ⟨by simpa using h3.1, by simpa using h3.2.1, by simpa [List.getD] using h3.2.2⟩
    simpa [List.getD] using hq (q + 1) (by omega)
theorem jn : ∀ a : List Int, cmn a a = a.length
  | [] => rfl
  | x :: a => by simp [cmn, jn a]
theorem oa : ∀ {a b : List Int}, a.length = b.length → cmn a b = a.length → a = b
  | [], [], _, _ => rfl
  | [], _ :: _, h, _ => by simp at h
  | _ :: _, [], h, _ => by simp at h
  | x :: a, y :: b, h, h2 => by
    by_cases e : x = y
    · simp only [cmn, if_pos e, ae] at h2
      rw [e, oa (a := a) (b := b) (by simpa using h) (by omega)]
    · simp only [cmn, if_neg e, ae] at h2
      omega
theorem rH (a b : List Int) : (decide ((a.length : Int) = b.length) && decide ((cmn a b : Int) = a.length)) = decide (a = b) := by
  by_cases e : a = b
  · subst e; simp [jn]
  · rw [decide_eq_false e, Bool.and_eq_false_iff]
    by_cases h : a.length = b.length
    · right
      exact decide_eq_false fun h2 => e (oa h (by omega))
    · left; exact decide_eq_false fun h2 => h (by omega)
/-plain-/
def dx (a b : List Int) : Int := if cmn a b = a.length ∧ cmn a b = b.length then 0 else if cmn a b = a.length ∨ (cmn a b < b.length ∧ a.getD (cmn a b) 0 < b.getD (cmn a b) 0) then -1 else 1
def bK (a b : List Int) : Int := if a.length < b.length then -1 else if b.length < a.length then 1 else dx a b
/-plain-/
/-plain-/
def Dfa.sg (d : Dfa) (cl : List Int) (s : Nat) : List Int := cl.getD s 0 :: (d.nx.getD s []).map fun t => cl.getD t.toNat 0
def Dfa.nxL (d : Dfa) (cl : List Int) : List Int := (List.range d.nx.length).map fun s => (pos (rR (d.sg cl) d.nx.length) (d.sg cl s) : Int)
def Dfa.cl (d : Dfa) : Nat → List Int
  | 0 => (List.range d.nx.length).map (uU d)
  | i + 1 => d.nxL (d.cl i)
def Dfa.cn (d : Dfa) : Nat → Nat
  | 0 => 0
  | i + 1 => (rR (d.sg (d.cl i)) d.nx.length).length
def pZ (n : Int) (w : List Int) : Prop := ∀ x, x ∈ w → 0 ≤ x ∧ x < n
theorem oZ {n x : Int} {w : List Int} : pZ n (x :: w) ↔ (0 ≤ x ∧ x < n) ∧ pZ n w := by unfold pZ; simp
def DEQ (a b : Dfa) (s t : Int) : Prop := ∀ w : List Int, pZ a.inp w → a.ac (a.run s w) = b.ac (b.run t w)
theorem DEQ.step {a b : Dfa} {s t x : Int} (h : DEQ a b s t) (hx : 0 ≤ x ∧ x < a.inp) : DEQ a b (a.dl s x) (b.dl t x) := fun w hw => h (x :: w) (oZ.2 ⟨hx, hw⟩)
theorem DEQ.acc {a b : Dfa} {s t : Int} (h : DEQ a b s t) : a.ac s = b.ac t := h [] (fun x hx => by cases hx)
theorem DEQ.refl (d : Dfa) (s : Int) : DEQ d d s s := fun _ _ => rfl
theorem DEQ.symm {d : Dfa} {s t : Int} (h : DEQ d d s t) : DEQ d d t s := fun w hw => (h w hw).symm
theorem DEQ.trans {d : Dfa} {s t u : Int} (h : DEQ d d s t) (h2 : DEQ d d t u) : DEQ d d s u := fun w hw => (h w hw).trans (h2 w hw)
theorem DEQ.join {a b c : Dfa} {s t u : Int} (hi : a.inp = b.inp) (h : DEQ a b s t) (h2 : DEQ b c t u) : DEQ a c s u := fun w hw => (h w hw).trans (h2 w (hi ▸ hw))
/-plain-/
/-plain-/
/-plain-/
structure SIM (A B : STP) (n : Nat) (R : PP → PP → Prop) : Prop where
  st : ∀ p q, R p q → ∀ x, x < n → R (A p x) (B q x)
  bi : ∀ p q p' q', R p q → R p' q' → (p = p' ↔ q = q')
def RL (R : PP → PP → Prop) (l l' : List W3) : Prop := l.length = l'.length ∧ ∀ i, i < l.length → R (l.getD i w30).1 (l'.getD i w30).1 ∧ (l.getD i w30).2 = (l'.getD i w30).2
theorem RL.mem {A B : STP} {n : Nat} {R : PP → PP → Prop} (hs : SIM A B n R) {l l' : List W3} (h : RL R l l') {p q : PP} (hr : R p q) : p ∈ l.map Prod.fst ↔ q ∈ l'.map Prod.fst := by
  constructor
  · intro hm
    obtain ⟨e, he, e1⟩ := List.mem_map.1 hm
    obtain ⟨i, hi⟩ := List.getElem?_of_mem he
    have hlt := (List.getElem?_eq_some_iff.1 hi).1
    have h2 := h.2 i hlt
    have h3 : l.getD i w30 = e := by rw [List.getD, hi]; rfl
    rw [h3, e1] at h2
    have := (hs.bi _ _ _ _ h2.1 hr).1 rfl
    rw [← this]
    exact List.mem_map.2 ⟨_, nE (by rw [← h.1]; exact hlt), rfl⟩
  · intro hm
    obtain ⟨e, he, e1⟩ := List.mem_map.1 hm
    obtain ⟨i, hi⟩ := List.getElem?_of_mem he
    have hlt := (List.getElem?_eq_some_iff.1 hi).1
    have h2 := h.2 i (by rw [h.1]; exact hlt)
    have h3 : l'.getD i w30 = e := by rw [List.getD, hi]; rfl
    rw [h3, e1] at h2
    have := (hs.bi _ _ _ _ h2.1 hr).2 rfl
    rw [← this]
    exact List.mem_map.2 ⟨_, nE (by rw [h.1]; exact hlt), rfl⟩
theorem RL.snoc {R : PP → PP → Prop} {l l' : List W3} (h : RL R l l') {e f : W3} (hr : R e.1 f.1) (hw : e.2 = f.2) : RL R (l ++ [e]) (l' ++ [f]) := by
  refine ⟨by simp [h.1], fun i hi => ?_⟩
  rw [ag, List.length_singleton] at hi
  by_cases e1 : i < l.length
  · rw [bV e1, bV (by rw [← h.1]; exact e1)]; exact h.2 i e1
  · rw [dG (by omega), dG (by have := h.1; omega)]; exact ⟨hr, hw⟩
theorem RL.row {A B : STP} {n : Nat} {R : PP → PP → Prop} (hs : SIM A B n R) {l l' : List W3} (h : RL R l l') {e f : W3} (hr : R e.1 f.1) (hw : e.2 = f.2) : ∀ x, x ≤ n → RL R (fN A e l x) (fN B f l' x)
  | 0, _ => h
  | x + 1, hx => by
    have ih := h.row hs hr hw x (by omega)
    have h2 := hs.st _ _ hr x (by omega)
    rw [fl, fl]
    by_cases hm : A e.1 x ∈ (fN A e l x).map Prod.fst
    · rw [nv hm, nv ((ih.mem hs h2).1 hm)]; exact ih
    · rw [lw hm, lw (fun k => hm ((ih.mem hs h2).2 k))]
      exact ih.snoc h2 (by rw [hw])
theorem RL.one {R : PP → PP → Prop} {p q : PP} (h : R p q) : RL R [(p, [])] [(q, [])] := ⟨rfl, fun i hi => by
  have : i = 0 := by simpa using hi
  subst this; exact ⟨h, rfl⟩⟩
/-plain-/
/-plain-/
def SLT (u v : List Int) : Prop := u.length < v.length ∨ (u.length = v.length ∧ ∃ m, m < u.length ∧ (∀ q, q < m → u.getD q 0 = v.getD q 0) ∧ u.getD m 0 < v.getD m 0)
def SLE (u v : List Int) : Prop := u = v ∨ SLT u v
theorem SLT.trans {u v w : List Int} (h : SLT u v) (h2 : SLT v w) : SLT u w := by
  rcases h with h | ⟨h, m, a1, a2, a3⟩
  · rcases h2 with h2 | ⟨h2, _⟩
    · exact .inl (by omega)
    · exact .inl (by omega)
  · rcases h2 with h2 | ⟨h2, k, b1, b2, b3⟩
    · exact .inl (by omega)
    · refine .inr ⟨by omega, ?_⟩
      rcases Nat.lt_trichotomy m k with e | e | e
      · exact ⟨m, a1, fun q hq => (a2 q hq).trans (b2 q (by omega)), by rw [← b2 m e]; exact a3⟩
      · subst e; exact ⟨m, a1, fun q hq => (a2 q hq).trans (b2 q hq), by omega⟩
      · exact ⟨k, by omega, fun q hq => (a2 q (by omega)).trans (b2 q hq), by rw [a2 k e]; exact b3⟩
theorem SLE.trans_lt {u v w : List Int} (h : SLE u v) (h2 : SLT v w) : SLT u w := by
  rcases h with rfl | h
  · exact h2
  · exact h.trans h2
theorem SLE.trans {u v w : List Int} (h : SLE u v) (h2 : SLE v w) : SLE u w := by
  rcases h2 with rfl | h2
  · exact h
  · exact .inr (h.trans_lt h2)
theorem SLT.app {u v : List Int} (h : SLT u v) (a b : Int) : SLT (u ++ [a]) (v ++ [b]) := by
  rcases h with h | ⟨h, m, a1, a2, a3⟩
  · exact .inl (by simp; omega)
  · refine .inr ⟨by simp; omega, m, by simp; omega, fun q hq => ?_, ?_⟩
    · rw [bV (by omega), bV (by omega)]; exact a2 q hq
    · rw [bV a1, bV (by omega)]; exact a3
theorem SLE.app {u v : List Int} (h : SLE u v) (a : Int) : SLE (u ++ [a]) (v ++ [a]) := by
  rcases h with rfl | h
  · exact .inl rfl
  · exact .inr (h.app a a)
theorem SLT.nil (u : List Int) (x : Int) : SLT [] (u ++ [x]) := .inl (by simp)
theorem SLE.len {u v : List Int} (h : SLE u v) : u.length ≤ v.length := by
  rcases h with rfl | h | ⟨h, _⟩ <;> omega
structure BW (A : STP) (n i : Nat) (l : List W3) : Prop where
  so : ∀ j k, j < k → k < l.length → SLT (l.getD j w30).2 (l.getD k w30).2
  mi : ∀ j, j < i → j < l.length → ∀ x, x < n → ∃ k, k < l.length ∧ (l.getD k w30).1 = A (l.getD j w30).1 x ∧ SLE (l.getD k w30).2 ((l.getD j w30).2 ++ [(x : Int)])
  up : i < l.length → ∀ k, k < l.length → SLT (l.getD k w30).2 ((l.getD i w30).2 ++ [0])
structure BX (A : STP) (n i x : Nat) (l0 l : List W3) : Prop where
  so : ∀ j k, j < k → k < l.length → SLT (l.getD j w30).2 (l.getD k w30).2
  mi : ∀ y, y < x → ∃ k, k < l.length ∧ (l.getD k w30).1 = A (l0.getD i w30).1 y ∧ SLE (l.getD k w30).2 ((l0.getD i w30).2 ++ [(y : Int)])
  up : ∀ k, k < l.length → SLT (l.getD k w30).2 ((l0.getD i w30).2 ++ [(x : Int)])
/-plain-/
structure LCL (A : STP) (n : Nat) (L : List W3) : Prop where
  nd : (L.map Prod.fst).Nodup
  cl : ∀ j, j < L.length → ∀ x, x < n → A (L.getD j w30).1 x ∈ L.map Prod.fst
variable {A : STP} {G : PP → Bool} {n : Nat} {L : List W3}
/-plain-/
def Dfa.sto (d : Dfa) : Nat → Nat → Nat
  | 0, i => i
  | f + 1, i => if d.cn (i + 1) = d.cn i then i else d.sto f (i + 1)
def Dfa.cls (d : Dfa) : List Int := d.cl (d.sto (d.nx.length + 1) 0 + 1)
def fsV (cl : List Int) (n s c : Nat) : Int := match (List.range n).find? (fun q => decide (s ≤ q) && decide (cl.getD q 0 = (c : Int))) with | some q => (q : Int) | none => 0
def fsL (cl : List Int) (n s : Nat) : List Int := (List.range n).map fun c => fsV cl n s c
def Dfa.rep (d : Dfa) (s : Int) : Int := (fsL d.cls d.nx.length 0).getD (d.cls.getD s.toNat 0).toNat 0
structure RPR (d : Dfa) (s r : Int) : Prop where
  rg : 0 ≤ r ∧ r < d.nx.length
  le : r ≤ s
  cl : d.cls.getD r.toNat 0 = d.cls.getD s.toNat 0
  mi : ∀ q : Nat, (q : Int) < r → d.cls.getD q 0 ≠ d.cls.getD s.toNat 0
/-plain-/
structure M1OK (d : Dfa) (q : PP) (x : Nat) : Prop where
  r1 : 0 ≤ q.1 ∧ q.1 < d.nx.length
  rl : ((d.nx.getD q.1.toNat []).length : Int) = d.inp
  t1 : 0 ≤ (d.nx.getD q.1.toNat []).getD x 0 ∧ (d.nx.getD q.1.toNat []).getD x 0 < d.nx.length
  c1 : 0 ≤ d.cls.getD ((d.nx.getD q.1.toNat []).getD x 0).toNat 0 ∧ d.cls.getD ((d.nx.getD q.1.toNat []).getD x 0).toNat 0 < d.nx.length
  e : d.rep (d.dl q.1 x) = (fsL d.cls d.nx.length 0).getD (d.cls.getD ((d.nx.getD q.1.toNat []).getD x 0).toNat 0).toNat 0
/-plain-/
structure SHP (d : Dfa) (P : List W3) (k : Nat) : Prop where
  rg : 0 ≤ (P.getD k w30).1.1 ∧ (P.getD k w30).1.1 < d.nx.length
/-plain-/
/-plain-/
structure Mdl where
  nm : Bs
  ins : List Bs
  outs : List Bs
  m : Mly
def Mdl.cs (x : Mdl) : List AC := [.str x.nm, .list .str x.ins, .list .str x.outs, .int .i64 x.m.inp, .int .i64 x.m.st, .list (.list (.int .i64)) x.m.nx, .list (.list (.int .i64)) x.m.ot]
def Mdl.av (x : Mdl) : AV := .agg x.cs
/-plain-/
/-plain-/
structure MVO (x : Mdl) : Prop where
  nm : co x.nm = true
  ai : AOK x.ins
  ao : AOK x.outs
  mo : MOK x.m
  vm : qg x.m = 0
  il : x.m.inp = x.ins.length
  ol : ∀ s a : Nat, s < x.m.nx.length → (a : Int) < x.m.inp → (x.m.ot.getD s []).getD a 0 < x.outs.length
/-plain-/
def dy (s p : Bs) : Bool := decide (p.length ≤ s.length) && decide (s.drop (s.length - p.length) = p)
theorem fa {s p : Bs} : dy s p = true ↔ p <:+ s := by
  unfold dy
  rw [Bool.and_eq_true, decide_eq_true_eq, decide_eq_true_eq, List.suffix_iff_eq_drop]
  constructor
  · intro h; exact h.2.symm
  · intro h
    refine ⟨?_, h.symm⟩
    have := congrArg List.length h
    rw [List.length_drop] at this
    omega
/-plain-/
/-plain-/
structure RS where
  nm : Bs
  ins : List Bs
  outs : List Bs
  inp : Int
  st : Int
  nx : List (List Int)
  ot : List (List Int)
  sts : List Bs
  rd : Nat
  lf : Int
  tb : Bool
structure ROK (r : RS) : Prop where
  nl : r.nx.length = r.sts.length
  ol : r.ot.length = r.sts.length
  n2 : r.sts.length ≤ 128
  i1 : 1 ≤ r.ins.length
  i2 : r.ins.length ≤ 64
  rl : ∀ s, s < r.sts.length → (r.nx.getD s []).length = r.ins.length
  ql : ∀ s, s < r.sts.length → (r.ot.getD s []).length = r.ins.length
  l0 : -2000000 ≤ r.lf
  l1 : r.lf ≤ 1000000
structure LOK (r : RS) : Prop where
  h3 : r.rd = 3 → r.tb = false ∧ 1 ≤ r.ins.length ∧ r.ins.length ≤ 64
  h5 : 5 ≤ r.rd → r.tb = true ∧ ROK r ∧ r.outs.length ≤ 1000000
  rl : r.rd ≤ 2000000
theorem l5 {s : Bs} {k : Nat} : ((s.getD k 0).toNat : Int) = 35 ↔ s.getD k 0 = 35 := by
  constructor
  · intro h
    apply UInt8.toNat_inj.1
    have e : ((35 : UInt8).toNat : Int) = 35 := by decide
    omega
  · intro h; rw [h]; decide
/-plain-/
structure RI (r : RS) : Prop where
  t3 : r.rd ≤ 3 → r.tb = false
  t4 : 4 ≤ r.rd → r.tb = true ∧ ROK r
  a1 : 2 ≤ r.rd → alE r.ins = 0
  a2 : 3 ≤ r.rd → alE r.outs = 0
  lf : 4 ≤ r.rd → -(r.rd : Int) ≤ r.lf ∧ r.lf ≤ 8192
/-plain-/
def bD (L : List Bs) : Bs := (L.map (· ++ [10])).flatten
theorem dS (l : Bs) (L : List Bs) : bD (l :: L) = l ++ 10 :: bD L := by unfold bD; simp
theorem jT : ∀ {l : Bs} {L : List Bs}, Lib.join (l :: L) [10] ++ [10] = bD (l :: L)
  | l, [] => by rw [Lib.join_one, dS]; simp [bD]
  | l, m :: L => by rw [dU, dS, ← jT]; simp
theorem sa {s : Bs} (h : co s = true) : s ≠ [] := fun e => by have := (cG h).2.1; rw [e] at this; simp at this
theorem tw {c : UInt8} (h : okI (c.toNat : Int)) : c ≠ 32 ∧ c ≠ 10 ∧ c ≠ 35 := by
  unfold okI at h
  refine ⟨fun e => ?_, fun e => ?_, fun e => ?_⟩ <;> (subst e; simp at h)
theorem tn {s : Bs} (h : co s = true) : s.getD 0 0 ≠ 35 := by
  cases s with
  | nil => exact absurd rfl (sa h)
  | cons b s => exact (tw ((cG h).1 b (by simp))).2.2
theorem ky {s : Bs} (h : co s = true) : (10 : UInt8) ∉ s := fun hm => (tw ((cG h).1 _ hm)).2.1 rfl
/-plain-/
/-plain-/
/-plain-/
/-plain-/
def dw (c : UInt8) (s : Bs) : Nat → List Bs × Nat
  | 0 => ([], 0)
  | k + 1 => if bt s k = (c.toNat : Int) then ((dw c s k).1 ++ [(s.take k).drop (dw c s k).2], k + 1) else dw c s k
theorem gN {c : UInt8} {s : Bs} {k : Nat} (h : bt s k = (c.toNat : Int)) : dw c s (k + 1) = ((dw c s k).1 ++ [(s.take k).drop (dw c s k).2], k + 1) := if_pos h
theorem iL {c : UInt8} {s : Bs} {k : Nat} (h : ¬ bt s k = (c.toNat : Int)) : dw c s (k + 1) = dw c s k := if_neg h
theorem hY (c : UInt8) (s : Bs) : ∀ k, (dw c s k).2 ≤ k
  | 0 => Nat.le_refl _
  | k + 1 => by
    have := hY c s k
    simp only [dw]
    split
    · exact Nat.le_refl _
    · omega
theorem mg (c : UInt8) (s : Bs) : ∀ k, (dw c s k).1.length ≤ k
  | 0 => Nat.le_refl _
  | k + 1 => by
    have := mg c s k
    simp only [dw]
    split
    · rw [ag]; simp only [ae, aq]; omega
    · omega
theorem uC {c : UInt8} {s : Bs} {k : Nat} : bt s k = (c.toNat : Int) ↔ s.getD k 0 = c := by
  unfold bt
  constructor
  · intro h; exact UInt8.toNat_inj.1 (by omega)
  · intro h; rw [h]
theorem ly (c : UInt8) (s : Bs) : ∀ k, k ≤ s.length → (s.take k).foldl (fun (st : List Bs × Bs) b => if b = c then (st.1 ++ [st.2], []) else (st.1, st.2 ++ [b])) ([], []) = ((dw c s k).1, (s.take k).drop (dw c s k).2)
  | 0, _ => rfl
  | k + 1, h => by
    have ih := ly c s k (by omega)
    have hf := hY c s k
    rw [nX (by omega), List.foldl_append, ih, List.foldl_cons, List.foldl_nil]
    by_cases e : bt s k = (c.toNat : Int)
    · rw [gN e, if_pos (uC.1 e)]
      simp only []
      have e9 : (s.take k ++ [s.getD k 0]).drop (k + 1) = [] := List.drop_eq_nil_of_le (by rw [ag, List.length_take]; simp only [ae, aq]; omega)
      rw [e9]
    · rw [iL e, if_neg (fun h => e (uC.2 h))]
      simp only []
      rw [List.drop_append_of_le_length (by rw [List.length_take]; omega)]
theorem jq (c : UInt8) (s : Bs) : (dw c s s.length).1 ++ [(s.take s.length).drop (dw c s s.length).2] = spB c s := by
  have h1 := ly c s s.length (Nat.le_refl _)
  have h2 := qN c s ([], [])
  rw [aA] at h1 ⊢
  rw [h1] at h2
  simp only [b6] at h2
  rw [h2, ← eW]
theorem lh (a b : List Bs) : bD (a ++ b) = bD a ++ bD b := by unfold bD; simp
theorem fT (a : List Bs) (x : Bs) : bD (a ++ [x]) = bD a ++ x ++ [10] := by rw [lh]; unfold bD; simp
theorem fk {l : List Bs} {k : Nat} (h : k < l.length) : l.take (k + 1) = l.take k ++ [l.getD k []] := by rw [List.take_add_one, List.getElem?_eq_getElem h]; simp [List.getD, h]
theorem gb (l : List Bs) (k : Nat) : (bD (l.take k)).length ≤ (bD l).length := by
  have : bD l = bD (l.take k) ++ bD (l.drop k) := by rw [← lh, List.take_append_drop]
  rw [this, ag]; omega
theorem mV {l : List Bs} (h : l ≠ []) : Lib.join l [10] ++ [10] = bD l := by
  cases l with
  | nil => exact absurd rfl h
  | cons a l => exact jT
theorem un (c : UInt8) (s : Bs) : spB c s ≠ [] := fun e => by have := dO c s; rw [e] at this; simp at this
theorem mM (s : Bs) : bD (spB 10 s) = s ++ [10] := by rw [← mV (un 10 s), gT]
theorem nn {c : UInt8} {s y : Bs} (h : y ∈ spB c s) : y.length ≤ s.length := by
  induction s generalizing y with
  | nil => simp [spB] at h; subst h; exact Nat.le_refl _
  | cons b s ih =>
    rw [fx] at h
    have hh := eW c s
    split at h
    · rcases List.mem_cons.1 h with rfl | h
      · exact Nat.zero_le _
      · have := ih h; simp only [ae]; omega
    · rcases List.mem_cons.1 h with rfl | h
      · have := ih (y := (spB c s).headD []) (by rw [hh]; simp)
        simp only [ae]; omega
      · have := ih (by rw [hh]; exact aK _ h)
        simp only [ae]; omega
theorem fj (c : UInt8) (s : Bs) (k : Nat) : ((spB c s).getD k []).length ≤ s.length := by
  by_cases h : k < (spB c s).length
  · exact nn (ew h)
  · rw [List.getD, List.getElem?_eq_none (by omega)]; exact Nat.zero_le _
/-plain-/
def cA (xs ys : List Bs) (p : Bs) : Int := if ¬ Lib.countByte p 47 = 1 then 5 else if da p 47 ∉ xs ∨ ct p 47 ∉ ys then 8 else 0
def ml (xs ys : List Bs) (p : Bs) (v : Nat) : Nat := if cA xs ys p = 0 then v + 1 else v
def sX (xs ys : List Bs) (p : Bs) (l : List Int) : List Int := if cA xs ys p = 0 then l ++ [idA xs (da p 47)] else l
def sd (xs ys : List Bs) (p : Bs) (l : List Int) : List Int := if cA xs ys p = 0 then l ++ [idA ys (ct p 47)] else l
theorem kr {xs ys : List Bs} {p : Bs} (h : ¬ Lib.countByte p 47 = 1) : cA xs ys p = 5 := if_pos h
theorem kq {xs ys : List Bs} {p : Bs} (h : Lib.countByte p 47 = 1) (h2 : da p 47 ∉ xs ∨ ct p 47 ∉ ys) : cA xs ys p = 8 := by unfold cA; rw [if_neg (fun k => k h), if_pos h2]
theorem km {xs ys : List Bs} {p : Bs} (h : Lib.countByte p 47 = 1) (h2 : da p 47 ∈ xs ∧ ct p 47 ∈ ys) : cA xs ys p = 0 := by unfold cA; rw [if_neg (fun k => k h), if_neg (fun k => k.elim (fun q => q h2.1) (fun q => q h2.2))]
theorem dV {xs ys : List Bs} {p : Bs} (h : ¬ cA xs ys p = 0) (v : Nat) (l : List Int) : ml xs ys p v = v ∧ sX xs ys p l = l ∧ sd xs ys p l = l := ⟨if_neg h, if_neg h, if_neg h⟩
theorem eP {xs ys : List Bs} {p : Bs} (h : cA xs ys p = 0) (v : Nat) (l : List Int) : ml xs ys p v = v + 1 ∧ sX xs ys p l = l ++ [idA xs (da p 47)] ∧ sd xs ys p l = l ++ [idA ys (ct p 47)] := ⟨if_pos h, if_pos h, if_pos h⟩
def fg (xs : List Bs) (W : List Bs) : List Int := W.map fun p => idA xs (da p 47)
def eX (ys : List Bs) (W : List Bs) : List Int := W.map fun p => idA ys (ct p 47)
def dM (xs ys : List Bs) (s : Bs) : Int := if 1024 < (spB 32 s).length then 3 else bJ (fun i => cA xs ys ((spB 32 s).getD i [])) (spB 32 s).length
def cK (xs ys : List Bs) (s : Bs) : TRC := if dM xs ys s = 0 then (fg xs (spB 32 s), (eX ys (spB 32 s), ())) else ([], ([], ()))
theorem kl {xs ys : List Bs} {s : Bs} (h : 1024 < (spB 32 s).length) : dM xs ys s = 3 := if_pos h
theorem lD {xs ys : List Bs} {s : Bs} (h : ¬ 1024 < (spB 32 s).length) {k : Nat} (hk : k < (spB 32 s).length) (hq : ∀ q, q < k → cA xs ys ((spB 32 s).getD q []) = 0) (hb : ¬ cA xs ys ((spB 32 s).getD k []) = 0) : dM xs ys s = cA xs ys ((spB 32 s).getD k []) := by
  unfold dM; rw [if_neg h]; exact df (f := fun i => cA xs ys ((spB 32 s).getD i [])) hq hk hb
theorem iu {xs ys : List Bs} {s : Bs} (h : ¬ 1024 < (spB 32 s).length) (hq : ∀ q, q < (spB 32 s).length → cA xs ys ((spB 32 s).getD q []) = 0) : dM xs ys s = 0 := by
  unfold dM; rw [if_neg h]; exact cD hq
theorem f8 {xs ys : List Bs} {s : Bs} (h : ¬ dM xs ys s = 0) : cK xs ys s = ([], ([], ())) := if_neg h
theorem gk {xs ys : List Bs} {s : Bs} (h : dM xs ys s = 0) : cK xs ys s = (fg xs (spB 32 s), (eX ys (spB 32 s), ())) := if_pos h
theorem p8 {xs W : List Bs} {k : Nat} (h : k < W.length) : fg xs (W.take (k + 1)) = fg xs (W.take k) ++ [idA xs (da (W.getD k []) 47)] := by unfold fg; rw [fk h, List.map_append]; rfl
theorem ph {ys W : List Bs} {k : Nat} (h : k < W.length) : eX ys (W.take (k + 1)) = eX ys (W.take k) ++ [idA ys (ct (W.getD k []) 47)] := by unfold eX; rw [fk h, List.map_append]; rfl
theorem qT (s : Bs) (c : UInt8) : (ct s c).length ≤ s.length := by unfold ct; split <;> simp
/-plain-/
theorem gL {P : List Bs} {k : Nat} {r : Bs} {c : UInt8} (h : spB c r = P.drop k) (hk : k + 1 = P.length) : r = P.getD k [] ∧ P.take k ++ [r] = P := by
  have h1 := List.drop_eq_getElem_cons (l := P) (i := k) (by omega)
  have h2 : P.drop (k + 1) = [] := List.drop_eq_nil_of_le (by omega)
  rw [h2] at h1
  rw [h1] at h
  have hl : (spB c r).length = 1 := by rw [h]; rfl
  have hn : c ∉ r := by
    rcases (show Lib.indexByte r c < 0 ∨ 0 ≤ Lib.indexByte r c by omega) with q | q
    · exact gS q
    · have := gI q
      rw [this] at hl
      have := dO c (r.drop ((Lib.indexByte r c).toNat + 1))
      simp only [ae] at hl
      omega
  rw [fA hn] at h
  have e : r = P[k] := by simpa using h
  refine ⟨by rw [e]; simp [List.getD, List.getElem?_eq_getElem (show k < P.length by omega)], ?_⟩
  rw [e]
  have h3 := List.take_append_drop k P
  rw [h1] at h3
  exact h3
theorem lH {P : List Bs} {k : Nat} {r : Bs} {c : UInt8} (h : spB c r = P.drop k) (hk : k + 1 < P.length) : 0 ≤ Lib.indexByte r c ∧ r.take (Lib.indexByte r c).toNat = P.getD k [] ∧ spB c (r.drop ((Lib.indexByte r c).toNat + 1)) = P.drop (k + 1) ∧ (Lib.indexByte r c).toNat < r.length := by
  have h1 := List.drop_eq_getElem_cons (l := P) (i := k) (by omega)
  rcases (show Lib.indexByte r c < 0 ∨ 0 ≤ Lib.indexByte r c by omega) with q | q
  · rw [fA (gS q)] at h
    have := congrArg List.length h
    rw [List.length_drop] at this
    simp only [ae, aq] at this
    omega
  · rw [gI q, h1] at h
    obtain ⟨e1, e2⟩ := List.cons.inj h
    exact ⟨q, by rw [e1]; simp [List.getD, List.getElem?_eq_getElem (show k < P.length by omega)], e2, (gB q).1⟩
def pcs (P : List Bs) (k : Nat) : List Bs := P.take k ++ List.replicate (P.length - k) []
theorem oM {P : List Bs} {k : Nat} (h : k < P.length) {r : Bs} (e : r = P.getD k []) : (pcs P k).set k r = pcs P (k + 1) := by
  unfold pcs
  rw [List.set_append]
  have hl : (P.take k).length = k := by rw [List.length_take]; omega
  rw [hl, if_neg (by omega), Nat.sub_self, show P.length - k = (P.length - (k + 1)) + 1 by omega, List.replicate_succ, bn, e, show P.getD k [] = P[k] by simp [List.getD, List.getElem?_eq_getElem h]]
  have e2 : P.take (k + 1) = P.take k ++ [P[k]] := by rw [List.take_add_one, List.getElem?_eq_getElem h]; rfl
  rw [e2, List.append_assoc]; rfl
theorem lQ {P : List Bs} {k : Nat} (h : k ≤ P.length) : (pcs P k).length = P.length := by unfold pcs; rw [ag, List.length_take, bh]; omega
theorem s7 (P : List Bs) : pcs P P.length = P := by unfold pcs; simp
/-plain-/
def skL (l : Bs) : Prop := l = [] ∨ l.getD 0 0 = 35
instance (l : Bs) : Decidable (skL l) := by unfold skL; infer_instance
def lnL (xs ys : List Bs) (n : Nat) (l : Bs) : Int := if [] ∈ spB 32 l then 5 else if 10000 ≤ n then 11 else dM xs ys l
def PGL (xs ys : List Bs) : List Bs → Nat → List TRC → List TRC × Int × Int
  | [], _, R => (R, 0, 0)
  | [l], k, R => if l = [] then (R, 0, 0) else ([], (k : Int) + 1, 5)
  | l :: m :: ls, k, R => if skL l then PGL xs ys (m :: ls) (k + 1) R else if lnL xs ys R.length l = 0 then PGL xs ys (m :: ls) (k + 1) (R ++ [cK xs ys l]) else ([], (k : Int) + 1, lnL xs ys R.length l)
def PG (xs ys : List Bs) (s : Bs) : List TRC × Int × Int := if ¬ cp xs ys = 0 then ([], 0, cp xs ys) else if 1048576 < s.length then ([], 0, 3) else PGL xs ys (spB 10 s) 0 []
theorem mJ {xs ys : List Bs} {s : Bs} (h : ¬ cp xs ys = 0) : PG xs ys s = ([], 0, cp xs ys) := if_pos h
theorem ux {xs ys : List Bs} {s : Bs} (h : cp xs ys = 0) (h2 : ¬ 1048576 < s.length) : PG xs ys s = PGL xs ys ((spB 10 s).drop 0) 0 [] := by unfold PG; rw [if_neg (fun k => k h), if_neg h2]; rfl
section
variable {xs ys : List Bs} {P : List Bs} {k : Nat} {R : List TRC}
theorem fX (h : k < P.length) : P.drop k = P.getD k [] :: P.drop (k + 1) := by
  rw [List.drop_eq_getElem_cons h]; simp [List.getD, List.getElem?_eq_getElem h]
theorem ji (h : k + 1 < P.length) : PGL xs ys (P.drop k) k R = if skL (P.getD k []) then PGL xs ys (P.drop (k + 1)) (k + 1) R else if lnL xs ys R.length (P.getD k []) = 0 then PGL xs ys (P.drop (k + 1)) (k + 1) (R ++ [cK xs ys (P.getD k [])]) else ([], (k : Int) + 1, lnL xs ys R.length (P.getD k [])) := by
  rw [fX (k := k) (by omega), fX (k := k + 1) h]; rfl
theorem mL (h : k + 1 < P.length) (hs : skL (P.getD k [])) : PGL xs ys (P.drop k) k R = PGL xs ys (P.drop (k + 1)) (k + 1) R := by rw [ji h, if_pos hs]
theorem qt (h : k + 1 < P.length) (hs : ¬ skL (P.getD k [])) (he : lnL xs ys R.length (P.getD k []) = 0) : PGL xs ys (P.drop k) k R = PGL xs ys (P.drop (k + 1)) (k + 1) (R ++ [cK xs ys (P.getD k [])]) := by rw [ji h, if_neg hs, if_pos he]
theorem cV (h : k + 1 < P.length) (hs : ¬ skL (P.getD k [])) (he : ¬ lnL xs ys R.length (P.getD k []) = 0) : PGL xs ys (P.drop k) k R = ([], (k : Int) + 1, lnL xs ys R.length (P.getD k [])) := by rw [ji h, if_neg hs, if_neg he]
theorem er (h : k + 1 = P.length) : PGL xs ys (P.drop k) k R = if P.getD k [] = [] then (R, 0, 0) else ([], (k : Int) + 1, 5) := by
  rw [fX (k := k) (by omega), List.drop_of_length_le (by omega)]; rfl
end
theorem pv {xs ys : List Bs} {n : Nat} {l : Bs} (h : [] ∈ spB 32 l) : lnL xs ys n l = 5 := if_pos h
theorem dv {xs ys : List Bs} {n : Nat} {l : Bs} (h : [] ∉ spB 32 l) (h2 : 10000 ≤ n) : lnL xs ys n l = 11 := by unfold lnL; rw [if_neg h, if_pos h2]
theorem dC {xs ys : List Bs} {n : Nat} {l : Bs} (h : [] ∉ spB 32 l) (h2 : ¬ 10000 ≤ n) : lnL xs ys n l = dM xs ys l := by unfold lnL; rw [if_neg h, if_neg h2]
theorem sv (b : UInt8) (s : Bs) : [] ∈ (spB 32 (b :: s)).tail ↔ if b = 32 then [] ∈ spB 32 s else [] ∈ (spB 32 s).tail := by
  rw [fx]; split <;> rfl
theorem m6 (b : UInt8) (s : Bs) : [] ∈ spB 32 (b :: s) ↔ b = 32 ∨ [] ∈ (spB 32 (b :: s)).tail := by
  rw [fx]
  split
  · rename_i h; exact ⟨fun _ => .inl h, fun _ => by simp⟩
  · rename_i h
    simp [h]
theorem rm {b c : UInt8} {s : Bs} : dy (b :: c :: s) [32] = dy (c :: s) [32] := by
  have : (dy (b :: c :: s) [32] = true) ↔ (dy (c :: s) [32] = true) := by
    rw [fa, fa]
    constructor
    · rintro ⟨t, ht⟩
      cases t with
      | nil => simp at ht
      | cons d t => rw [b0] at ht; exact ⟨t, (List.cons.inj ht).2⟩
    · rintro ⟨t, ht⟩; exact ⟨b :: t, by rw [b0, ht]⟩
  cases h1 : dy (b :: c :: s) [32] <;> cases h2 : dy (c :: s) [32] <;> simp_all
theorem rG (b : UInt8) (s : Bs) : Lib.contains (b :: s) [32, 32] = true ↔ ([32, 32] : Bs).isPrefixOf (b :: s) = true ∨ Lib.contains s [32, 32] = true := by
  have e0 : Lib.index (b :: s) [32, 32] = if ([32, 32] : Bs).isPrefixOf (b :: s) = true then 0 else if (Lib.index s [32, 32] == -1) = true then -1 else Lib.index s [32, 32] + 1 := rfl
  unfold Lib.contains
  rw [e0]
  have := Lib.index_ge s [32, 32]
  by_cases h : ([32, 32] : Bs).isPrefixOf (b :: s) = true
  · rw [if_pos h]; simp [h]
  · rw [if_neg h]
    by_cases h2 : Lib.index s [32, 32] = -1
    · have e : (Lib.index s [32, 32] == -1) = true := by simpa using h2
      rw [if_pos e, h2]; simp [h]
    · have e : ¬ (Lib.index s [32, 32] == -1) = true := by simpa using h2
      rw [if_neg e]
      simp only [decide_eq_true_eq]
      constructor
      · intro q; exact .inr (by omega)
      · rintro (q | q)
        · exact absurd q h
        · omega
theorem qk : ∀ s : Bs, [] ∈ (spB 32 s).tail ↔ dy s [32] = true ∨ Lib.contains s [32, 32] = true
  | [] => by
    have h1 : dy [] [32] = false := by
      cases q : dy [] [32] with
      | false => rfl
      | true => obtain ⟨t, ht⟩ := fa.1 q; simp at ht
    have h2 : Lib.contains [] [32, 32] = false := by decide
    rw [h1, h2]; simp [spB]
  | b :: s => by
    rw [sv, rG]
    have ih := qk s
    cases s with
    | nil =>
      have h2 : Lib.contains [] [32, 32] = false := by decide
      rw [h2]
      by_cases hb : b = 32
      · subst hb
        have h1 : dy [32] [32] = true := fa.2 ⟨[], rfl⟩
        rw [if_pos rfl, h1]; simp [spB]
      · have h1 : ¬ dy [b] [32] = true := by
          intro q
          obtain ⟨t, ht⟩ := fa.1 q
          cases t with
          | nil => exact hb (List.cons.inj ht).1.symm
          | cons d t => simp at ht
        rw [if_neg hb]
        have h3 : ([32, 32] : Bs).isPrefixOf [b] = false := by simp [List.isPrefixOf]
        rw [h3]
        simp [spB, h1]
    | cons c s =>
      rw [rm]
      by_cases hb : b = 32
      · subst hb
        rw [if_pos rfl, m6, ih]
        by_cases hc : c = 32
        · subst hc
          have h3 : ([32, 32] : Bs).isPrefixOf (32 :: 32 :: s) = true := by simp [List.isPrefixOf]
          rw [h3]; simp
        · have h3 : ([32, 32] : Bs).isPrefixOf (32 :: c :: s) = false := by simp [List.isPrefixOf, Ne.symm hc]
          rw [h3]; simp [hc]
      · rw [if_neg hb, ih]
        have h3 : ([32, 32] : Bs).isPrefixOf (b :: c :: s) = false := by simp [List.isPrefixOf, Ne.symm hb]
        rw [h3]; simp
theorem od {l : Bs} (h : ¬ l = []) : [] ∈ spB 32 l ↔ (l.getD 0 0 = 32 ∨ dy l [32] = true) ∨ Lib.contains l [32, 32] = true := by
  cases l with
  | nil => exact absurd rfl h
  | cons b s =>
    rw [m6, qk, or_assoc]
    simp [List.getD]
/-plain-/
/-plain-/
theorem tD (n : Nat) : (((n + 1 : Nat) : Int) - 1).toNat = n := by omega
theorem jA {l : List Bs} {a b : Bs} : (l ++ [a]).set l.length b = l ++ [b] := by simp
theorem uD {xs : List Bs} {k : Nat} (h : k < xs.length) (h2 : k < 71) (h3 : 100 < (xs.getD k []).length) : grB xs = true := by
  unfold grB
  rw [Bool.or_eq_true]
  exact .inl (List.any_eq_true.2 ⟨k, List.mem_range.2 (by omega), by simpa using h3⟩)
theorem uy {xs : List Bs} {k : Nat} (h : ¬ (k < xs.length ∧ k < 71)) (hq : ∀ q, q < k → (xs.getD q []).length ≤ 100) : grB xs = decide (70 < (xs.length : Int)) := by
  unfold grB
  have : (List.range (min xs.length 71)).any (fun i => decide (100 < (xs.getD i []).length)) = false := by
    rw [List.any_eq_false]
    intro i hi
    have := List.mem_range.1 hi
    have := hq i (by omega)
    simp; exact this
  rw [this, Bool.false_or]
/-plain-/
theorem bz (n : Int) : inK .u64 n ↔ 0 ≤ n ∧ n ≤ 18446744073709551615 := by
  simp [inK, IntKind.min, IntKind.max, IntKind.signed, IntKind.bits]
def uI : List UInt8 := [48, 49, 50, 51, 52, 53, 54, 55, 56, 57, 97, 98, 99, 100, 101, 102, 103, 104, 105, 106, 107, 108, 109, 110, 111, 112, 113, 114, 115, 116, 117, 118, 119, 120, 121, 122]
def c36 (n : Nat) : Int := ((uI.getD n 0).toNat : Int)
def rO : Nat → Nat → List Int
  | 0, n => [c36 n]
  | f + 1, n => if n < 36 then [c36 n] else rO f (n / 36) ++ [c36 (n % 36)]
def d36 (n : Nat) : List Int := rO 3 n
def B36 (j u : Nat) : Prop := (j = 0 ∧ u < 1679616) ∨ (j = 1 ∧ u < 46656) ∨ (j = 2 ∧ u < 1296) ∨ (j = 3 ∧ u < 36)
structure BUF (n u j : Nat) (l : List Int) : Prop where
  b : B36 j u
  len : l.length = 65
  eq : d36 n = rO (3 - j) u ++ l.drop (65 - j)
/-plain-/
/-plain-/
def pfB (v w : List Int) : Bool := decide ((cmn v w : Int) = w.length)
def pO (o : Int) : Bool := decide (o < 0) || decide (1048576 < o)
def prO (n : Int) (t : TRC) : Int := if ¬ bp t.1 n = 0 then bp t.1 n else if ¬ t.2.1.length = t.1.length then 1 else if 0 ≤ gn pO t.2.1 then 2 else 0
theorem kY {n : Int} {t : TRC} (h : ¬ bp t.1 n = 0) : prO n t = bp t.1 n := if_pos h
theorem lM {n : Int} {t : TRC} (h : bp t.1 n = 0) (h2 : ¬ t.2.1.length = t.1.length) : prO n t = 1 := by unfold prO; rw [if_neg (fun k => k h), if_pos h2]
theorem nj {n : Int} {t : TRC} (h : bp t.1 n = 0) (h2 : t.2.1.length = t.1.length) (h3 : 0 ≤ gn pO t.2.1) : prO n t = 2 := by unfold prO; rw [if_neg (fun k => k h), if_neg (fun k => k h2), if_pos h3]
theorem na {n : Int} {t : TRC} (h : bp t.1 n = 0) (h2 : t.2.1.length = t.1.length) (h3 : ¬ 0 ≤ gn pO t.2.1) : prO n t = 0 := by unfold prO; rw [if_neg (fun k => k h), if_neg (fun k => k h2), if_neg h3]
def dfN (a b : TRC) : Nat := min (cmn a.1 b.1) (min a.2.1.length b.2.1.length)
def dfO (a b : TRC) : Int := if cmn (a.2.1.take (dfN a b)) (b.2.1.take (dfN a b)) < dfN a b then (cmn (a.2.1.take (dfN a b)) (b.2.1.take (dfN a b)) : Int) else -1
theorem u9 {n : Int} {t : TRC} (h : prO n t = 0) : bp t.1 n = 0 ∧ t.2.1.length = t.1.length := by
  by_cases h1 : bp t.1 n = 0
  · refine ⟨h1, ?_⟩
    rcases Decidable.em (t.2.1.length = t.1.length) with q | q
    · exact q
    · rw [lM h1 q] at h; cases h
  · rw [kY h1] at h; exact absurd h h1
/-plain-/
def dJ (x y : Int) : Int := if x < y then -1 else if y < x then 1 else 0
def orI (a b : Int) : Int := if ¬ a = 0 then a else b
theorem j5 {a b : List Int} {k : Nat} (hq : ∀ q, q < k → a.getD q 0 = b.getD q 0) (h1 : k < a.length) (h2 : k < b.length) (h : ¬ dJ (a.getD k 0) (b.getD k 0) = 0) : dx a b = dJ (a.getD k 0) (b.getD k 0) := by
  have hne : ¬ a.getD k 0 = b.getD k 0 := fun e => h (by unfold dJ; rw [if_neg (by omega), if_neg (by omega)])
  have hc := ee hq (by omega) (by omega) (fun h9 => hne h9.2.2)
  unfold dx dJ
  rw [hc]
  by_cases hl : a.getD k 0 < b.getD k 0
  · rw [if_neg (by omega), if_pos (.inr ⟨h2, hl⟩), if_pos hl]
  · rw [if_neg (by omega), if_neg (by omega), if_neg hl, if_pos (by omega)]
theorem fC {a b : List Int} (hq : ∀ q, q < b.length → a.getD q 0 = b.getD q 0) (h : b.length < a.length) : dx a b = 1 := by
  have hc := ee hq (by omega) (by omega) (by omega)
  unfold dx
  rw [hc, if_neg (by omega), if_neg (by omega)]
theorem dg {a b : List Int} (hq : ∀ q, q < a.length → a.getD q 0 = b.getD q 0) (h : a.length ≤ b.length) : dx a b = if a.length < b.length then -1 else 0 := by
  have hc := ee hq (by omega) (by omega) (by omega)
  unfold dx
  rw [hc]
  by_cases hl : a.length < b.length
  · rw [if_neg (by omega), if_pos (by omega), if_pos hl]
  · rw [if_pos (by omega), if_neg hl]
theorem ta {x y : Int} (h : dJ x y = 0) : x = y := by
  unfold dJ at h
  split at h
  · omega
  · split at h <;> omega
theorem uh (a b : List Int) : orI (dJ a.length b.length) (dx a b) = bK a b := by
  unfold orI bK
  by_cases h1 : a.length < b.length
  · have e1 : dJ (a.length : Int) (b.length : Int) = -1 := if_pos (by omega)
    rw [e1, if_pos (by decide), if_pos h1]
  · by_cases h2 : b.length < a.length
    · have e1 : dJ (a.length : Int) (b.length : Int) = 1 := by unfold dJ; rw [if_neg (by omega), if_pos (by omega)]
      rw [e1, if_pos (by decide), if_neg h1, if_pos h2]
    · have e1 : dJ (a.length : Int) (b.length : Int) = 0 := by unfold dJ; rw [if_neg (by omega), if_neg (by omega)]
      rw [e1, if_neg (by simp), if_neg h1, if_neg h2]
end Go.AV
