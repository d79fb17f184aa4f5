/- Contracts of functions of this seat, each out of a walk through its code, and plain facts on what they compute. Conditions: those that each theorem names. -/
import Derived.Test.YtgmgnkmgofkfpaaDoorW04
set_option linter.unusedSimpArgs false
set_option linter.unusedVariables false
namespace Go.AV
open Nat renaming reduceEqDiff → E, reduceAdd → D, reduceLeDiff → J, reduceLT → Y, reduceMul → U, reduceSub → V
open List renaming set_cons_zero → au, set_cons_succ → ar
/-plain-/
/-! The automaton that is built from a search. -/
structure LCL (A : STP) (n : Nat) (L : List W3) : Prop where
  nd : (L.map Prod.fst).Nodup
  cl : ∀ j, j < L.length → ∀ x, x < n → A (L.getD j w30).1 x ∈ L.map Prod.fst
variable {A : STP} {G : PP → Bool} {n : Nat} {L : List W3}
end Go.AV
namespace Go.AV
open Nat renaming reduceEqDiff → E, reduceAdd → D, reduceLeDiff → J, reduceLT → Y, reduceMul → U, reduceSub → V
open List renaming set_cons_zero → au, set_cons_succ → ar
/-plain-/
/-! The least state of a class. -/
def Dfa.sto (d : Dfa) : Nat → Nat → Nat
  | 0, i => i
  | f + 1, i => if d.cn (i + 1) = d.cn i then i else d.sto f (i + 1)
def Dfa.cls (d : Dfa) : List Int := d.cl (d.sto (d.nx.length + 1) 0 + 1)
/-- The least state from s on of each class. -/
def fsV (cl : List Int) (n s c : Nat) : Int := match (List.range n).find? (fun q => decide (s ≤ q) && decide (cl.getD q 0 = (c : Int))) with | some q => (q : Int) | none => 0
def fsL (cl : List Int) (n s : Nat) : List Int := (List.range n).map fun c => fsV cl n s c
def Dfa.rep (d : Dfa) (s : Int) : Int := (fsL d.cls d.nx.length 0).getD (d.cls.getD s.toNat 0).toNat 0
structure RPR (d : Dfa) (s r : Int) : Prop where
  rg : 0 ≤ r ∧ r < d.nx.length
  le : r ≤ s
  cl : d.cls.getD r.toNat 0 = d.cls.getD s.toNat 0
  mi : ∀ q : Nat, (q : Int) < r → d.cls.getD q 0 ≠ d.cls.getD s.toNat 0
end Go.AV
namespace Go.AV
open Nat renaming reduceEqDiff → E, reduceAdd → D, reduceLeDiff → J, reduceLT → Y, reduceMul → U, reduceSub → V
open List renaming set_cons_zero → au, set_cons_succ → ar
/-plain-/
/-! On drepTh. -/
structure M1OK (d : Dfa) (q : PP) (x : Nat) : Prop where
  r1 : 0 ≤ q.1 ∧ q.1 < d.nx.length
  rl : ((d.nx.getD q.1.toNat []).length : Int) = d.inp
  t1 : 0 ≤ (d.nx.getD q.1.toNat []).getD x 0 ∧ (d.nx.getD q.1.toNat []).getD x 0 < d.nx.length
  c1 : 0 ≤ d.cls.getD ((d.nx.getD q.1.toNat []).getD x 0).toNat 0 ∧ d.cls.getD ((d.nx.getD q.1.toNat []).getD x 0).toNat 0 < d.nx.length
  e : d.rep (d.dl q.1 x) = (fsL d.cls d.nx.length 0).getD (d.cls.getD ((d.nx.getD q.1.toNat []).getD x 0).toNat 0).toNat 0
end Go.AV
namespace Go.AV
open Nat renaming reduceEqDiff → E, reduceAdd → D, reduceLeDiff → J, reduceLT → Y, reduceMul → U, reduceSub → V
open List renaming set_cons_zero → au, set_cons_succ → ar
/-plain-/
/-! On drepTh, dsimTh, minqTh. -/
structure SHP (d : Dfa) (P : List W3) (k : Nat) : Prop where
  rg : 0 ≤ (P.getD k w30).1.1 ∧ (P.getD k w30).1.1 < d.nx.length
end Go.AV
namespace Go.AV
open Nat renaming reduceEqDiff → E, reduceAdd → D, reduceLeDiff → J, reduceLT → Y, reduceMul → U, reduceSub → V
open List renaming set_cons_zero → au, set_cons_succ → ar
/-plain-/
/-! On drcTh, compTh, shapesTh. -/
def rr (m : Mly) : STP := fun q x => (m.nxt q.1 x, m.out q.1 x)
def s6 (q : PP) : Bool := decide (q.2 = 1)
def pj (m : Mly) : Bool := m.ot.flatten.any fun o => decide (1 < o)
def rx (m : Mly) (acc : Bool) : List W3 := pG (rr m) m.inp.toNat (m.nx.length * 2) (m.st, bI1 acc)
def fmE (m : Mly) (acc : Bool) : Int := if ¬ cp m = 0 then cp m else if pj m = true then 1 else dBE (rx m acc)
def fmD (m : Mly) (acc : Bool) : Dfa := if ¬ cp m = 0 then nh else if pj m = true then nh else dBD (rr m) s6 m.inp.toNat (rx m acc)
end Go.AV
namespace Go.AV
open Nat renaming reduceEqDiff → E, reduceAdd → D, reduceLeDiff → J, reduceLT → Y, reduceMul → U, reduceSub → V
open List renaming set_cons_zero → au, set_cons_succ → ar
/-plain-/
/-! On drepTh. -/
end Go.AV
namespace Go.AV
open Nat renaming reduceEqDiff → E, reduceAdd → D, reduceLeDiff → J, reduceLT → Y, reduceMul → U, reduceSub → V
open List renaming set_cons_zero → au, set_cons_succ → ar
/-plain-/
/-! On drepTh, sigTh, dfmTh. -/
def lq (P : Nat → Bool) (s : Nat) : Nat := ((List.range s).find? P).getD s
def rc0 (t : Dfa) (s : Nat) : Int := (lq (fun q => decide (t.acc.getD q false = t.acc.getD s false)) s : Int)
def rcF (t : Dfa) (cl : List Int) (s : Nat) : Int := (lq (fun q => decide (t.sg cl q = t.sg cl s)) s : Int)
def rcl (t : Dfa) : Nat → List Int
  | 0 => (List.range t.nx.length).map (rc0 t)
  | r + 1 => (List.range t.nx.length).map (rcF t (rcl t r))
def rC (t : Dfa) : List Int := rcl t t.nx.length
structure RCK (t : Dfa) : Prop where
  rg : ∀ s, s < t.nx.length → 0 ≤ (rC t).getD s 0 ∧ (rC t).getD s 0 ≤ s
  eq : ∀ s u, s < t.nx.length → u < t.nx.length → ((rC t).getD s 0 = (rC t).getD u 0 ↔ DEQ t t s u)
  id : ∀ s, s < t.nx.length → (rC t).getD ((rC t).getD s 0).toNat 0 = (rC t).getD s 0
/-! The states that name a class, and their numbers. -/
end Go.AV
namespace Go.AV
open Nat renaming reduceEqDiff → E, reduceAdd → D, reduceLeDiff → J, reduceLT → Y, reduceMul → U, reduceSub → V
open List renaming set_cons_zero → au, set_cons_succ → ar
/-plain-/
/-! On drmTh: the reference's Min is the program's. -/
/-! Two minimal automata. -/
end Go.AV
namespace Go.AV
open Nat renaming reduceEqDiff → E, reduceAdd → D, reduceLeDiff → J, reduceLT → Y, reduceMul → U, reduceSub → V
open List renaming set_cons_zero → au, set_cons_succ → ar
/-plain-/
/-! On dmeqTh, dfmTh. -/
end Go.AV
namespace Go.AV
open Nat renaming reduceEqDiff → E, reduceAdd → D, reduceLeDiff → J, reduceLT → Y, reduceMul → U, reduceSub → V
open List renaming set_cons_zero → au, set_cons_succ → ar
/-plain-/
/-! On dmeqTh, dfmTh, dselfTh. -/
theorem g0 {n : Int} {w : List Int} (hn : 1 ≤ n ∧ n ≤ 1024) (hw : eH n w) (hl : w.length ≤ 1024) : cm w n = 0 := oF hn.1 hn.2 ⟨hl, p4 hw⟩
theorem ka {n : Int} {w : List Int} (h : cm w n = 0) : eH n w := oT (iZ h).sym
/-! Combinations. -/
/-! Differences. -/
/-! Counting. -/
def cV (d : Dfa) (k : Nat) : Int := (nO d k).getD d.st.toNat 0
structure CNT (d : Dfa) (k : Nat) : Prop where
  e1 : cuE d k = 0
  e2 : cuE (coD d) k = 0
  v1 : cuV d k = cV d k
  x0 : 0 ≤ cuV d k
  y0 : 0 ≤ cuV (coD d) k
  sm : cuV d k + cuV (coD d) k = d.inp ^ k
  pb : d.inp ^ k ≤ 205891132094649
  pp : 1 ≤ d.inp ^ k
def qC (d : Dfa) (k : Nat) : Int := match (List.range k).find? (fun j => decide (0 < cV d j)) with | some j => (j : Int) | none => -1
/-- The shortest accepted word. -/
structure SHO (d : Dfa) (k : Nat) : Prop where
  yes : 0 ≤ qC d k → qd d = true ∧ ((nL d).length : Int) = qC d k
  no : qd d = false → qC d k < 0 ∧ nL d = []
  ac : qd d = true → acV d (nL d) = true ∧ acE d (nL d) = 0
/-! There and back. -/
structure TOM (d : Dfa) (M : Mly) : Prop where
  e : toE d = 0
  eq : M = ⟨d.inp, d.st, d.nx, d.om⟩
  ok : MOK M
structure TRP (d : Dfa) (acc : Bool) : Prop where
  fe : fmE (toM d) acc = 0
  tw : ru (fmD (toM d) acc) d = 0
  nd : rZ (fmD (toM d) acc) d = false
end Go.AV
namespace Go.AV
open Nat renaming reduceEqDiff → E, reduceAdd → D, reduceLeDiff → J, reduceLT → Y, reduceMul → U, reduceSub → V
open List renaming set_cons_zero → au, set_cons_succ → ar
/-plain-/
/-! The laws of mappers. On pmdTh, pcoTh, dlawTh. -/
theorem lM {p : Mpr} {can : List Bool} {x : Int} {s c : Nat} (h : fcP p can x s c = true) (hc : c < p.inp.toNat) : fcV p can x s ≤ c := by
  unfold fcV
  cases hf : (List.range p.inp.toNat).find? (fcP p can x s) with
  | none => exact absurd h (List.find?_eq_none.1 hf c (List.mem_range.2 hc))
  | some z =>
    rw [List.find?_eq_some_iff_getElem] at hf
    obtain ⟨hp, i, hi, e1, hm⟩ := hf
    simp at hi e1
    subst e1
    show i ≤ c
    by_cases e : c < i
    · have := hm c e; simp at this; rw [this] at h; cases h
    · omega
theorem pm {p : Mpr} {can : List Bool} {s c : Int} (hc : 0 ≤ c ∧ c < p.inp) (h : can.getD (p.tx s c).toNat false = true) : fcP p can (p.sx s c) s.toNat c.toNat = true := by
  unfold fcP
  rw [Bool.and_eq_true, decide_eq_true_eq]
  exact ⟨rfl, h⟩
theorem l8 {p : Mpr} (hp : POK p) : ∀ (w : List Int) {s : Int}, (0 ≤ s ∧ s < p.nx.length) → eH p.inp w → (cnP p (p.im s w)).getD s.toNat false = true
  | [], s, hs, _ => by
    show (List.replicate p.nx.length true).getD s.toNat false = true
    have : s.toNat < p.nx.length := by omega
    simp [List.getD, this]
  | c :: w, s, hs, hw => by
    obtain ⟨h1, h2⟩ := eh.1 hw
    have h3 := l8 hp w (hp.tx hs h1) h2
    show (stC p (cnP p (p.im (p.tx s c) w)) (p.sx s c)).getD s.toNat false = true
    rw [kL (by omega), decide_eq_true_eq]
    have := lM (pm h1 h3) (by omega)
    omega
theorem pr {p : Mpr} (hp : POK p) : ∀ (v : List Int) {s : Int}, (0 ≤ s ∧ s < p.nx.length) → (cnP p v).getD s.toNat false = true → p.im s (coW p s v) = v ∧ eH p.inp (coW p s v)
  | [], _, _, _ => ⟨rfl, fun x hx => by cases hx⟩
  | x :: v, s, hs, h => by
    have h1 : fcV p (cnP p v) x s.toNat < p.inp.toNat := by
      have h9 : (stC p (cnP p v) x).getD s.toNat false = true := h
      rw [kL (by omega), decide_eq_true_eq] at h9; exact h9
    obtain ⟨h2, h3⟩ := nS hp hs h1
    have h4 : 0 ≤ (fcV p (cnP p v) x s.toNat : Int) ∧ (fcV p (cnP p v) x s.toNat : Int) < p.inp := by omega
    obtain ⟨i1, i2⟩ := pr hp v (hp.tx hs h4) h3
    refine ⟨?_, eh.2 ⟨h4, i2⟩⟩
    show p.sx s _ :: p.im (p.tx s _) (coW p (p.tx s _) v) = _
    rw [h2, i1]
def LLE (a b : List Int) : Prop := a = b ∨ (cmn a b < a.length ∧ cmn a b < b.length ∧ a.getD (cmn a b) 0 < b.getD (cmn a b) 0)
theorem kV : ∀ a : List Int, cmn a a = a.length
  | [] => rfl
  | x :: a => by simp [cmn, kV a]
theorem pO {a b : List Int} (hl : a.length = b.length) (h : LLE a b) : jM a b ≤ 0 := by
  unfold jM
  rw [if_neg (by omega), if_neg (by omega)]
  unfold iB
  rcases h with h | ⟨h1, h2, h3⟩
  · subst h; rw [if_pos ⟨kV a, kV a⟩]; decide
  · rw [if_neg (by omega), if_pos (.inr ⟨h2, h3⟩)]; decide
theorem p5 {p : Mpr} (hp : POK p) : ∀ (w : List Int) {s : Int}, (0 ≤ s ∧ s < p.nx.length) → eH p.inp w → LLE (coW p s (p.im s w)) w
  | [], _, _, _ => .inl rfl
  | c :: w, s, hs, hw => by
    obtain ⟨h1, h2⟩ := eh.1 hw
    have h3 := l8 hp w (hp.tx hs h1) h2
    have h4 := lM (pm h1 h3) (by omega)
    show LLE ((fcV p (cnP p (p.im (p.tx s c) w)) (p.sx s c) s.toNat : Int) :: coW p (p.tx s (fcV p (cnP p (p.im (p.tx s c) w)) (p.sx s c) s.toNat)) (p.im (p.tx s c) w)) (c :: w)
    generalize fcV p (cnP p (p.im (p.tx s c) w)) (p.sx s c) s.toNat = z at h4
    by_cases e : (z : Int) = c
    · rw [e]
      rcases p5 hp w (hp.tx hs h1) h2 with h | ⟨g1, g2, g3⟩
      · rw [h]; exact .inl rfl
      · refine .inr ?_
        have e2 : cmn (c :: coW p (p.tx s c) (p.im (p.tx s c) w)) (c :: w) = cmn (coW p (p.tx s c) (p.im (p.tx s c) w)) w + 1 := by simp [cmn]
        rw [e2]
        exact ⟨by rw [List.length_cons]; omega, by rw [List.length_cons]; omega, g3⟩
    · refine .inr ?_
      have e2 : ∀ l : List Int, cmn ((z : Int) :: l) (c :: w) = 0 := fun l => by simp [cmn, e]
      rw [e2]
      exact ⟨by simp, by simp, by show (z : Int) < c; omega⟩
theorem pE {p : Mpr} {w : List Int} (h : abE p w = 0) : POK p ∧ cm w p.inp = 0 ∧ abV p w = p.im p.st w := by
  have hv : bQ p = 0 := by
    unfold abE at h; split at h
    · omega
    · omega
  have hw : cm w p.inp = 0 := by
    unfold abE at h; rw [if_neg (fun k => k hv)] at h; exact h
  exact ⟨j2 hv, hw, (jf hv hw).2⟩
theorem pT {p : Mpr} {w : List Int} (h : ¬ abE p w = 0) : abV p w = [] := if_neg h
theorem ng {p : Mpr} (hp : POK p) : ∀ (w : List Int) {s : Int}, (0 ≤ s ∧ s < p.nx.length) → eH p.inp w → eH p.ab (p.im s w)
  | [], _, _, _ => fun x hx => by cases hx
  | c :: w, s, hs, hw => by
    obtain ⟨h1, h2⟩ := eh.1 hw
    exact eh.2 ⟨hp.sx hs h1, ng hp w (hp.tx hs h1) h2⟩
theorem pL {p : Mpr} {w : List Int} (h : abE p w = 0) : (pcB p (abV p w) = true ∧ pcE p (abV p w) = 0) ∧ (abE p (pcW p (abV p w)) = 0 ∧ abV p (pcW p (abV p w)) = abV p w) ∧ (abV p w).length = w.length ∧ jM (pcW p (abV p w)) w ≤ 0 := by
  obtain ⟨hp, hw, hv⟩ := pE h
  have hs : 0 ≤ p.st ∧ p.st < p.nx.length := ⟨hp.s1, hp.s2⟩
  have hws := ka hw
  have hwl := (iZ hw).len
  have hl : (abV p w).length = w.length := by rw [hv, lc]
  have a1 := hp.b1; have a2 := hp.b2; have a3 := hp.i1; have a4 := hp.i2
  have hE : pcE p (abV p w) = 0 := by
    unfold pcE
    rw [if_neg (fun k => k hp.valid)]
    exact g0 ⟨a1, by omega⟩ (by rw [hv]; exact ng hp w hs hws) (by omega)
  have hB : pcB p (abV p w) = true := by
    unfold pcB
    rw [if_pos hE, hv]
    exact l8 hp w hs hws
  have hW : pcW p (abV p w) = coW p p.st (abV p w) := by unfold pcW; rw [if_pos hB]
  obtain ⟨c1, c2⟩ := pr hp (abV p w) hs (by rw [hv]; exact l8 hp w hs hws)
  have hE2 : cm (coW p p.st (abV p w)) p.inp = 0 := g0 ⟨a3, by omega⟩ c2 (by rw [dH]; omega)
  obtain ⟨d1, d2⟩ := jf hp.valid hE2
  rw [hW]
  refine ⟨⟨hB, hE⟩, ⟨d1, by rw [d2, c1]⟩, hl, pO (by rw [dH]; omega) ?_⟩
  rw [hv]; exact p5 hp w hs hws
/-! Models. -/
/-! The words. -/
end Go.AV
namespace Go.Proofs.YtgmgnkmgofkfpaaDoor
open Go Go.AV
open Nat renaming reduceEqDiff → E, reduceAdd → D, reduceLeDiff → J, reduceLT → Y, reduceMul → U, reduceSub → V
open List renaming set_cons_zero → au, set_cons_succ → ar
set_option maxRecDepth 100000 in
theorem mK (p : Mpr) : cq Tryd.prog 15 [p.av] (.one (.bool ((decide ((p.nx.length : Int) ≤ 10) && decide ((p.sy.length : Int) ≤ 10)) && decide (p.inp ≤ 6)))) := by
 refine bB Tryd.func15 rfl (by kernel_rfl) (Nat.le_of_ble_eq_true rfl) rfl fun C hP hN hB => ?_
 replace hN : C.N = 18 := hN
 simp only [ad, D]
 refine ag fun K1 hK1 => ?_
 refine ao hP hN rfl ?_
 iterate 2 (refine af rfl fun K0 Z => ?_; simp only [zE, op1, ev, lkp, ak, aj, dc, ax, reduceCtorEq, E, D, J, Y, U, V, Tryd.st24, Tryd.td24, Tryd.td4, Mpr.av]; (repeat refine And.intro (by first | omega | assumption | exact rfl) ?_); refine Z _ ?_; clear Z K0; simp only [put, app, ae, ai, zE, zS, D])
 refine am ?_
 refine hK1 _ ?_; clear hK1; refine ah [0, 1, 2] ?_; simp only [aa, lkp, zE, reduceCtorEq, E, ad, D]
 refine ag fun K2 hK2 => ?_
 refine ao hP hN rfl ?_
 iterate 4 (refine af rfl fun K0 Z => ?_; simp only [zE, op1, ev, lkp, ak, aj, az, aI, Nat.mul_one, aB, aG, acs, Ty.dflt, zG, aA, aH, bH, bt, bj, bl, bI, Nat.div_one, aL, bm, Ty.size, aK, dite_true, aF, aD, aE, aw, aC, aU, reduceCtorEq, E, D, J, Y, U, V, Tryd.el22, Tryd.st24, Tryd.td22, Tryd.td24, Tryd.td3, Tryd.td4, Mpr.av]; (repeat refine And.intro (by first | omega | assumption | exact rfl) ?_); (first | refine Z _ ?_ | refine Or.inl (Z _ ?_)); clear Z K0; simp only [put, app, ae, ai, zE, zS, D])
 (refine af rfl fun K0 Z => ?_; simp only [zE, op1, ev, lkp, ak, aj, ev, reduceCtorEq, E, D, J, Y, U, V, Tryd.td4, Mpr.av]; refine Z _ ?_; clear Z K0; simp only [put, app, ae, ai, zE, zS, D])
 refine' aY (want := true) 4 rfl (m := 7) (by simp only [aa, lkp, zE, reduceCtorEq, E, ad, D]; exact rfl) (by kernel_rfl) rfl rfl rfl rfl rfl (fun hg3 => ?a3) ?b3 ?c3
 case a3 =>
  have hq3 := hg3; (try simp only [zB, reduceCtorEq] at hg3); simp only [List.take_succ_cons, List.take_zero, List.cons_append, List.nil_append]
  (refine ay rfl fun K0 Z => ?_; simp only [zE, op1, ev, lkp, ak, aj, az, reduceCtorEq, E, D, J, Y, U, V, Tryd.st24, Tryd.td24, Tryd.td4, Mpr.av]; (repeat refine And.intro (by first | omega | assumption | exact rfl) ?_); refine Z _ ?_; clear Z K0; simp only [put, app, ae, ai, zE, zS, D])
  (refine ay rfl fun K0 Z => ?_; simp only [zE, op1, ev, lkp, ak, aj, aI, Nat.mul_one, aB, aG, acs, Ty.dflt, zG, aA, reduceCtorEq, E, D, J, Y, U, V, Tryd.el22, Tryd.td22, Mpr.av]; (repeat refine And.intro (by first | omega | assumption | exact rfl) ?_); refine Z _ ?_; clear Z K0; simp only [put, app, ae, ai, zE, zS, D])
  (refine ay rfl fun K0 Z => ?_; simp only [zE, op1, ev, lkp, ak, aj, aH, bH, bt, bj, bl, bI, Nat.div_one, aL, bm, Ty.size, aK, dite_true, reduceCtorEq, E, D, J, Y, U, V, Tryd.el22, Tryd.td22, Tryd.td3, Mpr.av]; (repeat refine And.intro (by first | omega | assumption | exact rfl) ?_); (first | refine Z _ ?_ | refine Or.inl (Z _ ?_)); clear Z K0; simp only [put, app, ae, ai, zE, zS, D])
  (refine ay rfl fun K0 Z => ?_; simp only [zE, op1, ev, lkp, ak, aj, aF, aD, aE, aw, aC, aU, reduceCtorEq, E, D, J, Y, U, V, Tryd.td3, Tryd.td4, Mpr.av]; (repeat refine And.intro (by first | omega | assumption | exact rfl) ?_); refine Z _ ?_; clear Z K0; simp only [put, app, ae, ai, zE, zS, D])
  (refine af rfl fun K0 Z => ?_; simp only [zE, op1, ev, lkp, ak, aj, bz, reduceCtorEq, E, D, J, Y, U, V, Tryd.td4, Mpr.av]; refine Z _ ?_; clear Z K0; simp only [put, app, ae, ai, zE, zS, D])
  refine am ?_
  refine ⟨by simp only [aa, lkp, zE, reduceCtorEq, E, ad, D]; exact rfl, rfl, ?_, rfl⟩; (repeat refine aX rfl ?_); exact bE (by exact rfl) hq3
 case b3 => exact bD (by first | rfl | (simp [c0]; done) | decide)
 simp only [bq, bf]
 (refine af rfl fun K0 Z => ?_; simp only [zE, op1, ev, lkp, ak, aj, ev, reduceCtorEq, E, D, J, Y, U, V, Tryd.td4, Mpr.av]; refine Z _ ?_; clear Z K0; simp only [put, app, ae, ai, zE, zS, D])
 refine' aY (want := true) 3 rfl (m := 13) (by simp only [aa, lkp, zE, reduceCtorEq, E, ad, D]; exact rfl) (by kernel_rfl) rfl rfl rfl rfl rfl (fun hg4 => ?a4) ?b4 ?c4
 case a4 =>
  have hq4 := hg4; (try simp only [zB, reduceCtorEq] at hg4); simp only [List.take_succ_cons, List.take_zero, List.cons_append, List.nil_append]
  (refine ay rfl fun K0 Z => ?_; simp only [zE, op1, ev, lkp, ak, aj, az, reduceCtorEq, E, D, J, Y, U, V, Tryd.st24, Tryd.td24, Mpr.av]; (repeat refine And.intro (by first | omega | assumption | exact rfl) ?_); refine Z _ ?_; clear Z K0; simp only [put, app, ae, ai, zE, zS, D])
  (refine ay rfl fun K0 Z => ?_; simp only [zE, op1, ev, lkp, ak, aj, aI, Nat.mul_one, aB, aG, acs, Ty.dflt, zG, aA, reduceCtorEq, E, D, J, Y, U, V, Tryd.td3, Mpr.av]; (repeat refine And.intro (by first | omega | assumption | exact rfl) ?_); refine Z _ ?_; clear Z K0; simp only [put, app, ae, ai, zE, zS, D])
  (refine ay rfl fun K0 Z => ?_; simp only [zE, op1, ev, lkp, ak, aj, aF, aD, aE, aw, aC, aU, reduceCtorEq, E, D, J, Y, U, V, Tryd.td3, Tryd.td4, Mpr.av]; (repeat refine And.intro (by first | omega | assumption | exact rfl) ?_); refine Z _ ?_; clear Z K0; simp only [put, app, ae, ai, zE, zS, D])
  (refine af rfl fun K0 Z => ?_; simp only [zE, op1, ev, lkp, ak, aj, bz, reduceCtorEq, E, D, J, Y, U, V, Tryd.td4, Mpr.av]; refine Z _ ?_; clear Z K0; simp only [put, app, ae, ai, zE, zS, D])
  refine am ?_
  refine ⟨by simp only [aa, lkp, zE, reduceCtorEq, E, ad, D]; exact rfl, rfl, ?_, rfl⟩; (repeat refine aX rfl ?_); exact bE (by exact rfl) hq4
 case b4 => exact bD (by first | rfl | (simp [c0]; done) | decide)
 simp only [bq, bf]
 (refine af rfl fun K0 Z => ?_; simp only [zE, op1, ev, lkp, ak, aj, ev, reduceCtorEq, E, D, J, Y, U, V, Tryd.td4, Mpr.av]; refine Z _ ?_; clear Z K0; simp only [put, app, ae, ai, zE, zS, D])
 refine am ?_
 refine hK2 _ ?_; clear hK2; refine ah [0, 1, 2] ?_; simp only [aa, lkp, zE, reduceCtorEq, E, ad, D]
 refine aM ?_
 refine ⟨by first | exact .inl rfl | exact .inr rfl, _, rfl, ?_⟩; simp only [fzV, fz1, fzC, List.map_cons, List.map_nil, aa, lkp, zE, reduceCtorEq, E, ad, D, Mpr.av]
 refine VLE.of_eq ?_
 rfl
end Go.Proofs.YtgmgnkmgofkfpaaDoor
namespace Go.Proofs.YtgmgnkmgofkfpaaDoor
open Go Go.AV
open Nat renaming reduceEqDiff → E, reduceAdd → D, reduceLeDiff → J, reduceLT → Y, reduceMul → U, reduceSub → V
open List renaming set_cons_zero → au, set_cons_succ → ar
set_option maxRecDepth 100000 in
set_option maxHeartbeats 1000000 in
theorem qQ (p : Mpr) (w : List Int) : cq Tryd.prog 6 [p.av, .one (.list (.int .i64) w)] (.one (.bool true)) := by
 refine bB Tryd.func6 rfl (by kernel_rfl) (Nat.le_of_ble_eq_true rfl) rfl fun C hP hN hB => ?_
 replace hN : C.N = 78 := hN
 simp only [ad, D]
 refine ag fun K1 hK1 => ?_
 refine ao hP hN rfl ?_
 iterate 2 (refine af rfl fun K0 Z => ?_; simp only [zE, op1, ev, lkp, ak, aj, dc, ax, reduceCtorEq, E, D, J, Y, U, V, Tryd.st24, Tryd.td24, Tryd.td4, Mpr.av]; (repeat refine And.intro (by first | omega | assumption | exact rfl) ?_); refine Z _ ?_; clear Z K0; simp only [put, app, ae, ai, zE, zS, D])
 refine am ?_
 refine hK1 _ ?_; clear hK1; refine ah [0, 1, 2, 4] ?_; simp only [aa, lkp, zE, reduceCtorEq, E, ad, D]
 refine ag fun K2 hK2 => ?_
 refine ag fun K3 hK3 => ?_
 refine ao hP hN rfl ?_
 (refine af rfl fun K0 Z => ?_; simp only [zE, op1, ev, lkp, ak, aj, aI, Nat.mul_one, aB, aG, acs, Ty.dflt, zG, aA, reduceCtorEq, E, D, J, Y, U, V, Tryd.st24, Tryd.td24, Mpr.av]; (repeat refine And.intro (by first | omega | assumption | exact rfl) ?_); refine Z _ ?_; clear Z K0; simp only [put, app, ae, ai, zE, zS, D])
 refine af rfl fun K0 Z => ?_
 refine aZ (h := aP (mK p)) rfl rfl (by first | exact rfl | (simp only [ev, aa, lkp, zE, reduceCtorEq, E, ad, D]; exact rfl)) (by simp only [zE, zG, op1, ev, lkp, ak, aj, ax, acs, bp, mv1, mvC, Ty.dflt, reduceCtorEq, E, D, J, Y, U, V, Mpr.av]) ?_
 refine Z _ ?_; clear Z K0; simp only [put, app, ae, ai, zE, zS, D]
 (refine af rfl fun K0 Z => ?_; simp only [zE, op1, ev, lkp, ak, aj, fg, reduceCtorEq, E, D, J, Y, U, V, Tryd.td4, Mpr.av]; (repeat refine And.intro (by first | omega | assumption | exact rfl) ?_); refine Z _ ?_; clear Z K0; simp only [put, app, ae, ai, zE, zS, D])
 (refine af rfl fun K0 Z => ?_; simp only [zE, op1, ev, lkp, ak, aj, ev, reduceCtorEq, E, D, J, Y, U, V, Tryd.td4, Mpr.av]; refine Z _ ?_; clear Z K0; simp only [put, app, ae, ai, zE, zS, D])
 refine' aY (want := false) 3 rfl (m := 15) (by simp only [aa, lkp, zE, reduceCtorEq, E, ad, D]; exact rfl) (by kernel_rfl) rfl rfl rfl rfl rfl (fun hg4 => ?a4) ?b4 ?c4
 case a4 =>
  have hq4 := hg4; (try simp only [zB, reduceCtorEq] at hg4); simp only [List.take_succ_cons, List.take_zero, List.cons_append, List.nil_append]
  (refine ay rfl fun K0 Z => ?_; simp only [zE, op1, ev, lkp, ak, aj, ev, reduceCtorEq, E, D, J, Y, U, V, Tryd.el25, Tryd.td25, Mpr.av]; refine Z _ ?_; clear Z K0; simp only [put, app, ae, ai, zE, zS, D])
  (refine ay rfl fun K0 Z => ?_; simp only [zE, op1, ev, lkp, ak, aj, aH, bH, bt, bj, bl, bI, Nat.div_one, aL, bm, Ty.size, aK, dite_true, reduceCtorEq, E, D, J, Y, U, V, Tryd.el25, Tryd.td25, Tryd.td3, Mpr.av]; (repeat refine And.intro (by first | omega | assumption | exact rfl) ?_); (first | refine Z _ ?_ | refine Or.inl (Z _ ?_)); clear Z K0; simp only [put, app, ae, ai, zE, zS, D])
  (refine ay rfl fun K0 Z => ?_; simp only [zE, op1, ev, lkp, ak, aj, aF, aD, aE, aw, aC, aU, reduceCtorEq, E, D, J, Y, U, V, Tryd.td3, Tryd.td4, Mpr.av]; (repeat refine And.intro (by first | omega | assumption | exact rfl) ?_); refine Z _ ?_; clear Z K0; simp only [put, app, ae, ai, zE, zS, D])
  (refine af rfl fun K0 Z => ?_; simp only [zE, op1, ev, lkp, ak, aj, bz, reduceCtorEq, E, D, J, Y, U, V, Tryd.td4, Mpr.av]; refine Z _ ?_; clear Z K0; simp only [put, app, ae, ai, zE, zS, D])
  refine am ?_
  refine ⟨by simp only [aa, lkp, zE, reduceCtorEq, E, ad, D]; exact rfl, rfl, ?_, rfl⟩; (repeat refine aX rfl ?_); exact bE (by exact rfl) hq4
 case b4 => exact bD (by first | rfl | (simp [c0]; done) | decide)
 simp only [bq, bf]
 refine am ?_
 refine hK3 _ ?_; clear hK3; refine ah [0, 1, 2, 4, 19] ?_; simp only [aa, lkp, zE, reduceCtorEq, E, ad, D]
 refine aJ (by simp only [ev, aa, lkp, zE, reduceCtorEq, E, ad, D]; exact rfl) (fun hc5 => ?_) (fun hc5 => ?_)
 ·(try simp only [zB, reduceCtorEq] at hc5)
  refine ag fun K6 hK6 => ?_
  refine ao hP hN rfl ?_
  refine af rfl fun K0 Z => ?_
  refine aZ (h := aP gn) rfl rfl (by first | exact rfl | (simp only [ev, aa, lkp, zE, reduceCtorEq, E, ad, D]; exact rfl)) (by simp only [zE, zG, op1, ev, lkp, ak, aj, ax, acs, bp, mv1, mvC, Ty.dflt, reduceCtorEq, E, D, J, Y, U, V, Mpr.av]) ?_
  refine Z _ ?_; clear Z K0; simp only [put, app, ae, ai, zE, zS, D]
  (refine af rfl fun K0 Z => ?_; simp only [zE, op1, ev, lkp, ak, aj, ev, reduceCtorEq, E, D, J, Y, U, V, Tryd.td4, Mpr.av]; refine Z _ ?_; clear Z K0; simp only [put, app, ae, ai, zE, zS, D])
  refine am ?_
  refine hK6 _ ?_; clear hK6; refine ah [0, 1, 2, 4, 19] ?_; simp only [aa, lkp, zE, reduceCtorEq, E, ad, D]
  refine aM ?_
  refine ⟨by first | exact .inl rfl | exact .inr rfl, _, rfl, ?_⟩; simp only [fzV, fz1, fzC, List.map_cons, List.map_nil, aa, lkp, zE, reduceCtorEq, E, ad, D, Mpr.av]
  refine VLE.of_eq ?_
  first | rfl | (refine congrArg (fun b => AV.one (AC.bool b)) ?_; simp [hno]; done) | (refine congrArg (fun b => AV.one (AC.bool b)) ?_; simp [k1, k2, k3, k4, k5, k6]; done)
 ·(try simp only [zB, reduceCtorEq] at hc5)
  refine aQ ?_
  refine hK2 _ ?_; clear hK2; refine ah [0, 1, 2, 4, 19] ?_; simp only [aa, lkp, zE, reduceCtorEq, E, ad, D]
  refine ag fun K7 hK7 => ?_
  refine ao hP hN rfl ?_
  iterate 2 (refine af rfl fun K0 Z => ?_; simp only [zE, op1, ev, lkp, ak, aj, aI, Nat.mul_one, aB, aG, acs, Ty.dflt, zG, aA, reduceCtorEq, E, D, J, Y, U, V, Tryd.el25, Tryd.st24, Tryd.td24, Tryd.td25, Mpr.av]; (repeat refine And.intro (by first | omega | assumption | exact rfl) ?_); refine Z _ ?_; clear Z K0; simp only [put, app, ae, ai, zE, zS, D])
  refine af rfl fun K0 Z => ?_
  refine aZ (h := aP (lp p w)) rfl rfl (by first | exact rfl | (simp only [ev, aa, lkp, zE, reduceCtorEq, E, ad, D]; exact rfl)) (by simp only [zE, zG, op1, ev, lkp, ak, aj, ax, acs, bp, mv1, mvC, Ty.dflt, reduceCtorEq, E, D, J, Y, U, V, Mpr.av]) ?_
  refine Z _ ?_; clear Z K0; simp only [put, app, ae, ai, zE, zS, D]
  iterate 5 (refine af rfl fun K0 Z => ?_; simp only [zE, op1, ev, lkp, ak, aj, bU, reduceCtorEq, E, D, J, Y, U, V, Tryd.el25, Tryd.td1, Tryd.td25, Tryd.td26, Mpr.av]; refine Z _ ?_; clear Z K0; simp only [put, app, ae, ai, zE, zS, D])
  refine am ?_
  refine hK7 _ ?_; clear hK7; refine ah [0, 1, 2, 4, 5, 6, 19] ?_; simp only [aa, lkp, zE, reduceCtorEq, E, ad, D]
  refine ag fun K8 hK8 => ?_
  refine ag fun K9 hK9 => ?_
  refine ao hP hN rfl ?_
  iterate 2 (refine af rfl fun K0 Z => ?_; simp only [zE, op1, ev, lkp, ak, aj, aF, aD, aE, aw, aC, aU, reduceCtorEq, E, D, J, Y, U, V, Tryd.td26, Tryd.td4, Mpr.av]; (repeat refine And.intro (by first | omega | assumption | exact rfl) ?_); refine Z _ ?_; clear Z K0; simp only [put, app, ae, ai, zE, zS, D])
  refine am ?_
  refine hK9 _ ?_; clear hK9; refine ah [0, 1, 2, 4, 5, 6, 19, 28] ?_; simp only [aa, lkp, zE, reduceCtorEq, E, ad, D]
  refine aJ (by simp only [ev, aa, lkp, zE, reduceCtorEq, E, ad, D]; exact rfl) (fun hc10 => ?_) (fun hc10 => ?_)
  ·(try simp only [zB, reduceCtorEq] at hc10)
   have hno := pT (p := p) (w := w) hc10
   refine ag fun K11 hK11 => ?_
   refine ao hP hN rfl ?_
   iterate 3 (refine af rfl fun K0 Z => ?_; simp only [zE, op1, ev, lkp, ak, aj, aH, bH, bt, bj, bl, bI, Nat.div_one, aL, bm, Ty.size, aK, dite_true, aF, aD, aE, aw, aC, aU, reduceCtorEq, E, D, J, Y, U, V, Tryd.el25, Tryd.td25, Tryd.td3, Tryd.td4, Mpr.av]; (repeat refine And.intro (by first | omega | assumption | exact rfl) ?_); (first | refine Z _ ?_ | refine Or.inl (Z _ ?_)); clear Z K0; simp only [put, app, ae, ai, zE, zS, D])
   (refine af rfl fun K0 Z => ?_; simp only [zE, op1, ev, lkp, ak, aj, ev, reduceCtorEq, E, D, J, Y, U, V, Tryd.td4, Mpr.av]; refine Z _ ?_; clear Z K0; simp only [put, app, ae, ai, zE, zS, D])
   refine' aY (want := true) 1 rfl (m := 32) (by simp only [aa, lkp, zE, reduceCtorEq, E, ad, D]; exact rfl) (by kernel_rfl) rfl rfl rfl rfl rfl (fun hg12 => ?a12) ?b12 ?c12
   case a12 =>
    have hq12 := hg12; (try simp only [zB, reduceCtorEq] at hg12); simp only [List.take_succ_cons, List.take_zero, List.cons_append, List.nil_append]
    refine ay rfl fun K0 Z => ?_
    refine aZ (h := aP gn) rfl rfl (by first | exact rfl | (simp only [ev, aa, lkp, zE, reduceCtorEq, E, ad, D]; exact rfl)) (by simp only [zE, zG, op1, ev, lkp, ak, aj, ax, acs, bp, mv1, mvC, Ty.dflt, reduceCtorEq, E, D, J, Y, U, V, Mpr.av]) ?_
    refine Z _ ?_; clear Z K0; simp only [put, app, ae, ai, zE, zS, D]
    (refine af rfl fun K0 Z => ?_; simp only [zE, op1, ev, lkp, ak, aj, bz, reduceCtorEq, E, D, J, Y, U, V, Tryd.td4, Mpr.av]; refine Z _ ?_; clear Z K0; simp only [put, app, ae, ai, zE, zS, D])
    refine am ?_
    refine ⟨by simp only [aa, lkp, zE, reduceCtorEq, E, ad, D]; exact rfl, rfl, ?_, rfl⟩; (repeat refine aX rfl ?_); exact bE (by exact rfl) hq12
   case b12 => exact bD (by first | rfl | (simp [c0]; done) | decide)
   simp only [bq, bf]
   (refine af rfl fun K0 Z => ?_; simp only [zE, op1, ev, lkp, ak, aj, ev, reduceCtorEq, E, D, J, Y, U, V, Tryd.td4, Mpr.av]; refine Z _ ?_; clear Z K0; simp only [put, app, ae, ai, zE, zS, D])
   refine am ?_
   refine hK11 _ ?_; clear hK11; refine ah [0, 1, 2, 4, 5, 6, 19, 28] ?_; simp only [aa, lkp, zE, reduceCtorEq, E, ad, D]
   refine aM ?_
   refine ⟨by first | exact .inl rfl | exact .inr rfl, _, rfl, ?_⟩; simp only [fzV, fz1, fzC, List.map_cons, List.map_nil, aa, lkp, zE, reduceCtorEq, E, ad, D, Mpr.av]
   refine VLE.of_eq ?_
   first | rfl | (refine congrArg (fun b => AV.one (AC.bool b)) ?_; simp [hno]; done) | (refine congrArg (fun b => AV.one (AC.bool b)) ?_; simp [k1, k2, k3, k4, k5, k6]; done)
  ·(try simp only [zB, reduceCtorEq] at hc10)
   obtain ⟨⟨k1, k2⟩, ⟨k3, k4⟩, k5, k6⟩ := pL (p := p) (w := w) (by omega)
   refine aQ ?_
   refine hK8 _ ?_; clear hK8; refine ah [0, 1, 2, 4, 5, 6, 19, 28] ?_; simp only [aa, lkp, zE, reduceCtorEq, E, ad, D]
   refine ag fun K13 hK13 => ?_
   refine ao hP hN rfl ?_
   iterate 2 (refine af rfl fun K0 Z => ?_; simp only [zE, op1, ev, lkp, ak, aj, aI, Nat.mul_one, aB, aG, acs, Ty.dflt, zG, aA, reduceCtorEq, E, D, J, Y, U, V, Tryd.el25, Tryd.st24, Tryd.td24, Tryd.td25, Mpr.av]; (repeat refine And.intro (by first | omega | assumption | exact rfl) ?_); refine Z _ ?_; clear Z K0; simp only [put, app, ae, ai, zE, zS, D])
   refine af rfl fun K0 Z => ?_
   refine aZ (h := aP (nT p (abV p w))) rfl rfl (by first | exact rfl | (simp only [ev, aa, lkp, zE, reduceCtorEq, E, ad, D]; exact rfl)) (by simp only [zE, zG, op1, ev, lkp, ak, aj, ax, acs, bp, mv1, mvC, Ty.dflt, reduceCtorEq, E, D, J, Y, U, V, Mpr.av]) ?_
   refine Z _ ?_; clear Z K0; simp only [put, app, ae, ai, zE, zS, D]
   iterate 7 (refine af rfl fun K0 Z => ?_; simp only [zE, op1, ev, lkp, ak, aj, bU, reduceCtorEq, E, D, J, Y, U, V, Tryd.el25, Tryd.td1, Tryd.td2, Tryd.td25, Tryd.td26, Tryd.td4, Mpr.av]; refine Z _ ?_; clear Z K0; simp only [put, app, ae, ai, zE, zS, D])
   refine am ?_
   refine hK13 _ ?_; clear hK13; refine ah [0, 1, 2, 4, 5, 6, 7, 8, 9, 19, 28] ?_; simp only [aa, lkp, zE, reduceCtorEq, E, ad, D]
   refine ag fun K14 hK14 => ?_
   refine ao hP hN rfl ?_
   iterate 2 (refine af rfl fun K0 Z => ?_; simp only [zE, op1, ev, lkp, ak, aj, aI, Nat.mul_one, aB, aG, acs, Ty.dflt, zG, aA, reduceCtorEq, E, D, J, Y, U, V, Tryd.el25, Tryd.st24, Tryd.td24, Tryd.td25, Mpr.av]; (repeat refine And.intro (by first | omega | assumption | exact rfl) ?_); refine Z _ ?_; clear Z K0; simp only [put, app, ae, ai, zE, zS, D])
   refine af rfl fun K0 Z => ?_
   refine aZ (h := aP (lp p (pcW p (abV p w)))) rfl rfl (by first | exact rfl | (simp only [ev, aa, lkp, zE, reduceCtorEq, E, ad, D]; exact rfl)) (by simp only [zE, zG, op1, ev, lkp, ak, aj, ax, acs, bp, mv1, mvC, Ty.dflt, reduceCtorEq, E, D, J, Y, U, V, Mpr.av]) ?_
   refine Z _ ?_; clear Z K0; simp only [put, app, ae, ai, zE, zS, D]
   iterate 5 (refine af rfl fun K0 Z => ?_; simp only [zE, op1, ev, lkp, ak, aj, bU, reduceCtorEq, E, D, J, Y, U, V, Tryd.el25, Tryd.td1, Tryd.td25, Tryd.td26, Mpr.av]; refine Z _ ?_; clear Z K0; simp only [put, app, ae, ai, zE, zS, D])
   refine am ?_
   refine hK14 _ ?_; clear hK14; refine ah [0, 1, 2, 4, 5, 6, 7, 8, 9, 10, 11, 19, 28] ?_; simp only [aa, lkp, zE, reduceCtorEq, E, ad, D]
   refine ag fun K15 hK15 => ?_
   refine ao hP hN rfl ?_
   (refine af rfl fun K0 Z => ?_; simp only [zE, op1, ev, lkp, ak, aj, ev, reduceCtorEq, E, D, J, Y, U, V, Tryd.td4, Mpr.av]; refine Z _ ?_; clear Z K0; simp only [put, app, ae, ai, zE, zS, D])
   (refine af rfl fun K0 Z => ?_; simp only [zE, op1, ev, lkp, ak, aj, ev, reduceCtorEq, E, D, J, Y, U, V, Tryd.td4, Mpr.av]; refine Z _ ?_; clear Z K0; simp only [put, app, ae, ai, zE, zS, D])
   refine' aY (want := true) 2 rfl (m := 49) (by simp only [aa, lkp, zE, reduceCtorEq, E, ad, D]; exact rfl) (by kernel_rfl) rfl rfl rfl rfl rfl (fun hg16 => ?a16) ?b16 ?c16
   case a16 =>
    have hq16 := hg16; (try simp only [zB, reduceCtorEq] at hg16); simp only [List.take_succ_cons, List.take_zero, List.cons_append, List.nil_append]
    (refine ay rfl fun K0 Z => ?_; simp only [zE, op1, ev, lkp, ak, aj, ev, reduceCtorEq, E, D, J, Y, U, V, Tryd.td26, Mpr.av]; refine Z _ ?_; clear Z K0; simp only [put, app, ae, ai, zE, zS, D])
    (refine ay rfl fun K0 Z => ?_; simp only [zE, op1, ev, lkp, ak, aj, aF, aD, aE, aw, aC, aU, reduceCtorEq, E, D, J, Y, U, V, Tryd.td26, Tryd.td4, Mpr.av]; (repeat refine And.intro (by first | omega | assumption | exact rfl) ?_); refine Z _ ?_; clear Z K0; simp only [put, app, ae, ai, zE, zS, D])
    (refine af rfl fun K0 Z => ?_; simp only [zE, op1, ev, lkp, ak, aj, bz, reduceCtorEq, E, D, J, Y, U, V, Tryd.td4, Mpr.av]; refine Z _ ?_; clear Z K0; simp only [put, app, ae, ai, zE, zS, D])
    refine am ?_
    refine ⟨by simp only [aa, lkp, zE, reduceCtorEq, E, ad, D]; exact rfl, rfl, ?_, rfl⟩; (repeat refine aX rfl ?_); exact bE (by exact rfl) hq16
   case b16 => exact bD (by first | rfl | (simp [c0]; done) | decide)
   simp only [bq, bf]
   (refine af rfl fun K0 Z => ?_; simp only [zE, op1, ev, lkp, ak, aj, ev, reduceCtorEq, E, D, J, Y, U, V, Tryd.td4, Mpr.av]; refine Z _ ?_; clear Z K0; simp only [put, app, ae, ai, zE, zS, D])
   refine' aY (want := true) 2 rfl (m := 53) (by simp only [aa, lkp, zE, reduceCtorEq, E, ad, D]; exact rfl) (by kernel_rfl) rfl rfl rfl rfl rfl (fun hg17 => ?a17) ?b17 ?c17
   case a17 =>
    have hq17 := hg17; (try simp only [zB, reduceCtorEq] at hg17); simp only [List.take_succ_cons, List.take_zero, List.cons_append, List.nil_append]
    (refine ay rfl fun K0 Z => ?_; simp only [zE, op1, ev, lkp, ak, aj, ev, reduceCtorEq, E, D, J, Y, U, V, Tryd.td26, Mpr.av]; refine Z _ ?_; clear Z K0; simp only [put, app, ae, ai, zE, zS, D])
    (refine ay rfl fun K0 Z => ?_; simp only [zE, op1, ev, lkp, ak, aj, aF, aD, aE, aw, aC, aU, reduceCtorEq, E, D, J, Y, U, V, Tryd.td26, Tryd.td4, Mpr.av]; (repeat refine And.intro (by first | omega | assumption | exact rfl) ?_); refine Z _ ?_; clear Z K0; simp only [put, app, ae, ai, zE, zS, D])
    (refine af rfl fun K0 Z => ?_; simp only [zE, op1, ev, lkp, ak, aj, bz, reduceCtorEq, E, D, J, Y, U, V, Tryd.td4, Mpr.av]; refine Z _ ?_; clear Z K0; simp only [put, app, ae, ai, zE, zS, D])
    refine am ?_
    refine ⟨by simp only [aa, lkp, zE, reduceCtorEq, E, ad, D]; exact rfl, rfl, ?_, rfl⟩; (repeat refine aX rfl ?_); exact bE (by exact rfl) hq17
   case b17 => exact bD (by first | rfl | (simp [c0]; done) | decide)
   simp only [bq, bf]
   (refine af rfl fun K0 Z => ?_; simp only [zE, op1, ev, lkp, ak, aj, ev, reduceCtorEq, E, D, J, Y, U, V, Tryd.td4, Mpr.av]; refine Z _ ?_; clear Z K0; simp only [put, app, ae, ai, zE, zS, D])
   refine' aY (want := true) 3 rfl (m := 57) (by simp only [aa, lkp, zE, reduceCtorEq, E, ad, D]; exact rfl) (by kernel_rfl) rfl rfl rfl rfl rfl (fun hg18 => ?a18) ?b18 ?c18
   case a18 =>
    have hq18 := hg18; (try simp only [zB, reduceCtorEq] at hg18); simp only [List.take_succ_cons, List.take_zero, List.cons_append, List.nil_append]
    (refine ay rfl fun K0 Z => ?_; simp only [zE, op1, ev, lkp, ak, aj, ev, reduceCtorEq, E, D, J, Y, U, V, Tryd.el25, Tryd.td25, Mpr.av]; refine Z _ ?_; clear Z K0; simp only [put, app, ae, ai, zE, zS, D])
    (refine ay rfl fun K0 Z => ?_; simp only [zE, op1, ev, lkp, ak, aj, ev, reduceCtorEq, E, D, J, Y, U, V, Tryd.el25, Tryd.td25, Mpr.av]; refine Z _ ?_; clear Z K0; simp only [put, app, ae, ai, zE, zS, D])
    refine ay rfl fun K0 Z => ?_
    refine aZ (h := aP (gV (abV p w) (abV p (pcW p (abV p w))))) rfl rfl (by first | exact rfl | (simp only [ev, aa, lkp, zE, reduceCtorEq, E, ad, D]; exact rfl)) (by simp only [zE, zG, op1, ev, lkp, ak, aj, ax, acs, bp, mv1, mvC, Ty.dflt, reduceCtorEq, E, D, J, Y, U, V, Mpr.av]) ?_
    refine Z _ ?_; clear Z K0; simp only [put, app, ae, ai, zE, zS, D]
    (refine af rfl fun K0 Z => ?_; simp only [zE, op1, ev, lkp, ak, aj, bz, reduceCtorEq, E, D, J, Y, U, V, Tryd.td4, Mpr.av]; refine Z _ ?_; clear Z K0; simp only [put, app, ae, ai, zE, zS, D])
    refine am ?_
    refine ⟨by simp only [aa, lkp, zE, reduceCtorEq, E, ad, D]; exact rfl, rfl, ?_, rfl⟩; (repeat refine aX rfl ?_); exact bE (by exact rfl) hq18
   case b18 => exact bD (by first | rfl | (simp [c0]; done) | decide)
   simp only [bq, bf]
   (refine af rfl fun K0 Z => ?_; simp only [zE, op1, ev, lkp, ak, aj, ev, reduceCtorEq, E, D, J, Y, U, V, Tryd.td4, Mpr.av]; refine Z _ ?_; clear Z K0; simp only [put, app, ae, ai, zE, zS, D])
   refine' aY (want := true) 5 rfl (m := 62) (by simp only [aa, lkp, zE, reduceCtorEq, E, ad, D]; exact rfl) (by kernel_rfl) rfl rfl rfl rfl rfl (fun hg19 => ?a19) ?b19 ?c19
   case a19 =>
    have hq19 := hg19; (try simp only [zB, reduceCtorEq] at hg19); simp only [List.take_succ_cons, List.take_zero, List.cons_append, List.nil_append]
    (refine ay rfl fun K0 Z => ?_; simp only [zE, op1, ev, lkp, ak, aj, ev, reduceCtorEq, E, D, J, Y, U, V, Tryd.el25, Tryd.td25, Mpr.av]; refine Z _ ?_; clear Z K0; simp only [put, app, ae, ai, zE, zS, D])
    (refine ay rfl fun K0 Z => ?_; simp only [zE, op1, ev, lkp, ak, aj, aH, bH, bt, bj, bl, bI, Nat.div_one, aL, bm, Ty.size, aK, dite_true, reduceCtorEq, E, D, J, Y, U, V, Tryd.el25, Tryd.td25, Tryd.td3, Mpr.av]; (repeat refine And.intro (by first | omega | assumption | exact rfl) ?_); (first | refine Z _ ?_ | refine Or.inl (Z _ ?_)); clear Z K0; simp only [put, app, ae, ai, zE, zS, D])
    (refine ay rfl fun K0 Z => ?_; simp only [zE, op1, ev, lkp, ak, aj, ev, reduceCtorEq, E, D, J, Y, U, V, Tryd.el25, Tryd.td25, Mpr.av]; refine Z _ ?_; clear Z K0; simp only [put, app, ae, ai, zE, zS, D])
    (refine ay rfl fun K0 Z => ?_; simp only [zE, op1, ev, lkp, ak, aj, aH, bH, bt, bj, bl, bI, Nat.div_one, aL, bm, Ty.size, aK, dite_true, reduceCtorEq, E, D, J, Y, U, V, Tryd.el25, Tryd.td25, Tryd.td3, Mpr.av]; (repeat refine And.intro (by first | omega | assumption | exact rfl) ?_); (first | refine Z _ ?_ | refine Or.inl (Z _ ?_)); clear Z K0; simp only [put, app, ae, ai, zE, zS, D])
    (refine ay rfl fun K0 Z => ?_; simp only [zE, op1, ev, lkp, ak, aj, aF, aD, aE, aw, aC, aU, reduceCtorEq, E, D, J, Y, U, V, Tryd.td3, Tryd.td4, Mpr.av]; (repeat refine And.intro (by first | omega | assumption | exact rfl) ?_); refine Z _ ?_; clear Z K0; simp only [put, app, ae, ai, zE, zS, D])
    (refine af rfl fun K0 Z => ?_; simp only [zE, op1, ev, lkp, ak, aj, bz, reduceCtorEq, E, D, J, Y, U, V, Tryd.td4, Mpr.av]; refine Z _ ?_; clear Z K0; simp only [put, app, ae, ai, zE, zS, D])
    refine am ?_
    refine ⟨by simp only [aa, lkp, zE, reduceCtorEq, E, ad, D]; exact rfl, rfl, ?_, rfl⟩; (repeat refine aX rfl ?_); exact bE (by exact rfl) hq19
   case b19 => exact bD (by first | rfl | (simp [c0]; done) | decide)
   simp only [bq, bf]
   (refine af rfl fun K0 Z => ?_; simp only [zE, op1, ev, lkp, ak, aj, ev, reduceCtorEq, E, D, J, Y, U, V, Tryd.td4, Mpr.av]; refine Z _ ?_; clear Z K0; simp only [put, app, ae, ai, zE, zS, D])
   refine' aY (want := true) 4 rfl (m := 69) (by simp only [aa, lkp, zE, reduceCtorEq, E, ad, D]; exact rfl) (by kernel_rfl) rfl rfl rfl rfl rfl (fun hg20 => ?a20) ?b20 ?c20
   case a20 =>
    have hq20 := hg20; (try simp only [zB, reduceCtorEq] at hg20); simp only [List.take_succ_cons, List.take_zero, List.cons_append, List.nil_append]
    (refine ay rfl fun K0 Z => ?_; simp only [zE, op1, ev, lkp, ak, aj, ev, reduceCtorEq, E, D, J, Y, U, V, Tryd.el25, Tryd.td25, Mpr.av]; refine Z _ ?_; clear Z K0; simp only [put, app, ae, ai, zE, zS, D])
    (refine ay rfl fun K0 Z => ?_; simp only [zE, op1, ev, lkp, ak, aj, ev, reduceCtorEq, E, D, J, Y, U, V, Tryd.el25, Tryd.td25, Mpr.av]; refine Z _ ?_; clear Z K0; simp only [put, app, ae, ai, zE, zS, D])
    refine ay rfl fun K0 Z => ?_
    refine aZ (h := aP (re (pcW p (abV p w)) w)) rfl rfl (by first | exact rfl | (simp only [ev, aa, lkp, zE, reduceCtorEq, E, ad, D]; exact rfl)) (by simp only [zE, zG, op1, ev, lkp, ak, aj, ax, acs, bp, mv1, mvC, Ty.dflt, reduceCtorEq, E, D, J, Y, U, V, Mpr.av]) ?_
    refine Z _ ?_; clear Z K0; simp only [put, app, ae, ai, zE, zS, D]
    (refine ay rfl fun K0 Z => ?_; simp only [zE, op1, ev, lkp, ak, aj, aF, aD, aE, aw, aC, aU, reduceCtorEq, E, D, J, Y, U, V, Tryd.td3, Tryd.td4, Mpr.av]; (repeat refine And.intro (by first | omega | assumption | exact rfl) ?_); refine Z _ ?_; clear Z K0; simp only [put, app, ae, ai, zE, zS, D])
    (refine af rfl fun K0 Z => ?_; simp only [zE, op1, ev, lkp, ak, aj, bz, reduceCtorEq, E, D, J, Y, U, V, Tryd.td4, Mpr.av]; refine Z _ ?_; clear Z K0; simp only [put, app, ae, ai, zE, zS, D])
    refine am ?_
    refine ⟨by simp only [aa, lkp, zE, reduceCtorEq, E, ad, D]; exact rfl, rfl, ?_, rfl⟩; (repeat refine aX rfl ?_); exact bE (by exact rfl) hq20
   case b20 => exact bD (by first | rfl | (simp [c0]; done) | decide)
   simp only [bq, bf]
   (refine af rfl fun K0 Z => ?_; simp only [zE, op1, ev, lkp, ak, aj, ev, reduceCtorEq, E, D, J, Y, U, V, Tryd.td4, Mpr.av]; refine Z _ ?_; clear Z K0; simp only [put, app, ae, ai, zE, zS, D])
   refine' aY (want := true) 1 rfl (m := 75) (by simp only [aa, lkp, zE, reduceCtorEq, E, ad, D]; exact rfl) (by kernel_rfl) rfl rfl rfl rfl rfl (fun hg21 => ?a21) ?b21 ?c21
   case a21 =>
    have hq21 := hg21; (try simp only [zB, reduceCtorEq] at hg21); simp only [List.take_succ_cons, List.take_zero, List.cons_append, List.nil_append]
    refine ay rfl fun K0 Z => ?_
    refine aZ (h := aP gn) rfl rfl (by first | exact rfl | (simp only [ev, aa, lkp, zE, reduceCtorEq, E, ad, D]; exact rfl)) (by simp only [zE, zG, op1, ev, lkp, ak, aj, ax, acs, bp, mv1, mvC, Ty.dflt, reduceCtorEq, E, D, J, Y, U, V, Mpr.av]) ?_
    refine Z _ ?_; clear Z K0; simp only [put, app, ae, ai, zE, zS, D]
    (refine af rfl fun K0 Z => ?_; simp only [zE, op1, ev, lkp, ak, aj, bz, reduceCtorEq, E, D, J, Y, U, V, Tryd.td4, Mpr.av]; refine Z _ ?_; clear Z K0; simp only [put, app, ae, ai, zE, zS, D])
    refine am ?_
    refine ⟨by simp only [aa, lkp, zE, reduceCtorEq, E, ad, D]; exact rfl, rfl, ?_, rfl⟩; (repeat refine aX rfl ?_); exact bE (by exact rfl) hq21
   case b21 => exact bD (by first | rfl | (simp [c0]; done) | decide)
   simp only [bq, bf]
   (refine af rfl fun K0 Z => ?_; simp only [zE, op1, ev, lkp, ak, aj, ev, reduceCtorEq, E, D, J, Y, U, V, Tryd.td4, Mpr.av]; refine Z _ ?_; clear Z K0; simp only [put, app, ae, ai, zE, zS, D])
   refine am ?_
   refine hK15 _ ?_; clear hK15; refine ah [0, 1, 2, 4, 5, 6, 7, 8, 9, 10, 11, 19, 28] ?_; simp only [aa, lkp, zE, reduceCtorEq, E, ad, D]
   refine aM ?_
   refine ⟨by first | exact .inl rfl | exact .inr rfl, _, rfl, ?_⟩; simp only [fzV, fz1, fzC, List.map_cons, List.map_nil, aa, lkp, zE, reduceCtorEq, E, ad, D, Mpr.av]
   refine VLE.of_eq ?_
   first | rfl | (refine congrArg (fun b => AV.one (AC.bool b)) ?_; simp [hno]; done) | (refine congrArg (fun b => AV.one (AC.bool b)) ?_; simp [k1, k2, k3, k4, k5, k6]; done)
end Go.Proofs.YtgmgnkmgofkfpaaDoor
