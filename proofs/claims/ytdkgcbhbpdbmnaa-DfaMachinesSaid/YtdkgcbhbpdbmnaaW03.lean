/- Contracts of functions of this seat, each out of a walk through its code, and plain facts on what they compute. Conditions: those that each theorem names. -/
import Derived.Test.YtdkgcbhbpdbmnaaW02
set_option linter.unusedSimpArgs false
set_option linter.unusedVariables false
namespace Go.Proofs.Ytdkgcbhbpdbmnaa
open Go Go.AV
open Nat renaming reduceEqDiff → E, reduceAdd → D, reduceLeDiff → J, reduceLT → S, reduceMul → M, reduceSub → O
open List renaming set_cons_zero → au, set_cons_succ → ar
set_option maxRecDepth 100000 in
theorem lL (a b : Dfa) : bG Try.prog 24 [a.av, b.av] (.tup [.one (.list (.int .i64) (lS a b)), .one (.bool (mN a b)), .one (.int .i64 (dW a b))]) := by
 refine aR Try.func24 rfl (by kernel_rfl) (Nat.le_of_ble_eq_true rfl) rfl fun C hP hN hB => ?_
 replace hN : C.N = 39 := hN
 simp only [Y, D]
 refine aa fun K1 hK1 => ?_
 refine af hP hN rfl ?_
 iterate 5 (refine ab rfl fun K0 V => ?_; simp only [zE, op1, ev, lkp, ah, ag, ca, am, reduceCtorEq, E, D, J, S, M, O, Try.el26, Try.st25, Try.td25, Try.td26, Try.td29, Try.td4, Dfa.av]; (repeat refine And.intro (by first | omega | assumption | exact rfl) ?_); refine V _ ?_; clear V K0; simp only [put, app, Z, ae, zE, zS, D])
 refine ai ?_
 refine hK1 _ ?_; clear hK1; refine ad [0, 1, 2, 3, 4, 5, 6] ?_; simp only [U, lkp, zE, reduceCtorEq, E, Y, D]
 refine aa fun K2 hK2 => ?_
 refine aa fun K3 hK3 => ?_
 refine af hP hN rfl ?_
 iterate 2 (refine ab rfl fun K0 V => ?_; simp only [zE, op1, ev, lkp, ah, ag, ay, Nat.mul_one, aw, ax, acs, Ty.dflt, zG, ak, reduceCtorEq, E, D, J, S, M, O, Try.st25, Try.td25, Dfa.av]; (repeat refine And.intro (by first | omega | assumption | exact rfl) ?_); refine V _ ?_; clear V K0; simp only [put, app, Z, ae, zE, zS, D])
 refine ab rfl fun K0 V => ?_
 refine aT (h := aL (lT a b)) rfl rfl (by first | exact rfl | (simp only [ev, U, lkp, zE, reduceCtorEq, E, Y, D]; exact rfl)) (by simp only [zE, zG, op1, ev, lkp, ah, ag, am, acs, be, mv1, mvC, Ty.dflt, reduceCtorEq, E, D, J, S, M, O, Dfa.av]) ?_
 refine V _ ?_; clear V K0; simp only [put, app, Z, ae, zE, zS, D]
 (refine ab rfl fun K0 V => ?_; simp only [zE, op1, ev, lkp, ah, ag, ev, reduceCtorEq, E, D, J, S, M, O, Try.td29, Dfa.av]; refine V _ ?_; clear V K0; simp only [put, app, Z, ae, zE, zS, D])
 refine ai ?_
 refine hK3 _ ?_; clear hK3; refine ad [0, 1, 2, 3, 4, 5, 6, 7] ?_; simp only [U, lkp, zE, reduceCtorEq, E, Y, D]
 refine aa fun K4 hK4 => ?_
 refine af hP hN rfl ?_
 iterate 2 (refine ab rfl fun K0 V => ?_; simp only [zE, op1, ev, lkp, ah, ag, aB, aD, aC, aq, az, aP, reduceCtorEq, E, D, J, S, M, O, Try.td29, Try.td4, Dfa.av]; (repeat refine And.intro (by first | omega | assumption | exact rfl) ?_); refine V _ ?_; clear V K0; simp only [put, app, Z, ae, zE, zS, D])
 refine ai ?_
 refine hK4 _ ?_; clear hK4; refine ad [0, 1, 2, 3, 4, 5, 6, 7, 16] ?_; simp only [U, lkp, zE, reduceCtorEq, E, Y, D]
 refine aA (by simp only [ev, U, lkp, zE, reduceCtorEq, E, Y, D]; exact rfl) (fun hc5 => ?_) (fun hc5 => ?_)
 ·(try simp only [zB, reduceCtorEq] at hc5)
  refine aa fun K6 hK6 => ?_
  refine af hP hN rfl ?_
  iterate 4 (refine ab rfl fun K0 V => ?_; simp only [zE, op1, ev, lkp, ah, ag, ev, reduceCtorEq, E, D, J, S, M, O, Try.el26, Try.td26, Try.td29, Try.td4, Dfa.av]; refine V _ ?_; clear V K0; simp only [put, app, Z, ae, zE, zS, D])
  refine ai ?_
  refine hK6 _ ?_; clear hK6; refine ad [0, 1, 2, 3, 4, 5, 6, 7, 16] ?_; simp only [U, lkp, zE, reduceCtorEq, E, Y, D]
  refine aH ?_
  refine ⟨by first | exact .inl rfl | exact .inr rfl, _, rfl, ?_⟩; simp only [fzV, fz1, fzC, List.map_cons, List.map_nil, U, lkp, zE, reduceCtorEq, E, Y, D, Dfa.av]
  first
  | (have e1 : lS a b = [] := if_neg (by assumption)
     have e2 : mN a b = false := if_neg (by assumption)
     rw [e1, e2]; exact br ⟨bf (aQ rfl), fun _ _ _ _ _ h => h, fun _ _ _ _ _ h => h, trivial⟩)
  | (have e1 : lS a b = laW (fV a b) (dJ a b) := if_pos ht
     have e2 : mN a b = dB (fV a b) (dJ a b) := if_pos ht
     rw [e1, e2, ht]; exact VLE.of_eq rfl)
 ·(try simp only [zB, reduceCtorEq] at hc5)
  have ht : dW a b = 0 := by omega
  obtain ⟨ha, hb, hi⟩ := m8 ht
  have a1 := ha.i1; have a2 := ha.i2; have a4 := ha.n2; have b4 := hb.n2; have hm9 := gY a4 b4
  refine aG ?_
  refine hK2 _ ?_; clear hK2; refine ad [0, 1, 2, 3, 4, 5, 6, 7, 16] ?_; simp only [U, lkp, zE, reduceCtorEq, E, Y, D]
  refine aa fun K7 hK7 => ?_
  refine cv 0 (.pair (.int .i64) (.pair (.int .i64) (.pair (.list (.list (.int .i64))) (.pair (.list .bool) .unit)))) rfl rfl ?_; simp only [List.map_cons, List.map_nil, shV, if_true, zS, if_false, eq_self, E, reduceCtorEq, Nat.one_ne_zero, Nat.zero_ne_one]
  refine cv 1 (.pair (.int .i64) (.pair (.int .i64) (.pair (.list (.list (.int .i64))) (.pair (.list .bool) .unit)))) rfl rfl ?_; simp only [List.map_cons, List.map_nil, shV, if_true, zS, if_false, eq_self, E, reduceCtorEq, Nat.one_ne_zero, Nat.zero_ne_one]
  refine af hP hN rfl ?_
  iterate 2 (refine ab rfl fun K0 V => ?_; simp only [zE, op1, ev, lkp, ah, ag, cp, cO, di, reduceCtorEq, E, D, J, S, M, O, Try.td82, Dfa.av]; (repeat refine And.intro (by first | omega | assumption | exact rfl) ?_); (first | refine V _ ?_ | refine Or.inl (V _ ?_)); clear V K0; simp only [put, app, Z, ae, zE, zS, D])
  refine ai ?_
  refine hK7 _ ?_; clear hK7; refine ad [0, 1, 2, 3, 4, 5, 6, 7, 8, 16] ?_; simp only [U, lkp, zE, reduceCtorEq, E, Y, D]
  refine aa fun K8 hK8 => ?_
  refine af hP hN rfl ?_
  iterate 9 (refine ab rfl fun K0 V => ?_; simp only [zE, op1, ev, lkp, ah, ag, ao, ay, Nat.mul_one, aw, ax, acs, Ty.dflt, zG, ak, bH, b0, aO, am, cp, cO, di, reduceCtorEq, E, D, J, S, M, O, Try.ea81, Try.sa81, Try.st25, Try.td1, Try.td25, Try.td3, Try.td81, Try.td82, Try.td87, Dfa.av]; (repeat refine And.intro (by first | omega | assumption | exact rfl) ?_); (first | refine V _ ?_ | refine Or.inl (V _ ?_)); clear V K0; simp only [put, app, Z, ae, zE, zS, D])
  refine ab rfl fun K0 V => ?_
  refine aT (h := gR a.inp.toNat 62 63 [.pat (.pair (.int .i64) (.pair (.int .i64) (.pair (.list (.list (.int .i64))) (.pair (.list .bool) .unit)))) (a.inp, (a.st, (a.nx, (a.acc, ())))), .pat (.pair (.int .i64) (.pair (.int .i64) (.pair (.list (.list (.int .i64))) (.pair (.list .bool) .unit)))) (b.inp, (b.st, (b.nx, (b.acc, ()))))] [.pat (.pair (.int .i64) (.pair (.int .i64) (.pair (.list (.list (.int .i64))) (.pair (.list .bool) .unit)))) (a.inp, (a.st, (a.nx, (a.acc, ())))), .pat (.pair (.int .i64) (.pair (.int .i64) (.pair (.list (.list (.int .i64))) (.pair (.list .bool) .unit)))) (b.inp, (b.st, (b.nx, (b.acc, ()))))] (fG a b) (fV a b) (a.st, b.st) a.nx.length b.nx.length a.inp (by omega) rfl rfl hm9 (by omega) (by omega) (by omega) (lu ha hb) (jq ha hb hi (by omega)) (fun q x hq hx => qX a b q x ha hb hi hq (by omega)) (fun q hq => qT a b q ha hb hi hq) _) rfl rfl (by first | exact rfl | (simp only [ev, U, lkp, zE, reduceCtorEq, E, Y, D]; exact rfl)) (by simp only [zE, zG, op1, ev, lkp, ah, ag, am, acs, be, mv1, mvC, Ty.dflt, reduceCtorEq, E, D, J, S, M, O, Dfa.av]) ?_
  refine V _ ?_; clear V K0; simp only [put, app, Z, ae, zE, zS, D]
  iterate 7 (refine ab rfl fun K0 V => ?_; simp only [zE, op1, ev, lkp, ah, ag, bM, reduceCtorEq, E, D, J, S, M, O, Try.el83, Try.mk84, Try.td1, Try.td2, Try.td4, Try.td83, Dfa.av]; refine V _ ?_; clear V K0; simp only [put, app, Z, ae, zE, zS, D])
  refine ai ?_
  refine hK8 _ ?_; clear hK8; refine ad [0, 1, 2, 3, 4, 5, 6, 7, 8, 9, 11, 16] ?_; simp only [U, lkp, zE, reduceCtorEq, E, Y, D]
  refine aa fun K9 hK9 => ?_
  refine af hP hN rfl ?_
  iterate 2 (refine ab rfl fun K0 V => ?_; simp only [zE, op1, ev, lkp, ah, ag, ev, reduceCtorEq, E, D, J, S, M, O, Try.el83, Try.td4, Try.td83, Dfa.av]; refine V _ ?_; clear V K0; simp only [put, app, Z, ae, zE, zS, D])
  refine ab rfl fun K0 V => ?_
  refine aT (h := aL (mR (dQ (fV a b) (dJ a b)) (dB (fV a b) (dJ a b)) o4 (Nat.le_trans (qu _ _) (pY ha hb hi)))) rfl rfl (by first | exact rfl | (simp only [ev, U, lkp, zE, reduceCtorEq, E, Y, D]; exact rfl)) (by simp only [zE, zG, op1, ev, lkp, ah, ag, am, acs, be, mv1, mvC, Ty.dflt, reduceCtorEq, E, D, J, S, M, O, Dfa.av, dJ]) ?_
  refine V _ ?_; clear V K0; simp only [put, app, Z, ae, zE, zS, D]
  iterate 6 (refine ab rfl fun K0 V => ?_; simp only [zE, op1, ev, lkp, ah, ag, bM, reduceCtorEq, E, D, J, S, M, O, Try.el26, Try.td1, Try.td2, Try.td26, Try.td29, Try.td4, Dfa.av]; refine V _ ?_; clear V K0; simp only [put, app, Z, ae, zE, zS, D])
  refine ai ?_
  refine hK9 _ ?_; clear hK9; refine ad [0, 1, 2, 3, 4, 5, 6, 7, 8, 9, 11, 16] ?_; simp only [U, lkp, zE, reduceCtorEq, E, Y, D]
  refine aH ?_
  refine ⟨by first | exact .inl rfl | exact .inr rfl, _, rfl, ?_⟩; simp only [fzV, fz1, fzC, List.map_cons, List.map_nil, U, lkp, zE, reduceCtorEq, E, Y, D, Dfa.av]
  first
  | (have e1 : lS a b = [] := if_neg (by assumption)
     have e2 : mN a b = false := if_neg (by assumption)
     rw [e1, e2]; exact br ⟨bf (aQ rfl), fun _ _ _ _ _ h => h, fun _ _ _ _ _ h => h, trivial⟩)
  | (have e1 : lS a b = laW (fV a b) (dJ a b) := if_pos ht
     have e2 : mN a b = dB (fV a b) (dJ a b) := if_pos ht
     rw [e1, e2, ht]; exact VLE.of_eq rfl)
end Go.Proofs.Ytdkgcbhbpdbmnaa
namespace Go.AV
open Nat renaming reduceEqDiff → E, reduceAdd → D, reduceLeDiff → J, reduceLT → S, reduceMul → M, reduceSub → O
open List renaming set_cons_zero → au, set_cons_succ → ar
/-plain-/
/-! Classes of states of an automaton. -/
def Dfa.sg (d : Dfa) (cl : List Int) (s : Nat) : List Int := cl.getD s 0 :: (d.nx.getD s []).map fun t => cl.getD t.toNat 0
def Dfa.nxL (d : Dfa) (cl : List Int) : List Int := (List.range d.nx.length).map fun s => (pos (cB (d.sg cl) d.nx.length) (d.sg cl s) : Int)
def Dfa.cl (d : Dfa) : Nat → List Int
  | 0 => (List.range d.nx.length).map (fc d)
  | i + 1 => d.nxL (d.cl i)
def Dfa.cn (d : Dfa) : Nat → Nat
  | 0 => 0
  | i + 1 => (cB (d.sg (d.cl i)) d.nx.length).length
theorem dlN (d : Dfa) (s a : Nat) : d.dl s a = (d.nx.getD s []).getD a 0 := by
  unfold Dfa.dl Dfa.row; rw [Int.toNat_natCast, Int.toNat_natCast]
theorem rB {d : Dfa} (hd : DOK d) {cl : List Int} {s t : Nat} (hs : s < d.nx.length) (ht : t < d.nx.length) :
    d.sg cl s = d.sg cl t ↔ cl.getD s 0 = cl.getD t 0 ∧ ∀ a : Nat, (a : Int) < d.inp → cl.getD (d.dl s a).toNat 0 = cl.getD (d.dl t a).toNat 0 := by
  have l1 := hd.rl s hs
  have l2 := hd.rl t ht
  unfold Dfa.row at l1 l2
  rw [Int.toNat_natCast] at l1 l2
  unfold Dfa.sg
  rw [List.cons.injEq]
  refine and_congr_right fun _ => ⟨fun h a ha => ?_, fun h => ?_⟩
  · have h2 := congrArg (fun l => l.getD a 0) h
    have a1 : a < (d.nx.getD s []).length := by omega
    have a2 : a < (d.nx.getD t []).length := by omega
    rw [dlN, dlN]
    generalize d.nx.getD s [] = rs at *
    generalize d.nx.getD t [] = rt at *
    simp only [List.getD, List.getElem?_map, List.getElem?_eq_getElem a1, List.getElem?_eq_getElem a2, Option.map_some, Option.getD_some] at h2 ⊢
    exact h2
  · refine List.ext_getElem (by rw [List.length_map, List.length_map]; omega) fun a h1 h2 => ?_
    rw [List.length_map] at h1 h2
    have h3 := h a (by omega)
    rw [dlN, dlN] at h3
    rw [List.getElem_map, List.getElem_map]
    generalize d.nx.getD s [] = rs at *
    generalize d.nx.getD t [] = rt at *
    simp only [List.getD, List.getElem?_eq_getElem h1, List.getElem?_eq_getElem h2, Option.getD_some] at h3 ⊢
    exact h3
theorem pg (d : Dfa) (cl : List Int) : (d.nxL cl).length = d.nx.length := by simp [Dfa.nxL]
theorem md (d : Dfa) : ∀ i, (d.cl i).length = d.nx.length
  | 0 => by simp [Dfa.cl]
  | i + 1 => pg _ _
theorem lf {d : Dfa} {cl : List Int} {s : Nat} (h : s < d.nx.length) : (d.nxL cl).getD s 0 = (pos (cB (d.sg cl) d.nx.length) (d.sg cl s) : Int) := by
  simp [Dfa.nxL, List.getD, h]
theorem qH {d : Dfa} {cl : List Int} {s : Nat} (h : s < d.nx.length) : 0 ≤ (d.nxL cl).getD s 0 ∧ (d.nxL cl).getD s 0 < (cB (d.sg cl) d.nx.length).length := by
  rw [lf h]
  have h1 := fE (ew (f := d.sg cl) (k := d.nx.length).2 ⟨s, h, rfl⟩)
  omega
theorem od {d : Dfa} {cl : List Int} {s t : Nat} (hs : s < d.nx.length) (ht : t < d.nx.length) : (d.nxL cl).getD s 0 = (d.nxL cl).getD t 0 ↔ d.sg cl s = d.sg cl t := by
  rw [lf hs, lf ht]
  constructor
  · intro h
    exact qd (ew.2 ⟨s, hs, rfl⟩) (ew.2 ⟨t, ht, rfl⟩) (by omega)
  · intro h; rw [h]
theorem oM {d : Dfa} (hd : DOK d) (i : Nat) {s t : Nat} (hs : s < d.nx.length) (ht : t < d.nx.length) (h : (d.cl (i + 1)).getD s 0 = (d.cl (i + 1)).getD t 0) :
    (d.cl i).getD s 0 = (d.cl i).getD t 0 ∧ ∀ a : Nat, (a : Int) < d.inp → (d.cl i).getD (d.dl s a).toNat 0 = (d.cl i).getD (d.dl t a).toNat 0 :=
  (rB hd hs ht).1 ((od hs ht).1 h)
/-! How many there are. -/
def Dfa.fr (d : Dfa) (i : Nat) : List Nat := eK (fun s => (d.cl i).getD s 0) d.nx.length
theorem qf (d : Dfa) (i : Nat) : d.cn (i + 1) = (d.fr (i + 1)).length :=
  hM (d.sg (d.cl i)) (fun s => (d.cl (i + 1)).getD s 0) d.nx.length fun _ _ hs ht => od hs ht
theorem rD (d : Dfa) : ∀ i, d.cn i ≤ d.nx.length
  | 0 => Nat.zero_le _
  | _ + 1 => hD _ _
theorem qn {d : Dfa} (hd : DOK d) : ∀ i, d.cn i ≤ d.cn (i + 1)
  | 0 => Nat.zero_le _
  | i + 1 => by
    rw [qf, qf]
    exact jF _ _ (kl _ _) (mE fun s t hs ht h => (oM hd (i + 1) hs ht h).1)
theorem me {d : Dfa} (hd : DOK d) : ∀ {i : Nat}, (∀ q, q < i → d.cn (q + 1) ≠ d.cn q) → i ≤ d.cn i
  | 0, _ => Nat.zero_le _
  | i + 1, h => by
    have h1 := me hd (i := i) fun q hq => h q (by omega)
    have h2 := qn hd i
    have h3 := h i (by omega)
    omega
def o0 (n : Int) (w : List Int) : Prop := ∀ x, x ∈ w → 0 ≤ x ∧ x < n
theorem ni {n x : Int} {w : List Int} : o0 n (x :: w) ↔ (0 ≤ x ∧ x < n) ∧ o0 n w := by unfold o0; simp
/-- Two states accept the same words. -/
def DEQ (a b : Dfa) (s t : Int) : Prop := ∀ w : List Int, o0 a.inp w → a.ac (a.run s w) = b.ac (b.run t w)
theorem DEQ.step {a b : Dfa} {s t x : Int} (h : DEQ a b s t) (hx : 0 ≤ x ∧ x < a.inp) : DEQ a b (a.dl s x) (b.dl t x) := fun w hw => h (x :: w) (ni.2 ⟨hx, hw⟩)
theorem DEQ.acc {a b : Dfa} {s t : Int} (h : DEQ a b s t) : a.ac s = b.ac t := h [] (fun x hx => by cases hx)
theorem DEQ.refl (d : Dfa) (s : Int) : DEQ d d s s := fun _ _ => rfl
theorem DEQ.symm {d : Dfa} {s t : Int} (h : DEQ d d s t) : DEQ d d t s := fun w hw => (h w hw).symm
theorem DEQ.trans {d : Dfa} {s t u : Int} (h : DEQ d d s t) (h2 : DEQ d d t u) : DEQ d d s u := fun w hw => (h w hw).trans (h2 w hw)
end Go.AV
namespace Go.AV
open Nat renaming reduceEqDiff → E, reduceAdd → D, reduceLeDiff → J, reduceLT → S, reduceMul → M, reduceSub → O
open List renaming set_cons_zero → au, set_cons_succ → ar
/-plain-/
theorem gq {l : List W3} {i : Nat} (h : i < l.length) (d : Int × (Int × Unit)) : (List.map dG (l.map Prod.fst)).getD i d = ((l.getD i w30).1.1, ((l.getD i w30).1.2, ())) := by simp [List.getD, h, dG]
end Go.AV
namespace Go.AV
open Nat renaming reduceEqDiff → E, reduceAdd → D, reduceLeDiff → J, reduceLT → S, reduceMul → M, reduceSub → O
open List renaming set_cons_zero → au, set_cons_succ → ar
/-plain-/
/-! The search through classes. -/
structure HOM (A B : STP) (n : Nat) (I : PP → Prop) (h : PP → PP) : Prop where
  cl : ∀ p, I p → ∀ x, x < n → I (A p x)
  eq : ∀ p, I p → ∀ x, x < n → B (h p) x = h (A p x)
end Go.AV
namespace Go.AV
open Nat renaming reduceEqDiff → E, reduceAdd → D, reduceLeDiff → J, reduceLT → S, reduceMul → M, reduceSub → O
open List renaming set_cons_zero → au, set_cons_succ → ar
/-plain-/
/-! Two searches side by side. -/
structure SIM (A B : STP) (n : Nat) (R : PP → PP → Prop) : Prop where
  st : ∀ p q, R p q → ∀ x, x < n → R (A p x) (B q x)
  bi : ∀ p q p' q', R p q → R p' q' → (p = p' ↔ q = q')
def RL (R : PP → PP → Prop) (l l' : List W3) : Prop := l.length = l'.length ∧ ∀ i, i < l.length → R (l.getD i w30).1 (l'.getD i w30).1 ∧ (l.getD i w30).2 = (l'.getD i w30).2
theorem RL.mem {A B : STP} {n : Nat} {R : PP → PP → Prop} (hs : SIM A B n R) {l l' : List W3} (h : RL R l l') {p q : PP} (hr : R p q) : p ∈ l.map Prod.fst ↔ q ∈ l'.map Prod.fst := by
  constructor
  · intro hm
    obtain ⟨e, he, e1⟩ := List.mem_map.1 hm
    obtain ⟨i, hi⟩ := List.getElem?_of_mem he
    have hlt := (List.getElem?_eq_some_iff.1 hi).1
    have h2 := h.2 i hlt
    have h3 : l.getD i w30 = e := by rw [List.getD, hi]; rfl
    rw [h3, e1] at h2
    have := (hs.bi _ _ _ _ h2.1 hr).1 rfl
    rw [← this]
    exact List.mem_map.2 ⟨_, d4 (by rw [← h.1]; exact hlt), rfl⟩
  · intro hm
    obtain ⟨e, he, e1⟩ := List.mem_map.1 hm
    obtain ⟨i, hi⟩ := List.getElem?_of_mem he
    have hlt := (List.getElem?_eq_some_iff.1 hi).1
    have h2 := h.2 i (by rw [h.1]; exact hlt)
    have h3 : l'.getD i w30 = e := by rw [List.getD, hi]; rfl
    rw [h3, e1] at h2
    have := (hs.bi _ _ _ _ h2.1 hr).2 rfl
    rw [← this]
    exact List.mem_map.2 ⟨_, d4 (by rw [h.1]; exact hlt), rfl⟩
theorem RL.snoc {R : PP → PP → Prop} {l l' : List W3} (h : RL R l l') {e f : W3} (hr : R e.1 f.1) (hw : e.2 = f.2) : RL R (l ++ [e]) (l' ++ [f]) := by
  refine ⟨by simp [h.1], fun i hi => ?_⟩
  rw [List.length_append, List.length_singleton] at hi
  by_cases e1 : i < l.length
  · rw [cF e1, cF (by rw [← h.1]; exact e1)]; exact h.2 i e1
  · rw [dR (by omega), dR (by have := h.1; omega)]; exact ⟨hr, hw⟩
theorem RL.row {A B : STP} {n : Nat} {R : PP → PP → Prop} (hs : SIM A B n R) {l l' : List W3} (h : RL R l l') {e f : W3} (hr : R e.1 f.1) (hw : e.2 = f.2) : ∀ x, x ≤ n → RL R (bI A e l x) (bI B f l' x)
  | 0, _ => h
  | x + 1, hx => by
    have ih := h.row hs hr hw x (by omega)
    have h2 := hs.st _ _ hr x (by omega)
    rw [bV, bV]
    by_cases hm : A e.1 x ∈ (bI A e l x).map Prod.fst
    · rw [dP hm, dP ((ih.mem hs h2).1 hm)]; exact ih
    · rw [d8 hm, d8 (fun k => hm ((ih.mem hs h2).2 k))]
      exact ih.snoc h2 (by rw [hw])
theorem RL.one {R : PP → PP → Prop} {p q : PP} (h : R p q) : RL R [(p, [])] [(q, [])] := ⟨rfl, fun i hi => by
  have : i = 0 := by simpa using hi
  subst this; exact ⟨h, rfl⟩⟩
theorem lY (A : STP) (n f i : Nat) (l : List W3) : l.length ≤ (dm A n f i l).length := by
  obtain ⟨k, h⟩ := ex A n f i l
  rw [h, List.length_append]; omega
end Go.AV
namespace Go.AV
open Nat renaming reduceEqDiff → E, reduceAdd → D, reduceLeDiff → J, reduceLT → S, reduceMul → M, reduceSub → O
open List renaming set_cons_zero → au, set_cons_succ → ar
/-plain-/
end Go.AV
namespace Go.AV
open Nat renaming reduceEqDiff → E, reduceAdd → D, reduceLeDiff → J, reduceLT → S, reduceMul → M, reduceSub → O
open List renaming set_cons_zero → au, set_cons_succ → ar
/-plain-/
/-! Words in the order of their lengths and symbols. -/
def SLT (u v : List Int) : Prop := u.length < v.length ∨ (u.length = v.length ∧ ∃ m, m < u.length ∧ (∀ q, q < m → u.getD q 0 = v.getD q 0) ∧ u.getD m 0 < v.getD m 0)
def SLE (u v : List Int) : Prop := u = v ∨ SLT u v
theorem SLT.trans {u v w : List Int} (h : SLT u v) (h2 : SLT v w) : SLT u w := by
  rcases h with h | ⟨h, m, a1, a2, a3⟩
  · rcases h2 with h2 | ⟨h2, _⟩
    · exact .inl (by omega)
    · exact .inl (by omega)
  · rcases h2 with h2 | ⟨h2, k, b1, b2, b3⟩
    · exact .inl (by omega)
    · refine .inr ⟨by omega, ?_⟩
      rcases Nat.lt_trichotomy m k with e | e | e
      · exact ⟨m, a1, fun q hq => (a2 q hq).trans (b2 q (by omega)), by rw [← b2 m e]; exact a3⟩
      · subst e; exact ⟨m, a1, fun q hq => (a2 q hq).trans (b2 q hq), by omega⟩
      · exact ⟨k, by omega, fun q hq => (a2 q (by omega)).trans (b2 q hq), by rw [a2 k e]; exact b3⟩
theorem SLE.trans_lt {u v w : List Int} (h : SLE u v) (h2 : SLT v w) : SLT u w := by
  rcases h with rfl | h
  · exact h2
  · exact h.trans h2
theorem SLE.trans {u v w : List Int} (h : SLE u v) (h2 : SLE v w) : SLE u w := by
  rcases h2 with rfl | h2
  · exact h
  · exact .inr (h.trans_lt h2)
theorem SLT.app {u v : List Int} (h : SLT u v) (a b : Int) : SLT (u ++ [a]) (v ++ [b]) := by
  rcases h with h | ⟨h, m, a1, a2, a3⟩
  · exact .inl (by simp; omega)
  · refine .inr ⟨by simp; omega, m, by simp; omega, fun q hq => ?_, ?_⟩
    · rw [cF (by omega), cF (by omega)]; exact a2 q hq
    · rw [cF a1, cF (by omega)]; exact a3
theorem SLE.app {u v : List Int} (h : SLE u v) (a : Int) : SLE (u ++ [a]) (v ++ [a]) := by
  rcases h with rfl | h
  · exact .inl rfl
  · exact .inr (h.app a a)
structure BW (A : STP) (n i : Nat) (l : List W3) : Prop where
  so : ∀ j k, j < k → k < l.length → SLT (l.getD j w30).2 (l.getD k w30).2
  mi : ∀ j, j < i → j < l.length → ∀ x, x < n → ∃ k, k < l.length ∧ (l.getD k w30).1 = A (l.getD j w30).1 x ∧ SLE (l.getD k w30).2 ((l.getD j w30).2 ++ [(x : Int)])
  up : i < l.length → ∀ k, k < l.length → SLT (l.getD k w30).2 ((l.getD i w30).2 ++ [0])
structure BX (A : STP) (n i x : Nat) (l0 l : List W3) : Prop where
  so : ∀ j k, j < k → k < l.length → SLT (l.getD j w30).2 (l.getD k w30).2
  mi : ∀ y, y < x → ∃ k, k < l.length ∧ (l.getD k w30).1 = A (l0.getD i w30).1 y ∧ SLE (l.getD k w30).2 ((l0.getD i w30).2 ++ [(y : Int)])
  up : ∀ k, k < l.length → SLT (l.getD k w30).2 ((l0.getD i w30).2 ++ [(x : Int)])
end Go.AV
namespace Go.AV
open Nat renaming reduceEqDiff → E, reduceAdd → D, reduceLeDiff → J, reduceLT → S, reduceMul → M, reduceSub → O
open List renaming set_cons_zero → au, set_cons_succ → ar
/-plain-/
/-! The automaton that is built from a search. -/
structure LCL (A : STP) (n : Nat) (L : List W3) : Prop where
  nd : (L.map Prod.fst).Nodup
  cl : ∀ j, j < L.length → ∀ x, x < n → A (L.getD j w30).1 x ∈ L.map Prod.fst
variable {A : STP} {G : PP → Bool} {n : Nat} {L : List W3}
end Go.AV
namespace Go.AV
open Nat renaming reduceEqDiff → E, reduceAdd → D, reduceLeDiff → J, reduceLT → S, reduceMul → M, reduceSub → O
open List renaming set_cons_zero → au, set_cons_succ → ar
/-plain-/
/-! The least state of a class. -/
def Dfa.sto (d : Dfa) : Nat → Nat → Nat
  | 0, i => i
  | f + 1, i => if d.cn (i + 1) = d.cn i then i else d.sto f (i + 1)
theorem nQ (d : Dfa) : ∀ (f i j : Nat), i ≤ j → j < i + f → d.cn (j + 1) = d.cn j → (∀ q, i ≤ q → q < j → d.cn (q + 1) ≠ d.cn q) → d.sto f i = j
  | 0, i, j, h1, h2, _, _ => by omega
  | f + 1, i, j, h1, h2, h3, h4 => by
    simp only [Dfa.sto]
    by_cases e : i = j
    · subst e; rw [if_pos h3]
    · rw [if_neg (h4 i (Nat.le_refl _) (by omega))]
      exact nQ d f (i + 1) j (by omega) (by omega) h3 fun q hq => h4 q (by omega)
def Dfa.cls (d : Dfa) : List Int := d.cl (d.sto (d.nx.length + 1) 0 + 1)
theorem rn {d : Dfa} {j : Nat} (hj : j ≤ d.nx.length) (h : d.cn (j + 1) = d.cn j) (hq : ∀ q, q < j → d.cn (q + 1) ≠ d.cn q) : d.cls = d.cl (j + 1) := by
  unfold Dfa.cls
  rw [nQ d (d.nx.length + 1) 0 j (by omega) (by omega) h fun q _ => hq q]
theorem kv (d : Dfa) : d.cls.length = d.nx.length := md d _
theorem gy {d : Dfa} {s : Nat} (hs : s < d.nx.length) : 0 ≤ d.cls.getD s 0 ∧ d.cls.getD s 0 < d.nx.length := by
  unfold Dfa.cls
  have h1 := qH (d := d) (cl := d.cl (d.sto (d.nx.length + 1) 0)) hs
  have h2 := hD (d.sg (d.cl (d.sto (d.nx.length + 1) 0))) d.nx.length
  show 0 ≤ (d.nxL _).getD s 0 ∧ (d.nxL _).getD s 0 < _
  omega
/-- The least state from s on of each class. -/
def fsV (cl : List Int) (n s c : Nat) : Int := match (List.range n).find? (fun q => decide (s ≤ q) && decide (cl.getD q 0 = (c : Int))) with | some q => (q : Int) | none => 0
def fsL (cl : List Int) (n s : Nat) : List Int := (List.range n).map fun c => fsV cl n s c
theorem ji (cl : List Int) (n s : Nat) : (fsL cl n s).length = n := by simp [fsL]
theorem pw (cl : List Int) (n : Nat) : fsL cl n n = List.replicate n 0 := by
  refine List.ext_getElem (by simp [fsL]) fun i h1 h2 => ?_
  simp only [fsL, List.getElem_map, List.getElem_range, List.getElem_replicate]
  unfold fsV
  rw [mV fun x hx => by simp only [Bool.and_eq_false_iff, decide_eq_false_iff_not]; exact .inl (by omega)]
theorem qp {cl : List Int} {n s : Nat} (hs : s < n) (hc : 0 ≤ cl.getD s 0 ∧ cl.getD s 0 < n) : (fsL cl n (s + 1)).set (cl.getD s 0).toNat (s : Int) = fsL cl n s := by
  refine List.ext_getElem (by simp [fsL]) fun i h1 h2 => ?_
  have hi : i < n := by simpa [fsL] using h2
  simp only [fsL, List.getElem_set, List.getElem_map, List.getElem_range]
  by_cases e : (cl.getD s 0).toNat = i
  · rw [if_pos e]
    unfold fsV
    rw [nG hs (by simp only [Bool.and_eq_true, decide_eq_true_eq]; exact ⟨Nat.le_refl _, by omega⟩) fun y hy => by simp only [Bool.and_eq_false_iff, decide_eq_false_iff_not]; exact .inl (by omega)]
  · rw [if_neg e]
    unfold fsV
    have : (fun q => decide (s + 1 ≤ q) && decide (cl.getD q 0 = (i : Int))) = (fun q => decide (s ≤ q) && decide (cl.getD q 0 = (i : Int))) := by
      funext q
      by_cases e2 : q = s
      · subst e2
        have : ¬ cl.getD q 0 = (i : Int) := by omega
        rw [decide_eq_false this, Bool.and_false, Bool.and_false]
      · have : decide (s + 1 ≤ q) = decide (s ≤ q) := by rw [decide_eq_decide]; omega
        rw [this]
    rw [this]
def Dfa.rep (d : Dfa) (s : Int) : Int := (fsL d.cls d.nx.length 0).getD (d.cls.getD s.toNat 0).toNat 0
structure RPR (d : Dfa) (s r : Int) : Prop where
  rg : 0 ≤ r ∧ r < d.nx.length
  le : r ≤ s
  cl : d.cls.getD r.toNat 0 = d.cls.getD s.toNat 0
  mi : ∀ q : Nat, (q : Int) < r → d.cls.getD q 0 ≠ d.cls.getD s.toNat 0
theorem o9 {d : Dfa} {s : Int} (h0 : 0 ≤ s) (h1 : s < d.nx.length) : RPR d s (d.rep s) := by
  have hr := gy (d := d) (s := s.toNat) (by omega)
  have e : d.rep s = fsV d.cls d.nx.length 0 (d.cls.getD s.toNat 0).toNat := by
    unfold Dfa.rep fsL
    exact lF _ 0 (by omega)
  rw [e]
  unfold fsV
  rw [Int.toNat_of_nonneg hr.1]
  cases hf : (List.range d.nx.length).find? (fun q => decide (0 ≤ q) && decide (d.cls.getD q 0 = d.cls.getD s.toNat 0)) with
  | none =>
    have := List.find?_eq_none.1 hf s.toNat (by simp; omega)
    simp at this
  | some q =>
    rw [List.find?_eq_some_iff_getElem] at hf
    obtain ⟨hp, i, hi, e1, hm⟩ := hf
    simp at hi e1
    subst e1
    have hp2 : d.cls.getD i 0 = d.cls.getD s.toNat 0 := by simpa using hp
    have hm2 : ∀ q : Nat, q < i → d.cls.getD q 0 ≠ d.cls.getD s.toNat 0 := fun q hq => by have := hm q hq; simpa using this
    refine ⟨⟨by show (0 : Int) ≤ (i : Int); omega, by show ((i : Nat) : Int) < _; omega⟩, ?_, by show d.cls.getD ((i : Int)).toNat 0 = _; rw [Int.toNat_natCast]; exact hp2, fun q hq => hm2 q (by have : (q : Int) < (i : Int) := hq; omega)⟩
    show (i : Int) ≤ s
    by_cases hle : (i : Int) ≤ s
    · exact hle
    · exact absurd rfl (hm2 s.toNat (by omega))
def gD (d : Dfa) : STP := fun q x => (d.rep (d.dl q.1 x), 0)
theorem lR {d : Dfa} (hd : DOK d) {n : Nat} (hn : (n : Int) = d.inp) : ∀ q, inR d.nx.length 1 q → ∀ x, x < n → inR d.nx.length 1 (gD d q x) := fun q hq x hx => by
  have h1 := hd.dl (a := (x : Int)) hq.1 ⟨by omega, by omega⟩
  exact ⟨(o9 h1.1 h1.2).rg, by simp [gD], by simp [gD]⟩
theorem oe {d : Dfa} (h : DOK d) : inR d.nx.length 1 (d.rep d.st, 0) := ⟨(o9 h.s1 h.s2).rg, by simp, by simp⟩
def io (d : Dfa) : List W3 := bY (gD d) d.inp.toNat (d.nx.length * 1) (d.rep d.st, 0)
def kC (d : Dfa) : Dfa := if bl d = 0 then dBn (gD d) (eD d) d.inp.toNat (io d) else cY
theorem qA {d : Dfa} (h : DOK d) : (io d).length ≤ d.nx.length := by
  have h1 := h.i1
  have := (ef (lR h (n := d.inp.toNat) (by omega)) (oe h)).1.le
  unfold io; omega
theorem pK {d : Dfa} (h : DOK d) : kC d = dBn (gD d) (eD d) d.inp.toNat (io d) := if_pos h.valid
end Go.AV
namespace Go.AV
open Nat renaming reduceEqDiff → E, reduceAdd → D, reduceLeDiff → J, reduceLT → S, reduceMul → M, reduceSub → O
open List renaming set_cons_zero → au, set_cons_succ → ar
/-plain-/
/-! On drepTh. -/
theorem dlQ (d : Dfa) (s : Int) (x : Nat) : d.dl s x = (d.nx.getD s.toNat []).getD x 0 := by unfold Dfa.dl Dfa.row; rw [Int.toNat_natCast]
structure M1OK (d : Dfa) (q : PP) (x : Nat) : Prop where
  r1 : 0 ≤ q.1 ∧ q.1 < d.nx.length
  rl : ((d.nx.getD q.1.toNat []).length : Int) = d.inp
  t1 : 0 ≤ (d.nx.getD q.1.toNat []).getD x 0 ∧ (d.nx.getD q.1.toNat []).getD x 0 < d.nx.length
  c1 : 0 ≤ d.cls.getD ((d.nx.getD q.1.toNat []).getD x 0).toNat 0 ∧ d.cls.getD ((d.nx.getD q.1.toNat []).getD x 0).toNat 0 < d.nx.length
  e : d.rep (d.dl q.1 x) = (fsL d.cls d.nx.length 0).getD (d.cls.getD ((d.nx.getD q.1.toNat []).getD x 0).toNat 0).toNat 0
theorem rR {d : Dfa} (hd : DOK d) {q : PP} {x : Nat} (hq : inR d.nx.length 1 q) (hx : (x : Int) < d.inp) : M1OK d q x := by
  have h1 := hd.dl (a := (x : Int)) hq.1 ⟨by omega, hx⟩
  have h2 := hd.rli hq.1
  have e := dlQ d q.1 x
  refine ⟨hq.1, h2, by rw [← e]; exact h1, ?_, by rw [e]; rfl⟩
  rw [← e]
  exact gy (by omega)
theorem mH {d : Dfa} (hd : DOK d) : dBD (gD d) (eD d) d.inp.toNat (io d) = kC d ∧ dBE (io d) = 0 := by
  have h1 := qA hd
  have h2 := hd.n2
  have h3 : ¬ 128 < (io d).length := by omega
  exact ⟨(if_neg h3).trans (pK hd).symm, if_neg h3⟩
end Go.AV
namespace Go.AV
open Nat renaming reduceEqDiff → E, reduceAdd → D, reduceLeDiff → J, reduceLT → S, reduceMul → M, reduceSub → O
open List renaming set_cons_zero → au, set_cons_succ → ar
/-plain-/
/-! On drepTh, dsimTh, minqTh. -/
theorem gr {A : STP} {G : PP → Bool} {i : Int} (h : 0 ≤ i) (L : List W3) : dBn A G i.toNat L = ⟨i, 0, (List.range L.length).map fun k => dRw A i.toNat L k i.toNat, L.map fun e => G e.1⟩ := by
  unfold dBn; rw [Int.toNat_of_nonneg h]
structure SHP (d : Dfa) (P : List W3) (k : Nat) : Prop where
  rg : 0 ≤ (P.getD k w30).1.1 ∧ (P.getD k w30).1.1 < d.nx.length
end Go.AV
namespace Go.AV
open Nat renaming reduceEqDiff → E, reduceAdd → D, reduceLeDiff → J, reduceLT → S, reduceMul → M, reduceSub → O
open List renaming set_cons_zero → au, set_cons_succ → ar
/-plain-/
/-! On drcTh, compTh, shapesTh. -/
def bB (m : Mly) : STP := fun q x => (m.nxt q.1 x, m.out q.1 x)
def cW (q : PP) : Bool := decide (q.2 = 1)
def dn (m : Mly) : Bool := m.ot.flatten.any fun o => decide (1 < o)
def bZ (m : Mly) (acc : Bool) : List W3 := bY (bB m) m.inp.toNat (m.nx.length * 2) (m.st, bI1 acc)
def fmE (m : Mly) (acc : Bool) : Int := if ¬ c0 m = 0 then c0 m else if dn m = true then 1 else dBE (bZ m acc)
def fmD (m : Mly) (acc : Bool) : Dfa := if ¬ c0 m = 0 then cY else if dn m = true then cY else dBD (bB m) cW m.inp.toNat (bZ m acc)
theorem kc : ∀ (xs : List Int) (b : Int), 1 < xs.foldl max b ↔ 1 < b ∨ ∃ o, o ∈ xs ∧ 1 < o
  | [], b => by simp
  | x :: xs, b => by
    rw [List.foldl_cons, kc xs]
    constructor
    · rintro (h | ⟨o, ho, h⟩)
      · by_cases h2 : 1 < b
        · exact .inl h2
        · exact .inr ⟨x, List.mem_cons_self, by omega⟩
      · exact .inr ⟨o, List.mem_cons_of_mem _ ho, h⟩
    · rintro (h | ⟨o, ho, h⟩)
      · exact .inl (by omega)
      · rcases List.mem_cons.1 ho with rfl | ho
        · exact .inl (by omega)
        · exact .inr ⟨o, ho, h⟩
theorem pG {xs : List Int} (h : 0 < xs.length) : 1 < mxL xs ↔ ∃ o, o ∈ xs ∧ 1 < o := by
  unfold mxL
  rw [kc]
  constructor
  · rintro (h2 | h2)
    · exact ⟨_, ff.2 ⟨0, h, rfl⟩, h2⟩
    · exact h2
  · exact .inr
theorem fo {m : Mly} : dn m = true ↔ ∃ o, o ∈ m.ot.flatten ∧ 1 < o := by unfold dn; rw [List.any_eq_true]; exact ⟨fun ⟨o, h1, h2⟩ => ⟨o, h1, by simpa using h2⟩, fun ⟨o, h1, h2⟩ => ⟨o, h1, by simpa using h2⟩⟩
theorem oX {m : Mly} (hm : MOK m) : 0 < m.ot.flatten.length := by
  have h := jc hm m.ot.length (Nat.le_refl _)
  rw [List.take_length] at h
  have h1 := hm.i1; have h2 := hm.n1; have h3 := hm.ol
  have : 0 < (m.ot.length : Int) * m.inp := Int.mul_pos (by omega) (by omega)
  omega
theorem oS {xs : List Int} (h : 0 < xs.length) : 0 < (kd xs).length := by
  have : xs.getD 0 0 ∈ kd xs := ((gL xs).2 _).2 (ff.2 ⟨0, h, rfl⟩)
  obtain ⟨j, hj, _⟩ := ff.1 this
  omega
theorem ll {m : Mly} (hv : c0 m = 0) : 0 < (iz m).length ∧ (1 < mxL (iz m) ↔ dn m = true) := by
  have hm := jd hv
  rw [jU hv]
  have h := oS (oX hm)
  refine ⟨h, ?_⟩
  rw [pG h, fo]
  exact ⟨fun ⟨o, h1, h2⟩ => ⟨o, ((gL _).2 o).1 h1, h2⟩, fun ⟨o, h1, h2⟩ => ⟨o, ((gL _).2 o).2 h1, h2⟩⟩
theorem pm {m : Mly} (hm : MOK m) (hb : ¬ dn m = true) {s a : Int} (hs : 0 ≤ s ∧ s < m.nx.length) (ha : 0 ≤ a ∧ a < m.inp) : 0 ≤ m.out s a ∧ m.out s a < 2 := by
  have h1 := mJ hm hs ha
  have h2 := hm.or s.toNat a.toNat (by omega) (by omega)
  have h3 : ¬ 1 < m.out s a := fun h => hb (fo.2 ⟨_, h1, h⟩)
  have h4 : 0 ≤ m.out s a := h2.1
  omega
theorem eY {m : Mly} (hm : MOK m) (hb : ¬ dn m = true) {n : Nat} (hn : (n : Int) = m.inp) : ∀ q, inR m.nx.length 2 q → ∀ x, x < n → inR m.nx.length 2 (bB m q x) := fun q hq x hx => by
  obtain ⟨h1, h2⟩ := id hq.1
  have h3 := hm.nr q.1.toNat x (by omega) (by omega)
  have h4 := pm hm hb hq.1 (a := (x : Int)) ⟨by omega, by omega⟩
  have h5 : m.nxt q.1 x = (m.nx.getD q.1.toNat []).getD x 0 := by unfold Mly.nxt; rw [Int.toNat_natCast]
  exact ⟨by show 0 ≤ m.nxt q.1 x ∧ m.nxt q.1 x < _; rw [h5]; exact h3, h4⟩
theorem j9 {m : Mly} (hm : MOK m) (acc : Bool) : inR m.nx.length 2 (m.st, bI1 acc) := ⟨⟨hm.s1, hm.s2⟩, by unfold bI1; cases acc <;> simp, by unfold bI1; cases acc <;> simp⟩
theorem gJ {m : Mly} {acc : Bool} (h : ¬ c0 m = 0) : fmE m acc = c0 m ∧ fmD m acc = cY := ⟨if_pos h, if_pos h⟩
theorem gC {m : Mly} {acc : Bool} (h : c0 m = 0) (h2 : dn m = true) : fmE m acc = 1 ∧ fmD m acc = cY := by
  unfold fmE fmD; rw [if_neg (fun k => k h), if_pos h2, if_neg (fun k => k h), if_pos h2]; exact ⟨rfl, rfl⟩
theorem dh {m : Mly} {acc : Bool} (h : c0 m = 0) (h2 : ¬ dn m = true) : fmE m acc = dBE (bZ m acc) ∧ fmD m acc = dBD (bB m) cW m.inp.toNat (bZ m acc) := by
  unfold fmE fmD; rw [if_neg (fun k => k h), if_neg h2, if_neg (fun k => k h), if_neg h2]; exact ⟨rfl, rfl⟩
theorem oZ {m : Mly} (hm : MOK m) (h : ∀ s a : Nat, s < m.nx.length → (a : Int) < m.inp → (m.ot.getD s []).getD a 0 ≤ 1) : ¬ dn m = true := fun hb => by
  obtain ⟨o, ho, h1⟩ := fo.1 hb
  obtain ⟨row, hr, hor⟩ := List.mem_flatten.1 ho
  obtain ⟨s, hs⟩ := List.getElem?_of_mem hr
  have hsl := (List.getElem?_eq_some_iff.1 hs).1
  obtain ⟨a, ha, e⟩ := ff.1 hor
  have h3 : m.ot.getD s [] = row := by rw [List.getD, hs]; rfl
  have h4 := hm.ol
  have h5 := hm.ql s (by omega)
  rw [h3] at h5
  have := h s a (by omega) (by omega)
  rw [h3, e] at this; omega
theorem nB {m : Mly} (hm : MOK m) {s a : Nat} (hs : s < m.nx.length) (ha : (a : Int) < m.inp) (h : 1 < (m.ot.getD s []).getD a 0) : dn m = true := by
  have := mJ hm (s := (s : Int)) (a := (a : Int)) ⟨by omega, by omega⟩ ⟨by omega, ha⟩
  unfold Mly.out at this
  rw [Int.toNat_natCast, Int.toNat_natCast] at this
  exact fo.2 ⟨_, this, h⟩
theorem ia {A : STP} {n f k x : Nat} {l : List W3} (hk : k < l.length) (hx : x < n) : pos ((dm A n (f + 1) k l).map Prod.fst) (A (l.getD k w30).1 x) = pos ((bI A (l.getD k w30) l x).map Prod.fst) (A (l.getD k w30).1 x) := by
  by_cases h : A (l.getD k w30).1 x ∈ (bI A (l.getD k w30) l x).map Prod.fst
  · obtain ⟨r1, h1⟩ := ex A n f (k + 1) (bI A (l.getD k w30) l n)
    obtain ⟨r2, h2⟩ := eH A (l.getD k w30) l x (n - x)
    rw [show x + (n - x) = n by omega] at h2
    rw [dM _ _ _ hk, h1, h2, List.append_assoc, List.map_append, dr _ h]
  · obtain ⟨r, hr⟩ := kH (f := f) hk hx h
    rw [hr, List.map_append, dr _ (by simp), List.map_append, List.map_cons, List.map_nil, iE h, eX h]
theorem gz {A : STP} {n f k : Nat} {l : List W3} {i : Nat} (h : i < l.length) : (dm A n f k l).getD i w30 = l.getD i w30 := by
  obtain ⟨r, hr⟩ := ex A n f k l
  rw [hr]; simp [List.getD, List.getElem?_append_left h]
end Go.AV
namespace Go.AV
open Nat renaming reduceEqDiff → E, reduceAdd → D, reduceLeDiff → J, reduceLT → S, reduceMul → M, reduceSub → O
open List renaming set_cons_zero → au, set_cons_succ → ar
/-plain-/
/-! On drepTh. -/
def Dfa.sgP (d : Dfa) (cl : List Int) (s k : Nat) : List Int := cl.getD s 0 :: ((d.nx.getD s []).take k).map fun t => cl.getD t.toNat 0
theorem oY {d : Dfa} {cl : List Int} {s k : Nat} (h : k < (d.nx.getD s []).length) : d.sgP cl s (k + 1) = d.sgP cl s k ++ [cl.getD ((d.nx.getD s []).getD k 0).toNat 0] := by
  unfold Dfa.sgP; rw [da _ 0 h]; rfl
theorem qK (d : Dfa) (cl : List Int) (s : Nat) : d.sgP cl s (d.nx.getD s []).length = d.sg cl s := by unfold Dfa.sgP Dfa.sg; rw [List.take_length]
theorem pU {d : Dfa} {cl : List Int} {s k : Nat} (h : k ≤ (d.nx.getD s []).length) : (d.sgP cl s k).length = k + 1 := by unfold Dfa.sgP; rw [List.length_cons, List.length_map, List.length_take]; omega
theorem pt {α : Type} [DecidableEq α] {dv q : α} : ∀ {l : List α} {k : Nat}, (∀ j, j < k → l.getD j dv ≠ q) → k < l.length → l.getD k dv = q → pos l q = k ∧ q ∈ l
  | [], k, _, hk, _ => by simp at hk
  | x :: l, 0, _, _, h => by
    have : x = q := by simpa using h
    subst this; simp [pos]
  | x :: l, k + 1, hq, hk, h => by
    have h0 : x ≠ q := by have := hq 0 (by omega); simpa using this
    have ih := pt (l := l) (k := k) (dv := dv) (q := q) (fun j hj => by have := hq (j + 1) (by omega); simpa using this) (by simpa using hk) (by simpa using h)
    exact ⟨by simp [pos, h0, ih.1], by simp [ih.2]⟩
theorem mf {α : Type} [DecidableEq α] {dv q : α} {l : List α} (hq : ∀ j, j < l.length → l.getD j dv ≠ q) : q ∉ l := fun h => by
  obtain ⟨j, hj⟩ := List.getElem?_of_mem h
  exact hq j (List.getElem?_eq_some_iff.1 hj).1 (by rw [List.getD, hj]; rfl)
def ixL (xs : List (List Int)) (x : List Int) : Int := if x ∈ xs then (pos xs x : Int) else -1
theorem hJ {xs : List (List Int)} {x : List Int} (h : x ∈ xs) : ixL xs x = (pos xs x : Int) := if_pos h
theorem jQ {xs : List (List Int)} {x : List Int} (h : x ∉ xs) : ixL xs x = -1 := if_neg h
theorem m0 {xs : List (List Int)} {x : List Int} : ixL xs x < 0 ↔ x ∉ xs := by
  constructor
  · intro h hm; rw [hJ hm] at h; omega
  · intro h; rw [jQ h]; omega
theorem kp {α : Type} [DecidableEq α] {f : Nat → α} {k n : Nat} (hk : k < n) (h : f k ∈ cB f k) : pos (cB f n) (f k) = pos (cB f k) (f k) := by
  rw [iw f (i := k) (k := k + 1) (by omega) n (by omega), d5, eE h]
theorem kW {α : Type} [DecidableEq α] {f : Nat → α} {k n : Nat} (hk : k < n) (h : f k ∉ cB f k) : pos (cB f n) (f k) = (cB f k).length := by
  rw [iw f (i := k) (k := k + 1) (by omega) n (by omega), d5, dK h, iE h]
def nxF (d : Dfa) (cl : List Int) (s : Nat) : Int := (pos (cB (d.sg cl) d.nx.length) (d.sg cl s) : Int)
end Go.AV
namespace Go.AV
open Nat renaming reduceEqDiff → E, reduceAdd → D, reduceLeDiff → J, reduceLT → S, reduceMul → M, reduceSub → O
open List renaming set_cons_zero → au, set_cons_succ → ar
/-plain-/
/-! On drepTh, sigTh, dfmTh. -/
def lq (P : Nat → Bool) (s : Nat) : Nat := ((List.range s).find? P).getD s
def rc0 (t : Dfa) (s : Nat) : Int := (lq (fun q => decide (t.acc.getD q false = t.acc.getD s false)) s : Int)
def rcF (t : Dfa) (cl : List Int) (s : Nat) : Int := (lq (fun q => decide (t.sg cl q = t.sg cl s)) s : Int)
def rcl (t : Dfa) : Nat → List Int
  | 0 => (List.range t.nx.length).map (rc0 t)
  | r + 1 => (List.range t.nx.length).map (rcF t (rcl t r))
def rC (t : Dfa) : List Int := rcl t t.nx.length
structure RCK (t : Dfa) : Prop where
  rg : ∀ s, s < t.nx.length → 0 ≤ (rC t).getD s 0 ∧ (rC t).getD s 0 ≤ s
  eq : ∀ s u, s < t.nx.length → u < t.nx.length → ((rC t).getD s 0 = (rC t).getD u 0 ↔ DEQ t t s u)
  id : ∀ s, s < t.nx.length → (rC t).getD ((rC t).getD s 0).toNat 0 = (rC t).getD s 0
/-! The states that name a class, and their numbers. -/
end Go.AV
namespace Go.AV
open Nat renaming reduceEqDiff → E, reduceAdd → D, reduceLeDiff → J, reduceLT → S, reduceMul → M, reduceSub → O
open List renaming set_cons_zero → au, set_cons_succ → ar
/-plain-/
/-! On drmTh: the reference's Min is the program's. -/
/-! Two minimal automata. -/
end Go.AV
namespace Go.AV
open Nat renaming reduceEqDiff → E, reduceAdd → D, reduceLeDiff → J, reduceLT → S, reduceMul → M, reduceSub → O
open List renaming set_cons_zero → au, set_cons_succ → ar
/-plain-/
/-! On drmTh, dmeqTh. -/
def dEv : Dfa := ⟨2, 0, [[0, 1], [1, 0]], [true, false]⟩
end Go.AV
namespace Go.Proofs.Ytdkgcbhbpdbmnaa
open Go Go.AV
open Nat renaming reduceEqDiff → E, reduceAdd → D, reduceLeDiff → J, reduceLT → S, reduceMul → M, reduceSub → O
open List renaming set_cons_zero → au, set_cons_succ → ar
set_option maxRecDepth 100000 in
theorem qE  : bG Try.prog 39 [] ((Dfa.mk 2 0 [[0, 1], [1, 0]] [true, false]).av) := by
 refine aR Try.func39 rfl (by kernel_rfl) (Nat.le_of_ble_eq_true rfl) rfl fun C hP hN hB => ?_
 replace hN : C.N = 6 := hN
 simp only [Y, D]
 refine aa fun K1 hK1 => ?_
 refine af hP hN rfl ?_
 (refine ab rfl fun K0 V => ?_; simp only [zE, op1, ev, lkp, ah, ag, bE, reduceCtorEq, E, D, J, S, M, O, Try.st25, Try.td25, Dfa.av]; (repeat refine And.intro (by first | omega | assumption | exact rfl) ?_); (first | refine V _ ?_ | refine Or.inl (V _ ?_)); clear V K0; simp only [put, app, Z, ae, zE, zS, D])
 refine ai ?_
 refine hK1 _ ?_; clear hK1; refine ad [0] ?_; simp only [U, lkp, zE, reduceCtorEq, E, Y, D]
 refine aa fun K2 hK2 => ?_
 refine af hP hN rfl ?_
 iterate 6 (refine ab rfl fun K0 V => ?_; simp only [zE, op1, ev, lkp, ah, ag, bb, b0, bQ, rep, aI, aO, am, Ty.size, bH, aZ, Nat.mul_one, acs, Ty.dflt, zG, reduceCtorEq, E, D, J, S, M, O, Try.el22, Try.el23, Try.el26, Try.st25, Try.td2, Try.td22, Try.td23, Try.td25, Try.td26, Dfa.av]; (repeat refine And.intro (by first | omega | assumption | exact rfl) ?_); (first | refine V _ ?_ | refine Or.inl (V _ ?_)); clear V K0; simp only [put, app, Z, ae, zE, zS, D])
 refine ai ?_
 refine hK2 _ ?_; clear hK2; refine ad [0] ?_; simp only [U, lkp, zE, reduceCtorEq, E, Y, D]
 refine aH ?_
 refine ⟨by first | exact .inl rfl | exact .inr rfl, _, rfl, ?_⟩; simp only [fzV, fz1, fzC, List.map_cons, List.map_nil, U, lkp, zE, reduceCtorEq, E, Y, D, Dfa.av]
 refine VLE.of_eq ?_
 rfl
end Go.Proofs.Ytdkgcbhbpdbmnaa
namespace Go.Proofs.Ytdkgcbhbpdbmnaa
open Go Go.AV
open Nat renaming reduceEqDiff → E, reduceAdd → D, reduceLeDiff → J, reduceLT → S, reduceMul → M, reduceSub → O
open List renaming set_cons_zero → au, set_cons_succ → ar
theorem oz : bG Try.prog 39 [] dEv.av := qE

end Go.Proofs.Ytdkgcbhbpdbmnaa
namespace Go.Proofs.Ytdkgcbhbpdbmnaa
open Go Go.AV
open Nat renaming reduceEqDiff → E, reduceAdd → D, reduceLeDiff → J, reduceLT → S, reduceMul → M, reduceSub → O
open List renaming set_cons_zero → au, set_cons_succ → ar
set_option maxRecDepth 100000 in
theorem o5 (m : Mly) (q : PP) (x : Nat) (hm : MOK m) (hq : inR m.nx.length 2 q) (hx : (x : Int) < m.inp) : bG Try.prog 71 [.agg [.int .i64 q.1, .int .i64 q.2], .one (.int .i64 (x : Int)), .one (.pat (.pair (.int .i64) (.pair (.int .i64) (.pair (.list (.list (.int .i64))) (.pair (.list (.list (.int .i64))) .unit)))) (m.inp, (m.st, (m.nx, (m.ot, ())))) 0)] (.agg [.int .i64 (bB m q x).1, .int .i64 (bB m q x).2]) := by
 obtain ⟨⟨hq1, hq2⟩, hq3⟩ := id hq; have hmo := hm.ol; have hmi := hm.i2; have h1 := hm.rl q.1.toNat (by omega); have h2 := hm.ql q.1.toNat (by omega)
 refine aR Try.func71 rfl (by kernel_rfl) (Nat.le_of_ble_eq_true rfl) rfl fun C hP hN hB => ?_
 replace hN : C.N = 25 := hN
 simp only [Y, D]
 refine aa fun K1 hK1 => ?_
 refine af hP hN rfl ?_
 iterate 2 (refine ab rfl fun K0 V => ?_; simp only [zE, op1, ev, lkp, ah, ag, ca, am, bE, reduceCtorEq, E, D, J, S, M, O, Try.ea81, Try.sa81, Try.td81]; (repeat refine And.intro (by first | omega | assumption | exact rfl) ?_); (first | refine V _ ?_ | refine Or.inl (V _ ?_)); clear V K0; simp only [put, app, Z, ae, zE, zS, D])
 refine ai ?_
 refine hK1 _ ?_; clear hK1; refine ad [0, 1, 2, 3, 5] ?_; simp only [U, lkp, zE, reduceCtorEq, E, Y, D]
 refine aa fun K2 hK2 => ?_
 refine bP hP hN Try.mixed rfl ?_
 iterate 20 (refine ab rfl fun K0 V => ?_; simp only [zE, op1, ev, lkp, ah, ag, ao, ay, Nat.mul_one, aw, ax, acs, Ty.dflt, zG, ak, aK, Ty.size, ne_eq, not_false_eq_true, Int.natCast_one, Int.mul_one, bH, b0, aO, am, aZ, aI, reduceCtorEq, E, D, J, S, M, O, Try.ea81, Try.el22, Try.el26, Try.sa81, Try.st58, Try.td2, Try.td22, Try.td26, Try.td3, Try.td58, Try.td81]; (repeat refine And.intro (by first | omega | assumption | exact rfl) ?_); (first | refine V _ ?_ | refine Or.inl (V _ ?_)); clear V K0; simp only [put, app, Z, ae, zE, zS, D])
 refine ai ?_
 refine ⟨by kernel_rfl, ?_⟩
 refine hK2 _ ?_; clear hK2; refine ad [0, 1, 2, 3, 5] ?_; simp only [U, lkp, zE, reduceCtorEq, E, Y, D]
 refine aH ?_
 refine ⟨by first | exact .inl rfl | exact .inr rfl, _, rfl, ?_⟩; simp only [fzV, fz1, fzC, List.map_cons, List.map_nil, U, lkp, zE, reduceCtorEq, E, Y, D]
 refine VLE.of_eq ?_
 rfl
end Go.Proofs.Ytdkgcbhbpdbmnaa
namespace Go.Proofs.Ytdkgcbhbpdbmnaa
open Go Go.AV
open Nat renaming reduceEqDiff → E, reduceAdd → D, reduceLeDiff → J, reduceLT → S, reduceMul → M, reduceSub → O
open List renaming set_cons_zero → au, set_cons_succ → ar
set_option maxRecDepth 100000 in
theorem o8 (q : PP) : bG Try.prog 72 [.agg [.int .i64 q.1, .int .i64 q.2]] (.one (.bool (cW q))) := by
 refine aR Try.func72 rfl (by kernel_rfl) (Nat.le_of_ble_eq_true rfl) rfl fun C hP hN hB => ?_
 replace hN : C.N = 6 := hN
 simp only [Y, D]
 refine aa fun K1 hK1 => ?_
 refine af hP hN rfl ?_
 iterate 2 (refine ab rfl fun K0 V => ?_; simp only [zE, op1, ev, lkp, ah, ag, ca, am, reduceCtorEq, E, D, J, S, M, O, Try.ea81, Try.sa81, Try.td4, Try.td81]; (repeat refine And.intro (by first | omega | assumption | exact rfl) ?_); refine V _ ?_; clear V K0; simp only [put, app, Z, ae, zE, zS, D])
 refine ai ?_
 refine hK1 _ ?_; clear hK1; refine ad [0, 1, 2] ?_; simp only [U, lkp, zE, reduceCtorEq, E, Y, D]
 refine aa fun K2 hK2 => ?_
 refine af hP hN rfl ?_
 iterate 4 (refine ab rfl fun K0 V => ?_; simp only [zE, op1, ev, lkp, ah, ag, aK, zG, Ty.dflt, Ty.size, Nat.mul_one, ne_eq, not_false_eq_true, Int.natCast_one, Int.mul_one, ay, aw, ax, acs, ak, aB, aD, aC, aq, az, aP, reduceCtorEq, E, D, J, S, M, O, Try.ea81, Try.sa81, Try.td3, Try.td4, Try.td81]; (repeat refine And.intro (by first | omega | assumption | exact rfl) ?_); refine V _ ?_; clear V K0; simp only [put, app, Z, ae, zE, zS, D])
 refine ai ?_
 refine hK2 _ ?_; clear hK2; refine ad [0, 1, 2] ?_; simp only [U, lkp, zE, reduceCtorEq, E, Y, D]
 refine aH ?_
 refine ⟨by first | exact .inl rfl | exact .inr rfl, _, rfl, ?_⟩; simp only [fzV, fz1, fzC, List.map_cons, List.map_nil, U, lkp, zE, reduceCtorEq, E, Y, D]
 refine VLE.of_eq ?_
 rfl
end Go.Proofs.Ytdkgcbhbpdbmnaa
namespace Go.Proofs.Ytdkgcbhbpdbmnaa
open Go Go.AV
open Nat renaming reduceEqDiff → E, reduceAdd → D, reduceLeDiff → J, reduceLT → S, reduceMul → M, reduceSub → O
open List renaming set_cons_zero → au, set_cons_succ → ar
set_option maxRecDepth 100000 in
theorem ru (xs : List Int) (h0 : 0 < xs.length) : bG Try.prog 69 [.one (.list (.int .i64) xs)] (.one (.int .i64 (mxL xs))) := by
 refine aR Try.func69 rfl (by kernel_rfl) (Nat.le_of_ble_eq_true rfl) rfl fun C hP hN hB => ?_
 replace hN : C.N = 25 := hN
 simp only [Y, D]
 refine dA 0 rfl fun hf0 => ?_; simp only [lkp, if_true, if_false, reduceCtorEq, E, eq_self, Nat.one_ne_zero, Nat.zero_ne_one, fW, fH, fL, Fit, and_true, implies_true, true_and] at hf0
 refine aa fun K1 hK1 => ?_
 refine af hP hN rfl ?_
 (refine ab rfl fun K0 V => ?_; simp only [zE, op1, ev, lkp, ah, ag, ev, reduceCtorEq, E, D, J, S, M, O, Try.td3]; refine V _ ?_; clear V K0; simp only [put, app, Z, ae, zE, zS, D])
 refine ai ?_
 refine hK1 _ ?_; clear hK1; refine ad [0, 2] ?_; simp only [U, lkp, zE, reduceCtorEq, E, Y, D]
 refine aa fun K2 hK2 => ?_
 refine aa fun K3 hK3 => ?_
 refine af hP hN rfl ?_
 iterate 3 (refine ab rfl fun K0 V => ?_; simp only [zE, op1, ev, lkp, ah, ag, aE, bj, ba, aU, aV, bg, Nat.div_one, aM, aX, Ty.size, aI, dite_true, aB, aD, aC, aq, az, aP, reduceCtorEq, E, D, J, S, M, O, Try.el26, Try.td26, Try.td3, Try.td4]; (repeat refine And.intro (by first | omega | assumption | exact rfl) ?_); (first | refine V _ ?_ | refine Or.inl (V _ ?_)); clear V K0; simp only [put, app, Z, ae, zE, zS, D])
 refine ai ?_
 refine hK3 _ ?_; clear hK3; refine ad [0, 2, 7] ?_; simp only [U, lkp, zE, reduceCtorEq, E, Y, D]
 refine aA (by simp only [ev, U, lkp, zE, reduceCtorEq, E, Y, D]; exact rfl) (fun hc4 => ?_) (fun hc4 => ?_)
 · exfalso; (try simp only [zB, reduceCtorEq] at hc4); all_goals (first | (cases hc4; done) | omega | (simp at hc4; done) | (simp_all; done))
 ·(try simp only [zB, reduceCtorEq] at hc4)
  refine aG ?_
  refine hK2 _ ?_; clear hK2; refine ad [0, 2, 7] ?_; simp only [U, lkp, zE, reduceCtorEq, E, Y, D]
  refine aa fun K5 hK5 => ?_
  refine af hP hN rfl ?_
  iterate 4 (refine ab rfl fun K0 V => ?_; simp only [zE, op1, ev, lkp, ah, ag, aK, zG, Ty.dflt, Ty.size, Nat.mul_one, ne_eq, not_false_eq_true, Int.natCast_one, Int.mul_one, ay, aw, ax, acs, ak, reduceCtorEq, E, D, J, S, M, O, Try.el26, Try.td26, Try.td3]; (repeat refine And.intro (by first | omega | assumption | exact rfl) ?_); refine V _ ?_; clear V K0; simp only [put, app, Z, ae, zE, zS, D])
  refine ai ?_
  refine hK5 _ ?_; clear hK5; refine ad [0, 2, 3, 7] ?_; simp only [U, lkp, zE, reduceCtorEq, E, Y, D]
  refine aa fun K6 hK6 => ?_
  refine aa fun K7 hK7 => ?_
  refine af hP hN rfl ?_
  (refine ab rfl fun K0 V => ?_; simp only [zE, op1, ev, lkp, ah, ag, ev, reduceCtorEq, E, D, J, S, M, O, Try.td3]; refine V _ ?_; clear V K0; simp only [put, app, Z, ae, zE, zS, D])
  refine ai ?_
  refine hK7 _ ?_; clear hK7; refine ad [0, 2, 3, 4, 7] ?_; simp only [U, lkp, zE, reduceCtorEq, E, Y, D]
  refine aN ?_
  refine bo (fun n8 s8 => ∃ (k : Nat), (1 ≤ k) ∧ (k ≤ xs.length) ∧ n8 = xs.length - k ∧ s8 = { env := [(0, .one (.list (.int .i64) xs)), (3, .one (.int .i64 ((xs.take k).foldl max (xs.getD 0 0)))), (4, .one (.int .i64 (k : Int)))], L := [] }) ?_ ?_
  ·refine ⟨_, _, aJ [0, 3, 4], 1, Nat.le_refl _, h0, rfl, ?_⟩
   rw [qW h0]; rfl
  ·rintro n8 s8 ⟨k, hk1, hk, rfl, rfl⟩
   refine aa fun K9 hK9 => ?_
   refine aa fun K10 hK10 => ?_
   refine af hP hN rfl ?_
   iterate 4 (refine ab rfl fun K0 V => ?_; simp only [zE, op1, ev, lkp, ah, ag, aE, bj, ba, aU, aV, bg, Nat.div_one, aM, aX, Ty.size, aI, dite_true, aB, aD, aC, aq, az, aP, reduceCtorEq, E, D, J, S, M, O, Try.el26, Try.td26, Try.td3, Try.td4]; (repeat refine And.intro (by first | omega | assumption | exact rfl) ?_); (first | refine V _ ?_ | refine Or.inl (V _ ?_)); clear V K0; simp only [put, app, Z, ae, zE, zS, D])
   refine ai ?_
   refine hK10 _ ?_; clear hK10; refine ad [0, 3, 4, 15] ?_; simp only [U, lkp, zE, reduceCtorEq, E, Y, D]
   refine aA (by simp only [ev, U, lkp, zE, reduceCtorEq, E, Y, D]; exact rfl) (fun hc11 => ?_) (fun hc11 => ?_)
   ·(try simp only [zB, reduceCtorEq] at hc11)
    refine aG ?_
    refine hK9 _ ?_; clear hK9; refine ad [0, 3, 4, 15] ?_; simp only [U, lkp, zE, reduceCtorEq, E, Y, D]
    refine aa fun K12 hK12 => ?_
    refine aN ?_
    refine af hP hN rfl ?_
    iterate 7 (refine ab rfl fun K0 V => ?_; simp only [zE, op1, ev, lkp, ah, ag, aK, zG, Ty.dflt, Ty.size, Nat.mul_one, ne_eq, not_false_eq_true, Int.natCast_one, Int.mul_one, ay, aw, ax, acs, ak, aE, bj, ba, aU, aV, bg, Nat.div_one, aM, aX, aI, dite_true, reduceCtorEq, E, D, J, S, M, O, Try.el26, Try.td26, Try.td3]; (repeat refine And.intro (by first | omega | assumption | exact rfl) ?_); (first | refine V _ ?_ | refine Or.inl (V _ ?_)); clear V K0; simp only [put, app, Z, ae, zE, zS, D])
    refine ai ?_
    refine hK12 _ ?_; clear hK12; refine ad [0, 3, 4, 15] ?_; simp only [U, lkp, zE, reduceCtorEq, E, Y, D]
    refine af hP hN rfl ?_
    iterate 3 (refine ab rfl fun K0 V => ?_; simp only [zE, op1, ev, lkp, ah, ag, aB, aD, aC, aq, az, aP, reduceCtorEq, E, D, J, S, M, O, Try.td3]; (repeat refine And.intro (by first | omega | assumption | exact rfl) ?_); refine V _ ?_; clear V K0; simp only [put, app, Z, ae, zE, zS, D])
    refine ai ?_
    refine ⟨_, _, ?_, aJ [0, 3, 4], k + 1, by omega, by omega, rfl, ?_⟩
    · omega
    · rw [ln (by omega), List.foldl_append]; rfl
   ·(try simp only [zB, reduceCtorEq] at hc11)
    refine bm ?_
    refine hK6 _ ?_; clear hK6; refine ad [0, 3, 4, 15] ?_; simp only [U, lkp, zE, reduceCtorEq, E, Y, D]
    refine aa fun K13 hK13 => ?_
    refine af hP hN rfl ?_
    iterate 2 (refine ab rfl fun K0 V => ?_; simp only [zE, op1, ev, lkp, ah, ag, ev, reduceCtorEq, E, D, J, S, M, O, Try.td3]; refine V _ ?_; clear V K0; simp only [put, app, Z, ae, zE, zS, D])
    refine ai ?_
    refine hK13 _ ?_; clear hK13; refine ad [0, 2, 3, 4, 15] ?_; simp only [U, lkp, zE, reduceCtorEq, E, Y, D]
    refine aH ?_
    refine ⟨by first | exact .inl rfl | exact .inr rfl, _, rfl, ?_⟩; simp only [fzV, fz1, fzC, List.map_cons, List.map_nil, U, lkp, zE, reduceCtorEq, E, Y, D]
    refine VLE.of_eq ?_
    refine congrArg (fun n => AV.one (AC.int IntKind.i64 n)) ?_
    rw [show k = xs.length by omega, List.take_length]; rfl
end Go.Proofs.Ytdkgcbhbpdbmnaa
namespace Go.Proofs.Ytdkgcbhbpdbmnaa
open Go Go.AV
open Nat renaming reduceEqDiff → E, reduceAdd → D, reduceLeDiff → J, reduceLT → S, reduceMul → M, reduceSub → O
open List renaming set_cons_zero → au, set_cons_succ → ar
open Go.Shelf in
def Try.laysNm220_ren : Go.Shelf.Ren := ⟨fun | 20 => 84 | n => n, fun | 22 => 26 | 3 => 3 | 4 => 4 | 0 => 0 | n => n, fun | n => n⟩
theorem Try.laysNm220 : Go.Proofs.Lays2.n20 Try.prog Try.laysNm220_ren := {
  mixed := by kernel_rfl,
  f20 := Try.func84.trans (congrArg some (by kernel_rfl)),
  t0 := Try.underlying0,
  a0 := Try.isAgg0,
  z0 := Try.sizeOf0,
  v0 := Try.zeroValue0,
  t3 := Try.underlying3,
  a3 := Try.isAgg3,
  z3 := Try.sizeOf3,
  v3 := Try.zeroValue3,
  t4 := Try.underlying4,
  a4 := Try.isAgg4,
  z4 := Try.sizeOf4,
  v4 := Try.zeroValue4,
  t22 := Try.underlying26,
  a22 := Try.isAgg26,
  z22 := Try.sizeOf26,
  v22 := Try.zeroValue26,
  i3 := by kernel_rfl }
theorem mt : kt Try.prog 84 := ⟨⟨Try.f84, Try.func84, by kernel_rfl, by kernel_rfl⟩, fun blk off cap zs w hH hb hz => Any.slices_Compact_int Try.laysNm220 blk off cap zs w hH hb hz⟩
end Go.Proofs.Ytdkgcbhbpdbmnaa
namespace Go.Proofs.Ytdkgcbhbpdbmnaa
open Go Go.AV
open Nat renaming reduceEqDiff → E, reduceAdd → D, reduceLeDiff → J, reduceLT → S, reduceMul → M, reduceSub → O
open List renaming set_cons_zero → au, set_cons_succ → ar
open Go.Shelf in
def Try.lays189_ren : Go.Shelf.Ren := ⟨fun | 189 => 83 | 125 => 94 | 257 => 93 | 128 => 105 | 129 => 106 | 294 => 96 | 295 => 97 | 296 => 98 | 297 => 99 | 298 => 100 | 299 => 101 | 216 => 102 | 300 => 103 | 301 => 104 | 328 => 107 | 329 => 108 | 330 => 109 | 331 => 110 | 332 => 111 | 215 => 112 | 343 => 113 | n => n, fun | 28 => 26 | 3 => 3 | 46 => 124 | 0 => 0 | 51 => 135 | 53 => 137 | 4 => 4 | 183 => 128 | 182 => 127 | 131 => 111 | 5 => 5 | 9 => 9 | 218 => 138 | 222 => 142 | 228 => 144 | 229 => 54 | n => n, fun | n => n⟩
theorem Try.lays189 : Go.Proofs.Lays.n189 Try.prog Try.lays189_ren := {
  mixed := by kernel_rfl,
  f125 := Try.func94.trans (congrArg some (by kernel_rfl)),
  f128 := Try.func105.trans (congrArg some (by kernel_rfl)),
  f129 := Try.func106.trans (congrArg some (by kernel_rfl)),
  f189 := Try.func83.trans (congrArg some (by kernel_rfl)),
  f215 := Try.func112.trans (congrArg some (by kernel_rfl)),
  f216 := Try.func102.trans (congrArg some (by kernel_rfl)),
  f257 := Try.func93.trans (congrArg some (by kernel_rfl)),
  f294 := Try.func96.trans (congrArg some (by kernel_rfl)),
  f295 := Try.func97.trans (congrArg some (by kernel_rfl)),
  f296 := Try.func98.trans (congrArg some (by kernel_rfl)),
  f297 := Try.func99.trans (congrArg some (by kernel_rfl)),
  f298 := Try.func100.trans (congrArg some (by kernel_rfl)),
  f299 := Try.func101.trans (congrArg some (by kernel_rfl)),
  f300 := Try.func103.trans (congrArg some (by kernel_rfl)),
  f301 := Try.func104.trans (congrArg some (by kernel_rfl)),
  f328 := Try.func107.trans (congrArg some (by kernel_rfl)),
  f329 := Try.func108.trans (congrArg some (by kernel_rfl)),
  f330 := Try.func109.trans (congrArg some (by kernel_rfl)),
  f331 := Try.func110.trans (congrArg some (by kernel_rfl)),
  f332 := Try.func111.trans (congrArg some (by kernel_rfl)),
  f343 := Try.func113.trans (congrArg some (by kernel_rfl)),
  t0 := Try.underlying0,
  a0 := Try.isAgg0,
  z0 := Try.sizeOf0,
  v0 := Try.zeroValue0,
  t3 := Try.underlying3,
  a3 := Try.isAgg3,
  z3 := Try.sizeOf3,
  v3 := Try.zeroValue3,
  t4 := Try.underlying4,
  a4 := Try.isAgg4,
  z4 := Try.sizeOf4,
  v4 := Try.zeroValue4,
  t5 := Try.underlying5,
  a5 := Try.isAgg5,
  z5 := Try.sizeOf5,
  v5 := Try.zeroValue5,
  t9 := Try.underlying9,
  a9 := Try.isAgg9,
  z9 := Try.sizeOf9,
  v9 := Try.zeroValue9,
  t28 := Try.underlying26,
  a28 := Try.isAgg26,
  z28 := Try.sizeOf26,
  v28 := Try.zeroValue26,
  t46 := Try.underlying124,
  a46 := Try.isAgg124,
  z46 := Try.sizeOf124,
  v46 := Try.zeroValue124,
  t51 := Try.underlying135,
  a51 := Try.isAgg135,
  z51 := Try.sizeOf135,
  v51 := Try.zeroValue135,
  t53 := Try.underlying137,
  a53 := Try.isAgg137,
  z53 := Try.sizeOf137,
  v53 := Try.zeroValue137,
  t131 := Try.underlying111,
  a131 := Try.isAgg111,
  z131 := Try.sizeOf111,
  v131 := Try.zeroValue111,
  t182 := Try.underlying127,
  a182 := Try.isAgg127,
  z182 := Try.sizeOf127,
  v182 := Try.zeroValue127,
  t183 := Try.underlying128,
  a183 := Try.isAgg128,
  z183 := Try.sizeOf128,
  v183 := Try.zeroValue128,
  t218 := Try.underlying138,
  a218 := Try.isAgg138,
  z218 := Try.sizeOf138,
  v218 := Try.zeroValue138,
  t222 := Try.underlying142,
  a222 := Try.isAgg142,
  z222 := Try.sizeOf142,
  v222 := Try.zeroValue142,
  t228 := Try.underlying144,
  a228 := Try.isAgg144,
  z228 := Try.sizeOf144,
  v228 := Try.zeroValue144,
  t229 := Try.underlying54,
  a229 := Try.isAgg54,
  z229 := Try.sizeOf54,
  v229 := Try.zeroValue54 }
theorem pR : px Try.prog 83 := ⟨⟨Try.f83, Try.func83, by kernel_rfl, by kernel_rfl⟩, fun blk off cap zs w hH hb hz => Any.slices_Sort_int Try.lays189 blk off cap zs w hH hb hz⟩
end Go.Proofs.Ytdkgcbhbpdbmnaa
namespace Go.Proofs.Ytdkgcbhbpdbmnaa
open Go Go.AV
open Nat renaming reduceEqDiff → E, reduceAdd → D, reduceLeDiff → J, reduceLT → S, reduceMul → M, reduceSub → O
open List renaming set_cons_zero → au, set_cons_succ → ar
set_option maxRecDepth 100000 in
theorem mb (m : Mly) : bG Try.prog 68 [m.av] (.one (.int .i64 (c0 m))) := by
 refine aR Try.func68 rfl (by kernel_rfl) (Nat.le_of_ble_eq_true rfl) rfl fun C hP hN hB => ?_
 replace hN : C.N = 104 := hN
 simp only [Y, D]
 refine aa fun K1 hK1 => ?_
 refine af hP hN rfl ?_
 iterate 2 (refine ab rfl fun K0 V => ?_; simp only [zE, op1, ev, lkp, ah, ag, ca, am, reduceCtorEq, E, D, J, S, M, O, Try.st58, Try.td29, Try.td58, Mly.av]; (repeat refine And.intro (by first | omega | assumption | exact rfl) ?_); refine V _ ?_; clear V K0; simp only [put, app, Z, ae, zE, zS, D])
 refine ai ?_
 refine hK1 _ ?_; clear hK1; refine ad [0, 1, 2] ?_; simp only [U, lkp, zE, reduceCtorEq, E, Y, D]
 refine aa fun K2 hK2 => ?_
 refine af hP hN rfl ?_
 iterate 4 (refine ab rfl fun K0 V => ?_; simp only [zE, op1, ev, lkp, ah, ag, ao, ay, Nat.mul_one, aw, ax, acs, Ty.dflt, zG, ak, aE, bj, ba, aU, aV, bg, Nat.div_one, aM, aX, Ty.size, aI, dite_true, reduceCtorEq, E, D, J, S, M, O, Try.el22, Try.st58, Try.td2, Try.td22, Try.td3, Try.td58, Mly.av]; (repeat refine And.intro (by first | omega | assumption | exact rfl) ?_); (first | refine V _ ?_ | refine Or.inl (V _ ?_)); clear V K0; simp only [put, app, Z, ae, zE, zS, D])
 refine ai ?_
 refine hK2 _ ?_; clear hK2; refine ad [0, 1, 2, 3] ?_; simp only [U, lkp, zE, reduceCtorEq, E, Y, D]
 refine aa fun K3 hK3 => ?_
 refine aN ?_
 refine aa fun K4 hK4 => ?_
 refine af hP hN rfl ?_
 iterate 3 (refine ab rfl fun K0 V => ?_; simp only [zE, op1, ev, lkp, ah, ag, ao, ay, Nat.mul_one, aw, ax, acs, Ty.dflt, zG, ak, aB, aD, aC, aq, az, aP, reduceCtorEq, E, D, J, S, M, O, Try.st58, Try.td3, Try.td4, Try.td58, Mly.av]; (repeat refine And.intro (by first | omega | assumption | exact rfl) ?_); refine V _ ?_; clear V K0; simp only [put, app, Z, ae, zE, zS, D])
 (refine ab rfl fun K0 V => ?_; simp only [zE, op1, ev, lkp, ah, ag, ev, reduceCtorEq, E, D, J, S, M, O, Try.td4, Mly.av]; refine V _ ?_; clear V K0; simp only [put, app, Z, ae, zE, zS, D])
 refine' aW (want := false) 3 rfl (m := 15) (by simp only [U, lkp, zE, reduceCtorEq, E, Y, D]; exact rfl) (by kernel_rfl) rfl rfl rfl rfl rfl (fun hg5 => ?a5) ?b5 ?c5
 case a5 =>
  have hq5 := hg5; (try simp only [zB, reduceCtorEq] at hg5); simp only [List.take_succ_cons, List.take_zero, List.cons_append, List.nil_append]
  (refine aF rfl fun K0 V => ?_; simp only [zE, op1, ev, lkp, ah, ag, ao, reduceCtorEq, E, D, J, S, M, O, Try.st58, Try.td58, Mly.av]; (repeat refine And.intro (by first | omega | assumption | exact rfl) ?_); refine V _ ?_; clear V K0; simp only [put, app, Z, ae, zE, zS, D])
  (refine aF rfl fun K0 V => ?_; simp only [zE, op1, ev, lkp, ah, ag, ay, Nat.mul_one, aw, ax, acs, Ty.dflt, zG, ak, reduceCtorEq, E, D, J, S, M, O, Try.td3, Mly.av]; (repeat refine And.intro (by first | omega | assumption | exact rfl) ?_); refine V _ ?_; clear V K0; simp only [put, app, Z, ae, zE, zS, D])
  (refine aF rfl fun K0 V => ?_; simp only [zE, op1, ev, lkp, ah, ag, aB, aD, aC, aq, az, aP, reduceCtorEq, E, D, J, S, M, O, Try.td3, Try.td4, Mly.av]; (repeat refine And.intro (by first | omega | assumption | exact rfl) ?_); refine V _ ?_; clear V K0; simp only [put, app, Z, ae, zE, zS, D])
  (refine ab rfl fun K0 V => ?_; simp only [zE, op1, ev, lkp, ah, ag, bt, reduceCtorEq, E, D, J, S, M, O, Try.td4, Mly.av]; refine V _ ?_; clear V K0; simp only [put, app, Z, ae, zE, zS, D])
  refine ai ?_
  refine ⟨by simp only [U, lkp, zE, reduceCtorEq, E, Y, D]; exact rfl, rfl, ?_, rfl⟩; (repeat refine aY rfl ?_); exact bz (by exact rfl) hq5
 case b5 => exact bv (by first | rfl | (simp [bU]; done) | decide)
 simp only [bh, bc]
 (refine ab rfl fun K0 V => ?_; simp only [zE, op1, ev, lkp, ah, ag, ev, reduceCtorEq, E, D, J, S, M, O, Try.td4, Mly.av]; refine V _ ?_; clear V K0; simp only [put, app, Z, ae, zE, zS, D])
 refine ai ?_
 refine hK4 _ ?_; clear hK4; refine ad [0, 1, 2, 3, 11] ?_; simp only [U, lkp, zE, reduceCtorEq, E, Y, D]
 refine aA (by simp only [ev, U, lkp, zE, reduceCtorEq, E, Y, D]; exact rfl) (fun hc6 => ?_) (fun hc6 => ?_)
 ·(try simp only [zB, reduceCtorEq] at hc6)
  refine aa fun K7 hK7 => ?_
  refine af hP hN rfl ?_
  (refine ab rfl fun K0 V => ?_; simp only [zE, op1, ev, lkp, ah, ag, ev, reduceCtorEq, E, D, J, S, M, O, Try.td29, Mly.av]; refine V _ ?_; clear V K0; simp only [put, app, Z, ae, zE, zS, D])
  refine ai ?_
  refine hK7 _ ?_; clear hK7; refine ad [0, 1, 2, 3, 11] ?_; simp only [U, lkp, zE, reduceCtorEq, E, Y, D]
  refine aH ?_
  refine ⟨by first | exact .inl rfl | exact .inr rfl, _, rfl, ?_⟩; simp only [fzV, fz1, fzC, List.map_cons, List.map_nil, U, lkp, zE, reduceCtorEq, E, Y, D, Mly.av]
  refine VLE.of_eq ?_
  refine congrArg (fun n => AV.one (AC.int IntKind.i64 n)) ?_
  symm
  unfold c0
  first
  | (rw [if_pos (by omega)]; done)
  | (rw [if_neg (by omega), if_pos (by omega)]; done)
  | (rw [if_neg (by omega), if_neg (by omega), if_pos (by omega)]; done)
  | (rw [if_neg (by omega), if_neg (by omega), if_neg (by omega), if_pos (by omega)]; done)
  | (rw [if_neg (by omega), if_neg (by omega), if_neg (by omega), if_neg (by omega), if_pos (by omega)]; done)
  | (rw [if_neg (by omega), if_neg (by omega), if_neg (by omega), if_neg (by omega), if_neg (by omega)]
     first
     | exact (aS hrows (by omega) (by rw [ck hc32.1 hc32.2 (j := j) (by omega) (by unfold bS; omega)]; decide)).trans (ck hc32.1 hc32.2 (by omega) (by unfold bS; omega))
     | exact (aS hrows (by omega) (by rw [cj hc32]; decide)).trans (cj hc32)
     | exact bu fun i hi => hrows i (by omega))
 ·(try simp only [zB, reduceCtorEq] at hc6)
  refine aa fun K8 hK8 => ?_
  refine af hP hN rfl ?_
  iterate 3 (refine ab rfl fun K0 V => ?_; simp only [zE, op1, ev, lkp, ah, ag, aB, aD, aC, aq, az, aP, reduceCtorEq, E, D, J, S, M, O, Try.td3, Try.td4, Mly.av]; (repeat refine And.intro (by first | omega | assumption | exact rfl) ?_); refine V _ ?_; clear V K0; simp only [put, app, Z, ae, zE, zS, D])
  refine ai ?_
  refine hK8 _ ?_; clear hK8; refine ad [0, 1, 2, 3, 11, 20] ?_; simp only [U, lkp, zE, reduceCtorEq, E, Y, D]
  refine aA (by simp only [ev, U, lkp, zE, reduceCtorEq, E, Y, D]; exact rfl) (fun hc9 => ?_) (fun hc9 => ?_)
  ·(try simp only [zB, reduceCtorEq] at hc9)
   refine aa fun K10 hK10 => ?_
   refine af hP hN rfl ?_
   (refine ab rfl fun K0 V => ?_; simp only [zE, op1, ev, lkp, ah, ag, ev, reduceCtorEq, E, D, J, S, M, O, Try.td29, Mly.av]; refine V _ ?_; clear V K0; simp only [put, app, Z, ae, zE, zS, D])
   refine ai ?_
   refine hK10 _ ?_; clear hK10; refine ad [0, 1, 2, 3, 11, 20] ?_; simp only [U, lkp, zE, reduceCtorEq, E, Y, D]
   refine aH ?_
   refine ⟨by first | exact .inl rfl | exact .inr rfl, _, rfl, ?_⟩; simp only [fzV, fz1, fzC, List.map_cons, List.map_nil, U, lkp, zE, reduceCtorEq, E, Y, D, Mly.av]
   refine VLE.of_eq ?_
   refine congrArg (fun n => AV.one (AC.int IntKind.i64 n)) ?_
   symm
   unfold c0
   first
   | (rw [if_pos (by omega)]; done)
   | (rw [if_neg (by omega), if_pos (by omega)]; done)
   | (rw [if_neg (by omega), if_neg (by omega), if_pos (by omega)]; done)
   | (rw [if_neg (by omega), if_neg (by omega), if_neg (by omega), if_pos (by omega)]; done)
   | (rw [if_neg (by omega), if_neg (by omega), if_neg (by omega), if_neg (by omega), if_pos (by omega)]; done)
   | (rw [if_neg (by omega), if_neg (by omega), if_neg (by omega), if_neg (by omega), if_neg (by omega)]
      first
      | exact (aS hrows (by omega) (by rw [ck hc32.1 hc32.2 (j := j) (by omega) (by unfold bS; omega)]; decide)).trans (ck hc32.1 hc32.2 (by omega) (by unfold bS; omega))
      | exact (aS hrows (by omega) (by rw [cj hc32]; decide)).trans (cj hc32)
      | exact bu fun i hi => hrows i (by omega))
  ·(try simp only [zB, reduceCtorEq] at hc9)
   refine aa fun K11 hK11 => ?_
   refine af hP hN rfl ?_
   iterate 3 (refine ab rfl fun K0 V => ?_; simp only [zE, op1, ev, lkp, ah, ag, aB, aD, aC, aq, az, aP, reduceCtorEq, E, D, J, S, M, O, Try.td3, Try.td4, Mly.av]; (repeat refine And.intro (by first | omega | assumption | exact rfl) ?_); refine V _ ?_; clear V K0; simp only [put, app, Z, ae, zE, zS, D])
   refine ai ?_
   refine hK11 _ ?_; clear hK11; refine ad [0, 1, 2, 3, 11, 20, 23] ?_; simp only [U, lkp, zE, reduceCtorEq, E, Y, D]
   refine aA (by simp only [ev, U, lkp, zE, reduceCtorEq, E, Y, D]; exact rfl) (fun hc12 => ?_) (fun hc12 => ?_)
   ·(try simp only [zB, reduceCtorEq] at hc12)
    refine aa fun K13 hK13 => ?_
    refine af hP hN rfl ?_
    (refine ab rfl fun K0 V => ?_; simp only [zE, op1, ev, lkp, ah, ag, ev, reduceCtorEq, E, D, J, S, M, O, Try.td29, Mly.av]; refine V _ ?_; clear V K0; simp only [put, app, Z, ae, zE, zS, D])
    refine ai ?_
    refine hK13 _ ?_; clear hK13; refine ad [0, 1, 2, 3, 11, 20, 23] ?_; simp only [U, lkp, zE, reduceCtorEq, E, Y, D]
    refine aH ?_
    refine ⟨by first | exact .inl rfl | exact .inr rfl, _, rfl, ?_⟩; simp only [fzV, fz1, fzC, List.map_cons, List.map_nil, U, lkp, zE, reduceCtorEq, E, Y, D, Mly.av]
    refine VLE.of_eq ?_
    refine congrArg (fun n => AV.one (AC.int IntKind.i64 n)) ?_
    symm
    unfold c0
    first
    | (rw [if_pos (by omega)]; done)
    | (rw [if_neg (by omega), if_pos (by omega)]; done)
    | (rw [if_neg (by omega), if_neg (by omega), if_pos (by omega)]; done)
    | (rw [if_neg (by omega), if_neg (by omega), if_neg (by omega), if_pos (by omega)]; done)
    | (rw [if_neg (by omega), if_neg (by omega), if_neg (by omega), if_neg (by omega), if_pos (by omega)]; done)
    | (rw [if_neg (by omega), if_neg (by omega), if_neg (by omega), if_neg (by omega), if_neg (by omega)]
       first
       | exact (aS hrows (by omega) (by rw [ck hc32.1 hc32.2 (j := j) (by omega) (by unfold bS; omega)]; decide)).trans (ck hc32.1 hc32.2 (by omega) (by unfold bS; omega))
       | exact (aS hrows (by omega) (by rw [cj hc32]; decide)).trans (cj hc32)
       | exact bu fun i hi => hrows i (by omega))
   ·(try simp only [zB, reduceCtorEq] at hc12)
    refine aa fun K14 hK14 => ?_
    refine af hP hN rfl ?_
    iterate 3 (refine ab rfl fun K0 V => ?_; simp only [zE, op1, ev, lkp, ah, ag, ao, ay, Nat.mul_one, aw, ax, acs, Ty.dflt, zG, ak, aB, aD, aC, aq, az, aP, reduceCtorEq, E, D, J, S, M, O, Try.st58, Try.td1, Try.td3, Try.td4, Try.td58, Mly.av]; (repeat refine And.intro (by first | omega | assumption | exact rfl) ?_); refine V _ ?_; clear V K0; simp only [put, app, Z, ae, zE, zS, D])
    (refine ab rfl fun K0 V => ?_; simp only [zE, op1, ev, lkp, ah, ag, ev, reduceCtorEq, E, D, J, S, M, O, Try.td4, Mly.av]; refine V _ ?_; clear V K0; simp only [put, app, Z, ae, zE, zS, D])
    refine' aW (want := false) 4 rfl (m := 30) (by simp only [U, lkp, zE, reduceCtorEq, E, Y, D]; exact rfl) (by kernel_rfl) rfl rfl rfl rfl rfl (fun hg15 => ?a15) ?b15 ?c15
    case a15 =>
     have hq15 := hg15; (try simp only [zB, reduceCtorEq] at hg15); simp only [List.take_succ_cons, List.take_zero, List.cons_append, List.nil_append]
     (refine aF rfl fun K0 V => ?_; simp only [zE, op1, ev, lkp, ah, ag, ao, reduceCtorEq, E, D, J, S, M, O, Try.st58, Try.td1, Try.td58, Mly.av]; (repeat refine And.intro (by first | omega | assumption | exact rfl) ?_); refine V _ ?_; clear V K0; simp only [put, app, Z, ae, zE, zS, D])
     (refine aF rfl fun K0 V => ?_; simp only [zE, op1, ev, lkp, ah, ag, ay, Nat.mul_one, aw, ax, acs, Ty.dflt, zG, ak, reduceCtorEq, E, D, J, S, M, O, Try.td3, Mly.av]; (repeat refine And.intro (by first | omega | assumption | exact rfl) ?_); refine V _ ?_; clear V K0; simp only [put, app, Z, ae, zE, zS, D])
     (refine aF rfl fun K0 V => ?_; simp only [zE, op1, ev, lkp, ah, ag, ev, reduceCtorEq, E, D, J, S, M, O, Try.td3, Mly.av]; refine V _ ?_; clear V K0; simp only [put, app, Z, ae, zE, zS, D])
     (refine aF rfl fun K0 V => ?_; simp only [zE, op1, ev, lkp, ah, ag, aB, aD, aC, aq, az, aP, reduceCtorEq, E, D, J, S, M, O, Try.td3, Try.td4, Mly.av]; (repeat refine And.intro (by first | omega | assumption | exact rfl) ?_); refine V _ ?_; clear V K0; simp only [put, app, Z, ae, zE, zS, D])
     (refine ab rfl fun K0 V => ?_; simp only [zE, op1, ev, lkp, ah, ag, bt, reduceCtorEq, E, D, J, S, M, O, Try.td4, Mly.av]; refine V _ ?_; clear V K0; simp only [put, app, Z, ae, zE, zS, D])
     refine ai ?_
     refine ⟨by simp only [U, lkp, zE, reduceCtorEq, E, Y, D]; exact rfl, rfl, ?_, rfl⟩; (repeat refine aY rfl ?_); exact bz (by exact rfl) hq15
    case b15 => exact bv (by first | rfl | (simp [bU]; done) | decide)
    simp only [bh, bc]
    (refine ab rfl fun K0 V => ?_; simp only [zE, op1, ev, lkp, ah, ag, ev, reduceCtorEq, E, D, J, S, M, O, Try.td4, Mly.av]; refine V _ ?_; clear V K0; simp only [put, app, Z, ae, zE, zS, D])
    refine ai ?_
    refine hK14 _ ?_; clear hK14; refine ad [0, 1, 2, 3, 11, 20, 23, 26] ?_; simp only [U, lkp, zE, reduceCtorEq, E, Y, D]
    refine aA (by simp only [ev, U, lkp, zE, reduceCtorEq, E, Y, D]; exact rfl) (fun hc16 => ?_) (fun hc16 => ?_)
    ·(try simp only [zB, reduceCtorEq] at hc16)
     refine aa fun K17 hK17 => ?_
     refine af hP hN rfl ?_
     (refine ab rfl fun K0 V => ?_; simp only [zE, op1, ev, lkp, ah, ag, ev, reduceCtorEq, E, D, J, S, M, O, Try.td29, Mly.av]; refine V _ ?_; clear V K0; simp only [put, app, Z, ae, zE, zS, D])
     refine ai ?_
     refine hK17 _ ?_; clear hK17; refine ad [0, 1, 2, 3, 11, 20, 23, 26] ?_; simp only [U, lkp, zE, reduceCtorEq, E, Y, D]
     refine aH ?_
     refine ⟨by first | exact .inl rfl | exact .inr rfl, _, rfl, ?_⟩; simp only [fzV, fz1, fzC, List.map_cons, List.map_nil, U, lkp, zE, reduceCtorEq, E, Y, D, Mly.av]
     refine VLE.of_eq ?_
     refine congrArg (fun n => AV.one (AC.int IntKind.i64 n)) ?_
     symm
     unfold c0
     first
     | (rw [if_pos (by omega)]; done)
     | (rw [if_neg (by omega), if_pos (by omega)]; done)
     | (rw [if_neg (by omega), if_neg (by omega), if_pos (by omega)]; done)
     | (rw [if_neg (by omega), if_neg (by omega), if_neg (by omega), if_pos (by omega)]; done)
     | (rw [if_neg (by omega), if_neg (by omega), if_neg (by omega), if_neg (by omega), if_pos (by omega)]; done)
     | (rw [if_neg (by omega), if_neg (by omega), if_neg (by omega), if_neg (by omega), if_neg (by omega)]
        first
        | exact (aS hrows (by omega) (by rw [ck hc32.1 hc32.2 (j := j) (by omega) (by unfold bS; omega)]; decide)).trans (ck hc32.1 hc32.2 (by omega) (by unfold bS; omega))
        | exact (aS hrows (by omega) (by rw [cj hc32]; decide)).trans (cj hc32)
        | exact bu fun i hi => hrows i (by omega))
    ·(try simp only [zB, reduceCtorEq] at hc16)
     refine aa fun K18 hK18 => ?_
     refine af hP hN rfl ?_
     iterate 6 (refine ab rfl fun K0 V => ?_; simp only [zE, op1, ev, lkp, ah, ag, ao, ay, Nat.mul_one, aw, ax, acs, Ty.dflt, zG, ak, aE, bj, ba, aU, aV, bg, Nat.div_one, aM, aX, Ty.size, aI, dite_true, aB, aD, aC, aq, az, aP, reduceCtorEq, E, D, J, S, M, O, Try.el22, Try.st58, Try.td22, Try.td3, Try.td4, Try.td58, Mly.av]; (repeat refine And.intro (by first | omega | assumption | exact rfl) ?_); (first | refine V _ ?_ | refine Or.inl (V _ ?_)); clear V K0; simp only [put, app, Z, ae, zE, zS, D])
     refine ai ?_
     refine hK18 _ ?_; clear hK18; refine ad [0, 1, 2, 3, 11, 20, 23, 26, 36] ?_; simp only [U, lkp, zE, reduceCtorEq, E, Y, D]
     refine aA (by simp only [ev, U, lkp, zE, reduceCtorEq, E, Y, D]; exact rfl) (fun hc19 => ?_) (fun hc19 => ?_)
     ·(try simp only [zB, reduceCtorEq] at hc19)
      refine aa fun K20 hK20 => ?_
      refine af hP hN rfl ?_
      (refine ab rfl fun K0 V => ?_; simp only [zE, op1, ev, lkp, ah, ag, ev, reduceCtorEq, E, D, J, S, M, O, Try.td29, Mly.av]; refine V _ ?_; clear V K0; simp only [put, app, Z, ae, zE, zS, D])
      refine ai ?_
      refine hK20 _ ?_; clear hK20; refine ad [0, 1, 2, 3, 11, 20, 23, 26, 36] ?_; simp only [U, lkp, zE, reduceCtorEq, E, Y, D]
      refine aH ?_
      refine ⟨by first | exact .inl rfl | exact .inr rfl, _, rfl, ?_⟩; simp only [fzV, fz1, fzC, List.map_cons, List.map_nil, U, lkp, zE, reduceCtorEq, E, Y, D, Mly.av]
      refine VLE.of_eq ?_
      refine congrArg (fun n => AV.one (AC.int IntKind.i64 n)) ?_
      symm
      unfold c0
      first
      | (rw [if_pos (by omega)]; done)
      | (rw [if_neg (by omega), if_pos (by omega)]; done)
      | (rw [if_neg (by omega), if_neg (by omega), if_pos (by omega)]; done)
      | (rw [if_neg (by omega), if_neg (by omega), if_neg (by omega), if_pos (by omega)]; done)
      | (rw [if_neg (by omega), if_neg (by omega), if_neg (by omega), if_neg (by omega), if_pos (by omega)]; done)
      | (rw [if_neg (by omega), if_neg (by omega), if_neg (by omega), if_neg (by omega), if_neg (by omega)]
         first
         | exact (aS hrows (by omega) (by rw [ck hc32.1 hc32.2 (j := j) (by omega) (by unfold bS; omega)]; decide)).trans (ck hc32.1 hc32.2 (by omega) (by unfold bS; omega))
         | exact (aS hrows (by omega) (by rw [cj hc32]; decide)).trans (cj hc32)
         | exact bu fun i hi => hrows i (by omega))
     ·(try simp only [zB, reduceCtorEq] at hc19)
      refine aG ?_
      refine hK3 _ ?_; clear hK3; refine ad [0, 1, 2, 3, 11, 20, 23, 26, 36] ?_; simp only [U, lkp, zE, reduceCtorEq, E, Y, D]
      refine aa fun K21 hK21 => ?_
      refine aa fun K22 hK22 => ?_
      refine af hP hN rfl ?_
      iterate 2 (refine ab rfl fun K0 V => ?_; simp only [zE, op1, ev, lkp, ah, ag, ev, reduceCtorEq, E, D, J, S, M, O, Try.td3, Mly.av]; refine V _ ?_; clear V K0; simp only [put, app, Z, ae, zE, zS, D])
      refine ai ?_
      refine hK22 _ ?_; clear hK22; refine ad [0, 1, 2, 3, 11, 20, 23, 26, 36, 42, 43] ?_; simp only [U, lkp, zE, reduceCtorEq, E, Y, D]
      refine aN ?_
      refine bo (fun n23 s23 => ∃ (k : Nat), (k ≤ m.nx.length) ∧ (∀ i, i < k → fI m i = 0) ∧ n23 = m.nx.length - k ∧ s23 = { env := [(1, .one (.ptr 0 0 0 0)), (3, .one (.int .i64 (m.nx.length : Int))), (42, .one (.int .i64 (m.nx.length : Int))), (43, .one (.int .i64 (k : Int)))], L := [.vars 58 [.int .i64 m.inp, .int .i64 m.st, .list (.list (.int .i64)) m.nx, .list (.list (.int .i64)) m.ot]] }) ?_ ?_
      ·exact ⟨_, _, aJ [1, 3, 42, 43], 0, Nat.zero_le _, fun i hi => by omega, rfl, rfl⟩
      ·rintro n23 s23 ⟨k, hk, hrows, rfl, rfl⟩
       refine aa fun K24 hK24 => ?_
       refine af hP hN rfl ?_
       (refine ab rfl fun K0 V => ?_; simp only [zE, op1, ev, lkp, ah, ag, aB, aD, aC, aq, az, aP, reduceCtorEq, E, D, J, S, M, O, Try.td3, Try.td4, Mly.av]; (repeat refine And.intro (by first | omega | assumption | exact rfl) ?_); refine V _ ?_; clear V K0; simp only [put, app, Z, ae, zE, zS, D])
       refine ai ?_
       refine hK24 _ ?_; clear hK24; refine ad [1, 3, 42, 43, 44] ?_; simp only [U, lkp, zE, reduceCtorEq, E, Y, D]
       refine aa fun K25 hK25 => ?_
       refine aA (by simp only [ev, U, lkp, zE, reduceCtorEq, E, Y, D]; exact rfl) (fun hc26 => ?_) (fun hc26 => ?_)
       ·(try simp only [zB, reduceCtorEq] at hc26)
        refine aG ?_
        refine hK25 _ ?_; clear hK25; refine ad [1, 3, 42, 43, 44] ?_; simp only [U, lkp, zE, reduceCtorEq, E, Y, D]
        refine aa fun K27 hK27 => ?_
        refine aN ?_
        refine aa fun K28 hK28 => ?_
        refine af hP hN rfl ?_
        iterate 2 (refine ab rfl fun K0 V => ?_; simp only [zE, op1, ev, lkp, ah, ag, ev, reduceCtorEq, E, D, J, S, M, O, Try.td3, Mly.av]; refine V _ ?_; clear V K0; simp only [put, app, Z, ae, zE, zS, D])
        refine ai ?_
        refine hK28 _ ?_; clear hK28; refine ad [1, 3, 4, 42, 43, 44] ?_; simp only [U, lkp, zE, reduceCtorEq, E, Y, D]
        refine aa fun K29 hK29 => ?_
        refine aa fun K30 hK30 => ?_
        refine bP hP hN Try.mixed rfl ?_
        iterate 9 (refine ab rfl fun K0 V => ?_; simp only [zE, op1, ev, lkp, ah, ag, ao, ay, Nat.mul_one, aw, ax, acs, Ty.dflt, zG, ak, aK, Ty.size, ne_eq, not_false_eq_true, Int.natCast_one, Int.mul_one, aE, bj, ba, aU, aV, bg, Nat.div_one, aM, aX, aI, dite_true, aB, aD, aC, aq, az, aP, reduceCtorEq, E, D, J, S, M, O, Try.el22, Try.el26, Try.st58, Try.td2, Try.td22, Try.td26, Try.td3, Try.td4, Try.td58, Mly.av]; (repeat refine And.intro (by first | omega | assumption | exact rfl) ?_); (first | refine V _ ?_ | refine Or.inl (V _ ?_)); clear V K0; simp only [put, app, Z, ae, zE, zS, D])
        (refine ab rfl fun K0 V => ?_; simp only [zE, op1, ev, lkp, ah, ag, ev, reduceCtorEq, E, D, J, S, M, O, Try.td4, Mly.av]; refine V _ ?_; clear V K0; simp only [put, app, Z, ae, zE, zS, D])
        refine' aW (want := false) 9 rfl (m := 55) (by simp only [U, lkp, zE, reduceCtorEq, E, Y, D]; exact rfl) (by kernel_rfl) rfl rfl rfl rfl rfl (fun hg31 => ?a31) ?b31 ?c31
        case a31 =>
         have hq31 := hg31; (try simp only [zB, reduceCtorEq] at hg31); simp only [List.take_succ_cons, List.take_zero, List.cons_append, List.nil_append]
         (refine aF rfl fun K0 V => ?_; simp only [zE, op1, ev, lkp, ah, ag, ao, reduceCtorEq, E, D, J, S, M, O, Try.st58, Try.td3, Try.td58, Mly.av]; (repeat refine And.intro (by first | omega | assumption | exact rfl) ?_); refine V _ ?_; clear V K0; simp only [put, app, Z, ae, zE, zS, D])
         (refine aF rfl fun K0 V => ?_; simp only [zE, op1, ev, lkp, ah, ag, ay, Nat.mul_one, aw, ax, acs, Ty.dflt, zG, ak, reduceCtorEq, E, D, J, S, M, O, Try.el22, Try.td22, Mly.av]; (repeat refine And.intro (by first | omega | assumption | exact rfl) ?_); refine V _ ?_; clear V K0; simp only [put, app, Z, ae, zE, zS, D])
         (refine aF rfl fun K0 V => ?_; simp only [zE, op1, ev, lkp, ah, ag, ev, reduceCtorEq, E, D, J, S, M, O, Try.td3, Mly.av]; refine V _ ?_; clear V K0; simp only [put, app, Z, ae, zE, zS, D])
         (refine aF rfl fun K0 V => ?_; simp only [zE, op1, ev, lkp, ah, ag, aK, zG, Ty.dflt, Ty.size, Nat.mul_one, ne_eq, not_false_eq_true, Int.natCast_one, Int.mul_one, reduceCtorEq, E, D, J, S, M, O, Try.el22, Try.td22, Mly.av]; (repeat refine And.intro (by first | omega | assumption | exact rfl) ?_); refine V _ ?_; clear V K0; simp only [put, app, Z, ae, zE, zS, D])
         (refine aF rfl fun K0 V => ?_; simp only [zE, op1, ev, lkp, ah, ag, ay, Nat.mul_one, aw, ax, acs, Ty.dflt, zG, ak, reduceCtorEq, E, D, J, S, M, O, Try.el26, Try.td26, Mly.av]; (repeat refine And.intro (by first | omega | assumption | exact rfl) ?_); refine V _ ?_; clear V K0; simp only [put, app, Z, ae, zE, zS, D])
         (refine aF rfl fun K0 V => ?_; simp only [zE, op1, ev, lkp, ah, ag, aE, bj, ba, aU, aV, bg, Nat.div_one, aM, aX, Ty.size, aI, dite_true, reduceCtorEq, E, D, J, S, M, O, Try.el26, Try.td26, Try.td3, Mly.av]; (repeat refine And.intro (by first | omega | assumption | exact rfl) ?_); (first | refine V _ ?_ | refine Or.inl (V _ ?_)); clear V K0; simp only [put, app, Z, ae, zE, zS, D])
         (refine aF rfl fun K0 V => ?_; simp only [zE, op1, ev, lkp, ah, ag, ao, reduceCtorEq, E, D, J, S, M, O, Try.st58, Try.td58, Mly.av]; (repeat refine And.intro (by first | omega | assumption | exact rfl) ?_); refine V _ ?_; clear V K0; simp only [put, app, Z, ae, zE, zS, D])
         (refine aF rfl fun K0 V => ?_; simp only [zE, op1, ev, lkp, ah, ag, ay, Nat.mul_one, aw, ax, acs, Ty.dflt, zG, ak, reduceCtorEq, E, D, J, S, M, O, Try.td3, Mly.av]; (repeat refine And.intro (by first | omega | assumption | exact rfl) ?_); refine V _ ?_; clear V K0; simp only [put, app, Z, ae, zE, zS, D])
         (refine aF rfl fun K0 V => ?_; simp only [zE, op1, ev, lkp, ah, ag, aB, aD, aC, aq, az, aP, reduceCtorEq, E, D, J, S, M, O, Try.td3, Try.td4, Mly.av]; (repeat refine And.intro (by first | omega | assumption | exact rfl) ?_); refine V _ ?_; clear V K0; simp only [put, app, Z, ae, zE, zS, D])
         (refine ab rfl fun K0 V => ?_; simp only [zE, op1, ev, lkp, ah, ag, bt, reduceCtorEq, E, D, J, S, M, O, Try.td4, Mly.av]; refine V _ ?_; clear V K0; simp only [put, app, Z, ae, zE, zS, D])
         refine ai ?_
         refine ⟨by simp only [U, lkp, zE, reduceCtorEq, E, Y, D]; exact rfl, rfl, ?_, rfl⟩; (repeat refine aY rfl ?_); exact bz (by exact rfl) hq31
        case b31 => exact bv (by first | rfl | (simp [bU]; done) | decide)
        simp only [bh, bc]
        refine ai ?_
        refine ⟨by kernel_rfl, ?_⟩
        refine hK30 _ ?_; clear hK30; refine ad [1, 3, 4, 42, 43, 44, 65] ?_; simp only [U, lkp, zE, reduceCtorEq, E, Y, D]
        refine aA (by simp only [ev, U, lkp, zE, reduceCtorEq, E, Y, D]; exact rfl) (fun hc32 => ?_) (fun hc32 => ?_)
        ·(try simp only [zB, reduceCtorEq] at hc32)
         refine aa fun K33 hK33 => ?_
         refine af hP hN rfl ?_
         (refine ab rfl fun K0 V => ?_; simp only [zE, op1, ev, lkp, ah, ag, ev, reduceCtorEq, E, D, J, S, M, O, Try.td29, Mly.av]; refine V _ ?_; clear V K0; simp only [put, app, Z, ae, zE, zS, D])
         refine ai ?_
         refine hK33 _ ?_; clear hK33; refine ad [1, 2, 3, 4, 42, 43, 44, 65] ?_; simp only [U, lkp, zE, reduceCtorEq, E, Y, D]
         refine aH ?_
         refine ⟨by first | exact .inl rfl | exact .inr rfl, _, rfl, ?_⟩; simp only [fzV, fz1, fzC, List.map_cons, List.map_nil, U, lkp, zE, reduceCtorEq, E, Y, D, Mly.av]
         refine VLE.of_eq ?_
         refine congrArg (fun n => AV.one (AC.int IntKind.i64 n)) ?_
         symm
         unfold c0
         first
         | (rw [if_pos (by omega)]; done)
         | (rw [if_neg (by omega), if_pos (by omega)]; done)
         | (rw [if_neg (by omega), if_neg (by omega), if_pos (by omega)]; done)
         | (rw [if_neg (by omega), if_neg (by omega), if_neg (by omega), if_pos (by omega)]; done)
         | (rw [if_neg (by omega), if_neg (by omega), if_neg (by omega), if_neg (by omega), if_pos (by omega)]; done)
         | (rw [if_neg (by omega), if_neg (by omega), if_neg (by omega), if_neg (by omega), if_neg (by omega)]
            first
            | exact (aS hrows (by omega) (by rw [ck hc32.1 hc32.2 (j := j) (by omega) (by unfold bS; omega)]; decide)).trans (ck hc32.1 hc32.2 (by omega) (by unfold bS; omega))
            | exact (aS hrows (by omega) (by rw [cj hc32]; decide)).trans (cj hc32)
            | exact bu fun i hi => hrows i (by omega))
        ·(try simp only [zB, reduceCtorEq] at hc32)
         refine aG ?_
         refine hK29 _ ?_; clear hK29; refine ad [1, 3, 4, 42, 43, 44, 65] ?_; simp only [U, lkp, zE, reduceCtorEq, E, Y, D]
         refine aa fun K34 hK34 => ?_
         refine af hP hN rfl ?_
         iterate 3 (refine ab rfl fun K0 V => ?_; simp only [zE, op1, ev, lkp, ah, ag, ao, ay, Nat.mul_one, aw, ax, acs, Ty.dflt, zG, ak, reduceCtorEq, E, D, J, S, M, O, Try.st58, Try.td3, Try.td58, Mly.av]; (repeat refine And.intro (by first | omega | assumption | exact rfl) ?_); refine V _ ?_; clear V K0; simp only [put, app, Z, ae, zE, zS, D])
         refine ai ?_
         refine hK34 _ ?_; clear hK34; refine ad [1, 3, 4, 42, 43, 44, 65, 67, 68] ?_; simp only [U, lkp, zE, reduceCtorEq, E, Y, D]
         refine aN ?_
         refine bo (fun n35 s35 => ∃ (j : Nat), ((j : Int) ≤ m.inp) ∧ (∀ a, a < j → ¬ bS m k a) ∧ n35 = m.inp.toNat - j ∧ s35 = { env := [(1, .one (.ptr 0 0 0 0)), (3, .one (.int .i64 (m.nx.length : Int))), (4, .one (.int .i64 (k : Int))), (42, .one (.int .i64 (m.nx.length : Int))), (43, .one (.int .i64 (k : Int))), (67, .one (.int .i64 m.inp)), (68, .one (.int .i64 (j : Int)))], L := [.vars 58 [.int .i64 m.inp, .int .i64 m.st, .list (.list (.int .i64)) m.nx, .list (.list (.int .i64)) m.ot]] }) ?_ ?_
         ·refine ⟨_, _, aJ [1, 3, 4, 42, 43, 67, 68], 0, ?_, fun i hi => by omega, rfl, rfl⟩; omega
         ·rintro n35 s35 ⟨j, hj, hcells, rfl, rfl⟩
          refine aa fun K36 hK36 => ?_
          refine af hP hN rfl ?_
          (refine ab rfl fun K0 V => ?_; simp only [zE, op1, ev, lkp, ah, ag, aB, aD, aC, aq, az, aP, reduceCtorEq, E, D, J, S, M, O, Try.td3, Try.td4, Mly.av]; (repeat refine And.intro (by first | omega | assumption | exact rfl) ?_); refine V _ ?_; clear V K0; simp only [put, app, Z, ae, zE, zS, D])
          refine ai ?_
          refine hK36 _ ?_; clear hK36; refine ad [1, 3, 4, 42, 43, 67, 68, 69] ?_; simp only [U, lkp, zE, reduceCtorEq, E, Y, D]
          refine aa fun K37 hK37 => ?_
          refine aA (by simp only [ev, U, lkp, zE, reduceCtorEq, E, Y, D]; exact rfl) (fun hc38 => ?_) (fun hc38 => ?_)
          ·(try simp only [zB, reduceCtorEq] at hc38)
           refine aG ?_
           refine hK37 _ ?_; clear hK37; refine ad [1, 3, 4, 42, 43, 67, 68, 69] ?_; simp only [U, lkp, zE, reduceCtorEq, E, Y, D]
           refine aa fun K39 hK39 => ?_
           refine aN ?_
           refine aa fun K40 hK40 => ?_
           refine af hP hN rfl ?_
           iterate 2 (refine ab rfl fun K0 V => ?_; simp only [zE, op1, ev, lkp, ah, ag, ev, reduceCtorEq, E, D, J, S, M, O, Try.td3, Mly.av]; refine V _ ?_; clear V K0; simp only [put, app, Z, ae, zE, zS, D])
           refine ai ?_
           refine hK40 _ ?_; clear hK40; refine ad [1, 3, 4, 5, 42, 43, 67, 68, 69] ?_; simp only [U, lkp, zE, reduceCtorEq, E, Y, D]
           refine aa fun K41 hK41 => ?_
           refine bP hP hN Try.mixed rfl ?_
           iterate 18 (refine ab rfl fun K0 V => ?_; simp only [zE, op1, ev, lkp, ah, ag, ao, ay, Nat.mul_one, aw, ax, acs, Ty.dflt, zG, ak, aK, Ty.size, ne_eq, not_false_eq_true, Int.natCast_one, Int.mul_one, reduceCtorEq, E, D, J, S, M, O, Try.el22, Try.el26, Try.st58, Try.td2, Try.td22, Try.td26, Try.td3, Try.td58, Mly.av]; (repeat refine And.intro (by first | omega | assumption | exact rfl) ?_); refine V _ ?_; clear V K0; simp only [put, app, Z, ae, zE, zS, D])
           refine ai ?_
           refine ⟨by kernel_rfl, ?_⟩
           refine hK41 _ ?_; clear hK41; refine ad [1, 3, 4, 5, 6, 7, 42, 43, 67, 68, 69] ?_; simp only [U, lkp, zE, reduceCtorEq, E, Y, D]
           refine aa fun K42 hK42 => ?_
           refine af hP hN rfl ?_
           iterate 2 (refine ab rfl fun K0 V => ?_; simp only [zE, op1, ev, lkp, ah, ag, aB, aD, aC, aq, az, aP, reduceCtorEq, E, D, J, S, M, O, Try.td3, Try.td4, Mly.av]; (repeat refine And.intro (by first | omega | assumption | exact rfl) ?_); refine V _ ?_; clear V K0; simp only [put, app, Z, ae, zE, zS, D])
           (refine ab rfl fun K0 V => ?_; simp only [zE, op1, ev, lkp, ah, ag, ev, reduceCtorEq, E, D, J, S, M, O, Try.td4, Mly.av]; refine V _ ?_; clear V K0; simp only [put, app, Z, ae, zE, zS, D])
           refine' aW (want := false) 3 rfl (m := 89) (by simp only [U, lkp, zE, reduceCtorEq, E, Y, D]; exact rfl) (by kernel_rfl) rfl rfl rfl rfl rfl (fun hg43 => ?a43) ?b43 ?c43
           case a43 =>
            have hq43 := hg43; (try simp only [zB, reduceCtorEq] at hg43); simp only [List.take_succ_cons, List.take_zero, List.cons_append, List.nil_append]
            (refine aF rfl fun K0 V => ?_; simp only [zE, op1, ev, lkp, ah, ag, ev, reduceCtorEq, E, D, J, S, M, O, Try.td3, Mly.av]; refine V _ ?_; clear V K0; simp only [put, app, Z, ae, zE, zS, D])
            (refine aF rfl fun K0 V => ?_; simp only [zE, op1, ev, lkp, ah, ag, ev, reduceCtorEq, E, D, J, S, M, O, Try.td3, Mly.av]; refine V _ ?_; clear V K0; simp only [put, app, Z, ae, zE, zS, D])
            (refine aF rfl fun K0 V => ?_; simp only [zE, op1, ev, lkp, ah, ag, aB, aD, aC, aq, az, aP, reduceCtorEq, E, D, J, S, M, O, Try.td3, Try.td4, Mly.av]; (repeat refine And.intro (by first | omega | assumption | exact rfl) ?_); refine V _ ?_; clear V K0; simp only [put, app, Z, ae, zE, zS, D])
            (refine ab rfl fun K0 V => ?_; simp only [zE, op1, ev, lkp, ah, ag, bt, reduceCtorEq, E, D, J, S, M, O, Try.td4, Mly.av]; refine V _ ?_; clear V K0; simp only [put, app, Z, ae, zE, zS, D])
            refine ai ?_
            refine ⟨by simp only [U, lkp, zE, reduceCtorEq, E, Y, D]; exact rfl, rfl, ?_, rfl⟩; (repeat refine aY rfl ?_); exact bz (by exact rfl) hq43
           case b43 => exact bv (by first | rfl | (simp [bU]; done) | decide)
           simp only [bh, bc]
           (refine ab rfl fun K0 V => ?_; simp only [zE, op1, ev, lkp, ah, ag, ev, reduceCtorEq, E, D, J, S, M, O, Try.td4, Mly.av]; refine V _ ?_; clear V K0; simp only [put, app, Z, ae, zE, zS, D])
           refine' aW (want := false) 2 rfl (m := 94) (by simp only [U, lkp, zE, reduceCtorEq, E, Y, D]; exact rfl) (by kernel_rfl) rfl rfl rfl rfl rfl (fun hg44 => ?a44) ?b44 ?c44
           case a44 =>
            have hq44 := hg44; (try simp only [zB, reduceCtorEq] at hg44); simp only [List.take_succ_cons, List.take_zero, List.cons_append, List.nil_append]
            (refine aF rfl fun K0 V => ?_; simp only [zE, op1, ev, lkp, ah, ag, ev, reduceCtorEq, E, D, J, S, M, O, Try.td3, Mly.av]; refine V _ ?_; clear V K0; simp only [put, app, Z, ae, zE, zS, D])
            (refine aF rfl fun K0 V => ?_; simp only [zE, op1, ev, lkp, ah, ag, aB, aD, aC, aq, az, aP, reduceCtorEq, E, D, J, S, M, O, Try.td3, Try.td4, Mly.av]; (repeat refine And.intro (by first | omega | assumption | exact rfl) ?_); refine V _ ?_; clear V K0; simp only [put, app, Z, ae, zE, zS, D])
            (refine ab rfl fun K0 V => ?_; simp only [zE, op1, ev, lkp, ah, ag, bt, reduceCtorEq, E, D, J, S, M, O, Try.td4, Mly.av]; refine V _ ?_; clear V K0; simp only [put, app, Z, ae, zE, zS, D])
            refine ai ?_
            refine ⟨by simp only [U, lkp, zE, reduceCtorEq, E, Y, D]; exact rfl, rfl, ?_, rfl⟩; (repeat refine aY rfl ?_); exact bz (by exact rfl) hq44
           case b44 => exact bv (by first | rfl | (simp [bU]; done) | decide)
           simp only [bh, bc]
           (refine ab rfl fun K0 V => ?_; simp only [zE, op1, ev, lkp, ah, ag, ev, reduceCtorEq, E, D, J, S, M, O, Try.td4, Mly.av]; refine V _ ?_; clear V K0; simp only [put, app, Z, ae, zE, zS, D])
           refine' aW (want := false) 2 rfl (m := 98) (by simp only [U, lkp, zE, reduceCtorEq, E, Y, D]; exact rfl) (by kernel_rfl) rfl rfl rfl rfl rfl (fun hg45 => ?a45) ?b45 ?c45
           case a45 =>
            have hq45 := hg45; (try simp only [zB, reduceCtorEq] at hg45); simp only [List.take_succ_cons, List.take_zero, List.cons_append, List.nil_append]
            (refine aF rfl fun K0 V => ?_; simp only [zE, op1, ev, lkp, ah, ag, ev, reduceCtorEq, E, D, J, S, M, O, Try.td3, Mly.av]; refine V _ ?_; clear V K0; simp only [put, app, Z, ae, zE, zS, D])
            (refine aF rfl fun K0 V => ?_; simp only [zE, op1, ev, lkp, ah, ag, aB, aD, aC, aq, az, aP, reduceCtorEq, E, D, J, S, M, O, Try.td3, Try.td4, Mly.av]; (repeat refine And.intro (by first | omega | assumption | exact rfl) ?_); refine V _ ?_; clear V K0; simp only [put, app, Z, ae, zE, zS, D])
            (refine ab rfl fun K0 V => ?_; simp only [zE, op1, ev, lkp, ah, ag, bt, reduceCtorEq, E, D, J, S, M, O, Try.td4, Mly.av]; refine V _ ?_; clear V K0; simp only [put, app, Z, ae, zE, zS, D])
            refine ai ?_
            refine ⟨by simp only [U, lkp, zE, reduceCtorEq, E, Y, D]; exact rfl, rfl, ?_, rfl⟩; (repeat refine aY rfl ?_); exact bz (by exact rfl) hq45
           case b45 => exact bv (by first | rfl | (simp [bU]; done) | decide)
           simp only [bh, bc]
           refine ai ?_
           refine hK42 _ ?_; clear hK42; refine ad [1, 3, 4, 5, 6, 7, 42, 43, 67, 68, 69, 101] ?_; simp only [U, lkp, zE, reduceCtorEq, E, Y, D]
           refine aA (by simp only [ev, U, lkp, zE, reduceCtorEq, E, Y, D]; exact rfl) (fun hc46 => ?_) (fun hc46 => ?_)
           ·(try simp only [zB, reduceCtorEq] at hc46)
            refine aa fun K47 hK47 => ?_
            refine af hP hN rfl ?_
            (refine ab rfl fun K0 V => ?_; simp only [zE, op1, ev, lkp, ah, ag, ev, reduceCtorEq, E, D, J, S, M, O, Try.td29, Mly.av]; refine V _ ?_; clear V K0; simp only [put, app, Z, ae, zE, zS, D])
            refine ai ?_
            refine hK47 _ ?_; clear hK47; refine ad [1, 2, 3, 4, 5, 6, 7, 42, 43, 67, 68, 69, 101] ?_; simp only [U, lkp, zE, reduceCtorEq, E, Y, D]
            refine aH ?_
            refine ⟨by first | exact .inl rfl | exact .inr rfl, _, rfl, ?_⟩; simp only [fzV, fz1, fzC, List.map_cons, List.map_nil, U, lkp, zE, reduceCtorEq, E, Y, D, Mly.av]
            refine VLE.of_eq ?_
            refine congrArg (fun n => AV.one (AC.int IntKind.i64 n)) ?_
            symm
            unfold c0
            first
            | (rw [if_pos (by omega)]; done)
            | (rw [if_neg (by omega), if_pos (by omega)]; done)
            | (rw [if_neg (by omega), if_neg (by omega), if_pos (by omega)]; done)
            | (rw [if_neg (by omega), if_neg (by omega), if_neg (by omega), if_pos (by omega)]; done)
            | (rw [if_neg (by omega), if_neg (by omega), if_neg (by omega), if_neg (by omega), if_pos (by omega)]; done)
            | (rw [if_neg (by omega), if_neg (by omega), if_neg (by omega), if_neg (by omega), if_neg (by omega)]
               first
               | exact (aS hrows (by omega) (by rw [ck hc32.1 hc32.2 (j := j) (by omega) (by unfold bS; omega)]; decide)).trans (ck hc32.1 hc32.2 (by omega) (by unfold bS; omega))
               | exact (aS hrows (by omega) (by rw [cj hc32]; decide)).trans (cj hc32)
               | exact bu fun i hi => hrows i (by omega))
           ·(try simp only [zB, reduceCtorEq] at hc46)
            refine aG ?_
            refine hK39 _ ?_; clear hK39; refine ad [1, 3, 4, 5, 6, 7, 42, 43, 67, 68, 69, 101] ?_; simp only [U, lkp, zE, reduceCtorEq, E, Y, D]
            refine af hP hN rfl ?_
            iterate 2 (refine ab rfl fun K0 V => ?_; simp only [zE, op1, ev, lkp, ah, ag, aB, aD, aC, aq, az, aP, reduceCtorEq, E, D, J, S, M, O, Try.td3, Mly.av]; (repeat refine And.intro (by first | omega | assumption | exact rfl) ?_); refine V _ ?_; clear V K0; simp only [put, app, Z, ae, zE, zS, D])
            refine ai ?_
            refine ⟨_, _, ?_, aJ [1, 3, 4, 42, 43, 67, 68], j + 1, ?_, fun a ha => ?_, rfl, rfl⟩
            · omega
            · omega
            · by_cases e : a = j
              · rw [e]; unfold bS; omega
              · exact hcells a (by omega)
          ·(try simp only [zB, reduceCtorEq] at hc38)
           refine bm ?_
           refine hK27 _ ?_; clear hK27; refine ad [1, 3, 4, 42, 43, 67, 68, 69] ?_; simp only [U, lkp, zE, reduceCtorEq, E, Y, D]
           refine af hP hN rfl ?_
           iterate 2 (refine ab rfl fun K0 V => ?_; simp only [zE, op1, ev, lkp, ah, ag, aB, aD, aC, aq, az, aP, reduceCtorEq, E, D, J, S, M, O, Try.td3, Mly.av]; (repeat refine And.intro (by first | omega | assumption | exact rfl) ?_); refine V _ ?_; clear V K0; simp only [put, app, Z, ae, zE, zS, D])
           refine ai ?_
           refine ⟨_, _, ?_, aJ [1, 3, 42, 43], k + 1, by omega, fun i hi => ?_, rfl, rfl⟩
           · omega
           · by_cases e : i = k
             · rw [e]; exact ip hc32.1 hc32.2 fun a ha => hcells a (by omega)
             · exact hrows i (by omega)
       ·(try simp only [zB, reduceCtorEq] at hc26)
        refine bm ?_
        refine hK21 _ ?_; clear hK21; refine ad [1, 3, 42, 43, 44] ?_; simp only [U, lkp, zE, reduceCtorEq, E, Y, D]
        refine aa fun K48 hK48 => ?_
        refine af hP hN rfl ?_
        (refine ab rfl fun K0 V => ?_; simp only [zE, op1, ev, lkp, ah, ag, ev, reduceCtorEq, E, D, J, S, M, O, Try.td29, Mly.av]; refine V _ ?_; clear V K0; simp only [put, app, Z, ae, zE, zS, D])
        refine ai ?_
        refine hK48 _ ?_; clear hK48; refine ad [1, 2, 3, 42, 43, 44] ?_; simp only [U, lkp, zE, reduceCtorEq, E, Y, D]
        refine aH ?_
        refine ⟨by first | exact .inl rfl | exact .inr rfl, _, rfl, ?_⟩; simp only [fzV, fz1, fzC, List.map_cons, List.map_nil, U, lkp, zE, reduceCtorEq, E, Y, D, Mly.av]
        refine VLE.of_eq ?_
        refine congrArg (fun n => AV.one (AC.int IntKind.i64 n)) ?_
        symm
        unfold c0
        first
        | (rw [if_pos (by omega)]; done)
        | (rw [if_neg (by omega), if_pos (by omega)]; done)
        | (rw [if_neg (by omega), if_neg (by omega), if_pos (by omega)]; done)
        | (rw [if_neg (by omega), if_neg (by omega), if_neg (by omega), if_pos (by omega)]; done)
        | (rw [if_neg (by omega), if_neg (by omega), if_neg (by omega), if_neg (by omega), if_pos (by omega)]; done)
        | (rw [if_neg (by omega), if_neg (by omega), if_neg (by omega), if_neg (by omega), if_neg (by omega)]
           first
           | exact (aS hrows (by omega) (by rw [ck hc32.1 hc32.2 (j := j) (by omega) (by unfold bS; omega)]; decide)).trans (ck hc32.1 hc32.2 (by omega) (by unfold bS; omega))
           | exact (aS hrows (by omega) (by rw [cj hc32]; decide)).trans (cj hc32)
           | exact bu fun i hi => hrows i (by omega))
end Go.Proofs.Ytdkgcbhbpdbmnaa
namespace Go.Proofs.Ytdkgcbhbpdbmnaa
open Go Go.AV
open Nat renaming reduceEqDiff → E, reduceAdd → D, reduceLeDiff → J, reduceLT → S, reduceMul → M, reduceSub → O
open List renaming set_cons_zero → au, set_cons_succ → ar
set_option maxRecDepth 100000 in
theorem pS (m : Mly) : bG Try.prog 70 [m.av] (.one (.list (.int .i64) (iz m))) := by
 refine aR Try.func70 rfl (by kernel_rfl) (Nat.le_of_ble_eq_true rfl) rfl fun C hP hN hB => ?_
 replace hN : C.N = 24 := hN
 simp only [Y, D]
 refine aa fun K1 hK1 => ?_
 refine af hP hN rfl ?_
 iterate 2 (refine ab rfl fun K0 V => ?_; simp only [zE, op1, ev, lkp, ah, ag, ca, am, reduceCtorEq, E, D, J, S, M, O, Try.el26, Try.st58, Try.td26, Try.td58, Mly.av]; (repeat refine And.intro (by first | omega | assumption | exact rfl) ?_); refine V _ ?_; clear V K0; simp only [put, app, Z, ae, zE, zS, D])
 refine ai ?_
 refine hK1 _ ?_; clear hK1; refine ad [0, 1, 2] ?_; simp only [U, lkp, zE, reduceCtorEq, E, Y, D]
 refine aa fun K2 hK2 => ?_
 refine aa fun K3 hK3 => ?_
 refine af hP hN rfl ?_
 (refine ab rfl fun K0 V => ?_; simp only [zE, op1, ev, lkp, ah, ag, ay, Nat.mul_one, aw, ax, acs, Ty.dflt, zG, ak, reduceCtorEq, E, D, J, S, M, O, Try.st58, Try.td58, Mly.av]; (repeat refine And.intro (by first | omega | assumption | exact rfl) ?_); refine V _ ?_; clear V K0; simp only [put, app, Z, ae, zE, zS, D])
 refine ab rfl fun K0 V => ?_
 refine aT (h := aL (mb m)) rfl rfl (by first | exact rfl | (simp only [ev, U, lkp, zE, reduceCtorEq, E, Y, D]; exact rfl)) (by simp only [zE, zG, op1, ev, lkp, ah, ag, am, acs, be, mv1, mvC, Ty.dflt, reduceCtorEq, E, D, J, S, M, O, Mly.av]) ?_
 refine V _ ?_; clear V K0; simp only [put, app, Z, ae, zE, zS, D]
 (refine ab rfl fun K0 V => ?_; simp only [zE, op1, ev, lkp, ah, ag, aB, aD, aC, aq, az, aP, reduceCtorEq, E, D, J, S, M, O, Try.td29, Try.td4, Mly.av]; (repeat refine And.intro (by first | omega | assumption | exact rfl) ?_); refine V _ ?_; clear V K0; simp only [put, app, Z, ae, zE, zS, D])
 refine ai ?_
 refine hK3 _ ?_; clear hK3; refine ad [0, 1, 2, 8] ?_; simp only [U, lkp, zE, reduceCtorEq, E, Y, D]
 refine aA (by simp only [ev, U, lkp, zE, reduceCtorEq, E, Y, D]; exact rfl) (fun hc4 => ?_) (fun hc4 => ?_)
 ·(try simp only [zB, reduceCtorEq] at hc4)
  refine aa fun K5 hK5 => ?_
  refine af hP hN rfl ?_
  (refine ab rfl fun K0 V => ?_; simp only [zE, op1, ev, lkp, ah, ag, ev, reduceCtorEq, E, D, J, S, M, O, Try.el26, Try.td26, Mly.av]; refine V _ ?_; clear V K0; simp only [put, app, Z, ae, zE, zS, D])
  refine ai ?_
  refine hK5 _ ?_; clear hK5; refine ad [0, 1, 2, 8] ?_; simp only [U, lkp, zE, reduceCtorEq, E, Y, D]
  refine aH ?_
  refine ⟨by first | exact .inl rfl | exact .inr rfl, _, rfl, ?_⟩; simp only [fzV, fz1, fzC, List.map_cons, List.map_nil, U, lkp, zE, reduceCtorEq, E, Y, D, Mly.av]
  first
  | (rw [kz ‹¬c0 m = 0›]; exact jy (aQ rfl))
  | (rw [jU hv]; exact VLE.of_eq rfl)
 ·(try simp only [zB, reduceCtorEq] at hc4)
  have hv : c0 m = 0 := by omega
  have hm := jd hv; have hol := hm.ol; have hi1 := hm.i1; have hi2 := hm.i2; have hn1 := hm.n1; have hn2 := hm.n2
  refine aG ?_
  refine hK2 _ ?_; clear hK2; refine ad [0, 1, 2, 8] ?_; simp only [U, lkp, zE, reduceCtorEq, E, Y, D]
  refine aa fun K6 hK6 => ?_
  refine af hP hN rfl ?_
  (refine ab rfl fun K0 V => ?_; simp only [zE, op1, ev, lkp, ah, ag, ev, reduceCtorEq, E, D, J, S, M, O, Try.el26, Try.td26, Mly.av]; refine V _ ?_; clear V K0; simp only [put, app, Z, ae, zE, zS, D])
  refine ai ?_
  refine hK6 _ ?_; clear hK6; refine ad [0, 1, 2, 3, 8] ?_; simp only [U, lkp, zE, reduceCtorEq, E, Y, D]
  refine aa fun K7 hK7 => ?_
  refine aa fun K8 hK8 => ?_
  refine af hP hN rfl ?_
  iterate 4 (refine ab rfl fun K0 V => ?_; simp only [zE, op1, ev, lkp, ah, ag, ao, ay, Nat.mul_one, aw, ax, acs, Ty.dflt, zG, ak, aE, bj, ba, aU, aV, bg, Nat.div_one, aM, aX, Ty.size, aI, dite_true, reduceCtorEq, E, D, J, S, M, O, Try.el22, Try.st58, Try.td22, Try.td3, Try.td58, Mly.av]; (repeat refine And.intro (by first | omega | assumption | exact rfl) ?_); (first | refine V _ ?_ | refine Or.inl (V _ ?_)); clear V K0; simp only [put, app, Z, ae, zE, zS, D])
  refine ai ?_
  refine hK8 _ ?_; clear hK8; refine ad [0, 1, 2, 3, 8, 10, 11, 12] ?_; simp only [U, lkp, zE, reduceCtorEq, E, Y, D]
  refine aN ?_
  refine eW 3 (.int .i64) 3 (by decide) rfl ?_; simp only [List.length_cons, List.length_nil, List.cons_append, List.nil_append, Nat.zero_add, D]
  refine bo (fun n9 s9 => ∃ (s : Nat) (v : Nat), (s ≤ m.ot.length) ∧ n9 = m.ot.length - s ∧ s9 = { env := [(3, .one (.row 1 v)), (10, .one (.list (.list (.int .i64)) m.ot)), (11, .one (.int .i64 (m.ot.length : Int))), (12, .one (.int .i64 (s : Int)))], L := [.vars 58 [.int .i64 m.inp, .int .i64 m.st, .list (.list (.int .i64)) m.nx, .list (.list (.int .i64)) m.ot], .row (.int .i64) 3 v (m.ot.take s).flatten] }) ?_ ?_
  ·exact ⟨_, _, aJ [3, 10, 11, 12], 0, 0, Nat.zero_le _, rfl, rfl⟩
  ·rintro n9 s9 ⟨s, v, hs, rfl, rfl⟩
   refine aa fun K10 hK10 => ?_
   refine af hP hN rfl ?_
   (refine ab rfl fun K0 V => ?_; simp only [zE, op1, ev, lkp, ah, ag, aB, aD, aC, aq, az, aP, reduceCtorEq, E, D, J, S, M, O, Try.td3, Mly.av]; (repeat refine And.intro (by first | omega | assumption | exact rfl) ?_); refine V _ ?_; clear V K0; simp only [put, app, Z, ae, zE, zS, D])
   refine ai ?_
   refine hK10 _ ?_; clear hK10; refine ad [3, 10, 11, 12, 13] ?_; simp only [U, lkp, zE, reduceCtorEq, E, Y, D]
   refine aa fun K11 hK11 => ?_
   refine aA (by simp only [ev, U, lkp, zE, reduceCtorEq, E, Y, D]; exact rfl) (fun hc12 => ?_) (fun hc12 => ?_)
   ·(try simp only [zB, reduceCtorEq] at hc12)
    refine aG ?_
    refine hK11 _ ?_; clear hK11; refine ad [3, 10, 11, 12, 13] ?_; simp only [U, lkp, zE, reduceCtorEq, E, Y, D]
    refine aa fun K13 hK13 => ?_
    refine aN ?_
    refine aa fun K14 hK14 => ?_
    refine af hP hN rfl ?_
    iterate 3 (refine ab rfl fun K0 V => ?_; simp only [zE, op1, ev, lkp, ah, ag, aK, zG, Ty.dflt, Ty.size, Nat.mul_one, ne_eq, not_false_eq_true, Int.natCast_one, Int.mul_one, ay, aw, ax, acs, ak, reduceCtorEq, E, D, J, S, M, O, Try.el22, Try.el26, Try.td22, Try.td26, Mly.av]; (repeat refine And.intro (by first | omega | assumption | exact rfl) ?_); refine V _ ?_; clear V K0; simp only [put, app, Z, ae, zE, zS, D])
    refine ai ?_
    refine hK14 _ ?_; clear hK14; refine ad [3, 5, 10, 11, 12, 13] ?_; simp only [U, lkp, zE, reduceCtorEq, E, Y, D]
    have hf2 := fS hm (k := s + 1) (by omega); have hf3 := fS hm (k := s) (by omega); rw [cR _ (by omega), List.length_append] at hf2
    refine af hP hN rfl ?_
    iterate 4 (refine ab rfl fun K0 V => ?_; simp only [zE, op1, ev, lkp, ah, ag, aE, bj, ba, aU, aV, bg, Nat.div_one, aM, aX, Ty.size, aI, dite_true, reduceCtorEq, E, D, J, S, M, O, Try.el26, Try.td26, Mly.av]; (repeat refine And.intro (by first | omega | assumption | exact rfl) ?_); (first | refine V _ ?_ | refine Or.inl (V _ ?_)); clear V K0; simp only [put, app, Z, ae, zE, zS, D])
    refine ai ?_
    refine hK13 _ ?_; clear hK13; refine ad [3, 5, 10, 11, 12, 13] ?_; simp only [U, lkp, zE, reduceCtorEq, E, Y, D]
    refine af hP hN rfl ?_
    iterate 2 (refine ab rfl fun K0 V => ?_; simp only [zE, op1, ev, lkp, ah, ag, aB, aD, aC, aq, az, aP, reduceCtorEq, E, D, J, S, M, O, Try.td3, Mly.av]; (repeat refine And.intro (by first | omega | assumption | exact rfl) ?_); refine V _ ?_; clear V K0; simp only [put, app, Z, ae, zE, zS, D])
    refine ai ?_
    refine ⟨_, _, ?_, aJ [3, 10, 11, 12], s + 1, v + 1, by omega, rfl, ?_⟩
    · omega
    · rw [cR _ (by omega)]; rfl
   ·(try simp only [zB, reduceCtorEq] at hc12)
    refine bm ?_
    refine hK7 _ ?_; clear hK7; refine ad [3, 10, 11, 12, 13] ?_; simp only [U, lkp, zE, reduceCtorEq, E, Y, D]
    refine aa fun K15 hK15 => ?_
    have hsl : s = m.ot.length := by omega
    subst hsl
    rw [List.take_length]
    have hf2 := fS hm (k := m.ot.length) (Nat.le_refl _); have hf3 := jc hm m.ot.length (Nat.le_refl _); rw [List.take_length] at hf2 hf3
    have hp9 : (1 : Int) * 1 ≤ m.ot.length * m.inp := Int.mul_le_mul (by omega) (by omega) (by omega) (by omega)
    have hpos : 0 < m.ot.flatten.length := by omega
    refine af hP hN rfl ?_
    (refine ab rfl fun K0 V => ?_; simp only [zE, op1, ev, lkp, ah, ag, ev, reduceCtorEq, E, D, J, S, M, O, Try.el26, Try.td26, Mly.av]; refine V _ ?_; clear V K0; simp only [put, app, Z, ae, zE, zS, D])
    refine ab rfl fun K0 V => ?_
    refine aT (h := mU (k := 1) (ver := v) (xs := m.ot.flatten) pR rfl (by omega) (by omega)) rfl rfl (by first | exact rfl | (simp only [ev, U, lkp, zE, reduceCtorEq, E, Y, D]; exact rfl)) (by simp only [zE, zG, op1, ev, lkp, ah, ag, am, acs, be, mv1, mvC, Ty.dflt, reduceCtorEq, E, D, J, S, M, O, Mly.av]) ?_
    refine V _ ?_; clear V K0; simp only [put, app, Z, ae, zE, zS, D]
    refine ai ?_
    refine hK15 _ ?_; clear hK15; refine ad [3, 10, 11, 12, 13] ?_; simp only [U, lkp, zE, reduceCtorEq, E, Y, D]
    refine aa fun K16 hK16 => ?_
    refine af hP hN rfl ?_
    (refine ab rfl fun K0 V => ?_; simp only [zE, op1, ev, lkp, ah, ag, ev, reduceCtorEq, E, D, J, S, M, O, Try.el26, Try.td26, Mly.av]; refine V _ ?_; clear V K0; simp only [put, app, Z, ae, zE, zS, D])
    refine ab rfl fun K0 V => ?_
    refine aT (h := kh (k := 1) (ver := v) (xs := eS m.ot.flatten) mt rfl (by rw [jY]; omega) (by rw [jY]; omega) lm) rfl rfl (by first | exact rfl | (simp only [ev, U, lkp, zE, reduceCtorEq, E, Y, D]; exact rfl)) (by simp only [zE, zG, op1, ev, lkp, ah, ag, am, acs, be, mv1, mvC, Ty.dflt, reduceCtorEq, E, D, J, S, M, O, Mly.av]) ?_
    refine V _ ?_; clear V K0; simp only [put, app, Z, ae, zE, zS, D]
    (refine ab rfl fun K0 V => ?_; simp only [zE, op1, ev, lkp, ah, ag, ev, reduceCtorEq, E, D, J, S, M, O, Try.el26, Try.td26, Mly.av]; refine V _ ?_; clear V K0; simp only [put, app, Z, ae, zE, zS, D])
    refine ai ?_
    refine hK16 _ ?_; clear hK16; refine ad [2, 3, 10, 11, 12, 13] ?_; simp only [U, lkp, zE, reduceCtorEq, E, Y, D]
    refine aH ?_
    refine ⟨by first | exact .inl rfl | exact .inr rfl, _, rfl, ?_⟩; simp only [fzV, fz1, fzC, List.map_cons, List.map_nil, U, lkp, zE, reduceCtorEq, E, Y, D, Mly.av]
    first
    | (rw [kz ‹¬c0 m = 0›]; exact jy (aQ rfl))
    | (rw [jU hv]; exact VLE.of_eq rfl)
end Go.Proofs.Ytdkgcbhbpdbmnaa
