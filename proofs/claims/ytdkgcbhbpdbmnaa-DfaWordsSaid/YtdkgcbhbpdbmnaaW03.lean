/- Contracts of functions of this seat, each out of a walk through its code, and plain facts on what they compute. Conditions: those that each theorem names. -/
import Derived.Test.YtdkgcbhbpdbmnaaW02
set_option linter.unusedSimpArgs false
set_option linter.unusedVariables false
namespace Go.Proofs.Ytdkgcbhbpdbmnaa
open Go Go.AV
open Nat renaming reduceEqDiff → E, reduceAdd → D, reduceLeDiff → J, reduceLT → S, reduceMul → M, reduceSub → O
open List renaming set_cons_zero → aq, set_cons_succ → ao
set_option maxRecDepth 100000 in
theorem lW (a b : Dfa) : bB Try.prog 24 [a.av, b.av] (.tup [.one (.list (.int .i64) (lG a b)), .one (.bool (lM a b)), .one (.int .i64 (dT a b))]) := by
 refine aQ Try.func24 rfl (by kernel_rfl) (Nat.le_of_ble_eq_true rfl) rfl fun C hP hN hB => ?_
 replace hN : C.N = 39 := hN
 simp only [Y, D]
 refine ab fun K1 hK1 => ?_
 refine ah hP hN rfl ?_
 iterate 5 (refine aa rfl fun K0 V => ?_; simp only [zE, op1, ev, lkp, ag, af, bV, ak, reduceCtorEq, E, D, J, S, M, O, Try.el26, Try.st25, Try.td25, Try.td26, Try.td29, Try.td4, Dfa.av]; (repeat refine And.intro (by first | omega | assumption | exact rfl) ?_); refine V _ ?_; clear V K0; simp only [put, app, Z, ae, zE, zS, D])
 refine ai ?_
 refine hK1 _ ?_; clear hK1; refine ad [0, 1, 2, 3, 4, 5, 6] ?_; simp only [U, lkp, zE, reduceCtorEq, E, Y, D]
 refine ab fun K2 hK2 => ?_
 refine ab fun K3 hK3 => ?_
 refine ah hP hN rfl ?_
 iterate 2 (refine aa rfl fun K0 V => ?_; simp only [zE, op1, ev, lkp, ag, af, ay, Nat.mul_one, au, ax, acs, Ty.dflt, zG, am, reduceCtorEq, E, D, J, S, M, O, Try.st25, Try.td25, Dfa.av]; (repeat refine And.intro (by first | omega | assumption | exact rfl) ?_); refine V _ ?_; clear V K0; simp only [put, app, Z, ae, zE, zS, D])
 refine aa rfl fun K0 V => ?_
 refine aR (h := az (mM a b)) rfl rfl (by first | exact rfl | (simp only [ev, U, lkp, zE, reduceCtorEq, E, Y, D]; exact rfl)) (by simp only [zE, zG, op1, ev, lkp, ag, af, ak, acs, aW, mv1, mvC, Ty.dflt, reduceCtorEq, E, D, J, S, M, O, Dfa.av]) ?_
 refine V _ ?_; clear V K0; simp only [put, app, Z, ae, zE, zS, D]
 (refine aa rfl fun K0 V => ?_; simp only [zE, op1, ev, lkp, ag, af, ev, reduceCtorEq, E, D, J, S, M, O, Try.td29, Dfa.av]; refine V _ ?_; clear V K0; simp only [put, app, Z, ae, zE, zS, D])
 refine ai ?_
 refine hK3 _ ?_; clear hK3; refine ad [0, 1, 2, 3, 4, 5, 6, 7] ?_; simp only [U, lkp, zE, reduceCtorEq, E, Y, D]
 refine ab fun K4 hK4 => ?_
 refine ah hP hN rfl ?_
 iterate 2 (refine aa rfl fun K0 V => ?_; simp only [zE, op1, ev, lkp, ag, af, aC, aE, aD, ar, aA, aP, reduceCtorEq, E, D, J, S, M, O, Try.td29, Try.td4, Dfa.av]; (repeat refine And.intro (by first | omega | assumption | exact rfl) ?_); refine V _ ?_; clear V K0; simp only [put, app, Z, ae, zE, zS, D])
 refine ai ?_
 refine hK4 _ ?_; clear hK4; refine ad [0, 1, 2, 3, 4, 5, 6, 7, 16] ?_; simp only [U, lkp, zE, reduceCtorEq, E, Y, D]
 refine aB (by simp only [ev, U, lkp, zE, reduceCtorEq, E, Y, D]; exact rfl) (fun hc5 => ?_) (fun hc5 => ?_)
 ·(try simp only [zB, reduceCtorEq] at hc5)
  refine ab fun K6 hK6 => ?_
  refine ah hP hN rfl ?_
  iterate 4 (refine aa rfl fun K0 V => ?_; simp only [zE, op1, ev, lkp, ag, af, ev, reduceCtorEq, E, D, J, S, M, O, Try.el26, Try.td26, Try.td29, Try.td4, Dfa.av]; refine V _ ?_; clear V K0; simp only [put, app, Z, ae, zE, zS, D])
  refine ai ?_
  refine hK6 _ ?_; clear hK6; refine ad [0, 1, 2, 3, 4, 5, 6, 7, 16] ?_; simp only [U, lkp, zE, reduceCtorEq, E, Y, D]
  refine aF ?_
  refine ⟨by first | exact .inl rfl | exact .inr rfl, _, rfl, ?_⟩; simp only [fzV, fz1, fzC, List.map_cons, List.map_nil, U, lkp, zE, reduceCtorEq, E, Y, D, Dfa.av]
  first
  | (have e1 : lG a b = [] := if_neg (by assumption)
     have e2 : lM a b = false := if_neg (by assumption)
     rw [e1, e2]; exact bD ⟨bu (aT rfl), fun _ _ _ _ _ h => h, fun _ _ _ _ _ h => h, trivial⟩)
  | (have e1 : lG a b = laW (fG a b) (dG a b) := if_pos ht
     have e2 : lM a b = dB (fG a b) (dG a b) := if_pos ht
     rw [e1, e2, ht]; exact VLE.of_eq rfl)
 ·(try simp only [zB, reduceCtorEq] at hc5)
  have ht : dT a b = 0 := by omega
  obtain ⟨ha, hb, hi⟩ := lX ht
  have a1 := ha.i1; have a2 := ha.i2; have a4 := ha.n2; have b4 := hb.n2; have hm9 := fi a4 b4
  refine aJ ?_
  refine hK2 _ ?_; clear hK2; refine ad [0, 1, 2, 3, 4, 5, 6, 7, 16] ?_; simp only [U, lkp, zE, reduceCtorEq, E, Y, D]
  refine ab fun K7 hK7 => ?_
  refine cu 0 (.pair (.int .i64) (.pair (.int .i64) (.pair (.list (.list (.int .i64))) (.pair (.list .bool) .unit)))) rfl rfl ?_; simp only [List.map_cons, List.map_nil, shV, if_true, zS, if_false, eq_self, E, reduceCtorEq, Nat.one_ne_zero, Nat.zero_ne_one]
  refine cu 1 (.pair (.int .i64) (.pair (.int .i64) (.pair (.list (.list (.int .i64))) (.pair (.list .bool) .unit)))) rfl rfl ?_; simp only [List.map_cons, List.map_nil, shV, if_true, zS, if_false, eq_self, E, reduceCtorEq, Nat.one_ne_zero, Nat.zero_ne_one]
  refine ah hP hN rfl ?_
  iterate 2 (refine aa rfl fun K0 V => ?_; simp only [zE, op1, ev, lkp, ag, af, ch, cQ, dc, reduceCtorEq, E, D, J, S, M, O, Try.td82, Dfa.av]; (repeat refine And.intro (by first | omega | assumption | exact rfl) ?_); (first | refine V _ ?_ | refine Or.inl (V _ ?_)); clear V K0; simp only [put, app, Z, ae, zE, zS, D])
  refine ai ?_
  refine hK7 _ ?_; clear hK7; refine ad [0, 1, 2, 3, 4, 5, 6, 7, 8, 16] ?_; simp only [U, lkp, zE, reduceCtorEq, E, Y, D]
  refine ab fun K8 hK8 => ?_
  refine ah hP hN rfl ?_
  iterate 9 (refine aa rfl fun K0 V => ?_; simp only [zE, op1, ev, lkp, ag, af, aw, ay, Nat.mul_one, au, ax, acs, Ty.dflt, zG, am, bJ, aY, aN, ak, ch, cQ, dc, reduceCtorEq, E, D, J, S, M, O, Try.ea81, Try.sa81, Try.st25, Try.td1, Try.td25, Try.td3, Try.td81, Try.td82, Try.td87, Dfa.av]; (repeat refine And.intro (by first | omega | assumption | exact rfl) ?_); (first | refine V _ ?_ | refine Or.inl (V _ ?_)); clear V K0; simp only [put, app, Z, ae, zE, zS, D])
  refine aa rfl fun K0 V => ?_
  refine aR (h := gH a.inp.toNat 62 63 [.pat (.pair (.int .i64) (.pair (.int .i64) (.pair (.list (.list (.int .i64))) (.pair (.list .bool) .unit)))) (a.inp, (a.st, (a.nx, (a.acc, ())))), .pat (.pair (.int .i64) (.pair (.int .i64) (.pair (.list (.list (.int .i64))) (.pair (.list .bool) .unit)))) (b.inp, (b.st, (b.nx, (b.acc, ()))))] [.pat (.pair (.int .i64) (.pair (.int .i64) (.pair (.list (.list (.int .i64))) (.pair (.list .bool) .unit)))) (a.inp, (a.st, (a.nx, (a.acc, ())))), .pat (.pair (.int .i64) (.pair (.int .i64) (.pair (.list (.list (.int .i64))) (.pair (.list .bool) .unit)))) (b.inp, (b.st, (b.nx, (b.acc, ()))))] (ca a b) (fG a b) (a.st, b.st) a.nx.length b.nx.length a.inp (by omega) rfl rfl hm9 (by omega) (by omega) (by omega) (jc ha hb) (fT ha hb hi (by omega)) (fun q x hq hx => ri a b q x ha hb hi hq (by omega)) (fun q hq => r0 a b q ha hb hi hq) _) rfl rfl (by first | exact rfl | (simp only [ev, U, lkp, zE, reduceCtorEq, E, Y, D]; exact rfl)) (by simp only [zE, zG, op1, ev, lkp, ag, af, ak, acs, aW, mv1, mvC, Ty.dflt, reduceCtorEq, E, D, J, S, M, O, Dfa.av]) ?_
  refine V _ ?_; clear V K0; simp only [put, app, Z, ae, zE, zS, D]
  iterate 7 (refine aa rfl fun K0 V => ?_; simp only [zE, op1, ev, lkp, ag, af, bC, reduceCtorEq, E, D, J, S, M, O, Try.el83, Try.mk84, Try.td1, Try.td2, Try.td4, Try.td83, Dfa.av]; refine V _ ?_; clear V K0; simp only [put, app, Z, ae, zE, zS, D])
  refine ai ?_
  refine hK8 _ ?_; clear hK8; refine ad [0, 1, 2, 3, 4, 5, 6, 7, 8, 9, 11, 16] ?_; simp only [U, lkp, zE, reduceCtorEq, E, Y, D]
  refine ab fun K9 hK9 => ?_
  refine ah hP hN rfl ?_
  iterate 2 (refine aa rfl fun K0 V => ?_; simp only [zE, op1, ev, lkp, ag, af, ev, reduceCtorEq, E, D, J, S, M, O, Try.el83, Try.td4, Try.td83, Dfa.av]; refine V _ ?_; clear V K0; simp only [put, app, Z, ae, zE, zS, D])
  refine aa rfl fun K0 V => ?_
  refine aR (h := az (mg (dQ (fG a b) (dG a b)) (dB (fG a b) (dG a b)) o8 (Nat.le_trans (pz _ _) (qb ha hb hi)))) rfl rfl (by first | exact rfl | (simp only [ev, U, lkp, zE, reduceCtorEq, E, Y, D]; exact rfl)) (by simp only [zE, zG, op1, ev, lkp, ag, af, ak, acs, aW, mv1, mvC, Ty.dflt, reduceCtorEq, E, D, J, S, M, O, Dfa.av, dG]) ?_
  refine V _ ?_; clear V K0; simp only [put, app, Z, ae, zE, zS, D]
  iterate 6 (refine aa rfl fun K0 V => ?_; simp only [zE, op1, ev, lkp, ag, af, bC, reduceCtorEq, E, D, J, S, M, O, Try.el26, Try.td1, Try.td2, Try.td26, Try.td29, Try.td4, Dfa.av]; refine V _ ?_; clear V K0; simp only [put, app, Z, ae, zE, zS, D])
  refine ai ?_
  refine hK9 _ ?_; clear hK9; refine ad [0, 1, 2, 3, 4, 5, 6, 7, 8, 9, 11, 16] ?_; simp only [U, lkp, zE, reduceCtorEq, E, Y, D]
  refine aF ?_
  refine ⟨by first | exact .inl rfl | exact .inr rfl, _, rfl, ?_⟩; simp only [fzV, fz1, fzC, List.map_cons, List.map_nil, U, lkp, zE, reduceCtorEq, E, Y, D, Dfa.av]
  first
  | (have e1 : lG a b = [] := if_neg (by assumption)
     have e2 : lM a b = false := if_neg (by assumption)
     rw [e1, e2]; exact bD ⟨bu (aT rfl), fun _ _ _ _ _ h => h, fun _ _ _ _ _ h => h, trivial⟩)
  | (have e1 : lG a b = laW (fG a b) (dG a b) := if_pos ht
     have e2 : lM a b = dB (fG a b) (dG a b) := if_pos ht
     rw [e1, e2, ht]; exact VLE.of_eq rfl)
end Go.Proofs.Ytdkgcbhbpdbmnaa
namespace Go.AV
open Nat renaming reduceEqDiff → E, reduceAdd → D, reduceLeDiff → J, reduceLT → S, reduceMul → M, reduceSub → O
open List renaming set_cons_zero → aq, set_cons_succ → ao
/-plain-/
/-! Classes of states of an automaton. -/
def Dfa.sg (d : Dfa) (cl : List Int) (s : Nat) : List Int := cl.getD s 0 :: (d.nx.getD s []).map fun t => cl.getD t.toNat 0
def Dfa.nxL (d : Dfa) (cl : List Int) : List Int := (List.range d.nx.length).map fun s => (pos (cB (d.sg cl) d.nx.length) (d.sg cl s) : Int)
def Dfa.cl (d : Dfa) : Nat → List Int
  | 0 => (List.range d.nx.length).map (eV d)
  | i + 1 => d.nxL (d.cl i)
def Dfa.cn (d : Dfa) : Nat → Nat
  | 0 => 0
  | i + 1 => (cB (d.sg (d.cl i)) d.nx.length).length
theorem dlN (d : Dfa) (s a : Nat) : d.dl s a = (d.nx.getD s []).getD a 0 := by
  unfold Dfa.dl Dfa.row; rw [Int.toNat_natCast, Int.toNat_natCast]
theorem rM {d : Dfa} (hd : DOK d) {cl : List Int} {s t : Nat} (hs : s < d.nx.length) (ht : t < d.nx.length) :
    d.sg cl s = d.sg cl t ↔ cl.getD s 0 = cl.getD t 0 ∧ ∀ a : Nat, (a : Int) < d.inp → cl.getD (d.dl s a).toNat 0 = cl.getD (d.dl t a).toNat 0 := by
  have l1 := hd.rl s hs
  have l2 := hd.rl t ht
  unfold Dfa.row at l1 l2
  rw [Int.toNat_natCast] at l1 l2
  unfold Dfa.sg
  rw [List.cons.injEq]
  refine and_congr_right fun _ => ⟨fun h a ha => ?_, fun h => ?_⟩
  · have h2 := congrArg (fun l => l.getD a 0) h
    have a1 : a < (d.nx.getD s []).length := by omega
    have a2 : a < (d.nx.getD t []).length := by omega
    rw [dlN, dlN]
    generalize d.nx.getD s [] = rs at *
    generalize d.nx.getD t [] = rt at *
    simp only [List.getD, List.getElem?_map, List.getElem?_eq_getElem a1, List.getElem?_eq_getElem a2, Option.map_some, Option.getD_some] at h2 ⊢
    exact h2
  · refine List.ext_getElem (by rw [List.length_map, List.length_map]; omega) fun a h1 h2 => ?_
    rw [List.length_map] at h1 h2
    have h3 := h a (by omega)
    rw [dlN, dlN] at h3
    rw [List.getElem_map, List.getElem_map]
    generalize d.nx.getD s [] = rs at *
    generalize d.nx.getD t [] = rt at *
    simp only [List.getD, List.getElem?_eq_getElem h1, List.getElem?_eq_getElem h2, Option.getD_some] at h3 ⊢
    exact h3
theorem pV (d : Dfa) (cl : List Int) : (d.nxL cl).length = d.nx.length := by simp [Dfa.nxL]
theorem mj (d : Dfa) : ∀ i, (d.cl i).length = d.nx.length
  | 0 => by simp [Dfa.cl]
  | i + 1 => pV _ _
theorem l9 {d : Dfa} {cl : List Int} {s : Nat} (h : s < d.nx.length) : (d.nxL cl).getD s 0 = (pos (cB (d.sg cl) d.nx.length) (d.sg cl s) : Int) := by
  simp [Dfa.nxL, List.getD, h]
theorem qi {d : Dfa} {cl : List Int} {s : Nat} (h : s < d.nx.length) : 0 ≤ (d.nxL cl).getD s 0 ∧ (d.nxL cl).getD s 0 < (cB (d.sg cl) d.nx.length).length := by
  rw [l9 h]
  have h1 := gc (ew (f := d.sg cl) (k := d.nx.length).2 ⟨s, h, rfl⟩)
  omega
theorem nR {d : Dfa} {cl : List Int} {s t : Nat} (hs : s < d.nx.length) (ht : t < d.nx.length) : (d.nxL cl).getD s 0 = (d.nxL cl).getD t 0 ↔ d.sg cl s = d.sg cl t := by
  rw [l9 hs, l9 ht]
  constructor
  · intro h
    exact qe (ew.2 ⟨s, hs, rfl⟩) (ew.2 ⟨t, ht, rfl⟩) (by omega)
  · intro h; rw [h]
theorem oQ {d : Dfa} (hd : DOK d) (i : Nat) {s t : Nat} (hs : s < d.nx.length) (ht : t < d.nx.length) (h : (d.cl (i + 1)).getD s 0 = (d.cl (i + 1)).getD t 0) :
    (d.cl i).getD s 0 = (d.cl i).getD t 0 ∧ ∀ a : Nat, (a : Int) < d.inp → (d.cl i).getD (d.dl s a).toNat 0 = (d.cl i).getD (d.dl t a).toNat 0 :=
  (rM hd hs ht).1 ((nR hs ht).1 h)
/-! How many there are. -/
def Dfa.fr (d : Dfa) (i : Nat) : List Nat := eG (fun s => (d.cl i).getD s 0) d.nx.length
theorem pu (d : Dfa) (i : Nat) : d.cn (i + 1) = (d.fr (i + 1)).length :=
  i3 (d.sg (d.cl i)) (fun s => (d.cl (i + 1)).getD s 0) d.nx.length fun _ _ hs ht => nR hs ht
theorem rR (d : Dfa) : ∀ i, d.cn i ≤ d.nx.length
  | 0 => Nat.zero_le _
  | _ + 1 => hM _ _
theorem qz {d : Dfa} (hd : DOK d) : ∀ i, d.cn i ≤ d.cn (i + 1)
  | 0 => Nat.zero_le _
  | i + 1 => by
    rw [pu, pu]
    exact ji _ _ (km _ _) (mO fun s t hs ht h => (oQ hd (i + 1) hs ht h).1)
theorem mS {d : Dfa} (hd : DOK d) : ∀ {i : Nat}, (∀ q, q < i → d.cn (q + 1) ≠ d.cn q) → i ≤ d.cn i
  | 0, _ => Nat.zero_le _
  | i + 1, h => by
    have h1 := mS hd (i := i) fun q hq => h q (by omega)
    have h2 := qz hd i
    have h3 := h i (by omega)
    omega
def nZ (n : Int) (w : List Int) : Prop := ∀ x, x ∈ w → 0 ≤ x ∧ x < n
theorem nF {n x : Int} {w : List Int} : nZ n (x :: w) ↔ (0 ≤ x ∧ x < n) ∧ nZ n w := by unfold nZ; simp
/-- Two states accept the same words. -/
def DEQ (a b : Dfa) (s t : Int) : Prop := ∀ w : List Int, nZ a.inp w → a.ac (a.run s w) = b.ac (b.run t w)
theorem DEQ.step {a b : Dfa} {s t x : Int} (h : DEQ a b s t) (hx : 0 ≤ x ∧ x < a.inp) : DEQ a b (a.dl s x) (b.dl t x) := fun w hw => h (x :: w) (nF.2 ⟨hx, hw⟩)
theorem DEQ.acc {a b : Dfa} {s t : Int} (h : DEQ a b s t) : a.ac s = b.ac t := h [] (fun x hx => by cases hx)
theorem DEQ.refl (d : Dfa) (s : Int) : DEQ d d s s := fun _ _ => rfl
theorem DEQ.symm {d : Dfa} {s t : Int} (h : DEQ d d s t) : DEQ d d t s := fun w hw => (h w hw).symm
theorem DEQ.trans {d : Dfa} {s t u : Int} (h : DEQ d d s t) (h2 : DEQ d d t u) : DEQ d d s u := fun w hw => (h w hw).trans (h2 w hw)
end Go.AV
namespace Go.AV
open Nat renaming reduceEqDiff → E, reduceAdd → D, reduceLeDiff → J, reduceLT → S, reduceMul → M, reduceSub → O
open List renaming set_cons_zero → aq, set_cons_succ → ao
/-plain-/
def ez (A : STP) (n most : Nat) : Nat → Nat → List W3 → List W3
  | 0, _, l => l
  | f + 1, i, l => if i < l.length ∧ l.length ≤ most then ez A n most f (i + 1) (bM A (l.getD i w30) l n) else l
theorem gb {A : STP} {n most f i : Nat} {l : List W3} (h : ¬ (i < l.length ∧ l.length ≤ most)) : ez A n most f i l = l := by
  cases f with
  | zero => rfl
  | succ f => simp only [ez]; rw [if_neg h]
theorem f8 {A : STP} {n most f i : Nat} {l : List W3} (h : i < l.length) (h2 : l.length ≤ most) : ez A n most (f + 1) i l = ez A n most f (i + 1) (bM A (l.getD i w30) l n) := by
  simp only [ez]; rw [if_pos ⟨h, h2⟩]
theorem nX {l : List W3} {i : Nat} (h : i < l.length) (z : List Int) : (l.map Prod.snd).getD i z = (l.getD i w30).2 := by simp [List.getD, h]
theorem kP {l : List W3} {i : Nat} (h : i < l.length) (d : Int × (Int × Unit)) : (List.map ed (l.map Prod.fst)).getD i d = ((l.getD i w30).1.1, ((l.getD i w30).1.2, ())) := by simp [List.getD, h, ed]
end Go.AV
namespace Go.AV
open Nat renaming reduceEqDiff → E, reduceAdd → D, reduceLeDiff → J, reduceLT → S, reduceMul → M, reduceSub → O
open List renaming set_cons_zero → aq, set_cons_succ → ao
/-plain-/
/-! The search through classes. -/
structure HOM (A B : STP) (n : Nat) (I : PP → Prop) (h : PP → PP) : Prop where
  cl : ∀ p, I p → ∀ x, x < n → I (A p x)
  eq : ∀ p, I p → ∀ x, x < n → B (h p) x = h (A p x)
end Go.AV
namespace Go.AV
open Nat renaming reduceEqDiff → E, reduceAdd → D, reduceLeDiff → J, reduceLT → S, reduceMul → M, reduceSub → O
open List renaming set_cons_zero → aq, set_cons_succ → ao
/-plain-/
/-! Two searches side by side. -/
structure SIM (A B : STP) (n : Nat) (R : PP → PP → Prop) : Prop where
  st : ∀ p q, R p q → ∀ x, x < n → R (A p x) (B q x)
  bi : ∀ p q p' q', R p q → R p' q' → (p = p' ↔ q = q')
def RL (R : PP → PP → Prop) (l l' : List W3) : Prop := l.length = l'.length ∧ ∀ i, i < l.length → R (l.getD i w30).1 (l'.getD i w30).1 ∧ (l.getD i w30).2 = (l'.getD i w30).2
theorem RL.mem {A B : STP} {n : Nat} {R : PP → PP → Prop} (hs : SIM A B n R) {l l' : List W3} (h : RL R l l') {p q : PP} (hr : R p q) : p ∈ l.map Prod.fst ↔ q ∈ l'.map Prod.fst := by
  constructor
  · intro hm
    obtain ⟨e, he, e1⟩ := List.mem_map.1 hm
    obtain ⟨i, hi⟩ := List.getElem?_of_mem he
    have hlt := (List.getElem?_eq_some_iff.1 hi).1
    have h2 := h.2 i hlt
    have h3 : l.getD i w30 = e := by rw [List.getD, hi]; rfl
    rw [h3, e1] at h2
    have := (hs.bi _ _ _ _ h2.1 hr).1 rfl
    rw [← this]
    exact List.mem_map.2 ⟨_, da (by rw [← h.1]; exact hlt), rfl⟩
  · intro hm
    obtain ⟨e, he, e1⟩ := List.mem_map.1 hm
    obtain ⟨i, hi⟩ := List.getElem?_of_mem he
    have hlt := (List.getElem?_eq_some_iff.1 hi).1
    have h2 := h.2 i (by rw [h.1]; exact hlt)
    have h3 : l'.getD i w30 = e := by rw [List.getD, hi]; rfl
    rw [h3, e1] at h2
    have := (hs.bi _ _ _ _ h2.1 hr).2 rfl
    rw [← this]
    exact List.mem_map.2 ⟨_, da (by rw [h.1]; exact hlt), rfl⟩
theorem RL.snoc {R : PP → PP → Prop} {l l' : List W3} (h : RL R l l') {e f : W3} (hr : R e.1 f.1) (hw : e.2 = f.2) : RL R (l ++ [e]) (l' ++ [f]) := by
  refine ⟨by simp [h.1], fun i hi => ?_⟩
  rw [List.length_append, List.length_singleton] at hi
  by_cases e1 : i < l.length
  · rw [cJ e1, cJ (by rw [← h.1]; exact e1)]; exact h.2 i e1
  · rw [dP (by omega), dP (by have := h.1; omega)]; exact ⟨hr, hw⟩
theorem RL.row {A B : STP} {n : Nat} {R : PP → PP → Prop} (hs : SIM A B n R) {l l' : List W3} (h : RL R l l') {e f : W3} (hr : R e.1 f.1) (hw : e.2 = f.2) : ∀ x, x ≤ n → RL R (bM A e l x) (bM B f l' x)
  | 0, _ => h
  | x + 1, hx => by
    have ih := h.row hs hr hw x (by omega)
    have h2 := hs.st _ _ hr x (by omega)
    rw [cd, cd]
    by_cases hm : A e.1 x ∈ (bM A e l x).map Prod.fst
    · rw [eJ hm, eJ ((ih.mem hs h2).1 hm)]; exact ih
    · rw [dy hm, dy (fun k => hm ((ih.mem hs h2).2 k))]
      exact ih.snoc h2 (by rw [hw])
theorem RL.prun {A B : STP} {n most : Nat} {R : PP → PP → Prop} (hs : SIM A B n R) : ∀ (f i : Nat) (l l' : List W3), RL R l l' → RL R (ez A n most f i l) (ez B n most f i l')
  | 0, _, _, _, h => h
  | f + 1, i, l, l', h => by
    by_cases hi : i < l.length ∧ l.length ≤ most
    · have hi2 : i < l'.length ∧ l'.length ≤ most := by rw [← h.1]; exact hi
      rw [f8 hi.1 hi.2, f8 hi2.1 hi2.2]
      have h2 := h.2 i hi.1
      exact RL.prun hs f (i + 1) _ _ (h.row hs h2.1 h2.2 n (Nat.le_refl _))
    · rw [gb hi, gb (by rw [← h.1]; exact hi)]; exact h
theorem RL.one {R : PP → PP → Prop} {p q : PP} (h : R p q) : RL R [(p, [])] [(q, [])] := ⟨rfl, fun i hi => by
  have : i = 0 := by simpa using hi
  subst this; exact ⟨h, rfl⟩⟩
/-- More steps than there are pairs change nothing. -/
theorem jh {A : STP} {n n1 n2 : Nat} (hA : ∀ q, inR n1 n2 q → ∀ x, x < n → inR n1 n2 (A q x)) : ∀ (f g i : Nat) (l : List W3), DW n1 n2 l → n1 * n2 ≤ f + i → n1 * n2 ≤ g + i → dq A n f i l = dq A n g i l
  | 0, g, i, l, hd, h1, _ => by have := hd.le; rw [dJ A n g i (by omega)]; rfl
  | f + 1, 0, i, l, hd, _, h2 => by have := hd.le; rw [dJ A n (f + 1) i (by omega)]; rfl
  | f + 1, g + 1, i, l, hd, h1, h2 => by
    by_cases hi : i < l.length
    · rw [dI _ _ _ hi, dI _ _ _ hi]
      exact jh hA f g (i + 1) _ (hd.row hA hi n (Nat.le_refl _)) (by omega) (by omega)
    · rw [dJ _ _ _ _ (by omega), dJ _ _ _ _ (by omega)]
end Go.AV
namespace Go.AV
open Nat renaming reduceEqDiff → E, reduceAdd → D, reduceLeDiff → J, reduceLT → S, reduceMul → M, reduceSub → O
open List renaming set_cons_zero → aq, set_cons_succ → ao
/-plain-/
theorem jE {g : PP → Bool} {L : List W3} {k : Nat} (hk : k < L.length) (hq : ∀ j, j < k → g (L.getD j w30).1 = false) (hg : g (L.getD k w30).1 = true) : dB g L = true ∧ laW g L = (L.getD k w30).2 := by
  have e : L = L.take k ++ [L.getD k w30] ++ L.drop (k + 1) := by
    have h1 : L.getD k w30 = L[k] := by rw [List.getD, List.getElem?_eq_getElem hk]; rfl
    rw [h1, List.append_assoc, List.singleton_append, ← List.drop_eq_getElem_cons hk, List.take_append_drop]
  have hn : ∀ f, f ∈ L.take k → g f.1 = false := fun f hf => by
    obtain ⟨j, hj⟩ := List.getElem?_of_mem hf
    have hlt := (List.getElem?_eq_some_iff.1 hj).1
    rw [List.length_take] at hlt
    rw [List.getElem?_take_of_lt (by omega)] at hj
    have h3 := hq j (by omega)
    rw [List.getD, hj] at h3
    exact h3
  have h2 := ly (k := L.drop (k + 1)) hn hg
  rw [← e] at h2
  refine ⟨h2.2, ?_⟩
  unfold laW
  rw [if_pos h2.2, h2.1]
  simp [List.getD, Nat.min_eq_left (Nat.le_of_lt hk)]
theorem iu {g : PP → Bool} {L : List W3} (hq : ∀ j, j < L.length → g (L.getD j w30).1 = false) : dB g L = false ∧ laW g L = [] := by
  have h2 := (jf (g := g) (l := L) fun f hf => by
    obtain ⟨j, hj⟩ := List.getElem?_of_mem hf
    have hlt := (List.getElem?_eq_some_iff.1 hj).1
    have h3 := hq j hlt
    rw [List.getD, hj] at h3
    exact h3).2
  refine ⟨h2, ?_⟩
  unfold laW
  rw [h2]; rfl
theorem ka {A : STP} {n n1 n2 most : Nat} (hA : ∀ q, inR n1 n2 q → ∀ x, x < n → inR n1 n2 (A q x)) (hb : n1 * n2 ≤ most) : ∀ (f i : Nat) (l : List W3), DW n1 n2 l → ez A n most f i l = dq A n f i l
  | 0, _, _, _ => rfl
  | f + 1, i, l, hd => by
    have h1 := hd.le
    by_cases hi : i < l.length
    · rw [f8 hi (by omega), dI _ _ _ hi]
      exact ka hA hb f (i + 1) _ (hd.row hA hi n (Nat.le_refl _))
    · rw [gb (by omega), dJ _ _ _ _ (by omega)]
end Go.AV
namespace Go.AV
open Nat renaming reduceEqDiff → E, reduceAdd → D, reduceLeDiff → J, reduceLT → S, reduceMul → M, reduceSub → O
open List renaming set_cons_zero → aq, set_cons_succ → ao
/-plain-/
/-! Words in the order of their lengths and symbols. -/
def SLT (u v : List Int) : Prop := u.length < v.length ∨ (u.length = v.length ∧ ∃ m, m < u.length ∧ (∀ q, q < m → u.getD q 0 = v.getD q 0) ∧ u.getD m 0 < v.getD m 0)
def SLE (u v : List Int) : Prop := u = v ∨ SLT u v
theorem SLT.trans {u v w : List Int} (h : SLT u v) (h2 : SLT v w) : SLT u w := by
  rcases h with h | ⟨h, m, a1, a2, a3⟩
  · rcases h2 with h2 | ⟨h2, _⟩
    · exact .inl (by omega)
    · exact .inl (by omega)
  · rcases h2 with h2 | ⟨h2, k, b1, b2, b3⟩
    · exact .inl (by omega)
    · refine .inr ⟨by omega, ?_⟩
      rcases Nat.lt_trichotomy m k with e | e | e
      · exact ⟨m, a1, fun q hq => (a2 q hq).trans (b2 q (by omega)), by rw [← b2 m e]; exact a3⟩
      · subst e; exact ⟨m, a1, fun q hq => (a2 q hq).trans (b2 q hq), by omega⟩
      · exact ⟨k, by omega, fun q hq => (a2 q (by omega)).trans (b2 q hq), by rw [a2 k e]; exact b3⟩
theorem SLE.trans_lt {u v w : List Int} (h : SLE u v) (h2 : SLT v w) : SLT u w := by
  rcases h with rfl | h
  · exact h2
  · exact h.trans h2
theorem SLE.trans {u v w : List Int} (h : SLE u v) (h2 : SLE v w) : SLE u w := by
  rcases h2 with rfl | h2
  · exact h
  · exact .inr (h.trans_lt h2)
theorem SLT.app {u v : List Int} (h : SLT u v) (a b : Int) : SLT (u ++ [a]) (v ++ [b]) := by
  rcases h with h | ⟨h, m, a1, a2, a3⟩
  · exact .inl (by simp; omega)
  · refine .inr ⟨by simp; omega, m, by simp; omega, fun q hq => ?_, ?_⟩
    · rw [cJ (by omega), cJ (by omega)]; exact a2 q hq
    · rw [cJ a1, cJ (by omega)]; exact a3
theorem SLE.app {u v : List Int} (h : SLE u v) (a : Int) : SLE (u ++ [a]) (v ++ [a]) := by
  rcases h with rfl | h
  · exact .inl rfl
  · exact .inr (h.app a a)
theorem SLE.len {u v : List Int} (h : SLE u v) : u.length ≤ v.length := by
  rcases h with rfl | h | ⟨h, _⟩ <;> omega
structure BW (A : STP) (n i : Nat) (l : List W3) : Prop where
  so : ∀ j k, j < k → k < l.length → SLT (l.getD j w30).2 (l.getD k w30).2
  mi : ∀ j, j < i → j < l.length → ∀ x, x < n → ∃ k, k < l.length ∧ (l.getD k w30).1 = A (l.getD j w30).1 x ∧ SLE (l.getD k w30).2 ((l.getD j w30).2 ++ [(x : Int)])
  up : i < l.length → ∀ k, k < l.length → SLT (l.getD k w30).2 ((l.getD i w30).2 ++ [0])
structure BX (A : STP) (n i x : Nat) (l0 l : List W3) : Prop where
  so : ∀ j k, j < k → k < l.length → SLT (l.getD j w30).2 (l.getD k w30).2
  mi : ∀ y, y < x → ∃ k, k < l.length ∧ (l.getD k w30).1 = A (l0.getD i w30).1 y ∧ SLE (l.getD k w30).2 ((l0.getD i w30).2 ++ [(y : Int)])
  up : ∀ k, k < l.length → SLT (l.getD k w30).2 ((l0.getD i w30).2 ++ [(x : Int)])
end Go.AV
namespace Go.AV
open Nat renaming reduceEqDiff → E, reduceAdd → D, reduceLeDiff → J, reduceLT → S, reduceMul → M, reduceSub → O
open List renaming set_cons_zero → aq, set_cons_succ → ao
/-plain-/
/-! The automaton that is built from a search. -/
structure LCL (A : STP) (n : Nat) (L : List W3) : Prop where
  nd : (L.map Prod.fst).Nodup
  cl : ∀ j, j < L.length → ∀ x, x < n → A (L.getD j w30).1 x ∈ L.map Prod.fst
variable {A : STP} {G : PP → Bool} {n : Nat} {L : List W3}
end Go.AV
namespace Go.AV
open Nat renaming reduceEqDiff → E, reduceAdd → D, reduceLeDiff → J, reduceLT → S, reduceMul → M, reduceSub → O
open List renaming set_cons_zero → aq, set_cons_succ → ao
/-plain-/
/-! The least state of a class. -/
def Dfa.sto (d : Dfa) : Nat → Nat → Nat
  | 0, i => i
  | f + 1, i => if d.cn (i + 1) = d.cn i then i else d.sto f (i + 1)
theorem nK (d : Dfa) : ∀ (f i j : Nat), i ≤ j → j < i + f → d.cn (j + 1) = d.cn j → (∀ q, i ≤ q → q < j → d.cn (q + 1) ≠ d.cn q) → d.sto f i = j
  | 0, i, j, h1, h2, _, _ => by omega
  | f + 1, i, j, h1, h2, h3, h4 => by
    simp only [Dfa.sto]
    by_cases e : i = j
    · subst e; rw [if_pos h3]
    · rw [if_neg (h4 i (Nat.le_refl _) (by omega))]
      exact nK d f (i + 1) j (by omega) (by omega) h3 fun q hq => h4 q (by omega)
def Dfa.cls (d : Dfa) : List Int := d.cl (d.sto (d.nx.length + 1) 0 + 1)
theorem ry {d : Dfa} {j : Nat} (hj : j ≤ d.nx.length) (h : d.cn (j + 1) = d.cn j) (hq : ∀ q, q < j → d.cn (q + 1) ≠ d.cn q) : d.cls = d.cl (j + 1) := by
  unfold Dfa.cls
  rw [nK d (d.nx.length + 1) 0 j (by omega) (by omega) h fun q _ => hq q]
theorem kN (d : Dfa) : d.cls.length = d.nx.length := mj d _
theorem gg {d : Dfa} {s : Nat} (hs : s < d.nx.length) : 0 ≤ d.cls.getD s 0 ∧ d.cls.getD s 0 < d.nx.length := by
  unfold Dfa.cls
  have h1 := qi (d := d) (cl := d.cl (d.sto (d.nx.length + 1) 0)) hs
  have h2 := hM (d.sg (d.cl (d.sto (d.nx.length + 1) 0))) d.nx.length
  show 0 ≤ (d.nxL _).getD s 0 ∧ (d.nxL _).getD s 0 < _
  omega
/-- The least state from s on of each class. -/
def fsV (cl : List Int) (n s c : Nat) : Int := match (List.range n).find? (fun q => decide (s ≤ q) && decide (cl.getD q 0 = (c : Int))) with | some q => (q : Int) | none => 0
def fsL (cl : List Int) (n s : Nat) : List Int := (List.range n).map fun c => fsV cl n s c
theorem jX (cl : List Int) (n s : Nat) : (fsL cl n s).length = n := by simp [fsL]
theorem qE (cl : List Int) (n : Nat) : fsL cl n n = List.replicate n 0 := by
  refine List.ext_getElem (by simp [fsL]) fun i h1 h2 => ?_
  simp only [fsL, List.getElem_map, List.getElem_range, List.getElem_replicate]
  unfold fsV
  rw [ns fun x hx => by simp only [Bool.and_eq_false_iff, decide_eq_false_iff_not]; exact .inl (by omega)]
theorem pX {cl : List Int} {n s : Nat} (hs : s < n) (hc : 0 ≤ cl.getD s 0 ∧ cl.getD s 0 < n) : (fsL cl n (s + 1)).set (cl.getD s 0).toNat (s : Int) = fsL cl n s := by
  refine List.ext_getElem (by simp [fsL]) fun i h1 h2 => ?_
  have hi : i < n := by simpa [fsL] using h2
  simp only [fsL, List.getElem_set, List.getElem_map, List.getElem_range]
  by_cases e : (cl.getD s 0).toNat = i
  · rw [if_pos e]
    unfold fsV
    rw [nn hs (by simp only [Bool.and_eq_true, decide_eq_true_eq]; exact ⟨Nat.le_refl _, by omega⟩) fun y hy => by simp only [Bool.and_eq_false_iff, decide_eq_false_iff_not]; exact .inl (by omega)]
  · rw [if_neg e]
    unfold fsV
    have : (fun q => decide (s + 1 ≤ q) && decide (cl.getD q 0 = (i : Int))) = (fun q => decide (s ≤ q) && decide (cl.getD q 0 = (i : Int))) := by
      funext q
      by_cases e2 : q = s
      · subst e2
        have : ¬ cl.getD q 0 = (i : Int) := by omega
        rw [decide_eq_false this, Bool.and_false, Bool.and_false]
      · have : decide (s + 1 ≤ q) = decide (s ≤ q) := by rw [decide_eq_decide]; omega
        rw [this]
    rw [this]
def Dfa.rep (d : Dfa) (s : Int) : Int := (fsL d.cls d.nx.length 0).getD (d.cls.getD s.toNat 0).toNat 0
structure RPR (d : Dfa) (s r : Int) : Prop where
  rg : 0 ≤ r ∧ r < d.nx.length
  le : r ≤ s
  cl : d.cls.getD r.toNat 0 = d.cls.getD s.toNat 0
  mi : ∀ q : Nat, (q : Int) < r → d.cls.getD q 0 ≠ d.cls.getD s.toNat 0
theorem oo {d : Dfa} {s : Int} (h0 : 0 ≤ s) (h1 : s < d.nx.length) : RPR d s (d.rep s) := by
  have hr := gg (d := d) (s := s.toNat) (by omega)
  have e : d.rep s = fsV d.cls d.nx.length 0 (d.cls.getD s.toNat 0).toNat := by
    unfold Dfa.rep fsL
    exact lN _ 0 (by omega)
  rw [e]
  unfold fsV
  rw [Int.toNat_of_nonneg hr.1]
  cases hf : (List.range d.nx.length).find? (fun q => decide (0 ≤ q) && decide (d.cls.getD q 0 = d.cls.getD s.toNat 0)) with
  | none =>
    have := List.find?_eq_none.1 hf s.toNat (by simp; omega)
    simp at this
  | some q =>
    rw [List.find?_eq_some_iff_getElem] at hf
    obtain ⟨hp, i, hi, e1, hm⟩ := hf
    simp at hi e1
    subst e1
    have hp2 : d.cls.getD i 0 = d.cls.getD s.toNat 0 := by simpa using hp
    have hm2 : ∀ q : Nat, q < i → d.cls.getD q 0 ≠ d.cls.getD s.toNat 0 := fun q hq => by have := hm q hq; simpa using this
    refine ⟨⟨by show (0 : Int) ≤ (i : Int); omega, by show ((i : Nat) : Int) < _; omega⟩, ?_, by show d.cls.getD ((i : Int)).toNat 0 = _; rw [Int.toNat_natCast]; exact hp2, fun q hq => hm2 q (by have : (q : Int) < (i : Int) := hq; omega)⟩
    show (i : Int) ≤ s
    by_cases hle : (i : Int) ≤ s
    · exact hle
    · exact absurd rfl (hm2 s.toNat (by omega))
def gy (d : Dfa) : STP := fun q x => (d.rep (d.dl q.1 x), 0)
theorem mQ {d : Dfa} (hd : DOK d) {n : Nat} (hn : (n : Int) = d.inp) : ∀ q, inR d.nx.length 1 q → ∀ x, x < n → inR d.nx.length 1 (gy d q x) := fun q hq x hx => by
  have h1 := hd.dl (a := (x : Int)) hq.1 ⟨by omega, by omega⟩
  exact ⟨(oo h1.1 h1.2).rg, by simp [gy], by simp [gy]⟩
theorem o5 {d : Dfa} (h : DOK d) : inR d.nx.length 1 (d.rep d.st, 0) := ⟨(oo h.s1 h.s2).rg, by simp, by simp⟩
def ic (d : Dfa) : List W3 := bP (gy d) d.inp.toNat (d.nx.length * 1) (d.rep d.st, 0)
def kp (d : Dfa) : Dfa := if bf d = 0 then dBn (gy d) (cz d) d.inp.toNat (ic d) else di
theorem pQ {d : Dfa} (h : DOK d) : (ic d).length ≤ d.nx.length := by
  have h1 := h.i1
  have := (dx (mQ h (n := d.inp.toNat) (by omega)) (o5 h)).1.le
  unfold ic; omega
theorem qq {d : Dfa} (h : DOK d) : kp d = dBn (gy d) (cz d) d.inp.toNat (ic d) := if_pos h.valid
end Go.AV
namespace Go.AV
open Nat renaming reduceEqDiff → E, reduceAdd → D, reduceLeDiff → J, reduceLT → S, reduceMul → M, reduceSub → O
open List renaming set_cons_zero → aq, set_cons_succ → ao
/-plain-/
/-! On drepTh. -/
theorem dlQ (d : Dfa) (s : Int) (x : Nat) : d.dl s x = (d.nx.getD s.toNat []).getD x 0 := by unfold Dfa.dl Dfa.row; rw [Int.toNat_natCast]
structure M1OK (d : Dfa) (q : PP) (x : Nat) : Prop where
  r1 : 0 ≤ q.1 ∧ q.1 < d.nx.length
  rl : ((d.nx.getD q.1.toNat []).length : Int) = d.inp
  t1 : 0 ≤ (d.nx.getD q.1.toNat []).getD x 0 ∧ (d.nx.getD q.1.toNat []).getD x 0 < d.nx.length
  c1 : 0 ≤ d.cls.getD ((d.nx.getD q.1.toNat []).getD x 0).toNat 0 ∧ d.cls.getD ((d.nx.getD q.1.toNat []).getD x 0).toNat 0 < d.nx.length
  e : d.rep (d.dl q.1 x) = (fsL d.cls d.nx.length 0).getD (d.cls.getD ((d.nx.getD q.1.toNat []).getD x 0).toNat 0).toNat 0
theorem sd {d : Dfa} (hd : DOK d) {q : PP} {x : Nat} (hq : inR d.nx.length 1 q) (hx : (x : Int) < d.inp) : M1OK d q x := by
  have h1 := hd.dl (a := (x : Int)) hq.1 ⟨by omega, hx⟩
  have h2 := hd.rli hq.1
  have e := dlQ d q.1 x
  refine ⟨hq.1, h2, by rw [← e]; exact h1, ?_, by rw [e]; rfl⟩
  rw [← e]
  exact gg (by omega)
theorem lK {d : Dfa} (hd : DOK d) : dBD (gy d) (cz d) d.inp.toNat (ic d) = kp d ∧ dBE (ic d) = 0 := by
  have h1 := pQ hd
  have h2 := hd.n2
  have h3 : ¬ 128 < (ic d).length := by omega
  exact ⟨(if_neg h3).trans (qq hd).symm, if_neg h3⟩
end Go.AV
namespace Go.AV
open Nat renaming reduceEqDiff → E, reduceAdd → D, reduceLeDiff → J, reduceLT → S, reduceMul → M, reduceSub → O
open List renaming set_cons_zero → aq, set_cons_succ → ao
/-plain-/
/-! On drepTh, dsimTh, minqTh. -/
def dZ (a b : Dfa) (most : Nat) : List W3 := ez (ca a b) a.inp.toNat most (a.nx.length * b.nx.length + 1) 0 [((a.st, b.st), [])]
def RS1 (n : Nat) (p q : PP) : Prop := p.1 = p.2 ∧ q = (p.1, 0) ∧ 0 ≤ p.1 ∧ p.1 < n
theorem rY {d : Dfa} (hd : DOK d) {n : Nat} (hn : (n : Int) = d.inp) : SIM (ca d d) (iM d) n (RS1 d.nx.length) := by
  refine ⟨fun p q h x hx => ?_, fun p q p' q' h h' => ?_⟩
  · obtain ⟨h1, h2, h3, h4⟩ := h
    have := hd.dl (a := (x : Int)) ⟨h3, h4⟩ ⟨by omega, by omega⟩
    exact ⟨by show d.dl p.1 x = d.dl p.2 x; rw [h1], by rw [h2]; rfl, this.1, this.2⟩
  · obtain ⟨h1, h2, _⟩ := h
    obtain ⟨h3, h4, _⟩ := h'
    rw [h2, h4]
    constructor
    · intro e; rw [e]
    · intro e
      have e1 : p.1 = p'.1 := (Prod.mk.inj e).1
      exact Prod.ext e1 (by rw [← h1, ← h3]; exact e1)
theorem ox {d : Dfa} (hd : DOK d) {most : Nat} (hm : 128 ≤ most) : RL (RS1 d.nx.length) (dZ d d most) (cv d) := by
  have h1 := hd.i1; have h2 := hd.n2
  have hin := hF hd (n := d.inp.toNat) (by omega)
  have hR : RS1 d.nx.length (d.st, d.st) (d.st, 0) := ⟨rfl, rfl, hd.s1, hd.s2⟩
  have h3 := RL.prun (most := most) (rY hd (n := d.inp.toNat) (by omega)) (d.nx.length * d.nx.length + 1) 0 _ _ (RL.one hR)
  rw [ka hin (by omega) _ _ _ (ia (gW hd))] at h3
  have h4 : d.nx.length * 1 ≤ d.nx.length * d.nx.length := Nat.mul_le_mul_left _ hd.n1
  rw [jh hin (d.nx.length * d.nx.length + 1) (d.nx.length * 1 + 1) 0 _ (ia (gW hd)) (by omega) (by omega)] at h3
  exact h3
theorem p4 {d : Dfa} (hd : DOK d) : (cv d).length ≤ d.nx.length := by
  have h1 := hd.i1
  have := (dx (hF hd (n := d.inp.toNat) (by omega)) (gW hd)).1.le
  unfold cv; omega
structure SHP (d : Dfa) (P : List W3) (k : Nat) : Prop where
  rg : 0 ≤ (P.getD k w30).1.1 ∧ (P.getD k w30).1.1 < d.nx.length
theorem qV {d : Dfa} (hd : DOK d) {P : List W3} (hR : RL (RS1 d.nx.length) P (cv d)) {k : Nat} (hk : k < P.length) : (0 ≤ (P.getD k w30).1.1 ∧ (P.getD k w30).1.1 < d.nx.length) ∧ cz d ((cv d).getD k w30).1 = d.ac (P.getD k w30).1.1 ∧ ((cv d).getD k w30).2 = (P.getD k w30).2 := by
  obtain ⟨⟨h1, h2, h3, h4⟩, h5⟩ := hR.2 k hk
  exact ⟨⟨h3, h4⟩, by rw [h2]; rfl, h5.symm⟩
end Go.AV
namespace Go.AV
open Nat renaming reduceEqDiff → E, reduceAdd → D, reduceLeDiff → J, reduceLT → S, reduceMul → M, reduceSub → O
open List renaming set_cons_zero → aq, set_cons_succ → ao
/-plain-/
/-! On drcTh, compTh, shapesTh. -/
def iR (m : Mly) : STP := fun q x => (m.nxt q.1 x, m.out q.1 x)
def mn (q : PP) : Bool := decide (q.2 = 1)
def eC (m : Mly) : Bool := m.ot.flatten.any fun o => decide (1 < o)
def o9 (m : Mly) (acc : Bool) : List W3 := bP (iR m) m.inp.toNat (m.nx.length * 2) (m.st, bI1 acc)
def fmE (m : Mly) (acc : Bool) : Int := if ¬ ck m = 0 then ck m else if eC m = true then 1 else dBE (o9 m acc)
def fmD (m : Mly) (acc : Bool) : Dfa := if ¬ ck m = 0 then di else if eC m = true then di else dBD (iR m) mn m.inp.toNat (o9 m acc)
theorem jC : ∀ (xs : List Int) (b : Int), 1 < xs.foldl max b ↔ 1 < b ∨ ∃ o, o ∈ xs ∧ 1 < o
  | [], b => by simp
  | x :: xs, b => by
    rw [List.foldl_cons, jC xs]
    constructor
    · rintro (h | ⟨o, ho, h⟩)
      · by_cases h2 : 1 < b
        · exact .inl h2
        · exact .inr ⟨x, List.mem_cons_self, by omega⟩
      · exact .inr ⟨o, List.mem_cons_of_mem _ ho, h⟩
    · rintro (h | ⟨o, ho, h⟩)
      · exact .inl (by omega)
      · rcases List.mem_cons.1 ho with rfl | ho
        · exact .inl (by omega)
        · exact .inr ⟨o, ho, h⟩
theorem pJ {xs : List Int} (h : 0 < xs.length) : 1 < mxL xs ↔ ∃ o, o ∈ xs ∧ 1 < o := by
  unfold mxL
  rw [jC]
  constructor
  · rintro (h2 | h2)
    · exact ⟨_, fW.2 ⟨0, h, rfl⟩, h2⟩
    · exact h2
  · exact .inr
theorem jU {m : Mly} : eC m = true ↔ ∃ o, o ∈ m.ot.flatten ∧ 1 < o := by unfold eC; rw [List.any_eq_true]; exact ⟨fun ⟨o, h1, h2⟩ => ⟨o, h1, by simpa using h2⟩, fun ⟨o, h1, h2⟩ => ⟨o, h1, by simpa using h2⟩⟩
theorem p9 {m : Mly} (hm : MOK m) : 0 < m.ot.flatten.length := by
  have h := jb hm m.ot.length (Nat.le_refl _)
  rw [List.take_length] at h
  have h1 := hm.i1; have h2 := hm.n1; have h3 := hm.ol
  have : 0 < (m.ot.length : Int) * m.inp := Int.mul_pos (by omega) (by omega)
  omega
theorem oN {xs : List Int} (h : 0 < xs.length) : 0 < (jm xs).length := by
  have : xs.getD 0 0 ∈ jm xs := ((gA xs).2 _).2 (fW.2 ⟨0, h, rfl⟩)
  obtain ⟨j, hj, _⟩ := fW.1 this
  omega
theorem lc {m : Mly} (hv : ck m = 0) : 0 < (iD m).length ∧ (1 < mxL (iD m) ↔ eC m = true) := by
  have hm := lf hv
  rw [jx hv]
  have h := oN (p9 hm)
  refine ⟨h, ?_⟩
  rw [pJ h, jU]
  exact ⟨fun ⟨o, h1, h2⟩ => ⟨o, ((gA _).2 o).1 h1, h2⟩, fun ⟨o, h1, h2⟩ => ⟨o, ((gA _).2 o).2 h1, h2⟩⟩
theorem pK {m : Mly} (hm : MOK m) (hb : ¬ eC m = true) {s a : Int} (hs : 0 ≤ s ∧ s < m.nx.length) (ha : 0 ≤ a ∧ a < m.inp) : 0 ≤ m.out s a ∧ m.out s a < 2 := by
  have h1 := qT hm hs ha
  have h2 := hm.or s.toNat a.toNat (by omega) (by omega)
  have h3 : ¬ 1 < m.out s a := fun h => hb (jU.2 ⟨_, h1, h⟩)
  have h4 : 0 ≤ m.out s a := h2.1
  omega
theorem mE {m : Mly} (hm : MOK m) (hb : ¬ eC m = true) {n : Nat} (hn : (n : Int) = m.inp) : ∀ q, inR m.nx.length 2 q → ∀ x, x < n → inR m.nx.length 2 (iR m q x) := fun q hq x hx => by
  obtain ⟨h1, h2⟩ := id hq.1
  have h3 := hm.nr q.1.toNat x (by omega) (by omega)
  have h4 := pK hm hb hq.1 (a := (x : Int)) ⟨by omega, by omega⟩
  have h5 : m.nxt q.1 x = (m.nx.getD q.1.toNat []).getD x 0 := by unfold Mly.nxt; rw [Int.toNat_natCast]
  exact ⟨by show 0 ≤ m.nxt q.1 x ∧ m.nxt q.1 x < _; rw [h5]; exact h3, h4⟩
theorem nU {m : Mly} (hm : MOK m) (acc : Bool) : inR m.nx.length 2 (m.st, bI1 acc) := ⟨⟨hm.s1, hm.s2⟩, by unfold bI1; cases acc <;> simp, by unfold bI1; cases acc <;> simp⟩
theorem nS {m : Mly} {acc : Bool} (h : ¬ ck m = 0) : fmE m acc = ck m ∧ fmD m acc = di := ⟨if_pos h, if_pos h⟩
theorem nJ {m : Mly} {acc : Bool} (h : ck m = 0) (h2 : eC m = true) : fmE m acc = 1 ∧ fmD m acc = di := by
  unfold fmE fmD; rw [if_neg (fun k => k h), if_pos h2, if_neg (fun k => k h), if_pos h2]; exact ⟨rfl, rfl⟩
theorem lB {m : Mly} {acc : Bool} (h : ck m = 0) (h2 : ¬ eC m = true) : fmE m acc = dBE (o9 m acc) ∧ fmD m acc = dBD (iR m) mn m.inp.toNat (o9 m acc) := by
  unfold fmE fmD; rw [if_neg (fun k => k h), if_neg h2, if_neg (fun k => k h), if_neg h2]; exact ⟨rfl, rfl⟩
end Go.AV
namespace Go.AV
open Nat renaming reduceEqDiff → E, reduceAdd → D, reduceLeDiff → J, reduceLT → S, reduceMul → M, reduceSub → O
open List renaming set_cons_zero → aq, set_cons_succ → ao
/-plain-/
/-! On drepTh. -/
def Dfa.sgP (d : Dfa) (cl : List Int) (s k : Nat) : List Int := cl.getD s 0 :: ((d.nx.getD s []).take k).map fun t => cl.getD t.toNat 0
theorem pc {d : Dfa} {cl : List Int} {s k : Nat} (h : k < (d.nx.getD s []).length) : d.sgP cl s (k + 1) = d.sgP cl s k ++ [cl.getD ((d.nx.getD s []).getD k 0).toNat 0] := by
  unfold Dfa.sgP; rw [df _ 0 h]; rfl
theorem qB (d : Dfa) (cl : List Int) (s : Nat) : d.sgP cl s (d.nx.getD s []).length = d.sg cl s := by unfold Dfa.sgP Dfa.sg; rw [List.take_length]
theorem qu {d : Dfa} {cl : List Int} {s k : Nat} (h : k ≤ (d.nx.getD s []).length) : (d.sgP cl s k).length = k + 1 := by unfold Dfa.sgP; rw [List.length_cons, List.length_map, List.length_take]; omega
theorem qA {α : Type} [DecidableEq α] {dv q : α} : ∀ {l : List α} {k : Nat}, (∀ j, j < k → l.getD j dv ≠ q) → k < l.length → l.getD k dv = q → pos l q = k ∧ q ∈ l
  | [], k, _, hk, _ => by simp at hk
  | x :: l, 0, _, _, h => by
    have : x = q := by simpa using h
    subst this; simp [pos]
  | x :: l, k + 1, hq, hk, h => by
    have h0 : x ≠ q := by have := hq 0 (by omega); simpa using this
    have ih := qA (l := l) (k := k) (dv := dv) (q := q) (fun j hj => by have := hq (j + 1) (by omega); simpa using this) (by simpa using hk) (by simpa using h)
    exact ⟨by simp [pos, h0, ih.1], by simp [ih.2]⟩
theorem lH {α : Type} [DecidableEq α] {dv q : α} {l : List α} (hq : ∀ j, j < l.length → l.getD j dv ≠ q) : q ∉ l := fun h => by
  obtain ⟨j, hj⟩ := List.getElem?_of_mem h
  exact hq j (List.getElem?_eq_some_iff.1 hj).1 (by rw [List.getD, hj]; rfl)
def ixL (xs : List (List Int)) (x : List Int) : Int := if x ∈ xs then (pos xs x : Int) else -1
theorem hO {xs : List (List Int)} {x : List Int} (h : x ∈ xs) : ixL xs x = (pos xs x : Int) := if_pos h
theorem kd {xs : List (List Int)} {x : List Int} (h : x ∉ xs) : ixL xs x = -1 := if_neg h
theorem mA {xs : List (List Int)} {x : List Int} : ixL xs x < 0 ↔ x ∉ xs := by
  constructor
  · intro h hm; rw [hO hm] at h; omega
  · intro h; rw [kd h]; omega
theorem kR {α : Type} [DecidableEq α] {f : Nat → α} {k n : Nat} (hk : k < n) (h : f k ∈ cB f k) : pos (cB f n) (f k) = pos (cB f k) (f k) := by
  rw [iA f (i := k) (k := k + 1) (by omega) n (by omega), cU, eE h]
theorem kC {α : Type} [DecidableEq α] {f : Nat → α} {k n : Nat} (hk : k < n) (h : f k ∉ cB f k) : pos (cB f n) (f k) = (cB f k).length := by
  rw [iA f (i := k) (k := k + 1) (by omega) n (by omega), cU, dK h, kI h]
def nxF (d : Dfa) (cl : List Int) (s : Nat) : Int := (pos (cB (d.sg cl) d.nx.length) (d.sg cl s) : Int)
end Go.AV
namespace Go.AV
open Nat renaming reduceEqDiff → E, reduceAdd → D, reduceLeDiff → J, reduceLT → S, reduceMul → M, reduceSub → O
open List renaming set_cons_zero → aq, set_cons_succ → ao
/-plain-/
/-! On drepTh, sigTh, dfmTh. -/
def lq (P : Nat → Bool) (s : Nat) : Nat := ((List.range s).find? P).getD s
def rc0 (t : Dfa) (s : Nat) : Int := (lq (fun q => decide (t.acc.getD q false = t.acc.getD s false)) s : Int)
def rcF (t : Dfa) (cl : List Int) (s : Nat) : Int := (lq (fun q => decide (t.sg cl q = t.sg cl s)) s : Int)
def rcl (t : Dfa) : Nat → List Int
  | 0 => (List.range t.nx.length).map (rc0 t)
  | r + 1 => (List.range t.nx.length).map (rcF t (rcl t r))
def rC (t : Dfa) : List Int := rcl t t.nx.length
structure RCK (t : Dfa) : Prop where
  rg : ∀ s, s < t.nx.length → 0 ≤ (rC t).getD s 0 ∧ (rC t).getD s 0 ≤ s
  eq : ∀ s u, s < t.nx.length → u < t.nx.length → ((rC t).getD s 0 = (rC t).getD u 0 ↔ DEQ t t s u)
  id : ∀ s, s < t.nx.length → (rC t).getD ((rC t).getD s 0).toNat 0 = (rC t).getD s 0
/-! The states that name a class, and their numbers. -/
end Go.AV
namespace Go.AV
open Nat renaming reduceEqDiff → E, reduceAdd → D, reduceLeDiff → J, reduceLT → S, reduceMul → M, reduceSub → O
open List renaming set_cons_zero → aq, set_cons_succ → ao
/-plain-/
/-! On drmTh: the reference's Min is the program's. -/
/-! Two minimal automata. -/
end Go.AV
namespace Go.AV
open Nat renaming reduceEqDiff → E, reduceAdd → D, reduceLeDiff → J, reduceLT → S, reduceMul → M, reduceSub → O
open List renaming set_cons_zero → aq, set_cons_succ → ao
/-plain-/
/-! On drmTh, dmeqTh. -/
def dEv : Dfa := ⟨2, 0, [[0, 1], [1, 0]], [true, false]⟩
end Go.AV
namespace Go.Proofs.Ytdkgcbhbpdbmnaa
open Go Go.AV
open Nat renaming reduceEqDiff → E, reduceAdd → D, reduceLeDiff → J, reduceLT → S, reduceMul → M, reduceSub → O
open List renaming set_cons_zero → aq, set_cons_succ → ao
set_option maxRecDepth 100000 in
theorem qC  : bB Try.prog 39 [] ((Dfa.mk 2 0 [[0, 1], [1, 0]] [true, false]).av) := by
 refine aQ Try.func39 rfl (by kernel_rfl) (Nat.le_of_ble_eq_true rfl) rfl fun C hP hN hB => ?_
 replace hN : C.N = 6 := hN
 simp only [Y, D]
 refine ab fun K1 hK1 => ?_
 refine ah hP hN rfl ?_
 (refine aa rfl fun K0 V => ?_; simp only [zE, op1, ev, lkp, ag, af, bE, reduceCtorEq, E, D, J, S, M, O, Try.st25, Try.td25, Dfa.av]; (repeat refine And.intro (by first | omega | assumption | exact rfl) ?_); (first | refine V _ ?_ | refine Or.inl (V _ ?_)); clear V K0; simp only [put, app, Z, ae, zE, zS, D])
 refine ai ?_
 refine hK1 _ ?_; clear hK1; refine ad [0] ?_; simp only [U, lkp, zE, reduceCtorEq, E, Y, D]
 refine ab fun K2 hK2 => ?_
 refine ah hP hN rfl ?_
 iterate 6 (refine aa rfl fun K0 V => ?_; simp only [zE, op1, ev, lkp, ag, af, ba, aY, bS, rep, aK, aN, ak, Ty.size, bJ, be, Nat.mul_one, acs, Ty.dflt, zG, reduceCtorEq, E, D, J, S, M, O, Try.el22, Try.el23, Try.el26, Try.st25, Try.td2, Try.td22, Try.td23, Try.td25, Try.td26, Dfa.av]; (repeat refine And.intro (by first | omega | assumption | exact rfl) ?_); (first | refine V _ ?_ | refine Or.inl (V _ ?_)); clear V K0; simp only [put, app, Z, ae, zE, zS, D])
 refine ai ?_
 refine hK2 _ ?_; clear hK2; refine ad [0] ?_; simp only [U, lkp, zE, reduceCtorEq, E, Y, D]
 refine aF ?_
 refine ⟨by first | exact .inl rfl | exact .inr rfl, _, rfl, ?_⟩; simp only [fzV, fz1, fzC, List.map_cons, List.map_nil, U, lkp, zE, reduceCtorEq, E, Y, D, Dfa.av]
 refine VLE.of_eq ?_
 rfl
end Go.Proofs.Ytdkgcbhbpdbmnaa
namespace Go.Proofs.Ytdkgcbhbpdbmnaa
open Go Go.AV
open Nat renaming reduceEqDiff → E, reduceAdd → D, reduceLeDiff → J, reduceLT → S, reduceMul → M, reduceSub → O
open List renaming set_cons_zero → aq, set_cons_succ → ao
theorem oK : bB Try.prog 39 [] dEv.av := qC

end Go.Proofs.Ytdkgcbhbpdbmnaa
namespace Go.Proofs.Ytdkgcbhbpdbmnaa
open Go Go.AV
open Nat renaming reduceEqDiff → E, reduceAdd → D, reduceLeDiff → J, reduceLT → S, reduceMul → M, reduceSub → O
open List renaming set_cons_zero → aq, set_cons_succ → ao
set_option maxRecDepth 100000 in
theorem nY (m : Mly) (q : PP) (x : Nat) (hm : MOK m) (hq : inR m.nx.length 2 q) (hx : (x : Int) < m.inp) : bB Try.prog 71 [.agg [.int .i64 q.1, .int .i64 q.2], .one (.int .i64 (x : Int)), .one (.pat (.pair (.int .i64) (.pair (.int .i64) (.pair (.list (.list (.int .i64))) (.pair (.list (.list (.int .i64))) .unit)))) (m.inp, (m.st, (m.nx, (m.ot, ())))) 0)] (.agg [.int .i64 (iR m q x).1, .int .i64 (iR m q x).2]) := by
 obtain ⟨⟨hq1, hq2⟩, hq3⟩ := id hq; have hmo := hm.ol; have hmi := hm.i2; have h1 := hm.rl q.1.toNat (by omega); have h2 := hm.ql q.1.toNat (by omega)
 refine aQ Try.func71 rfl (by kernel_rfl) (Nat.le_of_ble_eq_true rfl) rfl fun C hP hN hB => ?_
 replace hN : C.N = 25 := hN
 simp only [Y, D]
 refine ab fun K1 hK1 => ?_
 refine ah hP hN rfl ?_
 iterate 2 (refine aa rfl fun K0 V => ?_; simp only [zE, op1, ev, lkp, ag, af, bV, ak, bE, reduceCtorEq, E, D, J, S, M, O, Try.ea81, Try.sa81, Try.td81]; (repeat refine And.intro (by first | omega | assumption | exact rfl) ?_); (first | refine V _ ?_ | refine Or.inl (V _ ?_)); clear V K0; simp only [put, app, Z, ae, zE, zS, D])
 refine ai ?_
 refine hK1 _ ?_; clear hK1; refine ad [0, 1, 2, 3, 5] ?_; simp only [U, lkp, zE, reduceCtorEq, E, Y, D]
 refine ab fun K2 hK2 => ?_
 refine bQ hP hN Try.mixed rfl ?_
 iterate 20 (refine aa rfl fun K0 V => ?_; simp only [zE, op1, ev, lkp, ag, af, aw, ay, Nat.mul_one, au, ax, acs, Ty.dflt, zG, am, aH, Ty.size, ne_eq, not_false_eq_true, Int.natCast_one, Int.mul_one, bJ, aY, aN, ak, be, aK, reduceCtorEq, E, D, J, S, M, O, Try.ea81, Try.el22, Try.el26, Try.sa81, Try.st58, Try.td2, Try.td22, Try.td26, Try.td3, Try.td58, Try.td81]; (repeat refine And.intro (by first | omega | assumption | exact rfl) ?_); (first | refine V _ ?_ | refine Or.inl (V _ ?_)); clear V K0; simp only [put, app, Z, ae, zE, zS, D])
 refine ai ?_
 refine ⟨by kernel_rfl, ?_⟩
 refine hK2 _ ?_; clear hK2; refine ad [0, 1, 2, 3, 5] ?_; simp only [U, lkp, zE, reduceCtorEq, E, Y, D]
 refine aF ?_
 refine ⟨by first | exact .inl rfl | exact .inr rfl, _, rfl, ?_⟩; simp only [fzV, fz1, fzC, List.map_cons, List.map_nil, U, lkp, zE, reduceCtorEq, E, Y, D]
 refine VLE.of_eq ?_
 rfl
end Go.Proofs.Ytdkgcbhbpdbmnaa
namespace Go.Proofs.Ytdkgcbhbpdbmnaa
open Go Go.AV
open Nat renaming reduceEqDiff → E, reduceAdd → D, reduceLeDiff → J, reduceLT → S, reduceMul → M, reduceSub → O
open List renaming set_cons_zero → aq, set_cons_succ → ao
set_option maxRecDepth 100000 in
theorem oh (q : PP) : bB Try.prog 72 [.agg [.int .i64 q.1, .int .i64 q.2]] (.one (.bool (mn q))) := by
 refine aQ Try.func72 rfl (by kernel_rfl) (Nat.le_of_ble_eq_true rfl) rfl fun C hP hN hB => ?_
 replace hN : C.N = 6 := hN
 simp only [Y, D]
 refine ab fun K1 hK1 => ?_
 refine ah hP hN rfl ?_
 iterate 2 (refine aa rfl fun K0 V => ?_; simp only [zE, op1, ev, lkp, ag, af, bV, ak, reduceCtorEq, E, D, J, S, M, O, Try.ea81, Try.sa81, Try.td4, Try.td81]; (repeat refine And.intro (by first | omega | assumption | exact rfl) ?_); refine V _ ?_; clear V K0; simp only [put, app, Z, ae, zE, zS, D])
 refine ai ?_
 refine hK1 _ ?_; clear hK1; refine ad [0, 1, 2] ?_; simp only [U, lkp, zE, reduceCtorEq, E, Y, D]
 refine ab fun K2 hK2 => ?_
 refine ah hP hN rfl ?_
 iterate 4 (refine aa rfl fun K0 V => ?_; simp only [zE, op1, ev, lkp, ag, af, aH, zG, Ty.dflt, Ty.size, Nat.mul_one, ne_eq, not_false_eq_true, Int.natCast_one, Int.mul_one, ay, au, ax, acs, am, aC, aE, aD, ar, aA, aP, reduceCtorEq, E, D, J, S, M, O, Try.ea81, Try.sa81, Try.td3, Try.td4, Try.td81]; (repeat refine And.intro (by first | omega | assumption | exact rfl) ?_); refine V _ ?_; clear V K0; simp only [put, app, Z, ae, zE, zS, D])
 refine ai ?_
 refine hK2 _ ?_; clear hK2; refine ad [0, 1, 2] ?_; simp only [U, lkp, zE, reduceCtorEq, E, Y, D]
 refine aF ?_
 refine ⟨by first | exact .inl rfl | exact .inr rfl, _, rfl, ?_⟩; simp only [fzV, fz1, fzC, List.map_cons, List.map_nil, U, lkp, zE, reduceCtorEq, E, Y, D]
 refine VLE.of_eq ?_
 rfl
end Go.Proofs.Ytdkgcbhbpdbmnaa
namespace Go.Proofs.Ytdkgcbhbpdbmnaa
open Go Go.AV
open Nat renaming reduceEqDiff → E, reduceAdd → D, reduceLeDiff → J, reduceLT → S, reduceMul → M, reduceSub → O
open List renaming set_cons_zero → aq, set_cons_succ → ao
set_option maxRecDepth 100000 in
theorem rD (xs : List Int) (h0 : 0 < xs.length) : bB Try.prog 69 [.one (.list (.int .i64) xs)] (.one (.int .i64 (mxL xs))) := by
 refine aQ Try.func69 rfl (by kernel_rfl) (Nat.le_of_ble_eq_true rfl) rfl fun C hP hN hB => ?_
 replace hN : C.N = 25 := hN
 simp only [Y, D]
 refine dS 0 rfl fun hf0 => ?_; simp only [lkp, if_true, if_false, reduceCtorEq, E, eq_self, Nat.one_ne_zero, Nat.zero_ne_one, gr, fR, fN, Fit, and_true, implies_true, true_and] at hf0
 refine ab fun K1 hK1 => ?_
 refine ah hP hN rfl ?_
 (refine aa rfl fun K0 V => ?_; simp only [zE, op1, ev, lkp, ag, af, ev, reduceCtorEq, E, D, J, S, M, O, Try.td3]; refine V _ ?_; clear V K0; simp only [put, app, Z, ae, zE, zS, D])
 refine ai ?_
 refine hK1 _ ?_; clear hK1; refine ad [0, 2] ?_; simp only [U, lkp, zE, reduceCtorEq, E, Y, D]
 refine ab fun K2 hK2 => ?_
 refine ab fun K3 hK3 => ?_
 refine ah hP hN rfl ?_
 iterate 3 (refine aa rfl fun K0 V => ?_; simp only [zE, op1, ev, lkp, ag, af, aG, bo, bc, aX, aZ, bl, Nat.div_one, aO, b0, Ty.size, aK, dite_true, aC, aE, aD, ar, aA, aP, reduceCtorEq, E, D, J, S, M, O, Try.el26, Try.td26, Try.td3, Try.td4]; (repeat refine And.intro (by first | omega | assumption | exact rfl) ?_); (first | refine V _ ?_ | refine Or.inl (V _ ?_)); clear V K0; simp only [put, app, Z, ae, zE, zS, D])
 refine ai ?_
 refine hK3 _ ?_; clear hK3; refine ad [0, 2, 7] ?_; simp only [U, lkp, zE, reduceCtorEq, E, Y, D]
 refine aB (by simp only [ev, U, lkp, zE, reduceCtorEq, E, Y, D]; exact rfl) (fun hc4 => ?_) (fun hc4 => ?_)
 · exfalso; (try simp only [zB, reduceCtorEq] at hc4); all_goals (first | (cases hc4; done) | omega | (simp at hc4; done) | (simp_all; done))
 ·(try simp only [zB, reduceCtorEq] at hc4)
  refine aJ ?_
  refine hK2 _ ?_; clear hK2; refine ad [0, 2, 7] ?_; simp only [U, lkp, zE, reduceCtorEq, E, Y, D]
  refine ab fun K5 hK5 => ?_
  refine ah hP hN rfl ?_
  iterate 4 (refine aa rfl fun K0 V => ?_; simp only [zE, op1, ev, lkp, ag, af, aH, zG, Ty.dflt, Ty.size, Nat.mul_one, ne_eq, not_false_eq_true, Int.natCast_one, Int.mul_one, ay, au, ax, acs, am, reduceCtorEq, E, D, J, S, M, O, Try.el26, Try.td26, Try.td3]; (repeat refine And.intro (by first | omega | assumption | exact rfl) ?_); refine V _ ?_; clear V K0; simp only [put, app, Z, ae, zE, zS, D])
  refine ai ?_
  refine hK5 _ ?_; clear hK5; refine ad [0, 2, 3, 7] ?_; simp only [U, lkp, zE, reduceCtorEq, E, Y, D]
  refine ab fun K6 hK6 => ?_
  refine ab fun K7 hK7 => ?_
  refine ah hP hN rfl ?_
  (refine aa rfl fun K0 V => ?_; simp only [zE, op1, ev, lkp, ag, af, ev, reduceCtorEq, E, D, J, S, M, O, Try.td3]; refine V _ ?_; clear V K0; simp only [put, app, Z, ae, zE, zS, D])
  refine ai ?_
  refine hK7 _ ?_; clear hK7; refine ad [0, 2, 3, 4, 7] ?_; simp only [U, lkp, zE, reduceCtorEq, E, Y, D]
  refine aM ?_
  refine bp (fun n8 s8 => ∃ (k : Nat), (1 ≤ k) ∧ (k ≤ xs.length) ∧ n8 = xs.length - k ∧ s8 = { env := [(0, .one (.list (.int .i64) xs)), (3, .one (.int .i64 ((xs.take k).foldl max (xs.getD 0 0)))), (4, .one (.int .i64 (k : Int)))], L := [] }) ?_ ?_
  ·refine ⟨_, _, aL [0, 3, 4], 1, Nat.le_refl _, h0, rfl, ?_⟩
   rw [rm h0]; rfl
  ·rintro n8 s8 ⟨k, hk1, hk, rfl, rfl⟩
   refine ab fun K9 hK9 => ?_
   refine ab fun K10 hK10 => ?_
   refine ah hP hN rfl ?_
   iterate 4 (refine aa rfl fun K0 V => ?_; simp only [zE, op1, ev, lkp, ag, af, aG, bo, bc, aX, aZ, bl, Nat.div_one, aO, b0, Ty.size, aK, dite_true, aC, aE, aD, ar, aA, aP, reduceCtorEq, E, D, J, S, M, O, Try.el26, Try.td26, Try.td3, Try.td4]; (repeat refine And.intro (by first | omega | assumption | exact rfl) ?_); (first | refine V _ ?_ | refine Or.inl (V _ ?_)); clear V K0; simp only [put, app, Z, ae, zE, zS, D])
   refine ai ?_
   refine hK10 _ ?_; clear hK10; refine ad [0, 3, 4, 15] ?_; simp only [U, lkp, zE, reduceCtorEq, E, Y, D]
   refine aB (by simp only [ev, U, lkp, zE, reduceCtorEq, E, Y, D]; exact rfl) (fun hc11 => ?_) (fun hc11 => ?_)
   ·(try simp only [zB, reduceCtorEq] at hc11)
    refine aJ ?_
    refine hK9 _ ?_; clear hK9; refine ad [0, 3, 4, 15] ?_; simp only [U, lkp, zE, reduceCtorEq, E, Y, D]
    refine ab fun K12 hK12 => ?_
    refine aM ?_
    refine ah hP hN rfl ?_
    iterate 7 (refine aa rfl fun K0 V => ?_; simp only [zE, op1, ev, lkp, ag, af, aH, zG, Ty.dflt, Ty.size, Nat.mul_one, ne_eq, not_false_eq_true, Int.natCast_one, Int.mul_one, ay, au, ax, acs, am, aG, bo, bc, aX, aZ, bl, Nat.div_one, aO, b0, aK, dite_true, reduceCtorEq, E, D, J, S, M, O, Try.el26, Try.td26, Try.td3]; (repeat refine And.intro (by first | omega | assumption | exact rfl) ?_); (first | refine V _ ?_ | refine Or.inl (V _ ?_)); clear V K0; simp only [put, app, Z, ae, zE, zS, D])
    refine ai ?_
    refine hK12 _ ?_; clear hK12; refine ad [0, 3, 4, 15] ?_; simp only [U, lkp, zE, reduceCtorEq, E, Y, D]
    refine ah hP hN rfl ?_
    iterate 3 (refine aa rfl fun K0 V => ?_; simp only [zE, op1, ev, lkp, ag, af, aC, aE, aD, ar, aA, aP, reduceCtorEq, E, D, J, S, M, O, Try.td3]; (repeat refine And.intro (by first | omega | assumption | exact rfl) ?_); refine V _ ?_; clear V K0; simp only [put, app, Z, ae, zE, zS, D])
    refine ai ?_
    refine ⟨_, _, ?_, aL [0, 3, 4], k + 1, by omega, by omega, rfl, ?_⟩
    · omega
    · rw [la (by omega), List.foldl_append]; rfl
   ·(try simp only [zB, reduceCtorEq] at hc11)
    refine bm ?_
    refine hK6 _ ?_; clear hK6; refine ad [0, 3, 4, 15] ?_; simp only [U, lkp, zE, reduceCtorEq, E, Y, D]
    refine ab fun K13 hK13 => ?_
    refine ah hP hN rfl ?_
    iterate 2 (refine aa rfl fun K0 V => ?_; simp only [zE, op1, ev, lkp, ag, af, ev, reduceCtorEq, E, D, J, S, M, O, Try.td3]; refine V _ ?_; clear V K0; simp only [put, app, Z, ae, zE, zS, D])
    refine ai ?_
    refine hK13 _ ?_; clear hK13; refine ad [0, 2, 3, 4, 15] ?_; simp only [U, lkp, zE, reduceCtorEq, E, Y, D]
    refine aF ?_
    refine ⟨by first | exact .inl rfl | exact .inr rfl, _, rfl, ?_⟩; simp only [fzV, fz1, fzC, List.map_cons, List.map_nil, U, lkp, zE, reduceCtorEq, E, Y, D]
    refine VLE.of_eq ?_
    refine congrArg (fun n => AV.one (AC.int IntKind.i64 n)) ?_
    rw [show k = xs.length by omega, List.take_length]; rfl
end Go.Proofs.Ytdkgcbhbpdbmnaa
namespace Go.Proofs.Ytdkgcbhbpdbmnaa
open Go Go.AV
open Nat renaming reduceEqDiff → E, reduceAdd → D, reduceLeDiff → J, reduceLT → S, reduceMul → M, reduceSub → O
open List renaming set_cons_zero → aq, set_cons_succ → ao
open Go.Shelf in
def Try.laysNm220_ren : Go.Shelf.Ren := ⟨fun | 20 => 84 | n => n, fun | 22 => 26 | 3 => 3 | 4 => 4 | 0 => 0 | n => n, fun | n => n⟩
theorem Try.laysNm220 : Go.Proofs.Lays2.n20 Try.prog Try.laysNm220_ren := {
  mixed := by kernel_rfl,
  f20 := Try.func84.trans (congrArg some (by kernel_rfl)),
  t0 := Try.underlying0,
  a0 := Try.isAgg0,
  z0 := Try.sizeOf0,
  v0 := Try.zeroValue0,
  t3 := Try.underlying3,
  a3 := Try.isAgg3,
  z3 := Try.sizeOf3,
  v3 := Try.zeroValue3,
  t4 := Try.underlying4,
  a4 := Try.isAgg4,
  z4 := Try.sizeOf4,
  v4 := Try.zeroValue4,
  t22 := Try.underlying26,
  a22 := Try.isAgg26,
  z22 := Try.sizeOf26,
  v22 := Try.zeroValue26,
  i3 := by kernel_rfl }
theorem mD : kJ Try.prog 84 := ⟨⟨Try.f84, Try.func84, by kernel_rfl, by kernel_rfl⟩, fun blk off cap zs w hH hb hz => Any.slices_Compact_int Try.laysNm220 blk off cap zs w hH hb hz⟩
end Go.Proofs.Ytdkgcbhbpdbmnaa
namespace Go.Proofs.Ytdkgcbhbpdbmnaa
open Go Go.AV
open Nat renaming reduceEqDiff → E, reduceAdd → D, reduceLeDiff → J, reduceLT → S, reduceMul → M, reduceSub → O
open List renaming set_cons_zero → aq, set_cons_succ → ao
open Go.Shelf in
def Try.lays189_ren : Go.Shelf.Ren := ⟨fun | 189 => 83 | 125 => 94 | 257 => 93 | 128 => 105 | 129 => 106 | 294 => 96 | 295 => 97 | 296 => 98 | 297 => 99 | 298 => 100 | 299 => 101 | 216 => 102 | 300 => 103 | 301 => 104 | 328 => 107 | 329 => 108 | 330 => 109 | 331 => 110 | 332 => 111 | 215 => 112 | 343 => 113 | n => n, fun | 28 => 26 | 3 => 3 | 46 => 124 | 0 => 0 | 51 => 135 | 53 => 137 | 4 => 4 | 183 => 128 | 182 => 127 | 131 => 111 | 5 => 5 | 9 => 9 | 218 => 138 | 222 => 142 | 228 => 144 | 229 => 54 | n => n, fun | n => n⟩
theorem Try.lays189 : Go.Proofs.Lays.n189 Try.prog Try.lays189_ren := {
  mixed := by kernel_rfl,
  f125 := Try.func94.trans (congrArg some (by kernel_rfl)),
  f128 := Try.func105.trans (congrArg some (by kernel_rfl)),
  f129 := Try.func106.trans (congrArg some (by kernel_rfl)),
  f189 := Try.func83.trans (congrArg some (by kernel_rfl)),
  f215 := Try.func112.trans (congrArg some (by kernel_rfl)),
  f216 := Try.func102.trans (congrArg some (by kernel_rfl)),
  f257 := Try.func93.trans (congrArg some (by kernel_rfl)),
  f294 := Try.func96.trans (congrArg some (by kernel_rfl)),
  f295 := Try.func97.trans (congrArg some (by kernel_rfl)),
  f296 := Try.func98.trans (congrArg some (by kernel_rfl)),
  f297 := Try.func99.trans (congrArg some (by kernel_rfl)),
  f298 := Try.func100.trans (congrArg some (by kernel_rfl)),
  f299 := Try.func101.trans (congrArg some (by kernel_rfl)),
  f300 := Try.func103.trans (congrArg some (by kernel_rfl)),
  f301 := Try.func104.trans (congrArg some (by kernel_rfl)),
  f328 := Try.func107.trans (congrArg some (by kernel_rfl)),
  f329 := Try.func108.trans (congrArg some (by kernel_rfl)),
  f330 := Try.func109.trans (congrArg some (by kernel_rfl)),
  f331 := Try.func110.trans (congrArg some (by kernel_rfl)),
  f332 := Try.func111.trans (congrArg some (by kernel_rfl)),
  f343 := Try.func113.trans (congrArg some (by kernel_rfl)),
  t0 := Try.underlying0,
  a0 := Try.isAgg0,
  z0 := Try.sizeOf0,
  v0 := Try.zeroValue0,
  t3 := Try.underlying3,
  a3 := Try.isAgg3,
  z3 := Try.sizeOf3,
  v3 := Try.zeroValue3,
  t4 := Try.underlying4,
  a4 := Try.isAgg4,
  z4 := Try.sizeOf4,
  v4 := Try.zeroValue4,
  t5 := Try.underlying5,
  a5 := Try.isAgg5,
  z5 := Try.sizeOf5,
  v5 := Try.zeroValue5,
  t9 := Try.underlying9,
  a9 := Try.isAgg9,
  z9 := Try.sizeOf9,
  v9 := Try.zeroValue9,
  t28 := Try.underlying26,
  a28 := Try.isAgg26,
  z28 := Try.sizeOf26,
  v28 := Try.zeroValue26,
  t46 := Try.underlying124,
  a46 := Try.isAgg124,
  z46 := Try.sizeOf124,
  v46 := Try.zeroValue124,
  t51 := Try.underlying135,
  a51 := Try.isAgg135,
  z51 := Try.sizeOf135,
  v51 := Try.zeroValue135,
  t53 := Try.underlying137,
  a53 := Try.isAgg137,
  z53 := Try.sizeOf137,
  v53 := Try.zeroValue137,
  t131 := Try.underlying111,
  a131 := Try.isAgg111,
  z131 := Try.sizeOf111,
  v131 := Try.zeroValue111,
  t182 := Try.underlying127,
  a182 := Try.isAgg127,
  z182 := Try.sizeOf127,
  v182 := Try.zeroValue127,
  t183 := Try.underlying128,
  a183 := Try.isAgg128,
  z183 := Try.sizeOf128,
  v183 := Try.zeroValue128,
  t218 := Try.underlying138,
  a218 := Try.isAgg138,
  z218 := Try.sizeOf138,
  v218 := Try.zeroValue138,
  t222 := Try.underlying142,
  a222 := Try.isAgg142,
  z222 := Try.sizeOf142,
  v222 := Try.zeroValue142,
  t228 := Try.underlying144,
  a228 := Try.isAgg144,
  z228 := Try.sizeOf144,
  v228 := Try.zeroValue144,
  t229 := Try.underlying54,
  a229 := Try.isAgg54,
  z229 := Try.sizeOf54,
  v229 := Try.zeroValue54 }
theorem pv : pN Try.prog 83 := ⟨⟨Try.f83, Try.func83, by kernel_rfl, by kernel_rfl⟩, fun blk off cap zs w hH hb hz => Any.slices_Sort_int Try.lays189 blk off cap zs w hH hb hz⟩
end Go.Proofs.Ytdkgcbhbpdbmnaa
namespace Go.Proofs.Ytdkgcbhbpdbmnaa
open Go Go.AV
open Nat renaming reduceEqDiff → E, reduceAdd → D, reduceLeDiff → J, reduceLT → S, reduceMul → M, reduceSub → O
open List renaming set_cons_zero → aq, set_cons_succ → ao
set_option maxRecDepth 100000 in
theorem mP (m : Mly) : bB Try.prog 68 [m.av] (.one (.int .i64 (ck m))) := by
 refine aQ Try.func68 rfl (by kernel_rfl) (Nat.le_of_ble_eq_true rfl) rfl fun C hP hN hB => ?_
 replace hN : C.N = 104 := hN
 simp only [Y, D]
 refine ab fun K1 hK1 => ?_
 refine ah hP hN rfl ?_
 iterate 2 (refine aa rfl fun K0 V => ?_; simp only [zE, op1, ev, lkp, ag, af, bV, ak, reduceCtorEq, E, D, J, S, M, O, Try.st58, Try.td29, Try.td58, Mly.av]; (repeat refine And.intro (by first | omega | assumption | exact rfl) ?_); refine V _ ?_; clear V K0; simp only [put, app, Z, ae, zE, zS, D])
 refine ai ?_
 refine hK1 _ ?_; clear hK1; refine ad [0, 1, 2] ?_; simp only [U, lkp, zE, reduceCtorEq, E, Y, D]
 refine ab fun K2 hK2 => ?_
 refine ah hP hN rfl ?_
 iterate 4 (refine aa rfl fun K0 V => ?_; simp only [zE, op1, ev, lkp, ag, af, aw, ay, Nat.mul_one, au, ax, acs, Ty.dflt, zG, am, aG, bo, bc, aX, aZ, bl, Nat.div_one, aO, b0, Ty.size, aK, dite_true, reduceCtorEq, E, D, J, S, M, O, Try.el22, Try.st58, Try.td2, Try.td22, Try.td3, Try.td58, Mly.av]; (repeat refine And.intro (by first | omega | assumption | exact rfl) ?_); (first | refine V _ ?_ | refine Or.inl (V _ ?_)); clear V K0; simp only [put, app, Z, ae, zE, zS, D])
 refine ai ?_
 refine hK2 _ ?_; clear hK2; refine ad [0, 1, 2, 3] ?_; simp only [U, lkp, zE, reduceCtorEq, E, Y, D]
 refine ab fun K3 hK3 => ?_
 refine aM ?_
 refine ab fun K4 hK4 => ?_
 refine ah hP hN rfl ?_
 iterate 3 (refine aa rfl fun K0 V => ?_; simp only [zE, op1, ev, lkp, ag, af, aw, ay, Nat.mul_one, au, ax, acs, Ty.dflt, zG, am, aC, aE, aD, ar, aA, aP, reduceCtorEq, E, D, J, S, M, O, Try.st58, Try.td3, Try.td4, Try.td58, Mly.av]; (repeat refine And.intro (by first | omega | assumption | exact rfl) ?_); refine V _ ?_; clear V K0; simp only [put, app, Z, ae, zE, zS, D])
 (refine aa rfl fun K0 V => ?_; simp only [zE, op1, ev, lkp, ag, af, ev, reduceCtorEq, E, D, J, S, M, O, Try.td4, Mly.av]; refine V _ ?_; clear V K0; simp only [put, app, Z, ae, zE, zS, D])
 refine' aU (want := false) 3 rfl (m := 15) (by simp only [U, lkp, zE, reduceCtorEq, E, Y, D]; exact rfl) (by kernel_rfl) rfl rfl rfl rfl rfl (fun hg5 => ?a5) ?b5 ?c5
 case a5 =>
  have hq5 := hg5; (try simp only [zB, reduceCtorEq] at hg5); simp only [List.take_succ_cons, List.take_zero, List.cons_append, List.nil_append]
  (refine aI rfl fun K0 V => ?_; simp only [zE, op1, ev, lkp, ag, af, aw, reduceCtorEq, E, D, J, S, M, O, Try.st58, Try.td58, Mly.av]; (repeat refine And.intro (by first | omega | assumption | exact rfl) ?_); refine V _ ?_; clear V K0; simp only [put, app, Z, ae, zE, zS, D])
  (refine aI rfl fun K0 V => ?_; simp only [zE, op1, ev, lkp, ag, af, ay, Nat.mul_one, au, ax, acs, Ty.dflt, zG, am, reduceCtorEq, E, D, J, S, M, O, Try.td3, Mly.av]; (repeat refine And.intro (by first | omega | assumption | exact rfl) ?_); refine V _ ?_; clear V K0; simp only [put, app, Z, ae, zE, zS, D])
  (refine aI rfl fun K0 V => ?_; simp only [zE, op1, ev, lkp, ag, af, aC, aE, aD, ar, aA, aP, reduceCtorEq, E, D, J, S, M, O, Try.td3, Try.td4, Mly.av]; (repeat refine And.intro (by first | omega | assumption | exact rfl) ?_); refine V _ ?_; clear V K0; simp only [put, app, Z, ae, zE, zS, D])
  (refine aa rfl fun K0 V => ?_; simp only [zE, op1, ev, lkp, ag, af, bn, reduceCtorEq, E, D, J, S, M, O, Try.td4, Mly.av]; refine V _ ?_; clear V K0; simp only [put, app, Z, ae, zE, zS, D])
  refine ai ?_
  refine ⟨by simp only [U, lkp, zE, reduceCtorEq, E, Y, D]; exact rfl, rfl, ?_, rfl⟩; (repeat refine aV rfl ?_); exact br (by exact rfl) hq5
 case b5 => exact bq (by first | rfl | (simp [bT]; done) | decide)
 simp only [bk, bb]
 (refine aa rfl fun K0 V => ?_; simp only [zE, op1, ev, lkp, ag, af, ev, reduceCtorEq, E, D, J, S, M, O, Try.td4, Mly.av]; refine V _ ?_; clear V K0; simp only [put, app, Z, ae, zE, zS, D])
 refine ai ?_
 refine hK4 _ ?_; clear hK4; refine ad [0, 1, 2, 3, 11] ?_; simp only [U, lkp, zE, reduceCtorEq, E, Y, D]
 refine aB (by simp only [ev, U, lkp, zE, reduceCtorEq, E, Y, D]; exact rfl) (fun hc6 => ?_) (fun hc6 => ?_)
 ·(try simp only [zB, reduceCtorEq] at hc6)
  refine ab fun K7 hK7 => ?_
  refine ah hP hN rfl ?_
  (refine aa rfl fun K0 V => ?_; simp only [zE, op1, ev, lkp, ag, af, ev, reduceCtorEq, E, D, J, S, M, O, Try.td29, Mly.av]; refine V _ ?_; clear V K0; simp only [put, app, Z, ae, zE, zS, D])
  refine ai ?_
  refine hK7 _ ?_; clear hK7; refine ad [0, 1, 2, 3, 11] ?_; simp only [U, lkp, zE, reduceCtorEq, E, Y, D]
  refine aF ?_
  refine ⟨by first | exact .inl rfl | exact .inr rfl, _, rfl, ?_⟩; simp only [fzV, fz1, fzC, List.map_cons, List.map_nil, U, lkp, zE, reduceCtorEq, E, Y, D, Mly.av]
  refine VLE.of_eq ?_
  refine congrArg (fun n => AV.one (AC.int IntKind.i64 n)) ?_
  symm
  unfold ck
  first
  | (rw [if_pos (by omega)]; done)
  | (rw [if_neg (by omega), if_pos (by omega)]; done)
  | (rw [if_neg (by omega), if_neg (by omega), if_pos (by omega)]; done)
  | (rw [if_neg (by omega), if_neg (by omega), if_neg (by omega), if_pos (by omega)]; done)
  | (rw [if_neg (by omega), if_neg (by omega), if_neg (by omega), if_neg (by omega), if_pos (by omega)]; done)
  | (rw [if_neg (by omega), if_neg (by omega), if_neg (by omega), if_neg (by omega), if_neg (by omega)]
     first
     | exact (aS hrows (by omega) (by rw [cr hc32.1 hc32.2 (j := j) (by omega) (by unfold bU; omega)]; decide)).trans (cr hc32.1 hc32.2 (by omega) (by unfold bU; omega))
     | exact (aS hrows (by omega) (by rw [cp hc32]; decide)).trans (cp hc32)
     | exact bz fun i hi => hrows i (by omega))
 ·(try simp only [zB, reduceCtorEq] at hc6)
  refine ab fun K8 hK8 => ?_
  refine ah hP hN rfl ?_
  iterate 3 (refine aa rfl fun K0 V => ?_; simp only [zE, op1, ev, lkp, ag, af, aC, aE, aD, ar, aA, aP, reduceCtorEq, E, D, J, S, M, O, Try.td3, Try.td4, Mly.av]; (repeat refine And.intro (by first | omega | assumption | exact rfl) ?_); refine V _ ?_; clear V K0; simp only [put, app, Z, ae, zE, zS, D])
  refine ai ?_
  refine hK8 _ ?_; clear hK8; refine ad [0, 1, 2, 3, 11, 20] ?_; simp only [U, lkp, zE, reduceCtorEq, E, Y, D]
  refine aB (by simp only [ev, U, lkp, zE, reduceCtorEq, E, Y, D]; exact rfl) (fun hc9 => ?_) (fun hc9 => ?_)
  ·(try simp only [zB, reduceCtorEq] at hc9)
   refine ab fun K10 hK10 => ?_
   refine ah hP hN rfl ?_
   (refine aa rfl fun K0 V => ?_; simp only [zE, op1, ev, lkp, ag, af, ev, reduceCtorEq, E, D, J, S, M, O, Try.td29, Mly.av]; refine V _ ?_; clear V K0; simp only [put, app, Z, ae, zE, zS, D])
   refine ai ?_
   refine hK10 _ ?_; clear hK10; refine ad [0, 1, 2, 3, 11, 20] ?_; simp only [U, lkp, zE, reduceCtorEq, E, Y, D]
   refine aF ?_
   refine ⟨by first | exact .inl rfl | exact .inr rfl, _, rfl, ?_⟩; simp only [fzV, fz1, fzC, List.map_cons, List.map_nil, U, lkp, zE, reduceCtorEq, E, Y, D, Mly.av]
   refine VLE.of_eq ?_
   refine congrArg (fun n => AV.one (AC.int IntKind.i64 n)) ?_
   symm
   unfold ck
   first
   | (rw [if_pos (by omega)]; done)
   | (rw [if_neg (by omega), if_pos (by omega)]; done)
   | (rw [if_neg (by omega), if_neg (by omega), if_pos (by omega)]; done)
   | (rw [if_neg (by omega), if_neg (by omega), if_neg (by omega), if_pos (by omega)]; done)
   | (rw [if_neg (by omega), if_neg (by omega), if_neg (by omega), if_neg (by omega), if_pos (by omega)]; done)
   | (rw [if_neg (by omega), if_neg (by omega), if_neg (by omega), if_neg (by omega), if_neg (by omega)]
      first
      | exact (aS hrows (by omega) (by rw [cr hc32.1 hc32.2 (j := j) (by omega) (by unfold bU; omega)]; decide)).trans (cr hc32.1 hc32.2 (by omega) (by unfold bU; omega))
      | exact (aS hrows (by omega) (by rw [cp hc32]; decide)).trans (cp hc32)
      | exact bz fun i hi => hrows i (by omega))
  ·(try simp only [zB, reduceCtorEq] at hc9)
   refine ab fun K11 hK11 => ?_
   refine ah hP hN rfl ?_
   iterate 3 (refine aa rfl fun K0 V => ?_; simp only [zE, op1, ev, lkp, ag, af, aC, aE, aD, ar, aA, aP, reduceCtorEq, E, D, J, S, M, O, Try.td3, Try.td4, Mly.av]; (repeat refine And.intro (by first | omega | assumption | exact rfl) ?_); refine V _ ?_; clear V K0; simp only [put, app, Z, ae, zE, zS, D])
   refine ai ?_
   refine hK11 _ ?_; clear hK11; refine ad [0, 1, 2, 3, 11, 20, 23] ?_; simp only [U, lkp, zE, reduceCtorEq, E, Y, D]
   refine aB (by simp only [ev, U, lkp, zE, reduceCtorEq, E, Y, D]; exact rfl) (fun hc12 => ?_) (fun hc12 => ?_)
   ·(try simp only [zB, reduceCtorEq] at hc12)
    refine ab fun K13 hK13 => ?_
    refine ah hP hN rfl ?_
    (refine aa rfl fun K0 V => ?_; simp only [zE, op1, ev, lkp, ag, af, ev, reduceCtorEq, E, D, J, S, M, O, Try.td29, Mly.av]; refine V _ ?_; clear V K0; simp only [put, app, Z, ae, zE, zS, D])
    refine ai ?_
    refine hK13 _ ?_; clear hK13; refine ad [0, 1, 2, 3, 11, 20, 23] ?_; simp only [U, lkp, zE, reduceCtorEq, E, Y, D]
    refine aF ?_
    refine ⟨by first | exact .inl rfl | exact .inr rfl, _, rfl, ?_⟩; simp only [fzV, fz1, fzC, List.map_cons, List.map_nil, U, lkp, zE, reduceCtorEq, E, Y, D, Mly.av]
    refine VLE.of_eq ?_
    refine congrArg (fun n => AV.one (AC.int IntKind.i64 n)) ?_
    symm
    unfold ck
    first
    | (rw [if_pos (by omega)]; done)
    | (rw [if_neg (by omega), if_pos (by omega)]; done)
    | (rw [if_neg (by omega), if_neg (by omega), if_pos (by omega)]; done)
    | (rw [if_neg (by omega), if_neg (by omega), if_neg (by omega), if_pos (by omega)]; done)
    | (rw [if_neg (by omega), if_neg (by omega), if_neg (by omega), if_neg (by omega), if_pos (by omega)]; done)
    | (rw [if_neg (by omega), if_neg (by omega), if_neg (by omega), if_neg (by omega), if_neg (by omega)]
       first
       | exact (aS hrows (by omega) (by rw [cr hc32.1 hc32.2 (j := j) (by omega) (by unfold bU; omega)]; decide)).trans (cr hc32.1 hc32.2 (by omega) (by unfold bU; omega))
       | exact (aS hrows (by omega) (by rw [cp hc32]; decide)).trans (cp hc32)
       | exact bz fun i hi => hrows i (by omega))
   ·(try simp only [zB, reduceCtorEq] at hc12)
    refine ab fun K14 hK14 => ?_
    refine ah hP hN rfl ?_
    iterate 3 (refine aa rfl fun K0 V => ?_; simp only [zE, op1, ev, lkp, ag, af, aw, ay, Nat.mul_one, au, ax, acs, Ty.dflt, zG, am, aC, aE, aD, ar, aA, aP, reduceCtorEq, E, D, J, S, M, O, Try.st58, Try.td1, Try.td3, Try.td4, Try.td58, Mly.av]; (repeat refine And.intro (by first | omega | assumption | exact rfl) ?_); refine V _ ?_; clear V K0; simp only [put, app, Z, ae, zE, zS, D])
    (refine aa rfl fun K0 V => ?_; simp only [zE, op1, ev, lkp, ag, af, ev, reduceCtorEq, E, D, J, S, M, O, Try.td4, Mly.av]; refine V _ ?_; clear V K0; simp only [put, app, Z, ae, zE, zS, D])
    refine' aU (want := false) 4 rfl (m := 30) (by simp only [U, lkp, zE, reduceCtorEq, E, Y, D]; exact rfl) (by kernel_rfl) rfl rfl rfl rfl rfl (fun hg15 => ?a15) ?b15 ?c15
    case a15 =>
     have hq15 := hg15; (try simp only [zB, reduceCtorEq] at hg15); simp only [List.take_succ_cons, List.take_zero, List.cons_append, List.nil_append]
     (refine aI rfl fun K0 V => ?_; simp only [zE, op1, ev, lkp, ag, af, aw, reduceCtorEq, E, D, J, S, M, O, Try.st58, Try.td1, Try.td58, Mly.av]; (repeat refine And.intro (by first | omega | assumption | exact rfl) ?_); refine V _ ?_; clear V K0; simp only [put, app, Z, ae, zE, zS, D])
     (refine aI rfl fun K0 V => ?_; simp only [zE, op1, ev, lkp, ag, af, ay, Nat.mul_one, au, ax, acs, Ty.dflt, zG, am, reduceCtorEq, E, D, J, S, M, O, Try.td3, Mly.av]; (repeat refine And.intro (by first | omega | assumption | exact rfl) ?_); refine V _ ?_; clear V K0; simp only [put, app, Z, ae, zE, zS, D])
     (refine aI rfl fun K0 V => ?_; simp only [zE, op1, ev, lkp, ag, af, ev, reduceCtorEq, E, D, J, S, M, O, Try.td3, Mly.av]; refine V _ ?_; clear V K0; simp only [put, app, Z, ae, zE, zS, D])
     (refine aI rfl fun K0 V => ?_; simp only [zE, op1, ev, lkp, ag, af, aC, aE, aD, ar, aA, aP, reduceCtorEq, E, D, J, S, M, O, Try.td3, Try.td4, Mly.av]; (repeat refine And.intro (by first | omega | assumption | exact rfl) ?_); refine V _ ?_; clear V K0; simp only [put, app, Z, ae, zE, zS, D])
     (refine aa rfl fun K0 V => ?_; simp only [zE, op1, ev, lkp, ag, af, bn, reduceCtorEq, E, D, J, S, M, O, Try.td4, Mly.av]; refine V _ ?_; clear V K0; simp only [put, app, Z, ae, zE, zS, D])
     refine ai ?_
     refine ⟨by simp only [U, lkp, zE, reduceCtorEq, E, Y, D]; exact rfl, rfl, ?_, rfl⟩; (repeat refine aV rfl ?_); exact br (by exact rfl) hq15
    case b15 => exact bq (by first | rfl | (simp [bT]; done) | decide)
    simp only [bk, bb]
    (refine aa rfl fun K0 V => ?_; simp only [zE, op1, ev, lkp, ag, af, ev, reduceCtorEq, E, D, J, S, M, O, Try.td4, Mly.av]; refine V _ ?_; clear V K0; simp only [put, app, Z, ae, zE, zS, D])
    refine ai ?_
    refine hK14 _ ?_; clear hK14; refine ad [0, 1, 2, 3, 11, 20, 23, 26] ?_; simp only [U, lkp, zE, reduceCtorEq, E, Y, D]
    refine aB (by simp only [ev, U, lkp, zE, reduceCtorEq, E, Y, D]; exact rfl) (fun hc16 => ?_) (fun hc16 => ?_)
    ·(try simp only [zB, reduceCtorEq] at hc16)
     refine ab fun K17 hK17 => ?_
     refine ah hP hN rfl ?_
     (refine aa rfl fun K0 V => ?_; simp only [zE, op1, ev, lkp, ag, af, ev, reduceCtorEq, E, D, J, S, M, O, Try.td29, Mly.av]; refine V _ ?_; clear V K0; simp only [put, app, Z, ae, zE, zS, D])
     refine ai ?_
     refine hK17 _ ?_; clear hK17; refine ad [0, 1, 2, 3, 11, 20, 23, 26] ?_; simp only [U, lkp, zE, reduceCtorEq, E, Y, D]
     refine aF ?_
     refine ⟨by first | exact .inl rfl | exact .inr rfl, _, rfl, ?_⟩; simp only [fzV, fz1, fzC, List.map_cons, List.map_nil, U, lkp, zE, reduceCtorEq, E, Y, D, Mly.av]
     refine VLE.of_eq ?_
     refine congrArg (fun n => AV.one (AC.int IntKind.i64 n)) ?_
     symm
     unfold ck
     first
     | (rw [if_pos (by omega)]; done)
     | (rw [if_neg (by omega), if_pos (by omega)]; done)
     | (rw [if_neg (by omega), if_neg (by omega), if_pos (by omega)]; done)
     | (rw [if_neg (by omega), if_neg (by omega), if_neg (by omega), if_pos (by omega)]; done)
     | (rw [if_neg (by omega), if_neg (by omega), if_neg (by omega), if_neg (by omega), if_pos (by omega)]; done)
     | (rw [if_neg (by omega), if_neg (by omega), if_neg (by omega), if_neg (by omega), if_neg (by omega)]
        first
        | exact (aS hrows (by omega) (by rw [cr hc32.1 hc32.2 (j := j) (by omega) (by unfold bU; omega)]; decide)).trans (cr hc32.1 hc32.2 (by omega) (by unfold bU; omega))
        | exact (aS hrows (by omega) (by rw [cp hc32]; decide)).trans (cp hc32)
        | exact bz fun i hi => hrows i (by omega))
    ·(try simp only [zB, reduceCtorEq] at hc16)
     refine ab fun K18 hK18 => ?_
     refine ah hP hN rfl ?_
     iterate 6 (refine aa rfl fun K0 V => ?_; simp only [zE, op1, ev, lkp, ag, af, aw, ay, Nat.mul_one, au, ax, acs, Ty.dflt, zG, am, aG, bo, bc, aX, aZ, bl, Nat.div_one, aO, b0, Ty.size, aK, dite_true, aC, aE, aD, ar, aA, aP, reduceCtorEq, E, D, J, S, M, O, Try.el22, Try.st58, Try.td22, Try.td3, Try.td4, Try.td58, Mly.av]; (repeat refine And.intro (by first | omega | assumption | exact rfl) ?_); (first | refine V _ ?_ | refine Or.inl (V _ ?_)); clear V K0; simp only [put, app, Z, ae, zE, zS, D])
     refine ai ?_
     refine hK18 _ ?_; clear hK18; refine ad [0, 1, 2, 3, 11, 20, 23, 26, 36] ?_; simp only [U, lkp, zE, reduceCtorEq, E, Y, D]
     refine aB (by simp only [ev, U, lkp, zE, reduceCtorEq, E, Y, D]; exact rfl) (fun hc19 => ?_) (fun hc19 => ?_)
     ·(try simp only [zB, reduceCtorEq] at hc19)
      refine ab fun K20 hK20 => ?_
      refine ah hP hN rfl ?_
      (refine aa rfl fun K0 V => ?_; simp only [zE, op1, ev, lkp, ag, af, ev, reduceCtorEq, E, D, J, S, M, O, Try.td29, Mly.av]; refine V _ ?_; clear V K0; simp only [put, app, Z, ae, zE, zS, D])
      refine ai ?_
      refine hK20 _ ?_; clear hK20; refine ad [0, 1, 2, 3, 11, 20, 23, 26, 36] ?_; simp only [U, lkp, zE, reduceCtorEq, E, Y, D]
      refine aF ?_
      refine ⟨by first | exact .inl rfl | exact .inr rfl, _, rfl, ?_⟩; simp only [fzV, fz1, fzC, List.map_cons, List.map_nil, U, lkp, zE, reduceCtorEq, E, Y, D, Mly.av]
      refine VLE.of_eq ?_
      refine congrArg (fun n => AV.one (AC.int IntKind.i64 n)) ?_
      symm
      unfold ck
      first
      | (rw [if_pos (by omega)]; done)
      | (rw [if_neg (by omega), if_pos (by omega)]; done)
      | (rw [if_neg (by omega), if_neg (by omega), if_pos (by omega)]; done)
      | (rw [if_neg (by omega), if_neg (by omega), if_neg (by omega), if_pos (by omega)]; done)
      | (rw [if_neg (by omega), if_neg (by omega), if_neg (by omega), if_neg (by omega), if_pos (by omega)]; done)
      | (rw [if_neg (by omega), if_neg (by omega), if_neg (by omega), if_neg (by omega), if_neg (by omega)]
         first
         | exact (aS hrows (by omega) (by rw [cr hc32.1 hc32.2 (j := j) (by omega) (by unfold bU; omega)]; decide)).trans (cr hc32.1 hc32.2 (by omega) (by unfold bU; omega))
         | exact (aS hrows (by omega) (by rw [cp hc32]; decide)).trans (cp hc32)
         | exact bz fun i hi => hrows i (by omega))
     ·(try simp only [zB, reduceCtorEq] at hc19)
      refine aJ ?_
      refine hK3 _ ?_; clear hK3; refine ad [0, 1, 2, 3, 11, 20, 23, 26, 36] ?_; simp only [U, lkp, zE, reduceCtorEq, E, Y, D]
      refine ab fun K21 hK21 => ?_
      refine ab fun K22 hK22 => ?_
      refine ah hP hN rfl ?_
      iterate 2 (refine aa rfl fun K0 V => ?_; simp only [zE, op1, ev, lkp, ag, af, ev, reduceCtorEq, E, D, J, S, M, O, Try.td3, Mly.av]; refine V _ ?_; clear V K0; simp only [put, app, Z, ae, zE, zS, D])
      refine ai ?_
      refine hK22 _ ?_; clear hK22; refine ad [0, 1, 2, 3, 11, 20, 23, 26, 36, 42, 43] ?_; simp only [U, lkp, zE, reduceCtorEq, E, Y, D]
      refine aM ?_
      refine bp (fun n23 s23 => ∃ (k : Nat), (k ≤ m.nx.length) ∧ (∀ i, i < k → gp m i = 0) ∧ n23 = m.nx.length - k ∧ s23 = { env := [(1, .one (.ptr 0 0 0 0)), (3, .one (.int .i64 (m.nx.length : Int))), (42, .one (.int .i64 (m.nx.length : Int))), (43, .one (.int .i64 (k : Int)))], L := [.vars 58 [.int .i64 m.inp, .int .i64 m.st, .list (.list (.int .i64)) m.nx, .list (.list (.int .i64)) m.ot]] }) ?_ ?_
      ·exact ⟨_, _, aL [1, 3, 42, 43], 0, Nat.zero_le _, fun i hi => by omega, rfl, rfl⟩
      ·rintro n23 s23 ⟨k, hk, hrows, rfl, rfl⟩
       refine ab fun K24 hK24 => ?_
       refine ah hP hN rfl ?_
       (refine aa rfl fun K0 V => ?_; simp only [zE, op1, ev, lkp, ag, af, aC, aE, aD, ar, aA, aP, reduceCtorEq, E, D, J, S, M, O, Try.td3, Try.td4, Mly.av]; (repeat refine And.intro (by first | omega | assumption | exact rfl) ?_); refine V _ ?_; clear V K0; simp only [put, app, Z, ae, zE, zS, D])
       refine ai ?_
       refine hK24 _ ?_; clear hK24; refine ad [1, 3, 42, 43, 44] ?_; simp only [U, lkp, zE, reduceCtorEq, E, Y, D]
       refine ab fun K25 hK25 => ?_
       refine aB (by simp only [ev, U, lkp, zE, reduceCtorEq, E, Y, D]; exact rfl) (fun hc26 => ?_) (fun hc26 => ?_)
       ·(try simp only [zB, reduceCtorEq] at hc26)
        refine aJ ?_
        refine hK25 _ ?_; clear hK25; refine ad [1, 3, 42, 43, 44] ?_; simp only [U, lkp, zE, reduceCtorEq, E, Y, D]
        refine ab fun K27 hK27 => ?_
        refine aM ?_
        refine ab fun K28 hK28 => ?_
        refine ah hP hN rfl ?_
        iterate 2 (refine aa rfl fun K0 V => ?_; simp only [zE, op1, ev, lkp, ag, af, ev, reduceCtorEq, E, D, J, S, M, O, Try.td3, Mly.av]; refine V _ ?_; clear V K0; simp only [put, app, Z, ae, zE, zS, D])
        refine ai ?_
        refine hK28 _ ?_; clear hK28; refine ad [1, 3, 4, 42, 43, 44] ?_; simp only [U, lkp, zE, reduceCtorEq, E, Y, D]
        refine ab fun K29 hK29 => ?_
        refine ab fun K30 hK30 => ?_
        refine bQ hP hN Try.mixed rfl ?_
        iterate 9 (refine aa rfl fun K0 V => ?_; simp only [zE, op1, ev, lkp, ag, af, aw, ay, Nat.mul_one, au, ax, acs, Ty.dflt, zG, am, aH, Ty.size, ne_eq, not_false_eq_true, Int.natCast_one, Int.mul_one, aG, bo, bc, aX, aZ, bl, Nat.div_one, aO, b0, aK, dite_true, aC, aE, aD, ar, aA, aP, reduceCtorEq, E, D, J, S, M, O, Try.el22, Try.el26, Try.st58, Try.td2, Try.td22, Try.td26, Try.td3, Try.td4, Try.td58, Mly.av]; (repeat refine And.intro (by first | omega | assumption | exact rfl) ?_); (first | refine V _ ?_ | refine Or.inl (V _ ?_)); clear V K0; simp only [put, app, Z, ae, zE, zS, D])
        (refine aa rfl fun K0 V => ?_; simp only [zE, op1, ev, lkp, ag, af, ev, reduceCtorEq, E, D, J, S, M, O, Try.td4, Mly.av]; refine V _ ?_; clear V K0; simp only [put, app, Z, ae, zE, zS, D])
        refine' aU (want := false) 9 rfl (m := 55) (by simp only [U, lkp, zE, reduceCtorEq, E, Y, D]; exact rfl) (by kernel_rfl) rfl rfl rfl rfl rfl (fun hg31 => ?a31) ?b31 ?c31
        case a31 =>
         have hq31 := hg31; (try simp only [zB, reduceCtorEq] at hg31); simp only [List.take_succ_cons, List.take_zero, List.cons_append, List.nil_append]
         (refine aI rfl fun K0 V => ?_; simp only [zE, op1, ev, lkp, ag, af, aw, reduceCtorEq, E, D, J, S, M, O, Try.st58, Try.td3, Try.td58, Mly.av]; (repeat refine And.intro (by first | omega | assumption | exact rfl) ?_); refine V _ ?_; clear V K0; simp only [put, app, Z, ae, zE, zS, D])
         (refine aI rfl fun K0 V => ?_; simp only [zE, op1, ev, lkp, ag, af, ay, Nat.mul_one, au, ax, acs, Ty.dflt, zG, am, reduceCtorEq, E, D, J, S, M, O, Try.el22, Try.td22, Mly.av]; (repeat refine And.intro (by first | omega | assumption | exact rfl) ?_); refine V _ ?_; clear V K0; simp only [put, app, Z, ae, zE, zS, D])
         (refine aI rfl fun K0 V => ?_; simp only [zE, op1, ev, lkp, ag, af, ev, reduceCtorEq, E, D, J, S, M, O, Try.td3, Mly.av]; refine V _ ?_; clear V K0; simp only [put, app, Z, ae, zE, zS, D])
         (refine aI rfl fun K0 V => ?_; simp only [zE, op1, ev, lkp, ag, af, aH, zG, Ty.dflt, Ty.size, Nat.mul_one, ne_eq, not_false_eq_true, Int.natCast_one, Int.mul_one, reduceCtorEq, E, D, J, S, M, O, Try.el22, Try.td22, Mly.av]; (repeat refine And.intro (by first | omega | assumption | exact rfl) ?_); refine V _ ?_; clear V K0; simp only [put, app, Z, ae, zE, zS, D])
         (refine aI rfl fun K0 V => ?_; simp only [zE, op1, ev, lkp, ag, af, ay, Nat.mul_one, au, ax, acs, Ty.dflt, zG, am, reduceCtorEq, E, D, J, S, M, O, Try.el26, Try.td26, Mly.av]; (repeat refine And.intro (by first | omega | assumption | exact rfl) ?_); refine V _ ?_; clear V K0; simp only [put, app, Z, ae, zE, zS, D])
         (refine aI rfl fun K0 V => ?_; simp only [zE, op1, ev, lkp, ag, af, aG, bo, bc, aX, aZ, bl, Nat.div_one, aO, b0, Ty.size, aK, dite_true, reduceCtorEq, E, D, J, S, M, O, Try.el26, Try.td26, Try.td3, Mly.av]; (repeat refine And.intro (by first | omega | assumption | exact rfl) ?_); (first | refine V _ ?_ | refine Or.inl (V _ ?_)); clear V K0; simp only [put, app, Z, ae, zE, zS, D])
         (refine aI rfl fun K0 V => ?_; simp only [zE, op1, ev, lkp, ag, af, aw, reduceCtorEq, E, D, J, S, M, O, Try.st58, Try.td58, Mly.av]; (repeat refine And.intro (by first | omega | assumption | exact rfl) ?_); refine V _ ?_; clear V K0; simp only [put, app, Z, ae, zE, zS, D])
         (refine aI rfl fun K0 V => ?_; simp only [zE, op1, ev, lkp, ag, af, ay, Nat.mul_one, au, ax, acs, Ty.dflt, zG, am, reduceCtorEq, E, D, J, S, M, O, Try.td3, Mly.av]; (repeat refine And.intro (by first | omega | assumption | exact rfl) ?_); refine V _ ?_; clear V K0; simp only [put, app, Z, ae, zE, zS, D])
         (refine aI rfl fun K0 V => ?_; simp only [zE, op1, ev, lkp, ag, af, aC, aE, aD, ar, aA, aP, reduceCtorEq, E, D, J, S, M, O, Try.td3, Try.td4, Mly.av]; (repeat refine And.intro (by first | omega | assumption | exact rfl) ?_); refine V _ ?_; clear V K0; simp only [put, app, Z, ae, zE, zS, D])
         (refine aa rfl fun K0 V => ?_; simp only [zE, op1, ev, lkp, ag, af, bn, reduceCtorEq, E, D, J, S, M, O, Try.td4, Mly.av]; refine V _ ?_; clear V K0; simp only [put, app, Z, ae, zE, zS, D])
         refine ai ?_
         refine ⟨by simp only [U, lkp, zE, reduceCtorEq, E, Y, D]; exact rfl, rfl, ?_, rfl⟩; (repeat refine aV rfl ?_); exact br (by exact rfl) hq31
        case b31 => exact bq (by first | rfl | (simp [bT]; done) | decide)
        simp only [bk, bb]
        refine ai ?_
        refine ⟨by kernel_rfl, ?_⟩
        refine hK30 _ ?_; clear hK30; refine ad [1, 3, 4, 42, 43, 44, 65] ?_; simp only [U, lkp, zE, reduceCtorEq, E, Y, D]
        refine aB (by simp only [ev, U, lkp, zE, reduceCtorEq, E, Y, D]; exact rfl) (fun hc32 => ?_) (fun hc32 => ?_)
        ·(try simp only [zB, reduceCtorEq] at hc32)
         refine ab fun K33 hK33 => ?_
         refine ah hP hN rfl ?_
         (refine aa rfl fun K0 V => ?_; simp only [zE, op1, ev, lkp, ag, af, ev, reduceCtorEq, E, D, J, S, M, O, Try.td29, Mly.av]; refine V _ ?_; clear V K0; simp only [put, app, Z, ae, zE, zS, D])
         refine ai ?_
         refine hK33 _ ?_; clear hK33; refine ad [1, 2, 3, 4, 42, 43, 44, 65] ?_; simp only [U, lkp, zE, reduceCtorEq, E, Y, D]
         refine aF ?_
         refine ⟨by first | exact .inl rfl | exact .inr rfl, _, rfl, ?_⟩; simp only [fzV, fz1, fzC, List.map_cons, List.map_nil, U, lkp, zE, reduceCtorEq, E, Y, D, Mly.av]
         refine VLE.of_eq ?_
         refine congrArg (fun n => AV.one (AC.int IntKind.i64 n)) ?_
         symm
         unfold ck
         first
         | (rw [if_pos (by omega)]; done)
         | (rw [if_neg (by omega), if_pos (by omega)]; done)
         | (rw [if_neg (by omega), if_neg (by omega), if_pos (by omega)]; done)
         | (rw [if_neg (by omega), if_neg (by omega), if_neg (by omega), if_pos (by omega)]; done)
         | (rw [if_neg (by omega), if_neg (by omega), if_neg (by omega), if_neg (by omega), if_pos (by omega)]; done)
         | (rw [if_neg (by omega), if_neg (by omega), if_neg (by omega), if_neg (by omega), if_neg (by omega)]
            first
            | exact (aS hrows (by omega) (by rw [cr hc32.1 hc32.2 (j := j) (by omega) (by unfold bU; omega)]; decide)).trans (cr hc32.1 hc32.2 (by omega) (by unfold bU; omega))
            | exact (aS hrows (by omega) (by rw [cp hc32]; decide)).trans (cp hc32)
            | exact bz fun i hi => hrows i (by omega))
        ·(try simp only [zB, reduceCtorEq] at hc32)
         refine aJ ?_
         refine hK29 _ ?_; clear hK29; refine ad [1, 3, 4, 42, 43, 44, 65] ?_; simp only [U, lkp, zE, reduceCtorEq, E, Y, D]
         refine ab fun K34 hK34 => ?_
         refine ah hP hN rfl ?_
         iterate 3 (refine aa rfl fun K0 V => ?_; simp only [zE, op1, ev, lkp, ag, af, aw, ay, Nat.mul_one, au, ax, acs, Ty.dflt, zG, am, reduceCtorEq, E, D, J, S, M, O, Try.st58, Try.td3, Try.td58, Mly.av]; (repeat refine And.intro (by first | omega | assumption | exact rfl) ?_); refine V _ ?_; clear V K0; simp only [put, app, Z, ae, zE, zS, D])
         refine ai ?_
         refine hK34 _ ?_; clear hK34; refine ad [1, 3, 4, 42, 43, 44, 65, 67, 68] ?_; simp only [U, lkp, zE, reduceCtorEq, E, Y, D]
         refine aM ?_
         refine bp (fun n35 s35 => ∃ (j : Nat), ((j : Int) ≤ m.inp) ∧ (∀ a, a < j → ¬ bU m k a) ∧ n35 = m.inp.toNat - j ∧ s35 = { env := [(1, .one (.ptr 0 0 0 0)), (3, .one (.int .i64 (m.nx.length : Int))), (4, .one (.int .i64 (k : Int))), (42, .one (.int .i64 (m.nx.length : Int))), (43, .one (.int .i64 (k : Int))), (67, .one (.int .i64 m.inp)), (68, .one (.int .i64 (j : Int)))], L := [.vars 58 [.int .i64 m.inp, .int .i64 m.st, .list (.list (.int .i64)) m.nx, .list (.list (.int .i64)) m.ot]] }) ?_ ?_
         ·refine ⟨_, _, aL [1, 3, 4, 42, 43, 67, 68], 0, ?_, fun i hi => by omega, rfl, rfl⟩; omega
         ·rintro n35 s35 ⟨j, hj, hcells, rfl, rfl⟩
          refine ab fun K36 hK36 => ?_
          refine ah hP hN rfl ?_
          (refine aa rfl fun K0 V => ?_; simp only [zE, op1, ev, lkp, ag, af, aC, aE, aD, ar, aA, aP, reduceCtorEq, E, D, J, S, M, O, Try.td3, Try.td4, Mly.av]; (repeat refine And.intro (by first | omega | assumption | exact rfl) ?_); refine V _ ?_; clear V K0; simp only [put, app, Z, ae, zE, zS, D])
          refine ai ?_
          refine hK36 _ ?_; clear hK36; refine ad [1, 3, 4, 42, 43, 67, 68, 69] ?_; simp only [U, lkp, zE, reduceCtorEq, E, Y, D]
          refine ab fun K37 hK37 => ?_
          refine aB (by simp only [ev, U, lkp, zE, reduceCtorEq, E, Y, D]; exact rfl) (fun hc38 => ?_) (fun hc38 => ?_)
          ·(try simp only [zB, reduceCtorEq] at hc38)
           refine aJ ?_
           refine hK37 _ ?_; clear hK37; refine ad [1, 3, 4, 42, 43, 67, 68, 69] ?_; simp only [U, lkp, zE, reduceCtorEq, E, Y, D]
           refine ab fun K39 hK39 => ?_
           refine aM ?_
           refine ab fun K40 hK40 => ?_
           refine ah hP hN rfl ?_
           iterate 2 (refine aa rfl fun K0 V => ?_; simp only [zE, op1, ev, lkp, ag, af, ev, reduceCtorEq, E, D, J, S, M, O, Try.td3, Mly.av]; refine V _ ?_; clear V K0; simp only [put, app, Z, ae, zE, zS, D])
           refine ai ?_
           refine hK40 _ ?_; clear hK40; refine ad [1, 3, 4, 5, 42, 43, 67, 68, 69] ?_; simp only [U, lkp, zE, reduceCtorEq, E, Y, D]
           refine ab fun K41 hK41 => ?_
           refine bQ hP hN Try.mixed rfl ?_
           iterate 18 (refine aa rfl fun K0 V => ?_; simp only [zE, op1, ev, lkp, ag, af, aw, ay, Nat.mul_one, au, ax, acs, Ty.dflt, zG, am, aH, Ty.size, ne_eq, not_false_eq_true, Int.natCast_one, Int.mul_one, reduceCtorEq, E, D, J, S, M, O, Try.el22, Try.el26, Try.st58, Try.td2, Try.td22, Try.td26, Try.td3, Try.td58, Mly.av]; (repeat refine And.intro (by first | omega | assumption | exact rfl) ?_); refine V _ ?_; clear V K0; simp only [put, app, Z, ae, zE, zS, D])
           refine ai ?_
           refine ⟨by kernel_rfl, ?_⟩
           refine hK41 _ ?_; clear hK41; refine ad [1, 3, 4, 5, 6, 7, 42, 43, 67, 68, 69] ?_; simp only [U, lkp, zE, reduceCtorEq, E, Y, D]
           refine ab fun K42 hK42 => ?_
           refine ah hP hN rfl ?_
           iterate 2 (refine aa rfl fun K0 V => ?_; simp only [zE, op1, ev, lkp, ag, af, aC, aE, aD, ar, aA, aP, reduceCtorEq, E, D, J, S, M, O, Try.td3, Try.td4, Mly.av]; (repeat refine And.intro (by first | omega | assumption | exact rfl) ?_); refine V _ ?_; clear V K0; simp only [put, app, Z, ae, zE, zS, D])
           (refine aa rfl fun K0 V => ?_; simp only [zE, op1, ev, lkp, ag, af, ev, reduceCtorEq, E, D, J, S, M, O, Try.td4, Mly.av]; refine V _ ?_; clear V K0; simp only [put, app, Z, ae, zE, zS, D])
           refine' aU (want := false) 3 rfl (m := 89) (by simp only [U, lkp, zE, reduceCtorEq, E, Y, D]; exact rfl) (by kernel_rfl) rfl rfl rfl rfl rfl (fun hg43 => ?a43) ?b43 ?c43
           case a43 =>
            have hq43 := hg43; (try simp only [zB, reduceCtorEq] at hg43); simp only [List.take_succ_cons, List.take_zero, List.cons_append, List.nil_append]
            (refine aI rfl fun K0 V => ?_; simp only [zE, op1, ev, lkp, ag, af, ev, reduceCtorEq, E, D, J, S, M, O, Try.td3, Mly.av]; refine V _ ?_; clear V K0; simp only [put, app, Z, ae, zE, zS, D])
            (refine aI rfl fun K0 V => ?_; simp only [zE, op1, ev, lkp, ag, af, ev, reduceCtorEq, E, D, J, S, M, O, Try.td3, Mly.av]; refine V _ ?_; clear V K0; simp only [put, app, Z, ae, zE, zS, D])
            (refine aI rfl fun K0 V => ?_; simp only [zE, op1, ev, lkp, ag, af, aC, aE, aD, ar, aA, aP, reduceCtorEq, E, D, J, S, M, O, Try.td3, Try.td4, Mly.av]; (repeat refine And.intro (by first | omega | assumption | exact rfl) ?_); refine V _ ?_; clear V K0; simp only [put, app, Z, ae, zE, zS, D])
            (refine aa rfl fun K0 V => ?_; simp only [zE, op1, ev, lkp, ag, af, bn, reduceCtorEq, E, D, J, S, M, O, Try.td4, Mly.av]; refine V _ ?_; clear V K0; simp only [put, app, Z, ae, zE, zS, D])
            refine ai ?_
            refine ⟨by simp only [U, lkp, zE, reduceCtorEq, E, Y, D]; exact rfl, rfl, ?_, rfl⟩; (repeat refine aV rfl ?_); exact br (by exact rfl) hq43
           case b43 => exact bq (by first | rfl | (simp [bT]; done) | decide)
           simp only [bk, bb]
           (refine aa rfl fun K0 V => ?_; simp only [zE, op1, ev, lkp, ag, af, ev, reduceCtorEq, E, D, J, S, M, O, Try.td4, Mly.av]; refine V _ ?_; clear V K0; simp only [put, app, Z, ae, zE, zS, D])
           refine' aU (want := false) 2 rfl (m := 94) (by simp only [U, lkp, zE, reduceCtorEq, E, Y, D]; exact rfl) (by kernel_rfl) rfl rfl rfl rfl rfl (fun hg44 => ?a44) ?b44 ?c44
           case a44 =>
            have hq44 := hg44; (try simp only [zB, reduceCtorEq] at hg44); simp only [List.take_succ_cons, List.take_zero, List.cons_append, List.nil_append]
            (refine aI rfl fun K0 V => ?_; simp only [zE, op1, ev, lkp, ag, af, ev, reduceCtorEq, E, D, J, S, M, O, Try.td3, Mly.av]; refine V _ ?_; clear V K0; simp only [put, app, Z, ae, zE, zS, D])
            (refine aI rfl fun K0 V => ?_; simp only [zE, op1, ev, lkp, ag, af, aC, aE, aD, ar, aA, aP, reduceCtorEq, E, D, J, S, M, O, Try.td3, Try.td4, Mly.av]; (repeat refine And.intro (by first | omega | assumption | exact rfl) ?_); refine V _ ?_; clear V K0; simp only [put, app, Z, ae, zE, zS, D])
            (refine aa rfl fun K0 V => ?_; simp only [zE, op1, ev, lkp, ag, af, bn, reduceCtorEq, E, D, J, S, M, O, Try.td4, Mly.av]; refine V _ ?_; clear V K0; simp only [put, app, Z, ae, zE, zS, D])
            refine ai ?_
            refine ⟨by simp only [U, lkp, zE, reduceCtorEq, E, Y, D]; exact rfl, rfl, ?_, rfl⟩; (repeat refine aV rfl ?_); exact br (by exact rfl) hq44
           case b44 => exact bq (by first | rfl | (simp [bT]; done) | decide)
           simp only [bk, bb]
           (refine aa rfl fun K0 V => ?_; simp only [zE, op1, ev, lkp, ag, af, ev, reduceCtorEq, E, D, J, S, M, O, Try.td4, Mly.av]; refine V _ ?_; clear V K0; simp only [put, app, Z, ae, zE, zS, D])
           refine' aU (want := false) 2 rfl (m := 98) (by simp only [U, lkp, zE, reduceCtorEq, E, Y, D]; exact rfl) (by kernel_rfl) rfl rfl rfl rfl rfl (fun hg45 => ?a45) ?b45 ?c45
           case a45 =>
            have hq45 := hg45; (try simp only [zB, reduceCtorEq] at hg45); simp only [List.take_succ_cons, List.take_zero, List.cons_append, List.nil_append]
            (refine aI rfl fun K0 V => ?_; simp only [zE, op1, ev, lkp, ag, af, ev, reduceCtorEq, E, D, J, S, M, O, Try.td3, Mly.av]; refine V _ ?_; clear V K0; simp only [put, app, Z, ae, zE, zS, D])
            (refine aI rfl fun K0 V => ?_; simp only [zE, op1, ev, lkp, ag, af, aC, aE, aD, ar, aA, aP, reduceCtorEq, E, D, J, S, M, O, Try.td3, Try.td4, Mly.av]; (repeat refine And.intro (by first | omega | assumption | exact rfl) ?_); refine V _ ?_; clear V K0; simp only [put, app, Z, ae, zE, zS, D])
            (refine aa rfl fun K0 V => ?_; simp only [zE, op1, ev, lkp, ag, af, bn, reduceCtorEq, E, D, J, S, M, O, Try.td4, Mly.av]; refine V _ ?_; clear V K0; simp only [put, app, Z, ae, zE, zS, D])
            refine ai ?_
            refine ⟨by simp only [U, lkp, zE, reduceCtorEq, E, Y, D]; exact rfl, rfl, ?_, rfl⟩; (repeat refine aV rfl ?_); exact br (by exact rfl) hq45
           case b45 => exact bq (by first | rfl | (simp [bT]; done) | decide)
           simp only [bk, bb]
           refine ai ?_
           refine hK42 _ ?_; clear hK42; refine ad [1, 3, 4, 5, 6, 7, 42, 43, 67, 68, 69, 101] ?_; simp only [U, lkp, zE, reduceCtorEq, E, Y, D]
           refine aB (by simp only [ev, U, lkp, zE, reduceCtorEq, E, Y, D]; exact rfl) (fun hc46 => ?_) (fun hc46 => ?_)
           ·(try simp only [zB, reduceCtorEq] at hc46)
            refine ab fun K47 hK47 => ?_
            refine ah hP hN rfl ?_
            (refine aa rfl fun K0 V => ?_; simp only [zE, op1, ev, lkp, ag, af, ev, reduceCtorEq, E, D, J, S, M, O, Try.td29, Mly.av]; refine V _ ?_; clear V K0; simp only [put, app, Z, ae, zE, zS, D])
            refine ai ?_
            refine hK47 _ ?_; clear hK47; refine ad [1, 2, 3, 4, 5, 6, 7, 42, 43, 67, 68, 69, 101] ?_; simp only [U, lkp, zE, reduceCtorEq, E, Y, D]
            refine aF ?_
            refine ⟨by first | exact .inl rfl | exact .inr rfl, _, rfl, ?_⟩; simp only [fzV, fz1, fzC, List.map_cons, List.map_nil, U, lkp, zE, reduceCtorEq, E, Y, D, Mly.av]
            refine VLE.of_eq ?_
            refine congrArg (fun n => AV.one (AC.int IntKind.i64 n)) ?_
            symm
            unfold ck
            first
            | (rw [if_pos (by omega)]; done)
            | (rw [if_neg (by omega), if_pos (by omega)]; done)
            | (rw [if_neg (by omega), if_neg (by omega), if_pos (by omega)]; done)
            | (rw [if_neg (by omega), if_neg (by omega), if_neg (by omega), if_pos (by omega)]; done)
            | (rw [if_neg (by omega), if_neg (by omega), if_neg (by omega), if_neg (by omega), if_pos (by omega)]; done)
            | (rw [if_neg (by omega), if_neg (by omega), if_neg (by omega), if_neg (by omega), if_neg (by omega)]
               first
               | exact (aS hrows (by omega) (by rw [cr hc32.1 hc32.2 (j := j) (by omega) (by unfold bU; omega)]; decide)).trans (cr hc32.1 hc32.2 (by omega) (by unfold bU; omega))
               | exact (aS hrows (by omega) (by rw [cp hc32]; decide)).trans (cp hc32)
               | exact bz fun i hi => hrows i (by omega))
           ·(try simp only [zB, reduceCtorEq] at hc46)
            refine aJ ?_
            refine hK39 _ ?_; clear hK39; refine ad [1, 3, 4, 5, 6, 7, 42, 43, 67, 68, 69, 101] ?_; simp only [U, lkp, zE, reduceCtorEq, E, Y, D]
            refine ah hP hN rfl ?_
            iterate 2 (refine aa rfl fun K0 V => ?_; simp only [zE, op1, ev, lkp, ag, af, aC, aE, aD, ar, aA, aP, reduceCtorEq, E, D, J, S, M, O, Try.td3, Mly.av]; (repeat refine And.intro (by first | omega | assumption | exact rfl) ?_); refine V _ ?_; clear V K0; simp only [put, app, Z, ae, zE, zS, D])
            refine ai ?_
            refine ⟨_, _, ?_, aL [1, 3, 4, 42, 43, 67, 68], j + 1, ?_, fun a ha => ?_, rfl, rfl⟩
            · omega
            · omega
            · by_cases e : a = j
              · rw [e]; unfold bU; omega
              · exact hcells a (by omega)
          ·(try simp only [zB, reduceCtorEq] at hc38)
           refine bm ?_
           refine hK27 _ ?_; clear hK27; refine ad [1, 3, 4, 42, 43, 67, 68, 69] ?_; simp only [U, lkp, zE, reduceCtorEq, E, Y, D]
           refine ah hP hN rfl ?_
           iterate 2 (refine aa rfl fun K0 V => ?_; simp only [zE, op1, ev, lkp, ag, af, aC, aE, aD, ar, aA, aP, reduceCtorEq, E, D, J, S, M, O, Try.td3, Mly.av]; (repeat refine And.intro (by first | omega | assumption | exact rfl) ?_); refine V _ ?_; clear V K0; simp only [put, app, Z, ae, zE, zS, D])
           refine ai ?_
           refine ⟨_, _, ?_, aL [1, 3, 42, 43], k + 1, by omega, fun i hi => ?_, rfl, rfl⟩
           · omega
           · by_cases e : i = k
             · rw [e]; exact qn hc32.1 hc32.2 fun a ha => hcells a (by omega)
             · exact hrows i (by omega)
       ·(try simp only [zB, reduceCtorEq] at hc26)
        refine bm ?_
        refine hK21 _ ?_; clear hK21; refine ad [1, 3, 42, 43, 44] ?_; simp only [U, lkp, zE, reduceCtorEq, E, Y, D]
        refine ab fun K48 hK48 => ?_
        refine ah hP hN rfl ?_
        (refine aa rfl fun K0 V => ?_; simp only [zE, op1, ev, lkp, ag, af, ev, reduceCtorEq, E, D, J, S, M, O, Try.td29, Mly.av]; refine V _ ?_; clear V K0; simp only [put, app, Z, ae, zE, zS, D])
        refine ai ?_
        refine hK48 _ ?_; clear hK48; refine ad [1, 2, 3, 42, 43, 44] ?_; simp only [U, lkp, zE, reduceCtorEq, E, Y, D]
        refine aF ?_
        refine ⟨by first | exact .inl rfl | exact .inr rfl, _, rfl, ?_⟩; simp only [fzV, fz1, fzC, List.map_cons, List.map_nil, U, lkp, zE, reduceCtorEq, E, Y, D, Mly.av]
        refine VLE.of_eq ?_
        refine congrArg (fun n => AV.one (AC.int IntKind.i64 n)) ?_
        symm
        unfold ck
        first
        | (rw [if_pos (by omega)]; done)
        | (rw [if_neg (by omega), if_pos (by omega)]; done)
        | (rw [if_neg (by omega), if_neg (by omega), if_pos (by omega)]; done)
        | (rw [if_neg (by omega), if_neg (by omega), if_neg (by omega), if_pos (by omega)]; done)
        | (rw [if_neg (by omega), if_neg (by omega), if_neg (by omega), if_neg (by omega), if_pos (by omega)]; done)
        | (rw [if_neg (by omega), if_neg (by omega), if_neg (by omega), if_neg (by omega), if_neg (by omega)]
           first
           | exact (aS hrows (by omega) (by rw [cr hc32.1 hc32.2 (j := j) (by omega) (by unfold bU; omega)]; decide)).trans (cr hc32.1 hc32.2 (by omega) (by unfold bU; omega))
           | exact (aS hrows (by omega) (by rw [cp hc32]; decide)).trans (cp hc32)
           | exact bz fun i hi => hrows i (by omega))
end Go.Proofs.Ytdkgcbhbpdbmnaa
namespace Go.Proofs.Ytdkgcbhbpdbmnaa
open Go Go.AV
open Nat renaming reduceEqDiff → E, reduceAdd → D, reduceLeDiff → J, reduceLT → S, reduceMul → M, reduceSub → O
open List renaming set_cons_zero → aq, set_cons_succ → ao
set_option maxRecDepth 100000 in
theorem pS (m : Mly) : bB Try.prog 70 [m.av] (.one (.list (.int .i64) (iD m))) := by
 refine aQ Try.func70 rfl (by kernel_rfl) (Nat.le_of_ble_eq_true rfl) rfl fun C hP hN hB => ?_
 replace hN : C.N = 24 := hN
 simp only [Y, D]
 refine ab fun K1 hK1 => ?_
 refine ah hP hN rfl ?_
 iterate 2 (refine aa rfl fun K0 V => ?_; simp only [zE, op1, ev, lkp, ag, af, bV, ak, reduceCtorEq, E, D, J, S, M, O, Try.el26, Try.st58, Try.td26, Try.td58, Mly.av]; (repeat refine And.intro (by first | omega | assumption | exact rfl) ?_); refine V _ ?_; clear V K0; simp only [put, app, Z, ae, zE, zS, D])
 refine ai ?_
 refine hK1 _ ?_; clear hK1; refine ad [0, 1, 2] ?_; simp only [U, lkp, zE, reduceCtorEq, E, Y, D]
 refine ab fun K2 hK2 => ?_
 refine ab fun K3 hK3 => ?_
 refine ah hP hN rfl ?_
 (refine aa rfl fun K0 V => ?_; simp only [zE, op1, ev, lkp, ag, af, ay, Nat.mul_one, au, ax, acs, Ty.dflt, zG, am, reduceCtorEq, E, D, J, S, M, O, Try.st58, Try.td58, Mly.av]; (repeat refine And.intro (by first | omega | assumption | exact rfl) ?_); refine V _ ?_; clear V K0; simp only [put, app, Z, ae, zE, zS, D])
 refine aa rfl fun K0 V => ?_
 refine aR (h := az (mP m)) rfl rfl (by first | exact rfl | (simp only [ev, U, lkp, zE, reduceCtorEq, E, Y, D]; exact rfl)) (by simp only [zE, zG, op1, ev, lkp, ag, af, ak, acs, aW, mv1, mvC, Ty.dflt, reduceCtorEq, E, D, J, S, M, O, Mly.av]) ?_
 refine V _ ?_; clear V K0; simp only [put, app, Z, ae, zE, zS, D]
 (refine aa rfl fun K0 V => ?_; simp only [zE, op1, ev, lkp, ag, af, aC, aE, aD, ar, aA, aP, reduceCtorEq, E, D, J, S, M, O, Try.td29, Try.td4, Mly.av]; (repeat refine And.intro (by first | omega | assumption | exact rfl) ?_); refine V _ ?_; clear V K0; simp only [put, app, Z, ae, zE, zS, D])
 refine ai ?_
 refine hK3 _ ?_; clear hK3; refine ad [0, 1, 2, 8] ?_; simp only [U, lkp, zE, reduceCtorEq, E, Y, D]
 refine aB (by simp only [ev, U, lkp, zE, reduceCtorEq, E, Y, D]; exact rfl) (fun hc4 => ?_) (fun hc4 => ?_)
 ·(try simp only [zB, reduceCtorEq] at hc4)
  refine ab fun K5 hK5 => ?_
  refine ah hP hN rfl ?_
  (refine aa rfl fun K0 V => ?_; simp only [zE, op1, ev, lkp, ag, af, ev, reduceCtorEq, E, D, J, S, M, O, Try.el26, Try.td26, Mly.av]; refine V _ ?_; clear V K0; simp only [put, app, Z, ae, zE, zS, D])
  refine ai ?_
  refine hK5 _ ?_; clear hK5; refine ad [0, 1, 2, 8] ?_; simp only [U, lkp, zE, reduceCtorEq, E, Y, D]
  refine aF ?_
  refine ⟨by first | exact .inl rfl | exact .inr rfl, _, rfl, ?_⟩; simp only [fzV, fz1, fzC, List.map_cons, List.map_nil, U, lkp, zE, reduceCtorEq, E, Y, D, Mly.av]
  first
  | (rw [kM ‹¬ck m = 0›]; exact jJ (aT rfl))
  | (rw [jx hv]; exact VLE.of_eq rfl)
 ·(try simp only [zB, reduceCtorEq] at hc4)
  have hv : ck m = 0 := by omega
  have hm := lf hv; have hol := hm.ol; have hi1 := hm.i1; have hi2 := hm.i2; have hn1 := hm.n1; have hn2 := hm.n2
  refine aJ ?_
  refine hK2 _ ?_; clear hK2; refine ad [0, 1, 2, 8] ?_; simp only [U, lkp, zE, reduceCtorEq, E, Y, D]
  refine ab fun K6 hK6 => ?_
  refine ah hP hN rfl ?_
  (refine aa rfl fun K0 V => ?_; simp only [zE, op1, ev, lkp, ag, af, ev, reduceCtorEq, E, D, J, S, M, O, Try.el26, Try.td26, Mly.av]; refine V _ ?_; clear V K0; simp only [put, app, Z, ae, zE, zS, D])
  refine ai ?_
  refine hK6 _ ?_; clear hK6; refine ad [0, 1, 2, 3, 8] ?_; simp only [U, lkp, zE, reduceCtorEq, E, Y, D]
  refine ab fun K7 hK7 => ?_
  refine ab fun K8 hK8 => ?_
  refine ah hP hN rfl ?_
  iterate 4 (refine aa rfl fun K0 V => ?_; simp only [zE, op1, ev, lkp, ag, af, aw, ay, Nat.mul_one, au, ax, acs, Ty.dflt, zG, am, aG, bo, bc, aX, aZ, bl, Nat.div_one, aO, b0, Ty.size, aK, dite_true, reduceCtorEq, E, D, J, S, M, O, Try.el22, Try.st58, Try.td22, Try.td3, Try.td58, Mly.av]; (repeat refine And.intro (by first | omega | assumption | exact rfl) ?_); (first | refine V _ ?_ | refine Or.inl (V _ ?_)); clear V K0; simp only [put, app, Z, ae, zE, zS, D])
  refine ai ?_
  refine hK8 _ ?_; clear hK8; refine ad [0, 1, 2, 3, 8, 10, 11, 12] ?_; simp only [U, lkp, zE, reduceCtorEq, E, Y, D]
  refine aM ?_
  refine hY 3 (.int .i64) 3 (by decide) rfl ?_; simp only [List.length_cons, List.length_nil, List.cons_append, List.nil_append, Nat.zero_add, D]
  refine bp (fun n9 s9 => ∃ (s : Nat) (v : Nat), (s ≤ m.ot.length) ∧ n9 = m.ot.length - s ∧ s9 = { env := [(3, .one (.row 1 v)), (10, .one (.list (.list (.int .i64)) m.ot)), (11, .one (.int .i64 (m.ot.length : Int))), (12, .one (.int .i64 (s : Int)))], L := [.vars 58 [.int .i64 m.inp, .int .i64 m.st, .list (.list (.int .i64)) m.nx, .list (.list (.int .i64)) m.ot], .row (.int .i64) 3 v (m.ot.take s).flatten] }) ?_ ?_
  ·exact ⟨_, _, aL [3, 10, 11, 12], 0, 0, Nat.zero_le _, rfl, rfl⟩
  ·rintro n9 s9 ⟨s, v, hs, rfl, rfl⟩
   refine ab fun K10 hK10 => ?_
   refine ah hP hN rfl ?_
   (refine aa rfl fun K0 V => ?_; simp only [zE, op1, ev, lkp, ag, af, aC, aE, aD, ar, aA, aP, reduceCtorEq, E, D, J, S, M, O, Try.td3, Mly.av]; (repeat refine And.intro (by first | omega | assumption | exact rfl) ?_); refine V _ ?_; clear V K0; simp only [put, app, Z, ae, zE, zS, D])
   refine ai ?_
   refine hK10 _ ?_; clear hK10; refine ad [3, 10, 11, 12, 13] ?_; simp only [U, lkp, zE, reduceCtorEq, E, Y, D]
   refine ab fun K11 hK11 => ?_
   refine aB (by simp only [ev, U, lkp, zE, reduceCtorEq, E, Y, D]; exact rfl) (fun hc12 => ?_) (fun hc12 => ?_)
   ·(try simp only [zB, reduceCtorEq] at hc12)
    refine aJ ?_
    refine hK11 _ ?_; clear hK11; refine ad [3, 10, 11, 12, 13] ?_; simp only [U, lkp, zE, reduceCtorEq, E, Y, D]
    refine ab fun K13 hK13 => ?_
    refine aM ?_
    refine ab fun K14 hK14 => ?_
    refine ah hP hN rfl ?_
    iterate 3 (refine aa rfl fun K0 V => ?_; simp only [zE, op1, ev, lkp, ag, af, aH, zG, Ty.dflt, Ty.size, Nat.mul_one, ne_eq, not_false_eq_true, Int.natCast_one, Int.mul_one, ay, au, ax, acs, am, reduceCtorEq, E, D, J, S, M, O, Try.el22, Try.el26, Try.td22, Try.td26, Mly.av]; (repeat refine And.intro (by first | omega | assumption | exact rfl) ?_); refine V _ ?_; clear V K0; simp only [put, app, Z, ae, zE, zS, D])
    refine ai ?_
    refine hK14 _ ?_; clear hK14; refine ad [3, 5, 10, 11, 12, 13] ?_; simp only [U, lkp, zE, reduceCtorEq, E, Y, D]
    have hf2 := fI hm (k := s + 1) (by omega); have hf3 := fI hm (k := s) (by omega); rw [cR _ (by omega), List.length_append] at hf2
    refine ah hP hN rfl ?_
    iterate 4 (refine aa rfl fun K0 V => ?_; simp only [zE, op1, ev, lkp, ag, af, aG, bo, bc, aX, aZ, bl, Nat.div_one, aO, b0, Ty.size, aK, dite_true, reduceCtorEq, E, D, J, S, M, O, Try.el26, Try.td26, Mly.av]; (repeat refine And.intro (by first | omega | assumption | exact rfl) ?_); (first | refine V _ ?_ | refine Or.inl (V _ ?_)); clear V K0; simp only [put, app, Z, ae, zE, zS, D])
    refine ai ?_
    refine hK13 _ ?_; clear hK13; refine ad [3, 5, 10, 11, 12, 13] ?_; simp only [U, lkp, zE, reduceCtorEq, E, Y, D]
    refine ah hP hN rfl ?_
    iterate 2 (refine aa rfl fun K0 V => ?_; simp only [zE, op1, ev, lkp, ag, af, aC, aE, aD, ar, aA, aP, reduceCtorEq, E, D, J, S, M, O, Try.td3, Mly.av]; (repeat refine And.intro (by first | omega | assumption | exact rfl) ?_); refine V _ ?_; clear V K0; simp only [put, app, Z, ae, zE, zS, D])
    refine ai ?_
    refine ⟨_, _, ?_, aL [3, 10, 11, 12], s + 1, v + 1, by omega, rfl, ?_⟩
    · omega
    · rw [cR _ (by omega)]; rfl
   ·(try simp only [zB, reduceCtorEq] at hc12)
    refine bm ?_
    refine hK7 _ ?_; clear hK7; refine ad [3, 10, 11, 12, 13] ?_; simp only [U, lkp, zE, reduceCtorEq, E, Y, D]
    refine ab fun K15 hK15 => ?_
    have hsl : s = m.ot.length := by omega
    subst hsl
    rw [List.take_length]
    have hf2 := fI hm (k := m.ot.length) (Nat.le_refl _); have hf3 := jb hm m.ot.length (Nat.le_refl _); rw [List.take_length] at hf2 hf3
    have hp9 : (1 : Int) * 1 ≤ m.ot.length * m.inp := Int.mul_le_mul (by omega) (by omega) (by omega) (by omega)
    have hpos : 0 < m.ot.flatten.length := by omega
    refine ah hP hN rfl ?_
    (refine aa rfl fun K0 V => ?_; simp only [zE, op1, ev, lkp, ag, af, ev, reduceCtorEq, E, D, J, S, M, O, Try.el26, Try.td26, Mly.av]; refine V _ ?_; clear V K0; simp only [put, app, Z, ae, zE, zS, D])
    refine aa rfl fun K0 V => ?_
    refine aR (h := nD (k := 1) (ver := v) (xs := m.ot.flatten) pv rfl (by omega) (by omega)) rfl rfl (by first | exact rfl | (simp only [ev, U, lkp, zE, reduceCtorEq, E, Y, D]; exact rfl)) (by simp only [zE, zG, op1, ev, lkp, ag, af, ak, acs, aW, mv1, mvC, Ty.dflt, reduceCtorEq, E, D, J, S, M, O, Mly.av]) ?_
    refine V _ ?_; clear V K0; simp only [put, app, Z, ae, zE, zS, D]
    refine ai ?_
    refine hK15 _ ?_; clear hK15; refine ad [3, 10, 11, 12, 13] ?_; simp only [U, lkp, zE, reduceCtorEq, E, Y, D]
    refine ab fun K16 hK16 => ?_
    refine ah hP hN rfl ?_
    (refine aa rfl fun K0 V => ?_; simp only [zE, op1, ev, lkp, ag, af, ev, reduceCtorEq, E, D, J, S, M, O, Try.el26, Try.td26, Mly.av]; refine V _ ?_; clear V K0; simp only [put, app, Z, ae, zE, zS, D])
    refine aa rfl fun K0 V => ?_
    refine aR (h := kg (k := 1) (ver := v) (xs := eO m.ot.flatten) mD rfl (by rw [jz]; omega) (by rw [jz]; omega) lb) rfl rfl (by first | exact rfl | (simp only [ev, U, lkp, zE, reduceCtorEq, E, Y, D]; exact rfl)) (by simp only [zE, zG, op1, ev, lkp, ag, af, ak, acs, aW, mv1, mvC, Ty.dflt, reduceCtorEq, E, D, J, S, M, O, Mly.av]) ?_
    refine V _ ?_; clear V K0; simp only [put, app, Z, ae, zE, zS, D]
    (refine aa rfl fun K0 V => ?_; simp only [zE, op1, ev, lkp, ag, af, ev, reduceCtorEq, E, D, J, S, M, O, Try.el26, Try.td26, Mly.av]; refine V _ ?_; clear V K0; simp only [put, app, Z, ae, zE, zS, D])
    refine ai ?_
    refine hK16 _ ?_; clear hK16; refine ad [2, 3, 10, 11, 12, 13] ?_; simp only [U, lkp, zE, reduceCtorEq, E, Y, D]
    refine aF ?_
    refine ⟨by first | exact .inl rfl | exact .inr rfl, _, rfl, ?_⟩; simp only [fzV, fz1, fzC, List.map_cons, List.map_nil, U, lkp, zE, reduceCtorEq, E, Y, D, Mly.av]
    first
    | (rw [kM ‹¬ck m = 0›]; exact jJ (aT rfl))
    | (rw [jx hv]; exact VLE.of_eq rfl)
end Go.Proofs.Ytdkgcbhbpdbmnaa
