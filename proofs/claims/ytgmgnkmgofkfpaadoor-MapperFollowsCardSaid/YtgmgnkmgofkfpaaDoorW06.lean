/- Contracts of functions of this seat, each out of a walk through its code, and plain facts on what they compute. Conditions: those that each theorem names. -/
import Derived.Test.YtgmgnkmgofkfpaaDoorW05
set_option linter.unusedSimpArgs false
set_option linter.unusedVariables false
namespace Go.Proofs.YtgmgnkmgofkfpaaDoor
open Go Go.AV
open Nat renaming reduceEqDiff → J, reduceAdd → E, reduceLeDiff → U, reduceLT → Z, reduceMul → V, reduceSub → Y
open List renaming set_cons_zero → aw, set_cons_succ → au
set_option maxRecDepth 100000 in
set_option maxHeartbeats 2000000 in
theorem rM (m : Mly) (p : Mpr) (w : List Int) : cp Tryd.prog 7 [m.av, p.av, .one (.list (.int .i64) w)] (.one (.bool true)) := by
 refine bC Tryd.func7 rfl (by kernel_rfl) (Nat.le_of_ble_eq_true rfl) rfl fun C hP hN hB => ?_
 replace hN : C.N = 110 := hN
 simp only [ae, E]
 refine gT 2 rfl fun hf2 => ?_; simp only [lkp, if_true, if_false, reduceCtorEq, J, eq_self, Nat.one_ne_zero, Nat.zero_ne_one, kK, jJ, kg, Fit, and_true, implies_true, true_and] at hf2
 refine ah fun K1 hK1 => ?_
 refine aq hP hN rfl ?_
 iterate 3 (refine ag rfl fun K0 aa => ?_; simp only [zE, op1, ev, lkp, am, ak, cR, aA, reduceCtorEq, J, E, U, Z, V, Y, Tryd.st24, Tryd.st47, Tryd.td24, Tryd.td4, Tryd.td47, Mpr.av, Mly.av, Mres.av]; (repeat refine And.intro (by first | omega | assumption | exact rfl) ?_); refine aa _ ?_; clear aa K0; simp only [put, app, af, aj, zE, zS, E, Mres.av])
 refine ao ?_
 refine hK1 _ ?_; clear hK1; refine ai [0, 1, 2, 3, 4, 6] ?_; simp only [ad, lkp, zE, reduceCtorEq, J, ae, E]
 refine ah fun K2 hK2 => ?_
 refine ah fun K3 hK3 => ?_
 refine aq hP hN rfl ?_
 (refine ag rfl fun K0 aa => ?_; simp only [zE, op1, ev, lkp, am, ak, aE, Nat.mul_one, aC, aD, acs, Ty.dflt, zG, az, reduceCtorEq, J, E, U, Z, V, Y, Tryd.st47, Tryd.td47, Mpr.av, Mly.av, Mres.av]; (repeat refine And.intro (by first | omega | assumption | exact rfl) ?_); refine aa _ ?_; clear aa K0; simp only [put, app, af, aj, zE, zS, E, Mres.av])
 refine ag rfl fun K0 aa => ?_
 refine b9 (h := aR (pS m)) rfl rfl (by first | exact rfl | (simp only [ev, ad, lkp, zE, reduceCtorEq, J, ae, E]; exact rfl)) (by simp only [zE, zG, op1, ev, lkp, am, ak, aA, acs, bq, mv1, mvC, Ty.dflt, reduceCtorEq, J, E, U, Z, V, Y, Mpr.av, Mly.av, Mres.av]) ?_
 refine aa _ ?_; clear aa K0; simp only [put, app, af, aj, zE, zS, E, Mres.av]
 (refine ag rfl fun K0 aa => ?_; simp only [zE, op1, ev, lkp, am, ak, eV, reduceCtorEq, J, E, U, Z, V, Y, Tryd.td4, Mpr.av, Mly.av, Mres.av]; (repeat refine And.intro (by first | omega | assumption | exact rfl) ?_); refine aa _ ?_; clear aa K0; simp only [put, app, af, aj, zE, zS, E, Mres.av])
 (refine ag rfl fun K0 aa => ?_; simp only [zE, op1, ev, lkp, am, ak, ev, reduceCtorEq, J, E, U, Z, V, Y, Tryd.td4, Mpr.av, Mly.av, Mres.av]; refine aa _ ?_; clear aa K0; simp only [put, app, af, aj, zE, zS, E, Mres.av])
 refine' aZ (want := false) 3 rfl (m := 21) (by simp only [ad, lkp, zE, reduceCtorEq, J, ae, E]; exact rfl) (by kernel_rfl) rfl rfl rfl rfl rfl (fun hg4 => ?a4) ?b4 ?c4
 case a4 =>
  have hq4 := hg4; (try simp only [zB, reduceCtorEq] at hg4); simp only [List.take_succ_cons, List.take_zero, List.cons_append, List.nil_append]
  (refine aB rfl fun K0 aa => ?_; simp only [zE, op1, ev, lkp, am, ak, aE, Nat.mul_one, aC, aD, acs, Ty.dflt, zG, az, reduceCtorEq, J, E, U, Z, V, Y, Tryd.st24, Tryd.td24, Mpr.av, Mly.av, Mres.av]; (repeat refine And.intro (by first | omega | assumption | exact rfl) ?_); refine aa _ ?_; clear aa K0; simp only [put, app, af, aj, zE, zS, E, Mres.av])
  refine aB rfl fun K0 aa => ?_
  refine b9 (h := aR (ni p)) rfl rfl (by first | exact rfl | (simp only [ev, ad, lkp, zE, reduceCtorEq, J, ae, E]; exact rfl)) (by simp only [zE, zG, op1, ev, lkp, am, ak, aA, acs, bq, mv1, mvC, Ty.dflt, reduceCtorEq, J, E, U, Z, V, Y, Mpr.av, Mly.av, Mres.av]) ?_
  refine aa _ ?_; clear aa K0; simp only [put, app, af, aj, zE, zS, E, Mres.av]
  (refine aB rfl fun K0 aa => ?_; simp only [zE, op1, ev, lkp, am, ak, eV, reduceCtorEq, J, E, U, Z, V, Y, Tryd.td4, Mpr.av, Mly.av, Mres.av]; (repeat refine And.intro (by first | omega | assumption | exact rfl) ?_); refine aa _ ?_; clear aa K0; simp only [put, app, af, aj, zE, zS, E, Mres.av])
  (refine ag rfl fun K0 aa => ?_; simp only [zE, op1, ev, lkp, am, ak, bB, reduceCtorEq, J, E, U, Z, V, Y, Tryd.td4, Mpr.av, Mly.av, Mres.av]; refine aa _ ?_; clear aa K0; simp only [put, app, af, aj, zE, zS, E, Mres.av])
  refine ao ?_
  refine ⟨by simp only [ad, lkp, zE, reduceCtorEq, J, ae, E]; exact rfl, rfl, ?_, rfl⟩; (repeat refine b8 rfl ?_); exact bG (by exact rfl) hq4
 case b4 => exact bD (by first | rfl | (simp [cf]; done) | decide)
 simp only [bp, bg]
 (refine ag rfl fun K0 aa => ?_; simp only [zE, op1, ev, lkp, am, ak, ev, reduceCtorEq, J, E, U, Z, V, Y, Tryd.td4, Mpr.av, Mly.av, Mres.av]; refine aa _ ?_; clear aa K0; simp only [put, app, af, aj, zE, zS, E, Mres.av])
 refine' aZ (want := false) 3 rfl (m := 26) (by simp only [ad, lkp, zE, reduceCtorEq, J, ae, E]; exact rfl) (by kernel_rfl) rfl rfl rfl rfl rfl (fun hg5 => ?a5) ?b5 ?c5
 case a5 =>
  have hq5 := hg5; (try simp only [zB, reduceCtorEq] at hg5); simp only [List.take_succ_cons, List.take_zero, List.cons_append, List.nil_append]
  (refine aB rfl fun K0 aa => ?_; simp only [zE, op1, ev, lkp, am, ak, ev, reduceCtorEq, J, E, U, Z, V, Y, Tryd.el25, Tryd.td25, Mpr.av, Mly.av, Mres.av]; refine aa _ ?_; clear aa K0; simp only [put, app, af, aj, zE, zS, E, Mres.av])
  (refine aB rfl fun K0 aa => ?_; simp only [zE, op1, ev, lkp, am, ak, aK, bK, br, bj, bl, bJ, Nat.div_one, aP, bm, Ty.size, aL, dite_true, reduceCtorEq, J, E, U, Z, V, Y, Tryd.el25, Tryd.td25, Tryd.td3, Mpr.av, Mly.av, Mres.av]; (repeat refine And.intro (by first | omega | assumption | exact rfl) ?_); (first | refine aa _ ?_ | refine Or.inl (aa _ ?_)); clear aa K0; simp only [put, app, af, aj, zE, zS, E, Mres.av])
  (refine aB rfl fun K0 aa => ?_; simp only [zE, op1, ev, lkp, am, ak, aG, aH, aI, ay, aF, aS, reduceCtorEq, J, E, U, Z, V, Y, Tryd.td3, Tryd.td4, Mpr.av, Mly.av, Mres.av]; (repeat refine And.intro (by first | omega | assumption | exact rfl) ?_); refine aa _ ?_; clear aa K0; simp only [put, app, af, aj, zE, zS, E, Mres.av])
  (refine ag rfl fun K0 aa => ?_; simp only [zE, op1, ev, lkp, am, ak, bB, reduceCtorEq, J, E, U, Z, V, Y, Tryd.td4, Mpr.av, Mly.av, Mres.av]; refine aa _ ?_; clear aa K0; simp only [put, app, af, aj, zE, zS, E, Mres.av])
  refine ao ?_
  refine ⟨by simp only [ad, lkp, zE, reduceCtorEq, J, ae, E]; exact rfl, rfl, ?_, rfl⟩; (repeat refine b8 rfl ?_); exact bG (by exact rfl) hq5
 case b5 => exact bD (by first | rfl | (simp [cf]; done) | decide)
 simp only [bp, bg]
 refine ao ?_
 refine hK3 _ ?_; clear hK3; refine ai [0, 1, 2, 3, 4, 6, 30] ?_; simp only [ad, lkp, zE, reduceCtorEq, J, ae, E]
 refine aJ (by simp only [ev, ad, lkp, zE, reduceCtorEq, J, ae, E]; exact rfl) (fun hc6 => ?_) (fun hc6 => ?_)
 ·(try simp only [zB, reduceCtorEq] at hc6)
  refine ah fun K7 hK7 => ?_
  refine aq hP hN rfl ?_
  refine ag rfl fun K0 aa => ?_
  refine b9 (h := aR fj) rfl rfl (by first | exact rfl | (simp only [ev, ad, lkp, zE, reduceCtorEq, J, ae, E]; exact rfl)) (by simp only [zE, zG, op1, ev, lkp, am, ak, aA, acs, bq, mv1, mvC, Ty.dflt, reduceCtorEq, J, E, U, Z, V, Y, Mpr.av, Mly.av, Mres.av]) ?_
  refine aa _ ?_; clear aa K0; simp only [put, app, af, aj, zE, zS, E, Mres.av]
  (refine ag rfl fun K0 aa => ?_; simp only [zE, op1, ev, lkp, am, ak, ev, reduceCtorEq, J, E, U, Z, V, Y, Tryd.td4, Mpr.av, Mly.av, Mres.av]; refine aa _ ?_; clear aa K0; simp only [put, app, af, aj, zE, zS, E, Mres.av])
  refine ao ?_
  refine hK7 _ ?_; clear hK7; refine ai [0, 1, 2, 3, 4, 6, 30] ?_; simp only [ad, lkp, zE, reduceCtorEq, J, ae, E]
  refine aQ ?_
  refine ⟨by first | exact .inl rfl | exact .inr rfl, _, rfl, ?_⟩; simp only [fzV, fz1, fzC, List.map_cons, List.map_nil, ad, lkp, zE, reduceCtorEq, J, ae, E, Mpr.av, Mly.av, Mres.av]
  refine VLE.of_eq ?_
  first | rfl | (refine congrArg (fun b => AV.one (AC.bool b)) ?_; simp [hno]; done)
 ·(try simp only [zB, reduceCtorEq] at hc6)
  refine aM ?_
  refine hK2 _ ?_; clear hK2; refine ai [0, 1, 2, 3, 4, 6, 30] ?_; simp only [ad, lkp, zE, reduceCtorEq, J, ae, E]
  refine ah fun K8 hK8 => ?_
  refine aq hP hN rfl ?_
  iterate 2 (refine ag rfl fun K0 aa => ?_; simp only [zE, op1, ev, lkp, am, ak, aE, Nat.mul_one, aC, aD, acs, Ty.dflt, zG, az, reduceCtorEq, J, E, U, Z, V, Y, Tryd.st24, Tryd.st47, Tryd.td24, Tryd.td47, Mpr.av, Mly.av, Mres.av]; (repeat refine And.intro (by first | omega | assumption | exact rfl) ?_); refine aa _ ?_; clear aa K0; simp only [put, app, af, aj, zE, zS, E, Mres.av])
  refine ag rfl fun K0 aa => ?_
  refine b9 (h := aR (lf m p)) rfl rfl (by first | exact rfl | (simp only [ev, ad, lkp, zE, reduceCtorEq, J, ae, E]; exact rfl)) (by simp only [zE, zG, op1, ev, lkp, am, ak, aA, acs, bq, mv1, mvC, Ty.dflt, reduceCtorEq, J, E, U, Z, V, Y, Mpr.av, Mly.av, Mres.av, Mres.av]) ?_
  refine aa _ ?_; clear aa K0; simp only [put, app, af, aj, zE, zS, E, Mres.av]
  iterate 11 (refine ag rfl fun K0 aa => ?_; simp only [zE, op1, ev, lkp, am, ak, bW, cv, bV, Nat.mul_one, aA, aV, aL, acs, Ty.size, Ty.dflt, zG, reduceCtorEq, J, E, U, Z, V, Y, Tryd.st47, Tryd.st50, Tryd.td1, Tryd.td2, Tryd.td26, Tryd.td3, Tryd.td4, Tryd.td47, Tryd.td50, Mpr.av, Mly.av, Mres.av]; (repeat refine And.intro (by first | omega | assumption | exact rfl) ?_); (first | refine aa _ ?_ | refine Or.inl (aa _ ?_)); clear aa K0; simp only [put, app, af, aj, zE, zS, E, Mres.av])
  refine ao ?_
  refine hK8 _ ?_; clear hK8; refine ai [0, 1, 2, 3, 4, 6, 7, 9, 10, 30] ?_; simp only [ad, lkp, zE, reduceCtorEq, J, ae, E]
  refine ah fun K9 hK9 => ?_
  refine ah fun K10 hK10 => ?_
  refine aq hP hN rfl ?_
  iterate 2 (refine ag rfl fun K0 aa => ?_; simp only [zE, op1, ev, lkp, am, ak, aG, aH, aI, ay, aF, aS, reduceCtorEq, J, E, U, Z, V, Y, Tryd.td26, Tryd.td4, Mpr.av, Mly.av, Mres.av]; (repeat refine And.intro (by first | omega | assumption | exact rfl) ?_); refine aa _ ?_; clear aa K0; simp only [put, app, af, aj, zE, zS, E, Mres.av])
  (refine ag rfl fun K0 aa => ?_; simp only [zE, op1, ev, lkp, am, ak, ev, reduceCtorEq, J, E, U, Z, V, Y, Tryd.td4, Mpr.av, Mly.av, Mres.av]; refine aa _ ?_; clear aa K0; simp only [put, app, af, aj, zE, zS, E, Mres.av])
  refine' aZ (want := false) 2 rfl (m := 42) (by simp only [ad, lkp, zE, reduceCtorEq, J, ae, E]; exact rfl) (by kernel_rfl) rfl rfl rfl rfl rfl (fun hg11 => ?a11) ?b11 ?c11
  case a11 =>
   have hq11 := hg11; (try simp only [zB, reduceCtorEq] at hg11); simp only [List.take_succ_cons, List.take_zero, List.cons_append, List.nil_append]
   (refine aB rfl fun K0 aa => ?_; simp only [zE, op1, ev, lkp, am, ak, ev, reduceCtorEq, J, E, U, Z, V, Y, Tryd.td4, Mpr.av, Mly.av, Mres.av]; refine aa _ ?_; clear aa K0; simp only [put, app, af, aj, zE, zS, E, Mres.av])
   (refine aB rfl fun K0 aa => ?_; simp only [zE, op1, ev, lkp, am, ak, eV, reduceCtorEq, J, E, U, Z, V, Y, Tryd.td4, Mpr.av, Mly.av, Mres.av]; (repeat refine And.intro (by first | omega | assumption | exact rfl) ?_); refine aa _ ?_; clear aa K0; simp only [put, app, af, aj, zE, zS, E, Mres.av])
   (refine ag rfl fun K0 aa => ?_; simp only [zE, op1, ev, lkp, am, ak, bB, reduceCtorEq, J, E, U, Z, V, Y, Tryd.td4, Mpr.av, Mly.av, Mres.av]; refine aa _ ?_; clear aa K0; simp only [put, app, af, aj, zE, zS, E, Mres.av])
   refine ao ?_
   refine ⟨by simp only [ad, lkp, zE, reduceCtorEq, J, ae, E]; exact rfl, rfl, ?_, rfl⟩; (repeat refine b8 rfl ?_); exact bG (by exact rfl) hq11
  case b11 => exact bD (by first | rfl | (simp [cf]; done) | decide)
  simp only [bp, bg]
  refine ao ?_
  refine hK10 _ ?_; clear hK10; refine ai [0, 1, 2, 3, 4, 6, 7, 9, 10, 30, 45] ?_; simp only [ad, lkp, zE, reduceCtorEq, J, ae, E]
  refine aJ (by simp only [ev, ad, lkp, zE, reduceCtorEq, J, ae, E]; exact rfl) (fun hc12 => ?_) (fun hc12 => ?_)
  ·(try simp only [zB, reduceCtorEq] at hc12)
   have hno := pg (m := m) (p := p) hc12
   refine ah fun K13 hK13 => ?_
   refine aq hP hN rfl ?_
   iterate 4 (refine ag rfl fun K0 aa => ?_; simp only [zE, op1, ev, lkp, am, ak, ax, aE, Nat.mul_one, aC, aD, acs, Ty.dflt, zG, az, aK, bK, br, bj, bl, bJ, Nat.div_one, aP, bm, Ty.size, aL, dite_true, aG, aH, aI, ay, aF, aS, reduceCtorEq, J, E, U, Z, V, Y, Tryd.el22, Tryd.st47, Tryd.td2, Tryd.td22, Tryd.td3, Tryd.td4, Tryd.td47, Mpr.av, Mly.av, Mres.av]; (repeat refine And.intro (by first | omega | assumption | exact rfl) ?_); (first | refine aa _ ?_ | refine Or.inl (aa _ ?_)); clear aa K0; simp only [put, app, af, aj, zE, zS, E, Mres.av])
   (refine ag rfl fun K0 aa => ?_; simp only [zE, op1, ev, lkp, am, ak, ev, reduceCtorEq, J, E, U, Z, V, Y, Tryd.td4, Mpr.av, Mly.av, Mres.av]; refine aa _ ?_; clear aa K0; simp only [put, app, af, aj, zE, zS, E, Mres.av])
   refine' aZ (want := true) 1 rfl (m := 50) (by simp only [ad, lkp, zE, reduceCtorEq, J, ae, E]; exact rfl) (by kernel_rfl) rfl rfl rfl rfl rfl (fun hg14 => ?a14) ?b14 ?c14
   case a14 =>
    have hq14 := hg14; (try simp only [zB, reduceCtorEq] at hg14); simp only [List.take_succ_cons, List.take_zero, List.cons_append, List.nil_append]
    refine aB rfl fun K0 aa => ?_
    refine b9 (h := aR fj) rfl rfl (by first | exact rfl | (simp only [ev, ad, lkp, zE, reduceCtorEq, J, ae, E]; exact rfl)) (by simp only [zE, zG, op1, ev, lkp, am, ak, aA, acs, bq, mv1, mvC, Ty.dflt, reduceCtorEq, J, E, U, Z, V, Y, Mpr.av, Mly.av, Mres.av]) ?_
    refine aa _ ?_; clear aa K0; simp only [put, app, af, aj, zE, zS, E, Mres.av]
    (refine ag rfl fun K0 aa => ?_; simp only [zE, op1, ev, lkp, am, ak, bB, reduceCtorEq, J, E, U, Z, V, Y, Tryd.td4, Mpr.av, Mly.av, Mres.av]; refine aa _ ?_; clear aa K0; simp only [put, app, af, aj, zE, zS, E, Mres.av])
    refine ao ?_
    refine ⟨by simp only [ad, lkp, zE, reduceCtorEq, J, ae, E]; exact rfl, rfl, ?_, rfl⟩; (repeat refine b8 rfl ?_); exact bG (by exact rfl) hq14
   case b14 => exact bD (by first | rfl | (simp [cf]; done) | decide)
   simp only [bp, bg]
   (refine ag rfl fun K0 aa => ?_; simp only [zE, op1, ev, lkp, am, ak, ev, reduceCtorEq, J, E, U, Z, V, Y, Tryd.td4, Mpr.av, Mly.av, Mres.av]; refine aa _ ?_; clear aa K0; simp only [put, app, af, aj, zE, zS, E, Mres.av])
   refine ao ?_
   refine hK13 _ ?_; clear hK13; refine ai [0, 1, 2, 3, 4, 6, 7, 9, 10, 30, 45] ?_; simp only [ad, lkp, zE, reduceCtorEq, J, ae, E]
   refine aQ ?_
   refine ⟨by first | exact .inl rfl | exact .inr rfl, _, rfl, ?_⟩; simp only [fzV, fz1, fzC, List.map_cons, List.map_nil, ad, lkp, zE, reduceCtorEq, J, ae, E, Mpr.av, Mly.av, Mres.av]
   refine VLE.of_eq ?_
   first | rfl | (refine congrArg (fun b => AV.one (AC.bool b)) ?_; simp [hno]; done)
  ·(try simp only [zB, reduceCtorEq] at hc12)
   have hyes : (mdl m p).e = 0 ∧ (mdl m p).f = true := by have h9 := hc12; simpa using h9
   refine aM ?_
   refine hK9 _ ?_; clear hK9; refine ai [0, 1, 2, 3, 4, 6, 7, 9, 10, 30, 45] ?_; simp only [ad, lkp, zE, reduceCtorEq, J, ae, E]
   refine ah fun K15 hK15 => ?_
   refine aq hP hN rfl ?_
   iterate 2 (refine ag rfl fun K0 aa => ?_; simp only [zE, op1, ev, lkp, am, ak, aE, Nat.mul_one, aC, aD, acs, Ty.dflt, zG, az, reduceCtorEq, J, E, U, Z, V, Y, Tryd.el25, Tryd.st24, Tryd.td24, Tryd.td25, Mpr.av, Mly.av, Mres.av]; (repeat refine And.intro (by first | omega | assumption | exact rfl) ?_); refine aa _ ?_; clear aa K0; simp only [put, app, af, aj, zE, zS, E, Mres.av])
   refine ag rfl fun K0 aa => ?_
   refine b9 (h := aR (nX p w)) rfl rfl (by first | exact rfl | (simp only [ev, ad, lkp, zE, reduceCtorEq, J, ae, E]; exact rfl)) (by simp only [zE, zG, op1, ev, lkp, am, ak, aA, acs, bq, mv1, mvC, Ty.dflt, reduceCtorEq, J, E, U, Z, V, Y, Mpr.av, Mly.av, Mres.av]) ?_
   refine aa _ ?_; clear aa K0; simp only [put, app, af, aj, zE, zS, E, Mres.av]
   iterate 5 (refine ag rfl fun K0 aa => ?_; simp only [zE, op1, ev, lkp, am, ak, bW, reduceCtorEq, J, E, U, Z, V, Y, Tryd.el25, Tryd.td1, Tryd.td25, Tryd.td26, Mpr.av, Mly.av, Mres.av]; refine aa _ ?_; clear aa K0; simp only [put, app, af, aj, zE, zS, E, Mres.av])
   refine ao ?_
   refine hK15 _ ?_; clear hK15; refine ai [0, 1, 2, 3, 4, 6, 7, 9, 10, 11, 12, 30, 45] ?_; simp only [ad, lkp, zE, reduceCtorEq, J, ae, E]
   refine ah fun K16 hK16 => ?_
   refine ah fun K17 hK17 => ?_
   refine aq hP hN rfl ?_
   iterate 2 (refine ag rfl fun K0 aa => ?_; simp only [zE, op1, ev, lkp, am, ak, aG, aH, aI, ay, aF, aS, reduceCtorEq, J, E, U, Z, V, Y, Tryd.td26, Tryd.td4, Mpr.av, Mly.av, Mres.av]; (repeat refine And.intro (by first | omega | assumption | exact rfl) ?_); refine aa _ ?_; clear aa K0; simp only [put, app, af, aj, zE, zS, E, Mres.av])
   refine ao ?_
   refine hK17 _ ?_; clear hK17; refine ai [0, 1, 2, 3, 4, 6, 7, 9, 10, 11, 12, 30, 45, 60] ?_; simp only [ad, lkp, zE, reduceCtorEq, J, ae, E]
   refine aJ (by simp only [ev, ad, lkp, zE, reduceCtorEq, J, ae, E]; exact rfl) (fun hc18 => ?_) (fun hc18 => ?_)
   ·(try simp only [zB, reduceCtorEq] at hc18)
    refine ah fun K19 hK19 => ?_
    refine aq hP hN rfl ?_
    refine ag rfl fun K0 aa => ?_
    refine b9 (h := aR fj) rfl rfl (by first | exact rfl | (simp only [ev, ad, lkp, zE, reduceCtorEq, J, ae, E]; exact rfl)) (by simp only [zE, zG, op1, ev, lkp, am, ak, aA, acs, bq, mv1, mvC, Ty.dflt, reduceCtorEq, J, E, U, Z, V, Y, Mpr.av, Mly.av, Mres.av]) ?_
    refine aa _ ?_; clear aa K0; simp only [put, app, af, aj, zE, zS, E, Mres.av]
    (refine ag rfl fun K0 aa => ?_; simp only [zE, op1, ev, lkp, am, ak, ev, reduceCtorEq, J, E, U, Z, V, Y, Tryd.td4, Mpr.av, Mly.av, Mres.av]; refine aa _ ?_; clear aa K0; simp only [put, app, af, aj, zE, zS, E, Mres.av])
    refine ao ?_
    refine hK19 _ ?_; clear hK19; refine ai [0, 1, 2, 3, 4, 6, 7, 9, 10, 11, 12, 30, 45, 60] ?_; simp only [ad, lkp, zE, reduceCtorEq, J, ae, E]
    refine aQ ?_
    refine ⟨by first | exact .inl rfl | exact .inr rfl, _, rfl, ?_⟩; simp only [fzV, fz1, fzC, List.map_cons, List.map_nil, ad, lkp, zE, reduceCtorEq, J, ae, E, Mpr.av, Mly.av, Mres.av]
    refine VLE.of_eq ?_
    first | rfl | (refine congrArg (fun b => AV.one (AC.bool b)) ?_; simp [hno]; done)
   ·(try simp only [zB, reduceCtorEq] at hc18)
    have hab : abE p w = 0 := by omega
    have hfo := rz hyes hab
    have hv9 := hfo.mv; have hi9 := hfo.mi; have hgo9 := hfo.go
    have hl9 : ((mdl m p).my.go (mdl m p).my.st (abV p w)).2.length = (m.go m.st w).2.length := by rw [hgo9, List.length_map]
    have hrg := (oz hfo.ml w m.st ⟨hfo.ml.s1, hfo.ml.s2⟩ hfo.w2.sym).2
    have hgl := o4 m m.st w
    have hgr9 := sK hfo.ml
    refine aM ?_
    refine hK16 _ ?_; clear hK16; refine ai [0, 1, 2, 3, 4, 6, 7, 9, 10, 11, 12, 30, 45, 60] ?_; simp only [ad, lkp, zE, reduceCtorEq, J, ae, E]
    refine ah fun K20 hK20 => ?_
    refine ah fun K21 hK21 => ?_
    refine aq hP hN rfl ?_
    (refine ag rfl fun K0 aa => ?_; simp only [zE, op1, ev, lkp, am, ak, aE, Nat.mul_one, aC, aD, acs, Ty.dflt, zG, az, reduceCtorEq, J, E, U, Z, V, Y, Tryd.st47, Tryd.td47, Mpr.av, Mly.av, Mres.av]; (repeat refine And.intro (by first | omega | assumption | exact rfl) ?_); refine aa _ ?_; clear aa K0; simp only [put, app, af, aj, zE, zS, E, Mres.av])
    refine ag rfl fun K0 aa => ?_
    refine b9 (h := aR (p3 (mdl m p).my)) rfl rfl (by first | exact rfl | (simp only [ev, ad, lkp, zE, reduceCtorEq, J, ae, E]; exact rfl)) (by simp only [zE, zG, op1, ev, lkp, am, ak, aA, acs, bq, mv1, mvC, Ty.dflt, reduceCtorEq, J, E, U, Z, V, Y, Mpr.av, Mly.av, Mres.av]) ?_
    refine aa _ ?_; clear aa K0; simp only [put, app, af, aj, zE, zS, E, Mres.av]
    (refine ag rfl fun K0 aa => ?_; simp only [zE, op1, ev, lkp, am, ak, aG, aH, aI, ay, aF, aS, reduceCtorEq, J, E, U, Z, V, Y, Tryd.td3, Tryd.td4, Mpr.av, Mly.av, Mres.av]; (repeat refine And.intro (by first | omega | assumption | exact rfl) ?_); refine aa _ ?_; clear aa K0; simp only [put, app, af, aj, zE, zS, E, Mres.av])
    (refine ag rfl fun K0 aa => ?_; simp only [zE, op1, ev, lkp, am, ak, ev, reduceCtorEq, J, E, U, Z, V, Y, Tryd.td4, Mpr.av, Mly.av, Mres.av]; refine aa _ ?_; clear aa K0; simp only [put, app, af, aj, zE, zS, E, Mres.av])
    refine' aZ (want := false) 5 rfl (m := 65) (by simp only [ad, lkp, zE, reduceCtorEq, J, ae, E]; exact rfl) (by kernel_rfl) rfl rfl rfl rfl rfl (fun hg22 => ?a22) ?b22 ?c22
    case a22 =>
     have hq22 := hg22; (try simp only [zB, reduceCtorEq] at hg22); simp only [List.take_succ_cons, List.take_zero, List.cons_append, List.nil_append]
     (refine aB rfl fun K0 aa => ?_; simp only [zE, op1, ev, lkp, am, ak, ax, reduceCtorEq, J, E, U, Z, V, Y, Tryd.st47, Tryd.td47, Mpr.av, Mly.av, Mres.av]; (repeat refine And.intro (by first | omega | assumption | exact rfl) ?_); refine aa _ ?_; clear aa K0; simp only [put, app, af, aj, zE, zS, E, Mres.av])
     (refine aB rfl fun K0 aa => ?_; simp only [zE, op1, ev, lkp, am, ak, aE, Nat.mul_one, aC, aD, acs, Ty.dflt, zG, az, reduceCtorEq, J, E, U, Z, V, Y, Tryd.td3, Mpr.av, Mly.av, Mres.av]; (repeat refine And.intro (by first | omega | assumption | exact rfl) ?_); refine aa _ ?_; clear aa K0; simp only [put, app, af, aj, zE, zS, E, Mres.av])
     (refine aB rfl fun K0 aa => ?_; simp only [zE, op1, ev, lkp, am, ak, ax, reduceCtorEq, J, E, U, Z, V, Y, Tryd.st24, Tryd.td1, Tryd.td24, Mpr.av, Mly.av, Mres.av]; (repeat refine And.intro (by first | omega | assumption | exact rfl) ?_); refine aa _ ?_; clear aa K0; simp only [put, app, af, aj, zE, zS, E, Mres.av])
     (refine aB rfl fun K0 aa => ?_; simp only [zE, op1, ev, lkp, am, ak, aE, Nat.mul_one, aC, aD, acs, Ty.dflt, zG, az, reduceCtorEq, J, E, U, Z, V, Y, Tryd.td3, Mpr.av, Mly.av, Mres.av]; (repeat refine And.intro (by first | omega | assumption | exact rfl) ?_); refine aa _ ?_; clear aa K0; simp only [put, app, af, aj, zE, zS, E, Mres.av])
     (refine aB rfl fun K0 aa => ?_; simp only [zE, op1, ev, lkp, am, ak, aG, aH, aI, ay, aF, aS, reduceCtorEq, J, E, U, Z, V, Y, Tryd.td3, Tryd.td4, Mpr.av, Mly.av, Mres.av]; (repeat refine And.intro (by first | omega | assumption | exact rfl) ?_); refine aa _ ?_; clear aa K0; simp only [put, app, af, aj, zE, zS, E, Mres.av])
     (refine ag rfl fun K0 aa => ?_; simp only [zE, op1, ev, lkp, am, ak, bB, reduceCtorEq, J, E, U, Z, V, Y, Tryd.td4, Mpr.av, Mly.av, Mres.av]; refine aa _ ?_; clear aa K0; simp only [put, app, af, aj, zE, zS, E, Mres.av])
     refine ao ?_
     refine ⟨by simp only [ad, lkp, zE, reduceCtorEq, J, ae, E]; exact rfl, rfl, ?_, rfl⟩; (repeat refine b8 rfl ?_); exact bG (by exact rfl) hq22
    case b22 => exact bD (by first | rfl | (simp [cf]; done) | decide)
    simp only [bp, bg]
    refine ao ?_
    refine hK21 _ ?_; clear hK21; refine ai [0, 1, 2, 3, 4, 6, 7, 9, 10, 11, 12, 30, 45, 60, 71] ?_; simp only [ad, lkp, zE, reduceCtorEq, J, ae, E]
    refine aJ (by simp only [ev, ad, lkp, zE, reduceCtorEq, J, ae, E]; exact rfl) (fun hc23 => ?_) (fun hc23 => ?_)
    · exfalso; (try simp only [zB, reduceCtorEq] at hc23); all_goals (first | (cases hc23; done) | omega | (simp at hc23; done) | (simp_all; done))
    ·(try simp only [zB, reduceCtorEq] at hc23)
     refine aM ?_
     refine hK20 _ ?_; clear hK20; refine ai [0, 1, 2, 3, 4, 6, 7, 9, 10, 11, 12, 30, 45, 60, 71] ?_; simp only [ad, lkp, zE, reduceCtorEq, J, ae, E]
     refine ah fun K24 hK24 => ?_
     refine aq hP hN rfl ?_
     iterate 4 (refine ag rfl fun K0 aa => ?_; simp only [zE, op1, ev, lkp, am, ak, aE, Nat.mul_one, aC, aD, acs, Ty.dflt, zG, az, ax, reduceCtorEq, J, E, U, Z, V, Y, Tryd.el25, Tryd.st47, Tryd.td1, Tryd.td25, Tryd.td3, Tryd.td47, Mpr.av, Mly.av, Mres.av]; (repeat refine And.intro (by first | omega | assumption | exact rfl) ?_); refine aa _ ?_; clear aa K0; simp only [put, app, af, aj, zE, zS, E, Mres.av])
     refine ag rfl fun K0 aa => ?_
     refine b9 (h := aR (ov (mdl m p).my (mdl m p).my.st (abV p w) hfo.s1 hfo.w1)) rfl rfl (by first | exact rfl | (simp only [ev, ad, lkp, zE, reduceCtorEq, J, ae, E]; exact rfl)) (by simp only [zE, zG, op1, ev, lkp, am, ak, aA, acs, bq, mv1, mvC, Ty.dflt, reduceCtorEq, J, E, U, Z, V, Y, Mpr.av, Mly.av, Mres.av]) ?_
     refine aa _ ?_; clear aa K0; simp only [put, app, af, aj, zE, zS, E, Mres.av]
     iterate 5 (refine ag rfl fun K0 aa => ?_; simp only [zE, op1, ev, lkp, am, ak, bW, reduceCtorEq, J, E, U, Z, V, Y, Tryd.el25, Tryd.td1, Tryd.td25, Tryd.td3, Mpr.av, Mly.av, Mres.av]; refine aa _ ?_; clear aa K0; simp only [put, app, af, aj, zE, zS, E, Mres.av])
     refine ao ?_
     refine hK24 _ ?_; clear hK24; refine ai [0, 1, 2, 3, 4, 6, 7, 9, 10, 11, 12, 13, 30, 45, 60, 71] ?_; simp only [ad, lkp, zE, reduceCtorEq, J, ae, E]
     refine ah fun K25 hK25 => ?_
     refine aq hP hN rfl ?_
     iterate 4 (refine ag rfl fun K0 aa => ?_; simp only [zE, op1, ev, lkp, am, ak, aE, Nat.mul_one, aC, aD, acs, Ty.dflt, zG, az, ax, reduceCtorEq, J, E, U, Z, V, Y, Tryd.el25, Tryd.st47, Tryd.td1, Tryd.td25, Tryd.td3, Tryd.td47, Mpr.av, Mly.av, Mres.av]; (repeat refine And.intro (by first | omega | assumption | exact rfl) ?_); refine aa _ ?_; clear aa K0; simp only [put, app, af, aj, zE, zS, E, Mres.av])
     refine ag rfl fun K0 aa => ?_
     refine b9 (h := aR (ov m m.st w hfo.s2 hfo.w2)) rfl rfl (by first | exact rfl | (simp only [ev, ad, lkp, zE, reduceCtorEq, J, ae, E]; exact rfl)) (by simp only [zE, zG, op1, ev, lkp, am, ak, aA, acs, bq, mv1, mvC, Ty.dflt, reduceCtorEq, J, E, U, Z, V, Y, Mpr.av, Mly.av, Mres.av]) ?_
     refine aa _ ?_; clear aa K0; simp only [put, app, af, aj, zE, zS, E, Mres.av]
     iterate 5 (refine ag rfl fun K0 aa => ?_; simp only [zE, op1, ev, lkp, am, ak, bW, reduceCtorEq, J, E, U, Z, V, Y, Tryd.el25, Tryd.td1, Tryd.td25, Tryd.td3, Mpr.av, Mly.av, Mres.av]; refine aa _ ?_; clear aa K0; simp only [put, app, af, aj, zE, zS, E, Mres.av])
     refine ao ?_
     refine hK25 _ ?_; clear hK25; refine ai [0, 1, 2, 3, 4, 6, 7, 9, 10, 11, 12, 13, 15, 30, 45, 60, 71] ?_; simp only [ad, lkp, zE, reduceCtorEq, J, ae, E]
     refine ah fun K26 hK26 => ?_
     refine ah fun K27 hK27 => ?_
     refine aq hP hN rfl ?_
     iterate 5 (refine ag rfl fun K0 aa => ?_; simp only [zE, op1, ev, lkp, am, ak, aK, bK, br, bj, bl, bJ, Nat.div_one, aP, bm, Ty.size, aL, dite_true, aG, aH, aI, ay, aF, aS, reduceCtorEq, J, E, U, Z, V, Y, Tryd.el25, Tryd.td25, Tryd.td3, Tryd.td4, Mpr.av, Mly.av, Mres.av]; (repeat refine And.intro (by first | omega | assumption | exact rfl) ?_); (first | refine aa _ ?_ | refine Or.inl (aa _ ?_)); clear aa K0; simp only [put, app, af, aj, zE, zS, E, Mres.av])
     refine ao ?_
     refine hK27 _ ?_; clear hK27; refine ai [0, 1, 2, 3, 4, 6, 7, 9, 10, 11, 12, 13, 15, 30, 45, 60, 71, 92] ?_; simp only [ad, lkp, zE, reduceCtorEq, J, ae, E]
     refine aJ (by simp only [ev, ad, lkp, zE, reduceCtorEq, J, ae, E]; exact rfl) (fun hc28 => ?_) (fun hc28 => ?_)
     · exfalso; (try simp only [zB, reduceCtorEq] at hc28); all_goals (first | (cases hc28; done) | omega | (simp at hc28; done) | (simp_all; done))
     ·(try simp only [zB, reduceCtorEq] at hc28)
      refine aM ?_
      refine hK26 _ ?_; clear hK26; refine ai [0, 1, 2, 3, 4, 6, 7, 9, 10, 11, 12, 13, 15, 30, 45, 60, 71, 92] ?_; simp only [ad, lkp, zE, reduceCtorEq, J, ae, E]
      refine ah fun K29 hK29 => ?_
      refine ah fun K30 hK30 => ?_
      refine aq hP hN rfl ?_
      (refine ag rfl fun K0 aa => ?_; simp only [zE, op1, ev, lkp, am, ak, ev, reduceCtorEq, J, E, U, Z, V, Y, Tryd.td3, Mpr.av, Mly.av, Mres.av]; refine aa _ ?_; clear aa K0; simp only [put, app, af, aj, zE, zS, E, Mres.av])
      refine ao ?_
      refine hK30 _ ?_; clear hK30; refine ai [0, 1, 2, 3, 4, 6, 7, 9, 10, 11, 12, 13, 15, 17, 30, 45, 60, 71, 92] ?_; simp only [ad, lkp, zE, reduceCtorEq, J, ae, E]
      refine aY ?_
      refine c8 (fun n31 s31 => ∃ (k : Nat), (k ≤ (m.go m.st w).2.length) ∧ n31 = (m.go m.st w).2.length - k ∧ s31 = { env := [(6, .one (.bool false)), (13, .one (.list (.int .i64) ((mdl m p).my.go (mdl m p).my.st (abV p w)).2)), (15, .one (.list (.int .i64) (m.go m.st w).2)), (17, .one (.int .i64 (k : Int)))], L := [.vars 47 [.int .i64 m.inp, .int .i64 m.st, .list (.list (.int .i64)) m.nx, .list (.list (.int .i64)) m.ot], .vars 24 [.int .i64 p.inp, .int .i64 p.ab, .int .i64 p.st, .list (.list (.int .i64)) p.nx, .list (.list (.int .i64)) p.sy], .vars 47 [.int .i64 (mdl m p).my.inp, .int .i64 (mdl m p).my.st, .list (.list (.int .i64)) (mdl m p).my.nx, .list (.list (.int .i64)) (mdl m p).my.ot], .vars 50 [.list (.int .i64) (mdl m p).w, .int .i64 (mdl m p).a, .int .i64 (mdl m p).b]] }) ?_ ?_
      ·exact ⟨_, _, ba [6, 13, 15, 17], 0, Nat.zero_le _, rfl, rfl⟩
      ·rintro n31 s31 ⟨k, hk, rfl, rfl⟩
       refine ah fun K32 hK32 => ?_
       refine ah fun K33 hK33 => ?_
       refine aq hP hN rfl ?_
       iterate 4 (refine ag rfl fun K0 aa => ?_; simp only [zE, op1, ev, lkp, am, ak, aK, bK, br, bj, bl, bJ, Nat.div_one, aP, bm, Ty.size, aL, dite_true, aG, aH, aI, ay, aF, aS, reduceCtorEq, J, E, U, Z, V, Y, Tryd.el25, Tryd.td25, Tryd.td3, Tryd.td4, Mpr.av, Mly.av, Mres.av]; (repeat refine And.intro (by first | omega | assumption | exact rfl) ?_); (first | refine aa _ ?_ | refine Or.inl (aa _ ?_)); clear aa K0; simp only [put, app, af, aj, zE, zS, E, Mres.av])
       refine ao ?_
       refine hK33 _ ?_; clear hK33; refine ai [6, 13, 15, 17, 96] ?_; simp only [ad, lkp, zE, reduceCtorEq, J, ae, E]
       refine aJ (by simp only [ev, ad, lkp, zE, reduceCtorEq, J, ae, E]; exact rfl) (fun hc34 => ?_) (fun hc34 => ?_)
       ·(try simp only [zB, reduceCtorEq] at hc34)
        refine aM ?_
        refine hK32 _ ?_; clear hK32; refine ai [6, 13, 15, 17, 96] ?_; simp only [ad, lkp, zE, reduceCtorEq, J, ae, E]
        refine ah fun K35 hK35 => ?_
        refine aY ?_
        refine ah fun K36 hK36 => ?_
        have hk9 : k < (m.go m.st w).2.length := by omega
        have hk8 : ((mdl m p).my.go (mdl m p).my.st (abV p w)).2.getD k 0 = 1 + (m.go m.st w).2.getD k 0 := by rw [hgo9]; simp only [List.getD, List.getElem?_map, List.getElem?_eq_getElem hk9, Option.map_some, Option.getD_some]
        have hk7 := hrg _ (da hk9)
        refine cg hP hN Tryd.mixed rfl ?_
        iterate 10 (refine ag rfl fun K0 aa => ?_; simp only [zE, op1, ev, lkp, am, ak, aT, zG, Ty.dflt, Ty.size, Nat.mul_one, ne_eq, not_false_eq_true, Int.natCast_one, Int.mul_one, aE, aC, aD, acs, az, aG, aH, aI, ay, aF, aS, reduceCtorEq, J, E, U, Z, V, Y, Tryd.el25, Tryd.td25, Tryd.td3, Tryd.td4, Mpr.av, Mly.av, Mres.av]; (repeat refine And.intro (by first | omega | assumption | exact rfl) ?_); refine aa _ ?_; clear aa K0; simp only [put, app, af, aj, zE, zS, E, Mres.av])
        refine ao ?_
        refine ⟨by kernel_rfl, ?_⟩
        refine hK36 _ ?_; clear hK36; refine ai [6, 13, 15, 17, 96, 108] ?_; simp only [ad, lkp, zE, reduceCtorEq, J, ae, E]
        refine aJ (by simp only [ev, ad, lkp, zE, reduceCtorEq, J, ae, E]; exact rfl) (fun hc37 => ?_) (fun hc37 => ?_)
        ·exfalso; (try simp only [zB, reduceCtorEq] at hc37)
         omega
        ·(try simp only [zB, reduceCtorEq] at hc37)
         refine aM ?_
         refine hK35 _ ?_; clear hK35; refine ai [6, 13, 15, 17, 96, 108] ?_; simp only [ad, lkp, zE, reduceCtorEq, J, ae, E]
         refine aq hP hN rfl ?_
         iterate 3 (refine ag rfl fun K0 aa => ?_; simp only [zE, op1, ev, lkp, am, ak, aG, aH, aI, ay, aF, aS, reduceCtorEq, J, E, U, Z, V, Y, Tryd.td3, Mpr.av, Mly.av, Mres.av]; (repeat refine And.intro (by first | omega | assumption | exact rfl) ?_); refine aa _ ?_; clear aa K0; simp only [put, app, af, aj, zE, zS, E, Mres.av])
         refine ao ?_
         refine ⟨_, _, ?_, ba [6, 13, 15, 17], k + 1, by omega, rfl, rfl⟩
         omega
       ·(try simp only [zB, reduceCtorEq] at hc34)
        refine bZ ?_
        refine hK29 _ ?_; clear hK29; refine ai [6, 13, 15, 17, 96] ?_; simp only [ad, lkp, zE, reduceCtorEq, J, ae, E]
        refine ah fun K38 hK38 => ?_
        refine aq hP hN rfl ?_
        refine ag rfl fun K0 aa => ?_
        refine b9 (h := aR fj) rfl rfl (by first | exact rfl | (simp only [ev, ad, lkp, zE, reduceCtorEq, J, ae, E]; exact rfl)) (by simp only [zE, zG, op1, ev, lkp, am, ak, aA, acs, bq, mv1, mvC, Ty.dflt, reduceCtorEq, J, E, U, Z, V, Y, Mpr.av, Mly.av, Mres.av]) ?_
        refine aa _ ?_; clear aa K0; simp only [put, app, af, aj, zE, zS, E, Mres.av]
        (refine ag rfl fun K0 aa => ?_; simp only [zE, op1, ev, lkp, am, ak, ev, reduceCtorEq, J, E, U, Z, V, Y, Tryd.td4, Mpr.av, Mly.av, Mres.av]; refine aa _ ?_; clear aa K0; simp only [put, app, af, aj, zE, zS, E, Mres.av])
        refine ao ?_
        refine hK38 _ ?_; clear hK38; refine ai [6, 13, 15, 17, 96] ?_; simp only [ad, lkp, zE, reduceCtorEq, J, ae, E]
        refine aQ ?_
        refine ⟨by first | exact .inl rfl | exact .inr rfl, _, rfl, ?_⟩; simp only [fzV, fz1, fzC, List.map_cons, List.map_nil, ad, lkp, zE, reduceCtorEq, J, ae, E, Mpr.av, Mly.av, Mres.av]
        refine VLE.of_eq ?_
        first | rfl | (refine congrArg (fun b => AV.one (AC.bool b)) ?_; simp [hno]; done)
end Go.Proofs.YtgmgnkmgofkfpaaDoor
