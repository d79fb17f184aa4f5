/- Contracts of functions of this seat, each out of a walk through its code, and plain facts on what they compute. Conditions: those that each theorem names. -/
import Derived.Test.YtgmgnkmgofkfpaaDoorW03
set_option linter.unusedSimpArgs false
set_option linter.unusedVariables false
namespace Go.Proofs.YtgmgnkmgofkfpaaDoor
open Go Go.AV
open Nat renaming reduceEqDiff → J, reduceAdd → E, reduceLeDiff → U, reduceLT → Z, reduceMul → V, reduceSub → Y
open List renaming set_cons_zero → aw, set_cons_succ → au
set_option maxRecDepth 100000 in
theorem ph (w : List Int) (a b : Int) (w2 : List Int) (a2 b2 : Int) : cp Tryd.prog 25 [.agg [.list (.int .i64) w, .int .i64 a, .int .i64 b], .agg [.list (.int .i64) w2, .int .i64 a2, .int .i64 b2]] (.one (.bool ((decide (w = w2) && decide (a = a2)) && decide (b = b2)))) := by
 refine bC Tryd.func25 rfl (by kernel_rfl) (Nat.le_of_ble_eq_true rfl) rfl fun C hP hN hB => ?_
 replace hN : C.N = 24 := hN
 simp only [ae, E]
 refine ah fun K1 hK1 => ?_
 refine aq hP hN rfl ?_
 iterate 3 (refine ag rfl fun K0 aa => ?_; simp only [zE, op1, ev, lkp, am, ak, cR, aA, reduceCtorEq, J, E, U, Z, V, Y, Tryd.st50, Tryd.td4, Tryd.td50]; (repeat refine And.intro (by first | omega | assumption | exact rfl) ?_); refine aa _ ?_; clear aa K0; simp only [put, app, af, aj, zE, zS, E])
 refine ao ?_
 refine hK1 _ ?_; clear hK1; refine ai [0, 1, 2, 3, 4] ?_; simp only [ad, lkp, zE, reduceCtorEq, J, ae, E]
 refine ah fun K2 hK2 => ?_
 refine aq hP hN rfl ?_
 iterate 4 (refine ag rfl fun K0 aa => ?_; simp only [zE, op1, ev, lkp, am, ak, ax, aE, Nat.mul_one, aC, aD, acs, Ty.dflt, zG, az, reduceCtorEq, J, E, U, Z, V, Y, Tryd.el25, Tryd.st50, Tryd.td25, Tryd.td50]; (repeat refine And.intro (by first | omega | assumption | exact rfl) ?_); refine aa _ ?_; clear aa K0; simp only [put, app, af, aj, zE, zS, E])
 refine ag rfl fun K0 aa => ?_
 refine b9 (h := aR (ji w w2)) rfl rfl (by first | exact rfl | (simp only [ev, ad, lkp, zE, reduceCtorEq, J, ae, E]; exact rfl)) (by simp only [zE, zG, op1, ev, lkp, am, ak, aA, acs, bq, mv1, mvC, Ty.dflt, reduceCtorEq, J, E, U, Z, V, Y]) ?_
 refine aa _ ?_; clear aa K0; simp only [put, app, af, aj, zE, zS, E]
 (refine ag rfl fun K0 aa => ?_; simp only [zE, op1, ev, lkp, am, ak, ev, reduceCtorEq, J, E, U, Z, V, Y, Tryd.td4]; refine aa _ ?_; clear aa K0; simp only [put, app, af, aj, zE, zS, E])
 refine' aZ (want := true) 5 rfl (m := 10) (by simp only [ad, lkp, zE, reduceCtorEq, J, ae, E]; exact rfl) (by kernel_rfl) rfl rfl rfl rfl rfl (fun hg3 => ?a3) ?b3 ?c3
 case a3 =>
  have hq3 := hg3; (try simp only [zB, reduceCtorEq] at hg3); simp only [List.take_succ_cons, List.take_zero, List.cons_append, List.nil_append]
  (refine aB rfl fun K0 aa => ?_; simp only [zE, op1, ev, lkp, am, ak, ax, reduceCtorEq, J, E, U, Z, V, Y, Tryd.st50, Tryd.td1, Tryd.td50]; (repeat refine And.intro (by first | omega | assumption | exact rfl) ?_); refine aa _ ?_; clear aa K0; simp only [put, app, af, aj, zE, zS, E])
  (refine aB rfl fun K0 aa => ?_; simp only [zE, op1, ev, lkp, am, ak, aE, Nat.mul_one, aC, aD, acs, Ty.dflt, zG, az, reduceCtorEq, J, E, U, Z, V, Y, Tryd.td3]; (repeat refine And.intro (by first | omega | assumption | exact rfl) ?_); refine aa _ ?_; clear aa K0; simp only [put, app, af, aj, zE, zS, E])
  (refine aB rfl fun K0 aa => ?_; simp only [zE, op1, ev, lkp, am, ak, ax, reduceCtorEq, J, E, U, Z, V, Y, Tryd.st50, Tryd.td1, Tryd.td50]; (repeat refine And.intro (by first | omega | assumption | exact rfl) ?_); refine aa _ ?_; clear aa K0; simp only [put, app, af, aj, zE, zS, E])
  (refine aB rfl fun K0 aa => ?_; simp only [zE, op1, ev, lkp, am, ak, aE, Nat.mul_one, aC, aD, acs, Ty.dflt, zG, az, reduceCtorEq, J, E, U, Z, V, Y, Tryd.td3]; (repeat refine And.intro (by first | omega | assumption | exact rfl) ?_); refine aa _ ?_; clear aa K0; simp only [put, app, af, aj, zE, zS, E])
  (refine aB rfl fun K0 aa => ?_; simp only [zE, op1, ev, lkp, am, ak, aG, aH, aI, ay, aF, aS, reduceCtorEq, J, E, U, Z, V, Y, Tryd.td3, Tryd.td4]; (repeat refine And.intro (by first | omega | assumption | exact rfl) ?_); refine aa _ ?_; clear aa K0; simp only [put, app, af, aj, zE, zS, E])
  (refine ag rfl fun K0 aa => ?_; simp only [zE, op1, ev, lkp, am, ak, bB, reduceCtorEq, J, E, U, Z, V, Y, Tryd.td4]; refine aa _ ?_; clear aa K0; simp only [put, app, af, aj, zE, zS, E])
  refine ao ?_
  refine ⟨by simp only [ad, lkp, zE, reduceCtorEq, J, ae, E]; exact rfl, rfl, ?_, rfl⟩; (repeat refine b8 rfl ?_); exact bG (by exact rfl) hq3
 case b3 => exact bD (by first | rfl | (simp [cf]; done) | decide)
 simp only [bp, bg]
 (refine ag rfl fun K0 aa => ?_; simp only [zE, op1, ev, lkp, am, ak, ev, reduceCtorEq, J, E, U, Z, V, Y, Tryd.td4]; refine aa _ ?_; clear aa K0; simp only [put, app, af, aj, zE, zS, E])
 refine' aZ (want := true) 5 rfl (m := 17) (by simp only [ad, lkp, zE, reduceCtorEq, J, ae, E]; exact rfl) (by kernel_rfl) rfl rfl rfl rfl rfl (fun hg4 => ?a4) ?b4 ?c4
 case a4 =>
  have hq4 := hg4; (try simp only [zB, reduceCtorEq] at hg4); simp only [List.take_succ_cons, List.take_zero, List.cons_append, List.nil_append]
  (refine aB rfl fun K0 aa => ?_; simp only [zE, op1, ev, lkp, am, ak, ax, reduceCtorEq, J, E, U, Z, V, Y, Tryd.st50, Tryd.td2, Tryd.td50]; (repeat refine And.intro (by first | omega | assumption | exact rfl) ?_); refine aa _ ?_; clear aa K0; simp only [put, app, af, aj, zE, zS, E])
  (refine aB rfl fun K0 aa => ?_; simp only [zE, op1, ev, lkp, am, ak, aE, Nat.mul_one, aC, aD, acs, Ty.dflt, zG, az, reduceCtorEq, J, E, U, Z, V, Y, Tryd.td3]; (repeat refine And.intro (by first | omega | assumption | exact rfl) ?_); refine aa _ ?_; clear aa K0; simp only [put, app, af, aj, zE, zS, E])
  (refine aB rfl fun K0 aa => ?_; simp only [zE, op1, ev, lkp, am, ak, ax, reduceCtorEq, J, E, U, Z, V, Y, Tryd.st50, Tryd.td2, Tryd.td50]; (repeat refine And.intro (by first | omega | assumption | exact rfl) ?_); refine aa _ ?_; clear aa K0; simp only [put, app, af, aj, zE, zS, E])
  (refine aB rfl fun K0 aa => ?_; simp only [zE, op1, ev, lkp, am, ak, aE, Nat.mul_one, aC, aD, acs, Ty.dflt, zG, az, reduceCtorEq, J, E, U, Z, V, Y, Tryd.td3]; (repeat refine And.intro (by first | omega | assumption | exact rfl) ?_); refine aa _ ?_; clear aa K0; simp only [put, app, af, aj, zE, zS, E])
  (refine aB rfl fun K0 aa => ?_; simp only [zE, op1, ev, lkp, am, ak, aG, aH, aI, ay, aF, aS, reduceCtorEq, J, E, U, Z, V, Y, Tryd.td3, Tryd.td4]; (repeat refine And.intro (by first | omega | assumption | exact rfl) ?_); refine aa _ ?_; clear aa K0; simp only [put, app, af, aj, zE, zS, E])
  (refine ag rfl fun K0 aa => ?_; simp only [zE, op1, ev, lkp, am, ak, bB, reduceCtorEq, J, E, U, Z, V, Y, Tryd.td4]; refine aa _ ?_; clear aa K0; simp only [put, app, af, aj, zE, zS, E])
  refine ao ?_
  refine ⟨by simp only [ad, lkp, zE, reduceCtorEq, J, ae, E]; exact rfl, rfl, ?_, rfl⟩; (repeat refine b8 rfl ?_); exact bG (by exact rfl) hq4
 case b4 => exact bD (by first | rfl | (simp [cf]; done) | decide)
 simp only [bp, bg]
 (refine ag rfl fun K0 aa => ?_; simp only [zE, op1, ev, lkp, am, ak, ev, reduceCtorEq, J, E, U, Z, V, Y, Tryd.td4]; refine aa _ ?_; clear aa K0; simp only [put, app, af, aj, zE, zS, E])
 refine ao ?_
 refine hK2 _ ?_; clear hK2; refine ai [0, 1, 2, 3, 4] ?_; simp only [ad, lkp, zE, reduceCtorEq, J, ae, E]
 refine aQ ?_
 refine ⟨by first | exact .inl rfl | exact .inr rfl, _, rfl, ?_⟩; simp only [fzV, fz1, fzC, List.map_cons, List.map_nil, ad, lkp, zE, reduceCtorEq, J, ae, E]
 refine VLE.of_eq ?_
 rfl
end Go.Proofs.YtgmgnkmgofkfpaaDoor
namespace Go.Proofs.YtgmgnkmgofkfpaaDoor
open Go Go.AV
open Nat renaming reduceEqDiff → J, reduceAdd → E, reduceLeDiff → U, reduceLT → Z, reduceMul → V, reduceSub → Y
open List renaming set_cons_zero → aw, set_cons_succ → au
set_option maxRecDepth 100000 in
set_option maxHeartbeats 2000000 in
theorem fj  : cp Tryd.prog 14 [] (.one (.bool true)) := by
 refine bC Tryd.func14 rfl (by kernel_rfl) (Nat.le_of_ble_eq_true rfl) rfl fun C hP hN hB => ?_
 replace hN : C.N = 135 := hN
 simp only [ae, E]
 refine ah fun K1 hK1 => ?_
 refine aq hP hN rfl ?_
 (refine ag rfl fun K0 aa => ?_; simp only [zE, op1, ev, lkp, am, ak, ev, reduceCtorEq, J, E, U, Z, V, Y, Tryd.td4, Mpr.av, Mly.av, bz, bt, List.getD_cons_zero]; refine aa _ ?_; clear aa K0; simp only [put, app, af, aj, zE, zS, E])
 refine ao ?_
 refine hK1 _ ?_; clear hK1; refine ai [0] ?_; simp only [ad, lkp, zE, reduceCtorEq, J, ae, E]
 refine ah fun K2 hK2 => ?_
 refine aq hP hN rfl ?_
 (refine ag rfl fun K0 aa => ?_; simp only [zE, op1, ev, lkp, am, ak, bc, bo, c9, rep, aL, aV, aA, Ty.size, reduceCtorEq, J, E, U, Z, V, Y, Tryd.el25, Tryd.td25, Tryd.td3, Mpr.av, Mly.av, bz, bt, List.getD_cons_zero]; (repeat refine And.intro (by first | omega | assumption | exact rfl) ?_); (first | refine aa _ ?_ | refine Or.inl (aa _ ?_)); clear aa K0; simp only [put, app, af, aj, zE, zS, E])
 refine ag rfl fun K0 aa => ?_
 refine b9 (h := aR (lA [0, 1, 0])) rfl rfl (by first | exact rfl | (simp only [ev, ad, lkp, zE, reduceCtorEq, J, ae, E]; exact rfl)) (by simp only [zE, zG, op1, ev, lkp, am, ak, aA, acs, bq, mv1, mvC, Ty.dflt, reduceCtorEq, J, E, U, Z, V, Y, Mpr.av, Mly.av, bz, bt, List.getD_cons_zero]) ?_
 refine aa _ ?_; clear aa K0; simp only [put, app, af, aj, zE, zS, E]
 iterate 6 (refine ag rfl fun K0 aa => ?_; simp only [zE, op1, ev, lkp, am, ak, bW, cv, bV, Nat.mul_one, aA, aV, aL, acs, Ty.size, Ty.dflt, zG, reduceCtorEq, J, E, U, Z, V, Y, Tryd.st24, Tryd.td1, Tryd.td24, Tryd.td26, Mpr.av, Mly.av, bz, bt, List.getD_cons_zero]; (repeat refine And.intro (by first | omega | assumption | exact rfl) ?_); (first | refine aa _ ?_ | refine Or.inl (aa _ ?_)); clear aa K0; simp only [put, app, af, aj, zE, zS, E])
 refine ao ?_
 refine hK2 _ ?_; clear hK2; refine ai [0, 1, 2] ?_; simp only [ad, lkp, zE, reduceCtorEq, J, ae, E]
 refine ah fun K3 hK3 => ?_
 refine aq hP hN rfl ?_
 (refine ag rfl fun K0 aa => ?_; simp only [zE, op1, ev, lkp, am, ak, bc, bo, c9, rep, aL, aV, aA, Ty.size, reduceCtorEq, J, E, U, Z, V, Y, Tryd.el25, Tryd.td2, Tryd.td25, Mpr.av, Mly.av, bz, bt, List.getD_cons_zero]; (repeat refine And.intro (by first | omega | assumption | exact rfl) ?_); (first | refine aa _ ?_ | refine Or.inl (aa _ ?_)); clear aa K0; simp only [put, app, af, aj, zE, zS, E])
 refine ag rfl fun K0 aa => ?_
 refine b9 (h := aR (lA [1, 0])) rfl rfl (by first | exact rfl | (simp only [ev, ad, lkp, zE, reduceCtorEq, J, ae, E]; exact rfl)) (by simp only [zE, zG, op1, ev, lkp, am, ak, aA, acs, bq, mv1, mvC, Ty.dflt, reduceCtorEq, J, E, U, Z, V, Y, Mpr.av, Mly.av, bz, bt, List.getD_cons_zero]) ?_
 refine aa _ ?_; clear aa K0; simp only [put, app, af, aj, zE, zS, E]
 iterate 6 (refine ag rfl fun K0 aa => ?_; simp only [zE, op1, ev, lkp, am, ak, bW, cv, bV, Nat.mul_one, aA, aV, aL, acs, Ty.size, Ty.dflt, zG, reduceCtorEq, J, E, U, Z, V, Y, Tryd.st24, Tryd.td1, Tryd.td24, Tryd.td26, Mpr.av, Mly.av, bz, bt, List.getD_cons_zero]; (repeat refine And.intro (by first | omega | assumption | exact rfl) ?_); (first | refine aa _ ?_ | refine Or.inl (aa _ ?_)); clear aa K0; simp only [put, app, af, aj, zE, zS, E])
 refine ao ?_
 refine hK3 _ ?_; clear hK3; refine ai [0, 1, 2, 4] ?_; simp only [ad, lkp, zE, reduceCtorEq, J, ae, E]
 refine ah fun K4 hK4 => ?_
 refine aq hP hN rfl ?_
 iterate 2 (refine ag rfl fun K0 aa => ?_; simp only [zE, op1, ev, lkp, am, ak, aE, Nat.mul_one, aC, aD, acs, Ty.dflt, zG, az, bc, bo, c9, rep, aL, aV, aA, Ty.size, reduceCtorEq, J, E, U, Z, V, Y, Tryd.el25, Tryd.st24, Tryd.td24, Tryd.td25, Tryd.td3, Mpr.av, Mly.av, bz, bt, List.getD_cons_zero]; (repeat refine And.intro (by first | omega | assumption | exact rfl) ?_); (first | refine aa _ ?_ | refine Or.inl (aa _ ?_)); clear aa K0; simp only [put, app, af, aj, zE, zS, E])
 refine ag rfl fun K0 aa => ?_
 refine b9 (h := aR (nX (dC [0, 1, 0]) [2, 1, 0])) rfl rfl (by first | exact rfl | (simp only [ev, ad, lkp, zE, reduceCtorEq, J, ae, E]; exact rfl)) (by simp only [zE, zG, op1, ev, lkp, am, ak, aA, acs, bq, mv1, mvC, Ty.dflt, reduceCtorEq, J, E, U, Z, V, Y, Mpr.av, Mly.av, bz, bt, List.getD_cons_zero]) ?_
 refine aa _ ?_; clear aa K0; simp only [put, app, af, aj, zE, zS, E]
 iterate 5 (refine ag rfl fun K0 aa => ?_; simp only [zE, op1, ev, lkp, am, ak, bW, reduceCtorEq, J, E, U, Z, V, Y, Tryd.el25, Tryd.td1, Tryd.td25, Tryd.td26, Mpr.av, Mly.av, bz, bt, List.getD_cons_zero]; refine aa _ ?_; clear aa K0; simp only [put, app, af, aj, zE, zS, E])
 refine ao ?_
 refine hK4 _ ?_; clear hK4; refine ai [0, 1, 2, 4, 5, 6] ?_; simp only [ad, lkp, zE, reduceCtorEq, J, ae, E]
 refine ah fun K5 hK5 => ?_
 refine aq hP hN rfl ?_
 iterate 2 (refine ag rfl fun K0 aa => ?_; simp only [zE, op1, ev, lkp, am, ak, aE, Nat.mul_one, aC, aD, acs, Ty.dflt, zG, az, bc, bo, c9, rep, aL, aV, aA, Ty.size, reduceCtorEq, J, E, U, Z, V, Y, Tryd.el25, Tryd.st24, Tryd.td24, Tryd.td25, Tryd.td3, Mpr.av, Mly.av, bz, bt, List.getD_cons_zero]; (repeat refine And.intro (by first | omega | assumption | exact rfl) ?_); (first | refine aa _ ?_ | refine Or.inl (aa _ ?_)); clear aa K0; simp only [put, app, af, aj, zE, zS, E])
 refine ag rfl fun K0 aa => ?_
 refine b9 (h := aR (s6 (dC [0, 1, 0]) [0, 1, 0])) rfl rfl (by first | exact rfl | (simp only [ev, ad, lkp, zE, reduceCtorEq, J, ae, E]; exact rfl)) (by simp only [zE, zG, op1, ev, lkp, am, ak, aA, acs, bq, mv1, mvC, Ty.dflt, reduceCtorEq, J, E, U, Z, V, Y, Mpr.av, Mly.av, bz, bt, List.getD_cons_zero]) ?_
 refine aa _ ?_; clear aa K0; simp only [put, app, af, aj, zE, zS, E]
 iterate 7 (refine ag rfl fun K0 aa => ?_; simp only [zE, op1, ev, lkp, am, ak, bW, reduceCtorEq, J, E, U, Z, V, Y, Tryd.el25, Tryd.td1, Tryd.td2, Tryd.td25, Tryd.td26, Tryd.td4, Mpr.av, Mly.av, bz, bt, List.getD_cons_zero]; refine aa _ ?_; clear aa K0; simp only [put, app, af, aj, zE, zS, E])
 refine ao ?_
 refine hK5 _ ?_; clear hK5; refine ai [0, 1, 2, 4, 5, 6, 7, 8, 9] ?_; simp only [ad, lkp, zE, reduceCtorEq, J, ae, E]
 refine ah fun K6 hK6 => ?_
 refine aq hP hN rfl ?_
 (refine ag rfl fun K0 aa => ?_; simp only [zE, op1, ev, lkp, am, ak, bc, bo, c9, rep, aL, aV, aA, Ty.size, reduceCtorEq, J, E, U, Z, V, Y, Tryd.el25, Tryd.td2, Tryd.td25, Mpr.av, Mly.av, bz, bt, List.getD_cons_zero]; (repeat refine And.intro (by first | omega | assumption | exact rfl) ?_); (first | refine aa _ ?_ | refine Or.inl (aa _ ?_)); clear aa K0; simp only [put, app, af, aj, zE, zS, E])
 refine ag rfl fun K0 aa => ?_
 refine b9 (h := aR (lA [0, 0])) rfl rfl (by first | exact rfl | (simp only [ev, ad, lkp, zE, reduceCtorEq, J, ae, E]; exact rfl)) (by simp only [zE, zG, op1, ev, lkp, am, ak, aA, acs, bq, mv1, mvC, Ty.dflt, reduceCtorEq, J, E, U, Z, V, Y, Mpr.av, Mly.av, bz, bt, List.getD_cons_zero]) ?_
 refine aa _ ?_; clear aa K0; simp only [put, app, af, aj, zE, zS, E]
 iterate 6 (refine ag rfl fun K0 aa => ?_; simp only [zE, op1, ev, lkp, am, ak, bW, cv, bV, Nat.mul_one, aA, aV, aL, acs, Ty.size, Ty.dflt, zG, reduceCtorEq, J, E, U, Z, V, Y, Tryd.st24, Tryd.td1, Tryd.td24, Tryd.td26, Mpr.av, Mly.av, bz, bt, List.getD_cons_zero]; (repeat refine And.intro (by first | omega | assumption | exact rfl) ?_); (first | refine aa _ ?_ | refine Or.inl (aa _ ?_)); clear aa K0; simp only [put, app, af, aj, zE, zS, E])
 refine ao ?_
 refine hK6 _ ?_; clear hK6; refine ai [0, 1, 2, 4, 5, 6, 7, 8, 9, 10] ?_; simp only [ad, lkp, zE, reduceCtorEq, J, ae, E]
 refine ah fun K7 hK7 => ?_
 refine g0 ?_; simp only [List.cons_append, List.append_assoc, List.nil_append]
 refine g0 ?_; simp only [List.cons_append, List.append_assoc, List.nil_append]
 refine cg hP hN Tryd.mixed rfl ?_
 refine ag rfl fun K0 aa => ?_
 refine b9 (h := aR kQ) rfl rfl (by first | exact rfl | (simp only [ev, ad, lkp, zE, reduceCtorEq, J, ae, E]; exact rfl)) (by simp only [zE, zG, op1, ev, lkp, am, ak, aA, acs, bq, mv1, mvC, Ty.dflt, reduceCtorEq, J, E, U, Z, V, Y, Mpr.av, Mly.av, bz, bt, List.getD_cons_zero]) ?_
 refine aa _ ?_; clear aa K0; simp only [put, app, af, aj, zE, zS, E]
 (refine ag rfl fun K0 aa => ?_; simp only [zE, op1, ev, lkp, am, ak, aE, Nat.mul_one, aC, aD, acs, Ty.dflt, zG, az, reduceCtorEq, J, E, U, Z, V, Y, Tryd.st24, Tryd.td24, Mpr.av, Mly.av, bz, bt, List.getD_cons_zero]; (repeat refine And.intro (by first | omega | assumption | exact rfl) ?_); refine aa _ ?_; clear aa K0; simp only [put, app, af, aj, zE, zS, E])
 refine ag rfl fun K0 aa => ?_
 refine b9 (h := aR sJ) rfl rfl (by first | exact rfl | (simp only [ev, ad, lkp, zE, reduceCtorEq, J, ae, E]; exact rfl)) (by simp only [zE, zG, op1, ev, lkp, am, ak, aA, acs, bq, mv1, mvC, Ty.dflt, reduceCtorEq, J, E, U, Z, V, Y, Mpr.av, Mly.av, bz, bt, List.getD_cons_zero]) ?_
 refine aa _ ?_; clear aa K0; simp only [put, app, af, aj, zE, zS, E]
 iterate 5 (refine ag rfl fun K0 aa => ?_; simp only [zE, op1, ev, lkp, am, ak, bW, reduceCtorEq, J, E, U, Z, V, Y, Tryd.st47, Tryd.st50, Tryd.td1, Tryd.td2, Tryd.td26, Tryd.td3, Tryd.td4, Tryd.td47, Tryd.td50, Mpr.av, Mly.av, bz, bt, List.getD_cons_zero]; refine aa _ ?_; clear aa K0; simp only [put, app, af, aj, zE, zS, E])
 (refine ag rfl fun K0 aa => ?_; simp only [zE, op1, ev, lkp, am, ak, cv, reduceCtorEq, J, E, U, Z, V, Y, Tryd.st47, Tryd.td47, Mpr.av, Mly.av, bz, bt, List.getD_cons_zero]; refine Or.inr (Or.inl ⟨3, ?_, (.pair (.int .i64) (.pair (.int .i64) (.pair (.list (.list (.int .i64))) (.pair (.list (.list (.int .i64))) .unit)))), (0, (0, ([], ([], ())))), ?_⟩); (exact rfl); (repeat refine And.intro (by first | rfl | decide) ?_); refine aa _ ?_; clear aa K0; simp only [put, app, af, aj, zE, zS, E])
 (refine ag rfl fun K0 aa => ?_; simp only [zE, op1, ev, lkp, am, ak, cv, reduceCtorEq, J, E, U, Z, V, Y, Tryd.st50, Tryd.td50, Mpr.av, Mly.av, bz, bt, List.getD_cons_zero]; refine Or.inr (Or.inl ⟨4, ?_, (.pair (.list (.int .i64)) (.pair (.int .i64) (.pair (.int .i64) .unit))), ([], (0, (0, ()))), ?_⟩); (exact rfl); (repeat refine And.intro (by first | rfl | decide) ?_); refine aa _ ?_; clear aa K0; simp only [put, app, af, aj, zE, zS, E])
 iterate 4 (refine ag rfl fun K0 aa => ?_; simp only [zE, op1, ev, lkp, am, ak, bV, Nat.mul_one, aA, aV, aL, acs, Ty.size, Ty.dflt, zG, reduceCtorEq, J, E, U, Z, V, Y, Tryd.st47, Tryd.st50, Tryd.td26, Tryd.td4, Tryd.td47, Tryd.td50, Mpr.av, Mly.av, bz, bt, List.getD_cons_zero]; (repeat refine And.intro (by first | omega | assumption | exact rfl) ?_); refine aa _ ?_; clear aa K0; simp only [put, app, af, aj, zE, zS, E])
 refine ao ?_
 refine ⟨by kernel_rfl, ?_⟩
 refine hK7 _ ?_; clear hK7; refine ai [0, 1, 2, 4, 5, 6, 7, 8, 9, 10, 13, 14, 15] ?_; simp only [ad, lkp, zE, reduceCtorEq, J, ae, E]
 refine ah fun K8 hK8 => ?_
 refine aq hP hN rfl ?_
 iterate 9 (refine ag rfl fun K0 aa => ?_; simp only [zE, op1, ev, lkp, am, ak, bc, bo, c9, rep, aL, aV, aA, Ty.size, cu, cv, bV, Nat.mul_one, acs, Ty.dflt, zG, reduceCtorEq, J, E, U, Z, V, Y, Tryd.el22, Tryd.el25, Tryd.st24, Tryd.td2, Tryd.td22, Tryd.td24, Tryd.td25, Mpr.av, Mly.av, bz, bt, List.getD_cons_zero]; (repeat refine And.intro (by first | omega | assumption | exact rfl) ?_); (first | refine aa _ ?_ | refine Or.inl (aa _ ?_)); clear aa K0; simp only [put, app, af, aj, zE, zS, E])
 refine ao ?_
 refine hK8 _ ?_; clear hK8; refine ai [0, 1, 2, 4, 5, 6, 7, 8, 9, 10, 13, 14, 15, 16] ?_; simp only [ad, lkp, zE, reduceCtorEq, J, ae, E]
 refine ah fun K9 hK9 => ?_
 refine g0 ?_; simp only [List.cons_append, List.append_assoc, List.nil_append]
 refine g0 ?_; simp only [List.cons_append, List.append_assoc, List.nil_append]
 refine cg hP hN Tryd.mixed rfl ?_
 refine ag rfl fun K0 aa => ?_
 refine b9 (h := aR kQ) rfl rfl (by first | exact rfl | (simp only [ev, ad, lkp, zE, reduceCtorEq, J, ae, E]; exact rfl)) (by simp only [zE, zG, op1, ev, lkp, am, ak, aA, acs, bq, mv1, mvC, Ty.dflt, reduceCtorEq, J, E, U, Z, V, Y, Mpr.av, Mly.av, bz, bt, List.getD_cons_zero]) ?_
 refine aa _ ?_; clear aa K0; simp only [put, app, af, aj, zE, zS, E]
 (refine ag rfl fun K0 aa => ?_; simp only [zE, op1, ev, lkp, am, ak, aE, Nat.mul_one, aC, aD, acs, Ty.dflt, zG, az, reduceCtorEq, J, E, U, Z, V, Y, Tryd.st24, Tryd.td24, Mpr.av, Mly.av, bz, bt, List.getD_cons_zero]; (repeat refine And.intro (by first | omega | assumption | exact rfl) ?_); refine aa _ ?_; clear aa K0; simp only [put, app, af, aj, zE, zS, E])
 refine ag rfl fun K0 aa => ?_
 refine b9 (h := aR su) rfl rfl (by first | exact rfl | (simp only [ev, ad, lkp, zE, reduceCtorEq, J, ae, E]; exact rfl)) (by simp only [zE, zG, op1, ev, lkp, am, ak, aA, acs, bq, mv1, mvC, Ty.dflt, reduceCtorEq, J, E, U, Z, V, Y, Mpr.av, Mly.av, bz, bt, List.getD_cons_zero]) ?_
 refine aa _ ?_; clear aa K0; simp only [put, app, af, aj, zE, zS, E]
 iterate 5 (refine ag rfl fun K0 aa => ?_; simp only [zE, op1, ev, lkp, am, ak, bW, reduceCtorEq, J, E, U, Z, V, Y, Tryd.st47, Tryd.st50, Tryd.td1, Tryd.td2, Tryd.td26, Tryd.td3, Tryd.td4, Tryd.td47, Tryd.td50, Mpr.av, Mly.av, bz, bt, List.getD_cons_zero]; refine aa _ ?_; clear aa K0; simp only [put, app, af, aj, zE, zS, E])
 (refine ag rfl fun K0 aa => ?_; simp only [zE, op1, ev, lkp, am, ak, cv, reduceCtorEq, J, E, U, Z, V, Y, Tryd.st47, Tryd.td47, Mpr.av, Mly.av, bz, bt, List.getD_cons_zero]; refine Or.inr (Or.inl ⟨6, ?_, (.pair (.int .i64) (.pair (.int .i64) (.pair (.list (.list (.int .i64))) (.pair (.list (.list (.int .i64))) .unit)))), (0, (0, ([], ([], ())))), ?_⟩); (exact rfl); (repeat refine And.intro (by first | rfl | decide) ?_); refine aa _ ?_; clear aa K0; simp only [put, app, af, aj, zE, zS, E])
 (refine ag rfl fun K0 aa => ?_; simp only [zE, op1, ev, lkp, am, ak, cv, reduceCtorEq, J, E, U, Z, V, Y, Tryd.st50, Tryd.td50, Mpr.av, Mly.av, bz, bt, List.getD_cons_zero]; refine Or.inr (Or.inl ⟨7, ?_, (.pair (.list (.int .i64)) (.pair (.int .i64) (.pair (.int .i64) .unit))), ([], (0, (0, ()))), ?_⟩); (exact rfl); (repeat refine And.intro (by first | rfl | decide) ?_); refine aa _ ?_; clear aa K0; simp only [put, app, af, aj, zE, zS, E])
 iterate 4 (refine ag rfl fun K0 aa => ?_; simp only [zE, op1, ev, lkp, am, ak, bV, Nat.mul_one, aA, aV, aL, acs, Ty.size, Ty.dflt, zG, reduceCtorEq, J, E, U, Z, V, Y, Tryd.st47, Tryd.st50, Tryd.td26, Tryd.td4, Tryd.td47, Tryd.td50, Mpr.av, Mly.av, bz, bt, List.getD_cons_zero]; (repeat refine And.intro (by first | omega | assumption | exact rfl) ?_); refine aa _ ?_; clear aa K0; simp only [put, app, af, aj, zE, zS, E])
 refine ao ?_
 refine ⟨by kernel_rfl, ?_⟩
 refine hK9 _ ?_; clear hK9; refine ai [0, 1, 2, 4, 5, 6, 7, 8, 9, 10, 13, 14, 15, 16, 17, 19, 20] ?_; simp only [ad, lkp, zE, reduceCtorEq, J, ae, E]
 refine ah fun K10 hK10 => ?_
 refine ah fun K11 hK11 => ?_
 refine aq hP hN rfl ?_
 iterate 2 (refine ag rfl fun K0 aa => ?_; simp only [zE, op1, ev, lkp, am, ak, aG, aH, aI, ay, aF, aS, reduceCtorEq, J, E, U, Z, V, Y, Tryd.td26, Tryd.td4, Mpr.av, Mly.av, bz, bt, List.getD_cons_zero]; (repeat refine And.intro (by first | omega | assumption | exact rfl) ?_); refine aa _ ?_; clear aa K0; simp only [put, app, af, aj, zE, zS, E])
 (refine ag rfl fun K0 aa => ?_; simp only [zE, op1, ev, lkp, am, ak, ev, reduceCtorEq, J, E, U, Z, V, Y, Tryd.td4, Mpr.av, Mly.av, bz, bt, List.getD_cons_zero]; refine aa _ ?_; clear aa K0; simp only [put, app, af, aj, zE, zS, E])
 refine' aZ (want := false) 2 rfl (m := 74) (by simp only [ad, lkp, zE, reduceCtorEq, J, ae, E]; exact rfl) (by kernel_rfl) rfl rfl rfl rfl rfl (fun hg12 => ?a12) ?b12 ?c12
 case a12 =>
  have hq12 := hg12; (try simp only [zB, reduceCtorEq] at hg12); simp only [List.take_succ_cons, List.take_zero, List.cons_append, List.nil_append]
  (refine aB rfl fun K0 aa => ?_; simp only [zE, op1, ev, lkp, am, ak, ev, reduceCtorEq, J, E, U, Z, V, Y, Tryd.td26, Mpr.av, Mly.av, bz, bt, List.getD_cons_zero]; refine aa _ ?_; clear aa K0; simp only [put, app, af, aj, zE, zS, E])
  (refine aB rfl fun K0 aa => ?_; simp only [zE, op1, ev, lkp, am, ak, aG, aH, aI, ay, aF, aS, reduceCtorEq, J, E, U, Z, V, Y, Tryd.td26, Tryd.td4, Mpr.av, Mly.av, bz, bt, List.getD_cons_zero]; (repeat refine And.intro (by first | omega | assumption | exact rfl) ?_); refine aa _ ?_; clear aa K0; simp only [put, app, af, aj, zE, zS, E])
  (refine ag rfl fun K0 aa => ?_; simp only [zE, op1, ev, lkp, am, ak, bB, reduceCtorEq, J, E, U, Z, V, Y, Tryd.td4, Mpr.av, Mly.av, bz, bt, List.getD_cons_zero]; refine aa _ ?_; clear aa K0; simp only [put, app, af, aj, zE, zS, E])
  refine ao ?_
  refine ⟨by simp only [ad, lkp, zE, reduceCtorEq, J, ae, E]; exact rfl, rfl, ?_, rfl⟩; (repeat refine b8 rfl ?_); exact bG (by exact rfl) hq12
 case b12 => exact bD (by first | rfl | (simp [cf]; done) | decide)
 simp only [bp, bg]
 (refine ag rfl fun K0 aa => ?_; simp only [zE, op1, ev, lkp, am, ak, ev, reduceCtorEq, J, E, U, Z, V, Y, Tryd.td4, Mpr.av, Mly.av, bz, bt, List.getD_cons_zero]; refine aa _ ?_; clear aa K0; simp only [put, app, af, aj, zE, zS, E])
 refine' aZ (want := false) 2 rfl (m := 78) (by simp only [ad, lkp, zE, reduceCtorEq, J, ae, E]; exact rfl) (by kernel_rfl) rfl rfl rfl rfl rfl (fun hg13 => ?a13) ?b13 ?c13
 case a13 =>
  have hq13 := hg13; (try simp only [zB, reduceCtorEq] at hg13); simp only [List.take_succ_cons, List.take_zero, List.cons_append, List.nil_append]
  (refine aB rfl fun K0 aa => ?_; simp only [zE, op1, ev, lkp, am, ak, ev, reduceCtorEq, J, E, U, Z, V, Y, Tryd.td26, Mpr.av, Mly.av, bz, bt, List.getD_cons_zero]; refine aa _ ?_; clear aa K0; simp only [put, app, af, aj, zE, zS, E])
  (refine aB rfl fun K0 aa => ?_; simp only [zE, op1, ev, lkp, am, ak, aG, aH, aI, ay, aF, aS, reduceCtorEq, J, E, U, Z, V, Y, Tryd.td26, Tryd.td4, Mpr.av, Mly.av, bz, bt, List.getD_cons_zero]; (repeat refine And.intro (by first | omega | assumption | exact rfl) ?_); refine aa _ ?_; clear aa K0; simp only [put, app, af, aj, zE, zS, E])
  (refine ag rfl fun K0 aa => ?_; simp only [zE, op1, ev, lkp, am, ak, bB, reduceCtorEq, J, E, U, Z, V, Y, Tryd.td4, Mpr.av, Mly.av, bz, bt, List.getD_cons_zero]; refine aa _ ?_; clear aa K0; simp only [put, app, af, aj, zE, zS, E])
  refine ao ?_
  refine ⟨by simp only [ad, lkp, zE, reduceCtorEq, J, ae, E]; exact rfl, rfl, ?_, rfl⟩; (repeat refine b8 rfl ?_); exact bG (by exact rfl) hq13
 case b13 => exact bD (by first | rfl | (simp [cf]; done) | decide)
 simp only [bp, bg]
 (refine ag rfl fun K0 aa => ?_; simp only [zE, op1, ev, lkp, am, ak, ev, reduceCtorEq, J, E, U, Z, V, Y, Tryd.td4, Mpr.av, Mly.av, bz, bt, List.getD_cons_zero]; refine aa _ ?_; clear aa K0; simp only [put, app, af, aj, zE, zS, E])
 refine' aZ (want := false) 2 rfl (m := 82) (by simp only [ad, lkp, zE, reduceCtorEq, J, ae, E]; exact rfl) (by kernel_rfl) rfl rfl rfl rfl rfl (fun hg14 => ?a14) ?b14 ?c14
 case a14 =>
  have hq14 := hg14; (try simp only [zB, reduceCtorEq] at hg14); simp only [List.take_succ_cons, List.take_zero, List.cons_append, List.nil_append]
  (refine aB rfl fun K0 aa => ?_; simp only [zE, op1, ev, lkp, am, ak, ev, reduceCtorEq, J, E, U, Z, V, Y, Tryd.td26, Mpr.av, Mly.av, bz, bt, List.getD_cons_zero]; refine aa _ ?_; clear aa K0; simp only [put, app, af, aj, zE, zS, E])
  (refine aB rfl fun K0 aa => ?_; simp only [zE, op1, ev, lkp, am, ak, aG, aH, aI, ay, aF, aS, reduceCtorEq, J, E, U, Z, V, Y, Tryd.td26, Tryd.td4, Mpr.av, Mly.av, bz, bt, List.getD_cons_zero]; (repeat refine And.intro (by first | omega | assumption | exact rfl) ?_); refine aa _ ?_; clear aa K0; simp only [put, app, af, aj, zE, zS, E])
  (refine ag rfl fun K0 aa => ?_; simp only [zE, op1, ev, lkp, am, ak, bB, reduceCtorEq, J, E, U, Z, V, Y, Tryd.td4, Mpr.av, Mly.av, bz, bt, List.getD_cons_zero]; refine aa _ ?_; clear aa K0; simp only [put, app, af, aj, zE, zS, E])
  refine ao ?_
  refine ⟨by simp only [ad, lkp, zE, reduceCtorEq, J, ae, E]; exact rfl, rfl, ?_, rfl⟩; (repeat refine b8 rfl ?_); exact bG (by exact rfl) hq14
 case b14 => exact bD (by first | rfl | (simp [cf]; done) | decide)
 simp only [bp, bg]
 (refine ag rfl fun K0 aa => ?_; simp only [zE, op1, ev, lkp, am, ak, ev, reduceCtorEq, J, E, U, Z, V, Y, Tryd.td4, Mpr.av, Mly.av, bz, bt, List.getD_cons_zero]; refine aa _ ?_; clear aa K0; simp only [put, app, af, aj, zE, zS, E])
 refine' aZ (want := false) 2 rfl (m := 86) (by simp only [ad, lkp, zE, reduceCtorEq, J, ae, E]; exact rfl) (by kernel_rfl) rfl rfl rfl rfl rfl (fun hg15 => ?a15) ?b15 ?c15
 case a15 =>
  have hq15 := hg15; (try simp only [zB, reduceCtorEq] at hg15); simp only [List.take_succ_cons, List.take_zero, List.cons_append, List.nil_append]
  (refine aB rfl fun K0 aa => ?_; simp only [zE, op1, ev, lkp, am, ak, ev, reduceCtorEq, J, E, U, Z, V, Y, Tryd.td26, Mpr.av, Mly.av, bz, bt, List.getD_cons_zero]; refine aa _ ?_; clear aa K0; simp only [put, app, af, aj, zE, zS, E])
  (refine aB rfl fun K0 aa => ?_; simp only [zE, op1, ev, lkp, am, ak, aG, aH, aI, ay, aF, aS, reduceCtorEq, J, E, U, Z, V, Y, Tryd.td26, Tryd.td4, Mpr.av, Mly.av, bz, bt, List.getD_cons_zero]; (repeat refine And.intro (by first | omega | assumption | exact rfl) ?_); refine aa _ ?_; clear aa K0; simp only [put, app, af, aj, zE, zS, E])
  (refine ag rfl fun K0 aa => ?_; simp only [zE, op1, ev, lkp, am, ak, bB, reduceCtorEq, J, E, U, Z, V, Y, Tryd.td4, Mpr.av, Mly.av, bz, bt, List.getD_cons_zero]; refine aa _ ?_; clear aa K0; simp only [put, app, af, aj, zE, zS, E])
  refine ao ?_
  refine ⟨by simp only [ad, lkp, zE, reduceCtorEq, J, ae, E]; exact rfl, rfl, ?_, rfl⟩; (repeat refine b8 rfl ?_); exact bG (by exact rfl) hq15
 case b15 => exact bD (by first | rfl | (simp [cf]; done) | decide)
 simp only [bp, bg]
 (refine ag rfl fun K0 aa => ?_; simp only [zE, op1, ev, lkp, am, ak, ev, reduceCtorEq, J, E, U, Z, V, Y, Tryd.td4, Mpr.av, Mly.av, bz, bt, List.getD_cons_zero]; refine aa _ ?_; clear aa K0; simp only [put, app, af, aj, zE, zS, E])
 refine' aZ (want := false) 2 rfl (m := 90) (by simp only [ad, lkp, zE, reduceCtorEq, J, ae, E]; exact rfl) (by kernel_rfl) rfl rfl rfl rfl rfl (fun hg16 => ?a16) ?b16 ?c16
 case a16 =>
  have hq16 := hg16; (try simp only [zB, reduceCtorEq] at hg16); simp only [List.take_succ_cons, List.take_zero, List.cons_append, List.nil_append]
  (refine aB rfl fun K0 aa => ?_; simp only [zE, op1, ev, lkp, am, ak, ev, reduceCtorEq, J, E, U, Z, V, Y, Tryd.td26, Mpr.av, Mly.av, bz, bt, List.getD_cons_zero]; refine aa _ ?_; clear aa K0; simp only [put, app, af, aj, zE, zS, E])
  (refine aB rfl fun K0 aa => ?_; simp only [zE, op1, ev, lkp, am, ak, aG, aH, aI, ay, aF, aS, reduceCtorEq, J, E, U, Z, V, Y, Tryd.td26, Tryd.td4, Mpr.av, Mly.av, bz, bt, List.getD_cons_zero]; (repeat refine And.intro (by first | omega | assumption | exact rfl) ?_); refine aa _ ?_; clear aa K0; simp only [put, app, af, aj, zE, zS, E])
  (refine ag rfl fun K0 aa => ?_; simp only [zE, op1, ev, lkp, am, ak, bB, reduceCtorEq, J, E, U, Z, V, Y, Tryd.td4, Mpr.av, Mly.av, bz, bt, List.getD_cons_zero]; refine aa _ ?_; clear aa K0; simp only [put, app, af, aj, zE, zS, E])
  refine ao ?_
  refine ⟨by simp only [ad, lkp, zE, reduceCtorEq, J, ae, E]; exact rfl, rfl, ?_, rfl⟩; (repeat refine b8 rfl ?_); exact bG (by exact rfl) hq16
 case b16 => exact bD (by first | rfl | (simp [cf]; done) | decide)
 simp only [bp, bg]
 (refine ag rfl fun K0 aa => ?_; simp only [zE, op1, ev, lkp, am, ak, ev, reduceCtorEq, J, E, U, Z, V, Y, Tryd.td4, Mpr.av, Mly.av, bz, bt, List.getD_cons_zero]; refine aa _ ?_; clear aa K0; simp only [put, app, af, aj, zE, zS, E])
 refine' aZ (want := false) 2 rfl (m := 94) (by simp only [ad, lkp, zE, reduceCtorEq, J, ae, E]; exact rfl) (by kernel_rfl) rfl rfl rfl rfl rfl (fun hg17 => ?a17) ?b17 ?c17
 case a17 =>
  have hq17 := hg17; (try simp only [zB, reduceCtorEq] at hg17); simp only [List.take_succ_cons, List.take_zero, List.cons_append, List.nil_append]
  (refine aB rfl fun K0 aa => ?_; simp only [zE, op1, ev, lkp, am, ak, ev, reduceCtorEq, J, E, U, Z, V, Y, Tryd.td4, Mpr.av, Mly.av, bz, bt, List.getD_cons_zero]; refine aa _ ?_; clear aa K0; simp only [put, app, af, aj, zE, zS, E])
  (refine aB rfl fun K0 aa => ?_; simp only [zE, op1, ev, lkp, am, ak, eV, reduceCtorEq, J, E, U, Z, V, Y, Tryd.td4, Mpr.av, Mly.av, bz, bt, List.getD_cons_zero]; (repeat refine And.intro (by first | omega | assumption | exact rfl) ?_); refine aa _ ?_; clear aa K0; simp only [put, app, af, aj, zE, zS, E])
  (refine ag rfl fun K0 aa => ?_; simp only [zE, op1, ev, lkp, am, ak, bB, reduceCtorEq, J, E, U, Z, V, Y, Tryd.td4, Mpr.av, Mly.av, bz, bt, List.getD_cons_zero]; refine aa _ ?_; clear aa K0; simp only [put, app, af, aj, zE, zS, E])
  refine ao ?_
  refine ⟨by simp only [ad, lkp, zE, reduceCtorEq, J, ae, E]; exact rfl, rfl, ?_, rfl⟩; (repeat refine b8 rfl ?_); exact bG (by exact rfl) hq17
 case b17 => exact bD (by first | rfl | (simp [cf]; done) | decide)
 simp only [bp, bg]
 (refine ag rfl fun K0 aa => ?_; simp only [zE, op1, ev, lkp, am, ak, ev, reduceCtorEq, J, E, U, Z, V, Y, Tryd.td4, Mpr.av, Mly.av, bz, bt, List.getD_cons_zero]; refine aa _ ?_; clear aa K0; simp only [put, app, af, aj, zE, zS, E])
 refine' aZ (want := false) 1 rfl (m := 98) (by simp only [ad, lkp, zE, reduceCtorEq, J, ae, E]; exact rfl) (by kernel_rfl) rfl rfl rfl rfl rfl (fun hg18 => ?a18) ?b18 ?c18
 case a18 =>
  have hq18 := hg18; (try simp only [zB, reduceCtorEq] at hg18); simp only [List.take_succ_cons, List.take_zero, List.cons_append, List.nil_append]
  (refine aB rfl fun K0 aa => ?_; simp only [zE, op1, ev, lkp, am, ak, ev, reduceCtorEq, J, E, U, Z, V, Y, Tryd.td4, Mpr.av, Mly.av, bz, bt, List.getD_cons_zero]; refine aa _ ?_; clear aa K0; simp only [put, app, af, aj, zE, zS, E])
  (refine ag rfl fun K0 aa => ?_; simp only [zE, op1, ev, lkp, am, ak, bB, reduceCtorEq, J, E, U, Z, V, Y, Tryd.td4, Mpr.av, Mly.av, bz, bt, List.getD_cons_zero]; refine aa _ ?_; clear aa K0; simp only [put, app, af, aj, zE, zS, E])
  refine ao ?_
  refine ⟨by simp only [ad, lkp, zE, reduceCtorEq, J, ae, E]; exact rfl, rfl, ?_, rfl⟩; (repeat refine b8 rfl ?_); exact bG (by exact rfl) hq18
 case b18 => exact bD (by first | rfl | (simp [cf]; done) | decide)
 simp only [bp, bg]
 (refine ag rfl fun K0 aa => ?_; simp only [zE, op1, ev, lkp, am, ak, ev, reduceCtorEq, J, E, U, Z, V, Y, Tryd.td4, Mpr.av, Mly.av, bz, bt, List.getD_cons_zero]; refine aa _ ?_; clear aa K0; simp only [put, app, af, aj, zE, zS, E])
 refine' aZ (want := false) 2 rfl (m := 101) (by simp only [ad, lkp, zE, reduceCtorEq, J, ae, E]; exact rfl) (by kernel_rfl) rfl rfl rfl rfl rfl (fun hg19 => ?a19) ?b19 ?c19
 case a19 =>
  have hq19 := hg19; (try simp only [zB, reduceCtorEq] at hg19); simp only [List.take_succ_cons, List.take_zero, List.cons_append, List.nil_append]
  (refine aB rfl fun K0 aa => ?_; simp only [zE, op1, ev, lkp, am, ak, ev, reduceCtorEq, J, E, U, Z, V, Y, Tryd.td4, Mpr.av, Mly.av, bz, bt, List.getD_cons_zero]; refine aa _ ?_; clear aa K0; simp only [put, app, af, aj, zE, zS, E])
  (refine aB rfl fun K0 aa => ?_; simp only [zE, op1, ev, lkp, am, ak, eV, reduceCtorEq, J, E, U, Z, V, Y, Tryd.td4, Mpr.av, Mly.av, bz, bt, List.getD_cons_zero]; (repeat refine And.intro (by first | omega | assumption | exact rfl) ?_); refine aa _ ?_; clear aa K0; simp only [put, app, af, aj, zE, zS, E])
  (refine ag rfl fun K0 aa => ?_; simp only [zE, op1, ev, lkp, am, ak, bB, reduceCtorEq, J, E, U, Z, V, Y, Tryd.td4, Mpr.av, Mly.av, bz, bt, List.getD_cons_zero]; refine aa _ ?_; clear aa K0; simp only [put, app, af, aj, zE, zS, E])
  refine ao ?_
  refine ⟨by simp only [ad, lkp, zE, reduceCtorEq, J, ae, E]; exact rfl, rfl, ?_, rfl⟩; (repeat refine b8 rfl ?_); exact bG (by exact rfl) hq19
 case b19 => exact bD (by first | rfl | (simp [cf]; done) | decide)
 simp only [bp, bg]
 (refine ag rfl fun K0 aa => ?_; simp only [zE, op1, ev, lkp, am, ak, ev, reduceCtorEq, J, E, U, Z, V, Y, Tryd.td4, Mpr.av, Mly.av, bz, bt, List.getD_cons_zero]; refine aa _ ?_; clear aa K0; simp only [put, app, af, aj, zE, zS, E])
 refine' aZ (want := false) 3 rfl (m := 105) (by simp only [ad, lkp, zE, reduceCtorEq, J, ae, E]; exact rfl) (by kernel_rfl) rfl rfl rfl rfl rfl (fun hg20 => ?a20) ?b20 ?c20
 case a20 =>
  have hq20 := hg20; (try simp only [zB, reduceCtorEq] at hg20); simp only [List.take_succ_cons, List.take_zero, List.cons_append, List.nil_append]
  (refine aB rfl fun K0 aa => ?_; simp only [zE, op1, ev, lkp, am, ak, ax, reduceCtorEq, J, E, U, Z, V, Y, Tryd.st24, Tryd.td1, Tryd.td24, Mpr.av, Mly.av, bz, bt, List.getD_cons_zero]; (repeat refine And.intro (by first | omega | assumption | exact rfl) ?_); refine aa _ ?_; clear aa K0; simp only [put, app, af, aj, zE, zS, E])
  (refine aB rfl fun K0 aa => ?_; simp only [zE, op1, ev, lkp, am, ak, aE, Nat.mul_one, aC, aD, acs, Ty.dflt, zG, az, reduceCtorEq, J, E, U, Z, V, Y, Tryd.td3, Mpr.av, Mly.av, bz, bt, List.getD_cons_zero]; (repeat refine And.intro (by first | omega | assumption | exact rfl) ?_); refine aa _ ?_; clear aa K0; simp only [put, app, af, aj, zE, zS, E])
  (refine aB rfl fun K0 aa => ?_; simp only [zE, op1, ev, lkp, am, ak, aG, aH, aI, ay, aF, aS, reduceCtorEq, J, E, U, Z, V, Y, Tryd.td3, Tryd.td4, Mpr.av, Mly.av, bz, bt, List.getD_cons_zero]; (repeat refine And.intro (by first | omega | assumption | exact rfl) ?_); refine aa _ ?_; clear aa K0; simp only [put, app, af, aj, zE, zS, E])
  (refine ag rfl fun K0 aa => ?_; simp only [zE, op1, ev, lkp, am, ak, bB, reduceCtorEq, J, E, U, Z, V, Y, Tryd.td4, Mpr.av, Mly.av, bz, bt, List.getD_cons_zero]; refine aa _ ?_; clear aa K0; simp only [put, app, af, aj, zE, zS, E])
  refine ao ?_
  refine ⟨by simp only [ad, lkp, zE, reduceCtorEq, J, ae, E]; exact rfl, rfl, ?_, rfl⟩; (repeat refine b8 rfl ?_); exact bG (by exact rfl) hq20
 case b20 => exact bD (by first | rfl | (simp [cf]; done) | decide)
 simp only [bp, bg]
 refine ao ?_
 refine hK11 _ ?_; clear hK11; refine ai [0, 1, 2, 4, 5, 6, 7, 8, 9, 10, 13, 14, 15, 16, 17, 19, 20, 109] ?_; simp only [ad, lkp, zE, reduceCtorEq, J, ae, E]
 refine aJ (by simp only [ev, ad, lkp, zE, reduceCtorEq, J, ae, E]; exact rfl) (fun hc21 => ?_) (fun hc21 => ?_)
 ·exfalso; (try simp only [zB, reduceCtorEq] at hc21)
  revert hc21; decide +kernel
 ·(try simp only [zB, reduceCtorEq] at hc21)
  refine aM ?_
  refine hK10 _ ?_; clear hK10; refine ai [0, 1, 2, 4, 5, 6, 7, 8, 9, 10, 13, 14, 15, 16, 17, 19, 20, 109] ?_; simp only [ad, lkp, zE, reduceCtorEq, J, ae, E]
  refine ah fun K22 hK22 => ?_
  refine aq hP hN rfl ?_
  iterate 2 (refine ag rfl fun K0 aa => ?_; simp only [zE, op1, ev, lkp, am, ak, bc, bo, c9, rep, aL, aV, aA, Ty.size, reduceCtorEq, J, E, U, Z, V, Y, Tryd.el25, Tryd.td25, Tryd.td3, Mpr.av, Mly.av, bz, bt, List.getD_cons_zero]; (repeat refine And.intro (by first | omega | assumption | exact rfl) ?_); (first | refine aa _ ?_ | refine Or.inl (aa _ ?_)); clear aa K0; simp only [put, app, af, aj, zE, zS, E])
  refine ag rfl fun K0 aa => ?_
  refine b9 (h := aR (ji (abV (dC [0, 1, 0]) [2, 1, 0]) [0, 1, 0])) rfl rfl (by first | exact rfl | (simp only [ev, ad, lkp, zE, reduceCtorEq, J, ae, E]; exact rfl)) (by simp only [zE, zG, op1, ev, lkp, am, ak, aA, acs, bq, mv1, mvC, Ty.dflt, reduceCtorEq, J, E, U, Z, V, Y, Mpr.av, Mly.av, bz, bt, List.getD_cons_zero]) ?_
  refine aa _ ?_; clear aa K0; simp only [put, app, af, aj, zE, zS, E]
  (refine ag rfl fun K0 aa => ?_; simp only [zE, op1, ev, lkp, am, ak, ev, reduceCtorEq, J, E, U, Z, V, Y, Tryd.td4, Mpr.av, Mly.av, bz, bt, List.getD_cons_zero]; refine aa _ ?_; clear aa K0; simp only [put, app, af, aj, zE, zS, E])
  refine' aZ (want := true) 3 rfl (m := 113) (by simp only [ad, lkp, zE, reduceCtorEq, J, ae, E]; exact rfl) (by kernel_rfl) rfl rfl rfl rfl rfl (fun hg23 => ?a23) ?b23 ?c23
  case a23 =>
   have hq23 := hg23; (try simp only [zB, reduceCtorEq] at hg23); simp only [List.take_succ_cons, List.take_zero, List.cons_append, List.nil_append]
   (refine aB rfl fun K0 aa => ?_; simp only [zE, op1, ev, lkp, am, ak, ev, reduceCtorEq, J, E, U, Z, V, Y, Tryd.el25, Tryd.td25, Mpr.av, Mly.av, bz, bt, List.getD_cons_zero]; refine aa _ ?_; clear aa K0; simp only [put, app, af, aj, zE, zS, E])
   (refine aB rfl fun K0 aa => ?_; simp only [zE, op1, ev, lkp, am, ak, bc, bo, c9, rep, aL, aV, aA, Ty.size, reduceCtorEq, J, E, U, Z, V, Y, Tryd.el25, Tryd.td25, Tryd.td3, Mpr.av, Mly.av, bz, bt, List.getD_cons_zero]; (repeat refine And.intro (by first | omega | assumption | exact rfl) ?_); (first | refine aa _ ?_ | refine Or.inl (aa _ ?_)); clear aa K0; simp only [put, app, af, aj, zE, zS, E])
   refine aB rfl fun K0 aa => ?_
   refine b9 (h := aR (ji (pcW (dC [0, 1, 0]) [0, 1, 0]) [0, 1, 0])) rfl rfl (by first | exact rfl | (simp only [ev, ad, lkp, zE, reduceCtorEq, J, ae, E]; exact rfl)) (by simp only [zE, zG, op1, ev, lkp, am, ak, aA, acs, bq, mv1, mvC, Ty.dflt, reduceCtorEq, J, E, U, Z, V, Y, Mpr.av, Mly.av, bz, bt, List.getD_cons_zero]) ?_
   refine aa _ ?_; clear aa K0; simp only [put, app, af, aj, zE, zS, E]
   (refine ag rfl fun K0 aa => ?_; simp only [zE, op1, ev, lkp, am, ak, bB, reduceCtorEq, J, E, U, Z, V, Y, Tryd.td4, Mpr.av, Mly.av, bz, bt, List.getD_cons_zero]; refine aa _ ?_; clear aa K0; simp only [put, app, af, aj, zE, zS, E])
   refine ao ?_
   refine ⟨by simp only [ad, lkp, zE, reduceCtorEq, J, ae, E]; exact rfl, rfl, ?_, rfl⟩; (repeat refine b8 rfl ?_); exact bG (by exact rfl) hq23
  case b23 => exact bD (by first | rfl | (simp [cf]; done) | decide)
  simp only [bp, bg]
  (refine ag rfl fun K0 aa => ?_; simp only [zE, op1, ev, lkp, am, ak, ev, reduceCtorEq, J, E, U, Z, V, Y, Tryd.td4, Mpr.av, Mly.av, bz, bt, List.getD_cons_zero]; refine aa _ ?_; clear aa K0; simp only [put, app, af, aj, zE, zS, E])
  refine' aZ (want := true) 4 rfl (m := 118) (by simp only [ad, lkp, zE, reduceCtorEq, J, ae, E]; exact rfl) (by kernel_rfl) rfl rfl rfl rfl rfl (fun hg24 => ?a24) ?b24 ?c24
  case a24 =>
   have hq24 := hg24; (try simp only [zB, reduceCtorEq] at hg24); simp only [List.take_succ_cons, List.take_zero, List.cons_append, List.nil_append]
   (refine aB rfl fun K0 aa => ?_; simp only [zE, op1, ev, lkp, am, ak, aE, Nat.mul_one, aC, aD, acs, Ty.dflt, zG, az, reduceCtorEq, J, E, U, Z, V, Y, Tryd.st50, Tryd.td50, Mpr.av, Mly.av, bz, bt, List.getD_cons_zero]; (repeat refine And.intro (by first | omega | assumption | exact rfl) ?_); refine aa _ ?_; clear aa K0; simp only [put, app, af, aj, zE, zS, E])
   (refine aB rfl fun K0 aa => ?_; simp only [zE, op1, ev, lkp, am, ak, bc, bo, c9, rep, aL, aV, aA, Ty.size, reduceCtorEq, J, E, U, Z, V, Y, Tryd.el25, Tryd.td1, Tryd.td25, Mpr.av, Mly.av, bz, bt, List.getD_cons_zero]; (repeat refine And.intro (by first | omega | assumption | exact rfl) ?_); (first | refine aa _ ?_ | refine Or.inl (aa _ ?_)); clear aa K0; simp only [put, app, af, aj, zE, zS, E])
   (refine aB rfl fun K0 aa => ?_; simp only [zE, op1, ev, lkp, am, ak, cu, bo, aV, aA, reduceCtorEq, J, E, U, Z, V, Y, Tryd.st50, Tryd.td50, Mpr.av, Mly.av, bz, bt, List.getD_cons_zero]; (repeat refine And.intro (by first | omega | assumption | exact rfl) ?_); (first | refine aa _ ?_ | refine Or.inl (aa _ ?_)); clear aa K0; simp only [put, app, af, aj, zE, zS, E])
   refine aB rfl fun K0 aa => ?_
   refine b9 (h := aR (ph [0] 1 2 [0] 1 2)) rfl rfl (by first | exact rfl | (simp only [ev, ad, lkp, zE, reduceCtorEq, J, ae, E]; exact rfl)) (by simp only [zE, zG, op1, ev, lkp, am, ak, aA, acs, bq, mv1, mvC, Ty.dflt, reduceCtorEq, J, E, U, Z, V, Y, Mpr.av, Mly.av, bz, bt, List.getD_cons_zero]) ?_
   refine aa _ ?_; clear aa K0; simp only [put, app, af, aj, zE, zS, E]
   (refine ag rfl fun K0 aa => ?_; simp only [zE, op1, ev, lkp, am, ak, bB, reduceCtorEq, J, E, U, Z, V, Y, Tryd.td4, Mpr.av, Mly.av, bz, bt, List.getD_cons_zero]; refine aa _ ?_; clear aa K0; simp only [put, app, af, aj, zE, zS, E])
   refine ao ?_
   refine ⟨by simp only [ad, lkp, zE, reduceCtorEq, J, ae, E]; exact rfl, rfl, ?_, rfl⟩; (repeat refine b8 rfl ?_); exact bG (by exact rfl) hq24
  case b24 => exact bD (by first | rfl | (simp [cf]; done) | decide)
  simp only [bp, bg]
  (refine ag rfl fun K0 aa => ?_; simp only [zE, op1, ev, lkp, am, ak, ev, reduceCtorEq, J, E, U, Z, V, Y, Tryd.td4, Mpr.av, Mly.av, bz, bt, List.getD_cons_zero]; refine aa _ ?_; clear aa K0; simp only [put, app, af, aj, zE, zS, E])
  refine' aZ (want := true) 9 rfl (m := 124) (by simp only [ad, lkp, zE, reduceCtorEq, J, ae, E]; exact rfl) (by kernel_rfl) rfl rfl rfl rfl rfl (fun hg25 => ?a25) ?b25 ?c25
  case a25 =>
   have hq25 := hg25; (try simp only [zB, reduceCtorEq] at hg25); simp only [List.take_succ_cons, List.take_zero, List.cons_append, List.nil_append]
   (refine aB rfl fun K0 aa => ?_; simp only [zE, op1, ev, lkp, am, ak, aE, Nat.mul_one, aC, aD, acs, Ty.dflt, zG, az, reduceCtorEq, J, E, U, Z, V, Y, Tryd.st47, Tryd.td47, Mpr.av, Mly.av, bz, bt, List.getD_cons_zero]; (repeat refine And.intro (by first | omega | assumption | exact rfl) ?_); refine aa _ ?_; clear aa K0; simp only [put, app, af, aj, zE, zS, E])
   (refine aB rfl fun K0 aa => ?_; simp only [zE, op1, ev, lkp, am, ak, bc, bo, c9, rep, aL, aV, aA, Ty.size, reduceCtorEq, J, E, U, Z, V, Y, Tryd.el25, Tryd.td2, Tryd.td25, Mpr.av, Mly.av, bz, bt, List.getD_cons_zero]; (repeat refine And.intro (by first | omega | assumption | exact rfl) ?_); (first | refine aa _ ?_ | refine Or.inl (aa _ ?_)); clear aa K0; simp only [put, app, af, aj, zE, zS, E])
   (refine aB rfl fun K0 aa => ?_; simp only [zE, op1, ev, lkp, am, ak, bc, bo, c9, rep, aL, aV, aA, Ty.size, reduceCtorEq, J, E, U, Z, V, Y, Tryd.el25, Tryd.td2, Tryd.td25, Mpr.av, Mly.av, bz, bt, List.getD_cons_zero]; (repeat refine And.intro (by first | omega | assumption | exact rfl) ?_); (first | refine aa _ ?_ | refine Or.inl (aa _ ?_)); clear aa K0; simp only [put, app, af, aj, zE, zS, E])
   (refine aB rfl fun K0 aa => ?_; simp only [zE, op1, ev, lkp, am, ak, bc, bo, c9, rep, aL, aV, aA, Ty.size, reduceCtorEq, J, E, U, Z, V, Y, Tryd.el22, Tryd.td2, Tryd.td22, Mpr.av, Mly.av, bz, bt, List.getD_cons_zero]; (repeat refine And.intro (by first | omega | assumption | exact rfl) ?_); (first | refine aa _ ?_ | refine Or.inl (aa _ ?_)); clear aa K0; simp only [put, app, af, aj, zE, zS, E])
   (refine aB rfl fun K0 aa => ?_; simp only [zE, op1, ev, lkp, am, ak, bc, bo, c9, rep, aL, aV, aA, Ty.size, reduceCtorEq, J, E, U, Z, V, Y, Tryd.el25, Tryd.td2, Tryd.td25, Mpr.av, Mly.av, bz, bt, List.getD_cons_zero]; (repeat refine And.intro (by first | omega | assumption | exact rfl) ?_); (first | refine aa _ ?_ | refine Or.inl (aa _ ?_)); clear aa K0; simp only [put, app, af, aj, zE, zS, E])
   (refine aB rfl fun K0 aa => ?_; simp only [zE, op1, ev, lkp, am, ak, bc, bo, c9, rep, aL, aV, aA, Ty.size, reduceCtorEq, J, E, U, Z, V, Y, Tryd.el25, Tryd.td2, Tryd.td25, Mpr.av, Mly.av, bz, bt, List.getD_cons_zero]; (repeat refine And.intro (by first | omega | assumption | exact rfl) ?_); (first | refine aa _ ?_ | refine Or.inl (aa _ ?_)); clear aa K0; simp only [put, app, af, aj, zE, zS, E])
   (refine aB rfl fun K0 aa => ?_; simp only [zE, op1, ev, lkp, am, ak, bc, bo, c9, rep, aL, aV, aA, Ty.size, reduceCtorEq, J, E, U, Z, V, Y, Tryd.el22, Tryd.td2, Tryd.td22, Mpr.av, Mly.av, bz, bt, List.getD_cons_zero]; (repeat refine And.intro (by first | omega | assumption | exact rfl) ?_); (first | refine aa _ ?_ | refine Or.inl (aa _ ?_)); clear aa K0; simp only [put, app, af, aj, zE, zS, E])
   (refine aB rfl fun K0 aa => ?_; simp only [zE, op1, ev, lkp, am, ak, cu, bo, aV, aA, reduceCtorEq, J, E, U, Z, V, Y, Tryd.st47, Tryd.td47, Mpr.av, Mly.av, bz, bt, List.getD_cons_zero]; (repeat refine And.intro (by first | omega | assumption | exact rfl) ?_); (first | refine aa _ ?_ | refine Or.inl (aa _ ?_)); clear aa K0; simp only [put, app, af, aj, zE, zS, E])
   refine aB rfl fun K0 aa => ?_
   refine b9 (h := aR (qK ⟨2, 0, [[1, 0], [0, 1]], [[2, 1], [3, 2]]⟩ ⟨2, 0, [[1, 0], [0, 1]], [[2, 1], [3, 2]]⟩)) rfl rfl (by first | exact rfl | (simp only [ev, ad, lkp, zE, reduceCtorEq, J, ae, E]; exact rfl)) (by simp only [zE, zG, op1, ev, lkp, am, ak, aA, acs, bq, mv1, mvC, Ty.dflt, reduceCtorEq, J, E, U, Z, V, Y, Mpr.av, Mly.av, bz, bt, List.getD_cons_zero]) ?_
   refine aa _ ?_; clear aa K0; simp only [put, app, af, aj, zE, zS, E]
   (refine ag rfl fun K0 aa => ?_; simp only [zE, op1, ev, lkp, am, ak, bB, reduceCtorEq, J, E, U, Z, V, Y, Tryd.td4, Mpr.av, Mly.av, bz, bt, List.getD_cons_zero]; refine aa _ ?_; clear aa K0; simp only [put, app, af, aj, zE, zS, E])
   refine ao ?_
   refine ⟨by simp only [ad, lkp, zE, reduceCtorEq, J, ae, E]; exact rfl, rfl, ?_, rfl⟩; (repeat refine b8 rfl ?_); exact bG (by exact rfl) hq25
  case b25 => exact bD (by first | rfl | (simp [cf]; done) | decide)
  simp only [bp, bg]
  (refine ag rfl fun K0 aa => ?_; simp only [zE, op1, ev, lkp, am, ak, ev, reduceCtorEq, J, E, U, Z, V, Y, Tryd.td4, Mpr.av, Mly.av, bz, bt, List.getD_cons_zero]; refine aa _ ?_; clear aa K0; simp only [put, app, af, aj, zE, zS, E])
  refine ao ?_
  refine hK22 _ ?_; clear hK22; refine ai [0, 1, 2, 4, 5, 6, 7, 8, 9, 10, 13, 14, 15, 16, 17, 19, 20, 109] ?_; simp only [ad, lkp, zE, reduceCtorEq, J, ae, E]
  refine aQ ?_
  refine ⟨by first | exact .inl rfl | exact .inr rfl, _, rfl, ?_⟩; simp only [fzV, fz1, fzC, List.map_cons, List.map_nil, ad, lkp, zE, reduceCtorEq, J, ae, E, Mpr.av, Mly.av, bz, bt, List.getD_cons_zero]
  refine VLE.of_eq ?_
  refine congrArg (fun b => AV.one (AC.bool b)) ?_
  decide +kernel
end Go.Proofs.YtgmgnkmgofkfpaaDoor
namespace Go.AV
open Nat renaming reduceEqDiff → J, reduceAdd → E, reduceLeDiff → U, reduceLT → Z, reduceMul → V, reduceSub → Y
open List renaming set_cons_zero → aw, set_cons_succ → au
/-plain-/
/-! The greatest output. -/
theorem lR : ∀ (xs : List Int) (a : Int), a ≤ xs.foldl max a ∧ ∀ x, x ∈ xs → x ≤ xs.foldl max a
  | [], a => ⟨Int.le_refl a, fun x h => by cases h⟩
  | y :: xs, a => by
    rw [List.foldl_cons]
    obtain ⟨h1, h2⟩ := lR xs (max a y)
    refine ⟨by omega, fun x hx => ?_⟩
    rcases List.mem_cons.1 hx with e | h
    · omega
    · exact h2 x h
theorem mb : ∀ (xs : List Int) (a : Int), xs.foldl max a = a ∨ xs.foldl max a ∈ xs
  | [], a => .inl rfl
  | y :: xs, a => by
    rw [List.foldl_cons]
    rcases mb xs (max a y) with h | h
    · rw [h]
      by_cases e : a ≤ y
      · rw [Int.max_eq_right e]; exact .inr (by simp)
      · rw [Int.max_eq_left (by omega)]; exact .inl rfl
    · exact .inr (List.mem_cons_of_mem _ h)
def gr (m : Mly) : Int := m.ot.flatten.foldl max 0
theorem pC {m : Mly} (hm : MOK m) {s a : Int} (hs : 0 ≤ s ∧ s < m.nx.length) (ha : 0 ≤ a ∧ a < m.inp) : m.out s a ∈ m.ot.flatten := by
  have hol := hm.ol
  have h1 : s.toNat < m.ot.length := by omega
  have h2 := hm.ql s.toNat (by omega)
  rw [List.mem_flatten]
  refine ⟨m.ot.getD s.toNat [], by simp [List.getD, h1], da (by omega)⟩
theorem rK {m : Mly} (hm : MOK m) {s a : Int} (hs : 0 ≤ s ∧ s < m.nx.length) (ha : 0 ≤ a ∧ a < m.inp) : 0 ≤ m.out s a ∧ m.out s a ≤ gr m := by
  refine ⟨?_, (lR _ _).2 _ (pC hm hs ha)⟩
  exact (hm.or s.toNat a.toNat (by omega) (by omega)).1
theorem pc {m : Mly} (hm : MOK m) {x : Int} (h : x ∈ m.ot.flatten) : ∃ s a : Nat, s < m.nx.length ∧ (a : Int) < m.inp ∧ m.out s a = x := by
  rw [List.mem_flatten] at h
  obtain ⟨r, hr, hx⟩ := h
  obtain ⟨s, hs⟩ := List.getElem?_of_mem hr
  have hs1 := (List.getElem?_eq_some_iff.1 hs).1
  obtain ⟨a, ha1, ha2⟩ := rE hx
  have hol := hm.ol
  have hq := hm.ql s (by omega)
  have e : m.ot.getD s [] = r := by simp [List.getD, hs]
  rw [e] at hq
  refine ⟨s, a, by omega, by omega, ?_⟩
  unfold Mly.out
  rw [Int.toNat_natCast, Int.toNat_natCast, e, ha2]
theorem sK {m : Mly} (hm : MOK m) : gr m ≤ 1048576 := by
  rcases mb m.ot.flatten 0 with h | h
  · unfold gr; omega
  · obtain ⟨s, a, hs, ha, e⟩ := pc hm h
    have := (hm.or s a hs ha).2
    unfold Mly.out at e
    rw [Int.toNat_natCast, Int.toNat_natCast] at e
    unfold gr; omega
theorem pF {m : Mly} (hm : MOK m) {s a : Int} (hs : 0 ≤ s ∧ s < m.nx.length) (ha : 0 ≤ a ∧ a < m.inp) : 0 ≤ m.nxt s a ∧ m.nxt s a < m.nx.length := hm.nr s.toNat a.toNat (by omega) (by omega)
/-! The systems. -/
def IP (a b : Mly) (p : PP) : Prop := (0 ≤ p.1 ∧ p.1 < a.nx.length) ∧ 0 ≤ p.2 ∧ p.2 < b.nx.length
def IS (m : Mly) (p : PP) : Prop := (0 ≤ p.1 ∧ p.1 < m.nx.length) ∧ p.2 = 0
theorem IP.st {a b : Mly} (ha : MOK a) (hb : MOK b) : IP a b (a.st, b.st) := ⟨⟨ha.s1, ha.s2⟩, hb.s1, hb.s2⟩
theorem IS.st {m : Mly} (hm : MOK m) : IS m (m.st, 0) := ⟨⟨hm.s1, hm.s2⟩, rfl⟩
/-! What the functions return. -/
/-! Restrict and Map: the trimmed machine. -/
/-! The machine of pairs (s, 0) is the trimmed machine. -/
structure SNG (X : Mly) (F : SYS) : Prop where
  st : ∀ s x : Nat, s < X.nx.length → (x : Int) < X.inp → F ((s : Int), 0) x = ((X.nxt s x, 0), X.out s x)
theorem SNG.at_ {X : Mly} {F : SYS} (h : SNG X F) {q : PP} (hq : IS X q) {x : Nat} (hx : (x : Int) < X.inp) : F q x = ((X.nxt q.1 x, 0), X.out q.1 x) := by
  obtain ⟨q1, q2⟩ := q
  obtain ⟨h1, h2⟩ := hq
  simp only at h1 h2
  subst h2
  have := h.st q1.toNat x (by omega) hx
  rw [Int.toNat_of_nonneg h1.1] at this
  exact this
end Go.AV
namespace Go.AV
open Nat renaming reduceEqDiff → J, reduceAdd → E, reduceLeDiff → U, reduceLT → Z, reduceMul → V, reduceSub → Y
open List renaming set_cons_zero → aw, set_cons_succ → au
/-plain-/
abbrev Bs := List UInt8
def okI (c : Int) : Prop := (97 ≤ c ∧ c ≤ 122) ∨ (65 ≤ c ∧ c ≤ 90) ∨ (48 ≤ c ∧ c ≤ 57) ∨ c = 95 ∨ c = 45 ∨ c = 46
instance (c : Int) : Decidable (okI c) := by unfold okI; exact inferInstance
def sF (s : Bs) : Bool := s.all (fun b => decide (okI (b.toNat : Int))) && decide (1 ≤ s.length) && decide (s.length ≤ 32)
/-! Alphabets. -/
structure AOK (xs : List Bs) : Prop where
  n0 : 1 ≤ xs.length
  n1 : xs.length ≤ 64
  nm : ∀ k, k < xs.length → sF (xs.getD k []) = true
  nw : ∀ k, k < xs.length → xs.getD k [] ∉ xs.take k
theorem jI {xs : List Bs} {k : Nat} (h : k < xs.length) : xs.getD k [] ∈ xs := by simp [List.getD, h]
theorem sP {xs : List Bs} {x : Bs} : x ∈ xs ↔ ∃ j, j < xs.length ∧ xs.getD j [] = x := by
  constructor
  · intro h
    obtain ⟨j, hj⟩ := List.getElem?_of_mem h
    exact ⟨j, (List.getElem?_eq_some_iff.1 hj).1, by simp [List.getD, hj]⟩
  · rintro ⟨j, hj, e⟩; rw [← e]; exact jI hj
theorem nz {xs : List Bs} {i k : Nat} (hi : i < k) : (xs.take k).getD i [] = xs.getD i [] := by simp [List.getD, List.getElem?_take, hi]
theorem mf {q : Bs} : ∀ {l : List Bs} {k : Nat}, k < pos l q → l.getD k [] ≠ q
  | [], k, h => by simp [pos] at h
  | y :: l, k, h => by
    simp only [pos] at h
    split at h
    · omega
    · rename_i e
      cases k with
      | zero => simpa [List.getD] using e
      | succ k =>
        have := mf (q := q) (l := l) (k := k) (by omega)
        simpa [List.getD] using this
theorem r8 {l : List Bs} {q : Bs} (h : q ∈ l) : l.getD (pos l q) [] = q := by rw [List.getD, mH h]; rfl
theorem sS {l : List Bs} {q : Bs} {k : Nat} (hq : ∀ j, j < k → l.getD j [] ≠ q) (hk : k < l.length) (h : l.getD k [] = q) : pos l q = k ∧ q ∈ l := by
  have hm : q ∈ l := by rw [← h]; exact jI hk
  refine ⟨?_, hm⟩
  rcases Nat.lt_trichotomy k (pos l q) with h2 | h2 | h2
  · exact absurd h (mf h2)
  · exact h2.symm
  · exact absurd (r8 hm) (hq _ h2)
theorem AOK.pos {xs : List Bs} (h : AOK xs) {k : Nat} (hk : k < xs.length) : pos xs (xs.getD k []) = k :=
  (sS (fun j hj e => h.nw k hk (by rw [sP]; exact ⟨j, by rw [List.length_take]; omega, by rw [nz hj, e]⟩)) hk rfl).1
/-! Cutting at spaces. -/
/-! .. as a fold. -/
/-! Words and texts. -/
/-! The laws without the reference. -/
/-! Numbered alphabets. -/
end Go.AV
namespace Go.AV
open Nat renaming reduceEqDiff → J, reduceAdd → E, reduceLeDiff → U, reduceLT → Z, reduceMul → V, reduceSub → Y
open List renaming set_cons_zero → aw, set_cons_succ → au
/-plain-/
end Go.AV
namespace Go.AV
open Nat renaming reduceEqDiff → J, reduceAdd → E, reduceLeDiff → U, reduceLT → Z, reduceMul → V, reduceSub → Y
open List renaming set_cons_zero → aw, set_cons_succ → au
/-plain-/
def si (a b : Dfa) : Int := if dc a = 0 then (if dc b = 0 then (if a.inp = b.inp then 0 else 15) else dc b) else dc a
end Go.AV
namespace Go.AV
open Nat renaming reduceEqDiff → J, reduceAdd → E, reduceLeDiff → U, reduceLT → Z, reduceMul → V, reduceSub → Y
open List renaming set_cons_zero → aw, set_cons_succ → au
/-plain-/
def sN (d : Dfa) : STP := fun q x => (d.dl q.1 x, 0)
def sY (a b : Dfa) : STP := fun q x => (a.dl q.1 x, b.dl q.2 x)
def sd (d : Dfa) (q : PP) : Bool := d.ac q.1
def sX (a b : Dfa) (q : PP) : Bool := a.ac q.1 != b.ac q.2
end Go.AV
namespace Go.AV
open Nat renaming reduceEqDiff → J, reduceAdd → E, reduceLeDiff → U, reduceLT → Z, reduceMul → V, reduceSub → Y
open List renaming set_cons_zero → aw, set_cons_succ → au
/-plain-/
/-! Classes of states of an automaton. -/
def Dfa.sg (d : Dfa) (cl : List Int) (s : Nat) : List Int := cl.getD s 0 :: (d.nx.getD s []).map fun t => cl.getD t.toNat 0
def Dfa.nxL (d : Dfa) (cl : List Int) : List Int := (List.range d.nx.length).map fun s => (pos (qV (d.sg cl) d.nx.length) (d.sg cl s) : Int)
def Dfa.cl (d : Dfa) : Nat → List Int
  | 0 => (List.range d.nx.length).map (sq d)
  | i + 1 => d.nxL (d.cl i)
def Dfa.cn (d : Dfa) : Nat → Nat
  | 0 => 0
  | i + 1 => (qV (d.sg (d.cl i)) d.nx.length).length
/-! How many there are. -/
def gf (n : Int) (w : List Int) : Prop := ∀ x, x ∈ w → 0 ≤ x ∧ x < n
theorem gB {n x : Int} {w : List Int} : gf n (x :: w) ↔ (0 ≤ x ∧ x < n) ∧ gf n w := by unfold gf; simp
theorem px {n : Int} {w : List Int} (h : ∀ i : Nat, i < w.length → 0 ≤ w.getD i 0 ∧ w.getD i 0 < n) : gf n w := fun x hx => by
  obtain ⟨i, hi, e⟩ := ir.1 hx
  rw [← e]; exact h i hi
theorem rh {n : Int} {w : List Int} (h : gf n w) : ∀ i : Nat, i < w.length → 0 ≤ w.getD i 0 ∧ w.getD i 0 < n := fun i hi => h _ (ir.2 ⟨i, hi, rfl⟩)
/-- Two states accept the same words. -/
def DEQ (a b : Dfa) (s t : Int) : Prop := ∀ w : List Int, gf a.inp w → a.ac (a.run s w) = b.ac (b.run t w)
theorem DEQ.acc {a b : Dfa} {s t : Int} (h : DEQ a b s t) : a.ac s = b.ac t := h [] (fun x hx => by cases hx)
theorem DEQ.symm {d : Dfa} {s t : Int} (h : DEQ d d s t) : DEQ d d t s := fun w hw => (h w hw).symm
theorem DEQ.trans {d : Dfa} {s t u : Int} (h : DEQ d d s t) (h2 : DEQ d d t u) : DEQ d d s u := fun w hw => (h w hw).trans (h2 w hw)
end Go.AV
namespace Go.AV
open Nat renaming reduceEqDiff → J, reduceAdd → E, reduceLeDiff → U, reduceLT → Z, reduceMul → V, reduceSub → Y
open List renaming set_cons_zero → aw, set_cons_succ → au
/-plain-/
def sf (d : Dfa) : List W3 := r0 (sN d) d.inp.toNat (d.nx.length * 1) (d.st, 0)
def sW (a b : Dfa) : List W3 := r0 (sY a b) a.inp.toNat (a.nx.length * b.nx.length) (a.st, b.st)
def laW (g : PP → Bool) (L : List W3) : List Int := if dB g L = true then ((dQ g L).getD ((dQ g L).length - 1) w30).2 else []
def o9 (d : Dfa) : List Int := if dc d = 0 then laW (sd d) (sf d) else []
def qu (d : Dfa) : Bool := if dc d = 0 then dB (sd d) (sf d) else false
def sQ (a b : Dfa) : Bool := if si a b = 0 then dB (sX a b) (sW a b) else false
end Go.AV
namespace Go.AV
open Nat renaming reduceEqDiff → J, reduceAdd → E, reduceLeDiff → U, reduceLT → Z, reduceMul → V, reduceSub → Y
open List renaming set_cons_zero → aw, set_cons_succ → au
/-plain-/
/-! Two searches side by side. -/
structure SIM (A B : STP) (n : Nat) (R : PP → PP → Prop) : Prop where
  st : ∀ p q, R p q → ∀ x, x < n → R (A p x) (B q x)
  bi : ∀ p q p' q', R p q → R p' q' → (p = p' ↔ q = q')
def RL (R : PP → PP → Prop) (l l' : List W3) : Prop := l.length = l'.length ∧ ∀ i, i < l.length → R (l.getD i w30).1 (l'.getD i w30).1 ∧ (l.getD i w30).2 = (l'.getD i w30).2
theorem RL.mem {A B : STP} {n : Nat} {R : PP → PP → Prop} (hs : SIM A B n R) {l l' : List W3} (h : RL R l l') {p q : PP} (hr : R p q) : p ∈ l.map Prod.fst ↔ q ∈ l'.map Prod.fst := by
  constructor
  · intro hm
    obtain ⟨e, he, e1⟩ := List.mem_map.1 hm
    obtain ⟨i, hi⟩ := List.getElem?_of_mem he
    have hlt := (List.getElem?_eq_some_iff.1 hi).1
    have h2 := h.2 i hlt
    have h3 : l.getD i w30 = e := by rw [List.getD, hi]; rfl
    rw [h3, e1] at h2
    have := (hs.bi _ _ _ _ h2.1 hr).1 rfl
    rw [← this]
    exact List.mem_map.2 ⟨_, lv (by rw [← h.1]; exact hlt), rfl⟩
  · intro hm
    obtain ⟨e, he, e1⟩ := List.mem_map.1 hm
    obtain ⟨i, hi⟩ := List.getElem?_of_mem he
    have hlt := (List.getElem?_eq_some_iff.1 hi).1
    have h2 := h.2 i (by rw [h.1]; exact hlt)
    have h3 : l'.getD i w30 = e := by rw [List.getD, hi]; rfl
    rw [h3, e1] at h2
    have := (hs.bi _ _ _ _ h2.1 hr).2 rfl
    rw [← this]
    exact List.mem_map.2 ⟨_, lv (by rw [h.1]; exact hlt), rfl⟩
theorem RL.snoc {R : PP → PP → Prop} {l l' : List W3} (h : RL R l l') {e f : W3} (hr : R e.1 f.1) (hw : e.2 = f.2) : RL R (l ++ [e]) (l' ++ [f]) := by
  refine ⟨by simp [h.1], fun i hi => ?_⟩
  rw [List.length_append, List.length_singleton] at hi
  by_cases e1 : i < l.length
  · rw [cA e1, cA (by rw [← h.1]; exact e1)]; exact h.2 i e1
  · rw [dJ (by omega), dJ (by have := h.1; omega)]; exact ⟨hr, hw⟩
theorem RL.row {A B : STP} {n : Nat} {R : PP → PP → Prop} (hs : SIM A B n R) {l l' : List W3} (h : RL R l l') {e f : W3} (hr : R e.1 f.1) (hw : e.2 = f.2) : ∀ x, x ≤ n → RL R (eO A e l x) (eO B f l' x)
  | 0, _ => h
  | x + 1, hx => by
    have ih := h.row hs hr hw x (by omega)
    have h2 := hs.st _ _ hr x (by omega)
    rw [fi, fi]
    by_cases hm : A e.1 x ∈ (eO A e l x).map Prod.fst
    · rw [ly hm, ly ((ih.mem hs h2).1 hm)]; exact ih
    · rw [jM hm, jM (fun k => hm ((ih.mem hs h2).2 k))]
      exact ih.snoc h2 (by rw [hw])
theorem RL.one {R : PP → PP → Prop} {p q : PP} (h : R p q) : RL R [(p, [])] [(q, [])] := ⟨rfl, fun i hi => by
  have : i = 0 := by simpa using hi
  subst this; exact ⟨h, rfl⟩⟩
end Go.AV
namespace Go.AV
open Nat renaming reduceEqDiff → J, reduceAdd → E, reduceLeDiff → U, reduceLT → Z, reduceMul → V, reduceSub → Y
open List renaming set_cons_zero → aw, set_cons_succ → au
/-plain-/
end Go.AV
namespace Go.AV
open Nat renaming reduceEqDiff → J, reduceAdd → E, reduceLeDiff → U, reduceLT → Z, reduceMul → V, reduceSub → Y
open List renaming set_cons_zero → aw, set_cons_succ → au
/-plain-/
/-! Words in the order of their lengths and symbols. -/
def SLT (u v : List Int) : Prop := u.length < v.length ∨ (u.length = v.length ∧ ∃ m, m < u.length ∧ (∀ q, q < m → u.getD q 0 = v.getD q 0) ∧ u.getD m 0 < v.getD m 0)
def SLE (u v : List Int) : Prop := u = v ∨ SLT u v
theorem SLT.trans {u v w : List Int} (h : SLT u v) (h2 : SLT v w) : SLT u w := by
  rcases h with h | ⟨h, m, a1, a2, a3⟩
  · rcases h2 with h2 | ⟨h2, _⟩
    · exact .inl (by omega)
    · exact .inl (by omega)
  · rcases h2 with h2 | ⟨h2, k, b1, b2, b3⟩
    · exact .inl (by omega)
    · refine .inr ⟨by omega, ?_⟩
      rcases Nat.lt_trichotomy m k with e | e | e
      · exact ⟨m, a1, fun q hq => (a2 q hq).trans (b2 q (by omega)), by rw [← b2 m e]; exact a3⟩
      · subst e; exact ⟨m, a1, fun q hq => (a2 q hq).trans (b2 q hq), by omega⟩
      · exact ⟨k, by omega, fun q hq => (a2 q (by omega)).trans (b2 q hq), by rw [a2 k e]; exact b3⟩
theorem SLE.trans_lt {u v w : List Int} (h : SLE u v) (h2 : SLT v w) : SLT u w := by
  rcases h with rfl | h
  · exact h2
  · exact h.trans h2
theorem SLE.trans {u v w : List Int} (h : SLE u v) (h2 : SLE v w) : SLE u w := by
  rcases h2 with rfl | h2
  · exact h
  · exact .inr (h.trans_lt h2)
theorem SLT.app {u v : List Int} (h : SLT u v) (a b : Int) : SLT (u ++ [a]) (v ++ [b]) := by
  rcases h with h | ⟨h, m, a1, a2, a3⟩
  · exact .inl (by simp; omega)
  · refine .inr ⟨by simp; omega, m, by simp; omega, fun q hq => ?_, ?_⟩
    · rw [cA (by omega), cA (by omega)]; exact a2 q hq
    · rw [cA a1, cA (by omega)]; exact a3
theorem SLE.app {u v : List Int} (h : SLE u v) (a : Int) : SLE (u ++ [a]) (v ++ [a]) := by
  rcases h with rfl | h
  · exact .inl rfl
  · exact .inr (h.app a a)
theorem SLE.len {u v : List Int} (h : SLE u v) : u.length ≤ v.length := by
  rcases h with rfl | h | ⟨h, _⟩ <;> omega
structure BW (A : STP) (n i : Nat) (l : List W3) : Prop where
  so : ∀ j k, j < k → k < l.length → SLT (l.getD j w30).2 (l.getD k w30).2
  mi : ∀ j, j < i → j < l.length → ∀ x, x < n → ∃ k, k < l.length ∧ (l.getD k w30).1 = A (l.getD j w30).1 x ∧ SLE (l.getD k w30).2 ((l.getD j w30).2 ++ [(x : Int)])
  up : i < l.length → ∀ k, k < l.length → SLT (l.getD k w30).2 ((l.getD i w30).2 ++ [0])
structure BX (A : STP) (n i x : Nat) (l0 l : List W3) : Prop where
  so : ∀ j k, j < k → k < l.length → SLT (l.getD j w30).2 (l.getD k w30).2
  mi : ∀ y, y < x → ∃ k, k < l.length ∧ (l.getD k w30).1 = A (l0.getD i w30).1 y ∧ SLE (l.getD k w30).2 ((l0.getD i w30).2 ++ [(y : Int)])
  up : ∀ k, k < l.length → SLT (l.getD k w30).2 ((l0.getD i w30).2 ++ [(x : Int)])
end Go.AV
namespace Go.AV
open Nat renaming reduceEqDiff → J, reduceAdd → E, reduceLeDiff → U, reduceLT → Z, reduceMul → V, reduceSub → Y
open List renaming set_cons_zero → aw, set_cons_succ → au
/-plain-/
/-! The automaton that is built from a search. -/
structure LCL (A : STP) (n : Nat) (L : List W3) : Prop where
  nd : (L.map Prod.fst).Nodup
  cl : ∀ j, j < L.length → ∀ x, x < n → A (L.getD j w30).1 x ∈ L.map Prod.fst
variable {A : STP} {G : PP → Bool} {n : Nat} {L : List W3}
end Go.AV
namespace Go.AV
open Nat renaming reduceEqDiff → J, reduceAdd → E, reduceLeDiff → U, reduceLT → Z, reduceMul → V, reduceSub → Y
open List renaming set_cons_zero → aw, set_cons_succ → au
/-plain-/
/-! The least state of a class. -/
def Dfa.sto (d : Dfa) : Nat → Nat → Nat
  | 0, i => i
  | f + 1, i => if d.cn (i + 1) = d.cn i then i else d.sto f (i + 1)
def Dfa.cls (d : Dfa) : List Int := d.cl (d.sto (d.nx.length + 1) 0 + 1)
/-- The least state from s on of each class. -/
def fsV (cl : List Int) (n s c : Nat) : Int := match (List.range n).find? (fun q => decide (s ≤ q) && decide (cl.getD q 0 = (c : Int))) with | some q => (q : Int) | none => 0
def fsL (cl : List Int) (n s : Nat) : List Int := (List.range n).map fun c => fsV cl n s c
def Dfa.rep (d : Dfa) (s : Int) : Int := (fsL d.cls d.nx.length 0).getD (d.cls.getD s.toNat 0).toNat 0
structure RPR (d : Dfa) (s r : Int) : Prop where
  rg : 0 ≤ r ∧ r < d.nx.length
  le : r ≤ s
  cl : d.cls.getD r.toNat 0 = d.cls.getD s.toNat 0
  mi : ∀ q : Nat, (q : Int) < r → d.cls.getD q 0 ≠ d.cls.getD s.toNat 0
end Go.AV
namespace Go.AV
open Nat renaming reduceEqDiff → J, reduceAdd → E, reduceLeDiff → U, reduceLT → Z, reduceMul → V, reduceSub → Y
open List renaming set_cons_zero → aw, set_cons_succ → au
/-plain-/
/-! On drepTh. -/
structure M1OK (d : Dfa) (q : PP) (x : Nat) : Prop where
  r1 : 0 ≤ q.1 ∧ q.1 < d.nx.length
  rl : ((d.nx.getD q.1.toNat []).length : Int) = d.inp
  t1 : 0 ≤ (d.nx.getD q.1.toNat []).getD x 0 ∧ (d.nx.getD q.1.toNat []).getD x 0 < d.nx.length
  c1 : 0 ≤ d.cls.getD ((d.nx.getD q.1.toNat []).getD x 0).toNat 0 ∧ d.cls.getD ((d.nx.getD q.1.toNat []).getD x 0).toNat 0 < d.nx.length
  e : d.rep (d.dl q.1 x) = (fsL d.cls d.nx.length 0).getD (d.cls.getD ((d.nx.getD q.1.toNat []).getD x 0).toNat 0).toNat 0
end Go.AV
namespace Go.AV
open Nat renaming reduceEqDiff → J, reduceAdd → E, reduceLeDiff → U, reduceLT → Z, reduceMul → V, reduceSub → Y
open List renaming set_cons_zero → aw, set_cons_succ → au
/-plain-/
/-! On drepTh, dsimTh, minqTh. -/
structure SHP (d : Dfa) (P : List W3) (k : Nat) : Prop where
  rg : 0 ≤ (P.getD k w30).1.1 ∧ (P.getD k w30).1.1 < d.nx.length
end Go.AV
namespace Go.AV
open Nat renaming reduceEqDiff → J, reduceAdd → E, reduceLeDiff → U, reduceLT → Z, reduceMul → V, reduceSub → Y
open List renaming set_cons_zero → aw, set_cons_succ → au
/-plain-/
/-! On drcTh, compTh, shapesTh. -/
def sj (m : Mly) : STP := fun q x => (m.nxt q.1 x, m.out q.1 x)
def sR (q : PP) : Bool := decide (q.2 = 1)
def qd (m : Mly) : Bool := m.ot.flatten.any fun o => decide (1 < o)
def se (m : Mly) (acc : Bool) : List W3 := r0 (sj m) m.inp.toNat (m.nx.length * 2) (m.st, bI1 acc)
def fmE (m : Mly) (acc : Bool) : Int := if ¬ bU m = 0 then bU m else if qd m = true then 1 else dBE (se m acc)
def fmD (m : Mly) (acc : Bool) : Dfa := if ¬ bU m = 0 then oa else if qd m = true then oa else dBD (sj m) sR m.inp.toNat (se m acc)
end Go.AV
namespace Go.AV
open Nat renaming reduceEqDiff → J, reduceAdd → E, reduceLeDiff → U, reduceLT → Z, reduceMul → V, reduceSub → Y
open List renaming set_cons_zero → aw, set_cons_succ → au
/-plain-/
/-! On drepTh. -/
end Go.AV
namespace Go.AV
open Nat renaming reduceEqDiff → J, reduceAdd → E, reduceLeDiff → U, reduceLT → Z, reduceMul → V, reduceSub → Y
open List renaming set_cons_zero → aw, set_cons_succ → au
/-plain-/
/-! On drepTh, sigTh, dfmTh. -/
def lq (P : Nat → Bool) (s : Nat) : Nat := ((List.range s).find? P).getD s
def rc0 (t : Dfa) (s : Nat) : Int := (lq (fun q => decide (t.acc.getD q false = t.acc.getD s false)) s : Int)
def rcF (t : Dfa) (cl : List Int) (s : Nat) : Int := (lq (fun q => decide (t.sg cl q = t.sg cl s)) s : Int)
def rcl (t : Dfa) : Nat → List Int
  | 0 => (List.range t.nx.length).map (rc0 t)
  | r + 1 => (List.range t.nx.length).map (rcF t (rcl t r))
def rC (t : Dfa) : List Int := rcl t t.nx.length
structure RCK (t : Dfa) : Prop where
  rg : ∀ s, s < t.nx.length → 0 ≤ (rC t).getD s 0 ∧ (rC t).getD s 0 ≤ s
  eq : ∀ s u, s < t.nx.length → u < t.nx.length → ((rC t).getD s 0 = (rC t).getD u 0 ↔ DEQ t t s u)
  id : ∀ s, s < t.nx.length → (rC t).getD ((rC t).getD s 0).toNat 0 = (rC t).getD s 0
/-! The states that name a class, and their numbers. -/
end Go.AV
