/- Contracts of functions of this seat, each out of a walk through its code, and plain facts on what they compute. Conditions: those that each theorem names. -/
import Derived.Test.YtgmgnkmgofkfpaaDoorW03
set_option linter.unusedSimpArgs false
set_option linter.unusedVariables false
namespace Go.Proofs.YtgmgnkmgofkfpaaDoor
open Go Go.AV
open Nat renaming reduceEqDiff → E, reduceAdd → D, reduceLeDiff → G, reduceLT → U, reduceMul → J, reduceSub → M
open List renaming set_cons_zero → aw, set_cons_succ → au
set_option maxRecDepth 100000 in
theorem nu (w : List Int) (a b : Int) (w2 : List Int) (a2 b2 : Int) : cf Tryd.prog 25 [.agg [.list (.int .i64) w, .int .i64 a, .int .i64 b], .agg [.list (.int .i64) w2, .int .i64 a2, .int .i64 b2]] (.one (.bool ((decide (w = w2) && decide (a = a2)) && decide (b = b2)))) := by
 refine bp Tryd.func25 rfl (by kernel_rfl) (Nat.le_of_ble_eq_true rfl) rfl fun C hP hN hB => ?_
 replace hN : C.N = 24 := hN
 simp only [a8, D]
 refine aa fun K1 hK1 => ?_
 refine ai hP hN rfl ?_
 iterate 3 (refine a9 rfl fun K0 V => ?_; simp only [zE, op1, ev, lkp, ag, af, cQ, ar, reduceCtorEq, E, D, G, U, J, M, Tryd.st50, Tryd.td4, Tryd.td50]; (repeat refine And.intro (by first | omega | assumption | exact rfl) ?_); refine V _ ?_; clear V K0; simp only [put, app, Z, ae, zE, zS, D])
 refine ah ?_
 refine hK1 _ ?_; clear hK1; refine ad [0, 1, 2, 3, 4] ?_; simp only [Y, lkp, zE, reduceCtorEq, E, a8, D]
 refine aa fun K2 hK2 => ?_
 refine ai hP hN rfl ?_
 iterate 4 (refine a9 rfl fun K0 V => ?_; simp only [zE, op1, ev, lkp, ag, af, ak, az, Nat.mul_one, ax, ay, acs, Ty.dflt, zG, ao, reduceCtorEq, E, D, G, U, J, M, Tryd.el25, Tryd.st50, Tryd.td25, Tryd.td50]; (repeat refine And.intro (by first | omega | assumption | exact rfl) ?_); refine V _ ?_; clear V K0; simp only [put, app, Z, ae, zE, zS, D])
 refine a9 rfl fun K0 V => ?_
 refine aX (h := aL (iK w w2)) rfl rfl (by first | exact rfl | (simp only [ev, Y, lkp, zE, reduceCtorEq, E, a8, D]; exact rfl)) (by simp only [zE, zG, op1, ev, lkp, ag, af, ar, acs, bj, mv1, mvC, Ty.dflt, reduceCtorEq, E, D, G, U, J, M]) ?_
 refine V _ ?_; clear V K0; simp only [put, app, Z, ae, zE, zS, D]
 (refine a9 rfl fun K0 V => ?_; simp only [zE, op1, ev, lkp, ag, af, ev, reduceCtorEq, E, D, G, U, J, M, Tryd.td4]; refine V _ ?_; clear V K0; simp only [put, app, Z, ae, zE, zS, D])
 refine' aV (want := true) 5 rfl (m := 10) (by simp only [Y, lkp, zE, reduceCtorEq, E, a8, D]; exact rfl) (by kernel_rfl) rfl rfl rfl rfl rfl (fun hg3 => ?a3) ?b3 ?c3
 case a3 =>
  have hq3 := hg3; (try simp only [zB, reduceCtorEq] at hg3); simp only [List.take_succ_cons, List.take_zero, List.cons_append, List.nil_append]
  (refine aq rfl fun K0 V => ?_; simp only [zE, op1, ev, lkp, ag, af, ak, reduceCtorEq, E, D, G, U, J, M, Tryd.st50, Tryd.td1, Tryd.td50]; (repeat refine And.intro (by first | omega | assumption | exact rfl) ?_); refine V _ ?_; clear V K0; simp only [put, app, Z, ae, zE, zS, D])
  (refine aq rfl fun K0 V => ?_; simp only [zE, op1, ev, lkp, ag, af, az, Nat.mul_one, ax, ay, acs, Ty.dflt, zG, ao, reduceCtorEq, E, D, G, U, J, M, Tryd.td3]; (repeat refine And.intro (by first | omega | assumption | exact rfl) ?_); refine V _ ?_; clear V K0; simp only [put, app, Z, ae, zE, zS, D])
  (refine aq rfl fun K0 V => ?_; simp only [zE, op1, ev, lkp, ag, af, ak, reduceCtorEq, E, D, G, U, J, M, Tryd.st50, Tryd.td1, Tryd.td50]; (repeat refine And.intro (by first | omega | assumption | exact rfl) ?_); refine V _ ?_; clear V K0; simp only [put, app, Z, ae, zE, zS, D])
  (refine aq rfl fun K0 V => ?_; simp only [zE, op1, ev, lkp, ag, af, az, Nat.mul_one, ax, ay, acs, Ty.dflt, zG, ao, reduceCtorEq, E, D, G, U, J, M, Tryd.td3]; (repeat refine And.intro (by first | omega | assumption | exact rfl) ?_); refine V _ ?_; clear V K0; simp only [put, app, Z, ae, zE, zS, D])
  (refine aq rfl fun K0 V => ?_; simp only [zE, op1, ev, lkp, ag, af, aC, aB, aD, am, aA, aM, reduceCtorEq, E, D, G, U, J, M, Tryd.td3, Tryd.td4]; (repeat refine And.intro (by first | omega | assumption | exact rfl) ?_); refine V _ ?_; clear V K0; simp only [put, app, Z, ae, zE, zS, D])
  (refine a9 rfl fun K0 V => ?_; simp only [zE, op1, ev, lkp, ag, af, bo, reduceCtorEq, E, D, G, U, J, M, Tryd.td4]; refine V _ ?_; clear V K0; simp only [put, app, Z, ae, zE, zS, D])
  refine ah ?_
  refine ⟨by simp only [Y, lkp, zE, reduceCtorEq, E, a8, D]; exact rfl, rfl, ?_, rfl⟩; (repeat refine aU rfl ?_); exact bu (by exact rfl) hq3
 case b3 => exact br (by first | rfl | (simp [bT]; done) | decide)
 simp only [bf, b9]
 (refine a9 rfl fun K0 V => ?_; simp only [zE, op1, ev, lkp, ag, af, ev, reduceCtorEq, E, D, G, U, J, M, Tryd.td4]; refine V _ ?_; clear V K0; simp only [put, app, Z, ae, zE, zS, D])
 refine' aV (want := true) 5 rfl (m := 17) (by simp only [Y, lkp, zE, reduceCtorEq, E, a8, D]; exact rfl) (by kernel_rfl) rfl rfl rfl rfl rfl (fun hg4 => ?a4) ?b4 ?c4
 case a4 =>
  have hq4 := hg4; (try simp only [zB, reduceCtorEq] at hg4); simp only [List.take_succ_cons, List.take_zero, List.cons_append, List.nil_append]
  (refine aq rfl fun K0 V => ?_; simp only [zE, op1, ev, lkp, ag, af, ak, reduceCtorEq, E, D, G, U, J, M, Tryd.st50, Tryd.td2, Tryd.td50]; (repeat refine And.intro (by first | omega | assumption | exact rfl) ?_); refine V _ ?_; clear V K0; simp only [put, app, Z, ae, zE, zS, D])
  (refine aq rfl fun K0 V => ?_; simp only [zE, op1, ev, lkp, ag, af, az, Nat.mul_one, ax, ay, acs, Ty.dflt, zG, ao, reduceCtorEq, E, D, G, U, J, M, Tryd.td3]; (repeat refine And.intro (by first | omega | assumption | exact rfl) ?_); refine V _ ?_; clear V K0; simp only [put, app, Z, ae, zE, zS, D])
  (refine aq rfl fun K0 V => ?_; simp only [zE, op1, ev, lkp, ag, af, ak, reduceCtorEq, E, D, G, U, J, M, Tryd.st50, Tryd.td2, Tryd.td50]; (repeat refine And.intro (by first | omega | assumption | exact rfl) ?_); refine V _ ?_; clear V K0; simp only [put, app, Z, ae, zE, zS, D])
  (refine aq rfl fun K0 V => ?_; simp only [zE, op1, ev, lkp, ag, af, az, Nat.mul_one, ax, ay, acs, Ty.dflt, zG, ao, reduceCtorEq, E, D, G, U, J, M, Tryd.td3]; (repeat refine And.intro (by first | omega | assumption | exact rfl) ?_); refine V _ ?_; clear V K0; simp only [put, app, Z, ae, zE, zS, D])
  (refine aq rfl fun K0 V => ?_; simp only [zE, op1, ev, lkp, ag, af, aC, aB, aD, am, aA, aM, reduceCtorEq, E, D, G, U, J, M, Tryd.td3, Tryd.td4]; (repeat refine And.intro (by first | omega | assumption | exact rfl) ?_); refine V _ ?_; clear V K0; simp only [put, app, Z, ae, zE, zS, D])
  (refine a9 rfl fun K0 V => ?_; simp only [zE, op1, ev, lkp, ag, af, bo, reduceCtorEq, E, D, G, U, J, M, Tryd.td4]; refine V _ ?_; clear V K0; simp only [put, app, Z, ae, zE, zS, D])
  refine ah ?_
  refine ⟨by simp only [Y, lkp, zE, reduceCtorEq, E, a8, D]; exact rfl, rfl, ?_, rfl⟩; (repeat refine aU rfl ?_); exact bu (by exact rfl) hq4
 case b4 => exact br (by first | rfl | (simp [bT]; done) | decide)
 simp only [bf, b9]
 (refine a9 rfl fun K0 V => ?_; simp only [zE, op1, ev, lkp, ag, af, ev, reduceCtorEq, E, D, G, U, J, M, Tryd.td4]; refine V _ ?_; clear V K0; simp only [put, app, Z, ae, zE, zS, D])
 refine ah ?_
 refine hK2 _ ?_; clear hK2; refine ad [0, 1, 2, 3, 4] ?_; simp only [Y, lkp, zE, reduceCtorEq, E, a8, D]
 refine aH ?_
 refine ⟨by first | exact .inl rfl | exact .inr rfl, _, rfl, ?_⟩; simp only [fzV, fz1, fzC, List.map_cons, List.map_nil, Y, lkp, zE, reduceCtorEq, E, a8, D]
 refine VLE.of_eq ?_
 rfl
end Go.Proofs.YtgmgnkmgofkfpaaDoor
namespace Go.Proofs.YtgmgnkmgofkfpaaDoor
open Go Go.AV
open Nat renaming reduceEqDiff → E, reduceAdd → D, reduceLeDiff → G, reduceLT → U, reduceMul → J, reduceSub → M
open List renaming set_cons_zero → aw, set_cons_succ → au
set_option maxRecDepth 100000 in
set_option maxHeartbeats 2000000 in
theorem m8  : cf Tryd.prog 14 [] (.one (.bool true)) := by
 refine bp Tryd.func14 rfl (by kernel_rfl) (Nat.le_of_ble_eq_true rfl) rfl fun C hP hN hB => ?_
 replace hN : C.N = 135 := hN
 simp only [a8, D]
 refine aa fun K1 hK1 => ?_
 refine ai hP hN rfl ?_
 (refine a9 rfl fun K0 V => ?_; simp only [zE, op1, ev, lkp, ag, af, ev, reduceCtorEq, E, D, G, U, J, M, Tryd.td4, Mpr.av, Mly.av, bq, bl, List.getD_cons_zero]; refine V _ ?_; clear V K0; simp only [put, app, Z, ae, zE, zS, D])
 refine ah ?_
 refine hK1 _ ?_; clear hK1; refine ad [0] ?_; simp only [Y, lkp, zE, reduceCtorEq, E, a8, D]
 refine aa fun K2 hK2 => ?_
 refine ai hP hN rfl ?_
 (refine a9 rfl fun K0 V => ?_; simp only [zE, op1, ev, lkp, ag, af, aZ, bc, bP, rep, aG, aQ, ar, Ty.size, reduceCtorEq, E, D, G, U, J, M, Tryd.el25, Tryd.td25, Tryd.td3, Mpr.av, Mly.av, bq, bl, List.getD_cons_zero]; (repeat refine And.intro (by first | omega | assumption | exact rfl) ?_); (first | refine V _ ?_ | refine Or.inl (V _ ?_)); clear V K0; simp only [put, app, Z, ae, zE, zS, D])
 refine a9 rfl fun K0 V => ?_
 refine aX (h := aL (iI [0, 1, 0])) rfl rfl (by first | exact rfl | (simp only [ev, Y, lkp, zE, reduceCtorEq, E, a8, D]; exact rfl)) (by simp only [zE, zG, op1, ev, lkp, ag, af, ar, acs, bj, mv1, mvC, Ty.dflt, reduceCtorEq, E, D, G, U, J, M, Mpr.av, Mly.av, bq, bl, List.getD_cons_zero]) ?_
 refine V _ ?_; clear V K0; simp only [put, app, Z, ae, zE, zS, D]
 iterate 6 (refine a9 rfl fun K0 V => ?_; simp only [zE, op1, ev, lkp, ag, af, bQ, cg, bH, Nat.mul_one, ar, aQ, aG, acs, Ty.size, Ty.dflt, zG, reduceCtorEq, E, D, G, U, J, M, Tryd.st24, Tryd.td1, Tryd.td24, Tryd.td26, Mpr.av, Mly.av, bq, bl, List.getD_cons_zero]; (repeat refine And.intro (by first | omega | assumption | exact rfl) ?_); (first | refine V _ ?_ | refine Or.inl (V _ ?_)); clear V K0; simp only [put, app, Z, ae, zE, zS, D])
 refine ah ?_
 refine hK2 _ ?_; clear hK2; refine ad [0, 1, 2] ?_; simp only [Y, lkp, zE, reduceCtorEq, E, a8, D]
 refine aa fun K3 hK3 => ?_
 refine ai hP hN rfl ?_
 (refine a9 rfl fun K0 V => ?_; simp only [zE, op1, ev, lkp, ag, af, aZ, bc, bP, rep, aG, aQ, ar, Ty.size, reduceCtorEq, E, D, G, U, J, M, Tryd.el25, Tryd.td2, Tryd.td25, Mpr.av, Mly.av, bq, bl, List.getD_cons_zero]; (repeat refine And.intro (by first | omega | assumption | exact rfl) ?_); (first | refine V _ ?_ | refine Or.inl (V _ ?_)); clear V K0; simp only [put, app, Z, ae, zE, zS, D])
 refine a9 rfl fun K0 V => ?_
 refine aX (h := aL (iI [1, 0])) rfl rfl (by first | exact rfl | (simp only [ev, Y, lkp, zE, reduceCtorEq, E, a8, D]; exact rfl)) (by simp only [zE, zG, op1, ev, lkp, ag, af, ar, acs, bj, mv1, mvC, Ty.dflt, reduceCtorEq, E, D, G, U, J, M, Mpr.av, Mly.av, bq, bl, List.getD_cons_zero]) ?_
 refine V _ ?_; clear V K0; simp only [put, app, Z, ae, zE, zS, D]
 iterate 6 (refine a9 rfl fun K0 V => ?_; simp only [zE, op1, ev, lkp, ag, af, bQ, cg, bH, Nat.mul_one, ar, aQ, aG, acs, Ty.size, Ty.dflt, zG, reduceCtorEq, E, D, G, U, J, M, Tryd.st24, Tryd.td1, Tryd.td24, Tryd.td26, Mpr.av, Mly.av, bq, bl, List.getD_cons_zero]; (repeat refine And.intro (by first | omega | assumption | exact rfl) ?_); (first | refine V _ ?_ | refine Or.inl (V _ ?_)); clear V K0; simp only [put, app, Z, ae, zE, zS, D])
 refine ah ?_
 refine hK3 _ ?_; clear hK3; refine ad [0, 1, 2, 4] ?_; simp only [Y, lkp, zE, reduceCtorEq, E, a8, D]
 refine aa fun K4 hK4 => ?_
 refine ai hP hN rfl ?_
 iterate 2 (refine a9 rfl fun K0 V => ?_; simp only [zE, op1, ev, lkp, ag, af, az, Nat.mul_one, ax, ay, acs, Ty.dflt, zG, ao, aZ, bc, bP, rep, aG, aQ, ar, Ty.size, reduceCtorEq, E, D, G, U, J, M, Tryd.el25, Tryd.st24, Tryd.td24, Tryd.td25, Tryd.td3, Mpr.av, Mly.av, bq, bl, List.getD_cons_zero]; (repeat refine And.intro (by first | omega | assumption | exact rfl) ?_); (first | refine V _ ?_ | refine Or.inl (V _ ?_)); clear V K0; simp only [put, app, Z, ae, zE, zS, D])
 refine a9 rfl fun K0 V => ?_
 refine aX (h := aL (qb (cM [0, 1, 0]) [2, 1, 0])) rfl rfl (by first | exact rfl | (simp only [ev, Y, lkp, zE, reduceCtorEq, E, a8, D]; exact rfl)) (by simp only [zE, zG, op1, ev, lkp, ag, af, ar, acs, bj, mv1, mvC, Ty.dflt, reduceCtorEq, E, D, G, U, J, M, Mpr.av, Mly.av, bq, bl, List.getD_cons_zero]) ?_
 refine V _ ?_; clear V K0; simp only [put, app, Z, ae, zE, zS, D]
 iterate 5 (refine a9 rfl fun K0 V => ?_; simp only [zE, op1, ev, lkp, ag, af, bQ, reduceCtorEq, E, D, G, U, J, M, Tryd.el25, Tryd.td1, Tryd.td25, Tryd.td26, Mpr.av, Mly.av, bq, bl, List.getD_cons_zero]; refine V _ ?_; clear V K0; simp only [put, app, Z, ae, zE, zS, D])
 refine ah ?_
 refine hK4 _ ?_; clear hK4; refine ad [0, 1, 2, 4, 5, 6] ?_; simp only [Y, lkp, zE, reduceCtorEq, E, a8, D]
 refine aa fun K5 hK5 => ?_
 refine ai hP hN rfl ?_
 iterate 2 (refine a9 rfl fun K0 V => ?_; simp only [zE, op1, ev, lkp, ag, af, az, Nat.mul_one, ax, ay, acs, Ty.dflt, zG, ao, aZ, bc, bP, rep, aG, aQ, ar, Ty.size, reduceCtorEq, E, D, G, U, J, M, Tryd.el25, Tryd.st24, Tryd.td24, Tryd.td25, Tryd.td3, Mpr.av, Mly.av, bq, bl, List.getD_cons_zero]; (repeat refine And.intro (by first | omega | assumption | exact rfl) ?_); (first | refine V _ ?_ | refine Or.inl (V _ ?_)); clear V K0; simp only [put, app, Z, ae, zE, zS, D])
 refine a9 rfl fun K0 V => ?_
 refine aX (h := aL (pU (cM [0, 1, 0]) [0, 1, 0])) rfl rfl (by first | exact rfl | (simp only [ev, Y, lkp, zE, reduceCtorEq, E, a8, D]; exact rfl)) (by simp only [zE, zG, op1, ev, lkp, ag, af, ar, acs, bj, mv1, mvC, Ty.dflt, reduceCtorEq, E, D, G, U, J, M, Mpr.av, Mly.av, bq, bl, List.getD_cons_zero]) ?_
 refine V _ ?_; clear V K0; simp only [put, app, Z, ae, zE, zS, D]
 iterate 7 (refine a9 rfl fun K0 V => ?_; simp only [zE, op1, ev, lkp, ag, af, bQ, reduceCtorEq, E, D, G, U, J, M, Tryd.el25, Tryd.td1, Tryd.td2, Tryd.td25, Tryd.td26, Tryd.td4, Mpr.av, Mly.av, bq, bl, List.getD_cons_zero]; refine V _ ?_; clear V K0; simp only [put, app, Z, ae, zE, zS, D])
 refine ah ?_
 refine hK5 _ ?_; clear hK5; refine ad [0, 1, 2, 4, 5, 6, 7, 8, 9] ?_; simp only [Y, lkp, zE, reduceCtorEq, E, a8, D]
 refine aa fun K6 hK6 => ?_
 refine ai hP hN rfl ?_
 (refine a9 rfl fun K0 V => ?_; simp only [zE, op1, ev, lkp, ag, af, aZ, bc, bP, rep, aG, aQ, ar, Ty.size, reduceCtorEq, E, D, G, U, J, M, Tryd.el25, Tryd.td2, Tryd.td25, Mpr.av, Mly.av, bq, bl, List.getD_cons_zero]; (repeat refine And.intro (by first | omega | assumption | exact rfl) ?_); (first | refine V _ ?_ | refine Or.inl (V _ ?_)); clear V K0; simp only [put, app, Z, ae, zE, zS, D])
 refine a9 rfl fun K0 V => ?_
 refine aX (h := aL (iI [0, 0])) rfl rfl (by first | exact rfl | (simp only [ev, Y, lkp, zE, reduceCtorEq, E, a8, D]; exact rfl)) (by simp only [zE, zG, op1, ev, lkp, ag, af, ar, acs, bj, mv1, mvC, Ty.dflt, reduceCtorEq, E, D, G, U, J, M, Mpr.av, Mly.av, bq, bl, List.getD_cons_zero]) ?_
 refine V _ ?_; clear V K0; simp only [put, app, Z, ae, zE, zS, D]
 iterate 6 (refine a9 rfl fun K0 V => ?_; simp only [zE, op1, ev, lkp, ag, af, bQ, cg, bH, Nat.mul_one, ar, aQ, aG, acs, Ty.size, Ty.dflt, zG, reduceCtorEq, E, D, G, U, J, M, Tryd.st24, Tryd.td1, Tryd.td24, Tryd.td26, Mpr.av, Mly.av, bq, bl, List.getD_cons_zero]; (repeat refine And.intro (by first | omega | assumption | exact rfl) ?_); (first | refine V _ ?_ | refine Or.inl (V _ ?_)); clear V K0; simp only [put, app, Z, ae, zE, zS, D])
 refine ah ?_
 refine hK6 _ ?_; clear hK6; refine ad [0, 1, 2, 4, 5, 6, 7, 8, 9, 10] ?_; simp only [Y, lkp, zE, reduceCtorEq, E, a8, D]
 refine aa fun K7 hK7 => ?_
 refine fx ?_; simp only [List.cons_append, List.append_assoc, List.nil_append]
 refine fx ?_; simp only [List.cons_append, List.append_assoc, List.nil_append]
 refine c0 hP hN Tryd.mixed rfl ?_
 refine a9 rfl fun K0 V => ?_
 refine aX (h := aL jX) rfl rfl (by first | exact rfl | (simp only [ev, Y, lkp, zE, reduceCtorEq, E, a8, D]; exact rfl)) (by simp only [zE, zG, op1, ev, lkp, ag, af, ar, acs, bj, mv1, mvC, Ty.dflt, reduceCtorEq, E, D, G, U, J, M, Mpr.av, Mly.av, bq, bl, List.getD_cons_zero]) ?_
 refine V _ ?_; clear V K0; simp only [put, app, Z, ae, zE, zS, D]
 (refine a9 rfl fun K0 V => ?_; simp only [zE, op1, ev, lkp, ag, af, az, Nat.mul_one, ax, ay, acs, Ty.dflt, zG, ao, reduceCtorEq, E, D, G, U, J, M, Tryd.st24, Tryd.td24, Mpr.av, Mly.av, bq, bl, List.getD_cons_zero]; (repeat refine And.intro (by first | omega | assumption | exact rfl) ?_); refine V _ ?_; clear V K0; simp only [put, app, Z, ae, zE, zS, D])
 refine a9 rfl fun K0 V => ?_
 refine aX (h := aL qo) rfl rfl (by first | exact rfl | (simp only [ev, Y, lkp, zE, reduceCtorEq, E, a8, D]; exact rfl)) (by simp only [zE, zG, op1, ev, lkp, ag, af, ar, acs, bj, mv1, mvC, Ty.dflt, reduceCtorEq, E, D, G, U, J, M, Mpr.av, Mly.av, bq, bl, List.getD_cons_zero]) ?_
 refine V _ ?_; clear V K0; simp only [put, app, Z, ae, zE, zS, D]
 iterate 5 (refine a9 rfl fun K0 V => ?_; simp only [zE, op1, ev, lkp, ag, af, bQ, reduceCtorEq, E, D, G, U, J, M, Tryd.st47, Tryd.st50, Tryd.td1, Tryd.td2, Tryd.td26, Tryd.td3, Tryd.td4, Tryd.td47, Tryd.td50, Mpr.av, Mly.av, bq, bl, List.getD_cons_zero]; refine V _ ?_; clear V K0; simp only [put, app, Z, ae, zE, zS, D])
 (refine a9 rfl fun K0 V => ?_; simp only [zE, op1, ev, lkp, ag, af, cg, reduceCtorEq, E, D, G, U, J, M, Tryd.st47, Tryd.td47, Mpr.av, Mly.av, bq, bl, List.getD_cons_zero]; refine Or.inr (Or.inl ⟨3, ?_, (.pair (.int .i64) (.pair (.int .i64) (.pair (.list (.list (.int .i64))) (.pair (.list (.list (.int .i64))) .unit)))), (0, (0, ([], ([], ())))), ?_⟩); (exact rfl); (repeat refine And.intro (by first | rfl | decide) ?_); refine V _ ?_; clear V K0; simp only [put, app, Z, ae, zE, zS, D])
 (refine a9 rfl fun K0 V => ?_; simp only [zE, op1, ev, lkp, ag, af, cg, reduceCtorEq, E, D, G, U, J, M, Tryd.st50, Tryd.td50, Mpr.av, Mly.av, bq, bl, List.getD_cons_zero]; refine Or.inr (Or.inl ⟨4, ?_, (.pair (.list (.int .i64)) (.pair (.int .i64) (.pair (.int .i64) .unit))), ([], (0, (0, ()))), ?_⟩); (exact rfl); (repeat refine And.intro (by first | rfl | decide) ?_); refine V _ ?_; clear V K0; simp only [put, app, Z, ae, zE, zS, D])
 iterate 4 (refine a9 rfl fun K0 V => ?_; simp only [zE, op1, ev, lkp, ag, af, bH, Nat.mul_one, ar, aQ, aG, acs, Ty.size, Ty.dflt, zG, reduceCtorEq, E, D, G, U, J, M, Tryd.st47, Tryd.st50, Tryd.td26, Tryd.td4, Tryd.td47, Tryd.td50, Mpr.av, Mly.av, bq, bl, List.getD_cons_zero]; (repeat refine And.intro (by first | omega | assumption | exact rfl) ?_); refine V _ ?_; clear V K0; simp only [put, app, Z, ae, zE, zS, D])
 refine ah ?_
 refine ⟨by kernel_rfl, ?_⟩
 refine hK7 _ ?_; clear hK7; refine ad [0, 1, 2, 4, 5, 6, 7, 8, 9, 10, 13, 14, 15] ?_; simp only [Y, lkp, zE, reduceCtorEq, E, a8, D]
 refine aa fun K8 hK8 => ?_
 refine ai hP hN rfl ?_
 iterate 9 (refine a9 rfl fun K0 V => ?_; simp only [zE, op1, ev, lkp, ag, af, aZ, bc, bP, rep, aG, aQ, ar, Ty.size, ci, cg, bH, Nat.mul_one, acs, Ty.dflt, zG, reduceCtorEq, E, D, G, U, J, M, Tryd.el22, Tryd.el25, Tryd.st24, Tryd.td2, Tryd.td22, Tryd.td24, Tryd.td25, Mpr.av, Mly.av, bq, bl, List.getD_cons_zero]; (repeat refine And.intro (by first | omega | assumption | exact rfl) ?_); (first | refine V _ ?_ | refine Or.inl (V _ ?_)); clear V K0; simp only [put, app, Z, ae, zE, zS, D])
 refine ah ?_
 refine hK8 _ ?_; clear hK8; refine ad [0, 1, 2, 4, 5, 6, 7, 8, 9, 10, 13, 14, 15, 16] ?_; simp only [Y, lkp, zE, reduceCtorEq, E, a8, D]
 refine aa fun K9 hK9 => ?_
 refine fx ?_; simp only [List.cons_append, List.append_assoc, List.nil_append]
 refine fx ?_; simp only [List.cons_append, List.append_assoc, List.nil_append]
 refine c0 hP hN Tryd.mixed rfl ?_
 refine a9 rfl fun K0 V => ?_
 refine aX (h := aL jX) rfl rfl (by first | exact rfl | (simp only [ev, Y, lkp, zE, reduceCtorEq, E, a8, D]; exact rfl)) (by simp only [zE, zG, op1, ev, lkp, ag, af, ar, acs, bj, mv1, mvC, Ty.dflt, reduceCtorEq, E, D, G, U, J, M, Mpr.av, Mly.av, bq, bl, List.getD_cons_zero]) ?_
 refine V _ ?_; clear V K0; simp only [put, app, Z, ae, zE, zS, D]
 (refine a9 rfl fun K0 V => ?_; simp only [zE, op1, ev, lkp, ag, af, az, Nat.mul_one, ax, ay, acs, Ty.dflt, zG, ao, reduceCtorEq, E, D, G, U, J, M, Tryd.st24, Tryd.td24, Mpr.av, Mly.av, bq, bl, List.getD_cons_zero]; (repeat refine And.intro (by first | omega | assumption | exact rfl) ?_); refine V _ ?_; clear V K0; simp only [put, app, Z, ae, zE, zS, D])
 refine a9 rfl fun K0 V => ?_
 refine aX (h := aL qm) rfl rfl (by first | exact rfl | (simp only [ev, Y, lkp, zE, reduceCtorEq, E, a8, D]; exact rfl)) (by simp only [zE, zG, op1, ev, lkp, ag, af, ar, acs, bj, mv1, mvC, Ty.dflt, reduceCtorEq, E, D, G, U, J, M, Mpr.av, Mly.av, bq, bl, List.getD_cons_zero]) ?_
 refine V _ ?_; clear V K0; simp only [put, app, Z, ae, zE, zS, D]
 iterate 5 (refine a9 rfl fun K0 V => ?_; simp only [zE, op1, ev, lkp, ag, af, bQ, reduceCtorEq, E, D, G, U, J, M, Tryd.st47, Tryd.st50, Tryd.td1, Tryd.td2, Tryd.td26, Tryd.td3, Tryd.td4, Tryd.td47, Tryd.td50, Mpr.av, Mly.av, bq, bl, List.getD_cons_zero]; refine V _ ?_; clear V K0; simp only [put, app, Z, ae, zE, zS, D])
 (refine a9 rfl fun K0 V => ?_; simp only [zE, op1, ev, lkp, ag, af, cg, reduceCtorEq, E, D, G, U, J, M, Tryd.st47, Tryd.td47, Mpr.av, Mly.av, bq, bl, List.getD_cons_zero]; refine Or.inr (Or.inl ⟨6, ?_, (.pair (.int .i64) (.pair (.int .i64) (.pair (.list (.list (.int .i64))) (.pair (.list (.list (.int .i64))) .unit)))), (0, (0, ([], ([], ())))), ?_⟩); (exact rfl); (repeat refine And.intro (by first | rfl | decide) ?_); refine V _ ?_; clear V K0; simp only [put, app, Z, ae, zE, zS, D])
 (refine a9 rfl fun K0 V => ?_; simp only [zE, op1, ev, lkp, ag, af, cg, reduceCtorEq, E, D, G, U, J, M, Tryd.st50, Tryd.td50, Mpr.av, Mly.av, bq, bl, List.getD_cons_zero]; refine Or.inr (Or.inl ⟨7, ?_, (.pair (.list (.int .i64)) (.pair (.int .i64) (.pair (.int .i64) .unit))), ([], (0, (0, ()))), ?_⟩); (exact rfl); (repeat refine And.intro (by first | rfl | decide) ?_); refine V _ ?_; clear V K0; simp only [put, app, Z, ae, zE, zS, D])
 iterate 4 (refine a9 rfl fun K0 V => ?_; simp only [zE, op1, ev, lkp, ag, af, bH, Nat.mul_one, ar, aQ, aG, acs, Ty.size, Ty.dflt, zG, reduceCtorEq, E, D, G, U, J, M, Tryd.st47, Tryd.st50, Tryd.td26, Tryd.td4, Tryd.td47, Tryd.td50, Mpr.av, Mly.av, bq, bl, List.getD_cons_zero]; (repeat refine And.intro (by first | omega | assumption | exact rfl) ?_); refine V _ ?_; clear V K0; simp only [put, app, Z, ae, zE, zS, D])
 refine ah ?_
 refine ⟨by kernel_rfl, ?_⟩
 refine hK9 _ ?_; clear hK9; refine ad [0, 1, 2, 4, 5, 6, 7, 8, 9, 10, 13, 14, 15, 16, 17, 19, 20] ?_; simp only [Y, lkp, zE, reduceCtorEq, E, a8, D]
 refine aa fun K10 hK10 => ?_
 refine aa fun K11 hK11 => ?_
 refine ai hP hN rfl ?_
 iterate 2 (refine a9 rfl fun K0 V => ?_; simp only [zE, op1, ev, lkp, ag, af, aC, aB, aD, am, aA, aM, reduceCtorEq, E, D, G, U, J, M, Tryd.td26, Tryd.td4, Mpr.av, Mly.av, bq, bl, List.getD_cons_zero]; (repeat refine And.intro (by first | omega | assumption | exact rfl) ?_); refine V _ ?_; clear V K0; simp only [put, app, Z, ae, zE, zS, D])
 (refine a9 rfl fun K0 V => ?_; simp only [zE, op1, ev, lkp, ag, af, ev, reduceCtorEq, E, D, G, U, J, M, Tryd.td4, Mpr.av, Mly.av, bq, bl, List.getD_cons_zero]; refine V _ ?_; clear V K0; simp only [put, app, Z, ae, zE, zS, D])
 refine' aV (want := false) 2 rfl (m := 74) (by simp only [Y, lkp, zE, reduceCtorEq, E, a8, D]; exact rfl) (by kernel_rfl) rfl rfl rfl rfl rfl (fun hg12 => ?a12) ?b12 ?c12
 case a12 =>
  have hq12 := hg12; (try simp only [zB, reduceCtorEq] at hg12); simp only [List.take_succ_cons, List.take_zero, List.cons_append, List.nil_append]
  (refine aq rfl fun K0 V => ?_; simp only [zE, op1, ev, lkp, ag, af, ev, reduceCtorEq, E, D, G, U, J, M, Tryd.td26, Mpr.av, Mly.av, bq, bl, List.getD_cons_zero]; refine V _ ?_; clear V K0; simp only [put, app, Z, ae, zE, zS, D])
  (refine aq rfl fun K0 V => ?_; simp only [zE, op1, ev, lkp, ag, af, aC, aB, aD, am, aA, aM, reduceCtorEq, E, D, G, U, J, M, Tryd.td26, Tryd.td4, Mpr.av, Mly.av, bq, bl, List.getD_cons_zero]; (repeat refine And.intro (by first | omega | assumption | exact rfl) ?_); refine V _ ?_; clear V K0; simp only [put, app, Z, ae, zE, zS, D])
  (refine a9 rfl fun K0 V => ?_; simp only [zE, op1, ev, lkp, ag, af, bo, reduceCtorEq, E, D, G, U, J, M, Tryd.td4, Mpr.av, Mly.av, bq, bl, List.getD_cons_zero]; refine V _ ?_; clear V K0; simp only [put, app, Z, ae, zE, zS, D])
  refine ah ?_
  refine ⟨by simp only [Y, lkp, zE, reduceCtorEq, E, a8, D]; exact rfl, rfl, ?_, rfl⟩; (repeat refine aU rfl ?_); exact bu (by exact rfl) hq12
 case b12 => exact br (by first | rfl | (simp [bT]; done) | decide)
 simp only [bf, b9]
 (refine a9 rfl fun K0 V => ?_; simp only [zE, op1, ev, lkp, ag, af, ev, reduceCtorEq, E, D, G, U, J, M, Tryd.td4, Mpr.av, Mly.av, bq, bl, List.getD_cons_zero]; refine V _ ?_; clear V K0; simp only [put, app, Z, ae, zE, zS, D])
 refine' aV (want := false) 2 rfl (m := 78) (by simp only [Y, lkp, zE, reduceCtorEq, E, a8, D]; exact rfl) (by kernel_rfl) rfl rfl rfl rfl rfl (fun hg13 => ?a13) ?b13 ?c13
 case a13 =>
  have hq13 := hg13; (try simp only [zB, reduceCtorEq] at hg13); simp only [List.take_succ_cons, List.take_zero, List.cons_append, List.nil_append]
  (refine aq rfl fun K0 V => ?_; simp only [zE, op1, ev, lkp, ag, af, ev, reduceCtorEq, E, D, G, U, J, M, Tryd.td26, Mpr.av, Mly.av, bq, bl, List.getD_cons_zero]; refine V _ ?_; clear V K0; simp only [put, app, Z, ae, zE, zS, D])
  (refine aq rfl fun K0 V => ?_; simp only [zE, op1, ev, lkp, ag, af, aC, aB, aD, am, aA, aM, reduceCtorEq, E, D, G, U, J, M, Tryd.td26, Tryd.td4, Mpr.av, Mly.av, bq, bl, List.getD_cons_zero]; (repeat refine And.intro (by first | omega | assumption | exact rfl) ?_); refine V _ ?_; clear V K0; simp only [put, app, Z, ae, zE, zS, D])
  (refine a9 rfl fun K0 V => ?_; simp only [zE, op1, ev, lkp, ag, af, bo, reduceCtorEq, E, D, G, U, J, M, Tryd.td4, Mpr.av, Mly.av, bq, bl, List.getD_cons_zero]; refine V _ ?_; clear V K0; simp only [put, app, Z, ae, zE, zS, D])
  refine ah ?_
  refine ⟨by simp only [Y, lkp, zE, reduceCtorEq, E, a8, D]; exact rfl, rfl, ?_, rfl⟩; (repeat refine aU rfl ?_); exact bu (by exact rfl) hq13
 case b13 => exact br (by first | rfl | (simp [bT]; done) | decide)
 simp only [bf, b9]
 (refine a9 rfl fun K0 V => ?_; simp only [zE, op1, ev, lkp, ag, af, ev, reduceCtorEq, E, D, G, U, J, M, Tryd.td4, Mpr.av, Mly.av, bq, bl, List.getD_cons_zero]; refine V _ ?_; clear V K0; simp only [put, app, Z, ae, zE, zS, D])
 refine' aV (want := false) 2 rfl (m := 82) (by simp only [Y, lkp, zE, reduceCtorEq, E, a8, D]; exact rfl) (by kernel_rfl) rfl rfl rfl rfl rfl (fun hg14 => ?a14) ?b14 ?c14
 case a14 =>
  have hq14 := hg14; (try simp only [zB, reduceCtorEq] at hg14); simp only [List.take_succ_cons, List.take_zero, List.cons_append, List.nil_append]
  (refine aq rfl fun K0 V => ?_; simp only [zE, op1, ev, lkp, ag, af, ev, reduceCtorEq, E, D, G, U, J, M, Tryd.td26, Mpr.av, Mly.av, bq, bl, List.getD_cons_zero]; refine V _ ?_; clear V K0; simp only [put, app, Z, ae, zE, zS, D])
  (refine aq rfl fun K0 V => ?_; simp only [zE, op1, ev, lkp, ag, af, aC, aB, aD, am, aA, aM, reduceCtorEq, E, D, G, U, J, M, Tryd.td26, Tryd.td4, Mpr.av, Mly.av, bq, bl, List.getD_cons_zero]; (repeat refine And.intro (by first | omega | assumption | exact rfl) ?_); refine V _ ?_; clear V K0; simp only [put, app, Z, ae, zE, zS, D])
  (refine a9 rfl fun K0 V => ?_; simp only [zE, op1, ev, lkp, ag, af, bo, reduceCtorEq, E, D, G, U, J, M, Tryd.td4, Mpr.av, Mly.av, bq, bl, List.getD_cons_zero]; refine V _ ?_; clear V K0; simp only [put, app, Z, ae, zE, zS, D])
  refine ah ?_
  refine ⟨by simp only [Y, lkp, zE, reduceCtorEq, E, a8, D]; exact rfl, rfl, ?_, rfl⟩; (repeat refine aU rfl ?_); exact bu (by exact rfl) hq14
 case b14 => exact br (by first | rfl | (simp [bT]; done) | decide)
 simp only [bf, b9]
 (refine a9 rfl fun K0 V => ?_; simp only [zE, op1, ev, lkp, ag, af, ev, reduceCtorEq, E, D, G, U, J, M, Tryd.td4, Mpr.av, Mly.av, bq, bl, List.getD_cons_zero]; refine V _ ?_; clear V K0; simp only [put, app, Z, ae, zE, zS, D])
 refine' aV (want := false) 2 rfl (m := 86) (by simp only [Y, lkp, zE, reduceCtorEq, E, a8, D]; exact rfl) (by kernel_rfl) rfl rfl rfl rfl rfl (fun hg15 => ?a15) ?b15 ?c15
 case a15 =>
  have hq15 := hg15; (try simp only [zB, reduceCtorEq] at hg15); simp only [List.take_succ_cons, List.take_zero, List.cons_append, List.nil_append]
  (refine aq rfl fun K0 V => ?_; simp only [zE, op1, ev, lkp, ag, af, ev, reduceCtorEq, E, D, G, U, J, M, Tryd.td26, Mpr.av, Mly.av, bq, bl, List.getD_cons_zero]; refine V _ ?_; clear V K0; simp only [put, app, Z, ae, zE, zS, D])
  (refine aq rfl fun K0 V => ?_; simp only [zE, op1, ev, lkp, ag, af, aC, aB, aD, am, aA, aM, reduceCtorEq, E, D, G, U, J, M, Tryd.td26, Tryd.td4, Mpr.av, Mly.av, bq, bl, List.getD_cons_zero]; (repeat refine And.intro (by first | omega | assumption | exact rfl) ?_); refine V _ ?_; clear V K0; simp only [put, app, Z, ae, zE, zS, D])
  (refine a9 rfl fun K0 V => ?_; simp only [zE, op1, ev, lkp, ag, af, bo, reduceCtorEq, E, D, G, U, J, M, Tryd.td4, Mpr.av, Mly.av, bq, bl, List.getD_cons_zero]; refine V _ ?_; clear V K0; simp only [put, app, Z, ae, zE, zS, D])
  refine ah ?_
  refine ⟨by simp only [Y, lkp, zE, reduceCtorEq, E, a8, D]; exact rfl, rfl, ?_, rfl⟩; (repeat refine aU rfl ?_); exact bu (by exact rfl) hq15
 case b15 => exact br (by first | rfl | (simp [bT]; done) | decide)
 simp only [bf, b9]
 (refine a9 rfl fun K0 V => ?_; simp only [zE, op1, ev, lkp, ag, af, ev, reduceCtorEq, E, D, G, U, J, M, Tryd.td4, Mpr.av, Mly.av, bq, bl, List.getD_cons_zero]; refine V _ ?_; clear V K0; simp only [put, app, Z, ae, zE, zS, D])
 refine' aV (want := false) 2 rfl (m := 90) (by simp only [Y, lkp, zE, reduceCtorEq, E, a8, D]; exact rfl) (by kernel_rfl) rfl rfl rfl rfl rfl (fun hg16 => ?a16) ?b16 ?c16
 case a16 =>
  have hq16 := hg16; (try simp only [zB, reduceCtorEq] at hg16); simp only [List.take_succ_cons, List.take_zero, List.cons_append, List.nil_append]
  (refine aq rfl fun K0 V => ?_; simp only [zE, op1, ev, lkp, ag, af, ev, reduceCtorEq, E, D, G, U, J, M, Tryd.td26, Mpr.av, Mly.av, bq, bl, List.getD_cons_zero]; refine V _ ?_; clear V K0; simp only [put, app, Z, ae, zE, zS, D])
  (refine aq rfl fun K0 V => ?_; simp only [zE, op1, ev, lkp, ag, af, aC, aB, aD, am, aA, aM, reduceCtorEq, E, D, G, U, J, M, Tryd.td26, Tryd.td4, Mpr.av, Mly.av, bq, bl, List.getD_cons_zero]; (repeat refine And.intro (by first | omega | assumption | exact rfl) ?_); refine V _ ?_; clear V K0; simp only [put, app, Z, ae, zE, zS, D])
  (refine a9 rfl fun K0 V => ?_; simp only [zE, op1, ev, lkp, ag, af, bo, reduceCtorEq, E, D, G, U, J, M, Tryd.td4, Mpr.av, Mly.av, bq, bl, List.getD_cons_zero]; refine V _ ?_; clear V K0; simp only [put, app, Z, ae, zE, zS, D])
  refine ah ?_
  refine ⟨by simp only [Y, lkp, zE, reduceCtorEq, E, a8, D]; exact rfl, rfl, ?_, rfl⟩; (repeat refine aU rfl ?_); exact bu (by exact rfl) hq16
 case b16 => exact br (by first | rfl | (simp [bT]; done) | decide)
 simp only [bf, b9]
 (refine a9 rfl fun K0 V => ?_; simp only [zE, op1, ev, lkp, ag, af, ev, reduceCtorEq, E, D, G, U, J, M, Tryd.td4, Mpr.av, Mly.av, bq, bl, List.getD_cons_zero]; refine V _ ?_; clear V K0; simp only [put, app, Z, ae, zE, zS, D])
 refine' aV (want := false) 2 rfl (m := 94) (by simp only [Y, lkp, zE, reduceCtorEq, E, a8, D]; exact rfl) (by kernel_rfl) rfl rfl rfl rfl rfl (fun hg17 => ?a17) ?b17 ?c17
 case a17 =>
  have hq17 := hg17; (try simp only [zB, reduceCtorEq] at hg17); simp only [List.take_succ_cons, List.take_zero, List.cons_append, List.nil_append]
  (refine aq rfl fun K0 V => ?_; simp only [zE, op1, ev, lkp, ag, af, ev, reduceCtorEq, E, D, G, U, J, M, Tryd.td4, Mpr.av, Mly.av, bq, bl, List.getD_cons_zero]; refine V _ ?_; clear V K0; simp only [put, app, Z, ae, zE, zS, D])
  (refine aq rfl fun K0 V => ?_; simp only [zE, op1, ev, lkp, ag, af, fL, reduceCtorEq, E, D, G, U, J, M, Tryd.td4, Mpr.av, Mly.av, bq, bl, List.getD_cons_zero]; (repeat refine And.intro (by first | omega | assumption | exact rfl) ?_); refine V _ ?_; clear V K0; simp only [put, app, Z, ae, zE, zS, D])
  (refine a9 rfl fun K0 V => ?_; simp only [zE, op1, ev, lkp, ag, af, bo, reduceCtorEq, E, D, G, U, J, M, Tryd.td4, Mpr.av, Mly.av, bq, bl, List.getD_cons_zero]; refine V _ ?_; clear V K0; simp only [put, app, Z, ae, zE, zS, D])
  refine ah ?_
  refine ⟨by simp only [Y, lkp, zE, reduceCtorEq, E, a8, D]; exact rfl, rfl, ?_, rfl⟩; (repeat refine aU rfl ?_); exact bu (by exact rfl) hq17
 case b17 => exact br (by first | rfl | (simp [bT]; done) | decide)
 simp only [bf, b9]
 (refine a9 rfl fun K0 V => ?_; simp only [zE, op1, ev, lkp, ag, af, ev, reduceCtorEq, E, D, G, U, J, M, Tryd.td4, Mpr.av, Mly.av, bq, bl, List.getD_cons_zero]; refine V _ ?_; clear V K0; simp only [put, app, Z, ae, zE, zS, D])
 refine' aV (want := false) 1 rfl (m := 98) (by simp only [Y, lkp, zE, reduceCtorEq, E, a8, D]; exact rfl) (by kernel_rfl) rfl rfl rfl rfl rfl (fun hg18 => ?a18) ?b18 ?c18
 case a18 =>
  have hq18 := hg18; (try simp only [zB, reduceCtorEq] at hg18); simp only [List.take_succ_cons, List.take_zero, List.cons_append, List.nil_append]
  (refine aq rfl fun K0 V => ?_; simp only [zE, op1, ev, lkp, ag, af, ev, reduceCtorEq, E, D, G, U, J, M, Tryd.td4, Mpr.av, Mly.av, bq, bl, List.getD_cons_zero]; refine V _ ?_; clear V K0; simp only [put, app, Z, ae, zE, zS, D])
  (refine a9 rfl fun K0 V => ?_; simp only [zE, op1, ev, lkp, ag, af, bo, reduceCtorEq, E, D, G, U, J, M, Tryd.td4, Mpr.av, Mly.av, bq, bl, List.getD_cons_zero]; refine V _ ?_; clear V K0; simp only [put, app, Z, ae, zE, zS, D])
  refine ah ?_
  refine ⟨by simp only [Y, lkp, zE, reduceCtorEq, E, a8, D]; exact rfl, rfl, ?_, rfl⟩; (repeat refine aU rfl ?_); exact bu (by exact rfl) hq18
 case b18 => exact br (by first | rfl | (simp [bT]; done) | decide)
 simp only [bf, b9]
 (refine a9 rfl fun K0 V => ?_; simp only [zE, op1, ev, lkp, ag, af, ev, reduceCtorEq, E, D, G, U, J, M, Tryd.td4, Mpr.av, Mly.av, bq, bl, List.getD_cons_zero]; refine V _ ?_; clear V K0; simp only [put, app, Z, ae, zE, zS, D])
 refine' aV (want := false) 2 rfl (m := 101) (by simp only [Y, lkp, zE, reduceCtorEq, E, a8, D]; exact rfl) (by kernel_rfl) rfl rfl rfl rfl rfl (fun hg19 => ?a19) ?b19 ?c19
 case a19 =>
  have hq19 := hg19; (try simp only [zB, reduceCtorEq] at hg19); simp only [List.take_succ_cons, List.take_zero, List.cons_append, List.nil_append]
  (refine aq rfl fun K0 V => ?_; simp only [zE, op1, ev, lkp, ag, af, ev, reduceCtorEq, E, D, G, U, J, M, Tryd.td4, Mpr.av, Mly.av, bq, bl, List.getD_cons_zero]; refine V _ ?_; clear V K0; simp only [put, app, Z, ae, zE, zS, D])
  (refine aq rfl fun K0 V => ?_; simp only [zE, op1, ev, lkp, ag, af, fL, reduceCtorEq, E, D, G, U, J, M, Tryd.td4, Mpr.av, Mly.av, bq, bl, List.getD_cons_zero]; (repeat refine And.intro (by first | omega | assumption | exact rfl) ?_); refine V _ ?_; clear V K0; simp only [put, app, Z, ae, zE, zS, D])
  (refine a9 rfl fun K0 V => ?_; simp only [zE, op1, ev, lkp, ag, af, bo, reduceCtorEq, E, D, G, U, J, M, Tryd.td4, Mpr.av, Mly.av, bq, bl, List.getD_cons_zero]; refine V _ ?_; clear V K0; simp only [put, app, Z, ae, zE, zS, D])
  refine ah ?_
  refine ⟨by simp only [Y, lkp, zE, reduceCtorEq, E, a8, D]; exact rfl, rfl, ?_, rfl⟩; (repeat refine aU rfl ?_); exact bu (by exact rfl) hq19
 case b19 => exact br (by first | rfl | (simp [bT]; done) | decide)
 simp only [bf, b9]
 (refine a9 rfl fun K0 V => ?_; simp only [zE, op1, ev, lkp, ag, af, ev, reduceCtorEq, E, D, G, U, J, M, Tryd.td4, Mpr.av, Mly.av, bq, bl, List.getD_cons_zero]; refine V _ ?_; clear V K0; simp only [put, app, Z, ae, zE, zS, D])
 refine' aV (want := false) 3 rfl (m := 105) (by simp only [Y, lkp, zE, reduceCtorEq, E, a8, D]; exact rfl) (by kernel_rfl) rfl rfl rfl rfl rfl (fun hg20 => ?a20) ?b20 ?c20
 case a20 =>
  have hq20 := hg20; (try simp only [zB, reduceCtorEq] at hg20); simp only [List.take_succ_cons, List.take_zero, List.cons_append, List.nil_append]
  (refine aq rfl fun K0 V => ?_; simp only [zE, op1, ev, lkp, ag, af, ak, reduceCtorEq, E, D, G, U, J, M, Tryd.st24, Tryd.td1, Tryd.td24, Mpr.av, Mly.av, bq, bl, List.getD_cons_zero]; (repeat refine And.intro (by first | omega | assumption | exact rfl) ?_); refine V _ ?_; clear V K0; simp only [put, app, Z, ae, zE, zS, D])
  (refine aq rfl fun K0 V => ?_; simp only [zE, op1, ev, lkp, ag, af, az, Nat.mul_one, ax, ay, acs, Ty.dflt, zG, ao, reduceCtorEq, E, D, G, U, J, M, Tryd.td3, Mpr.av, Mly.av, bq, bl, List.getD_cons_zero]; (repeat refine And.intro (by first | omega | assumption | exact rfl) ?_); refine V _ ?_; clear V K0; simp only [put, app, Z, ae, zE, zS, D])
  (refine aq rfl fun K0 V => ?_; simp only [zE, op1, ev, lkp, ag, af, aC, aB, aD, am, aA, aM, reduceCtorEq, E, D, G, U, J, M, Tryd.td3, Tryd.td4, Mpr.av, Mly.av, bq, bl, List.getD_cons_zero]; (repeat refine And.intro (by first | omega | assumption | exact rfl) ?_); refine V _ ?_; clear V K0; simp only [put, app, Z, ae, zE, zS, D])
  (refine a9 rfl fun K0 V => ?_; simp only [zE, op1, ev, lkp, ag, af, bo, reduceCtorEq, E, D, G, U, J, M, Tryd.td4, Mpr.av, Mly.av, bq, bl, List.getD_cons_zero]; refine V _ ?_; clear V K0; simp only [put, app, Z, ae, zE, zS, D])
  refine ah ?_
  refine ⟨by simp only [Y, lkp, zE, reduceCtorEq, E, a8, D]; exact rfl, rfl, ?_, rfl⟩; (repeat refine aU rfl ?_); exact bu (by exact rfl) hq20
 case b20 => exact br (by first | rfl | (simp [bT]; done) | decide)
 simp only [bf, b9]
 refine ah ?_
 refine hK11 _ ?_; clear hK11; refine ad [0, 1, 2, 4, 5, 6, 7, 8, 9, 10, 13, 14, 15, 16, 17, 19, 20, 109] ?_; simp only [Y, lkp, zE, reduceCtorEq, E, a8, D]
 refine aE (by simp only [ev, Y, lkp, zE, reduceCtorEq, E, a8, D]; exact rfl) (fun hc21 => ?_) (fun hc21 => ?_)
 ·exfalso; (try simp only [zB, reduceCtorEq] at hc21)
  revert hc21; decide +kernel
 ·(try simp only [zB, reduceCtorEq] at hc21)
  refine aI ?_
  refine hK10 _ ?_; clear hK10; refine ad [0, 1, 2, 4, 5, 6, 7, 8, 9, 10, 13, 14, 15, 16, 17, 19, 20, 109] ?_; simp only [Y, lkp, zE, reduceCtorEq, E, a8, D]
  refine aa fun K22 hK22 => ?_
  refine ai hP hN rfl ?_
  iterate 2 (refine a9 rfl fun K0 V => ?_; simp only [zE, op1, ev, lkp, ag, af, aZ, bc, bP, rep, aG, aQ, ar, Ty.size, reduceCtorEq, E, D, G, U, J, M, Tryd.el25, Tryd.td25, Tryd.td3, Mpr.av, Mly.av, bq, bl, List.getD_cons_zero]; (repeat refine And.intro (by first | omega | assumption | exact rfl) ?_); (first | refine V _ ?_ | refine Or.inl (V _ ?_)); clear V K0; simp only [put, app, Z, ae, zE, zS, D])
  refine a9 rfl fun K0 V => ?_
  refine aX (h := aL (iK (abV (cM [0, 1, 0]) [2, 1, 0]) [0, 1, 0])) rfl rfl (by first | exact rfl | (simp only [ev, Y, lkp, zE, reduceCtorEq, E, a8, D]; exact rfl)) (by simp only [zE, zG, op1, ev, lkp, ag, af, ar, acs, bj, mv1, mvC, Ty.dflt, reduceCtorEq, E, D, G, U, J, M, Mpr.av, Mly.av, bq, bl, List.getD_cons_zero]) ?_
  refine V _ ?_; clear V K0; simp only [put, app, Z, ae, zE, zS, D]
  (refine a9 rfl fun K0 V => ?_; simp only [zE, op1, ev, lkp, ag, af, ev, reduceCtorEq, E, D, G, U, J, M, Tryd.td4, Mpr.av, Mly.av, bq, bl, List.getD_cons_zero]; refine V _ ?_; clear V K0; simp only [put, app, Z, ae, zE, zS, D])
  refine' aV (want := true) 3 rfl (m := 113) (by simp only [Y, lkp, zE, reduceCtorEq, E, a8, D]; exact rfl) (by kernel_rfl) rfl rfl rfl rfl rfl (fun hg23 => ?a23) ?b23 ?c23
  case a23 =>
   have hq23 := hg23; (try simp only [zB, reduceCtorEq] at hg23); simp only [List.take_succ_cons, List.take_zero, List.cons_append, List.nil_append]
   (refine aq rfl fun K0 V => ?_; simp only [zE, op1, ev, lkp, ag, af, ev, reduceCtorEq, E, D, G, U, J, M, Tryd.el25, Tryd.td25, Mpr.av, Mly.av, bq, bl, List.getD_cons_zero]; refine V _ ?_; clear V K0; simp only [put, app, Z, ae, zE, zS, D])
   (refine aq rfl fun K0 V => ?_; simp only [zE, op1, ev, lkp, ag, af, aZ, bc, bP, rep, aG, aQ, ar, Ty.size, reduceCtorEq, E, D, G, U, J, M, Tryd.el25, Tryd.td25, Tryd.td3, Mpr.av, Mly.av, bq, bl, List.getD_cons_zero]; (repeat refine And.intro (by first | omega | assumption | exact rfl) ?_); (first | refine V _ ?_ | refine Or.inl (V _ ?_)); clear V K0; simp only [put, app, Z, ae, zE, zS, D])
   refine aq rfl fun K0 V => ?_
   refine aX (h := aL (iK (pcW (cM [0, 1, 0]) [0, 1, 0]) [0, 1, 0])) rfl rfl (by first | exact rfl | (simp only [ev, Y, lkp, zE, reduceCtorEq, E, a8, D]; exact rfl)) (by simp only [zE, zG, op1, ev, lkp, ag, af, ar, acs, bj, mv1, mvC, Ty.dflt, reduceCtorEq, E, D, G, U, J, M, Mpr.av, Mly.av, bq, bl, List.getD_cons_zero]) ?_
   refine V _ ?_; clear V K0; simp only [put, app, Z, ae, zE, zS, D]
   (refine a9 rfl fun K0 V => ?_; simp only [zE, op1, ev, lkp, ag, af, bo, reduceCtorEq, E, D, G, U, J, M, Tryd.td4, Mpr.av, Mly.av, bq, bl, List.getD_cons_zero]; refine V _ ?_; clear V K0; simp only [put, app, Z, ae, zE, zS, D])
   refine ah ?_
   refine ⟨by simp only [Y, lkp, zE, reduceCtorEq, E, a8, D]; exact rfl, rfl, ?_, rfl⟩; (repeat refine aU rfl ?_); exact bu (by exact rfl) hq23
  case b23 => exact br (by first | rfl | (simp [bT]; done) | decide)
  simp only [bf, b9]
  (refine a9 rfl fun K0 V => ?_; simp only [zE, op1, ev, lkp, ag, af, ev, reduceCtorEq, E, D, G, U, J, M, Tryd.td4, Mpr.av, Mly.av, bq, bl, List.getD_cons_zero]; refine V _ ?_; clear V K0; simp only [put, app, Z, ae, zE, zS, D])
  refine' aV (want := true) 4 rfl (m := 118) (by simp only [Y, lkp, zE, reduceCtorEq, E, a8, D]; exact rfl) (by kernel_rfl) rfl rfl rfl rfl rfl (fun hg24 => ?a24) ?b24 ?c24
  case a24 =>
   have hq24 := hg24; (try simp only [zB, reduceCtorEq] at hg24); simp only [List.take_succ_cons, List.take_zero, List.cons_append, List.nil_append]
   (refine aq rfl fun K0 V => ?_; simp only [zE, op1, ev, lkp, ag, af, az, Nat.mul_one, ax, ay, acs, Ty.dflt, zG, ao, reduceCtorEq, E, D, G, U, J, M, Tryd.st50, Tryd.td50, Mpr.av, Mly.av, bq, bl, List.getD_cons_zero]; (repeat refine And.intro (by first | omega | assumption | exact rfl) ?_); refine V _ ?_; clear V K0; simp only [put, app, Z, ae, zE, zS, D])
   (refine aq rfl fun K0 V => ?_; simp only [zE, op1, ev, lkp, ag, af, aZ, bc, bP, rep, aG, aQ, ar, Ty.size, reduceCtorEq, E, D, G, U, J, M, Tryd.el25, Tryd.td1, Tryd.td25, Mpr.av, Mly.av, bq, bl, List.getD_cons_zero]; (repeat refine And.intro (by first | omega | assumption | exact rfl) ?_); (first | refine V _ ?_ | refine Or.inl (V _ ?_)); clear V K0; simp only [put, app, Z, ae, zE, zS, D])
   (refine aq rfl fun K0 V => ?_; simp only [zE, op1, ev, lkp, ag, af, ci, bc, aQ, ar, reduceCtorEq, E, D, G, U, J, M, Tryd.st50, Tryd.td50, Mpr.av, Mly.av, bq, bl, List.getD_cons_zero]; (repeat refine And.intro (by first | omega | assumption | exact rfl) ?_); (first | refine V _ ?_ | refine Or.inl (V _ ?_)); clear V K0; simp only [put, app, Z, ae, zE, zS, D])
   refine aq rfl fun K0 V => ?_
   refine aX (h := aL (nu [0] 1 2 [0] 1 2)) rfl rfl (by first | exact rfl | (simp only [ev, Y, lkp, zE, reduceCtorEq, E, a8, D]; exact rfl)) (by simp only [zE, zG, op1, ev, lkp, ag, af, ar, acs, bj, mv1, mvC, Ty.dflt, reduceCtorEq, E, D, G, U, J, M, Mpr.av, Mly.av, bq, bl, List.getD_cons_zero]) ?_
   refine V _ ?_; clear V K0; simp only [put, app, Z, ae, zE, zS, D]
   (refine a9 rfl fun K0 V => ?_; simp only [zE, op1, ev, lkp, ag, af, bo, reduceCtorEq, E, D, G, U, J, M, Tryd.td4, Mpr.av, Mly.av, bq, bl, List.getD_cons_zero]; refine V _ ?_; clear V K0; simp only [put, app, Z, ae, zE, zS, D])
   refine ah ?_
   refine ⟨by simp only [Y, lkp, zE, reduceCtorEq, E, a8, D]; exact rfl, rfl, ?_, rfl⟩; (repeat refine aU rfl ?_); exact bu (by exact rfl) hq24
  case b24 => exact br (by first | rfl | (simp [bT]; done) | decide)
  simp only [bf, b9]
  (refine a9 rfl fun K0 V => ?_; simp only [zE, op1, ev, lkp, ag, af, ev, reduceCtorEq, E, D, G, U, J, M, Tryd.td4, Mpr.av, Mly.av, bq, bl, List.getD_cons_zero]; refine V _ ?_; clear V K0; simp only [put, app, Z, ae, zE, zS, D])
  refine' aV (want := true) 9 rfl (m := 124) (by simp only [Y, lkp, zE, reduceCtorEq, E, a8, D]; exact rfl) (by kernel_rfl) rfl rfl rfl rfl rfl (fun hg25 => ?a25) ?b25 ?c25
  case a25 =>
   have hq25 := hg25; (try simp only [zB, reduceCtorEq] at hg25); simp only [List.take_succ_cons, List.take_zero, List.cons_append, List.nil_append]
   (refine aq rfl fun K0 V => ?_; simp only [zE, op1, ev, lkp, ag, af, az, Nat.mul_one, ax, ay, acs, Ty.dflt, zG, ao, reduceCtorEq, E, D, G, U, J, M, Tryd.st47, Tryd.td47, Mpr.av, Mly.av, bq, bl, List.getD_cons_zero]; (repeat refine And.intro (by first | omega | assumption | exact rfl) ?_); refine V _ ?_; clear V K0; simp only [put, app, Z, ae, zE, zS, D])
   (refine aq rfl fun K0 V => ?_; simp only [zE, op1, ev, lkp, ag, af, aZ, bc, bP, rep, aG, aQ, ar, Ty.size, reduceCtorEq, E, D, G, U, J, M, Tryd.el25, Tryd.td2, Tryd.td25, Mpr.av, Mly.av, bq, bl, List.getD_cons_zero]; (repeat refine And.intro (by first | omega | assumption | exact rfl) ?_); (first | refine V _ ?_ | refine Or.inl (V _ ?_)); clear V K0; simp only [put, app, Z, ae, zE, zS, D])
   (refine aq rfl fun K0 V => ?_; simp only [zE, op1, ev, lkp, ag, af, aZ, bc, bP, rep, aG, aQ, ar, Ty.size, reduceCtorEq, E, D, G, U, J, M, Tryd.el25, Tryd.td2, Tryd.td25, Mpr.av, Mly.av, bq, bl, List.getD_cons_zero]; (repeat refine And.intro (by first | omega | assumption | exact rfl) ?_); (first | refine V _ ?_ | refine Or.inl (V _ ?_)); clear V K0; simp only [put, app, Z, ae, zE, zS, D])
   (refine aq rfl fun K0 V => ?_; simp only [zE, op1, ev, lkp, ag, af, aZ, bc, bP, rep, aG, aQ, ar, Ty.size, reduceCtorEq, E, D, G, U, J, M, Tryd.el22, Tryd.td2, Tryd.td22, Mpr.av, Mly.av, bq, bl, List.getD_cons_zero]; (repeat refine And.intro (by first | omega | assumption | exact rfl) ?_); (first | refine V _ ?_ | refine Or.inl (V _ ?_)); clear V K0; simp only [put, app, Z, ae, zE, zS, D])
   (refine aq rfl fun K0 V => ?_; simp only [zE, op1, ev, lkp, ag, af, aZ, bc, bP, rep, aG, aQ, ar, Ty.size, reduceCtorEq, E, D, G, U, J, M, Tryd.el25, Tryd.td2, Tryd.td25, Mpr.av, Mly.av, bq, bl, List.getD_cons_zero]; (repeat refine And.intro (by first | omega | assumption | exact rfl) ?_); (first | refine V _ ?_ | refine Or.inl (V _ ?_)); clear V K0; simp only [put, app, Z, ae, zE, zS, D])
   (refine aq rfl fun K0 V => ?_; simp only [zE, op1, ev, lkp, ag, af, aZ, bc, bP, rep, aG, aQ, ar, Ty.size, reduceCtorEq, E, D, G, U, J, M, Tryd.el25, Tryd.td2, Tryd.td25, Mpr.av, Mly.av, bq, bl, List.getD_cons_zero]; (repeat refine And.intro (by first | omega | assumption | exact rfl) ?_); (first | refine V _ ?_ | refine Or.inl (V _ ?_)); clear V K0; simp only [put, app, Z, ae, zE, zS, D])
   (refine aq rfl fun K0 V => ?_; simp only [zE, op1, ev, lkp, ag, af, aZ, bc, bP, rep, aG, aQ, ar, Ty.size, reduceCtorEq, E, D, G, U, J, M, Tryd.el22, Tryd.td2, Tryd.td22, Mpr.av, Mly.av, bq, bl, List.getD_cons_zero]; (repeat refine And.intro (by first | omega | assumption | exact rfl) ?_); (first | refine V _ ?_ | refine Or.inl (V _ ?_)); clear V K0; simp only [put, app, Z, ae, zE, zS, D])
   (refine aq rfl fun K0 V => ?_; simp only [zE, op1, ev, lkp, ag, af, ci, bc, aQ, ar, reduceCtorEq, E, D, G, U, J, M, Tryd.st47, Tryd.td47, Mpr.av, Mly.av, bq, bl, List.getD_cons_zero]; (repeat refine And.intro (by first | omega | assumption | exact rfl) ?_); (first | refine V _ ?_ | refine Or.inl (V _ ?_)); clear V K0; simp only [put, app, Z, ae, zE, zS, D])
   refine aq rfl fun K0 V => ?_
   refine aX (h := aL (pc ⟨2, 0, [[1, 0], [0, 1]], [[2, 1], [3, 2]]⟩ ⟨2, 0, [[1, 0], [0, 1]], [[2, 1], [3, 2]]⟩)) rfl rfl (by first | exact rfl | (simp only [ev, Y, lkp, zE, reduceCtorEq, E, a8, D]; exact rfl)) (by simp only [zE, zG, op1, ev, lkp, ag, af, ar, acs, bj, mv1, mvC, Ty.dflt, reduceCtorEq, E, D, G, U, J, M, Mpr.av, Mly.av, bq, bl, List.getD_cons_zero]) ?_
   refine V _ ?_; clear V K0; simp only [put, app, Z, ae, zE, zS, D]
   (refine a9 rfl fun K0 V => ?_; simp only [zE, op1, ev, lkp, ag, af, bo, reduceCtorEq, E, D, G, U, J, M, Tryd.td4, Mpr.av, Mly.av, bq, bl, List.getD_cons_zero]; refine V _ ?_; clear V K0; simp only [put, app, Z, ae, zE, zS, D])
   refine ah ?_
   refine ⟨by simp only [Y, lkp, zE, reduceCtorEq, E, a8, D]; exact rfl, rfl, ?_, rfl⟩; (repeat refine aU rfl ?_); exact bu (by exact rfl) hq25
  case b25 => exact br (by first | rfl | (simp [bT]; done) | decide)
  simp only [bf, b9]
  (refine a9 rfl fun K0 V => ?_; simp only [zE, op1, ev, lkp, ag, af, ev, reduceCtorEq, E, D, G, U, J, M, Tryd.td4, Mpr.av, Mly.av, bq, bl, List.getD_cons_zero]; refine V _ ?_; clear V K0; simp only [put, app, Z, ae, zE, zS, D])
  refine ah ?_
  refine hK22 _ ?_; clear hK22; refine ad [0, 1, 2, 4, 5, 6, 7, 8, 9, 10, 13, 14, 15, 16, 17, 19, 20, 109] ?_; simp only [Y, lkp, zE, reduceCtorEq, E, a8, D]
  refine aH ?_
  refine ⟨by first | exact .inl rfl | exact .inr rfl, _, rfl, ?_⟩; simp only [fzV, fz1, fzC, List.map_cons, List.map_nil, Y, lkp, zE, reduceCtorEq, E, a8, D, Mpr.av, Mly.av, bq, bl, List.getD_cons_zero]
  refine VLE.of_eq ?_
  refine congrArg (fun b => AV.one (AC.bool b)) ?_
  decide +kernel
end Go.Proofs.YtgmgnkmgofkfpaaDoor
namespace Go.AV
open Nat renaming reduceEqDiff → E, reduceAdd → D, reduceLeDiff → G, reduceLT → U, reduceMul → J, reduceSub → M
open List renaming set_cons_zero → aw, set_cons_succ → au
/-plain-/
/-! On mapTh. -/
def ml (a b : Mpr) : Bool := decide (a.inp = b.inp) && decide (a.ab = b.ab) && decide (a.st = b.st) && decide (a.nx = b.nx) && decide (a.sy = b.sy)
theorem i9 (a : Mpr) : ml a a = true := by simp [ml]
end Go.AV
namespace Go.Proofs.YtgmgnkmgofkfpaaDoor
open Go Go.AV
open Nat renaming reduceEqDiff → E, reduceAdd → D, reduceLeDiff → G, reduceLT → U, reduceMul → J, reduceSub → M
open List renaming set_cons_zero → aw, set_cons_succ → au
set_option maxRecDepth 100000 in
theorem pb (cl : List Int) : cf Tryd.prog 31 [.one (.list (.int .i64) cl)] (.tup [.one (.int .i64 (eh cl)), .one (.int .i64 (cL cl))]) := by
 refine bp Tryd.func31 rfl (by kernel_rfl) (Nat.le_of_ble_eq_true rfl) rfl fun C hP hN hB => ?_
 replace hN : C.N = 42 := hN
 simp only [a8, D]
 refine aa fun K1 hK1 => ?_
 refine ai hP hN rfl ?_
 iterate 2 (refine a9 rfl fun K0 V => ?_; simp only [zE, op1, ev, lkp, ag, af, ev, reduceCtorEq, E, D, G, U, J, M, Tryd.td3]; refine V _ ?_; clear V K0; simp only [put, app, Z, ae, zE, zS, D])
 refine ah ?_
 refine hK1 _ ?_; clear hK1; refine ad [0, 2, 3] ?_; simp only [Y, lkp, zE, reduceCtorEq, E, a8, D]
 refine aa fun K2 hK2 => ?_
 refine aa fun K3 hK3 => ?_
 refine ai hP hN rfl ?_
 iterate 3 (refine a9 rfl fun K0 V => ?_; simp only [zE, op1, ev, lkp, ag, af, aF, bC, bm, bg, bh, bB, Nat.div_one, aJ, bi, Ty.size, aG, dite_true, aC, aB, aD, am, aA, aM, reduceCtorEq, E, D, G, U, J, M, Tryd.el25, Tryd.td25, Tryd.td3, Tryd.td4]; (repeat refine And.intro (by first | omega | assumption | exact rfl) ?_); (first | refine V _ ?_ | refine Or.inl (V _ ?_)); clear V K0; simp only [put, app, Z, ae, zE, zS, D])
 (refine a9 rfl fun K0 V => ?_; simp only [zE, op1, ev, lkp, ag, af, ev, reduceCtorEq, E, D, G, U, J, M, Tryd.td4]; refine V _ ?_; clear V K0; simp only [put, app, Z, ae, zE, zS, D])
 refine' aV (want := false) 3 rfl (m := 9) (by simp only [Y, lkp, zE, reduceCtorEq, E, a8, D]; exact rfl) (by kernel_rfl) rfl rfl rfl rfl rfl (fun hg4 => ?a4) ?b4 ?c4
 case a4 =>
  have hq4 := hg4; (try simp only [zB, reduceCtorEq] at hg4); simp only [List.take_succ_cons, List.take_zero, List.cons_append, List.nil_append]
  (refine aq rfl fun K0 V => ?_; simp only [zE, op1, ev, lkp, ag, af, ev, reduceCtorEq, E, D, G, U, J, M, Tryd.el25, Tryd.td25]; refine V _ ?_; clear V K0; simp only [put, app, Z, ae, zE, zS, D])
  (refine aq rfl fun K0 V => ?_; simp only [zE, op1, ev, lkp, ag, af, aF, bC, bm, bg, bh, bB, Nat.div_one, aJ, bi, Ty.size, aG, dite_true, reduceCtorEq, E, D, G, U, J, M, Tryd.el25, Tryd.td25, Tryd.td3]; (repeat refine And.intro (by first | omega | assumption | exact rfl) ?_); (first | refine V _ ?_ | refine Or.inl (V _ ?_)); clear V K0; simp only [put, app, Z, ae, zE, zS, D])
  (refine aq rfl fun K0 V => ?_; simp only [zE, op1, ev, lkp, ag, af, aC, aB, aD, am, aA, aM, reduceCtorEq, E, D, G, U, J, M, Tryd.td3, Tryd.td4]; (repeat refine And.intro (by first | omega | assumption | exact rfl) ?_); refine V _ ?_; clear V K0; simp only [put, app, Z, ae, zE, zS, D])
  (refine a9 rfl fun K0 V => ?_; simp only [zE, op1, ev, lkp, ag, af, bo, reduceCtorEq, E, D, G, U, J, M, Tryd.td4]; refine V _ ?_; clear V K0; simp only [put, app, Z, ae, zE, zS, D])
  refine ah ?_
  refine ⟨by simp only [Y, lkp, zE, reduceCtorEq, E, a8, D]; exact rfl, rfl, ?_, rfl⟩; (repeat refine aU rfl ?_); exact bu (by exact rfl) hq4
 case b4 => exact br (by first | rfl | (simp [bT]; done) | decide)
 simp only [bf, b9]
 refine ah ?_
 refine hK3 _ ?_; clear hK3; refine ad [0, 2, 3, 13] ?_; simp only [Y, lkp, zE, reduceCtorEq, E, a8, D]
 refine aE (by simp only [ev, Y, lkp, zE, reduceCtorEq, E, a8, D]; exact rfl) (fun hc5 => ?_) (fun hc5 => ?_)
 ·(try simp only [zB, reduceCtorEq] at hc5)
  refine aa fun K6 hK6 => ?_
  refine ai hP hN rfl ?_
  iterate 2 (refine a9 rfl fun K0 V => ?_; simp only [zE, op1, ev, lkp, ag, af, ev, reduceCtorEq, E, D, G, U, J, M, Tryd.td3]; refine V _ ?_; clear V K0; simp only [put, app, Z, ae, zE, zS, D])
  refine ah ?_
  refine hK6 _ ?_; clear hK6; refine ad [0, 2, 3, 13] ?_; simp only [Y, lkp, zE, reduceCtorEq, E, a8, D]
  refine aH ?_
  refine ⟨by first | exact .inl rfl | exact .inr rfl, _, rfl, ?_⟩; simp only [fzV, fz1, fzC, List.map_cons, List.map_nil, Y, lkp, zE, reduceCtorEq, E, a8, D]
  refine VLE.of_eq ?_
  unfold eh
  first
  | (rw [dm (by omega)]; rfl)
  | (rw [dG (by omega) (k := k) (by omega) (fv (by omega))]; rfl)
  | (have hkl : k = cl.length := by omega
     subst hkl
     rw [ee (by omega) hq]; rfl)
 ·(try simp only [zB, reduceCtorEq] at hc5)
  refine aI ?_
  refine hK2 _ ?_; clear hK2; refine ad [0, 2, 3, 13] ?_; simp only [Y, lkp, zE, reduceCtorEq, E, a8, D]
  refine aa fun K7 hK7 => ?_
  refine ai hP hN rfl ?_
  (refine a9 rfl fun K0 V => ?_; simp only [zE, op1, ev, lkp, ag, af, ev, reduceCtorEq, E, D, G, U, J, M, Tryd.td3]; refine V _ ?_; clear V K0; simp only [put, app, Z, ae, zE, zS, D])
  refine ah ?_
  refine hK7 _ ?_; clear hK7; refine ad [0, 2, 3, 4, 13] ?_; simp only [Y, lkp, zE, reduceCtorEq, E, a8, D]
  refine aa fun K8 hK8 => ?_
  refine aa fun K9 hK9 => ?_
  refine ai hP hN rfl ?_
  (refine a9 rfl fun K0 V => ?_; simp only [zE, op1, ev, lkp, ag, af, ev, reduceCtorEq, E, D, G, U, J, M, Tryd.td3]; refine V _ ?_; clear V K0; simp only [put, app, Z, ae, zE, zS, D])
  refine ah ?_
  refine hK9 _ ?_; clear hK9; refine ad [0, 2, 3, 4, 5, 13] ?_; simp only [Y, lkp, zE, reduceCtorEq, E, a8, D]
  refine aW ?_
  refine bK (fun n10 s10 => ∃ (k : Nat), (k ≤ cl.length) ∧ (∀ q, q < k → dt cl q = false) ∧ n10 = cl.length - k ∧ s10 = { env := [(0, .one (.list (.int .i64) cl)), (4, .one (.int .i64 (cN cl k))), (5, .one (.int .i64 (k : Int)))], L := [] }) ?_ ?_
  ·refine ⟨_, _, aY [0, 4, 5], 0, Nat.zero_le _, fun q hq => by omega, rfl, rfl⟩
  ·rintro n10 s10 ⟨k, hk, hq, rfl, rfl⟩
   refine aa fun K11 hK11 => ?_
   refine aa fun K12 hK12 => ?_
   refine ai hP hN rfl ?_
   iterate 4 (refine a9 rfl fun K0 V => ?_; simp only [zE, op1, ev, lkp, ag, af, aF, bC, bm, bg, bh, bB, Nat.div_one, aJ, bi, Ty.size, aG, dite_true, aC, aB, aD, am, aA, aM, reduceCtorEq, E, D, G, U, J, M, Tryd.el25, Tryd.td25, Tryd.td3, Tryd.td4]; (repeat refine And.intro (by first | omega | assumption | exact rfl) ?_); (first | refine V _ ?_ | refine Or.inl (V _ ?_)); clear V K0; simp only [put, app, Z, ae, zE, zS, D])
   refine ah ?_
   refine hK12 _ ?_; clear hK12; refine ad [0, 4, 5, 17] ?_; simp only [Y, lkp, zE, reduceCtorEq, E, a8, D]
   refine aE (by simp only [ev, Y, lkp, zE, reduceCtorEq, E, a8, D]; exact rfl) (fun hc13 => ?_) (fun hc13 => ?_)
   ·(try simp only [zB, reduceCtorEq] at hc13)
    refine aI ?_
    refine hK11 _ ?_; clear hK11; refine ad [0, 4, 5, 17] ?_; simp only [Y, lkp, zE, reduceCtorEq, E, a8, D]
    refine aa fun K14 hK14 => ?_
    refine aW ?_
    refine aa fun K15 hK15 => ?_
    refine aa fun K16 hK16 => ?_
    refine ai hP hN rfl ?_
    iterate 5 (refine a9 rfl fun K0 V => ?_; simp only [zE, op1, ev, lkp, ag, af, aK, zG, Ty.dflt, Ty.size, Nat.mul_one, ne_eq, not_false_eq_true, Int.natCast_one, Int.mul_one, az, ax, ay, acs, ao, aC, aB, aD, am, aA, aM, reduceCtorEq, E, D, G, U, J, M, Tryd.el25, Tryd.td25, Tryd.td3, Tryd.td4]; (repeat refine And.intro (by first | omega | assumption | exact rfl) ?_); refine V _ ?_; clear V K0; simp only [put, app, Z, ae, zE, zS, D])
    (refine a9 rfl fun K0 V => ?_; simp only [zE, op1, ev, lkp, ag, af, ev, reduceCtorEq, E, D, G, U, J, M, Tryd.td4]; refine V _ ?_; clear V K0; simp only [put, app, Z, ae, zE, zS, D])
    refine' aV (want := false) 6 rfl (m := 25) (by simp only [Y, lkp, zE, reduceCtorEq, E, a8, D]; exact rfl) (by kernel_rfl) rfl rfl rfl rfl rfl (fun hg17 => ?a17) ?b17 ?c17
    case a17 =>
     have hq17 := hg17; (try simp only [zB, reduceCtorEq] at hg17); simp only [List.take_succ_cons, List.take_zero, List.cons_append, List.nil_append]
     (refine aq rfl fun K0 V => ?_; simp only [zE, op1, ev, lkp, ag, af, ev, reduceCtorEq, E, D, G, U, J, M, Tryd.el25, Tryd.td25]; refine V _ ?_; clear V K0; simp only [put, app, Z, ae, zE, zS, D])
     (refine aq rfl fun K0 V => ?_; simp only [zE, op1, ev, lkp, ag, af, ev, reduceCtorEq, E, D, G, U, J, M, Tryd.td3]; refine V _ ?_; clear V K0; simp only [put, app, Z, ae, zE, zS, D])
     (refine aq rfl fun K0 V => ?_; simp only [zE, op1, ev, lkp, ag, af, aK, zG, Ty.dflt, Ty.size, Nat.mul_one, ne_eq, not_false_eq_true, Int.natCast_one, Int.mul_one, reduceCtorEq, E, D, G, U, J, M, Tryd.el25, Tryd.td25]; (repeat refine And.intro (by first | omega | assumption | exact rfl) ?_); refine V _ ?_; clear V K0; simp only [put, app, Z, ae, zE, zS, D])
     (refine aq rfl fun K0 V => ?_; simp only [zE, op1, ev, lkp, ag, af, az, Nat.mul_one, ax, ay, acs, Ty.dflt, zG, ao, reduceCtorEq, E, D, G, U, J, M, Tryd.td3]; (repeat refine And.intro (by first | omega | assumption | exact rfl) ?_); refine V _ ?_; clear V K0; simp only [put, app, Z, ae, zE, zS, D])
     (refine aq rfl fun K0 V => ?_; simp only [zE, op1, ev, lkp, ag, af, ev, reduceCtorEq, E, D, G, U, J, M, Tryd.td3]; refine V _ ?_; clear V K0; simp only [put, app, Z, ae, zE, zS, D])
     (refine aq rfl fun K0 V => ?_; simp only [zE, op1, ev, lkp, ag, af, aC, aB, aD, am, aA, aM, reduceCtorEq, E, D, G, U, J, M, Tryd.td3, Tryd.td4]; (repeat refine And.intro (by first | omega | assumption | exact rfl) ?_); refine V _ ?_; clear V K0; simp only [put, app, Z, ae, zE, zS, D])
     (refine a9 rfl fun K0 V => ?_; simp only [zE, op1, ev, lkp, ag, af, bo, reduceCtorEq, E, D, G, U, J, M, Tryd.td4]; refine V _ ?_; clear V K0; simp only [put, app, Z, ae, zE, zS, D])
     refine ah ?_
     refine ⟨by simp only [Y, lkp, zE, reduceCtorEq, E, a8, D]; exact rfl, rfl, ?_, rfl⟩; (repeat refine aU rfl ?_); exact bu (by exact rfl) hq17
    case b17 => exact br (by first | rfl | (simp [bT]; done) | decide)
    simp only [bf, b9]
    refine ah ?_
    refine hK16 _ ?_; clear hK16; refine ad [0, 4, 5, 17, 32] ?_; simp only [Y, lkp, zE, reduceCtorEq, E, a8, D]
    refine aE (by simp only [ev, Y, lkp, zE, reduceCtorEq, E, a8, D]; exact rfl) (fun hc18 => ?_) (fun hc18 => ?_)
    ·(try simp only [zB, reduceCtorEq] at hc18)
     refine aa fun K19 hK19 => ?_
     refine ai hP hN rfl ?_
     iterate 2 (refine a9 rfl fun K0 V => ?_; simp only [zE, op1, ev, lkp, ag, af, ev, reduceCtorEq, E, D, G, U, J, M, Tryd.td3]; refine V _ ?_; clear V K0; simp only [put, app, Z, ae, zE, zS, D])
     refine ah ?_
     refine hK19 _ ?_; clear hK19; refine ad [0, 2, 3, 4, 5, 17, 32] ?_; simp only [Y, lkp, zE, reduceCtorEq, E, a8, D]
     refine aH ?_
     refine ⟨by first | exact .inl rfl | exact .inr rfl, _, rfl, ?_⟩; simp only [fzV, fz1, fzC, List.map_cons, List.map_nil, Y, lkp, zE, reduceCtorEq, E, a8, D]
     refine VLE.of_eq ?_
     unfold eh
     first
     | (rw [dm (by omega)]; rfl)
     | (rw [dG (by omega) (k := k) (by omega) (fv (by omega))]; rfl)
     | (have hkl : k = cl.length := by omega
        subst hkl
        rw [ee (by omega) hq]; rfl)
    ·(try simp only [zB, reduceCtorEq] at hc18)
     refine aI ?_
     refine hK15 _ ?_; clear hK15; refine ad [0, 4, 5, 17, 32] ?_; simp only [Y, lkp, zE, reduceCtorEq, E, a8, D]
     refine aa fun K20 hK20 => ?_
     have hcnb := iJ hq
     refine ai hP hN rfl ?_
     iterate 6 (refine a9 rfl fun K0 V => ?_; simp only [zE, op1, ev, lkp, ag, af, aK, zG, Ty.dflt, Ty.size, Nat.mul_one, ne_eq, not_false_eq_true, Int.natCast_one, Int.mul_one, az, ax, ay, acs, ao, aC, aB, aD, am, aA, aM, reduceCtorEq, E, D, G, U, J, M, Tryd.el25, Tryd.td25, Tryd.td3, Tryd.td4]; (repeat refine And.intro (by first | omega | assumption | exact rfl) ?_); refine V _ ?_; clear V K0; simp only [put, app, Z, ae, zE, zS, D])
     refine ah ?_
     refine hK20 _ ?_; clear hK20; refine ad [0, 4, 5, 17, 32, 38] ?_; simp only [Y, lkp, zE, reduceCtorEq, E, a8, D]
     refine aE (by simp only [ev, Y, lkp, zE, reduceCtorEq, E, a8, D]; exact rfl) (fun hc21 => ?_) (fun hc21 => ?_)
     ·(try simp only [zB, reduceCtorEq] at hc21)
      refine ai hP hN rfl ?_
      iterate 3 (refine a9 rfl fun K0 V => ?_; simp only [zE, op1, ev, lkp, ag, af, aC, aB, aD, am, aA, aM, reduceCtorEq, E, D, G, U, J, M, Tryd.td3]; (repeat refine And.intro (by first | omega | assumption | exact rfl) ?_); refine V _ ?_; clear V K0; simp only [put, app, Z, ae, zE, zS, D])
      refine ah ?_
      refine hK14 _ ?_; clear hK14; refine ad [0, 4, 5, 17, 32, 38] ?_; simp only [Y, lkp, zE, reduceCtorEq, E, a8, D]
      refine ai hP hN rfl ?_
      iterate 3 (refine a9 rfl fun K0 V => ?_; simp only [zE, op1, ev, lkp, ag, af, aC, aB, aD, am, aA, aM, reduceCtorEq, E, D, G, U, J, M, Tryd.td3]; (repeat refine And.intro (by first | omega | assumption | exact rfl) ?_); refine V _ ?_; clear V K0; simp only [put, app, Z, ae, zE, zS, D])
      refine ah ?_
      have hbk : dt cl k = false := iS (by omega) (by omega)
      have hcn := iJ hq
      refine ⟨_, _, ?_, aY [0, 4, 5], k + 1, by omega, fun q hq2 => ?_, rfl, ?_⟩
      · omega
      · by_cases e : q = k
        · rw [e]; exact hbk
        · exact hq q (by omega)
      · first | rfl | (simp only [cN]; first | (rw [show max (cN cl k) (cl.getD k 0 + 1) = cN cl k + 1 by omega]; rfl) | (rw [show max (cN cl k) (cl.getD k 0 + 1) = cN cl k by omega]; rfl) | rfl)
     ·(try simp only [zB, reduceCtorEq] at hc21)
      refine aI ?_
      refine hK14 _ ?_; clear hK14; refine ad [0, 4, 5, 17, 32, 38] ?_; simp only [Y, lkp, zE, reduceCtorEq, E, a8, D]
      refine ai hP hN rfl ?_
      iterate 3 (refine a9 rfl fun K0 V => ?_; simp only [zE, op1, ev, lkp, ag, af, aC, aB, aD, am, aA, aM, reduceCtorEq, E, D, G, U, J, M, Tryd.td3]; (repeat refine And.intro (by first | omega | assumption | exact rfl) ?_); refine V _ ?_; clear V K0; simp only [put, app, Z, ae, zE, zS, D])
      refine ah ?_
      have hbk : dt cl k = false := iS (by omega) (by omega)
      have hcn := iJ hq
      refine ⟨_, _, ?_, aY [0, 4, 5], k + 1, by omega, fun q hq2 => ?_, rfl, ?_⟩
      · omega
      · by_cases e : q = k
        · rw [e]; exact hbk
        · exact hq q (by omega)
      · first | rfl | (simp only [cN]; first | (rw [show max (cN cl k) (cl.getD k 0 + 1) = cN cl k + 1 by omega]; rfl) | (rw [show max (cN cl k) (cl.getD k 0 + 1) = cN cl k by omega]; rfl) | rfl)
   ·(try simp only [zB, reduceCtorEq] at hc13)
    refine bM ?_
    refine hK8 _ ?_; clear hK8; refine ad [0, 4, 5, 17] ?_; simp only [Y, lkp, zE, reduceCtorEq, E, a8, D]
    refine aa fun K22 hK22 => ?_
    refine ai hP hN rfl ?_
    iterate 3 (refine a9 rfl fun K0 V => ?_; simp only [zE, op1, ev, lkp, ag, af, ev, reduceCtorEq, E, D, G, U, J, M, Tryd.td3]; refine V _ ?_; clear V K0; simp only [put, app, Z, ae, zE, zS, D])
    refine ah ?_
    refine hK22 _ ?_; clear hK22; refine ad [0, 2, 3, 4, 5, 17] ?_; simp only [Y, lkp, zE, reduceCtorEq, E, a8, D]
    refine aH ?_
    refine ⟨by first | exact .inl rfl | exact .inr rfl, _, rfl, ?_⟩; simp only [fzV, fz1, fzC, List.map_cons, List.map_nil, Y, lkp, zE, reduceCtorEq, E, a8, D]
    refine VLE.of_eq ?_
    unfold eh
    first
    | (rw [dm (by omega)]; rfl)
    | (rw [dG (by omega) (k := k) (by omega) (fv (by omega))]; rfl)
    | (have hkl : k = cl.length := by omega
       subst hkl
       rw [ee (by omega) hq]; rfl)
end Go.Proofs.YtgmgnkmgofkfpaaDoor
namespace Go.Proofs.YtgmgnkmgofkfpaaDoor
open Go Go.AV
open Nat renaming reduceEqDiff → E, reduceAdd → D, reduceLeDiff → G, reduceLT → U, reduceMul → J, reduceSub → M
open List renaming set_cons_zero → aw, set_cons_succ → au
set_option maxRecDepth 100000 in
theorem pP (ls : List (List Int)) (hb : ls.flatten.length ≤ 1000000) : cf Tryd.prog 32 [.one (.list (.list (.int .i64)) ls)] (.one (.list (.int .i64) ls.flatten)) := by
 refine bp Tryd.func32 rfl (by kernel_rfl) (Nat.le_of_ble_eq_true rfl) rfl fun C hP hN hB => ?_
 replace hN : C.N = 18 := hN
 simp only [a8, D]
 refine gq 0 rfl fun hf0 => ?_; simp only [lkp, if_true, if_false, reduceCtorEq, E, eq_self, Nat.one_ne_zero, Nat.zero_ne_one, km, j3, jx, Fit, and_true, implies_true, true_and] at hf0
 refine aa fun K1 hK1 => ?_
 refine ai hP hN rfl ?_
 (refine a9 rfl fun K0 V => ?_; simp only [zE, op1, ev, lkp, ag, af, ev, reduceCtorEq, E, D, G, U, J, M, Tryd.el25, Tryd.td25]; refine V _ ?_; clear V K0; simp only [put, app, Z, ae, zE, zS, D])
 refine ah ?_
 refine hK1 _ ?_; clear hK1; refine ad [0, 2] ?_; simp only [Y, lkp, zE, reduceCtorEq, E, a8, D]
 refine aa fun K2 hK2 => ?_
 refine ai hP hN rfl ?_
 (refine a9 rfl fun K0 V => ?_; simp only [zE, op1, ev, lkp, ag, af, ev, reduceCtorEq, E, D, G, U, J, M, Tryd.el25, Tryd.td25]; refine V _ ?_; clear V K0; simp only [put, app, Z, ae, zE, zS, D])
 refine ah ?_
 refine hK2 _ ?_; clear hK2; refine ad [0, 2, 3] ?_; simp only [Y, lkp, zE, reduceCtorEq, E, a8, D]
 refine aa fun K3 hK3 => ?_
 refine aa fun K4 hK4 => ?_
 refine ai hP hN rfl ?_
 (refine a9 rfl fun K0 V => ?_; simp only [zE, op1, ev, lkp, ag, af, ev, reduceCtorEq, E, D, G, U, J, M, Tryd.td3]; refine V _ ?_; clear V K0; simp only [put, app, Z, ae, zE, zS, D])
 refine ah ?_
 refine hK4 _ ?_; clear hK4; refine ad [0, 2, 3, 4] ?_; simp only [Y, lkp, zE, reduceCtorEq, E, a8, D]
 refine aW ?_
 refine d4 3 (.int .i64) 3 (by decide) rfl ?_; simp only [List.length_cons, List.length_nil, List.cons_append, List.nil_append, Nat.zero_add, D]
 refine bK (fun n5 s5 => ∃ (k : Nat) (v : Nat), (k ≤ ls.length) ∧ n5 = ls.length - k ∧ s5 = { env := [(0, .one (.list (.list (.int .i64)) ls)), (3, .one (.row 0 v)), (4, .one (.int .i64 (k : Int)))], L := [.row (.int .i64) 3 v (ls.take k).flatten] }) ?_ ?_
 ·exact ⟨_, _, aY [0, 3, 4], 0, 0, Nat.zero_le _, rfl, rfl⟩
 ·rintro n5 s5 ⟨k, v, hk, rfl, rfl⟩
  refine aa fun K6 hK6 => ?_
  refine aa fun K7 hK7 => ?_
  refine ai hP hN rfl ?_
  iterate 4 (refine a9 rfl fun K0 V => ?_; simp only [zE, op1, ev, lkp, ag, af, aF, bC, bm, bg, bh, bB, Nat.div_one, aJ, bi, Ty.size, aG, dite_true, aC, aB, aD, am, aA, aM, reduceCtorEq, E, D, G, U, J, M, Tryd.el22, Tryd.td22, Tryd.td3, Tryd.td4]; (repeat refine And.intro (by first | omega | assumption | exact rfl) ?_); (first | refine V _ ?_ | refine Or.inl (V _ ?_)); clear V K0; simp only [put, app, Z, ae, zE, zS, D])
  refine ah ?_
  refine hK7 _ ?_; clear hK7; refine ad [0, 3, 4, 8] ?_; simp only [Y, lkp, zE, reduceCtorEq, E, a8, D]
  refine aE (by simp only [ev, Y, lkp, zE, reduceCtorEq, E, a8, D]; exact rfl) (fun hc8 => ?_) (fun hc8 => ?_)
  ·(try simp only [zB, reduceCtorEq] at hc8)
   refine aI ?_
   refine hK6 _ ?_; clear hK6; refine ad [0, 3, 4, 8] ?_; simp only [Y, lkp, zE, reduceCtorEq, E, a8, D]
   refine aa fun K9 hK9 => ?_
   refine aW ?_
   have hfl := dq ls (k + 1); rw [cH ls (by omega), List.length_append] at hfl
   refine ai hP hN rfl ?_
   iterate 7 (refine a9 rfl fun K0 V => ?_; simp only [zE, op1, ev, lkp, ag, af, aK, zG, Ty.dflt, Ty.size, Nat.mul_one, ne_eq, not_false_eq_true, Int.natCast_one, Int.mul_one, az, ax, ay, acs, ao, aF, bC, bm, bg, bh, bB, Nat.div_one, aJ, bi, aG, dite_true, reduceCtorEq, E, D, G, U, J, M, Tryd.el22, Tryd.el25, Tryd.td22, Tryd.td25, Tryd.td3]; (repeat refine And.intro (by first | omega | assumption | exact rfl) ?_); (first | refine V _ ?_ | refine Or.inl (V _ ?_)); clear V K0; simp only [put, app, Z, ae, zE, zS, D])
   refine ah ?_
   refine hK9 _ ?_; clear hK9; refine ad [0, 3, 4, 8] ?_; simp only [Y, lkp, zE, reduceCtorEq, E, a8, D]
   refine ai hP hN rfl ?_
   iterate 3 (refine a9 rfl fun K0 V => ?_; simp only [zE, op1, ev, lkp, ag, af, aC, aB, aD, am, aA, aM, reduceCtorEq, E, D, G, U, J, M, Tryd.td3]; (repeat refine And.intro (by first | omega | assumption | exact rfl) ?_); refine V _ ?_; clear V K0; simp only [put, app, Z, ae, zE, zS, D])
   refine ah ?_
   refine ⟨_, _, ?_, aY [0, 3, 4], k + 1, v + 1, by omega, rfl, ?_⟩
   · omega
   · rw [cH ls (by omega)]; rfl
  ·(try simp only [zB, reduceCtorEq] at hc8)
   refine bM ?_
   refine hK3 _ ?_; clear hK3; refine ad [0, 3, 4, 8] ?_; simp only [Y, lkp, zE, reduceCtorEq, E, a8, D]
   refine aa fun K10 hK10 => ?_
   refine ai hP hN rfl ?_
   iterate 2 (refine a9 rfl fun K0 V => ?_; simp only [zE, op1, ev, lkp, ag, af, ev, reduceCtorEq, E, D, G, U, J, M, Tryd.el25, Tryd.td25]; refine V _ ?_; clear V K0; simp only [put, app, Z, ae, zE, zS, D])
   refine ah ?_
   refine hK10 _ ?_; clear hK10; refine ad [0, 2, 3, 4, 8] ?_; simp only [Y, lkp, zE, reduceCtorEq, E, a8, D]
   refine aH ?_
   refine ⟨by first | exact .inl rfl | exact .inr rfl, _, rfl, ?_⟩; simp only [fzV, fz1, fzC, List.map_cons, List.map_nil, Y, lkp, zE, reduceCtorEq, E, a8, D]
   refine VLE.of_eq ?_
   have htk : ls.take k = ls := by rw [show k = ls.length by omega, List.take_length]
   rw [htk]; try simp
end Go.Proofs.YtgmgnkmgofkfpaaDoor
namespace Go.Proofs.YtgmgnkmgofkfpaaDoor
open Go Go.AV
open Nat renaming reduceEqDiff → E, reduceAdd → D, reduceLeDiff → G, reduceLT → U, reduceMul → J, reduceSub → M
open List renaming set_cons_zero → aw, set_cons_succ → au
set_option maxRecDepth 100000 in
theorem oM (cl : List Int) : cf Tryd.prog 10 [.one (.list (.int .i64) cl)] (.tup [(cM cl).av, .one (.int .i64 (cL cl))]) := by
 refine bp Tryd.func10 rfl (by kernel_rfl) (Nat.le_of_ble_eq_true rfl) rfl fun C hP hN hB => ?_
 replace hN : C.N = 27 := hN
 simp only [a8, D]
 refine aa fun K1 hK1 => ?_
 refine ai hP hN rfl ?_
 iterate 2 (refine a9 rfl fun K0 V => ?_; simp only [zE, op1, ev, lkp, ag, af, cg, reduceCtorEq, E, D, G, U, J, M, Tryd.st24, Tryd.td24, Tryd.td3, Mpr.av]; (repeat refine And.intro (by first | omega | assumption | exact rfl) ?_); (first | refine V _ ?_ | refine Or.inl (V _ ?_)); clear V K0; simp only [put, app, Z, ae, zE, zS, D])
 refine ah ?_
 refine hK1 _ ?_; clear hK1; refine ad [0, 2, 3] ?_; simp only [Y, lkp, zE, reduceCtorEq, E, a8, D]
 refine aa fun K2 hK2 => ?_
 refine ai hP hN rfl ?_
 (refine a9 rfl fun K0 V => ?_; simp only [zE, op1, ev, lkp, ag, af, ev, reduceCtorEq, E, D, G, U, J, M, Tryd.el25, Tryd.td25, Mpr.av]; refine V _ ?_; clear V K0; simp only [put, app, Z, ae, zE, zS, D])
 refine a9 rfl fun K0 V => ?_
 refine aX (h := aL (pb cl)) rfl rfl (by first | exact rfl | (simp only [ev, Y, lkp, zE, reduceCtorEq, E, a8, D]; exact rfl)) (by simp only [zE, zG, op1, ev, lkp, ag, af, ar, acs, bj, mv1, mvC, Ty.dflt, reduceCtorEq, E, D, G, U, J, M, Mpr.av]) ?_
 refine V _ ?_; clear V K0; simp only [put, app, Z, ae, zE, zS, D]
 iterate 5 (refine a9 rfl fun K0 V => ?_; simp only [zE, op1, ev, lkp, ag, af, bQ, reduceCtorEq, E, D, G, U, J, M, Tryd.td1, Tryd.td3, Mpr.av]; refine V _ ?_; clear V K0; simp only [put, app, Z, ae, zE, zS, D])
 refine ah ?_
 refine hK2 _ ?_; clear hK2; refine ad [0, 2, 3, 4, 5] ?_; simp only [Y, lkp, zE, reduceCtorEq, E, a8, D]
 refine aa fun K3 hK3 => ?_
 refine aa fun K4 hK4 => ?_
 refine ai hP hN rfl ?_
 iterate 2 (refine a9 rfl fun K0 V => ?_; simp only [zE, op1, ev, lkp, ag, af, aC, aB, aD, am, aA, aM, reduceCtorEq, E, D, G, U, J, M, Tryd.td3, Tryd.td4, Mpr.av]; (repeat refine And.intro (by first | omega | assumption | exact rfl) ?_); refine V _ ?_; clear V K0; simp only [put, app, Z, ae, zE, zS, D])
 refine ah ?_
 refine hK4 _ ?_; clear hK4; refine ad [0, 2, 3, 4, 5, 12] ?_; simp only [Y, lkp, zE, reduceCtorEq, E, a8, D]
 refine aE (by simp only [ev, Y, lkp, zE, reduceCtorEq, E, a8, D]; exact rfl) (fun hc5 => ?_) (fun hc5 => ?_)
 ·(try simp only [zB, reduceCtorEq] at hc5)
  refine aa fun K6 hK6 => ?_
  refine ai hP hN rfl ?_
  iterate 4 (refine a9 rfl fun K0 V => ?_; simp only [zE, op1, ev, lkp, ag, af, ci, bc, aQ, ar, bH, Nat.mul_one, aG, acs, Ty.size, Ty.dflt, zG, reduceCtorEq, E, D, G, U, J, M, Tryd.st24, Tryd.td24, Tryd.td3, Mpr.av]; (repeat refine And.intro (by first | omega | assumption | exact rfl) ?_); (first | refine V _ ?_ | refine Or.inl (V _ ?_)); clear V K0; simp only [put, app, Z, ae, zE, zS, D])
  refine ah ?_
  refine hK6 _ ?_; clear hK6; refine ad [0, 2, 3, 4, 5, 12] ?_; simp only [Y, lkp, zE, reduceCtorEq, E, a8, D]
  refine aH ?_
  refine ⟨by first | exact .inl rfl | exact .inr rfl, _, rfl, ?_⟩; simp only [fzV, fz1, fzC, List.map_cons, List.map_nil, Y, lkp, zE, reduceCtorEq, E, a8, D, Mpr.av]
  first
  | (have e2 : cM cl = gJ := if_neg (by assumption)
     rw [e2]; exact bt ⟨bb ⟨.refl _, .refl _, .refl _, aP rfl, aP rfl, trivial⟩, aT (.refl _), trivial⟩)
  | (have e1 : cL cl = 0 := by assumption
     have e2 : cM cl = ⟨cl.length, eh cl, 0, [List.replicate cl.length 0], [cl]⟩ := if_pos e1
     rw [e1, e2]; simp only [List.flatten_cons, List.flatten_nil, List.append_nil]; exact VLE.of_eq rfl)
 ·(try simp only [zB, reduceCtorEq] at hc5)
  refine aI ?_
  refine hK3 _ ?_; clear hK3; refine ad [0, 2, 3, 4, 5, 12] ?_; simp only [Y, lkp, zE, reduceCtorEq, E, a8, D]
  refine aa fun K7 hK7 => ?_
  have hcz := (jo (cl := cl) (by assumption)).1
  refine c0 hP hN Tryd.mixed rfl ?_
  iterate 5 (refine a9 rfl fun K0 V => ?_; simp only [zE, op1, ev, lkp, ag, af, aF, bC, bm, bg, bh, bB, Nat.div_one, aJ, bi, Ty.size, aG, dite_true, reduceCtorEq, E, D, G, U, J, M, Tryd.el25, Tryd.td25, Tryd.td3, Mpr.av]; (repeat refine And.intro (by first | omega | assumption | exact rfl) ?_); (first | refine V _ ?_ | refine Or.inl (V _ ?_)); clear V K0; simp only [put, app, Z, ae, zE, zS, D])
  (refine a9 rfl fun K0 V => ?_; simp only [zE, op1, ev, lkp, ag, af, cB, aG, Ty.size, Ty.dflt, reduceCtorEq, E, D, G, U, J, M, Tryd.el25, Tryd.td25, Mpr.av]; (repeat refine And.intro (by first | omega | assumption | exact rfl) ?_); refine Or.inr (Or.inr (V _ ?_)); clear V K0; simp only [put, app, Z, ae, zE, zS, D])
  iterate 3 (refine a9 rfl fun K0 V => ?_; simp only [zE, op1, ev, lkp, ag, af, aZ, bc, bP, rep, aG, aQ, ar, Ty.size, reduceCtorEq, E, D, G, U, J, M, Tryd.el22, Tryd.el25, Tryd.td1, Tryd.td22, Tryd.td25, Mpr.av]; (repeat refine And.intro (by first | omega | assumption | exact rfl) ?_); (first | refine V _ ?_ | refine Or.inl (V _ ?_)); clear V K0; simp only [put, app, Z, ae, zE, zS, D])
  refine a9 rfl fun K0 V => ?_
  refine aX (h := aL (pP [cl] (by have := (jo (cl := cl) (by assumption)).1; simp; omega))) rfl rfl (by first | exact rfl | (simp only [ev, Y, lkp, zE, reduceCtorEq, E, a8, D]; exact rfl)) (by simp only [zE, zG, op1, ev, lkp, ag, af, ar, acs, bj, mv1, mvC, Ty.dflt, reduceCtorEq, E, D, G, U, J, M, Mpr.av]) ?_
  refine V _ ?_; clear V K0; simp only [put, app, Z, ae, zE, zS, D]
  iterate 4 (refine a9 rfl fun K0 V => ?_; simp only [zE, op1, ev, lkp, ag, af, aZ, bc, bP, rep, aG, aQ, ar, Ty.size, ci, bH, Nat.mul_one, acs, Ty.dflt, zG, reduceCtorEq, E, D, G, U, J, M, Tryd.el22, Tryd.st24, Tryd.td1, Tryd.td22, Tryd.td24, Tryd.td3, Mpr.av]; (repeat refine And.intro (by first | omega | assumption | exact rfl) ?_); (first | refine V _ ?_ | refine Or.inl (V _ ?_)); clear V K0; simp only [put, app, Z, ae, zE, zS, D])
  refine ah ?_
  refine ⟨by kernel_rfl, ?_⟩
  refine hK7 _ ?_; clear hK7; refine ad [0, 2, 3, 4, 5, 12] ?_; simp only [Y, lkp, zE, reduceCtorEq, E, a8, D]
  refine aH ?_
  refine ⟨by first | exact .inl rfl | exact .inr rfl, _, rfl, ?_⟩; simp only [fzV, fz1, fzC, List.map_cons, List.map_nil, Y, lkp, zE, reduceCtorEq, E, a8, D, Mpr.av]
  first
  | (have e2 : cM cl = gJ := if_neg (by assumption)
     rw [e2]; exact bt ⟨bb ⟨.refl _, .refl _, .refl _, aP rfl, aP rfl, trivial⟩, aT (.refl _), trivial⟩)
  | (have e1 : cL cl = 0 := by assumption
     have e2 : cM cl = ⟨cl.length, eh cl, 0, [List.replicate cl.length 0], [cl]⟩ := if_pos e1
     rw [e1, e2]; simp only [List.flatten_cons, List.flatten_nil, List.append_nil]; exact VLE.of_eq rfl)
end Go.Proofs.YtgmgnkmgofkfpaaDoor
namespace Go.Proofs.YtgmgnkmgofkfpaaDoor
open Go Go.AV
open Nat renaming reduceEqDiff → E, reduceAdd → D, reduceLeDiff → G, reduceLT → U, reduceMul → J, reduceSub → M
open List renaming set_cons_zero → aw, set_cons_succ → au
set_option maxRecDepth 100000 in
theorem pz (p : Mpr) (k : Nat) (hk : k < p.nx.length) (hs : p.sy.length = p.nx.length) (h1 : p.inp ≤ 64) : cf Tryd.prog 33 [p.av, .one (.int .i64 (k : Int))] (.one (.int .i64 (fg p k))) := by
 refine bp Tryd.func33 rfl (by kernel_rfl) (Nat.le_of_ble_eq_true rfl) rfl fun C hP hN hB => ?_
 replace hN : C.N = 79 := hN
 simp only [a8, D]
 refine aa fun K1 hK1 => ?_
 refine ai hP hN rfl ?_
 iterate 2 (refine a9 rfl fun K0 V => ?_; simp only [zE, op1, ev, lkp, ag, af, cQ, ar, reduceCtorEq, E, D, G, U, J, M, Tryd.st24, Tryd.td24, Tryd.td3, Mpr.av, Int.toNat_natCast]; (repeat refine And.intro (by first | omega | assumption | exact rfl) ?_); refine V _ ?_; clear V K0; simp only [put, app, Z, ae, zE, zS, D])
 refine ah ?_
 refine hK1 _ ?_; clear hK1; refine ad [0, 1, 2, 4] ?_; simp only [Y, lkp, zE, reduceCtorEq, E, a8, D]
 refine aa fun K2 hK2 => ?_
 refine aa fun K3 hK3 => ?_
 refine c0 hP hN Tryd.mixed rfl ?_
 iterate 9 (refine a9 rfl fun K0 V => ?_; simp only [zE, op1, ev, lkp, ag, af, ak, az, Nat.mul_one, ax, ay, acs, Ty.dflt, zG, ao, aK, Ty.size, ne_eq, not_false_eq_true, Int.natCast_one, Int.mul_one, aF, bC, bm, bg, bh, bB, Nat.div_one, aJ, bi, aG, dite_true, aC, aB, aD, am, aA, aM, reduceCtorEq, E, D, G, U, J, M, Tryd.el22, Tryd.el25, Tryd.st24, Tryd.td22, Tryd.td24, Tryd.td25, Tryd.td3, Tryd.td4, Mpr.av, Int.toNat_natCast]; (repeat refine And.intro (by first | omega | assumption | exact rfl) ?_); (first | refine V _ ?_ | refine Or.inl (V _ ?_)); clear V K0; simp only [put, app, Z, ae, zE, zS, D])
 (refine a9 rfl fun K0 V => ?_; simp only [zE, op1, ev, lkp, ag, af, ev, reduceCtorEq, E, D, G, U, J, M, Tryd.td4, Mpr.av, Int.toNat_natCast]; refine V _ ?_; clear V K0; simp only [put, app, Z, ae, zE, zS, D])
 refine' aV (want := false) 9 rfl (m := 15) (by simp only [Y, lkp, zE, reduceCtorEq, E, a8, D]; exact rfl) (by kernel_rfl) rfl rfl rfl rfl rfl (fun hg4 => ?a4) ?b4 ?c4
 case a4 =>
  have hq4 := hg4; (try simp only [zB, reduceCtorEq] at hg4); simp only [List.take_succ_cons, List.take_zero, List.cons_append, List.nil_append]
  (refine aq rfl fun K0 V => ?_; simp only [zE, op1, ev, lkp, ag, af, ak, reduceCtorEq, E, D, G, U, J, M, Tryd.st24, Tryd.td24, Tryd.td4, Mpr.av, Int.toNat_natCast]; (repeat refine And.intro (by first | omega | assumption | exact rfl) ?_); refine V _ ?_; clear V K0; simp only [put, app, Z, ae, zE, zS, D])
  (refine aq rfl fun K0 V => ?_; simp only [zE, op1, ev, lkp, ag, af, az, Nat.mul_one, ax, ay, acs, Ty.dflt, zG, ao, reduceCtorEq, E, D, G, U, J, M, Tryd.el22, Tryd.td22, Mpr.av, Int.toNat_natCast]; (repeat refine And.intro (by first | omega | assumption | exact rfl) ?_); refine V _ ?_; clear V K0; simp only [put, app, Z, ae, zE, zS, D])
  (refine aq rfl fun K0 V => ?_; simp only [zE, op1, ev, lkp, ag, af, ev, reduceCtorEq, E, D, G, U, J, M, Tryd.td3, Mpr.av, Int.toNat_natCast]; refine V _ ?_; clear V K0; simp only [put, app, Z, ae, zE, zS, D])
  (refine aq rfl fun K0 V => ?_; simp only [zE, op1, ev, lkp, ag, af, aK, zG, Ty.dflt, Ty.size, Nat.mul_one, ne_eq, not_false_eq_true, Int.natCast_one, Int.mul_one, reduceCtorEq, E, D, G, U, J, M, Tryd.el22, Tryd.td22, Mpr.av, Int.toNat_natCast]; (repeat refine And.intro (by first | omega | assumption | exact rfl) ?_); refine V _ ?_; clear V K0; simp only [put, app, Z, ae, zE, zS, D])
  (refine aq rfl fun K0 V => ?_; simp only [zE, op1, ev, lkp, ag, af, az, Nat.mul_one, ax, ay, acs, Ty.dflt, zG, ao, reduceCtorEq, E, D, G, U, J, M, Tryd.el25, Tryd.td25, Mpr.av, Int.toNat_natCast]; (repeat refine And.intro (by first | omega | assumption | exact rfl) ?_); refine V _ ?_; clear V K0; simp only [put, app, Z, ae, zE, zS, D])
  (refine aq rfl fun K0 V => ?_; simp only [zE, op1, ev, lkp, ag, af, aF, bC, bm, bg, bh, bB, Nat.div_one, aJ, bi, Ty.size, aG, dite_true, reduceCtorEq, E, D, G, U, J, M, Tryd.el25, Tryd.td25, Tryd.td3, Mpr.av, Int.toNat_natCast]; (repeat refine And.intro (by first | omega | assumption | exact rfl) ?_); (first | refine V _ ?_ | refine Or.inl (V _ ?_)); clear V K0; simp only [put, app, Z, ae, zE, zS, D])
  (refine aq rfl fun K0 V => ?_; simp only [zE, op1, ev, lkp, ag, af, ak, reduceCtorEq, E, D, G, U, J, M, Tryd.st24, Tryd.td24, Mpr.av, Int.toNat_natCast]; (repeat refine And.intro (by first | omega | assumption | exact rfl) ?_); refine V _ ?_; clear V K0; simp only [put, app, Z, ae, zE, zS, D])
  (refine aq rfl fun K0 V => ?_; simp only [zE, op1, ev, lkp, ag, af, az, Nat.mul_one, ax, ay, acs, Ty.dflt, zG, ao, reduceCtorEq, E, D, G, U, J, M, Tryd.td3, Mpr.av, Int.toNat_natCast]; (repeat refine And.intro (by first | omega | assumption | exact rfl) ?_); refine V _ ?_; clear V K0; simp only [put, app, Z, ae, zE, zS, D])
  (refine aq rfl fun K0 V => ?_; simp only [zE, op1, ev, lkp, ag, af, aC, aB, aD, am, aA, aM, reduceCtorEq, E, D, G, U, J, M, Tryd.td3, Tryd.td4, Mpr.av, Int.toNat_natCast]; (repeat refine And.intro (by first | omega | assumption | exact rfl) ?_); refine V _ ?_; clear V K0; simp only [put, app, Z, ae, zE, zS, D])
  (refine a9 rfl fun K0 V => ?_; simp only [zE, op1, ev, lkp, ag, af, bo, reduceCtorEq, E, D, G, U, J, M, Tryd.td4, Mpr.av, Int.toNat_natCast]; refine V _ ?_; clear V K0; simp only [put, app, Z, ae, zE, zS, D])
  refine ah ?_
  refine ⟨by simp only [Y, lkp, zE, reduceCtorEq, E, a8, D]; exact rfl, rfl, ?_, rfl⟩; (repeat refine aU rfl ?_); exact bu (by exact rfl) hq4
 case b4 => exact br (by first | rfl | (simp [bT]; done) | decide)
 simp only [bf, b9]
 refine ah ?_
 refine ⟨by kernel_rfl, ?_⟩
 refine hK3 _ ?_; clear hK3; refine ad [0, 1, 2, 4, 25] ?_; simp only [Y, lkp, zE, reduceCtorEq, E, a8, D]
 refine aE (by simp only [ev, Y, lkp, zE, reduceCtorEq, E, a8, D]; exact rfl) (fun hc5 => ?_) (fun hc5 => ?_)
 ·(try simp only [zB, reduceCtorEq] at hc5)
  have hl9 : ¬ ((p.nx.getD k []).length : Int) = p.inp ∨ ¬ ((p.sy.getD k []).length : Int) = p.inp := by omega
  refine aa fun K6 hK6 => ?_
  refine ai hP hN rfl ?_
  (refine a9 rfl fun K0 V => ?_; simp only [zE, op1, ev, lkp, ag, af, ev, reduceCtorEq, E, D, G, U, J, M, Tryd.td3, Mpr.av, Int.toNat_natCast]; refine V _ ?_; clear V K0; simp only [put, app, Z, ae, zE, zS, D])
  refine ah ?_
  refine hK6 _ ?_; clear hK6; refine ad [0, 1, 2, 4, 25] ?_; simp only [Y, lkp, zE, reduceCtorEq, E, a8, D]
  refine aH ?_
  refine ⟨by first | exact .inl rfl | exact .inr rfl, _, rfl, ?_⟩; simp only [fzV, fz1, fzC, List.map_cons, List.map_nil, Y, lkp, zE, reduceCtorEq, E, a8, D, Mpr.av, Int.toNat_natCast]
  refine VLE.of_eq ?_
  refine congrArg (fun n => AV.one (AC.int IntKind.i64 n)) ?_
  symm
  first
  | exact bY hl9
  | exact bW hl9 (by omega) hb9
  | exact iG hl9 fun q hq2 => hq q (by omega)
 ·(try simp only [zB, reduceCtorEq] at hc5)
  have hl9 : ((p.nx.getD k []).length : Int) = p.inp ∧ ((p.sy.getD k []).length : Int) = p.inp := by omega
  refine aI ?_
  refine hK2 _ ?_; clear hK2; refine ad [0, 1, 2, 4, 25] ?_; simp only [Y, lkp, zE, reduceCtorEq, E, a8, D]
  refine aa fun K7 hK7 => ?_
  refine aa fun K8 hK8 => ?_
  refine ai hP hN rfl ?_
  (refine a9 rfl fun K0 V => ?_; simp only [zE, op1, ev, lkp, ag, af, ev, reduceCtorEq, E, D, G, U, J, M, Tryd.td3, Mpr.av, Int.toNat_natCast]; refine V _ ?_; clear V K0; simp only [put, app, Z, ae, zE, zS, D])
  refine ah ?_
  refine hK8 _ ?_; clear hK8; refine ad [0, 1, 2, 4, 5, 25] ?_; simp only [Y, lkp, zE, reduceCtorEq, E, a8, D]
  refine aW ?_
  refine bK (fun n9 s9 => ∃ (c : Nat), ((c : Int) ≤ p.inp) ∧ (∀ q, q < c → ¬ p.bad k q) ∧ n9 = p.inp.toNat - c ∧ s9 = { env := [(1, .one (.int .i64 (k : Int))), (2, .one (.ptr 0 0 0 0)), (4, .one (.int .i64 0)), (5, .one (.int .i64 (c : Int)))], L := [.vars 24 [.int .i64 p.inp, .int .i64 p.ab, .int .i64 p.st, .list (.list (.int .i64)) p.nx, .list (.list (.int .i64)) p.sy]] }) ?_ ?_
  ·exact ⟨_, _, aY [1, 2, 4, 5], 0, by omega, fun q hq => by omega, rfl, rfl⟩
  ·rintro n9 s9 ⟨c, hc, hq, rfl, rfl⟩
   refine aa fun K10 hK10 => ?_
   refine aa fun K11 hK11 => ?_
   have hpi : (0 : Int) ≤ p.inp := by omega
   refine ai hP hN rfl ?_
   iterate 4 (refine a9 rfl fun K0 V => ?_; simp only [zE, op1, ev, lkp, ag, af, ak, az, Nat.mul_one, ax, ay, acs, Ty.dflt, zG, ao, aC, aB, aD, am, aA, aM, reduceCtorEq, E, D, G, U, J, M, Tryd.st24, Tryd.td24, Tryd.td3, Tryd.td4, Mpr.av, Int.toNat_natCast]; (repeat refine And.intro (by first | omega | assumption | exact rfl) ?_); refine V _ ?_; clear V K0; simp only [put, app, Z, ae, zE, zS, D])
   refine ah ?_
   refine hK11 _ ?_; clear hK11; refine ad [1, 2, 4, 5, 29] ?_; simp only [Y, lkp, zE, reduceCtorEq, E, a8, D]
   refine aE (by simp only [ev, Y, lkp, zE, reduceCtorEq, E, a8, D]; exact rfl) (fun hc12 => ?_) (fun hc12 => ?_)
   ·(try simp only [zB, reduceCtorEq] at hc12)
    refine aI ?_
    refine hK10 _ ?_; clear hK10; refine ad [1, 2, 4, 5, 29] ?_; simp only [Y, lkp, zE, reduceCtorEq, E, a8, D]
    refine aa fun K13 hK13 => ?_
    refine aW ?_
    refine aa fun K14 hK14 => ?_
    refine c0 hP hN Tryd.mixed rfl ?_
    iterate 9 (refine a9 rfl fun K0 V => ?_; simp only [zE, op1, ev, lkp, ag, af, ak, az, Nat.mul_one, ax, ay, acs, Ty.dflt, zG, ao, aK, Ty.size, ne_eq, not_false_eq_true, Int.natCast_one, Int.mul_one, aC, aB, aD, am, aA, aM, reduceCtorEq, E, D, G, U, J, M, Tryd.el22, Tryd.el25, Tryd.st24, Tryd.td22, Tryd.td24, Tryd.td25, Tryd.td3, Tryd.td4, Mpr.av, Int.toNat_natCast]; (repeat refine And.intro (by first | omega | assumption | exact rfl) ?_); refine V _ ?_; clear V K0; simp only [put, app, Z, ae, zE, zS, D])
    (refine a9 rfl fun K0 V => ?_; simp only [zE, op1, ev, lkp, ag, af, ev, reduceCtorEq, E, D, G, U, J, M, Tryd.td4, Mpr.av, Int.toNat_natCast]; refine V _ ?_; clear V K0; simp only [put, app, Z, ae, zE, zS, D])
    refine' aV (want := false) 12 rfl (m := 41) (by simp only [Y, lkp, zE, reduceCtorEq, E, a8, D]; exact rfl) (by kernel_rfl) rfl rfl rfl rfl rfl (fun hg15 => ?a15) ?b15 ?c15
    case a15 =>
     have hq15 := hg15; (try simp only [zB, reduceCtorEq] at hg15); simp only [List.take_succ_cons, List.take_zero, List.cons_append, List.nil_append]
     (refine aq rfl fun K0 V => ?_; simp only [zE, op1, ev, lkp, ag, af, ak, reduceCtorEq, E, D, G, U, J, M, Tryd.st24, Tryd.td24, Tryd.td3, Mpr.av, Int.toNat_natCast]; (repeat refine And.intro (by first | omega | assumption | exact rfl) ?_); refine V _ ?_; clear V K0; simp only [put, app, Z, ae, zE, zS, D])
     (refine aq rfl fun K0 V => ?_; simp only [zE, op1, ev, lkp, ag, af, az, Nat.mul_one, ax, ay, acs, Ty.dflt, zG, ao, reduceCtorEq, E, D, G, U, J, M, Tryd.el22, Tryd.td22, Mpr.av, Int.toNat_natCast]; (repeat refine And.intro (by first | omega | assumption | exact rfl) ?_); refine V _ ?_; clear V K0; simp only [put, app, Z, ae, zE, zS, D])
     (refine aq rfl fun K0 V => ?_; simp only [zE, op1, ev, lkp, ag, af, ev, reduceCtorEq, E, D, G, U, J, M, Tryd.td3, Mpr.av, Int.toNat_natCast]; refine V _ ?_; clear V K0; simp only [put, app, Z, ae, zE, zS, D])
     (refine aq rfl fun K0 V => ?_; simp only [zE, op1, ev, lkp, ag, af, aK, zG, Ty.dflt, Ty.size, Nat.mul_one, ne_eq, not_false_eq_true, Int.natCast_one, Int.mul_one, reduceCtorEq, E, D, G, U, J, M, Tryd.el22, Tryd.td22, Mpr.av, Int.toNat_natCast]; (repeat refine And.intro (by first | omega | assumption | exact rfl) ?_); refine V _ ?_; clear V K0; simp only [put, app, Z, ae, zE, zS, D])
     (refine aq rfl fun K0 V => ?_; simp only [zE, op1, ev, lkp, ag, af, az, Nat.mul_one, ax, ay, acs, Ty.dflt, zG, ao, reduceCtorEq, E, D, G, U, J, M, Tryd.el25, Tryd.td25, Mpr.av, Int.toNat_natCast]; (repeat refine And.intro (by first | omega | assumption | exact rfl) ?_); refine V _ ?_; clear V K0; simp only [put, app, Z, ae, zE, zS, D])
     (refine aq rfl fun K0 V => ?_; simp only [zE, op1, ev, lkp, ag, af, ev, reduceCtorEq, E, D, G, U, J, M, Tryd.td3, Mpr.av, Int.toNat_natCast]; refine V _ ?_; clear V K0; simp only [put, app, Z, ae, zE, zS, D])
     (refine aq rfl fun K0 V => ?_; simp only [zE, op1, ev, lkp, ag, af, aK, zG, Ty.dflt, Ty.size, Nat.mul_one, ne_eq, not_false_eq_true, Int.natCast_one, Int.mul_one, reduceCtorEq, E, D, G, U, J, M, Tryd.el25, Tryd.td25, Mpr.av, Int.toNat_natCast]; (repeat refine And.intro (by first | omega | assumption | exact rfl) ?_); refine V _ ?_; clear V K0; simp only [put, app, Z, ae, zE, zS, D])
     (refine aq rfl fun K0 V => ?_; simp only [zE, op1, ev, lkp, ag, af, az, Nat.mul_one, ax, ay, acs, Ty.dflt, zG, ao, reduceCtorEq, E, D, G, U, J, M, Tryd.td3, Mpr.av, Int.toNat_natCast]; (repeat refine And.intro (by first | omega | assumption | exact rfl) ?_); refine V _ ?_; clear V K0; simp only [put, app, Z, ae, zE, zS, D])
     (refine aq rfl fun K0 V => ?_; simp only [zE, op1, ev, lkp, ag, af, ak, reduceCtorEq, E, D, G, U, J, M, Tryd.st24, Tryd.td24, Tryd.td3, Mpr.av, Int.toNat_natCast]; (repeat refine And.intro (by first | omega | assumption | exact rfl) ?_); refine V _ ?_; clear V K0; simp only [put, app, Z, ae, zE, zS, D])
     (refine aq rfl fun K0 V => ?_; simp only [zE, op1, ev, lkp, ag, af, az, Nat.mul_one, ax, ay, acs, Ty.dflt, zG, ao, reduceCtorEq, E, D, G, U, J, M, Tryd.el22, Tryd.td22, Mpr.av, Int.toNat_natCast]; (repeat refine And.intro (by first | omega | assumption | exact rfl) ?_); refine V _ ?_; clear V K0; simp only [put, app, Z, ae, zE, zS, D])
     (refine aq rfl fun K0 V => ?_; simp only [zE, op1, ev, lkp, ag, af, aF, bC, bm, bg, bh, bB, Nat.div_one, aJ, bi, Ty.size, aG, dite_true, reduceCtorEq, E, D, G, U, J, M, Tryd.el22, Tryd.td22, Tryd.td3, Mpr.av, Int.toNat_natCast]; (repeat refine And.intro (by first | omega | assumption | exact rfl) ?_); (first | refine V _ ?_ | refine Or.inl (V _ ?_)); clear V K0; simp only [put, app, Z, ae, zE, zS, D])
     (refine aq rfl fun K0 V => ?_; simp only [zE, op1, ev, lkp, ag, af, aC, aB, aD, am, aA, aM, reduceCtorEq, E, D, G, U, J, M, Tryd.td3, Tryd.td4, Mpr.av, Int.toNat_natCast]; (repeat refine And.intro (by first | omega | assumption | exact rfl) ?_); refine V _ ?_; clear V K0; simp only [put, app, Z, ae, zE, zS, D])
     (refine a9 rfl fun K0 V => ?_; simp only [zE, op1, ev, lkp, ag, af, bo, reduceCtorEq, E, D, G, U, J, M, Tryd.td4, Mpr.av, Int.toNat_natCast]; refine V _ ?_; clear V K0; simp only [put, app, Z, ae, zE, zS, D])
     refine ah ?_
     refine ⟨by simp only [Y, lkp, zE, reduceCtorEq, E, a8, D]; exact rfl, rfl, ?_, rfl⟩; (repeat refine aU rfl ?_); exact bu (by exact rfl) hq15
    case b15 => exact br (by first | rfl | (simp [bT]; done) | decide)
    simp only [bf, b9]
    (refine a9 rfl fun K0 V => ?_; simp only [zE, op1, ev, lkp, ag, af, ev, reduceCtorEq, E, D, G, U, J, M, Tryd.td4, Mpr.av, Int.toNat_natCast]; refine V _ ?_; clear V K0; simp only [put, app, Z, ae, zE, zS, D])
    refine' aV (want := false) 9 rfl (m := 55) (by simp only [Y, lkp, zE, reduceCtorEq, E, a8, D]; exact rfl) (by kernel_rfl) rfl rfl rfl rfl rfl (fun hg16 => ?a16) ?b16 ?c16
    case a16 =>
     have hq16 := hg16; (try simp only [zB, reduceCtorEq] at hg16); simp only [List.take_succ_cons, List.take_zero, List.cons_append, List.nil_append]
     (refine aq rfl fun K0 V => ?_; simp only [zE, op1, ev, lkp, ag, af, ak, reduceCtorEq, E, D, G, U, J, M, Tryd.st24, Tryd.td24, Tryd.td4, Mpr.av, Int.toNat_natCast]; (repeat refine And.intro (by first | omega | assumption | exact rfl) ?_); refine V _ ?_; clear V K0; simp only [put, app, Z, ae, zE, zS, D])
     (refine aq rfl fun K0 V => ?_; simp only [zE, op1, ev, lkp, ag, af, az, Nat.mul_one, ax, ay, acs, Ty.dflt, zG, ao, reduceCtorEq, E, D, G, U, J, M, Tryd.el22, Tryd.td22, Mpr.av, Int.toNat_natCast]; (repeat refine And.intro (by first | omega | assumption | exact rfl) ?_); refine V _ ?_; clear V K0; simp only [put, app, Z, ae, zE, zS, D])
     (refine aq rfl fun K0 V => ?_; simp only [zE, op1, ev, lkp, ag, af, ev, reduceCtorEq, E, D, G, U, J, M, Tryd.td3, Mpr.av, Int.toNat_natCast]; refine V _ ?_; clear V K0; simp only [put, app, Z, ae, zE, zS, D])
     (refine aq rfl fun K0 V => ?_; simp only [zE, op1, ev, lkp, ag, af, aK, zG, Ty.dflt, Ty.size, Nat.mul_one, ne_eq, not_false_eq_true, Int.natCast_one, Int.mul_one, reduceCtorEq, E, D, G, U, J, M, Tryd.el22, Tryd.td22, Mpr.av, Int.toNat_natCast]; (repeat refine And.intro (by first | omega | assumption | exact rfl) ?_); refine V _ ?_; clear V K0; simp only [put, app, Z, ae, zE, zS, D])
     (refine aq rfl fun K0 V => ?_; simp only [zE, op1, ev, lkp, ag, af, az, Nat.mul_one, ax, ay, acs, Ty.dflt, zG, ao, reduceCtorEq, E, D, G, U, J, M, Tryd.el25, Tryd.td25, Mpr.av, Int.toNat_natCast]; (repeat refine And.intro (by first | omega | assumption | exact rfl) ?_); refine V _ ?_; clear V K0; simp only [put, app, Z, ae, zE, zS, D])
     (refine aq rfl fun K0 V => ?_; simp only [zE, op1, ev, lkp, ag, af, ev, reduceCtorEq, E, D, G, U, J, M, Tryd.td3, Mpr.av, Int.toNat_natCast]; refine V _ ?_; clear V K0; simp only [put, app, Z, ae, zE, zS, D])
     (refine aq rfl fun K0 V => ?_; simp only [zE, op1, ev, lkp, ag, af, aK, zG, Ty.dflt, Ty.size, Nat.mul_one, ne_eq, not_false_eq_true, Int.natCast_one, Int.mul_one, reduceCtorEq, E, D, G, U, J, M, Tryd.el25, Tryd.td25, Mpr.av, Int.toNat_natCast]; (repeat refine And.intro (by first | omega | assumption | exact rfl) ?_); refine V _ ?_; clear V K0; simp only [put, app, Z, ae, zE, zS, D])
     (refine aq rfl fun K0 V => ?_; simp only [zE, op1, ev, lkp, ag, af, az, Nat.mul_one, ax, ay, acs, Ty.dflt, zG, ao, reduceCtorEq, E, D, G, U, J, M, Tryd.td3, Mpr.av, Int.toNat_natCast]; (repeat refine And.intro (by first | omega | assumption | exact rfl) ?_); refine V _ ?_; clear V K0; simp only [put, app, Z, ae, zE, zS, D])
     (refine aq rfl fun K0 V => ?_; simp only [zE, op1, ev, lkp, ag, af, aC, aB, aD, am, aA, aM, reduceCtorEq, E, D, G, U, J, M, Tryd.td3, Tryd.td4, Mpr.av, Int.toNat_natCast]; (repeat refine And.intro (by first | omega | assumption | exact rfl) ?_); refine V _ ?_; clear V K0; simp only [put, app, Z, ae, zE, zS, D])
     (refine a9 rfl fun K0 V => ?_; simp only [zE, op1, ev, lkp, ag, af, bo, reduceCtorEq, E, D, G, U, J, M, Tryd.td4, Mpr.av, Int.toNat_natCast]; refine V _ ?_; clear V K0; simp only [put, app, Z, ae, zE, zS, D])
     refine ah ?_
     refine ⟨by simp only [Y, lkp, zE, reduceCtorEq, E, a8, D]; exact rfl, rfl, ?_, rfl⟩; (repeat refine aU rfl ?_); exact bu (by exact rfl) hq16
    case b16 => exact br (by first | rfl | (simp [bT]; done) | decide)
    simp only [bf, b9]
    (refine a9 rfl fun K0 V => ?_; simp only [zE, op1, ev, lkp, ag, af, ev, reduceCtorEq, E, D, G, U, J, M, Tryd.td4, Mpr.av, Int.toNat_natCast]; refine V _ ?_; clear V K0; simp only [put, app, Z, ae, zE, zS, D])
    refine' aV (want := false) 11 rfl (m := 66) (by simp only [Y, lkp, zE, reduceCtorEq, E, a8, D]; exact rfl) (by kernel_rfl) rfl rfl rfl rfl rfl (fun hg17 => ?a17) ?b17 ?c17
    case a17 =>
     have hq17 := hg17; (try simp only [zB, reduceCtorEq] at hg17); simp only [List.take_succ_cons, List.take_zero, List.cons_append, List.nil_append]
     (refine aq rfl fun K0 V => ?_; simp only [zE, op1, ev, lkp, ag, af, ak, reduceCtorEq, E, D, G, U, J, M, Tryd.st24, Tryd.td24, Tryd.td4, Mpr.av, Int.toNat_natCast]; (repeat refine And.intro (by first | omega | assumption | exact rfl) ?_); refine V _ ?_; clear V K0; simp only [put, app, Z, ae, zE, zS, D])
     (refine aq rfl fun K0 V => ?_; simp only [zE, op1, ev, lkp, ag, af, az, Nat.mul_one, ax, ay, acs, Ty.dflt, zG, ao, reduceCtorEq, E, D, G, U, J, M, Tryd.el22, Tryd.td22, Mpr.av, Int.toNat_natCast]; (repeat refine And.intro (by first | omega | assumption | exact rfl) ?_); refine V _ ?_; clear V K0; simp only [put, app, Z, ae, zE, zS, D])
     (refine aq rfl fun K0 V => ?_; simp only [zE, op1, ev, lkp, ag, af, ev, reduceCtorEq, E, D, G, U, J, M, Tryd.td3, Mpr.av, Int.toNat_natCast]; refine V _ ?_; clear V K0; simp only [put, app, Z, ae, zE, zS, D])
     (refine aq rfl fun K0 V => ?_; simp only [zE, op1, ev, lkp, ag, af, aK, zG, Ty.dflt, Ty.size, Nat.mul_one, ne_eq, not_false_eq_true, Int.natCast_one, Int.mul_one, reduceCtorEq, E, D, G, U, J, M, Tryd.el22, Tryd.td22, Mpr.av, Int.toNat_natCast]; (repeat refine And.intro (by first | omega | assumption | exact rfl) ?_); refine V _ ?_; clear V K0; simp only [put, app, Z, ae, zE, zS, D])
     (refine aq rfl fun K0 V => ?_; simp only [zE, op1, ev, lkp, ag, af, az, Nat.mul_one, ax, ay, acs, Ty.dflt, zG, ao, reduceCtorEq, E, D, G, U, J, M, Tryd.el25, Tryd.td25, Mpr.av, Int.toNat_natCast]; (repeat refine And.intro (by first | omega | assumption | exact rfl) ?_); refine V _ ?_; clear V K0; simp only [put, app, Z, ae, zE, zS, D])
     (refine aq rfl fun K0 V => ?_; simp only [zE, op1, ev, lkp, ag, af, ev, reduceCtorEq, E, D, G, U, J, M, Tryd.td3, Mpr.av, Int.toNat_natCast]; refine V _ ?_; clear V K0; simp only [put, app, Z, ae, zE, zS, D])
     (refine aq rfl fun K0 V => ?_; simp only [zE, op1, ev, lkp, ag, af, aK, zG, Ty.dflt, Ty.size, Nat.mul_one, ne_eq, not_false_eq_true, Int.natCast_one, Int.mul_one, reduceCtorEq, E, D, G, U, J, M, Tryd.el25, Tryd.td25, Mpr.av, Int.toNat_natCast]; (repeat refine And.intro (by first | omega | assumption | exact rfl) ?_); refine V _ ?_; clear V K0; simp only [put, app, Z, ae, zE, zS, D])
     (refine aq rfl fun K0 V => ?_; simp only [zE, op1, ev, lkp, ag, af, az, Nat.mul_one, ax, ay, acs, Ty.dflt, zG, ao, reduceCtorEq, E, D, G, U, J, M, Tryd.td3, Mpr.av, Int.toNat_natCast]; (repeat refine And.intro (by first | omega | assumption | exact rfl) ?_); refine V _ ?_; clear V K0; simp only [put, app, Z, ae, zE, zS, D])
     (refine aq rfl fun K0 V => ?_; simp only [zE, op1, ev, lkp, ag, af, ak, reduceCtorEq, E, D, G, U, J, M, Tryd.st24, Tryd.td1, Tryd.td24, Mpr.av, Int.toNat_natCast]; (repeat refine And.intro (by first | omega | assumption | exact rfl) ?_); refine V _ ?_; clear V K0; simp only [put, app, Z, ae, zE, zS, D])
     (refine aq rfl fun K0 V => ?_; simp only [zE, op1, ev, lkp, ag, af, az, Nat.mul_one, ax, ay, acs, Ty.dflt, zG, ao, reduceCtorEq, E, D, G, U, J, M, Tryd.td3, Mpr.av, Int.toNat_natCast]; (repeat refine And.intro (by first | omega | assumption | exact rfl) ?_); refine V _ ?_; clear V K0; simp only [put, app, Z, ae, zE, zS, D])
     (refine aq rfl fun K0 V => ?_; simp only [zE, op1, ev, lkp, ag, af, aC, aB, aD, am, aA, aM, reduceCtorEq, E, D, G, U, J, M, Tryd.td3, Tryd.td4, Mpr.av, Int.toNat_natCast]; (repeat refine And.intro (by first | omega | assumption | exact rfl) ?_); refine V _ ?_; clear V K0; simp only [put, app, Z, ae, zE, zS, D])
     (refine a9 rfl fun K0 V => ?_; simp only [zE, op1, ev, lkp, ag, af, bo, reduceCtorEq, E, D, G, U, J, M, Tryd.td4, Mpr.av, Int.toNat_natCast]; refine V _ ?_; clear V K0; simp only [put, app, Z, ae, zE, zS, D])
     refine ah ?_
     refine ⟨by simp only [Y, lkp, zE, reduceCtorEq, E, a8, D]; exact rfl, rfl, ?_, rfl⟩; (repeat refine aU rfl ?_); exact bu (by exact rfl) hq17
    case b17 => exact br (by first | rfl | (simp [bT]; done) | decide)
    simp only [bf, b9]
    refine ah ?_
    refine ⟨by kernel_rfl, ?_⟩
    refine hK14 _ ?_; clear hK14; refine ad [1, 2, 4, 5, 29, 78] ?_; simp only [Y, lkp, zE, reduceCtorEq, E, a8, D]
    refine aE (by simp only [ev, Y, lkp, zE, reduceCtorEq, E, a8, D]; exact rfl) (fun hc18 => ?_) (fun hc18 => ?_)
    ·(try simp only [zB, reduceCtorEq] at hc18)
     have hb9 : p.bad k c := by unfold Mpr.bad; omega
     refine aa fun K19 hK19 => ?_
     refine ai hP hN rfl ?_
     (refine a9 rfl fun K0 V => ?_; simp only [zE, op1, ev, lkp, ag, af, ev, reduceCtorEq, E, D, G, U, J, M, Tryd.td3, Mpr.av, Int.toNat_natCast]; refine V _ ?_; clear V K0; simp only [put, app, Z, ae, zE, zS, D])
     refine ah ?_
     refine hK19 _ ?_; clear hK19; refine ad [1, 2, 4, 5, 29, 78] ?_; simp only [Y, lkp, zE, reduceCtorEq, E, a8, D]
     refine aH ?_
     refine ⟨by first | exact .inl rfl | exact .inr rfl, _, rfl, ?_⟩; simp only [fzV, fz1, fzC, List.map_cons, List.map_nil, Y, lkp, zE, reduceCtorEq, E, a8, D, Mpr.av, Int.toNat_natCast]
     refine VLE.of_eq ?_
     refine congrArg (fun n => AV.one (AC.int IntKind.i64 n)) ?_
     symm
     first
     | exact bY hl9
     | exact bW hl9 (by omega) hb9
     | exact iG hl9 fun q hq2 => hq q (by omega)
    ·(try simp only [zB, reduceCtorEq] at hc18)
     have hb9 : ¬ p.bad k c := by unfold Mpr.bad; omega
     refine aI ?_
     refine hK13 _ ?_; clear hK13; refine ad [1, 2, 4, 5, 29, 78] ?_; simp only [Y, lkp, zE, reduceCtorEq, E, a8, D]
     refine ai hP hN rfl ?_
     iterate 3 (refine a9 rfl fun K0 V => ?_; simp only [zE, op1, ev, lkp, ag, af, aC, aB, aD, am, aA, aM, reduceCtorEq, E, D, G, U, J, M, Tryd.td3, Mpr.av, Int.toNat_natCast]; (repeat refine And.intro (by first | omega | assumption | exact rfl) ?_); refine V _ ?_; clear V K0; simp only [put, app, Z, ae, zE, zS, D])
     refine ah ?_
     refine ⟨_, _, ?_, aY [1, 2, 4, 5], c + 1, by omega, fun q hq2 => ?_, rfl, rfl⟩
     · omega
     · by_cases e : q = c
       · rw [e]; exact hb9
       · exact hq q (by omega)
   ·(try simp only [zB, reduceCtorEq] at hc12)
    refine bM ?_
    refine hK7 _ ?_; clear hK7; refine ad [1, 2, 4, 5, 29] ?_; simp only [Y, lkp, zE, reduceCtorEq, E, a8, D]
    refine aa fun K20 hK20 => ?_
    refine ai hP hN rfl ?_
    (refine a9 rfl fun K0 V => ?_; simp only [zE, op1, ev, lkp, ag, af, ev, reduceCtorEq, E, D, G, U, J, M, Tryd.td3, Mpr.av, Int.toNat_natCast]; refine V _ ?_; clear V K0; simp only [put, app, Z, ae, zE, zS, D])
    refine ah ?_
    refine hK20 _ ?_; clear hK20; refine ad [1, 2, 4, 5, 29] ?_; simp only [Y, lkp, zE, reduceCtorEq, E, a8, D]
    refine aH ?_
    refine ⟨by first | exact .inl rfl | exact .inr rfl, _, rfl, ?_⟩; simp only [fzV, fz1, fzC, List.map_cons, List.map_nil, Y, lkp, zE, reduceCtorEq, E, a8, D, Mpr.av, Int.toNat_natCast]
    refine VLE.of_eq ?_
    refine congrArg (fun n => AV.one (AC.int IntKind.i64 n)) ?_
    symm
    first
    | exact bY hl9
    | exact bW hl9 (by omega) hb9
    | exact iG hl9 fun q hq2 => hq q (by omega)
end Go.Proofs.YtgmgnkmgofkfpaaDoor
namespace Go.Proofs.YtgmgnkmgofkfpaaDoor
open Go Go.AV
open Nat renaming reduceEqDiff → E, reduceAdd → D, reduceLeDiff → G, reduceLT → U, reduceMul → J, reduceSub → M
open List renaming set_cons_zero → aw, set_cons_succ → au
set_option maxRecDepth 100000 in
theorem mi (p : Mpr) : cf Tryd.prog 12 [p.av] (.one (.int .i64 (bE p))) := by
 refine bp Tryd.func12 rfl (by kernel_rfl) (Nat.le_of_ble_eq_true rfl) rfl fun C hP hN hB => ?_
 replace hN : C.N = 62 := hN
 simp only [a8, D]
 refine aa fun K1 hK1 => ?_
 refine ai hP hN rfl ?_
 iterate 2 (refine a9 rfl fun K0 V => ?_; simp only [zE, op1, ev, lkp, ag, af, cQ, ar, reduceCtorEq, E, D, G, U, J, M, Tryd.st24, Tryd.td24, Tryd.td3, Mpr.av]; (repeat refine And.intro (by first | omega | assumption | exact rfl) ?_); refine V _ ?_; clear V K0; simp only [put, app, Z, ae, zE, zS, D])
 refine ah ?_
 refine hK1 _ ?_; clear hK1; refine ad [0, 1, 2] ?_; simp only [Y, lkp, zE, reduceCtorEq, E, a8, D]
 refine aa fun K2 hK2 => ?_
 refine aa fun K3 hK3 => ?_
 refine ai hP hN rfl ?_
 iterate 3 (refine a9 rfl fun K0 V => ?_; simp only [zE, op1, ev, lkp, ag, af, ak, az, Nat.mul_one, ax, ay, acs, Ty.dflt, zG, ao, aC, aB, aD, am, aA, aM, reduceCtorEq, E, D, G, U, J, M, Tryd.st24, Tryd.td24, Tryd.td3, Tryd.td4, Mpr.av]; (repeat refine And.intro (by first | omega | assumption | exact rfl) ?_); refine V _ ?_; clear V K0; simp only [put, app, Z, ae, zE, zS, D])
 (refine a9 rfl fun K0 V => ?_; simp only [zE, op1, ev, lkp, ag, af, ev, reduceCtorEq, E, D, G, U, J, M, Tryd.td4, Mpr.av]; refine V _ ?_; clear V K0; simp only [put, app, Z, ae, zE, zS, D])
 refine' aV (want := false) 3 rfl (m := 8) (by simp only [Y, lkp, zE, reduceCtorEq, E, a8, D]; exact rfl) (by kernel_rfl) rfl rfl rfl rfl rfl (fun hg4 => ?a4) ?b4 ?c4
 case a4 =>
  have hq4 := hg4; (try simp only [zB, reduceCtorEq] at hg4); simp only [List.take_succ_cons, List.take_zero, List.cons_append, List.nil_append]
  (refine aq rfl fun K0 V => ?_; simp only [zE, op1, ev, lkp, ag, af, ak, reduceCtorEq, E, D, G, U, J, M, Tryd.st24, Tryd.td24, Mpr.av]; (repeat refine And.intro (by first | omega | assumption | exact rfl) ?_); refine V _ ?_; clear V K0; simp only [put, app, Z, ae, zE, zS, D])
  (refine aq rfl fun K0 V => ?_; simp only [zE, op1, ev, lkp, ag, af, az, Nat.mul_one, ax, ay, acs, Ty.dflt, zG, ao, reduceCtorEq, E, D, G, U, J, M, Tryd.td3, Mpr.av]; (repeat refine And.intro (by first | omega | assumption | exact rfl) ?_); refine V _ ?_; clear V K0; simp only [put, app, Z, ae, zE, zS, D])
  (refine aq rfl fun K0 V => ?_; simp only [zE, op1, ev, lkp, ag, af, aC, aB, aD, am, aA, aM, reduceCtorEq, E, D, G, U, J, M, Tryd.td3, Tryd.td4, Mpr.av]; (repeat refine And.intro (by first | omega | assumption | exact rfl) ?_); refine V _ ?_; clear V K0; simp only [put, app, Z, ae, zE, zS, D])
  (refine a9 rfl fun K0 V => ?_; simp only [zE, op1, ev, lkp, ag, af, bo, reduceCtorEq, E, D, G, U, J, M, Tryd.td4, Mpr.av]; refine V _ ?_; clear V K0; simp only [put, app, Z, ae, zE, zS, D])
  refine ah ?_
  refine ⟨by simp only [Y, lkp, zE, reduceCtorEq, E, a8, D]; exact rfl, rfl, ?_, rfl⟩; (repeat refine aU rfl ?_); exact bu (by exact rfl) hq4
 case b4 => exact br (by first | rfl | (simp [bT]; done) | decide)
 simp only [bf, b9]
 (refine a9 rfl fun K0 V => ?_; simp only [zE, op1, ev, lkp, ag, af, ev, reduceCtorEq, E, D, G, U, J, M, Tryd.td4, Mpr.av]; refine V _ ?_; clear V K0; simp only [put, app, Z, ae, zE, zS, D])
 refine' aV (want := false) 3 rfl (m := 13) (by simp only [Y, lkp, zE, reduceCtorEq, E, a8, D]; exact rfl) (by kernel_rfl) rfl rfl rfl rfl rfl (fun hg5 => ?a5) ?b5 ?c5
 case a5 =>
  have hq5 := hg5; (try simp only [zB, reduceCtorEq] at hg5); simp only [List.take_succ_cons, List.take_zero, List.cons_append, List.nil_append]
  (refine aq rfl fun K0 V => ?_; simp only [zE, op1, ev, lkp, ag, af, ak, reduceCtorEq, E, D, G, U, J, M, Tryd.st24, Tryd.td1, Tryd.td24, Mpr.av]; (repeat refine And.intro (by first | omega | assumption | exact rfl) ?_); refine V _ ?_; clear V K0; simp only [put, app, Z, ae, zE, zS, D])
  (refine aq rfl fun K0 V => ?_; simp only [zE, op1, ev, lkp, ag, af, az, Nat.mul_one, ax, ay, acs, Ty.dflt, zG, ao, reduceCtorEq, E, D, G, U, J, M, Tryd.td3, Mpr.av]; (repeat refine And.intro (by first | omega | assumption | exact rfl) ?_); refine V _ ?_; clear V K0; simp only [put, app, Z, ae, zE, zS, D])
  (refine aq rfl fun K0 V => ?_; simp only [zE, op1, ev, lkp, ag, af, aC, aB, aD, am, aA, aM, reduceCtorEq, E, D, G, U, J, M, Tryd.td3, Tryd.td4, Mpr.av]; (repeat refine And.intro (by first | omega | assumption | exact rfl) ?_); refine V _ ?_; clear V K0; simp only [put, app, Z, ae, zE, zS, D])
  (refine a9 rfl fun K0 V => ?_; simp only [zE, op1, ev, lkp, ag, af, bo, reduceCtorEq, E, D, G, U, J, M, Tryd.td4, Mpr.av]; refine V _ ?_; clear V K0; simp only [put, app, Z, ae, zE, zS, D])
  refine ah ?_
  refine ⟨by simp only [Y, lkp, zE, reduceCtorEq, E, a8, D]; exact rfl, rfl, ?_, rfl⟩; (repeat refine aU rfl ?_); exact bu (by exact rfl) hq5
 case b5 => exact br (by first | rfl | (simp [bT]; done) | decide)
 simp only [bf, b9]
 (refine a9 rfl fun K0 V => ?_; simp only [zE, op1, ev, lkp, ag, af, ev, reduceCtorEq, E, D, G, U, J, M, Tryd.td4, Mpr.av]; refine V _ ?_; clear V K0; simp only [put, app, Z, ae, zE, zS, D])
 refine' aV (want := false) 3 rfl (m := 18) (by simp only [Y, lkp, zE, reduceCtorEq, E, a8, D]; exact rfl) (by kernel_rfl) rfl rfl rfl rfl rfl (fun hg6 => ?a6) ?b6 ?c6
 case a6 =>
  have hq6 := hg6; (try simp only [zB, reduceCtorEq] at hg6); simp only [List.take_succ_cons, List.take_zero, List.cons_append, List.nil_append]
  (refine aq rfl fun K0 V => ?_; simp only [zE, op1, ev, lkp, ag, af, ak, reduceCtorEq, E, D, G, U, J, M, Tryd.st24, Tryd.td1, Tryd.td24, Mpr.av]; (repeat refine And.intro (by first | omega | assumption | exact rfl) ?_); refine V _ ?_; clear V K0; simp only [put, app, Z, ae, zE, zS, D])
  (refine aq rfl fun K0 V => ?_; simp only [zE, op1, ev, lkp, ag, af, az, Nat.mul_one, ax, ay, acs, Ty.dflt, zG, ao, reduceCtorEq, E, D, G, U, J, M, Tryd.td3, Mpr.av]; (repeat refine And.intro (by first | omega | assumption | exact rfl) ?_); refine V _ ?_; clear V K0; simp only [put, app, Z, ae, zE, zS, D])
  (refine aq rfl fun K0 V => ?_; simp only [zE, op1, ev, lkp, ag, af, aC, aB, aD, am, aA, aM, reduceCtorEq, E, D, G, U, J, M, Tryd.td3, Tryd.td4, Mpr.av]; (repeat refine And.intro (by first | omega | assumption | exact rfl) ?_); refine V _ ?_; clear V K0; simp only [put, app, Z, ae, zE, zS, D])
  (refine a9 rfl fun K0 V => ?_; simp only [zE, op1, ev, lkp, ag, af, bo, reduceCtorEq, E, D, G, U, J, M, Tryd.td4, Mpr.av]; refine V _ ?_; clear V K0; simp only [put, app, Z, ae, zE, zS, D])
  refine ah ?_
  refine ⟨by simp only [Y, lkp, zE, reduceCtorEq, E, a8, D]; exact rfl, rfl, ?_, rfl⟩; (repeat refine aU rfl ?_); exact bu (by exact rfl) hq6
 case b6 => exact br (by first | rfl | (simp [bT]; done) | decide)
 simp only [bf, b9]
 refine ah ?_
 refine hK3 _ ?_; clear hK3; refine ad [0, 1, 2, 22] ?_; simp only [Y, lkp, zE, reduceCtorEq, E, a8, D]
 refine aE (by simp only [ev, Y, lkp, zE, reduceCtorEq, E, a8, D]; exact rfl) (fun hc7 => ?_) (fun hc7 => ?_)
 ·(try simp only [zB, reduceCtorEq] at hc7)
  refine aa fun K8 hK8 => ?_
  refine ai hP hN rfl ?_
  (refine a9 rfl fun K0 V => ?_; simp only [zE, op1, ev, lkp, ag, af, ev, reduceCtorEq, E, D, G, U, J, M, Tryd.td3, Mpr.av]; refine V _ ?_; clear V K0; simp only [put, app, Z, ae, zE, zS, D])
  refine ah ?_
  refine hK8 _ ?_; clear hK8; refine ad [0, 1, 2, 22] ?_; simp only [Y, lkp, zE, reduceCtorEq, E, a8, D]
  refine aH ?_
  refine ⟨by first | exact .inl rfl | exact .inr rfl, _, rfl, ?_⟩; simp only [fzV, fz1, fzC, List.map_cons, List.map_nil, Y, lkp, zE, reduceCtorEq, E, a8, D, Mpr.av]
  refine VLE.of_eq ?_
  refine congrArg (fun n => AV.one (AC.int IntKind.i64 n)) ?_
  unfold bE
  symm
  first
  | (rw [if_pos (by omega)]; done)
  | (rw [if_neg (by omega), if_pos (by omega)]; done)
  | (rw [if_neg (by omega), if_neg (by omega), if_pos (by omega)]; done)
  | (rw [if_neg (by omega), if_neg (by omega), if_neg (by omega), if_pos (by omega)]; done)
  | (rw [if_neg (by omega), if_neg (by omega), if_neg (by omega), if_neg (by omega), if_pos (by omega)]; done)
  | (rw [if_neg (by omega), if_neg (by omega), if_neg (by omega), if_neg (by omega), if_neg (by omega)]
     first
     | (exact aS hrows (by omega) (by assumption))
     | exact (aS hrows (by omega) (by rw [bY hl9]; decide)).trans (bY hl9)
     | exact (aS hrows (by omega) (by rw [bW hl9 (by omega) hb9]; decide)).trans (bW hl9 (by omega) hb9)
     | exact bz fun i hi => hrows i (by omega))
 ·(try simp only [zB, reduceCtorEq] at hc7)
  refine aI ?_
  refine hK2 _ ?_; clear hK2; refine ad [0, 1, 2, 22] ?_; simp only [Y, lkp, zE, reduceCtorEq, E, a8, D]
  refine aa fun K9 hK9 => ?_
  refine aa fun K10 hK10 => ?_
  refine ai hP hN rfl ?_
  iterate 4 (refine a9 rfl fun K0 V => ?_; simp only [zE, op1, ev, lkp, ag, af, ak, az, Nat.mul_one, ax, ay, acs, Ty.dflt, zG, ao, aF, bC, bm, bg, bh, bB, Nat.div_one, aJ, bi, Ty.size, aG, dite_true, aC, aB, aD, am, aA, aM, reduceCtorEq, E, D, G, U, J, M, Tryd.el22, Tryd.st24, Tryd.td22, Tryd.td24, Tryd.td3, Tryd.td4, Mpr.av]; (repeat refine And.intro (by first | omega | assumption | exact rfl) ?_); (first | refine V _ ?_ | refine Or.inl (V _ ?_)); clear V K0; simp only [put, app, Z, ae, zE, zS, D])
  refine ah ?_
  refine hK10 _ ?_; clear hK10; refine ad [0, 1, 2, 22, 26] ?_; simp only [Y, lkp, zE, reduceCtorEq, E, a8, D]
  refine aE (by simp only [ev, Y, lkp, zE, reduceCtorEq, E, a8, D]; exact rfl) (fun hc11 => ?_) (fun hc11 => ?_)
  ·(try simp only [zB, reduceCtorEq] at hc11)
   refine aa fun K12 hK12 => ?_
   refine ai hP hN rfl ?_
   (refine a9 rfl fun K0 V => ?_; simp only [zE, op1, ev, lkp, ag, af, ev, reduceCtorEq, E, D, G, U, J, M, Tryd.td3, Mpr.av]; refine V _ ?_; clear V K0; simp only [put, app, Z, ae, zE, zS, D])
   refine ah ?_
   refine hK12 _ ?_; clear hK12; refine ad [0, 1, 2, 22, 26] ?_; simp only [Y, lkp, zE, reduceCtorEq, E, a8, D]
   refine aH ?_
   refine ⟨by first | exact .inl rfl | exact .inr rfl, _, rfl, ?_⟩; simp only [fzV, fz1, fzC, List.map_cons, List.map_nil, Y, lkp, zE, reduceCtorEq, E, a8, D, Mpr.av]
   refine VLE.of_eq ?_
   refine congrArg (fun n => AV.one (AC.int IntKind.i64 n)) ?_
   unfold bE
   symm
   first
   | (rw [if_pos (by omega)]; done)
   | (rw [if_neg (by omega), if_pos (by omega)]; done)
   | (rw [if_neg (by omega), if_neg (by omega), if_pos (by omega)]; done)
   | (rw [if_neg (by omega), if_neg (by omega), if_neg (by omega), if_pos (by omega)]; done)
   | (rw [if_neg (by omega), if_neg (by omega), if_neg (by omega), if_neg (by omega), if_pos (by omega)]; done)
   | (rw [if_neg (by omega), if_neg (by omega), if_neg (by omega), if_neg (by omega), if_neg (by omega)]
      first
      | (exact aS hrows (by omega) (by assumption))
      | exact (aS hrows (by omega) (by rw [bY hl9]; decide)).trans (bY hl9)
      | exact (aS hrows (by omega) (by rw [bW hl9 (by omega) hb9]; decide)).trans (bW hl9 (by omega) hb9)
      | exact bz fun i hi => hrows i (by omega))
  ·(try simp only [zB, reduceCtorEq] at hc11)
   refine aI ?_
   refine hK9 _ ?_; clear hK9; refine ad [0, 1, 2, 22, 26] ?_; simp only [Y, lkp, zE, reduceCtorEq, E, a8, D]
   refine aa fun K13 hK13 => ?_
   refine aa fun K14 hK14 => ?_
   refine ai hP hN rfl ?_
   iterate 4 (refine a9 rfl fun K0 V => ?_; simp only [zE, op1, ev, lkp, ag, af, ak, az, Nat.mul_one, ax, ay, acs, Ty.dflt, zG, ao, aF, bC, bm, bg, bh, bB, Nat.div_one, aJ, bi, Ty.size, aG, dite_true, aC, aB, aD, am, aA, aM, reduceCtorEq, E, D, G, U, J, M, Tryd.el22, Tryd.st24, Tryd.td22, Tryd.td24, Tryd.td3, Tryd.td4, Mpr.av]; (repeat refine And.intro (by first | omega | assumption | exact rfl) ?_); (first | refine V _ ?_ | refine Or.inl (V _ ?_)); clear V K0; simp only [put, app, Z, ae, zE, zS, D])
   refine ah ?_
   refine hK14 _ ?_; clear hK14; refine ad [0, 1, 2, 22, 26, 30] ?_; simp only [Y, lkp, zE, reduceCtorEq, E, a8, D]
   refine aE (by simp only [ev, Y, lkp, zE, reduceCtorEq, E, a8, D]; exact rfl) (fun hc15 => ?_) (fun hc15 => ?_)
   ·(try simp only [zB, reduceCtorEq] at hc15)
    refine aa fun K16 hK16 => ?_
    refine ai hP hN rfl ?_
    (refine a9 rfl fun K0 V => ?_; simp only [zE, op1, ev, lkp, ag, af, ev, reduceCtorEq, E, D, G, U, J, M, Tryd.td3, Mpr.av]; refine V _ ?_; clear V K0; simp only [put, app, Z, ae, zE, zS, D])
    refine ah ?_
    refine hK16 _ ?_; clear hK16; refine ad [0, 1, 2, 22, 26, 30] ?_; simp only [Y, lkp, zE, reduceCtorEq, E, a8, D]
    refine aH ?_
    refine ⟨by first | exact .inl rfl | exact .inr rfl, _, rfl, ?_⟩; simp only [fzV, fz1, fzC, List.map_cons, List.map_nil, Y, lkp, zE, reduceCtorEq, E, a8, D, Mpr.av]
    refine VLE.of_eq ?_
    refine congrArg (fun n => AV.one (AC.int IntKind.i64 n)) ?_
    unfold bE
    symm
    first
    | (rw [if_pos (by omega)]; done)
    | (rw [if_neg (by omega), if_pos (by omega)]; done)
    | (rw [if_neg (by omega), if_neg (by omega), if_pos (by omega)]; done)
    | (rw [if_neg (by omega), if_neg (by omega), if_neg (by omega), if_pos (by omega)]; done)
    | (rw [if_neg (by omega), if_neg (by omega), if_neg (by omega), if_neg (by omega), if_pos (by omega)]; done)
    | (rw [if_neg (by omega), if_neg (by omega), if_neg (by omega), if_neg (by omega), if_neg (by omega)]
       first
       | (exact aS hrows (by omega) (by assumption))
       | exact (aS hrows (by omega) (by rw [bY hl9]; decide)).trans (bY hl9)
       | exact (aS hrows (by omega) (by rw [bW hl9 (by omega) hb9]; decide)).trans (bW hl9 (by omega) hb9)
       | exact bz fun i hi => hrows i (by omega))
   ·(try simp only [zB, reduceCtorEq] at hc15)
    refine aI ?_
    refine hK13 _ ?_; clear hK13; refine ad [0, 1, 2, 22, 26, 30] ?_; simp only [Y, lkp, zE, reduceCtorEq, E, a8, D]
    refine aa fun K17 hK17 => ?_
    refine aa fun K18 hK18 => ?_
    refine ai hP hN rfl ?_
    iterate 3 (refine a9 rfl fun K0 V => ?_; simp only [zE, op1, ev, lkp, ag, af, ak, az, Nat.mul_one, ax, ay, acs, Ty.dflt, zG, ao, aC, aB, aD, am, aA, aM, reduceCtorEq, E, D, G, U, J, M, Tryd.st24, Tryd.td2, Tryd.td24, Tryd.td3, Tryd.td4, Mpr.av]; (repeat refine And.intro (by first | omega | assumption | exact rfl) ?_); refine V _ ?_; clear V K0; simp only [put, app, Z, ae, zE, zS, D])
    (refine a9 rfl fun K0 V => ?_; simp only [zE, op1, ev, lkp, ag, af, ev, reduceCtorEq, E, D, G, U, J, M, Tryd.td4, Mpr.av]; refine V _ ?_; clear V K0; simp only [put, app, Z, ae, zE, zS, D])
    refine' aV (want := false) 6 rfl (m := 34) (by simp only [Y, lkp, zE, reduceCtorEq, E, a8, D]; exact rfl) (by kernel_rfl) rfl rfl rfl rfl rfl (fun hg19 => ?a19) ?b19 ?c19
    case a19 =>
     have hq19 := hg19; (try simp only [zB, reduceCtorEq] at hg19); simp only [List.take_succ_cons, List.take_zero, List.cons_append, List.nil_append]
     (refine aq rfl fun K0 V => ?_; simp only [zE, op1, ev, lkp, ag, af, ak, reduceCtorEq, E, D, G, U, J, M, Tryd.st24, Tryd.td2, Tryd.td24, Mpr.av]; (repeat refine And.intro (by first | omega | assumption | exact rfl) ?_); refine V _ ?_; clear V K0; simp only [put, app, Z, ae, zE, zS, D])
     (refine aq rfl fun K0 V => ?_; simp only [zE, op1, ev, lkp, ag, af, az, Nat.mul_one, ax, ay, acs, Ty.dflt, zG, ao, reduceCtorEq, E, D, G, U, J, M, Tryd.td3, Mpr.av]; (repeat refine And.intro (by first | omega | assumption | exact rfl) ?_); refine V _ ?_; clear V K0; simp only [put, app, Z, ae, zE, zS, D])
     (refine aq rfl fun K0 V => ?_; simp only [zE, op1, ev, lkp, ag, af, ak, reduceCtorEq, E, D, G, U, J, M, Tryd.st24, Tryd.td24, Tryd.td3, Mpr.av]; (repeat refine And.intro (by first | omega | assumption | exact rfl) ?_); refine V _ ?_; clear V K0; simp only [put, app, Z, ae, zE, zS, D])
     (refine aq rfl fun K0 V => ?_; simp only [zE, op1, ev, lkp, ag, af, az, Nat.mul_one, ax, ay, acs, Ty.dflt, zG, ao, reduceCtorEq, E, D, G, U, J, M, Tryd.el22, Tryd.td22, Mpr.av]; (repeat refine And.intro (by first | omega | assumption | exact rfl) ?_); refine V _ ?_; clear V K0; simp only [put, app, Z, ae, zE, zS, D])
     (refine aq rfl fun K0 V => ?_; simp only [zE, op1, ev, lkp, ag, af, aF, bC, bm, bg, bh, bB, Nat.div_one, aJ, bi, Ty.size, aG, dite_true, reduceCtorEq, E, D, G, U, J, M, Tryd.el22, Tryd.td22, Tryd.td3, Mpr.av]; (repeat refine And.intro (by first | omega | assumption | exact rfl) ?_); (first | refine V _ ?_ | refine Or.inl (V _ ?_)); clear V K0; simp only [put, app, Z, ae, zE, zS, D])
     (refine aq rfl fun K0 V => ?_; simp only [zE, op1, ev, lkp, ag, af, aC, aB, aD, am, aA, aM, reduceCtorEq, E, D, G, U, J, M, Tryd.td3, Tryd.td4, Mpr.av]; (repeat refine And.intro (by first | omega | assumption | exact rfl) ?_); refine V _ ?_; clear V K0; simp only [put, app, Z, ae, zE, zS, D])
     (refine a9 rfl fun K0 V => ?_; simp only [zE, op1, ev, lkp, ag, af, bo, reduceCtorEq, E, D, G, U, J, M, Tryd.td4, Mpr.av]; refine V _ ?_; clear V K0; simp only [put, app, Z, ae, zE, zS, D])
     refine ah ?_
     refine ⟨by simp only [Y, lkp, zE, reduceCtorEq, E, a8, D]; exact rfl, rfl, ?_, rfl⟩; (repeat refine aU rfl ?_); exact bu (by exact rfl) hq19
    case b19 => exact br (by first | rfl | (simp [bT]; done) | decide)
    simp only [bf, b9]
    refine ah ?_
    refine hK18 _ ?_; clear hK18; refine ad [0, 1, 2, 22, 26, 30, 41] ?_; simp only [Y, lkp, zE, reduceCtorEq, E, a8, D]
    refine aE (by simp only [ev, Y, lkp, zE, reduceCtorEq, E, a8, D]; exact rfl) (fun hc20 => ?_) (fun hc20 => ?_)
    ·(try simp only [zB, reduceCtorEq] at hc20)
     refine aa fun K21 hK21 => ?_
     refine ai hP hN rfl ?_
     (refine a9 rfl fun K0 V => ?_; simp only [zE, op1, ev, lkp, ag, af, ev, reduceCtorEq, E, D, G, U, J, M, Tryd.td3, Mpr.av]; refine V _ ?_; clear V K0; simp only [put, app, Z, ae, zE, zS, D])
     refine ah ?_
     refine hK21 _ ?_; clear hK21; refine ad [0, 1, 2, 22, 26, 30, 41] ?_; simp only [Y, lkp, zE, reduceCtorEq, E, a8, D]
     refine aH ?_
     refine ⟨by first | exact .inl rfl | exact .inr rfl, _, rfl, ?_⟩; simp only [fzV, fz1, fzC, List.map_cons, List.map_nil, Y, lkp, zE, reduceCtorEq, E, a8, D, Mpr.av]
     refine VLE.of_eq ?_
     refine congrArg (fun n => AV.one (AC.int IntKind.i64 n)) ?_
     unfold bE
     symm
     first
     | (rw [if_pos (by omega)]; done)
     | (rw [if_neg (by omega), if_pos (by omega)]; done)
     | (rw [if_neg (by omega), if_neg (by omega), if_pos (by omega)]; done)
     | (rw [if_neg (by omega), if_neg (by omega), if_neg (by omega), if_pos (by omega)]; done)
     | (rw [if_neg (by omega), if_neg (by omega), if_neg (by omega), if_neg (by omega), if_pos (by omega)]; done)
     | (rw [if_neg (by omega), if_neg (by omega), if_neg (by omega), if_neg (by omega), if_neg (by omega)]
        first
        | (exact aS hrows (by omega) (by assumption))
        | exact (aS hrows (by omega) (by rw [bY hl9]; decide)).trans (bY hl9)
        | exact (aS hrows (by omega) (by rw [bW hl9 (by omega) hb9]; decide)).trans (bW hl9 (by omega) hb9)
        | exact bz fun i hi => hrows i (by omega))
    ·(try simp only [zB, reduceCtorEq] at hc20)
     refine aI ?_
     refine hK17 _ ?_; clear hK17; refine ad [0, 1, 2, 22, 26, 30, 41] ?_; simp only [Y, lkp, zE, reduceCtorEq, E, a8, D]
     refine aa fun K22 hK22 => ?_
     refine aa fun K23 hK23 => ?_
     refine ai hP hN rfl ?_
     iterate 7 (refine a9 rfl fun K0 V => ?_; simp only [zE, op1, ev, lkp, ag, af, ak, az, Nat.mul_one, ax, ay, acs, Ty.dflt, zG, ao, aF, bC, bm, bg, bh, bB, Nat.div_one, aJ, bi, Ty.size, aG, dite_true, aC, aB, aD, am, aA, aM, reduceCtorEq, E, D, G, U, J, M, Tryd.el22, Tryd.st24, Tryd.td22, Tryd.td24, Tryd.td3, Tryd.td4, Mpr.av]; (repeat refine And.intro (by first | omega | assumption | exact rfl) ?_); (first | refine V _ ?_ | refine Or.inl (V _ ?_)); clear V K0; simp only [put, app, Z, ae, zE, zS, D])
     refine ah ?_
     refine hK23 _ ?_; clear hK23; refine ad [0, 1, 2, 22, 26, 30, 41, 48] ?_; simp only [Y, lkp, zE, reduceCtorEq, E, a8, D]
     refine aE (by simp only [ev, Y, lkp, zE, reduceCtorEq, E, a8, D]; exact rfl) (fun hc24 => ?_) (fun hc24 => ?_)
     ·(try simp only [zB, reduceCtorEq] at hc24)
      refine aa fun K25 hK25 => ?_
      refine ai hP hN rfl ?_
      (refine a9 rfl fun K0 V => ?_; simp only [zE, op1, ev, lkp, ag, af, ev, reduceCtorEq, E, D, G, U, J, M, Tryd.td3, Mpr.av]; refine V _ ?_; clear V K0; simp only [put, app, Z, ae, zE, zS, D])
      refine ah ?_
      refine hK25 _ ?_; clear hK25; refine ad [0, 1, 2, 22, 26, 30, 41, 48] ?_; simp only [Y, lkp, zE, reduceCtorEq, E, a8, D]
      refine aH ?_
      refine ⟨by first | exact .inl rfl | exact .inr rfl, _, rfl, ?_⟩; simp only [fzV, fz1, fzC, List.map_cons, List.map_nil, Y, lkp, zE, reduceCtorEq, E, a8, D, Mpr.av]
      refine VLE.of_eq ?_
      refine congrArg (fun n => AV.one (AC.int IntKind.i64 n)) ?_
      unfold bE
      symm
      first
      | (rw [if_pos (by omega)]; done)
      | (rw [if_neg (by omega), if_pos (by omega)]; done)
      | (rw [if_neg (by omega), if_neg (by omega), if_pos (by omega)]; done)
      | (rw [if_neg (by omega), if_neg (by omega), if_neg (by omega), if_pos (by omega)]; done)
      | (rw [if_neg (by omega), if_neg (by omega), if_neg (by omega), if_neg (by omega), if_pos (by omega)]; done)
      | (rw [if_neg (by omega), if_neg (by omega), if_neg (by omega), if_neg (by omega), if_neg (by omega)]
         first
         | (exact aS hrows (by omega) (by assumption))
         | exact (aS hrows (by omega) (by rw [bY hl9]; decide)).trans (bY hl9)
         | exact (aS hrows (by omega) (by rw [bW hl9 (by omega) hb9]; decide)).trans (bW hl9 (by omega) hb9)
         | exact bz fun i hi => hrows i (by omega))
     ·(try simp only [zB, reduceCtorEq] at hc24)
      refine aI ?_
      refine hK22 _ ?_; clear hK22; refine ad [0, 1, 2, 22, 26, 30, 41, 48] ?_; simp only [Y, lkp, zE, reduceCtorEq, E, a8, D]
      refine aa fun K26 hK26 => ?_
      refine aa fun K27 hK27 => ?_
      refine ai hP hN rfl ?_
      (refine a9 rfl fun K0 V => ?_; simp only [zE, op1, ev, lkp, ag, af, ev, reduceCtorEq, E, D, G, U, J, M, Tryd.td3, Mpr.av]; refine V _ ?_; clear V K0; simp only [put, app, Z, ae, zE, zS, D])
      refine ah ?_
      refine hK27 _ ?_; clear hK27; refine ad [0, 1, 2, 3, 22, 26, 30, 41, 48] ?_; simp only [Y, lkp, zE, reduceCtorEq, E, a8, D]
      refine aW ?_
      refine bK (fun n28 s28 => ∃ (k : Nat), (k ≤ p.nx.length) ∧ (∀ i, i < k → fg p i = 0) ∧ n28 = p.nx.length - k ∧ s28 = { env := [(1, .one (.ptr 0 0 0 0)), (2, .one (.int .i64 0)), (3, .one (.int .i64 (k : Int)))], L := [.vars 24 [.int .i64 p.inp, .int .i64 p.ab, .int .i64 p.st, .list (.list (.int .i64)) p.nx, .list (.list (.int .i64)) p.sy]] }) ?_ ?_
      ·exact ⟨_, _, aY [1, 2, 3], 0, Nat.zero_le _, fun i hi => by omega, rfl, rfl⟩
      ·rintro n28 s28 ⟨k, hk, hrows, rfl, rfl⟩
       refine aa fun K29 hK29 => ?_
       refine aa fun K30 hK30 => ?_
       refine ai hP hN rfl ?_
       iterate 5 (refine a9 rfl fun K0 V => ?_; simp only [zE, op1, ev, lkp, ag, af, ak, az, Nat.mul_one, ax, ay, acs, Ty.dflt, zG, ao, aF, bC, bm, bg, bh, bB, Nat.div_one, aJ, bi, Ty.size, aG, dite_true, aC, aB, aD, am, aA, aM, reduceCtorEq, E, D, G, U, J, M, Tryd.el22, Tryd.st24, Tryd.td22, Tryd.td24, Tryd.td3, Tryd.td4, Mpr.av]; (repeat refine And.intro (by first | omega | assumption | exact rfl) ?_); (first | refine V _ ?_ | refine Or.inl (V _ ?_)); clear V K0; simp only [put, app, Z, ae, zE, zS, D])
       refine ah ?_
       refine hK30 _ ?_; clear hK30; refine ad [1, 2, 3, 53] ?_; simp only [Y, lkp, zE, reduceCtorEq, E, a8, D]
       refine aE (by simp only [ev, Y, lkp, zE, reduceCtorEq, E, a8, D]; exact rfl) (fun hc31 => ?_) (fun hc31 => ?_)
       ·(try simp only [zB, reduceCtorEq] at hc31)
        refine aI ?_
        refine hK29 _ ?_; clear hK29; refine ad [1, 2, 3, 53] ?_; simp only [Y, lkp, zE, reduceCtorEq, E, a8, D]
        refine aa fun K32 hK32 => ?_
        refine aW ?_
        refine aa fun K33 hK33 => ?_
        refine ai hP hN rfl ?_
        iterate 2 (refine a9 rfl fun K0 V => ?_; simp only [zE, op1, ev, lkp, ag, af, az, Nat.mul_one, ax, ay, acs, Ty.dflt, zG, ao, reduceCtorEq, E, D, G, U, J, M, Tryd.st24, Tryd.td24, Tryd.td3, Mpr.av]; (repeat refine And.intro (by first | omega | assumption | exact rfl) ?_); refine V _ ?_; clear V K0; simp only [put, app, Z, ae, zE, zS, D])
        refine a9 rfl fun K0 V => ?_
        refine aX (h := aL (pz p k (by omega) (by omega) (by omega))) rfl rfl (by first | exact rfl | (simp only [ev, Y, lkp, zE, reduceCtorEq, E, a8, D]; exact rfl)) (by simp only [zE, zG, op1, ev, lkp, ag, af, ar, acs, bj, mv1, mvC, Ty.dflt, reduceCtorEq, E, D, G, U, J, M, Mpr.av]) ?_
        refine V _ ?_; clear V K0; simp only [put, app, Z, ae, zE, zS, D]
        (refine a9 rfl fun K0 V => ?_; simp only [zE, op1, ev, lkp, ag, af, ev, reduceCtorEq, E, D, G, U, J, M, Tryd.td3, Mpr.av]; refine V _ ?_; clear V K0; simp only [put, app, Z, ae, zE, zS, D])
        refine ah ?_
        refine hK33 _ ?_; clear hK33; refine ad [1, 2, 3, 4, 53] ?_; simp only [Y, lkp, zE, reduceCtorEq, E, a8, D]
        refine aa fun K34 hK34 => ?_
        refine ai hP hN rfl ?_
        iterate 2 (refine a9 rfl fun K0 V => ?_; simp only [zE, op1, ev, lkp, ag, af, aC, aB, aD, am, aA, aM, reduceCtorEq, E, D, G, U, J, M, Tryd.td3, Tryd.td4, Mpr.av]; (repeat refine And.intro (by first | omega | assumption | exact rfl) ?_); refine V _ ?_; clear V K0; simp only [put, app, Z, ae, zE, zS, D])
        refine ah ?_
        refine hK34 _ ?_; clear hK34; refine ad [1, 2, 3, 4, 53, 60] ?_; simp only [Y, lkp, zE, reduceCtorEq, E, a8, D]
        refine aE (by simp only [ev, Y, lkp, zE, reduceCtorEq, E, a8, D]; exact rfl) (fun hc35 => ?_) (fun hc35 => ?_)
        ·(try simp only [zB, reduceCtorEq] at hc35)
         refine aa fun K36 hK36 => ?_
         refine ai hP hN rfl ?_
         iterate 2 (refine a9 rfl fun K0 V => ?_; simp only [zE, op1, ev, lkp, ag, af, ev, reduceCtorEq, E, D, G, U, J, M, Tryd.td3, Mpr.av]; refine V _ ?_; clear V K0; simp only [put, app, Z, ae, zE, zS, D])
         refine ah ?_
         refine hK36 _ ?_; clear hK36; refine ad [1, 2, 3, 4, 53, 60] ?_; simp only [Y, lkp, zE, reduceCtorEq, E, a8, D]
         refine aH ?_
         refine ⟨by first | exact .inl rfl | exact .inr rfl, _, rfl, ?_⟩; simp only [fzV, fz1, fzC, List.map_cons, List.map_nil, Y, lkp, zE, reduceCtorEq, E, a8, D, Mpr.av]
         refine VLE.of_eq ?_
         refine congrArg (fun n => AV.one (AC.int IntKind.i64 n)) ?_
         unfold bE
         symm
         first
         | (rw [if_pos (by omega)]; done)
         | (rw [if_neg (by omega), if_pos (by omega)]; done)
         | (rw [if_neg (by omega), if_neg (by omega), if_pos (by omega)]; done)
         | (rw [if_neg (by omega), if_neg (by omega), if_neg (by omega), if_pos (by omega)]; done)
         | (rw [if_neg (by omega), if_neg (by omega), if_neg (by omega), if_neg (by omega), if_pos (by omega)]; done)
         | (rw [if_neg (by omega), if_neg (by omega), if_neg (by omega), if_neg (by omega), if_neg (by omega)]
            first
            | (exact aS hrows (by omega) (by assumption))
            | exact (aS hrows (by omega) (by rw [bY hl9]; decide)).trans (bY hl9)
            | exact (aS hrows (by omega) (by rw [bW hl9 (by omega) hb9]; decide)).trans (bW hl9 (by omega) hb9)
            | exact bz fun i hi => hrows i (by omega))
        ·(try simp only [zB, reduceCtorEq] at hc35)
         refine aI ?_
         refine hK32 _ ?_; clear hK32; refine ad [1, 2, 3, 4, 53, 60] ?_; simp only [Y, lkp, zE, reduceCtorEq, E, a8, D]
         refine ai hP hN rfl ?_
         iterate 3 (refine a9 rfl fun K0 V => ?_; simp only [zE, op1, ev, lkp, ag, af, aC, aB, aD, am, aA, aM, reduceCtorEq, E, D, G, U, J, M, Tryd.td3, Mpr.av]; (repeat refine And.intro (by first | omega | assumption | exact rfl) ?_); refine V _ ?_; clear V K0; simp only [put, app, Z, ae, zE, zS, D])
         refine ah ?_
         refine ⟨_, _, ?_, aY [1, 2, 3], k + 1, by omega, fun i hi => ?_, rfl, rfl⟩
         · omega
         · by_cases e : i = k
           · rw [e]; omega
           · exact hrows i (by omega)
       ·(try simp only [zB, reduceCtorEq] at hc31)
        refine bM ?_
        refine hK26 _ ?_; clear hK26; refine ad [1, 2, 3, 53] ?_; simp only [Y, lkp, zE, reduceCtorEq, E, a8, D]
        refine aa fun K37 hK37 => ?_
        refine ai hP hN rfl ?_
        (refine a9 rfl fun K0 V => ?_; simp only [zE, op1, ev, lkp, ag, af, ev, reduceCtorEq, E, D, G, U, J, M, Tryd.td3, Mpr.av]; refine V _ ?_; clear V K0; simp only [put, app, Z, ae, zE, zS, D])
        refine ah ?_
        refine hK37 _ ?_; clear hK37; refine ad [1, 2, 3, 53] ?_; simp only [Y, lkp, zE, reduceCtorEq, E, a8, D]
        refine aH ?_
        refine ⟨by first | exact .inl rfl | exact .inr rfl, _, rfl, ?_⟩; simp only [fzV, fz1, fzC, List.map_cons, List.map_nil, Y, lkp, zE, reduceCtorEq, E, a8, D, Mpr.av]
        refine VLE.of_eq ?_
        refine congrArg (fun n => AV.one (AC.int IntKind.i64 n)) ?_
        unfold bE
        symm
        first
        | (rw [if_pos (by omega)]; done)
        | (rw [if_neg (by omega), if_pos (by omega)]; done)
        | (rw [if_neg (by omega), if_neg (by omega), if_pos (by omega)]; done)
        | (rw [if_neg (by omega), if_neg (by omega), if_neg (by omega), if_pos (by omega)]; done)
        | (rw [if_neg (by omega), if_neg (by omega), if_neg (by omega), if_neg (by omega), if_pos (by omega)]; done)
        | (rw [if_neg (by omega), if_neg (by omega), if_neg (by omega), if_neg (by omega), if_neg (by omega)]
           first
           | (exact aS hrows (by omega) (by assumption))
           | exact (aS hrows (by omega) (by rw [bY hl9]; decide)).trans (bY hl9)
           | exact (aS hrows (by omega) (by rw [bW hl9 (by omega) hb9]; decide)).trans (bW hl9 (by omega) hb9)
           | exact bz fun i hi => hrows i (by omega))
end Go.Proofs.YtgmgnkmgofkfpaaDoor
namespace Go.Proofs.YtgmgnkmgofkfpaaDoor
open Go Go.AV
open Nat renaming reduceEqDiff → E, reduceAdd → D, reduceLeDiff → G, reduceLT → U, reduceMul → J, reduceSub → M
open List renaming set_cons_zero → aw, set_cons_succ → au
set_option maxRecDepth 100000 in
theorem oR (a b : Mpr) : cf Tryd.prog 13 [a.av, b.av] (.one (.bool (ml a b))) := by
 refine bp Tryd.func13 rfl (by kernel_rfl) (Nat.le_of_ble_eq_true rfl) rfl fun C hP hN hB => ?_
 replace hN : C.N = 38 := hN
 simp only [a8, D]
 refine aa fun K1 hK1 => ?_
 refine ai hP hN rfl ?_
 iterate 3 (refine a9 rfl fun K0 V => ?_; simp only [zE, op1, ev, lkp, ag, af, cQ, ar, reduceCtorEq, E, D, G, U, J, M, Tryd.st24, Tryd.td24, Tryd.td4, Mpr.av]; (repeat refine And.intro (by first | omega | assumption | exact rfl) ?_); refine V _ ?_; clear V K0; simp only [put, app, Z, ae, zE, zS, D])
 refine ah ?_
 refine hK1 _ ?_; clear hK1; refine ad [0, 1, 2, 3, 4] ?_; simp only [Y, lkp, zE, reduceCtorEq, E, a8, D]
 refine aa fun K2 hK2 => ?_
 refine ai hP hN rfl ?_
 iterate 5 (refine a9 rfl fun K0 V => ?_; simp only [zE, op1, ev, lkp, ag, af, ak, az, Nat.mul_one, ax, ay, acs, Ty.dflt, zG, ao, aC, aB, aD, am, aA, aM, reduceCtorEq, E, D, G, U, J, M, Tryd.st24, Tryd.td24, Tryd.td3, Tryd.td4, Mpr.av]; (repeat refine And.intro (by first | omega | assumption | exact rfl) ?_); refine V _ ?_; clear V K0; simp only [put, app, Z, ae, zE, zS, D])
 (refine a9 rfl fun K0 V => ?_; simp only [zE, op1, ev, lkp, ag, af, ev, reduceCtorEq, E, D, G, U, J, M, Tryd.td4, Mpr.av]; refine V _ ?_; clear V K0; simp only [put, app, Z, ae, zE, zS, D])
 refine' aV (want := true) 5 rfl (m := 10) (by simp only [Y, lkp, zE, reduceCtorEq, E, a8, D]; exact rfl) (by kernel_rfl) rfl rfl rfl rfl rfl (fun hg3 => ?a3) ?b3 ?c3
 case a3 =>
  have hq3 := hg3; (try simp only [zB, reduceCtorEq] at hg3); simp only [List.take_succ_cons, List.take_zero, List.cons_append, List.nil_append]
  (refine aq rfl fun K0 V => ?_; simp only [zE, op1, ev, lkp, ag, af, ak, reduceCtorEq, E, D, G, U, J, M, Tryd.st24, Tryd.td1, Tryd.td24, Mpr.av]; (repeat refine And.intro (by first | omega | assumption | exact rfl) ?_); refine V _ ?_; clear V K0; simp only [put, app, Z, ae, zE, zS, D])
  (refine aq rfl fun K0 V => ?_; simp only [zE, op1, ev, lkp, ag, af, az, Nat.mul_one, ax, ay, acs, Ty.dflt, zG, ao, reduceCtorEq, E, D, G, U, J, M, Tryd.td3, Mpr.av]; (repeat refine And.intro (by first | omega | assumption | exact rfl) ?_); refine V _ ?_; clear V K0; simp only [put, app, Z, ae, zE, zS, D])
  (refine aq rfl fun K0 V => ?_; simp only [zE, op1, ev, lkp, ag, af, ak, reduceCtorEq, E, D, G, U, J, M, Tryd.st24, Tryd.td1, Tryd.td24, Mpr.av]; (repeat refine And.intro (by first | omega | assumption | exact rfl) ?_); refine V _ ?_; clear V K0; simp only [put, app, Z, ae, zE, zS, D])
  (refine aq rfl fun K0 V => ?_; simp only [zE, op1, ev, lkp, ag, af, az, Nat.mul_one, ax, ay, acs, Ty.dflt, zG, ao, reduceCtorEq, E, D, G, U, J, M, Tryd.td3, Mpr.av]; (repeat refine And.intro (by first | omega | assumption | exact rfl) ?_); refine V _ ?_; clear V K0; simp only [put, app, Z, ae, zE, zS, D])
  (refine aq rfl fun K0 V => ?_; simp only [zE, op1, ev, lkp, ag, af, aC, aB, aD, am, aA, aM, reduceCtorEq, E, D, G, U, J, M, Tryd.td3, Tryd.td4, Mpr.av]; (repeat refine And.intro (by first | omega | assumption | exact rfl) ?_); refine V _ ?_; clear V K0; simp only [put, app, Z, ae, zE, zS, D])
  (refine a9 rfl fun K0 V => ?_; simp only [zE, op1, ev, lkp, ag, af, bo, reduceCtorEq, E, D, G, U, J, M, Tryd.td4, Mpr.av]; refine V _ ?_; clear V K0; simp only [put, app, Z, ae, zE, zS, D])
  refine ah ?_
  refine ⟨by simp only [Y, lkp, zE, reduceCtorEq, E, a8, D]; exact rfl, rfl, ?_, rfl⟩; (repeat refine aU rfl ?_); exact bu (by exact rfl) hq3
 case b3 => exact br (by first | rfl | (simp [bT]; done) | decide)
 simp only [bf, b9]
 (refine a9 rfl fun K0 V => ?_; simp only [zE, op1, ev, lkp, ag, af, ev, reduceCtorEq, E, D, G, U, J, M, Tryd.td4, Mpr.av]; refine V _ ?_; clear V K0; simp only [put, app, Z, ae, zE, zS, D])
 refine' aV (want := true) 5 rfl (m := 17) (by simp only [Y, lkp, zE, reduceCtorEq, E, a8, D]; exact rfl) (by kernel_rfl) rfl rfl rfl rfl rfl (fun hg4 => ?a4) ?b4 ?c4
 case a4 =>
  have hq4 := hg4; (try simp only [zB, reduceCtorEq] at hg4); simp only [List.take_succ_cons, List.take_zero, List.cons_append, List.nil_append]
  (refine aq rfl fun K0 V => ?_; simp only [zE, op1, ev, lkp, ag, af, ak, reduceCtorEq, E, D, G, U, J, M, Tryd.st24, Tryd.td2, Tryd.td24, Mpr.av]; (repeat refine And.intro (by first | omega | assumption | exact rfl) ?_); refine V _ ?_; clear V K0; simp only [put, app, Z, ae, zE, zS, D])
  (refine aq rfl fun K0 V => ?_; simp only [zE, op1, ev, lkp, ag, af, az, Nat.mul_one, ax, ay, acs, Ty.dflt, zG, ao, reduceCtorEq, E, D, G, U, J, M, Tryd.td3, Mpr.av]; (repeat refine And.intro (by first | omega | assumption | exact rfl) ?_); refine V _ ?_; clear V K0; simp only [put, app, Z, ae, zE, zS, D])
  (refine aq rfl fun K0 V => ?_; simp only [zE, op1, ev, lkp, ag, af, ak, reduceCtorEq, E, D, G, U, J, M, Tryd.st24, Tryd.td2, Tryd.td24, Mpr.av]; (repeat refine And.intro (by first | omega | assumption | exact rfl) ?_); refine V _ ?_; clear V K0; simp only [put, app, Z, ae, zE, zS, D])
  (refine aq rfl fun K0 V => ?_; simp only [zE, op1, ev, lkp, ag, af, az, Nat.mul_one, ax, ay, acs, Ty.dflt, zG, ao, reduceCtorEq, E, D, G, U, J, M, Tryd.td3, Mpr.av]; (repeat refine And.intro (by first | omega | assumption | exact rfl) ?_); refine V _ ?_; clear V K0; simp only [put, app, Z, ae, zE, zS, D])
  (refine aq rfl fun K0 V => ?_; simp only [zE, op1, ev, lkp, ag, af, aC, aB, aD, am, aA, aM, reduceCtorEq, E, D, G, U, J, M, Tryd.td3, Tryd.td4, Mpr.av]; (repeat refine And.intro (by first | omega | assumption | exact rfl) ?_); refine V _ ?_; clear V K0; simp only [put, app, Z, ae, zE, zS, D])
  (refine a9 rfl fun K0 V => ?_; simp only [zE, op1, ev, lkp, ag, af, bo, reduceCtorEq, E, D, G, U, J, M, Tryd.td4, Mpr.av]; refine V _ ?_; clear V K0; simp only [put, app, Z, ae, zE, zS, D])
  refine ah ?_
  refine ⟨by simp only [Y, lkp, zE, reduceCtorEq, E, a8, D]; exact rfl, rfl, ?_, rfl⟩; (repeat refine aU rfl ?_); exact bu (by exact rfl) hq4
 case b4 => exact br (by first | rfl | (simp [bT]; done) | decide)
 simp only [bf, b9]
 (refine a9 rfl fun K0 V => ?_; simp only [zE, op1, ev, lkp, ag, af, ev, reduceCtorEq, E, D, G, U, J, M, Tryd.td4, Mpr.av]; refine V _ ?_; clear V K0; simp only [put, app, Z, ae, zE, zS, D])
 refine' aV (want := true) 5 rfl (m := 24) (by simp only [Y, lkp, zE, reduceCtorEq, E, a8, D]; exact rfl) (by kernel_rfl) rfl rfl rfl rfl rfl (fun hg5 => ?a5) ?b5 ?c5
 case a5 =>
  have hq5 := hg5; (try simp only [zB, reduceCtorEq] at hg5); simp only [List.take_succ_cons, List.take_zero, List.cons_append, List.nil_append]
  (refine aq rfl fun K0 V => ?_; simp only [zE, op1, ev, lkp, ag, af, ak, reduceCtorEq, E, D, G, U, J, M, Tryd.st24, Tryd.td24, Tryd.td3, Mpr.av]; (repeat refine And.intro (by first | omega | assumption | exact rfl) ?_); refine V _ ?_; clear V K0; simp only [put, app, Z, ae, zE, zS, D])
  (refine aq rfl fun K0 V => ?_; simp only [zE, op1, ev, lkp, ag, af, az, Nat.mul_one, ax, ay, acs, Ty.dflt, zG, ao, reduceCtorEq, E, D, G, U, J, M, Tryd.el22, Tryd.td22, Mpr.av]; (repeat refine And.intro (by first | omega | assumption | exact rfl) ?_); refine V _ ?_; clear V K0; simp only [put, app, Z, ae, zE, zS, D])
  (refine aq rfl fun K0 V => ?_; simp only [zE, op1, ev, lkp, ag, af, ak, reduceCtorEq, E, D, G, U, J, M, Tryd.st24, Tryd.td24, Tryd.td3, Mpr.av]; (repeat refine And.intro (by first | omega | assumption | exact rfl) ?_); refine V _ ?_; clear V K0; simp only [put, app, Z, ae, zE, zS, D])
  (refine aq rfl fun K0 V => ?_; simp only [zE, op1, ev, lkp, ag, af, az, Nat.mul_one, ax, ay, acs, Ty.dflt, zG, ao, reduceCtorEq, E, D, G, U, J, M, Tryd.el22, Tryd.td22, Mpr.av]; (repeat refine And.intro (by first | omega | assumption | exact rfl) ?_); refine V _ ?_; clear V K0; simp only [put, app, Z, ae, zE, zS, D])
  refine aq rfl fun K0 V => ?_
  refine aX (h := aL (gD a.nx b.nx)) rfl rfl (by first | exact rfl | (simp only [ev, Y, lkp, zE, reduceCtorEq, E, a8, D]; exact rfl)) (by simp only [zE, zG, op1, ev, lkp, ag, af, ar, acs, bj, mv1, mvC, Ty.dflt, reduceCtorEq, E, D, G, U, J, M, Mpr.av]) ?_
  refine V _ ?_; clear V K0; simp only [put, app, Z, ae, zE, zS, D]
  (refine a9 rfl fun K0 V => ?_; simp only [zE, op1, ev, lkp, ag, af, bo, reduceCtorEq, E, D, G, U, J, M, Tryd.td4, Mpr.av]; refine V _ ?_; clear V K0; simp only [put, app, Z, ae, zE, zS, D])
  refine ah ?_
  refine ⟨by simp only [Y, lkp, zE, reduceCtorEq, E, a8, D]; exact rfl, rfl, ?_, rfl⟩; (repeat refine aU rfl ?_); exact bu (by exact rfl) hq5
 case b5 => exact br (by first | rfl | (simp [bT]; done) | decide)
 simp only [bf, b9]
 (refine a9 rfl fun K0 V => ?_; simp only [zE, op1, ev, lkp, ag, af, ev, reduceCtorEq, E, D, G, U, J, M, Tryd.td4, Mpr.av]; refine V _ ?_; clear V K0; simp only [put, app, Z, ae, zE, zS, D])
 refine' aV (want := true) 5 rfl (m := 31) (by simp only [Y, lkp, zE, reduceCtorEq, E, a8, D]; exact rfl) (by kernel_rfl) rfl rfl rfl rfl rfl (fun hg6 => ?a6) ?b6 ?c6
 case a6 =>
  have hq6 := hg6; (try simp only [zB, reduceCtorEq] at hg6); simp only [List.take_succ_cons, List.take_zero, List.cons_append, List.nil_append]
  (refine aq rfl fun K0 V => ?_; simp only [zE, op1, ev, lkp, ag, af, ak, reduceCtorEq, E, D, G, U, J, M, Tryd.st24, Tryd.td24, Tryd.td4, Mpr.av]; (repeat refine And.intro (by first | omega | assumption | exact rfl) ?_); refine V _ ?_; clear V K0; simp only [put, app, Z, ae, zE, zS, D])
  (refine aq rfl fun K0 V => ?_; simp only [zE, op1, ev, lkp, ag, af, az, Nat.mul_one, ax, ay, acs, Ty.dflt, zG, ao, reduceCtorEq, E, D, G, U, J, M, Tryd.el22, Tryd.td22, Mpr.av]; (repeat refine And.intro (by first | omega | assumption | exact rfl) ?_); refine V _ ?_; clear V K0; simp only [put, app, Z, ae, zE, zS, D])
  (refine aq rfl fun K0 V => ?_; simp only [zE, op1, ev, lkp, ag, af, ak, reduceCtorEq, E, D, G, U, J, M, Tryd.st24, Tryd.td24, Tryd.td4, Mpr.av]; (repeat refine And.intro (by first | omega | assumption | exact rfl) ?_); refine V _ ?_; clear V K0; simp only [put, app, Z, ae, zE, zS, D])
  (refine aq rfl fun K0 V => ?_; simp only [zE, op1, ev, lkp, ag, af, az, Nat.mul_one, ax, ay, acs, Ty.dflt, zG, ao, reduceCtorEq, E, D, G, U, J, M, Tryd.el22, Tryd.td22, Mpr.av]; (repeat refine And.intro (by first | omega | assumption | exact rfl) ?_); refine V _ ?_; clear V K0; simp only [put, app, Z, ae, zE, zS, D])
  refine aq rfl fun K0 V => ?_
  refine aX (h := aL (gD a.sy b.sy)) rfl rfl (by first | exact rfl | (simp only [ev, Y, lkp, zE, reduceCtorEq, E, a8, D]; exact rfl)) (by simp only [zE, zG, op1, ev, lkp, ag, af, ar, acs, bj, mv1, mvC, Ty.dflt, reduceCtorEq, E, D, G, U, J, M, Mpr.av]) ?_
  refine V _ ?_; clear V K0; simp only [put, app, Z, ae, zE, zS, D]
  (refine a9 rfl fun K0 V => ?_; simp only [zE, op1, ev, lkp, ag, af, bo, reduceCtorEq, E, D, G, U, J, M, Tryd.td4, Mpr.av]; refine V _ ?_; clear V K0; simp only [put, app, Z, ae, zE, zS, D])
  refine ah ?_
  refine ⟨by simp only [Y, lkp, zE, reduceCtorEq, E, a8, D]; exact rfl, rfl, ?_, rfl⟩; (repeat refine aU rfl ?_); exact bu (by exact rfl) hq6
 case b6 => exact br (by first | rfl | (simp [bT]; done) | decide)
 simp only [bf, b9]
 (refine a9 rfl fun K0 V => ?_; simp only [zE, op1, ev, lkp, ag, af, ev, reduceCtorEq, E, D, G, U, J, M, Tryd.td4, Mpr.av]; refine V _ ?_; clear V K0; simp only [put, app, Z, ae, zE, zS, D])
 refine ah ?_
 refine hK2 _ ?_; clear hK2; refine ad [0, 1, 2, 3, 4] ?_; simp only [Y, lkp, zE, reduceCtorEq, E, a8, D]
 refine aH ?_
 refine ⟨by first | exact .inl rfl | exact .inr rfl, _, rfl, ?_⟩; simp only [fzV, fz1, fzC, List.map_cons, List.map_nil, Y, lkp, zE, reduceCtorEq, E, a8, D, Mpr.av]
 refine VLE.of_eq ?_
 rfl
end Go.Proofs.YtgmgnkmgofkfpaaDoor
namespace Go.Proofs.YtgmgnkmgofkfpaaDoor
open Go Go.AV
open Nat renaming reduceEqDiff → E, reduceAdd → D, reduceLeDiff → G, reduceLT → U, reduceMul → J, reduceSub → M
open List renaming set_cons_zero → aw, set_cons_succ → au
set_option maxRecDepth 100000 in
theorem pS (p : Mpr) (cl : List Int) : cf Tryd.prog 3 [p.av, .one (.list (.int .i64) cl)] (.one (.bool true)) := by
 refine bp Tryd.func3 rfl (by kernel_rfl) (Nat.le_of_ble_eq_true rfl) rfl fun C hP hN hB => ?_
 replace hN : C.N = 37 := hN
 simp only [a8, D]
 refine aa fun K1 hK1 => ?_
 refine ai hP hN rfl ?_
 iterate 2 (refine a9 rfl fun K0 V => ?_; simp only [zE, op1, ev, lkp, ag, af, cQ, ar, reduceCtorEq, E, D, G, U, J, M, Tryd.st24, Tryd.td24, Tryd.td4, Mpr.av]; (repeat refine And.intro (by first | omega | assumption | exact rfl) ?_); refine V _ ?_; clear V K0; simp only [put, app, Z, ae, zE, zS, D])
 refine ah ?_
 refine hK1 _ ?_; clear hK1; refine ad [0, 1, 2, 4] ?_; simp only [Y, lkp, zE, reduceCtorEq, E, a8, D]
 refine aa fun K2 hK2 => ?_
 refine ai hP hN rfl ?_
 (refine a9 rfl fun K0 V => ?_; simp only [zE, op1, ev, lkp, ag, af, ev, reduceCtorEq, E, D, G, U, J, M, Tryd.el25, Tryd.td25, Mpr.av]; refine V _ ?_; clear V K0; simp only [put, app, Z, ae, zE, zS, D])
 refine a9 rfl fun K0 V => ?_
 refine aX (h := aL (iI cl)) rfl rfl (by first | exact rfl | (simp only [ev, Y, lkp, zE, reduceCtorEq, E, a8, D]; exact rfl)) (by simp only [zE, zG, op1, ev, lkp, ag, af, ar, acs, bj, mv1, mvC, Ty.dflt, reduceCtorEq, E, D, G, U, J, M, Mpr.av]) ?_
 refine V _ ?_; clear V K0; simp only [put, app, Z, ae, zE, zS, D]
 iterate 6 (refine a9 rfl fun K0 V => ?_; simp only [zE, op1, ev, lkp, ag, af, bQ, cg, bH, Nat.mul_one, ar, aQ, aG, acs, Ty.size, Ty.dflt, zG, reduceCtorEq, E, D, G, U, J, M, Tryd.st24, Tryd.td1, Tryd.td24, Tryd.td26, Mpr.av]; (repeat refine And.intro (by first | omega | assumption | exact rfl) ?_); (first | refine V _ ?_ | refine Or.inl (V _ ?_)); clear V K0; simp only [put, app, Z, ae, zE, zS, D])
 refine ah ?_
 refine hK2 _ ?_; clear hK2; refine ad [0, 1, 2, 4, 5, 6] ?_; simp only [Y, lkp, zE, reduceCtorEq, E, a8, D]
 refine aa fun K3 hK3 => ?_
 refine ai hP hN rfl ?_
 (refine a9 rfl fun K0 V => ?_; simp only [zE, op1, ev, lkp, ag, af, ev, reduceCtorEq, E, D, G, U, J, M, Tryd.el25, Tryd.td25, Mpr.av]; refine V _ ?_; clear V K0; simp only [put, app, Z, ae, zE, zS, D])
 refine a9 rfl fun K0 V => ?_
 refine aX (h := aL (oM cl)) rfl rfl (by first | exact rfl | (simp only [ev, Y, lkp, zE, reduceCtorEq, E, a8, D]; exact rfl)) (by simp only [zE, zG, op1, ev, lkp, ag, af, ar, acs, bj, mv1, mvC, Ty.dflt, reduceCtorEq, E, D, G, U, J, M, Mpr.av]) ?_
 refine V _ ?_; clear V K0; simp only [put, app, Z, ae, zE, zS, D]
 iterate 6 (refine a9 rfl fun K0 V => ?_; simp only [zE, op1, ev, lkp, ag, af, bQ, cg, bH, Nat.mul_one, ar, aQ, aG, acs, Ty.size, Ty.dflt, zG, reduceCtorEq, E, D, G, U, J, M, Tryd.st24, Tryd.td1, Tryd.td24, Tryd.td3, Mpr.av]; (repeat refine And.intro (by first | omega | assumption | exact rfl) ?_); (first | refine V _ ?_ | refine Or.inl (V _ ?_)); clear V K0; simp only [put, app, Z, ae, zE, zS, D])
 refine ah ?_
 refine hK3 _ ?_; clear hK3; refine ad [0, 1, 2, 4, 5, 6, 7, 8] ?_; simp only [Y, lkp, zE, reduceCtorEq, E, a8, D]
 refine aa fun K4 hK4 => ?_
 refine c0 hP hN Tryd.mixed rfl ?_
 (refine a9 rfl fun K0 V => ?_; simp only [zE, op1, ev, lkp, ag, af, az, Nat.mul_one, ax, ay, acs, Ty.dflt, zG, ao, reduceCtorEq, E, D, G, U, J, M, Tryd.st24, Tryd.td24, Mpr.av]; (repeat refine And.intro (by first | omega | assumption | exact rfl) ?_); refine V _ ?_; clear V K0; simp only [put, app, Z, ae, zE, zS, D])
 refine a9 rfl fun K0 V => ?_
 refine aX (h := aL (fj p)) rfl rfl (by first | exact rfl | (simp only [ev, Y, lkp, zE, reduceCtorEq, E, a8, D]; exact rfl)) (by simp only [zE, zG, op1, ev, lkp, ag, af, ar, acs, bj, mv1, mvC, Ty.dflt, reduceCtorEq, E, D, G, U, J, M, Mpr.av]) ?_
 refine V _ ?_; clear V K0; simp only [put, app, Z, ae, zE, zS, D]
 (refine a9 rfl fun K0 V => ?_; simp only [zE, op1, ev, lkp, ag, af, az, Nat.mul_one, ax, ay, acs, Ty.dflt, zG, ao, reduceCtorEq, E, D, G, U, J, M, Tryd.st24, Tryd.td24, Mpr.av]; (repeat refine And.intro (by first | omega | assumption | exact rfl) ?_); refine V _ ?_; clear V K0; simp only [put, app, Z, ae, zE, zS, D])
 refine a9 rfl fun K0 V => ?_
 refine aX (h := aL (mi p)) rfl rfl (by first | exact rfl | (simp only [ev, Y, lkp, zE, reduceCtorEq, E, a8, D]; exact rfl)) (by simp only [zE, zG, op1, ev, lkp, ag, af, ar, acs, bj, mv1, mvC, Ty.dflt, reduceCtorEq, E, D, G, U, J, M, Mpr.av]) ?_
 refine V _ ?_; clear V K0; simp only [put, app, Z, ae, zE, zS, D]
 (refine a9 rfl fun K0 V => ?_; simp only [zE, op1, ev, lkp, ag, af, aC, aB, aD, am, aA, aM, reduceCtorEq, E, D, G, U, J, M, Tryd.td3, Tryd.td4, Mpr.av]; (repeat refine And.intro (by first | omega | assumption | exact rfl) ?_); refine V _ ?_; clear V K0; simp only [put, app, Z, ae, zE, zS, D])
 (refine a9 rfl fun K0 V => ?_; simp only [zE, op1, ev, lkp, ag, af, ev, reduceCtorEq, E, D, G, U, J, M, Tryd.td4, Mpr.av]; refine V _ ?_; clear V K0; simp only [put, app, Z, ae, zE, zS, D])
 refine' aV (want := true) 3 rfl (m := 24) (by simp only [Y, lkp, zE, reduceCtorEq, E, a8, D]; exact rfl) (by kernel_rfl) rfl rfl rfl rfl rfl (fun hg5 => ?a5) ?b5 ?c5
 case a5 =>
  have hq5 := hg5; (try simp only [zB, reduceCtorEq] at hg5); simp only [List.take_succ_cons, List.take_zero, List.cons_append, List.nil_append]
  (refine aq rfl fun K0 V => ?_; simp only [zE, op1, ev, lkp, ag, af, az, Nat.mul_one, ax, ay, acs, Ty.dflt, zG, ao, reduceCtorEq, E, D, G, U, J, M, Tryd.st24, Tryd.td24, Mpr.av]; (repeat refine And.intro (by first | omega | assumption | exact rfl) ?_); refine V _ ?_; clear V K0; simp only [put, app, Z, ae, zE, zS, D])
  (refine aq rfl fun K0 V => ?_; simp only [zE, op1, ev, lkp, ag, af, az, Nat.mul_one, ax, ay, acs, Ty.dflt, zG, ao, reduceCtorEq, E, D, G, U, J, M, Tryd.st24, Tryd.td24, Mpr.av]; (repeat refine And.intro (by first | omega | assumption | exact rfl) ?_); refine V _ ?_; clear V K0; simp only [put, app, Z, ae, zE, zS, D])
  refine aq rfl fun K0 V => ?_
  refine aX (h := aL (oR (cM cl) (cM cl))) rfl rfl (by first | exact rfl | (simp only [ev, Y, lkp, zE, reduceCtorEq, E, a8, D]; exact rfl)) (by simp only [zE, zG, op1, ev, lkp, ag, af, ar, acs, bj, mv1, mvC, Ty.dflt, reduceCtorEq, E, D, G, U, J, M, Mpr.av]) ?_
  refine V _ ?_; clear V K0; simp only [put, app, Z, ae, zE, zS, D]
  (refine a9 rfl fun K0 V => ?_; simp only [zE, op1, ev, lkp, ag, af, bo, reduceCtorEq, E, D, G, U, J, M, Tryd.td4, Mpr.av]; refine V _ ?_; clear V K0; simp only [put, app, Z, ae, zE, zS, D])
  refine ah ?_
  refine ⟨by simp only [Y, lkp, zE, reduceCtorEq, E, a8, D]; exact rfl, rfl, ?_, rfl⟩; (repeat refine aU rfl ?_); exact bu (by exact rfl) hq5
 case b5 => exact br (by first | rfl | (simp [bT]; done) | decide)
 simp only [bf, b9]
 (refine a9 rfl fun K0 V => ?_; simp only [zE, op1, ev, lkp, ag, af, ev, reduceCtorEq, E, D, G, U, J, M, Tryd.td4, Mpr.av]; refine V _ ?_; clear V K0; simp only [put, app, Z, ae, zE, zS, D])
 refine' aV (want := true) 3 rfl (m := 29) (by simp only [Y, lkp, zE, reduceCtorEq, E, a8, D]; exact rfl) (by kernel_rfl) rfl rfl rfl rfl rfl (fun hg6 => ?a6) ?b6 ?c6
 case a6 =>
  have hq6 := hg6; (try simp only [zB, reduceCtorEq] at hg6); simp only [List.take_succ_cons, List.take_zero, List.cons_append, List.nil_append]
  (refine aq rfl fun K0 V => ?_; simp only [zE, op1, ev, lkp, ag, af, ev, reduceCtorEq, E, D, G, U, J, M, Tryd.td26, Mpr.av]; refine V _ ?_; clear V K0; simp only [put, app, Z, ae, zE, zS, D])
  (refine aq rfl fun K0 V => ?_; simp only [zE, op1, ev, lkp, ag, af, ev, reduceCtorEq, E, D, G, U, J, M, Tryd.td3, Mpr.av]; refine V _ ?_; clear V K0; simp only [put, app, Z, ae, zE, zS, D])
  (refine aq rfl fun K0 V => ?_; simp only [zE, op1, ev, lkp, ag, af, aC, aB, aD, am, aA, aM, reduceCtorEq, E, D, G, U, J, M, Tryd.td3, Tryd.td4, Mpr.av]; (repeat refine And.intro (by first | omega | assumption | exact rfl) ?_); refine V _ ?_; clear V K0; simp only [put, app, Z, ae, zE, zS, D])
  (refine a9 rfl fun K0 V => ?_; simp only [zE, op1, ev, lkp, ag, af, bo, reduceCtorEq, E, D, G, U, J, M, Tryd.td4, Mpr.av]; refine V _ ?_; clear V K0; simp only [put, app, Z, ae, zE, zS, D])
  refine ah ?_
  refine ⟨by simp only [Y, lkp, zE, reduceCtorEq, E, a8, D]; exact rfl, rfl, ?_, rfl⟩; (repeat refine aU rfl ?_); exact bu (by exact rfl) hq6
 case b6 => exact br (by first | rfl | (simp [bT]; done) | decide)
 simp only [bf, b9]
 (refine a9 rfl fun K0 V => ?_; simp only [zE, op1, ev, lkp, ag, af, ev, reduceCtorEq, E, D, G, U, J, M, Tryd.td4, Mpr.av]; refine V _ ?_; clear V K0; simp only [put, app, Z, ae, zE, zS, D])
 refine' aV (want := true) 1 rfl (m := 34) (by simp only [Y, lkp, zE, reduceCtorEq, E, a8, D]; exact rfl) (by kernel_rfl) rfl rfl rfl rfl rfl (fun hg7 => ?a7) ?b7 ?c7
 case a7 =>
  have hq7 := hg7; (try simp only [zB, reduceCtorEq] at hg7); simp only [List.take_succ_cons, List.take_zero, List.cons_append, List.nil_append]
  refine aq rfl fun K0 V => ?_
  refine aX (h := aL m8) rfl rfl (by first | exact rfl | (simp only [ev, Y, lkp, zE, reduceCtorEq, E, a8, D]; exact rfl)) (by simp only [zE, zG, op1, ev, lkp, ag, af, ar, acs, bj, mv1, mvC, Ty.dflt, reduceCtorEq, E, D, G, U, J, M, Mpr.av]) ?_
  refine V _ ?_; clear V K0; simp only [put, app, Z, ae, zE, zS, D]
  (refine a9 rfl fun K0 V => ?_; simp only [zE, op1, ev, lkp, ag, af, bo, reduceCtorEq, E, D, G, U, J, M, Tryd.td4, Mpr.av]; refine V _ ?_; clear V K0; simp only [put, app, Z, ae, zE, zS, D])
  refine ah ?_
  refine ⟨by simp only [Y, lkp, zE, reduceCtorEq, E, a8, D]; exact rfl, rfl, ?_, rfl⟩; (repeat refine aU rfl ?_); exact bu (by exact rfl) hq7
 case b7 => exact br (by first | rfl | (simp [bT]; done) | decide)
 simp only [bf, b9]
 (refine a9 rfl fun K0 V => ?_; simp only [zE, op1, ev, lkp, ag, af, ev, reduceCtorEq, E, D, G, U, J, M, Tryd.td4, Mpr.av]; refine V _ ?_; clear V K0; simp only [put, app, Z, ae, zE, zS, D])
 refine ah ?_
 refine ⟨by kernel_rfl, ?_⟩
 refine hK4 _ ?_; clear hK4; refine ad [0, 1, 2, 4, 5, 6, 7, 8] ?_; simp only [Y, lkp, zE, reduceCtorEq, E, a8, D]
 refine aH ?_
 refine ⟨by first | exact .inl rfl | exact .inr rfl, _, rfl, ?_⟩; simp only [fzV, fz1, fzC, List.map_cons, List.map_nil, Y, lkp, zE, reduceCtorEq, E, a8, D, Mpr.av]
 refine VLE.of_eq ?_
 first | rfl | (refine congrArg (fun b => AV.one (AC.bool b)) ?_; simp [i9, fH]; done) | (refine congrArg (fun b => AV.one (AC.bool b)) ?_; simp_all [i9, fH]; done)
end Go.Proofs.YtgmgnkmgofkfpaaDoor
