/- Contracts of functions of this seat, each out of a walk through its code, and plain facts on what they compute. Conditions: those that each theorem names. -/
import Derived.Test.YtgmgnkmgofkfpaaDoorW03
set_option linter.unusedSimpArgs false
set_option linter.unusedVariables false
namespace Go.Proofs.YtgmgnkmgofkfpaaDoor
open Go Go.AV
open Nat renaming reduceEqDiff → E, reduceAdd → D, reduceLeDiff → G, reduceLT → U, reduceMul → J, reduceSub → M
open List renaming set_cons_zero → ax, set_cons_succ → aw
set_option maxRecDepth 100000 in
theorem nH (w : List Int) (a b : Int) (w2 : List Int) (a2 b2 : Int) : cd Tryd.prog 25 [.agg [.list (.int .i64) w, .int .i64 a, .int .i64 b], .agg [.list (.int .i64) w2, .int .i64 a2, .int .i64 b2]] (.one (.bool ((decide (w = w2) && decide (a = a2)) && decide (b = b2)))) := by
 refine bn Tryd.func25 rfl (by kernel_rfl) (Nat.le_of_ble_eq_true rfl) rfl fun C hP hN hB => ?_
 replace hN : C.N = 24 := hN
 simp only [a8, D]
 refine aa fun K1 hK1 => ?_
 refine ai hP hN rfl ?_
 iterate 3 (refine a9 rfl fun K0 V => ?_; simp only [zE, op1, ev, lkp, ag, af, cB, ar, reduceCtorEq, E, D, G, U, J, M, Tryd.st50, Tryd.td4, Tryd.td50]; (repeat refine And.intro (by first | omega | assumption | exact rfl) ?_); refine V _ ?_; clear V K0; simp only [put, app, Z, ae, zE, zS, D])
 refine ah ?_
 refine hK1 _ ?_; clear hK1; refine ad [0, 1, 2, 3, 4] ?_; simp only [Y, lkp, zE, reduceCtorEq, E, a8, D]
 refine aa fun K2 hK2 => ?_
 refine ai hP hN rfl ?_
 iterate 4 (refine a9 rfl fun K0 V => ?_; simp only [zE, op1, ev, lkp, ag, af, am, az, Nat.mul_one, au, ay, acs, Ty.dflt, zG, ao, reduceCtorEq, E, D, G, U, J, M, Tryd.el25, Tryd.st50, Tryd.td25, Tryd.td50]; (repeat refine And.intro (by first | omega | assumption | exact rfl) ?_); refine V _ ?_; clear V K0; simp only [put, app, Z, ae, zE, zS, D])
 refine a9 rfl fun K0 V => ?_
 refine aY (h := aM (fA w w2)) rfl rfl (by first | exact rfl | (simp only [ev, Y, lkp, zE, reduceCtorEq, E, a8, D]; exact rfl)) (by simp only [zE, zG, op1, ev, lkp, ag, af, ar, acs, bl, mv1, mvC, Ty.dflt, reduceCtorEq, E, D, G, U, J, M]) ?_
 refine V _ ?_; clear V K0; simp only [put, app, Z, ae, zE, zS, D]
 (refine a9 rfl fun K0 V => ?_; simp only [zE, op1, ev, lkp, ag, af, ev, reduceCtorEq, E, D, G, U, J, M, Tryd.td4]; refine V _ ?_; clear V K0; simp only [put, app, Z, ae, zE, zS, D])
 refine' aX (want := true) 5 rfl (m := 10) (by simp only [Y, lkp, zE, reduceCtorEq, E, a8, D]; exact rfl) (by kernel_rfl) rfl rfl rfl rfl rfl (fun hg3 => ?a3) ?b3 ?c3
 case a3 =>
  have hq3 := hg3; (try simp only [zB, reduceCtorEq] at hg3); simp only [List.take_succ_cons, List.take_zero, List.cons_append, List.nil_append]
  (refine aq rfl fun K0 V => ?_; simp only [zE, op1, ev, lkp, ag, af, am, reduceCtorEq, E, D, G, U, J, M, Tryd.st50, Tryd.td1, Tryd.td50]; (repeat refine And.intro (by first | omega | assumption | exact rfl) ?_); refine V _ ?_; clear V K0; simp only [put, app, Z, ae, zE, zS, D])
  (refine aq rfl fun K0 V => ?_; simp only [zE, op1, ev, lkp, ag, af, az, Nat.mul_one, au, ay, acs, Ty.dflt, zG, ao, reduceCtorEq, E, D, G, U, J, M, Tryd.td3]; (repeat refine And.intro (by first | omega | assumption | exact rfl) ?_); refine V _ ?_; clear V K0; simp only [put, app, Z, ae, zE, zS, D])
  (refine aq rfl fun K0 V => ?_; simp only [zE, op1, ev, lkp, ag, af, am, reduceCtorEq, E, D, G, U, J, M, Tryd.st50, Tryd.td1, Tryd.td50]; (repeat refine And.intro (by first | omega | assumption | exact rfl) ?_); refine V _ ?_; clear V K0; simp only [put, app, Z, ae, zE, zS, D])
  (refine aq rfl fun K0 V => ?_; simp only [zE, op1, ev, lkp, ag, af, az, Nat.mul_one, au, ay, acs, Ty.dflt, zG, ao, reduceCtorEq, E, D, G, U, J, M, Tryd.td3]; (repeat refine And.intro (by first | omega | assumption | exact rfl) ?_); refine V _ ?_; clear V K0; simp only [put, app, Z, ae, zE, zS, D])
  (refine aq rfl fun K0 V => ?_; simp only [zE, op1, ev, lkp, ag, af, aD, aC, aB, ak, aA, aP, reduceCtorEq, E, D, G, U, J, M, Tryd.td3, Tryd.td4]; (repeat refine And.intro (by first | omega | assumption | exact rfl) ?_); refine V _ ?_; clear V K0; simp only [put, app, Z, ae, zE, zS, D])
  (refine a9 rfl fun K0 V => ?_; simp only [zE, op1, ev, lkp, ag, af, bp, reduceCtorEq, E, D, G, U, J, M, Tryd.td4]; refine V _ ?_; clear V K0; simp only [put, app, Z, ae, zE, zS, D])
  refine ah ?_
  refine ⟨by simp only [Y, lkp, zE, reduceCtorEq, E, a8, D]; exact rfl, rfl, ?_, rfl⟩; (repeat refine aW rfl ?_); exact bt (by exact rfl) hq3
 case b3 => exact br (by first | rfl | (simp [bS]; done) | decide)
 simp only [bh, b8]
 (refine a9 rfl fun K0 V => ?_; simp only [zE, op1, ev, lkp, ag, af, ev, reduceCtorEq, E, D, G, U, J, M, Tryd.td4]; refine V _ ?_; clear V K0; simp only [put, app, Z, ae, zE, zS, D])
 refine' aX (want := true) 5 rfl (m := 17) (by simp only [Y, lkp, zE, reduceCtorEq, E, a8, D]; exact rfl) (by kernel_rfl) rfl rfl rfl rfl rfl (fun hg4 => ?a4) ?b4 ?c4
 case a4 =>
  have hq4 := hg4; (try simp only [zB, reduceCtorEq] at hg4); simp only [List.take_succ_cons, List.take_zero, List.cons_append, List.nil_append]
  (refine aq rfl fun K0 V => ?_; simp only [zE, op1, ev, lkp, ag, af, am, reduceCtorEq, E, D, G, U, J, M, Tryd.st50, Tryd.td2, Tryd.td50]; (repeat refine And.intro (by first | omega | assumption | exact rfl) ?_); refine V _ ?_; clear V K0; simp only [put, app, Z, ae, zE, zS, D])
  (refine aq rfl fun K0 V => ?_; simp only [zE, op1, ev, lkp, ag, af, az, Nat.mul_one, au, ay, acs, Ty.dflt, zG, ao, reduceCtorEq, E, D, G, U, J, M, Tryd.td3]; (repeat refine And.intro (by first | omega | assumption | exact rfl) ?_); refine V _ ?_; clear V K0; simp only [put, app, Z, ae, zE, zS, D])
  (refine aq rfl fun K0 V => ?_; simp only [zE, op1, ev, lkp, ag, af, am, reduceCtorEq, E, D, G, U, J, M, Tryd.st50, Tryd.td2, Tryd.td50]; (repeat refine And.intro (by first | omega | assumption | exact rfl) ?_); refine V _ ?_; clear V K0; simp only [put, app, Z, ae, zE, zS, D])
  (refine aq rfl fun K0 V => ?_; simp only [zE, op1, ev, lkp, ag, af, az, Nat.mul_one, au, ay, acs, Ty.dflt, zG, ao, reduceCtorEq, E, D, G, U, J, M, Tryd.td3]; (repeat refine And.intro (by first | omega | assumption | exact rfl) ?_); refine V _ ?_; clear V K0; simp only [put, app, Z, ae, zE, zS, D])
  (refine aq rfl fun K0 V => ?_; simp only [zE, op1, ev, lkp, ag, af, aD, aC, aB, ak, aA, aP, reduceCtorEq, E, D, G, U, J, M, Tryd.td3, Tryd.td4]; (repeat refine And.intro (by first | omega | assumption | exact rfl) ?_); refine V _ ?_; clear V K0; simp only [put, app, Z, ae, zE, zS, D])
  (refine a9 rfl fun K0 V => ?_; simp only [zE, op1, ev, lkp, ag, af, bp, reduceCtorEq, E, D, G, U, J, M, Tryd.td4]; refine V _ ?_; clear V K0; simp only [put, app, Z, ae, zE, zS, D])
  refine ah ?_
  refine ⟨by simp only [Y, lkp, zE, reduceCtorEq, E, a8, D]; exact rfl, rfl, ?_, rfl⟩; (repeat refine aW rfl ?_); exact bt (by exact rfl) hq4
 case b4 => exact br (by first | rfl | (simp [bS]; done) | decide)
 simp only [bh, b8]
 (refine a9 rfl fun K0 V => ?_; simp only [zE, op1, ev, lkp, ag, af, ev, reduceCtorEq, E, D, G, U, J, M, Tryd.td4]; refine V _ ?_; clear V K0; simp only [put, app, Z, ae, zE, zS, D])
 refine ah ?_
 refine hK2 _ ?_; clear hK2; refine ad [0, 1, 2, 3, 4] ?_; simp only [Y, lkp, zE, reduceCtorEq, E, a8, D]
 refine aL ?_
 refine ⟨by first | exact .inl rfl | exact .inr rfl, _, rfl, ?_⟩; simp only [fzV, fz1, fzC, List.map_cons, List.map_nil, Y, lkp, zE, reduceCtorEq, E, a8, D]
 refine VLE.of_eq ?_
 rfl
end Go.Proofs.YtgmgnkmgofkfpaaDoor
namespace Go.Proofs.YtgmgnkmgofkfpaaDoor
open Go Go.AV
open Nat renaming reduceEqDiff → E, reduceAdd → D, reduceLeDiff → G, reduceLT → U, reduceMul → J, reduceSub → M
open List renaming set_cons_zero → ax, set_cons_succ → aw
set_option maxRecDepth 100000 in
set_option maxHeartbeats 2000000 in
theorem jA  : cd Tryd.prog 14 [] (.one (.bool true)) := by
 refine bn Tryd.func14 rfl (by kernel_rfl) (Nat.le_of_ble_eq_true rfl) rfl fun C hP hN hB => ?_
 replace hN : C.N = 135 := hN
 simp only [a8, D]
 refine aa fun K1 hK1 => ?_
 refine ai hP hN rfl ?_
 (refine a9 rfl fun K0 V => ?_; simp only [zE, op1, ev, lkp, ag, af, ev, reduceCtorEq, E, D, G, U, J, M, Tryd.td4, Mpr.av, Mly.av, bu, bo, List.getD_cons_zero]; refine V _ ?_; clear V K0; simp only [put, app, Z, ae, zE, zS, D])
 refine ah ?_
 refine hK1 _ ?_; clear hK1; refine ad [0] ?_; simp only [Y, lkp, zE, reduceCtorEq, E, a8, D]
 refine aa fun K2 hK2 => ?_
 refine ai hP hN rfl ?_
 (refine a9 rfl fun K0 V => ?_; simp only [zE, op1, ev, lkp, ag, af, aZ, bj, bM, rep, aI, aS, ar, Ty.size, reduceCtorEq, E, D, G, U, J, M, Tryd.el25, Tryd.td25, Tryd.td3, Mpr.av, Mly.av, bu, bo, List.getD_cons_zero]; (repeat refine And.intro (by first | omega | assumption | exact rfl) ?_); (first | refine V _ ?_ | refine Or.inl (V _ ?_)); clear V K0; simp only [put, app, Z, ae, zE, zS, D])
 refine a9 rfl fun K0 V => ?_
 refine aY (h := aM (kM [0, 1, 0])) rfl rfl (by first | exact rfl | (simp only [ev, Y, lkp, zE, reduceCtorEq, E, a8, D]; exact rfl)) (by simp only [zE, zG, op1, ev, lkp, ag, af, ar, acs, bl, mv1, mvC, Ty.dflt, reduceCtorEq, E, D, G, U, J, M, Mpr.av, Mly.av, bu, bo, List.getD_cons_zero]) ?_
 refine V _ ?_; clear V K0; simp only [put, app, Z, ae, zE, zS, D]
 iterate 6 (refine a9 rfl fun K0 V => ?_; simp only [zE, op1, ev, lkp, ag, af, bP, co, bK, Nat.mul_one, ar, aS, aI, acs, Ty.size, Ty.dflt, zG, reduceCtorEq, E, D, G, U, J, M, Tryd.st24, Tryd.td1, Tryd.td24, Tryd.td26, Mpr.av, Mly.av, bu, bo, List.getD_cons_zero]; (repeat refine And.intro (by first | omega | assumption | exact rfl) ?_); (first | refine V _ ?_ | refine Or.inl (V _ ?_)); clear V K0; simp only [put, app, Z, ae, zE, zS, D])
 refine ah ?_
 refine hK2 _ ?_; clear hK2; refine ad [0, 1, 2] ?_; simp only [Y, lkp, zE, reduceCtorEq, E, a8, D]
 refine aa fun K3 hK3 => ?_
 refine ai hP hN rfl ?_
 (refine a9 rfl fun K0 V => ?_; simp only [zE, op1, ev, lkp, ag, af, aZ, bj, bM, rep, aI, aS, ar, Ty.size, reduceCtorEq, E, D, G, U, J, M, Tryd.el25, Tryd.td2, Tryd.td25, Mpr.av, Mly.av, bu, bo, List.getD_cons_zero]; (repeat refine And.intro (by first | omega | assumption | exact rfl) ?_); (first | refine V _ ?_ | refine Or.inl (V _ ?_)); clear V K0; simp only [put, app, Z, ae, zE, zS, D])
 refine a9 rfl fun K0 V => ?_
 refine aY (h := aM (kM [1, 0])) rfl rfl (by first | exact rfl | (simp only [ev, Y, lkp, zE, reduceCtorEq, E, a8, D]; exact rfl)) (by simp only [zE, zG, op1, ev, lkp, ag, af, ar, acs, bl, mv1, mvC, Ty.dflt, reduceCtorEq, E, D, G, U, J, M, Mpr.av, Mly.av, bu, bo, List.getD_cons_zero]) ?_
 refine V _ ?_; clear V K0; simp only [put, app, Z, ae, zE, zS, D]
 iterate 6 (refine a9 rfl fun K0 V => ?_; simp only [zE, op1, ev, lkp, ag, af, bP, co, bK, Nat.mul_one, ar, aS, aI, acs, Ty.size, Ty.dflt, zG, reduceCtorEq, E, D, G, U, J, M, Tryd.st24, Tryd.td1, Tryd.td24, Tryd.td26, Mpr.av, Mly.av, bu, bo, List.getD_cons_zero]; (repeat refine And.intro (by first | omega | assumption | exact rfl) ?_); (first | refine V _ ?_ | refine Or.inl (V _ ?_)); clear V K0; simp only [put, app, Z, ae, zE, zS, D])
 refine ah ?_
 refine hK3 _ ?_; clear hK3; refine ad [0, 1, 2, 4] ?_; simp only [Y, lkp, zE, reduceCtorEq, E, a8, D]
 refine aa fun K4 hK4 => ?_
 refine ai hP hN rfl ?_
 iterate 2 (refine a9 rfl fun K0 V => ?_; simp only [zE, op1, ev, lkp, ag, af, az, Nat.mul_one, au, ay, acs, Ty.dflt, zG, ao, aZ, bj, bM, rep, aI, aS, ar, Ty.size, reduceCtorEq, E, D, G, U, J, M, Tryd.el25, Tryd.st24, Tryd.td24, Tryd.td25, Tryd.td3, Mpr.av, Mly.av, bu, bo, List.getD_cons_zero]; (repeat refine And.intro (by first | omega | assumption | exact rfl) ?_); (first | refine V _ ?_ | refine Or.inl (V _ ?_)); clear V K0; simp only [put, app, Z, ae, zE, zS, D])
 refine a9 rfl fun K0 V => ?_
 refine aY (h := aM (ne (dj [0, 1, 0]) [2, 1, 0])) rfl rfl (by first | exact rfl | (simp only [ev, Y, lkp, zE, reduceCtorEq, E, a8, D]; exact rfl)) (by simp only [zE, zG, op1, ev, lkp, ag, af, ar, acs, bl, mv1, mvC, Ty.dflt, reduceCtorEq, E, D, G, U, J, M, Mpr.av, Mly.av, bu, bo, List.getD_cons_zero]) ?_
 refine V _ ?_; clear V K0; simp only [put, app, Z, ae, zE, zS, D]
 iterate 5 (refine a9 rfl fun K0 V => ?_; simp only [zE, op1, ev, lkp, ag, af, bP, reduceCtorEq, E, D, G, U, J, M, Tryd.el25, Tryd.td1, Tryd.td25, Tryd.td26, Mpr.av, Mly.av, bu, bo, List.getD_cons_zero]; refine V _ ?_; clear V K0; simp only [put, app, Z, ae, zE, zS, D])
 refine ah ?_
 refine hK4 _ ?_; clear hK4; refine ad [0, 1, 2, 4, 5, 6] ?_; simp only [Y, lkp, zE, reduceCtorEq, E, a8, D]
 refine aa fun K5 hK5 => ?_
 refine ai hP hN rfl ?_
 iterate 2 (refine a9 rfl fun K0 V => ?_; simp only [zE, op1, ev, lkp, ag, af, az, Nat.mul_one, au, ay, acs, Ty.dflt, zG, ao, aZ, bj, bM, rep, aI, aS, ar, Ty.size, reduceCtorEq, E, D, G, U, J, M, Tryd.el25, Tryd.st24, Tryd.td24, Tryd.td25, Tryd.td3, Mpr.av, Mly.av, bu, bo, List.getD_cons_zero]; (repeat refine And.intro (by first | omega | assumption | exact rfl) ?_); (first | refine V _ ?_ | refine Or.inl (V _ ?_)); clear V K0; simp only [put, app, Z, ae, zE, zS, D])
 refine a9 rfl fun K0 V => ?_
 refine aY (h := aM (mO (dj [0, 1, 0]) [0, 1, 0])) rfl rfl (by first | exact rfl | (simp only [ev, Y, lkp, zE, reduceCtorEq, E, a8, D]; exact rfl)) (by simp only [zE, zG, op1, ev, lkp, ag, af, ar, acs, bl, mv1, mvC, Ty.dflt, reduceCtorEq, E, D, G, U, J, M, Mpr.av, Mly.av, bu, bo, List.getD_cons_zero]) ?_
 refine V _ ?_; clear V K0; simp only [put, app, Z, ae, zE, zS, D]
 iterate 7 (refine a9 rfl fun K0 V => ?_; simp only [zE, op1, ev, lkp, ag, af, bP, reduceCtorEq, E, D, G, U, J, M, Tryd.el25, Tryd.td1, Tryd.td2, Tryd.td25, Tryd.td26, Tryd.td4, Mpr.av, Mly.av, bu, bo, List.getD_cons_zero]; refine V _ ?_; clear V K0; simp only [put, app, Z, ae, zE, zS, D])
 refine ah ?_
 refine hK5 _ ?_; clear hK5; refine ad [0, 1, 2, 4, 5, 6, 7, 8, 9] ?_; simp only [Y, lkp, zE, reduceCtorEq, E, a8, D]
 refine aa fun K6 hK6 => ?_
 refine ai hP hN rfl ?_
 (refine a9 rfl fun K0 V => ?_; simp only [zE, op1, ev, lkp, ag, af, aZ, bj, bM, rep, aI, aS, ar, Ty.size, reduceCtorEq, E, D, G, U, J, M, Tryd.el25, Tryd.td2, Tryd.td25, Mpr.av, Mly.av, bu, bo, List.getD_cons_zero]; (repeat refine And.intro (by first | omega | assumption | exact rfl) ?_); (first | refine V _ ?_ | refine Or.inl (V _ ?_)); clear V K0; simp only [put, app, Z, ae, zE, zS, D])
 refine a9 rfl fun K0 V => ?_
 refine aY (h := aM (kM [0, 0])) rfl rfl (by first | exact rfl | (simp only [ev, Y, lkp, zE, reduceCtorEq, E, a8, D]; exact rfl)) (by simp only [zE, zG, op1, ev, lkp, ag, af, ar, acs, bl, mv1, mvC, Ty.dflt, reduceCtorEq, E, D, G, U, J, M, Mpr.av, Mly.av, bu, bo, List.getD_cons_zero]) ?_
 refine V _ ?_; clear V K0; simp only [put, app, Z, ae, zE, zS, D]
 iterate 6 (refine a9 rfl fun K0 V => ?_; simp only [zE, op1, ev, lkp, ag, af, bP, co, bK, Nat.mul_one, ar, aS, aI, acs, Ty.size, Ty.dflt, zG, reduceCtorEq, E, D, G, U, J, M, Tryd.st24, Tryd.td1, Tryd.td24, Tryd.td26, Mpr.av, Mly.av, bu, bo, List.getD_cons_zero]; (repeat refine And.intro (by first | omega | assumption | exact rfl) ?_); (first | refine V _ ?_ | refine Or.inl (V _ ?_)); clear V K0; simp only [put, app, Z, ae, zE, zS, D])
 refine ah ?_
 refine hK6 _ ?_; clear hK6; refine ad [0, 1, 2, 4, 5, 6, 7, 8, 9, 10] ?_; simp only [Y, lkp, zE, reduceCtorEq, E, a8, D]
 refine aa fun K7 hK7 => ?_
 refine fx ?_; simp only [List.cons_append, List.append_assoc, List.nil_append]
 refine fx ?_; simp only [List.cons_append, List.append_assoc, List.nil_append]
 refine bW hP hN Tryd.mixed rfl ?_
 refine a9 rfl fun K0 V => ?_
 refine aY (h := aM jX) rfl rfl (by first | exact rfl | (simp only [ev, Y, lkp, zE, reduceCtorEq, E, a8, D]; exact rfl)) (by simp only [zE, zG, op1, ev, lkp, ag, af, ar, acs, bl, mv1, mvC, Ty.dflt, reduceCtorEq, E, D, G, U, J, M, Mpr.av, Mly.av, bu, bo, List.getD_cons_zero]) ?_
 refine V _ ?_; clear V K0; simp only [put, app, Z, ae, zE, zS, D]
 (refine a9 rfl fun K0 V => ?_; simp only [zE, op1, ev, lkp, ag, af, az, Nat.mul_one, au, ay, acs, Ty.dflt, zG, ao, reduceCtorEq, E, D, G, U, J, M, Tryd.st24, Tryd.td24, Mpr.av, Mly.av, bu, bo, List.getD_cons_zero]; (repeat refine And.intro (by first | omega | assumption | exact rfl) ?_); refine V _ ?_; clear V K0; simp only [put, app, Z, ae, zE, zS, D])
 refine a9 rfl fun K0 V => ?_
 refine aY (h := aM qy) rfl rfl (by first | exact rfl | (simp only [ev, Y, lkp, zE, reduceCtorEq, E, a8, D]; exact rfl)) (by simp only [zE, zG, op1, ev, lkp, ag, af, ar, acs, bl, mv1, mvC, Ty.dflt, reduceCtorEq, E, D, G, U, J, M, Mpr.av, Mly.av, bu, bo, List.getD_cons_zero]) ?_
 refine V _ ?_; clear V K0; simp only [put, app, Z, ae, zE, zS, D]
 iterate 5 (refine a9 rfl fun K0 V => ?_; simp only [zE, op1, ev, lkp, ag, af, bP, reduceCtorEq, E, D, G, U, J, M, Tryd.st47, Tryd.st50, Tryd.td1, Tryd.td2, Tryd.td26, Tryd.td3, Tryd.td4, Tryd.td47, Tryd.td50, Mpr.av, Mly.av, bu, bo, List.getD_cons_zero]; refine V _ ?_; clear V K0; simp only [put, app, Z, ae, zE, zS, D])
 (refine a9 rfl fun K0 V => ?_; simp only [zE, op1, ev, lkp, ag, af, co, reduceCtorEq, E, D, G, U, J, M, Tryd.st47, Tryd.td47, Mpr.av, Mly.av, bu, bo, List.getD_cons_zero]; refine Or.inr (Or.inl ⟨3, ?_, (.pair (.int .i64) (.pair (.int .i64) (.pair (.list (.list (.int .i64))) (.pair (.list (.list (.int .i64))) .unit)))), (0, (0, ([], ([], ())))), ?_⟩); (exact rfl); (repeat refine And.intro (by first | rfl | decide) ?_); refine V _ ?_; clear V K0; simp only [put, app, Z, ae, zE, zS, D])
 (refine a9 rfl fun K0 V => ?_; simp only [zE, op1, ev, lkp, ag, af, co, reduceCtorEq, E, D, G, U, J, M, Tryd.st50, Tryd.td50, Mpr.av, Mly.av, bu, bo, List.getD_cons_zero]; refine Or.inr (Or.inl ⟨4, ?_, (.pair (.list (.int .i64)) (.pair (.int .i64) (.pair (.int .i64) .unit))), ([], (0, (0, ()))), ?_⟩); (exact rfl); (repeat refine And.intro (by first | rfl | decide) ?_); refine V _ ?_; clear V K0; simp only [put, app, Z, ae, zE, zS, D])
 iterate 4 (refine a9 rfl fun K0 V => ?_; simp only [zE, op1, ev, lkp, ag, af, bK, Nat.mul_one, ar, aS, aI, acs, Ty.size, Ty.dflt, zG, reduceCtorEq, E, D, G, U, J, M, Tryd.st47, Tryd.st50, Tryd.td26, Tryd.td4, Tryd.td47, Tryd.td50, Mpr.av, Mly.av, bu, bo, List.getD_cons_zero]; (repeat refine And.intro (by first | omega | assumption | exact rfl) ?_); refine V _ ?_; clear V K0; simp only [put, app, Z, ae, zE, zS, D])
 refine ah ?_
 refine ⟨by kernel_rfl, ?_⟩
 refine hK7 _ ?_; clear hK7; refine ad [0, 1, 2, 4, 5, 6, 7, 8, 9, 10, 13, 14, 15] ?_; simp only [Y, lkp, zE, reduceCtorEq, E, a8, D]
 refine aa fun K8 hK8 => ?_
 refine ai hP hN rfl ?_
 iterate 9 (refine a9 rfl fun K0 V => ?_; simp only [zE, op1, ev, lkp, ag, af, aZ, bj, bM, rep, aI, aS, ar, Ty.size, cm, co, bK, Nat.mul_one, acs, Ty.dflt, zG, reduceCtorEq, E, D, G, U, J, M, Tryd.el22, Tryd.el25, Tryd.st24, Tryd.td2, Tryd.td22, Tryd.td24, Tryd.td25, Mpr.av, Mly.av, bu, bo, List.getD_cons_zero]; (repeat refine And.intro (by first | omega | assumption | exact rfl) ?_); (first | refine V _ ?_ | refine Or.inl (V _ ?_)); clear V K0; simp only [put, app, Z, ae, zE, zS, D])
 refine ah ?_
 refine hK8 _ ?_; clear hK8; refine ad [0, 1, 2, 4, 5, 6, 7, 8, 9, 10, 13, 14, 15, 16] ?_; simp only [Y, lkp, zE, reduceCtorEq, E, a8, D]
 refine aa fun K9 hK9 => ?_
 refine fx ?_; simp only [List.cons_append, List.append_assoc, List.nil_append]
 refine fx ?_; simp only [List.cons_append, List.append_assoc, List.nil_append]
 refine bW hP hN Tryd.mixed rfl ?_
 refine a9 rfl fun K0 V => ?_
 refine aY (h := aM jX) rfl rfl (by first | exact rfl | (simp only [ev, Y, lkp, zE, reduceCtorEq, E, a8, D]; exact rfl)) (by simp only [zE, zG, op1, ev, lkp, ag, af, ar, acs, bl, mv1, mvC, Ty.dflt, reduceCtorEq, E, D, G, U, J, M, Mpr.av, Mly.av, bu, bo, List.getD_cons_zero]) ?_
 refine V _ ?_; clear V K0; simp only [put, app, Z, ae, zE, zS, D]
 (refine a9 rfl fun K0 V => ?_; simp only [zE, op1, ev, lkp, ag, af, az, Nat.mul_one, au, ay, acs, Ty.dflt, zG, ao, reduceCtorEq, E, D, G, U, J, M, Tryd.st24, Tryd.td24, Mpr.av, Mly.av, bu, bo, List.getD_cons_zero]; (repeat refine And.intro (by first | omega | assumption | exact rfl) ?_); refine V _ ?_; clear V K0; simp only [put, app, Z, ae, zE, zS, D])
 refine a9 rfl fun K0 V => ?_
 refine aY (h := aM qz) rfl rfl (by first | exact rfl | (simp only [ev, Y, lkp, zE, reduceCtorEq, E, a8, D]; exact rfl)) (by simp only [zE, zG, op1, ev, lkp, ag, af, ar, acs, bl, mv1, mvC, Ty.dflt, reduceCtorEq, E, D, G, U, J, M, Mpr.av, Mly.av, bu, bo, List.getD_cons_zero]) ?_
 refine V _ ?_; clear V K0; simp only [put, app, Z, ae, zE, zS, D]
 iterate 5 (refine a9 rfl fun K0 V => ?_; simp only [zE, op1, ev, lkp, ag, af, bP, reduceCtorEq, E, D, G, U, J, M, Tryd.st47, Tryd.st50, Tryd.td1, Tryd.td2, Tryd.td26, Tryd.td3, Tryd.td4, Tryd.td47, Tryd.td50, Mpr.av, Mly.av, bu, bo, List.getD_cons_zero]; refine V _ ?_; clear V K0; simp only [put, app, Z, ae, zE, zS, D])
 (refine a9 rfl fun K0 V => ?_; simp only [zE, op1, ev, lkp, ag, af, co, reduceCtorEq, E, D, G, U, J, M, Tryd.st47, Tryd.td47, Mpr.av, Mly.av, bu, bo, List.getD_cons_zero]; refine Or.inr (Or.inl ⟨6, ?_, (.pair (.int .i64) (.pair (.int .i64) (.pair (.list (.list (.int .i64))) (.pair (.list (.list (.int .i64))) .unit)))), (0, (0, ([], ([], ())))), ?_⟩); (exact rfl); (repeat refine And.intro (by first | rfl | decide) ?_); refine V _ ?_; clear V K0; simp only [put, app, Z, ae, zE, zS, D])
 (refine a9 rfl fun K0 V => ?_; simp only [zE, op1, ev, lkp, ag, af, co, reduceCtorEq, E, D, G, U, J, M, Tryd.st50, Tryd.td50, Mpr.av, Mly.av, bu, bo, List.getD_cons_zero]; refine Or.inr (Or.inl ⟨7, ?_, (.pair (.list (.int .i64)) (.pair (.int .i64) (.pair (.int .i64) .unit))), ([], (0, (0, ()))), ?_⟩); (exact rfl); (repeat refine And.intro (by first | rfl | decide) ?_); refine V _ ?_; clear V K0; simp only [put, app, Z, ae, zE, zS, D])
 iterate 4 (refine a9 rfl fun K0 V => ?_; simp only [zE, op1, ev, lkp, ag, af, bK, Nat.mul_one, ar, aS, aI, acs, Ty.size, Ty.dflt, zG, reduceCtorEq, E, D, G, U, J, M, Tryd.st47, Tryd.st50, Tryd.td26, Tryd.td4, Tryd.td47, Tryd.td50, Mpr.av, Mly.av, bu, bo, List.getD_cons_zero]; (repeat refine And.intro (by first | omega | assumption | exact rfl) ?_); refine V _ ?_; clear V K0; simp only [put, app, Z, ae, zE, zS, D])
 refine ah ?_
 refine ⟨by kernel_rfl, ?_⟩
 refine hK9 _ ?_; clear hK9; refine ad [0, 1, 2, 4, 5, 6, 7, 8, 9, 10, 13, 14, 15, 16, 17, 19, 20] ?_; simp only [Y, lkp, zE, reduceCtorEq, E, a8, D]
 refine aa fun K10 hK10 => ?_
 refine aa fun K11 hK11 => ?_
 refine ai hP hN rfl ?_
 iterate 2 (refine a9 rfl fun K0 V => ?_; simp only [zE, op1, ev, lkp, ag, af, aD, aC, aB, ak, aA, aP, reduceCtorEq, E, D, G, U, J, M, Tryd.td26, Tryd.td4, Mpr.av, Mly.av, bu, bo, List.getD_cons_zero]; (repeat refine And.intro (by first | omega | assumption | exact rfl) ?_); refine V _ ?_; clear V K0; simp only [put, app, Z, ae, zE, zS, D])
 (refine a9 rfl fun K0 V => ?_; simp only [zE, op1, ev, lkp, ag, af, ev, reduceCtorEq, E, D, G, U, J, M, Tryd.td4, Mpr.av, Mly.av, bu, bo, List.getD_cons_zero]; refine V _ ?_; clear V K0; simp only [put, app, Z, ae, zE, zS, D])
 refine' aX (want := false) 2 rfl (m := 74) (by simp only [Y, lkp, zE, reduceCtorEq, E, a8, D]; exact rfl) (by kernel_rfl) rfl rfl rfl rfl rfl (fun hg12 => ?a12) ?b12 ?c12
 case a12 =>
  have hq12 := hg12; (try simp only [zB, reduceCtorEq] at hg12); simp only [List.take_succ_cons, List.take_zero, List.cons_append, List.nil_append]
  (refine aq rfl fun K0 V => ?_; simp only [zE, op1, ev, lkp, ag, af, ev, reduceCtorEq, E, D, G, U, J, M, Tryd.td26, Mpr.av, Mly.av, bu, bo, List.getD_cons_zero]; refine V _ ?_; clear V K0; simp only [put, app, Z, ae, zE, zS, D])
  (refine aq rfl fun K0 V => ?_; simp only [zE, op1, ev, lkp, ag, af, aD, aC, aB, ak, aA, aP, reduceCtorEq, E, D, G, U, J, M, Tryd.td26, Tryd.td4, Mpr.av, Mly.av, bu, bo, List.getD_cons_zero]; (repeat refine And.intro (by first | omega | assumption | exact rfl) ?_); refine V _ ?_; clear V K0; simp only [put, app, Z, ae, zE, zS, D])
  (refine a9 rfl fun K0 V => ?_; simp only [zE, op1, ev, lkp, ag, af, bp, reduceCtorEq, E, D, G, U, J, M, Tryd.td4, Mpr.av, Mly.av, bu, bo, List.getD_cons_zero]; refine V _ ?_; clear V K0; simp only [put, app, Z, ae, zE, zS, D])
  refine ah ?_
  refine ⟨by simp only [Y, lkp, zE, reduceCtorEq, E, a8, D]; exact rfl, rfl, ?_, rfl⟩; (repeat refine aW rfl ?_); exact bt (by exact rfl) hq12
 case b12 => exact br (by first | rfl | (simp [bS]; done) | decide)
 simp only [bh, b8]
 (refine a9 rfl fun K0 V => ?_; simp only [zE, op1, ev, lkp, ag, af, ev, reduceCtorEq, E, D, G, U, J, M, Tryd.td4, Mpr.av, Mly.av, bu, bo, List.getD_cons_zero]; refine V _ ?_; clear V K0; simp only [put, app, Z, ae, zE, zS, D])
 refine' aX (want := false) 2 rfl (m := 78) (by simp only [Y, lkp, zE, reduceCtorEq, E, a8, D]; exact rfl) (by kernel_rfl) rfl rfl rfl rfl rfl (fun hg13 => ?a13) ?b13 ?c13
 case a13 =>
  have hq13 := hg13; (try simp only [zB, reduceCtorEq] at hg13); simp only [List.take_succ_cons, List.take_zero, List.cons_append, List.nil_append]
  (refine aq rfl fun K0 V => ?_; simp only [zE, op1, ev, lkp, ag, af, ev, reduceCtorEq, E, D, G, U, J, M, Tryd.td26, Mpr.av, Mly.av, bu, bo, List.getD_cons_zero]; refine V _ ?_; clear V K0; simp only [put, app, Z, ae, zE, zS, D])
  (refine aq rfl fun K0 V => ?_; simp only [zE, op1, ev, lkp, ag, af, aD, aC, aB, ak, aA, aP, reduceCtorEq, E, D, G, U, J, M, Tryd.td26, Tryd.td4, Mpr.av, Mly.av, bu, bo, List.getD_cons_zero]; (repeat refine And.intro (by first | omega | assumption | exact rfl) ?_); refine V _ ?_; clear V K0; simp only [put, app, Z, ae, zE, zS, D])
  (refine a9 rfl fun K0 V => ?_; simp only [zE, op1, ev, lkp, ag, af, bp, reduceCtorEq, E, D, G, U, J, M, Tryd.td4, Mpr.av, Mly.av, bu, bo, List.getD_cons_zero]; refine V _ ?_; clear V K0; simp only [put, app, Z, ae, zE, zS, D])
  refine ah ?_
  refine ⟨by simp only [Y, lkp, zE, reduceCtorEq, E, a8, D]; exact rfl, rfl, ?_, rfl⟩; (repeat refine aW rfl ?_); exact bt (by exact rfl) hq13
 case b13 => exact br (by first | rfl | (simp [bS]; done) | decide)
 simp only [bh, b8]
 (refine a9 rfl fun K0 V => ?_; simp only [zE, op1, ev, lkp, ag, af, ev, reduceCtorEq, E, D, G, U, J, M, Tryd.td4, Mpr.av, Mly.av, bu, bo, List.getD_cons_zero]; refine V _ ?_; clear V K0; simp only [put, app, Z, ae, zE, zS, D])
 refine' aX (want := false) 2 rfl (m := 82) (by simp only [Y, lkp, zE, reduceCtorEq, E, a8, D]; exact rfl) (by kernel_rfl) rfl rfl rfl rfl rfl (fun hg14 => ?a14) ?b14 ?c14
 case a14 =>
  have hq14 := hg14; (try simp only [zB, reduceCtorEq] at hg14); simp only [List.take_succ_cons, List.take_zero, List.cons_append, List.nil_append]
  (refine aq rfl fun K0 V => ?_; simp only [zE, op1, ev, lkp, ag, af, ev, reduceCtorEq, E, D, G, U, J, M, Tryd.td26, Mpr.av, Mly.av, bu, bo, List.getD_cons_zero]; refine V _ ?_; clear V K0; simp only [put, app, Z, ae, zE, zS, D])
  (refine aq rfl fun K0 V => ?_; simp only [zE, op1, ev, lkp, ag, af, aD, aC, aB, ak, aA, aP, reduceCtorEq, E, D, G, U, J, M, Tryd.td26, Tryd.td4, Mpr.av, Mly.av, bu, bo, List.getD_cons_zero]; (repeat refine And.intro (by first | omega | assumption | exact rfl) ?_); refine V _ ?_; clear V K0; simp only [put, app, Z, ae, zE, zS, D])
  (refine a9 rfl fun K0 V => ?_; simp only [zE, op1, ev, lkp, ag, af, bp, reduceCtorEq, E, D, G, U, J, M, Tryd.td4, Mpr.av, Mly.av, bu, bo, List.getD_cons_zero]; refine V _ ?_; clear V K0; simp only [put, app, Z, ae, zE, zS, D])
  refine ah ?_
  refine ⟨by simp only [Y, lkp, zE, reduceCtorEq, E, a8, D]; exact rfl, rfl, ?_, rfl⟩; (repeat refine aW rfl ?_); exact bt (by exact rfl) hq14
 case b14 => exact br (by first | rfl | (simp [bS]; done) | decide)
 simp only [bh, b8]
 (refine a9 rfl fun K0 V => ?_; simp only [zE, op1, ev, lkp, ag, af, ev, reduceCtorEq, E, D, G, U, J, M, Tryd.td4, Mpr.av, Mly.av, bu, bo, List.getD_cons_zero]; refine V _ ?_; clear V K0; simp only [put, app, Z, ae, zE, zS, D])
 refine' aX (want := false) 2 rfl (m := 86) (by simp only [Y, lkp, zE, reduceCtorEq, E, a8, D]; exact rfl) (by kernel_rfl) rfl rfl rfl rfl rfl (fun hg15 => ?a15) ?b15 ?c15
 case a15 =>
  have hq15 := hg15; (try simp only [zB, reduceCtorEq] at hg15); simp only [List.take_succ_cons, List.take_zero, List.cons_append, List.nil_append]
  (refine aq rfl fun K0 V => ?_; simp only [zE, op1, ev, lkp, ag, af, ev, reduceCtorEq, E, D, G, U, J, M, Tryd.td26, Mpr.av, Mly.av, bu, bo, List.getD_cons_zero]; refine V _ ?_; clear V K0; simp only [put, app, Z, ae, zE, zS, D])
  (refine aq rfl fun K0 V => ?_; simp only [zE, op1, ev, lkp, ag, af, aD, aC, aB, ak, aA, aP, reduceCtorEq, E, D, G, U, J, M, Tryd.td26, Tryd.td4, Mpr.av, Mly.av, bu, bo, List.getD_cons_zero]; (repeat refine And.intro (by first | omega | assumption | exact rfl) ?_); refine V _ ?_; clear V K0; simp only [put, app, Z, ae, zE, zS, D])
  (refine a9 rfl fun K0 V => ?_; simp only [zE, op1, ev, lkp, ag, af, bp, reduceCtorEq, E, D, G, U, J, M, Tryd.td4, Mpr.av, Mly.av, bu, bo, List.getD_cons_zero]; refine V _ ?_; clear V K0; simp only [put, app, Z, ae, zE, zS, D])
  refine ah ?_
  refine ⟨by simp only [Y, lkp, zE, reduceCtorEq, E, a8, D]; exact rfl, rfl, ?_, rfl⟩; (repeat refine aW rfl ?_); exact bt (by exact rfl) hq15
 case b15 => exact br (by first | rfl | (simp [bS]; done) | decide)
 simp only [bh, b8]
 (refine a9 rfl fun K0 V => ?_; simp only [zE, op1, ev, lkp, ag, af, ev, reduceCtorEq, E, D, G, U, J, M, Tryd.td4, Mpr.av, Mly.av, bu, bo, List.getD_cons_zero]; refine V _ ?_; clear V K0; simp only [put, app, Z, ae, zE, zS, D])
 refine' aX (want := false) 2 rfl (m := 90) (by simp only [Y, lkp, zE, reduceCtorEq, E, a8, D]; exact rfl) (by kernel_rfl) rfl rfl rfl rfl rfl (fun hg16 => ?a16) ?b16 ?c16
 case a16 =>
  have hq16 := hg16; (try simp only [zB, reduceCtorEq] at hg16); simp only [List.take_succ_cons, List.take_zero, List.cons_append, List.nil_append]
  (refine aq rfl fun K0 V => ?_; simp only [zE, op1, ev, lkp, ag, af, ev, reduceCtorEq, E, D, G, U, J, M, Tryd.td26, Mpr.av, Mly.av, bu, bo, List.getD_cons_zero]; refine V _ ?_; clear V K0; simp only [put, app, Z, ae, zE, zS, D])
  (refine aq rfl fun K0 V => ?_; simp only [zE, op1, ev, lkp, ag, af, aD, aC, aB, ak, aA, aP, reduceCtorEq, E, D, G, U, J, M, Tryd.td26, Tryd.td4, Mpr.av, Mly.av, bu, bo, List.getD_cons_zero]; (repeat refine And.intro (by first | omega | assumption | exact rfl) ?_); refine V _ ?_; clear V K0; simp only [put, app, Z, ae, zE, zS, D])
  (refine a9 rfl fun K0 V => ?_; simp only [zE, op1, ev, lkp, ag, af, bp, reduceCtorEq, E, D, G, U, J, M, Tryd.td4, Mpr.av, Mly.av, bu, bo, List.getD_cons_zero]; refine V _ ?_; clear V K0; simp only [put, app, Z, ae, zE, zS, D])
  refine ah ?_
  refine ⟨by simp only [Y, lkp, zE, reduceCtorEq, E, a8, D]; exact rfl, rfl, ?_, rfl⟩; (repeat refine aW rfl ?_); exact bt (by exact rfl) hq16
 case b16 => exact br (by first | rfl | (simp [bS]; done) | decide)
 simp only [bh, b8]
 (refine a9 rfl fun K0 V => ?_; simp only [zE, op1, ev, lkp, ag, af, ev, reduceCtorEq, E, D, G, U, J, M, Tryd.td4, Mpr.av, Mly.av, bu, bo, List.getD_cons_zero]; refine V _ ?_; clear V K0; simp only [put, app, Z, ae, zE, zS, D])
 refine' aX (want := false) 2 rfl (m := 94) (by simp only [Y, lkp, zE, reduceCtorEq, E, a8, D]; exact rfl) (by kernel_rfl) rfl rfl rfl rfl rfl (fun hg17 => ?a17) ?b17 ?c17
 case a17 =>
  have hq17 := hg17; (try simp only [zB, reduceCtorEq] at hg17); simp only [List.take_succ_cons, List.take_zero, List.cons_append, List.nil_append]
  (refine aq rfl fun K0 V => ?_; simp only [zE, op1, ev, lkp, ag, af, ev, reduceCtorEq, E, D, G, U, J, M, Tryd.td4, Mpr.av, Mly.av, bu, bo, List.getD_cons_zero]; refine V _ ?_; clear V K0; simp only [put, app, Z, ae, zE, zS, D])
  (refine aq rfl fun K0 V => ?_; simp only [zE, op1, ev, lkp, ag, af, dW, reduceCtorEq, E, D, G, U, J, M, Tryd.td4, Mpr.av, Mly.av, bu, bo, List.getD_cons_zero]; (repeat refine And.intro (by first | omega | assumption | exact rfl) ?_); refine V _ ?_; clear V K0; simp only [put, app, Z, ae, zE, zS, D])
  (refine a9 rfl fun K0 V => ?_; simp only [zE, op1, ev, lkp, ag, af, bp, reduceCtorEq, E, D, G, U, J, M, Tryd.td4, Mpr.av, Mly.av, bu, bo, List.getD_cons_zero]; refine V _ ?_; clear V K0; simp only [put, app, Z, ae, zE, zS, D])
  refine ah ?_
  refine ⟨by simp only [Y, lkp, zE, reduceCtorEq, E, a8, D]; exact rfl, rfl, ?_, rfl⟩; (repeat refine aW rfl ?_); exact bt (by exact rfl) hq17
 case b17 => exact br (by first | rfl | (simp [bS]; done) | decide)
 simp only [bh, b8]
 (refine a9 rfl fun K0 V => ?_; simp only [zE, op1, ev, lkp, ag, af, ev, reduceCtorEq, E, D, G, U, J, M, Tryd.td4, Mpr.av, Mly.av, bu, bo, List.getD_cons_zero]; refine V _ ?_; clear V K0; simp only [put, app, Z, ae, zE, zS, D])
 refine' aX (want := false) 1 rfl (m := 98) (by simp only [Y, lkp, zE, reduceCtorEq, E, a8, D]; exact rfl) (by kernel_rfl) rfl rfl rfl rfl rfl (fun hg18 => ?a18) ?b18 ?c18
 case a18 =>
  have hq18 := hg18; (try simp only [zB, reduceCtorEq] at hg18); simp only [List.take_succ_cons, List.take_zero, List.cons_append, List.nil_append]
  (refine aq rfl fun K0 V => ?_; simp only [zE, op1, ev, lkp, ag, af, ev, reduceCtorEq, E, D, G, U, J, M, Tryd.td4, Mpr.av, Mly.av, bu, bo, List.getD_cons_zero]; refine V _ ?_; clear V K0; simp only [put, app, Z, ae, zE, zS, D])
  (refine a9 rfl fun K0 V => ?_; simp only [zE, op1, ev, lkp, ag, af, bp, reduceCtorEq, E, D, G, U, J, M, Tryd.td4, Mpr.av, Mly.av, bu, bo, List.getD_cons_zero]; refine V _ ?_; clear V K0; simp only [put, app, Z, ae, zE, zS, D])
  refine ah ?_
  refine ⟨by simp only [Y, lkp, zE, reduceCtorEq, E, a8, D]; exact rfl, rfl, ?_, rfl⟩; (repeat refine aW rfl ?_); exact bt (by exact rfl) hq18
 case b18 => exact br (by first | rfl | (simp [bS]; done) | decide)
 simp only [bh, b8]
 (refine a9 rfl fun K0 V => ?_; simp only [zE, op1, ev, lkp, ag, af, ev, reduceCtorEq, E, D, G, U, J, M, Tryd.td4, Mpr.av, Mly.av, bu, bo, List.getD_cons_zero]; refine V _ ?_; clear V K0; simp only [put, app, Z, ae, zE, zS, D])
 refine' aX (want := false) 2 rfl (m := 101) (by simp only [Y, lkp, zE, reduceCtorEq, E, a8, D]; exact rfl) (by kernel_rfl) rfl rfl rfl rfl rfl (fun hg19 => ?a19) ?b19 ?c19
 case a19 =>
  have hq19 := hg19; (try simp only [zB, reduceCtorEq] at hg19); simp only [List.take_succ_cons, List.take_zero, List.cons_append, List.nil_append]
  (refine aq rfl fun K0 V => ?_; simp only [zE, op1, ev, lkp, ag, af, ev, reduceCtorEq, E, D, G, U, J, M, Tryd.td4, Mpr.av, Mly.av, bu, bo, List.getD_cons_zero]; refine V _ ?_; clear V K0; simp only [put, app, Z, ae, zE, zS, D])
  (refine aq rfl fun K0 V => ?_; simp only [zE, op1, ev, lkp, ag, af, dW, reduceCtorEq, E, D, G, U, J, M, Tryd.td4, Mpr.av, Mly.av, bu, bo, List.getD_cons_zero]; (repeat refine And.intro (by first | omega | assumption | exact rfl) ?_); refine V _ ?_; clear V K0; simp only [put, app, Z, ae, zE, zS, D])
  (refine a9 rfl fun K0 V => ?_; simp only [zE, op1, ev, lkp, ag, af, bp, reduceCtorEq, E, D, G, U, J, M, Tryd.td4, Mpr.av, Mly.av, bu, bo, List.getD_cons_zero]; refine V _ ?_; clear V K0; simp only [put, app, Z, ae, zE, zS, D])
  refine ah ?_
  refine ⟨by simp only [Y, lkp, zE, reduceCtorEq, E, a8, D]; exact rfl, rfl, ?_, rfl⟩; (repeat refine aW rfl ?_); exact bt (by exact rfl) hq19
 case b19 => exact br (by first | rfl | (simp [bS]; done) | decide)
 simp only [bh, b8]
 (refine a9 rfl fun K0 V => ?_; simp only [zE, op1, ev, lkp, ag, af, ev, reduceCtorEq, E, D, G, U, J, M, Tryd.td4, Mpr.av, Mly.av, bu, bo, List.getD_cons_zero]; refine V _ ?_; clear V K0; simp only [put, app, Z, ae, zE, zS, D])
 refine' aX (want := false) 3 rfl (m := 105) (by simp only [Y, lkp, zE, reduceCtorEq, E, a8, D]; exact rfl) (by kernel_rfl) rfl rfl rfl rfl rfl (fun hg20 => ?a20) ?b20 ?c20
 case a20 =>
  have hq20 := hg20; (try simp only [zB, reduceCtorEq] at hg20); simp only [List.take_succ_cons, List.take_zero, List.cons_append, List.nil_append]
  (refine aq rfl fun K0 V => ?_; simp only [zE, op1, ev, lkp, ag, af, am, reduceCtorEq, E, D, G, U, J, M, Tryd.st24, Tryd.td1, Tryd.td24, Mpr.av, Mly.av, bu, bo, List.getD_cons_zero]; (repeat refine And.intro (by first | omega | assumption | exact rfl) ?_); refine V _ ?_; clear V K0; simp only [put, app, Z, ae, zE, zS, D])
  (refine aq rfl fun K0 V => ?_; simp only [zE, op1, ev, lkp, ag, af, az, Nat.mul_one, au, ay, acs, Ty.dflt, zG, ao, reduceCtorEq, E, D, G, U, J, M, Tryd.td3, Mpr.av, Mly.av, bu, bo, List.getD_cons_zero]; (repeat refine And.intro (by first | omega | assumption | exact rfl) ?_); refine V _ ?_; clear V K0; simp only [put, app, Z, ae, zE, zS, D])
  (refine aq rfl fun K0 V => ?_; simp only [zE, op1, ev, lkp, ag, af, aD, aC, aB, ak, aA, aP, reduceCtorEq, E, D, G, U, J, M, Tryd.td3, Tryd.td4, Mpr.av, Mly.av, bu, bo, List.getD_cons_zero]; (repeat refine And.intro (by first | omega | assumption | exact rfl) ?_); refine V _ ?_; clear V K0; simp only [put, app, Z, ae, zE, zS, D])
  (refine a9 rfl fun K0 V => ?_; simp only [zE, op1, ev, lkp, ag, af, bp, reduceCtorEq, E, D, G, U, J, M, Tryd.td4, Mpr.av, Mly.av, bu, bo, List.getD_cons_zero]; refine V _ ?_; clear V K0; simp only [put, app, Z, ae, zE, zS, D])
  refine ah ?_
  refine ⟨by simp only [Y, lkp, zE, reduceCtorEq, E, a8, D]; exact rfl, rfl, ?_, rfl⟩; (repeat refine aW rfl ?_); exact bt (by exact rfl) hq20
 case b20 => exact br (by first | rfl | (simp [bS]; done) | decide)
 simp only [bh, b8]
 refine ah ?_
 refine hK11 _ ?_; clear hK11; refine ad [0, 1, 2, 4, 5, 6, 7, 8, 9, 10, 13, 14, 15, 16, 17, 19, 20, 109] ?_; simp only [Y, lkp, zE, reduceCtorEq, E, a8, D]
 refine aE (by simp only [ev, Y, lkp, zE, reduceCtorEq, E, a8, D]; exact rfl) (fun hc21 => ?_) (fun hc21 => ?_)
 ·exfalso; (try simp only [zB, reduceCtorEq] at hc21)
  revert hc21; decide +kernel
 ·(try simp only [zB, reduceCtorEq] at hc21)
  refine aH ?_
  refine hK10 _ ?_; clear hK10; refine ad [0, 1, 2, 4, 5, 6, 7, 8, 9, 10, 13, 14, 15, 16, 17, 19, 20, 109] ?_; simp only [Y, lkp, zE, reduceCtorEq, E, a8, D]
  refine aa fun K22 hK22 => ?_
  refine ai hP hN rfl ?_
  iterate 2 (refine a9 rfl fun K0 V => ?_; simp only [zE, op1, ev, lkp, ag, af, aZ, bj, bM, rep, aI, aS, ar, Ty.size, reduceCtorEq, E, D, G, U, J, M, Tryd.el25, Tryd.td25, Tryd.td3, Mpr.av, Mly.av, bu, bo, List.getD_cons_zero]; (repeat refine And.intro (by first | omega | assumption | exact rfl) ?_); (first | refine V _ ?_ | refine Or.inl (V _ ?_)); clear V K0; simp only [put, app, Z, ae, zE, zS, D])
  refine a9 rfl fun K0 V => ?_
  refine aY (h := aM (fA (abV (dj [0, 1, 0]) [2, 1, 0]) [0, 1, 0])) rfl rfl (by first | exact rfl | (simp only [ev, Y, lkp, zE, reduceCtorEq, E, a8, D]; exact rfl)) (by simp only [zE, zG, op1, ev, lkp, ag, af, ar, acs, bl, mv1, mvC, Ty.dflt, reduceCtorEq, E, D, G, U, J, M, Mpr.av, Mly.av, bu, bo, List.getD_cons_zero]) ?_
  refine V _ ?_; clear V K0; simp only [put, app, Z, ae, zE, zS, D]
  (refine a9 rfl fun K0 V => ?_; simp only [zE, op1, ev, lkp, ag, af, ev, reduceCtorEq, E, D, G, U, J, M, Tryd.td4, Mpr.av, Mly.av, bu, bo, List.getD_cons_zero]; refine V _ ?_; clear V K0; simp only [put, app, Z, ae, zE, zS, D])
  refine' aX (want := true) 3 rfl (m := 113) (by simp only [Y, lkp, zE, reduceCtorEq, E, a8, D]; exact rfl) (by kernel_rfl) rfl rfl rfl rfl rfl (fun hg23 => ?a23) ?b23 ?c23
  case a23 =>
   have hq23 := hg23; (try simp only [zB, reduceCtorEq] at hg23); simp only [List.take_succ_cons, List.take_zero, List.cons_append, List.nil_append]
   (refine aq rfl fun K0 V => ?_; simp only [zE, op1, ev, lkp, ag, af, ev, reduceCtorEq, E, D, G, U, J, M, Tryd.el25, Tryd.td25, Mpr.av, Mly.av, bu, bo, List.getD_cons_zero]; refine V _ ?_; clear V K0; simp only [put, app, Z, ae, zE, zS, D])
   (refine aq rfl fun K0 V => ?_; simp only [zE, op1, ev, lkp, ag, af, aZ, bj, bM, rep, aI, aS, ar, Ty.size, reduceCtorEq, E, D, G, U, J, M, Tryd.el25, Tryd.td25, Tryd.td3, Mpr.av, Mly.av, bu, bo, List.getD_cons_zero]; (repeat refine And.intro (by first | omega | assumption | exact rfl) ?_); (first | refine V _ ?_ | refine Or.inl (V _ ?_)); clear V K0; simp only [put, app, Z, ae, zE, zS, D])
   refine aq rfl fun K0 V => ?_
   refine aY (h := aM (fA (pcW (dj [0, 1, 0]) [0, 1, 0]) [0, 1, 0])) rfl rfl (by first | exact rfl | (simp only [ev, Y, lkp, zE, reduceCtorEq, E, a8, D]; exact rfl)) (by simp only [zE, zG, op1, ev, lkp, ag, af, ar, acs, bl, mv1, mvC, Ty.dflt, reduceCtorEq, E, D, G, U, J, M, Mpr.av, Mly.av, bu, bo, List.getD_cons_zero]) ?_
   refine V _ ?_; clear V K0; simp only [put, app, Z, ae, zE, zS, D]
   (refine a9 rfl fun K0 V => ?_; simp only [zE, op1, ev, lkp, ag, af, bp, reduceCtorEq, E, D, G, U, J, M, Tryd.td4, Mpr.av, Mly.av, bu, bo, List.getD_cons_zero]; refine V _ ?_; clear V K0; simp only [put, app, Z, ae, zE, zS, D])
   refine ah ?_
   refine ⟨by simp only [Y, lkp, zE, reduceCtorEq, E, a8, D]; exact rfl, rfl, ?_, rfl⟩; (repeat refine aW rfl ?_); exact bt (by exact rfl) hq23
  case b23 => exact br (by first | rfl | (simp [bS]; done) | decide)
  simp only [bh, b8]
  (refine a9 rfl fun K0 V => ?_; simp only [zE, op1, ev, lkp, ag, af, ev, reduceCtorEq, E, D, G, U, J, M, Tryd.td4, Mpr.av, Mly.av, bu, bo, List.getD_cons_zero]; refine V _ ?_; clear V K0; simp only [put, app, Z, ae, zE, zS, D])
  refine' aX (want := true) 4 rfl (m := 118) (by simp only [Y, lkp, zE, reduceCtorEq, E, a8, D]; exact rfl) (by kernel_rfl) rfl rfl rfl rfl rfl (fun hg24 => ?a24) ?b24 ?c24
  case a24 =>
   have hq24 := hg24; (try simp only [zB, reduceCtorEq] at hg24); simp only [List.take_succ_cons, List.take_zero, List.cons_append, List.nil_append]
   (refine aq rfl fun K0 V => ?_; simp only [zE, op1, ev, lkp, ag, af, az, Nat.mul_one, au, ay, acs, Ty.dflt, zG, ao, reduceCtorEq, E, D, G, U, J, M, Tryd.st50, Tryd.td50, Mpr.av, Mly.av, bu, bo, List.getD_cons_zero]; (repeat refine And.intro (by first | omega | assumption | exact rfl) ?_); refine V _ ?_; clear V K0; simp only [put, app, Z, ae, zE, zS, D])
   (refine aq rfl fun K0 V => ?_; simp only [zE, op1, ev, lkp, ag, af, aZ, bj, bM, rep, aI, aS, ar, Ty.size, reduceCtorEq, E, D, G, U, J, M, Tryd.el25, Tryd.td1, Tryd.td25, Mpr.av, Mly.av, bu, bo, List.getD_cons_zero]; (repeat refine And.intro (by first | omega | assumption | exact rfl) ?_); (first | refine V _ ?_ | refine Or.inl (V _ ?_)); clear V K0; simp only [put, app, Z, ae, zE, zS, D])
   (refine aq rfl fun K0 V => ?_; simp only [zE, op1, ev, lkp, ag, af, cm, bj, aS, ar, reduceCtorEq, E, D, G, U, J, M, Tryd.st50, Tryd.td50, Mpr.av, Mly.av, bu, bo, List.getD_cons_zero]; (repeat refine And.intro (by first | omega | assumption | exact rfl) ?_); (first | refine V _ ?_ | refine Or.inl (V _ ?_)); clear V K0; simp only [put, app, Z, ae, zE, zS, D])
   refine aq rfl fun K0 V => ?_
   refine aY (h := aM (nH [0] 1 2 [0] 1 2)) rfl rfl (by first | exact rfl | (simp only [ev, Y, lkp, zE, reduceCtorEq, E, a8, D]; exact rfl)) (by simp only [zE, zG, op1, ev, lkp, ag, af, ar, acs, bl, mv1, mvC, Ty.dflt, reduceCtorEq, E, D, G, U, J, M, Mpr.av, Mly.av, bu, bo, List.getD_cons_zero]) ?_
   refine V _ ?_; clear V K0; simp only [put, app, Z, ae, zE, zS, D]
   (refine a9 rfl fun K0 V => ?_; simp only [zE, op1, ev, lkp, ag, af, bp, reduceCtorEq, E, D, G, U, J, M, Tryd.td4, Mpr.av, Mly.av, bu, bo, List.getD_cons_zero]; refine V _ ?_; clear V K0; simp only [put, app, Z, ae, zE, zS, D])
   refine ah ?_
   refine ⟨by simp only [Y, lkp, zE, reduceCtorEq, E, a8, D]; exact rfl, rfl, ?_, rfl⟩; (repeat refine aW rfl ?_); exact bt (by exact rfl) hq24
  case b24 => exact br (by first | rfl | (simp [bS]; done) | decide)
  simp only [bh, b8]
  (refine a9 rfl fun K0 V => ?_; simp only [zE, op1, ev, lkp, ag, af, ev, reduceCtorEq, E, D, G, U, J, M, Tryd.td4, Mpr.av, Mly.av, bu, bo, List.getD_cons_zero]; refine V _ ?_; clear V K0; simp only [put, app, Z, ae, zE, zS, D])
  refine' aX (want := true) 9 rfl (m := 124) (by simp only [Y, lkp, zE, reduceCtorEq, E, a8, D]; exact rfl) (by kernel_rfl) rfl rfl rfl rfl rfl (fun hg25 => ?a25) ?b25 ?c25
  case a25 =>
   have hq25 := hg25; (try simp only [zB, reduceCtorEq] at hg25); simp only [List.take_succ_cons, List.take_zero, List.cons_append, List.nil_append]
   (refine aq rfl fun K0 V => ?_; simp only [zE, op1, ev, lkp, ag, af, az, Nat.mul_one, au, ay, acs, Ty.dflt, zG, ao, reduceCtorEq, E, D, G, U, J, M, Tryd.st47, Tryd.td47, Mpr.av, Mly.av, bu, bo, List.getD_cons_zero]; (repeat refine And.intro (by first | omega | assumption | exact rfl) ?_); refine V _ ?_; clear V K0; simp only [put, app, Z, ae, zE, zS, D])
   (refine aq rfl fun K0 V => ?_; simp only [zE, op1, ev, lkp, ag, af, aZ, bj, bM, rep, aI, aS, ar, Ty.size, reduceCtorEq, E, D, G, U, J, M, Tryd.el25, Tryd.td2, Tryd.td25, Mpr.av, Mly.av, bu, bo, List.getD_cons_zero]; (repeat refine And.intro (by first | omega | assumption | exact rfl) ?_); (first | refine V _ ?_ | refine Or.inl (V _ ?_)); clear V K0; simp only [put, app, Z, ae, zE, zS, D])
   (refine aq rfl fun K0 V => ?_; simp only [zE, op1, ev, lkp, ag, af, aZ, bj, bM, rep, aI, aS, ar, Ty.size, reduceCtorEq, E, D, G, U, J, M, Tryd.el25, Tryd.td2, Tryd.td25, Mpr.av, Mly.av, bu, bo, List.getD_cons_zero]; (repeat refine And.intro (by first | omega | assumption | exact rfl) ?_); (first | refine V _ ?_ | refine Or.inl (V _ ?_)); clear V K0; simp only [put, app, Z, ae, zE, zS, D])
   (refine aq rfl fun K0 V => ?_; simp only [zE, op1, ev, lkp, ag, af, aZ, bj, bM, rep, aI, aS, ar, Ty.size, reduceCtorEq, E, D, G, U, J, M, Tryd.el22, Tryd.td2, Tryd.td22, Mpr.av, Mly.av, bu, bo, List.getD_cons_zero]; (repeat refine And.intro (by first | omega | assumption | exact rfl) ?_); (first | refine V _ ?_ | refine Or.inl (V _ ?_)); clear V K0; simp only [put, app, Z, ae, zE, zS, D])
   (refine aq rfl fun K0 V => ?_; simp only [zE, op1, ev, lkp, ag, af, aZ, bj, bM, rep, aI, aS, ar, Ty.size, reduceCtorEq, E, D, G, U, J, M, Tryd.el25, Tryd.td2, Tryd.td25, Mpr.av, Mly.av, bu, bo, List.getD_cons_zero]; (repeat refine And.intro (by first | omega | assumption | exact rfl) ?_); (first | refine V _ ?_ | refine Or.inl (V _ ?_)); clear V K0; simp only [put, app, Z, ae, zE, zS, D])
   (refine aq rfl fun K0 V => ?_; simp only [zE, op1, ev, lkp, ag, af, aZ, bj, bM, rep, aI, aS, ar, Ty.size, reduceCtorEq, E, D, G, U, J, M, Tryd.el25, Tryd.td2, Tryd.td25, Mpr.av, Mly.av, bu, bo, List.getD_cons_zero]; (repeat refine And.intro (by first | omega | assumption | exact rfl) ?_); (first | refine V _ ?_ | refine Or.inl (V _ ?_)); clear V K0; simp only [put, app, Z, ae, zE, zS, D])
   (refine aq rfl fun K0 V => ?_; simp only [zE, op1, ev, lkp, ag, af, aZ, bj, bM, rep, aI, aS, ar, Ty.size, reduceCtorEq, E, D, G, U, J, M, Tryd.el22, Tryd.td2, Tryd.td22, Mpr.av, Mly.av, bu, bo, List.getD_cons_zero]; (repeat refine And.intro (by first | omega | assumption | exact rfl) ?_); (first | refine V _ ?_ | refine Or.inl (V _ ?_)); clear V K0; simp only [put, app, Z, ae, zE, zS, D])
   (refine aq rfl fun K0 V => ?_; simp only [zE, op1, ev, lkp, ag, af, cm, bj, aS, ar, reduceCtorEq, E, D, G, U, J, M, Tryd.st47, Tryd.td47, Mpr.av, Mly.av, bu, bo, List.getD_cons_zero]; (repeat refine And.intro (by first | omega | assumption | exact rfl) ?_); (first | refine V _ ?_ | refine Or.inl (V _ ?_)); clear V K0; simp only [put, app, Z, ae, zE, zS, D])
   refine aq rfl fun K0 V => ?_
   refine aY (h := aM (ph ⟨2, 0, [[1, 0], [0, 1]], [[2, 1], [3, 2]]⟩ ⟨2, 0, [[1, 0], [0, 1]], [[2, 1], [3, 2]]⟩)) rfl rfl (by first | exact rfl | (simp only [ev, Y, lkp, zE, reduceCtorEq, E, a8, D]; exact rfl)) (by simp only [zE, zG, op1, ev, lkp, ag, af, ar, acs, bl, mv1, mvC, Ty.dflt, reduceCtorEq, E, D, G, U, J, M, Mpr.av, Mly.av, bu, bo, List.getD_cons_zero]) ?_
   refine V _ ?_; clear V K0; simp only [put, app, Z, ae, zE, zS, D]
   (refine a9 rfl fun K0 V => ?_; simp only [zE, op1, ev, lkp, ag, af, bp, reduceCtorEq, E, D, G, U, J, M, Tryd.td4, Mpr.av, Mly.av, bu, bo, List.getD_cons_zero]; refine V _ ?_; clear V K0; simp only [put, app, Z, ae, zE, zS, D])
   refine ah ?_
   refine ⟨by simp only [Y, lkp, zE, reduceCtorEq, E, a8, D]; exact rfl, rfl, ?_, rfl⟩; (repeat refine aW rfl ?_); exact bt (by exact rfl) hq25
  case b25 => exact br (by first | rfl | (simp [bS]; done) | decide)
  simp only [bh, b8]
  (refine a9 rfl fun K0 V => ?_; simp only [zE, op1, ev, lkp, ag, af, ev, reduceCtorEq, E, D, G, U, J, M, Tryd.td4, Mpr.av, Mly.av, bu, bo, List.getD_cons_zero]; refine V _ ?_; clear V K0; simp only [put, app, Z, ae, zE, zS, D])
  refine ah ?_
  refine hK22 _ ?_; clear hK22; refine ad [0, 1, 2, 4, 5, 6, 7, 8, 9, 10, 13, 14, 15, 16, 17, 19, 20, 109] ?_; simp only [Y, lkp, zE, reduceCtorEq, E, a8, D]
  refine aL ?_
  refine ⟨by first | exact .inl rfl | exact .inr rfl, _, rfl, ?_⟩; simp only [fzV, fz1, fzC, List.map_cons, List.map_nil, Y, lkp, zE, reduceCtorEq, E, a8, D, Mpr.av, Mly.av, bu, bo, List.getD_cons_zero]
  refine VLE.of_eq ?_
  refine congrArg (fun b => AV.one (AC.bool b)) ?_
  decide +kernel
end Go.Proofs.YtgmgnkmgofkfpaaDoor
namespace Go.AV
open Nat renaming reduceEqDiff → E, reduceAdd → D, reduceLeDiff → G, reduceLT → U, reduceMul → J, reduceSub → M
open List renaming set_cons_zero → ax, set_cons_succ → aw
/-plain-/
/-! On mapTh. -/
def p3 (a b : Mpr) : Bool := decide (a.inp = b.inp) && decide (a.ab = b.ab) && decide (a.st = b.st) && decide (a.nx = b.nx) && decide (a.sy = b.sy)
theorem dX (a : Mpr) : p3 a a = true := by simp [p3]
end Go.AV
namespace Go.Proofs.YtgmgnkmgofkfpaaDoor
open Go Go.AV
open Nat renaming reduceEqDiff → E, reduceAdd → D, reduceLeDiff → G, reduceLT → U, reduceMul → J, reduceSub → M
open List renaming set_cons_zero → ax, set_cons_succ → aw
set_option maxRecDepth 100000 in
theorem pP (p : Mpr) (w : List Int) (hp : POK p) (hw : WOK w p.inp) : cd Tryd.prog 39 [p.av, .one (.list (.int .i64) w)] (.one (.list (.int .i64) (p.im p.st w))) := by
 have a7 := hp.sl; have a4 := hp.n2; have hwl := hw.len
 refine bn Tryd.func39 rfl (by kernel_rfl) (Nat.le_of_ble_eq_true rfl) rfl fun C hP hN hB => ?_
 replace hN : C.N = 42 := hN
 simp only [a8, D]
 refine aa fun K1 hK1 => ?_
 refine ai hP hN rfl ?_
 iterate 2 (refine a9 rfl fun K0 V => ?_; simp only [zE, op1, ev, lkp, ag, af, cB, ar, reduceCtorEq, E, D, G, U, J, M, Tryd.el25, Tryd.st24, Tryd.td24, Tryd.td25, Mpr.av]; (repeat refine And.intro (by first | omega | assumption | exact rfl) ?_); refine V _ ?_; clear V K0; simp only [put, app, Z, ae, zE, zS, D])
 refine ah ?_
 refine hK1 _ ?_; clear hK1; refine ad [0, 1, 2, 4] ?_; simp only [Y, lkp, zE, reduceCtorEq, E, a8, D]
 refine aa fun K2 hK2 => ?_
 refine ai hP hN rfl ?_
 (refine a9 rfl fun K0 V => ?_; simp only [zE, op1, ev, lkp, ag, af, ev, reduceCtorEq, E, D, G, U, J, M, Tryd.el25, Tryd.td25, Mpr.av]; refine V _ ?_; clear V K0; simp only [put, app, Z, ae, zE, zS, D])
 refine ah ?_
 refine hK2 _ ?_; clear hK2; refine ad [0, 1, 2, 4, 5] ?_; simp only [Y, lkp, zE, reduceCtorEq, E, a8, D]
 refine aa fun K3 hK3 => ?_
 refine ai hP hN rfl ?_
 iterate 3 (refine a9 rfl fun K0 V => ?_; simp only [zE, op1, ev, lkp, ag, af, am, az, Nat.mul_one, au, ay, acs, Ty.dflt, zG, ao, reduceCtorEq, E, D, G, U, J, M, Tryd.st24, Tryd.td2, Tryd.td24, Tryd.td3, Mpr.av]; (repeat refine And.intro (by first | omega | assumption | exact rfl) ?_); refine V _ ?_; clear V K0; simp only [put, app, Z, ae, zE, zS, D])
 refine ah ?_
 refine hK3 _ ?_; clear hK3; refine ad [0, 1, 2, 4, 5, 6] ?_; simp only [Y, lkp, zE, reduceCtorEq, E, a8, D]
 refine aa fun K4 hK4 => ?_
 refine aa fun K5 hK5 => ?_
 refine ai hP hN rfl ?_
 (refine a9 rfl fun K0 V => ?_; simp only [zE, op1, ev, lkp, ag, af, ev, reduceCtorEq, E, D, G, U, J, M, Tryd.td3, Mpr.av]; refine V _ ?_; clear V K0; simp only [put, app, Z, ae, zE, zS, D])
 refine ah ?_
 refine hK5 _ ?_; clear hK5; refine ad [0, 1, 2, 4, 5, 6, 7] ?_; simp only [Y, lkp, zE, reduceCtorEq, E, a8, D]
 refine aR ?_
 refine cQ 5 (.int .i64) 3 (by decide) rfl ?_; simp only [List.length_cons, List.length_nil, List.cons_append, List.nil_append, Nat.zero_add, D]
 refine bH (fun n6 s6 => ∃ (k : Nat) (v : Nat), (k ≤ w.length) ∧ n6 = w.length - k ∧ s6 = { env := [(1, .one (.list (.int .i64) w)), (2, .one (.ptr 0 0 0 0)), (4, .one .nils), (5, .one (.row 1 v)), (6, .one (.int .i64 (p.rn p.st (w.take k)))), (7, .one (.int .i64 (k : Int)))], L := [.vars 24 [.int .i64 p.inp, .int .i64 p.ab, .int .i64 p.st, .list (.list (.int .i64)) p.nx, .list (.list (.int .i64)) p.sy], .row (.int .i64) 3 v (p.im p.st (w.take k))] }) ?_ ?_
 ·exact ⟨_, _, aT [1, 2, 4, 5, 6, 7], 0, 0, Nat.zero_le _, rfl, rfl⟩
 ·rintro n6 s6 ⟨k, v, hk, rfl, rfl⟩
  refine aa fun K7 hK7 => ?_
  refine aa fun K8 hK8 => ?_
  refine ai hP hN rfl ?_
  iterate 4 (refine a9 rfl fun K0 V => ?_; simp only [zE, op1, ev, lkp, ag, af, aF, bz, bi, ba, bc, bv, Nat.div_one, aK, bg, Ty.size, aI, dite_true, aD, aC, aB, ak, aA, aP, reduceCtorEq, E, D, G, U, J, M, Tryd.el25, Tryd.td25, Tryd.td3, Tryd.td4, Mpr.av]; (repeat refine And.intro (by first | omega | assumption | exact rfl) ?_); (first | refine V _ ?_ | refine Or.inl (V _ ?_)); clear V K0; simp only [put, app, Z, ae, zE, zS, D])
  refine ah ?_
  refine hK8 _ ?_; clear hK8; refine ad [1, 2, 4, 5, 6, 7, 13] ?_; simp only [Y, lkp, zE, reduceCtorEq, E, a8, D]
  refine aE (by simp only [ev, Y, lkp, zE, reduceCtorEq, E, a8, D]; exact rfl) (fun hc9 => ?_) (fun hc9 => ?_)
  ·(try simp only [zB, reduceCtorEq] at hc9)
   refine aH ?_
   refine hK7 _ ?_; clear hK7; refine ad [1, 2, 4, 5, 6, 7, 13] ?_; simp only [Y, lkp, zE, reduceCtorEq, E, a8, D]
   refine aa fun K10 hK10 => ?_
   refine aR ?_
   refine aa fun K11 hK11 => ?_
   have hwk := hw.sym k (by omega); have hrn := l6 hp ⟨hp.s1, hp.s2⟩ (fV hw.sym k); obtain ⟨hrl, hql⟩ := hp.rli hrn
   have hil := l8 p (w.take k) p.st; rw [List.length_take] at hil
   refine bW hP hN Tryd.mixed rfl ?_
   iterate 15 (refine a9 rfl fun K0 V => ?_; simp only [zE, op1, ev, lkp, ag, af, am, az, Nat.mul_one, au, ay, acs, Ty.dflt, zG, ao, aG, Ty.size, ne_eq, not_false_eq_true, Int.natCast_one, Int.mul_one, aZ, bj, bM, rep, aI, aS, ar, aF, bz, bi, ba, bc, bv, Nat.div_one, aK, bg, dite_true, reduceCtorEq, E, D, G, U, J, M, Tryd.el22, Tryd.el25, Tryd.st24, Tryd.td1, Tryd.td22, Tryd.td24, Tryd.td25, Tryd.td3, Tryd.td4, Mpr.av]; (repeat refine And.intro (by first | omega | assumption | exact rfl) ?_); (first | refine V _ ?_ | refine Or.inl (V _ ?_)); clear V K0; simp only [put, app, Z, ae, zE, zS, D])
   refine ah ?_
   refine ⟨by kernel_rfl, ?_⟩
   refine hK11 _ ?_; clear hK11; refine ad [1, 2, 4, 5, 6, 7, 13] ?_; simp only [Y, lkp, zE, reduceCtorEq, E, a8, D]
   have hwk := hw.sym k (by omega); have hrn := l6 hp ⟨hp.s1, hp.s2⟩ (fV hw.sym k); obtain ⟨hrl, hql⟩ := hp.rli hrn
   refine bW hP hN Tryd.mixed rfl ?_
   iterate 12 (refine a9 rfl fun K0 V => ?_; simp only [zE, op1, ev, lkp, ag, af, am, az, Nat.mul_one, au, ay, acs, Ty.dflt, zG, ao, aG, Ty.size, ne_eq, not_false_eq_true, Int.natCast_one, Int.mul_one, reduceCtorEq, E, D, G, U, J, M, Tryd.el22, Tryd.el25, Tryd.st24, Tryd.td22, Tryd.td24, Tryd.td25, Tryd.td3, Mpr.av]; (repeat refine And.intro (by first | omega | assumption | exact rfl) ?_); refine V _ ?_; clear V K0; simp only [put, app, Z, ae, zE, zS, D])
   refine ah ?_
   refine ⟨by kernel_rfl, ?_⟩
   refine hK10 _ ?_; clear hK10; refine ad [1, 2, 4, 5, 6, 7, 13] ?_; simp only [Y, lkp, zE, reduceCtorEq, E, a8, D]
   refine ai hP hN rfl ?_
   iterate 3 (refine a9 rfl fun K0 V => ?_; simp only [zE, op1, ev, lkp, ag, af, aD, aC, aB, ak, aA, aP, reduceCtorEq, E, D, G, U, J, M, Tryd.td3, Mpr.av]; (repeat refine And.intro (by first | omega | assumption | exact rfl) ?_); refine V _ ?_; clear V K0; simp only [put, app, Z, ae, zE, zS, D])
   refine ah ?_
   refine ⟨_, _, ?_, aT [1, 2, 4, 5, 6, 7], k + 1, v + 1, by omega, rfl, ?_⟩
   · omega
   · rw [ln (by omega), fb (by omega)]; rfl
  ·(try simp only [zB, reduceCtorEq] at hc9)
   refine bG ?_
   refine hK4 _ ?_; clear hK4; refine ad [1, 2, 4, 5, 6, 7, 13] ?_; simp only [Y, lkp, zE, reduceCtorEq, E, a8, D]
   refine aa fun K12 hK12 => ?_
   refine bY 1 rfl ?_; simp only [List.map_cons, List.map_nil, zS, E, and_self, and_true, true_and, and_false, false_and, if_true, if_false, eq_self, reduceCtorEq, Nat.one_ne_zero, Nat.zero_ne_one]
   have hkw : k = w.length := by omega
   rw [hkw, List.take_length]
   refine ai hP hN rfl ?_
   iterate 2 (refine a9 rfl fun K0 V => ?_; simp only [zE, op1, ev, lkp, ag, af, ev, reduceCtorEq, E, D, G, U, J, M, Tryd.el25, Tryd.td25, Mpr.av]; refine V _ ?_; clear V K0; simp only [put, app, Z, ae, zE, zS, D])
   refine ah ?_
   refine hK12 _ ?_; clear hK12; refine ad [1, 2, 4, 5, 6, 7, 13] ?_; simp only [Y, lkp, zE, reduceCtorEq, E, a8, D]
   refine aL ?_
   refine ⟨by first | exact .inl rfl | exact .inr rfl, _, rfl, ?_⟩; simp only [fzV, fz1, fzC, List.map_cons, List.map_nil, Y, lkp, zE, reduceCtorEq, E, a8, D, Mpr.av]
   exact VLE.of_eq rfl
end Go.Proofs.YtgmgnkmgofkfpaaDoor
namespace Go.Proofs.YtgmgnkmgofkfpaaDoor
open Go Go.AV
open Nat renaming reduceEqDiff → E, reduceAdd → D, reduceLeDiff → G, reduceLT → U, reduceMul → J, reduceSub → M
open List renaming set_cons_zero → ax, set_cons_succ → aw
set_option maxRecDepth 100000 in
theorem pR (p : Mpr) (k : Nat) (hk : k < p.nx.length) (hs : p.sy.length = p.nx.length) (h1 : p.inp ≤ 64) : cd Tryd.prog 33 [p.av, .one (.int .i64 (k : Int))] (.one (.int .i64 (f8 p k))) := by
 refine bn Tryd.func33 rfl (by kernel_rfl) (Nat.le_of_ble_eq_true rfl) rfl fun C hP hN hB => ?_
 replace hN : C.N = 79 := hN
 simp only [a8, D]
 refine aa fun K1 hK1 => ?_
 refine ai hP hN rfl ?_
 iterate 2 (refine a9 rfl fun K0 V => ?_; simp only [zE, op1, ev, lkp, ag, af, cB, ar, reduceCtorEq, E, D, G, U, J, M, Tryd.st24, Tryd.td24, Tryd.td3, Mpr.av, Int.toNat_natCast]; (repeat refine And.intro (by first | omega | assumption | exact rfl) ?_); refine V _ ?_; clear V K0; simp only [put, app, Z, ae, zE, zS, D])
 refine ah ?_
 refine hK1 _ ?_; clear hK1; refine ad [0, 1, 2, 4] ?_; simp only [Y, lkp, zE, reduceCtorEq, E, a8, D]
 refine aa fun K2 hK2 => ?_
 refine aa fun K3 hK3 => ?_
 refine bW hP hN Tryd.mixed rfl ?_
 iterate 9 (refine a9 rfl fun K0 V => ?_; simp only [zE, op1, ev, lkp, ag, af, am, az, Nat.mul_one, au, ay, acs, Ty.dflt, zG, ao, aG, Ty.size, ne_eq, not_false_eq_true, Int.natCast_one, Int.mul_one, aF, bz, bi, ba, bc, bv, Nat.div_one, aK, bg, aI, dite_true, aD, aC, aB, ak, aA, aP, reduceCtorEq, E, D, G, U, J, M, Tryd.el22, Tryd.el25, Tryd.st24, Tryd.td22, Tryd.td24, Tryd.td25, Tryd.td3, Tryd.td4, Mpr.av, Int.toNat_natCast]; (repeat refine And.intro (by first | omega | assumption | exact rfl) ?_); (first | refine V _ ?_ | refine Or.inl (V _ ?_)); clear V K0; simp only [put, app, Z, ae, zE, zS, D])
 (refine a9 rfl fun K0 V => ?_; simp only [zE, op1, ev, lkp, ag, af, ev, reduceCtorEq, E, D, G, U, J, M, Tryd.td4, Mpr.av, Int.toNat_natCast]; refine V _ ?_; clear V K0; simp only [put, app, Z, ae, zE, zS, D])
 refine' aX (want := false) 9 rfl (m := 15) (by simp only [Y, lkp, zE, reduceCtorEq, E, a8, D]; exact rfl) (by kernel_rfl) rfl rfl rfl rfl rfl (fun hg4 => ?a4) ?b4 ?c4
 case a4 =>
  have hq4 := hg4; (try simp only [zB, reduceCtorEq] at hg4); simp only [List.take_succ_cons, List.take_zero, List.cons_append, List.nil_append]
  (refine aq rfl fun K0 V => ?_; simp only [zE, op1, ev, lkp, ag, af, am, reduceCtorEq, E, D, G, U, J, M, Tryd.st24, Tryd.td24, Tryd.td4, Mpr.av, Int.toNat_natCast]; (repeat refine And.intro (by first | omega | assumption | exact rfl) ?_); refine V _ ?_; clear V K0; simp only [put, app, Z, ae, zE, zS, D])
  (refine aq rfl fun K0 V => ?_; simp only [zE, op1, ev, lkp, ag, af, az, Nat.mul_one, au, ay, acs, Ty.dflt, zG, ao, reduceCtorEq, E, D, G, U, J, M, Tryd.el22, Tryd.td22, Mpr.av, Int.toNat_natCast]; (repeat refine And.intro (by first | omega | assumption | exact rfl) ?_); refine V _ ?_; clear V K0; simp only [put, app, Z, ae, zE, zS, D])
  (refine aq rfl fun K0 V => ?_; simp only [zE, op1, ev, lkp, ag, af, ev, reduceCtorEq, E, D, G, U, J, M, Tryd.td3, Mpr.av, Int.toNat_natCast]; refine V _ ?_; clear V K0; simp only [put, app, Z, ae, zE, zS, D])
  (refine aq rfl fun K0 V => ?_; simp only [zE, op1, ev, lkp, ag, af, aG, zG, Ty.dflt, Ty.size, Nat.mul_one, ne_eq, not_false_eq_true, Int.natCast_one, Int.mul_one, reduceCtorEq, E, D, G, U, J, M, Tryd.el22, Tryd.td22, Mpr.av, Int.toNat_natCast]; (repeat refine And.intro (by first | omega | assumption | exact rfl) ?_); refine V _ ?_; clear V K0; simp only [put, app, Z, ae, zE, zS, D])
  (refine aq rfl fun K0 V => ?_; simp only [zE, op1, ev, lkp, ag, af, az, Nat.mul_one, au, ay, acs, Ty.dflt, zG, ao, reduceCtorEq, E, D, G, U, J, M, Tryd.el25, Tryd.td25, Mpr.av, Int.toNat_natCast]; (repeat refine And.intro (by first | omega | assumption | exact rfl) ?_); refine V _ ?_; clear V K0; simp only [put, app, Z, ae, zE, zS, D])
  (refine aq rfl fun K0 V => ?_; simp only [zE, op1, ev, lkp, ag, af, aF, bz, bi, ba, bc, bv, Nat.div_one, aK, bg, Ty.size, aI, dite_true, reduceCtorEq, E, D, G, U, J, M, Tryd.el25, Tryd.td25, Tryd.td3, Mpr.av, Int.toNat_natCast]; (repeat refine And.intro (by first | omega | assumption | exact rfl) ?_); (first | refine V _ ?_ | refine Or.inl (V _ ?_)); clear V K0; simp only [put, app, Z, ae, zE, zS, D])
  (refine aq rfl fun K0 V => ?_; simp only [zE, op1, ev, lkp, ag, af, am, reduceCtorEq, E, D, G, U, J, M, Tryd.st24, Tryd.td24, Mpr.av, Int.toNat_natCast]; (repeat refine And.intro (by first | omega | assumption | exact rfl) ?_); refine V _ ?_; clear V K0; simp only [put, app, Z, ae, zE, zS, D])
  (refine aq rfl fun K0 V => ?_; simp only [zE, op1, ev, lkp, ag, af, az, Nat.mul_one, au, ay, acs, Ty.dflt, zG, ao, reduceCtorEq, E, D, G, U, J, M, Tryd.td3, Mpr.av, Int.toNat_natCast]; (repeat refine And.intro (by first | omega | assumption | exact rfl) ?_); refine V _ ?_; clear V K0; simp only [put, app, Z, ae, zE, zS, D])
  (refine aq rfl fun K0 V => ?_; simp only [zE, op1, ev, lkp, ag, af, aD, aC, aB, ak, aA, aP, reduceCtorEq, E, D, G, U, J, M, Tryd.td3, Tryd.td4, Mpr.av, Int.toNat_natCast]; (repeat refine And.intro (by first | omega | assumption | exact rfl) ?_); refine V _ ?_; clear V K0; simp only [put, app, Z, ae, zE, zS, D])
  (refine a9 rfl fun K0 V => ?_; simp only [zE, op1, ev, lkp, ag, af, bp, reduceCtorEq, E, D, G, U, J, M, Tryd.td4, Mpr.av, Int.toNat_natCast]; refine V _ ?_; clear V K0; simp only [put, app, Z, ae, zE, zS, D])
  refine ah ?_
  refine ⟨by simp only [Y, lkp, zE, reduceCtorEq, E, a8, D]; exact rfl, rfl, ?_, rfl⟩; (repeat refine aW rfl ?_); exact bt (by exact rfl) hq4
 case b4 => exact br (by first | rfl | (simp [bS]; done) | decide)
 simp only [bh, b8]
 refine ah ?_
 refine ⟨by kernel_rfl, ?_⟩
 refine hK3 _ ?_; clear hK3; refine ad [0, 1, 2, 4, 25] ?_; simp only [Y, lkp, zE, reduceCtorEq, E, a8, D]
 refine aE (by simp only [ev, Y, lkp, zE, reduceCtorEq, E, a8, D]; exact rfl) (fun hc5 => ?_) (fun hc5 => ?_)
 ·(try simp only [zB, reduceCtorEq] at hc5)
  have hl9 : ¬ ((p.nx.getD k []).length : Int) = p.inp ∨ ¬ ((p.sy.getD k []).length : Int) = p.inp := by omega
  refine aa fun K6 hK6 => ?_
  refine ai hP hN rfl ?_
  (refine a9 rfl fun K0 V => ?_; simp only [zE, op1, ev, lkp, ag, af, ev, reduceCtorEq, E, D, G, U, J, M, Tryd.td3, Mpr.av, Int.toNat_natCast]; refine V _ ?_; clear V K0; simp only [put, app, Z, ae, zE, zS, D])
  refine ah ?_
  refine hK6 _ ?_; clear hK6; refine ad [0, 1, 2, 4, 25] ?_; simp only [Y, lkp, zE, reduceCtorEq, E, a8, D]
  refine aL ?_
  refine ⟨by first | exact .inl rfl | exact .inr rfl, _, rfl, ?_⟩; simp only [fzV, fz1, fzC, List.map_cons, List.map_nil, Y, lkp, zE, reduceCtorEq, E, a8, D, Mpr.av, Int.toNat_natCast]
  refine VLE.of_eq ?_
  refine congrArg (fun n => AV.one (AC.int IntKind.i64 n)) ?_
  symm
  first
  | exact bZ hl9
  | exact c0 hl9 (by omega) hb9
  | exact iR hl9 fun q hq2 => hq q (by omega)
 ·(try simp only [zB, reduceCtorEq] at hc5)
  have hl9 : ((p.nx.getD k []).length : Int) = p.inp ∧ ((p.sy.getD k []).length : Int) = p.inp := by omega
  refine aH ?_
  refine hK2 _ ?_; clear hK2; refine ad [0, 1, 2, 4, 25] ?_; simp only [Y, lkp, zE, reduceCtorEq, E, a8, D]
  refine aa fun K7 hK7 => ?_
  refine aa fun K8 hK8 => ?_
  refine ai hP hN rfl ?_
  (refine a9 rfl fun K0 V => ?_; simp only [zE, op1, ev, lkp, ag, af, ev, reduceCtorEq, E, D, G, U, J, M, Tryd.td3, Mpr.av, Int.toNat_natCast]; refine V _ ?_; clear V K0; simp only [put, app, Z, ae, zE, zS, D])
  refine ah ?_
  refine hK8 _ ?_; clear hK8; refine ad [0, 1, 2, 4, 5, 25] ?_; simp only [Y, lkp, zE, reduceCtorEq, E, a8, D]
  refine aR ?_
  refine bH (fun n9 s9 => ∃ (c : Nat), ((c : Int) ≤ p.inp) ∧ (∀ q, q < c → ¬ p.bad k q) ∧ n9 = p.inp.toNat - c ∧ s9 = { env := [(1, .one (.int .i64 (k : Int))), (2, .one (.ptr 0 0 0 0)), (4, .one (.int .i64 0)), (5, .one (.int .i64 (c : Int)))], L := [.vars 24 [.int .i64 p.inp, .int .i64 p.ab, .int .i64 p.st, .list (.list (.int .i64)) p.nx, .list (.list (.int .i64)) p.sy]] }) ?_ ?_
  ·exact ⟨_, _, aT [1, 2, 4, 5], 0, by omega, fun q hq => by omega, rfl, rfl⟩
  ·rintro n9 s9 ⟨c, hc, hq, rfl, rfl⟩
   refine aa fun K10 hK10 => ?_
   refine aa fun K11 hK11 => ?_
   have hpi : (0 : Int) ≤ p.inp := by omega
   refine ai hP hN rfl ?_
   iterate 4 (refine a9 rfl fun K0 V => ?_; simp only [zE, op1, ev, lkp, ag, af, am, az, Nat.mul_one, au, ay, acs, Ty.dflt, zG, ao, aD, aC, aB, ak, aA, aP, reduceCtorEq, E, D, G, U, J, M, Tryd.st24, Tryd.td24, Tryd.td3, Tryd.td4, Mpr.av, Int.toNat_natCast]; (repeat refine And.intro (by first | omega | assumption | exact rfl) ?_); refine V _ ?_; clear V K0; simp only [put, app, Z, ae, zE, zS, D])
   refine ah ?_
   refine hK11 _ ?_; clear hK11; refine ad [1, 2, 4, 5, 29] ?_; simp only [Y, lkp, zE, reduceCtorEq, E, a8, D]
   refine aE (by simp only [ev, Y, lkp, zE, reduceCtorEq, E, a8, D]; exact rfl) (fun hc12 => ?_) (fun hc12 => ?_)
   ·(try simp only [zB, reduceCtorEq] at hc12)
    refine aH ?_
    refine hK10 _ ?_; clear hK10; refine ad [1, 2, 4, 5, 29] ?_; simp only [Y, lkp, zE, reduceCtorEq, E, a8, D]
    refine aa fun K13 hK13 => ?_
    refine aR ?_
    refine aa fun K14 hK14 => ?_
    refine bW hP hN Tryd.mixed rfl ?_
    iterate 9 (refine a9 rfl fun K0 V => ?_; simp only [zE, op1, ev, lkp, ag, af, am, az, Nat.mul_one, au, ay, acs, Ty.dflt, zG, ao, aG, Ty.size, ne_eq, not_false_eq_true, Int.natCast_one, Int.mul_one, aD, aC, aB, ak, aA, aP, reduceCtorEq, E, D, G, U, J, M, Tryd.el22, Tryd.el25, Tryd.st24, Tryd.td22, Tryd.td24, Tryd.td25, Tryd.td3, Tryd.td4, Mpr.av, Int.toNat_natCast]; (repeat refine And.intro (by first | omega | assumption | exact rfl) ?_); refine V _ ?_; clear V K0; simp only [put, app, Z, ae, zE, zS, D])
    (refine a9 rfl fun K0 V => ?_; simp only [zE, op1, ev, lkp, ag, af, ev, reduceCtorEq, E, D, G, U, J, M, Tryd.td4, Mpr.av, Int.toNat_natCast]; refine V _ ?_; clear V K0; simp only [put, app, Z, ae, zE, zS, D])
    refine' aX (want := false) 12 rfl (m := 41) (by simp only [Y, lkp, zE, reduceCtorEq, E, a8, D]; exact rfl) (by kernel_rfl) rfl rfl rfl rfl rfl (fun hg15 => ?a15) ?b15 ?c15
    case a15 =>
     have hq15 := hg15; (try simp only [zB, reduceCtorEq] at hg15); simp only [List.take_succ_cons, List.take_zero, List.cons_append, List.nil_append]
     (refine aq rfl fun K0 V => ?_; simp only [zE, op1, ev, lkp, ag, af, am, reduceCtorEq, E, D, G, U, J, M, Tryd.st24, Tryd.td24, Tryd.td3, Mpr.av, Int.toNat_natCast]; (repeat refine And.intro (by first | omega | assumption | exact rfl) ?_); refine V _ ?_; clear V K0; simp only [put, app, Z, ae, zE, zS, D])
     (refine aq rfl fun K0 V => ?_; simp only [zE, op1, ev, lkp, ag, af, az, Nat.mul_one, au, ay, acs, Ty.dflt, zG, ao, reduceCtorEq, E, D, G, U, J, M, Tryd.el22, Tryd.td22, Mpr.av, Int.toNat_natCast]; (repeat refine And.intro (by first | omega | assumption | exact rfl) ?_); refine V _ ?_; clear V K0; simp only [put, app, Z, ae, zE, zS, D])
     (refine aq rfl fun K0 V => ?_; simp only [zE, op1, ev, lkp, ag, af, ev, reduceCtorEq, E, D, G, U, J, M, Tryd.td3, Mpr.av, Int.toNat_natCast]; refine V _ ?_; clear V K0; simp only [put, app, Z, ae, zE, zS, D])
     (refine aq rfl fun K0 V => ?_; simp only [zE, op1, ev, lkp, ag, af, aG, zG, Ty.dflt, Ty.size, Nat.mul_one, ne_eq, not_false_eq_true, Int.natCast_one, Int.mul_one, reduceCtorEq, E, D, G, U, J, M, Tryd.el22, Tryd.td22, Mpr.av, Int.toNat_natCast]; (repeat refine And.intro (by first | omega | assumption | exact rfl) ?_); refine V _ ?_; clear V K0; simp only [put, app, Z, ae, zE, zS, D])
     (refine aq rfl fun K0 V => ?_; simp only [zE, op1, ev, lkp, ag, af, az, Nat.mul_one, au, ay, acs, Ty.dflt, zG, ao, reduceCtorEq, E, D, G, U, J, M, Tryd.el25, Tryd.td25, Mpr.av, Int.toNat_natCast]; (repeat refine And.intro (by first | omega | assumption | exact rfl) ?_); refine V _ ?_; clear V K0; simp only [put, app, Z, ae, zE, zS, D])
     (refine aq rfl fun K0 V => ?_; simp only [zE, op1, ev, lkp, ag, af, ev, reduceCtorEq, E, D, G, U, J, M, Tryd.td3, Mpr.av, Int.toNat_natCast]; refine V _ ?_; clear V K0; simp only [put, app, Z, ae, zE, zS, D])
     (refine aq rfl fun K0 V => ?_; simp only [zE, op1, ev, lkp, ag, af, aG, zG, Ty.dflt, Ty.size, Nat.mul_one, ne_eq, not_false_eq_true, Int.natCast_one, Int.mul_one, reduceCtorEq, E, D, G, U, J, M, Tryd.el25, Tryd.td25, Mpr.av, Int.toNat_natCast]; (repeat refine And.intro (by first | omega | assumption | exact rfl) ?_); refine V _ ?_; clear V K0; simp only [put, app, Z, ae, zE, zS, D])
     (refine aq rfl fun K0 V => ?_; simp only [zE, op1, ev, lkp, ag, af, az, Nat.mul_one, au, ay, acs, Ty.dflt, zG, ao, reduceCtorEq, E, D, G, U, J, M, Tryd.td3, Mpr.av, Int.toNat_natCast]; (repeat refine And.intro (by first | omega | assumption | exact rfl) ?_); refine V _ ?_; clear V K0; simp only [put, app, Z, ae, zE, zS, D])
     (refine aq rfl fun K0 V => ?_; simp only [zE, op1, ev, lkp, ag, af, am, reduceCtorEq, E, D, G, U, J, M, Tryd.st24, Tryd.td24, Tryd.td3, Mpr.av, Int.toNat_natCast]; (repeat refine And.intro (by first | omega | assumption | exact rfl) ?_); refine V _ ?_; clear V K0; simp only [put, app, Z, ae, zE, zS, D])
     (refine aq rfl fun K0 V => ?_; simp only [zE, op1, ev, lkp, ag, af, az, Nat.mul_one, au, ay, acs, Ty.dflt, zG, ao, reduceCtorEq, E, D, G, U, J, M, Tryd.el22, Tryd.td22, Mpr.av, Int.toNat_natCast]; (repeat refine And.intro (by first | omega | assumption | exact rfl) ?_); refine V _ ?_; clear V K0; simp only [put, app, Z, ae, zE, zS, D])
     (refine aq rfl fun K0 V => ?_; simp only [zE, op1, ev, lkp, ag, af, aF, bz, bi, ba, bc, bv, Nat.div_one, aK, bg, Ty.size, aI, dite_true, reduceCtorEq, E, D, G, U, J, M, Tryd.el22, Tryd.td22, Tryd.td3, Mpr.av, Int.toNat_natCast]; (repeat refine And.intro (by first | omega | assumption | exact rfl) ?_); (first | refine V _ ?_ | refine Or.inl (V _ ?_)); clear V K0; simp only [put, app, Z, ae, zE, zS, D])
     (refine aq rfl fun K0 V => ?_; simp only [zE, op1, ev, lkp, ag, af, aD, aC, aB, ak, aA, aP, reduceCtorEq, E, D, G, U, J, M, Tryd.td3, Tryd.td4, Mpr.av, Int.toNat_natCast]; (repeat refine And.intro (by first | omega | assumption | exact rfl) ?_); refine V _ ?_; clear V K0; simp only [put, app, Z, ae, zE, zS, D])
     (refine a9 rfl fun K0 V => ?_; simp only [zE, op1, ev, lkp, ag, af, bp, reduceCtorEq, E, D, G, U, J, M, Tryd.td4, Mpr.av, Int.toNat_natCast]; refine V _ ?_; clear V K0; simp only [put, app, Z, ae, zE, zS, D])
     refine ah ?_
     refine ⟨by simp only [Y, lkp, zE, reduceCtorEq, E, a8, D]; exact rfl, rfl, ?_, rfl⟩; (repeat refine aW rfl ?_); exact bt (by exact rfl) hq15
    case b15 => exact br (by first | rfl | (simp [bS]; done) | decide)
    simp only [bh, b8]
    (refine a9 rfl fun K0 V => ?_; simp only [zE, op1, ev, lkp, ag, af, ev, reduceCtorEq, E, D, G, U, J, M, Tryd.td4, Mpr.av, Int.toNat_natCast]; refine V _ ?_; clear V K0; simp only [put, app, Z, ae, zE, zS, D])
    refine' aX (want := false) 9 rfl (m := 55) (by simp only [Y, lkp, zE, reduceCtorEq, E, a8, D]; exact rfl) (by kernel_rfl) rfl rfl rfl rfl rfl (fun hg16 => ?a16) ?b16 ?c16
    case a16 =>
     have hq16 := hg16; (try simp only [zB, reduceCtorEq] at hg16); simp only [List.take_succ_cons, List.take_zero, List.cons_append, List.nil_append]
     (refine aq rfl fun K0 V => ?_; simp only [zE, op1, ev, lkp, ag, af, am, reduceCtorEq, E, D, G, U, J, M, Tryd.st24, Tryd.td24, Tryd.td4, Mpr.av, Int.toNat_natCast]; (repeat refine And.intro (by first | omega | assumption | exact rfl) ?_); refine V _ ?_; clear V K0; simp only [put, app, Z, ae, zE, zS, D])
     (refine aq rfl fun K0 V => ?_; simp only [zE, op1, ev, lkp, ag, af, az, Nat.mul_one, au, ay, acs, Ty.dflt, zG, ao, reduceCtorEq, E, D, G, U, J, M, Tryd.el22, Tryd.td22, Mpr.av, Int.toNat_natCast]; (repeat refine And.intro (by first | omega | assumption | exact rfl) ?_); refine V _ ?_; clear V K0; simp only [put, app, Z, ae, zE, zS, D])
     (refine aq rfl fun K0 V => ?_; simp only [zE, op1, ev, lkp, ag, af, ev, reduceCtorEq, E, D, G, U, J, M, Tryd.td3, Mpr.av, Int.toNat_natCast]; refine V _ ?_; clear V K0; simp only [put, app, Z, ae, zE, zS, D])
     (refine aq rfl fun K0 V => ?_; simp only [zE, op1, ev, lkp, ag, af, aG, zG, Ty.dflt, Ty.size, Nat.mul_one, ne_eq, not_false_eq_true, Int.natCast_one, Int.mul_one, reduceCtorEq, E, D, G, U, J, M, Tryd.el22, Tryd.td22, Mpr.av, Int.toNat_natCast]; (repeat refine And.intro (by first | omega | assumption | exact rfl) ?_); refine V _ ?_; clear V K0; simp only [put, app, Z, ae, zE, zS, D])
     (refine aq rfl fun K0 V => ?_; simp only [zE, op1, ev, lkp, ag, af, az, Nat.mul_one, au, ay, acs, Ty.dflt, zG, ao, reduceCtorEq, E, D, G, U, J, M, Tryd.el25, Tryd.td25, Mpr.av, Int.toNat_natCast]; (repeat refine And.intro (by first | omega | assumption | exact rfl) ?_); refine V _ ?_; clear V K0; simp only [put, app, Z, ae, zE, zS, D])
     (refine aq rfl fun K0 V => ?_; simp only [zE, op1, ev, lkp, ag, af, ev, reduceCtorEq, E, D, G, U, J, M, Tryd.td3, Mpr.av, Int.toNat_natCast]; refine V _ ?_; clear V K0; simp only [put, app, Z, ae, zE, zS, D])
     (refine aq rfl fun K0 V => ?_; simp only [zE, op1, ev, lkp, ag, af, aG, zG, Ty.dflt, Ty.size, Nat.mul_one, ne_eq, not_false_eq_true, Int.natCast_one, Int.mul_one, reduceCtorEq, E, D, G, U, J, M, Tryd.el25, Tryd.td25, Mpr.av, Int.toNat_natCast]; (repeat refine And.intro (by first | omega | assumption | exact rfl) ?_); refine V _ ?_; clear V K0; simp only [put, app, Z, ae, zE, zS, D])
     (refine aq rfl fun K0 V => ?_; simp only [zE, op1, ev, lkp, ag, af, az, Nat.mul_one, au, ay, acs, Ty.dflt, zG, ao, reduceCtorEq, E, D, G, U, J, M, Tryd.td3, Mpr.av, Int.toNat_natCast]; (repeat refine And.intro (by first | omega | assumption | exact rfl) ?_); refine V _ ?_; clear V K0; simp only [put, app, Z, ae, zE, zS, D])
     (refine aq rfl fun K0 V => ?_; simp only [zE, op1, ev, lkp, ag, af, aD, aC, aB, ak, aA, aP, reduceCtorEq, E, D, G, U, J, M, Tryd.td3, Tryd.td4, Mpr.av, Int.toNat_natCast]; (repeat refine And.intro (by first | omega | assumption | exact rfl) ?_); refine V _ ?_; clear V K0; simp only [put, app, Z, ae, zE, zS, D])
     (refine a9 rfl fun K0 V => ?_; simp only [zE, op1, ev, lkp, ag, af, bp, reduceCtorEq, E, D, G, U, J, M, Tryd.td4, Mpr.av, Int.toNat_natCast]; refine V _ ?_; clear V K0; simp only [put, app, Z, ae, zE, zS, D])
     refine ah ?_
     refine ⟨by simp only [Y, lkp, zE, reduceCtorEq, E, a8, D]; exact rfl, rfl, ?_, rfl⟩; (repeat refine aW rfl ?_); exact bt (by exact rfl) hq16
    case b16 => exact br (by first | rfl | (simp [bS]; done) | decide)
    simp only [bh, b8]
    (refine a9 rfl fun K0 V => ?_; simp only [zE, op1, ev, lkp, ag, af, ev, reduceCtorEq, E, D, G, U, J, M, Tryd.td4, Mpr.av, Int.toNat_natCast]; refine V _ ?_; clear V K0; simp only [put, app, Z, ae, zE, zS, D])
    refine' aX (want := false) 11 rfl (m := 66) (by simp only [Y, lkp, zE, reduceCtorEq, E, a8, D]; exact rfl) (by kernel_rfl) rfl rfl rfl rfl rfl (fun hg17 => ?a17) ?b17 ?c17
    case a17 =>
     have hq17 := hg17; (try simp only [zB, reduceCtorEq] at hg17); simp only [List.take_succ_cons, List.take_zero, List.cons_append, List.nil_append]
     (refine aq rfl fun K0 V => ?_; simp only [zE, op1, ev, lkp, ag, af, am, reduceCtorEq, E, D, G, U, J, M, Tryd.st24, Tryd.td24, Tryd.td4, Mpr.av, Int.toNat_natCast]; (repeat refine And.intro (by first | omega | assumption | exact rfl) ?_); refine V _ ?_; clear V K0; simp only [put, app, Z, ae, zE, zS, D])
     (refine aq rfl fun K0 V => ?_; simp only [zE, op1, ev, lkp, ag, af, az, Nat.mul_one, au, ay, acs, Ty.dflt, zG, ao, reduceCtorEq, E, D, G, U, J, M, Tryd.el22, Tryd.td22, Mpr.av, Int.toNat_natCast]; (repeat refine And.intro (by first | omega | assumption | exact rfl) ?_); refine V _ ?_; clear V K0; simp only [put, app, Z, ae, zE, zS, D])
     (refine aq rfl fun K0 V => ?_; simp only [zE, op1, ev, lkp, ag, af, ev, reduceCtorEq, E, D, G, U, J, M, Tryd.td3, Mpr.av, Int.toNat_natCast]; refine V _ ?_; clear V K0; simp only [put, app, Z, ae, zE, zS, D])
     (refine aq rfl fun K0 V => ?_; simp only [zE, op1, ev, lkp, ag, af, aG, zG, Ty.dflt, Ty.size, Nat.mul_one, ne_eq, not_false_eq_true, Int.natCast_one, Int.mul_one, reduceCtorEq, E, D, G, U, J, M, Tryd.el22, Tryd.td22, Mpr.av, Int.toNat_natCast]; (repeat refine And.intro (by first | omega | assumption | exact rfl) ?_); refine V _ ?_; clear V K0; simp only [put, app, Z, ae, zE, zS, D])
     (refine aq rfl fun K0 V => ?_; simp only [zE, op1, ev, lkp, ag, af, az, Nat.mul_one, au, ay, acs, Ty.dflt, zG, ao, reduceCtorEq, E, D, G, U, J, M, Tryd.el25, Tryd.td25, Mpr.av, Int.toNat_natCast]; (repeat refine And.intro (by first | omega | assumption | exact rfl) ?_); refine V _ ?_; clear V K0; simp only [put, app, Z, ae, zE, zS, D])
     (refine aq rfl fun K0 V => ?_; simp only [zE, op1, ev, lkp, ag, af, ev, reduceCtorEq, E, D, G, U, J, M, Tryd.td3, Mpr.av, Int.toNat_natCast]; refine V _ ?_; clear V K0; simp only [put, app, Z, ae, zE, zS, D])
     (refine aq rfl fun K0 V => ?_; simp only [zE, op1, ev, lkp, ag, af, aG, zG, Ty.dflt, Ty.size, Nat.mul_one, ne_eq, not_false_eq_true, Int.natCast_one, Int.mul_one, reduceCtorEq, E, D, G, U, J, M, Tryd.el25, Tryd.td25, Mpr.av, Int.toNat_natCast]; (repeat refine And.intro (by first | omega | assumption | exact rfl) ?_); refine V _ ?_; clear V K0; simp only [put, app, Z, ae, zE, zS, D])
     (refine aq rfl fun K0 V => ?_; simp only [zE, op1, ev, lkp, ag, af, az, Nat.mul_one, au, ay, acs, Ty.dflt, zG, ao, reduceCtorEq, E, D, G, U, J, M, Tryd.td3, Mpr.av, Int.toNat_natCast]; (repeat refine And.intro (by first | omega | assumption | exact rfl) ?_); refine V _ ?_; clear V K0; simp only [put, app, Z, ae, zE, zS, D])
     (refine aq rfl fun K0 V => ?_; simp only [zE, op1, ev, lkp, ag, af, am, reduceCtorEq, E, D, G, U, J, M, Tryd.st24, Tryd.td1, Tryd.td24, Mpr.av, Int.toNat_natCast]; (repeat refine And.intro (by first | omega | assumption | exact rfl) ?_); refine V _ ?_; clear V K0; simp only [put, app, Z, ae, zE, zS, D])
     (refine aq rfl fun K0 V => ?_; simp only [zE, op1, ev, lkp, ag, af, az, Nat.mul_one, au, ay, acs, Ty.dflt, zG, ao, reduceCtorEq, E, D, G, U, J, M, Tryd.td3, Mpr.av, Int.toNat_natCast]; (repeat refine And.intro (by first | omega | assumption | exact rfl) ?_); refine V _ ?_; clear V K0; simp only [put, app, Z, ae, zE, zS, D])
     (refine aq rfl fun K0 V => ?_; simp only [zE, op1, ev, lkp, ag, af, aD, aC, aB, ak, aA, aP, reduceCtorEq, E, D, G, U, J, M, Tryd.td3, Tryd.td4, Mpr.av, Int.toNat_natCast]; (repeat refine And.intro (by first | omega | assumption | exact rfl) ?_); refine V _ ?_; clear V K0; simp only [put, app, Z, ae, zE, zS, D])
     (refine a9 rfl fun K0 V => ?_; simp only [zE, op1, ev, lkp, ag, af, bp, reduceCtorEq, E, D, G, U, J, M, Tryd.td4, Mpr.av, Int.toNat_natCast]; refine V _ ?_; clear V K0; simp only [put, app, Z, ae, zE, zS, D])
     refine ah ?_
     refine ⟨by simp only [Y, lkp, zE, reduceCtorEq, E, a8, D]; exact rfl, rfl, ?_, rfl⟩; (repeat refine aW rfl ?_); exact bt (by exact rfl) hq17
    case b17 => exact br (by first | rfl | (simp [bS]; done) | decide)
    simp only [bh, b8]
    refine ah ?_
    refine ⟨by kernel_rfl, ?_⟩
    refine hK14 _ ?_; clear hK14; refine ad [1, 2, 4, 5, 29, 78] ?_; simp only [Y, lkp, zE, reduceCtorEq, E, a8, D]
    refine aE (by simp only [ev, Y, lkp, zE, reduceCtorEq, E, a8, D]; exact rfl) (fun hc18 => ?_) (fun hc18 => ?_)
    ·(try simp only [zB, reduceCtorEq] at hc18)
     have hb9 : p.bad k c := by unfold Mpr.bad; omega
     refine aa fun K19 hK19 => ?_
     refine ai hP hN rfl ?_
     (refine a9 rfl fun K0 V => ?_; simp only [zE, op1, ev, lkp, ag, af, ev, reduceCtorEq, E, D, G, U, J, M, Tryd.td3, Mpr.av, Int.toNat_natCast]; refine V _ ?_; clear V K0; simp only [put, app, Z, ae, zE, zS, D])
     refine ah ?_
     refine hK19 _ ?_; clear hK19; refine ad [1, 2, 4, 5, 29, 78] ?_; simp only [Y, lkp, zE, reduceCtorEq, E, a8, D]
     refine aL ?_
     refine ⟨by first | exact .inl rfl | exact .inr rfl, _, rfl, ?_⟩; simp only [fzV, fz1, fzC, List.map_cons, List.map_nil, Y, lkp, zE, reduceCtorEq, E, a8, D, Mpr.av, Int.toNat_natCast]
     refine VLE.of_eq ?_
     refine congrArg (fun n => AV.one (AC.int IntKind.i64 n)) ?_
     symm
     first
     | exact bZ hl9
     | exact c0 hl9 (by omega) hb9
     | exact iR hl9 fun q hq2 => hq q (by omega)
    ·(try simp only [zB, reduceCtorEq] at hc18)
     have hb9 : ¬ p.bad k c := by unfold Mpr.bad; omega
     refine aH ?_
     refine hK13 _ ?_; clear hK13; refine ad [1, 2, 4, 5, 29, 78] ?_; simp only [Y, lkp, zE, reduceCtorEq, E, a8, D]
     refine ai hP hN rfl ?_
     iterate 3 (refine a9 rfl fun K0 V => ?_; simp only [zE, op1, ev, lkp, ag, af, aD, aC, aB, ak, aA, aP, reduceCtorEq, E, D, G, U, J, M, Tryd.td3, Mpr.av, Int.toNat_natCast]; (repeat refine And.intro (by first | omega | assumption | exact rfl) ?_); refine V _ ?_; clear V K0; simp only [put, app, Z, ae, zE, zS, D])
     refine ah ?_
     refine ⟨_, _, ?_, aT [1, 2, 4, 5], c + 1, by omega, fun q hq2 => ?_, rfl, rfl⟩
     · omega
     · by_cases e : q = c
       · rw [e]; exact hb9
       · exact hq q (by omega)
   ·(try simp only [zB, reduceCtorEq] at hc12)
    refine bG ?_
    refine hK7 _ ?_; clear hK7; refine ad [1, 2, 4, 5, 29] ?_; simp only [Y, lkp, zE, reduceCtorEq, E, a8, D]
    refine aa fun K20 hK20 => ?_
    refine ai hP hN rfl ?_
    (refine a9 rfl fun K0 V => ?_; simp only [zE, op1, ev, lkp, ag, af, ev, reduceCtorEq, E, D, G, U, J, M, Tryd.td3, Mpr.av, Int.toNat_natCast]; refine V _ ?_; clear V K0; simp only [put, app, Z, ae, zE, zS, D])
    refine ah ?_
    refine hK20 _ ?_; clear hK20; refine ad [1, 2, 4, 5, 29] ?_; simp only [Y, lkp, zE, reduceCtorEq, E, a8, D]
    refine aL ?_
    refine ⟨by first | exact .inl rfl | exact .inr rfl, _, rfl, ?_⟩; simp only [fzV, fz1, fzC, List.map_cons, List.map_nil, Y, lkp, zE, reduceCtorEq, E, a8, D, Mpr.av, Int.toNat_natCast]
    refine VLE.of_eq ?_
    refine congrArg (fun n => AV.one (AC.int IntKind.i64 n)) ?_
    symm
    first
    | exact bZ hl9
    | exact c0 hl9 (by omega) hb9
    | exact iR hl9 fun q hq2 => hq q (by omega)
end Go.Proofs.YtgmgnkmgofkfpaaDoor
namespace Go.Proofs.YtgmgnkmgofkfpaaDoor
open Go Go.AV
open Nat renaming reduceEqDiff → E, reduceAdd → D, reduceLeDiff → G, reduceLT → U, reduceMul → J, reduceSub → M
open List renaming set_cons_zero → ax, set_cons_succ → aw
set_option maxRecDepth 100000 in
theorem jg (p : Mpr) : cd Tryd.prog 12 [p.av] (.one (.int .i64 (bD p))) := by
 refine bn Tryd.func12 rfl (by kernel_rfl) (Nat.le_of_ble_eq_true rfl) rfl fun C hP hN hB => ?_
 replace hN : C.N = 62 := hN
 simp only [a8, D]
 refine aa fun K1 hK1 => ?_
 refine ai hP hN rfl ?_
 iterate 2 (refine a9 rfl fun K0 V => ?_; simp only [zE, op1, ev, lkp, ag, af, cB, ar, reduceCtorEq, E, D, G, U, J, M, Tryd.st24, Tryd.td24, Tryd.td3, Mpr.av]; (repeat refine And.intro (by first | omega | assumption | exact rfl) ?_); refine V _ ?_; clear V K0; simp only [put, app, Z, ae, zE, zS, D])
 refine ah ?_
 refine hK1 _ ?_; clear hK1; refine ad [0, 1, 2] ?_; simp only [Y, lkp, zE, reduceCtorEq, E, a8, D]
 refine aa fun K2 hK2 => ?_
 refine aa fun K3 hK3 => ?_
 refine ai hP hN rfl ?_
 iterate 3 (refine a9 rfl fun K0 V => ?_; simp only [zE, op1, ev, lkp, ag, af, am, az, Nat.mul_one, au, ay, acs, Ty.dflt, zG, ao, aD, aC, aB, ak, aA, aP, reduceCtorEq, E, D, G, U, J, M, Tryd.st24, Tryd.td24, Tryd.td3, Tryd.td4, Mpr.av]; (repeat refine And.intro (by first | omega | assumption | exact rfl) ?_); refine V _ ?_; clear V K0; simp only [put, app, Z, ae, zE, zS, D])
 (refine a9 rfl fun K0 V => ?_; simp only [zE, op1, ev, lkp, ag, af, ev, reduceCtorEq, E, D, G, U, J, M, Tryd.td4, Mpr.av]; refine V _ ?_; clear V K0; simp only [put, app, Z, ae, zE, zS, D])
 refine' aX (want := false) 3 rfl (m := 8) (by simp only [Y, lkp, zE, reduceCtorEq, E, a8, D]; exact rfl) (by kernel_rfl) rfl rfl rfl rfl rfl (fun hg4 => ?a4) ?b4 ?c4
 case a4 =>
  have hq4 := hg4; (try simp only [zB, reduceCtorEq] at hg4); simp only [List.take_succ_cons, List.take_zero, List.cons_append, List.nil_append]
  (refine aq rfl fun K0 V => ?_; simp only [zE, op1, ev, lkp, ag, af, am, reduceCtorEq, E, D, G, U, J, M, Tryd.st24, Tryd.td24, Mpr.av]; (repeat refine And.intro (by first | omega | assumption | exact rfl) ?_); refine V _ ?_; clear V K0; simp only [put, app, Z, ae, zE, zS, D])
  (refine aq rfl fun K0 V => ?_; simp only [zE, op1, ev, lkp, ag, af, az, Nat.mul_one, au, ay, acs, Ty.dflt, zG, ao, reduceCtorEq, E, D, G, U, J, M, Tryd.td3, Mpr.av]; (repeat refine And.intro (by first | omega | assumption | exact rfl) ?_); refine V _ ?_; clear V K0; simp only [put, app, Z, ae, zE, zS, D])
  (refine aq rfl fun K0 V => ?_; simp only [zE, op1, ev, lkp, ag, af, aD, aC, aB, ak, aA, aP, reduceCtorEq, E, D, G, U, J, M, Tryd.td3, Tryd.td4, Mpr.av]; (repeat refine And.intro (by first | omega | assumption | exact rfl) ?_); refine V _ ?_; clear V K0; simp only [put, app, Z, ae, zE, zS, D])
  (refine a9 rfl fun K0 V => ?_; simp only [zE, op1, ev, lkp, ag, af, bp, reduceCtorEq, E, D, G, U, J, M, Tryd.td4, Mpr.av]; refine V _ ?_; clear V K0; simp only [put, app, Z, ae, zE, zS, D])
  refine ah ?_
  refine ⟨by simp only [Y, lkp, zE, reduceCtorEq, E, a8, D]; exact rfl, rfl, ?_, rfl⟩; (repeat refine aW rfl ?_); exact bt (by exact rfl) hq4
 case b4 => exact br (by first | rfl | (simp [bS]; done) | decide)
 simp only [bh, b8]
 (refine a9 rfl fun K0 V => ?_; simp only [zE, op1, ev, lkp, ag, af, ev, reduceCtorEq, E, D, G, U, J, M, Tryd.td4, Mpr.av]; refine V _ ?_; clear V K0; simp only [put, app, Z, ae, zE, zS, D])
 refine' aX (want := false) 3 rfl (m := 13) (by simp only [Y, lkp, zE, reduceCtorEq, E, a8, D]; exact rfl) (by kernel_rfl) rfl rfl rfl rfl rfl (fun hg5 => ?a5) ?b5 ?c5
 case a5 =>
  have hq5 := hg5; (try simp only [zB, reduceCtorEq] at hg5); simp only [List.take_succ_cons, List.take_zero, List.cons_append, List.nil_append]
  (refine aq rfl fun K0 V => ?_; simp only [zE, op1, ev, lkp, ag, af, am, reduceCtorEq, E, D, G, U, J, M, Tryd.st24, Tryd.td1, Tryd.td24, Mpr.av]; (repeat refine And.intro (by first | omega | assumption | exact rfl) ?_); refine V _ ?_; clear V K0; simp only [put, app, Z, ae, zE, zS, D])
  (refine aq rfl fun K0 V => ?_; simp only [zE, op1, ev, lkp, ag, af, az, Nat.mul_one, au, ay, acs, Ty.dflt, zG, ao, reduceCtorEq, E, D, G, U, J, M, Tryd.td3, Mpr.av]; (repeat refine And.intro (by first | omega | assumption | exact rfl) ?_); refine V _ ?_; clear V K0; simp only [put, app, Z, ae, zE, zS, D])
  (refine aq rfl fun K0 V => ?_; simp only [zE, op1, ev, lkp, ag, af, aD, aC, aB, ak, aA, aP, reduceCtorEq, E, D, G, U, J, M, Tryd.td3, Tryd.td4, Mpr.av]; (repeat refine And.intro (by first | omega | assumption | exact rfl) ?_); refine V _ ?_; clear V K0; simp only [put, app, Z, ae, zE, zS, D])
  (refine a9 rfl fun K0 V => ?_; simp only [zE, op1, ev, lkp, ag, af, bp, reduceCtorEq, E, D, G, U, J, M, Tryd.td4, Mpr.av]; refine V _ ?_; clear V K0; simp only [put, app, Z, ae, zE, zS, D])
  refine ah ?_
  refine ⟨by simp only [Y, lkp, zE, reduceCtorEq, E, a8, D]; exact rfl, rfl, ?_, rfl⟩; (repeat refine aW rfl ?_); exact bt (by exact rfl) hq5
 case b5 => exact br (by first | rfl | (simp [bS]; done) | decide)
 simp only [bh, b8]
 (refine a9 rfl fun K0 V => ?_; simp only [zE, op1, ev, lkp, ag, af, ev, reduceCtorEq, E, D, G, U, J, M, Tryd.td4, Mpr.av]; refine V _ ?_; clear V K0; simp only [put, app, Z, ae, zE, zS, D])
 refine' aX (want := false) 3 rfl (m := 18) (by simp only [Y, lkp, zE, reduceCtorEq, E, a8, D]; exact rfl) (by kernel_rfl) rfl rfl rfl rfl rfl (fun hg6 => ?a6) ?b6 ?c6
 case a6 =>
  have hq6 := hg6; (try simp only [zB, reduceCtorEq] at hg6); simp only [List.take_succ_cons, List.take_zero, List.cons_append, List.nil_append]
  (refine aq rfl fun K0 V => ?_; simp only [zE, op1, ev, lkp, ag, af, am, reduceCtorEq, E, D, G, U, J, M, Tryd.st24, Tryd.td1, Tryd.td24, Mpr.av]; (repeat refine And.intro (by first | omega | assumption | exact rfl) ?_); refine V _ ?_; clear V K0; simp only [put, app, Z, ae, zE, zS, D])
  (refine aq rfl fun K0 V => ?_; simp only [zE, op1, ev, lkp, ag, af, az, Nat.mul_one, au, ay, acs, Ty.dflt, zG, ao, reduceCtorEq, E, D, G, U, J, M, Tryd.td3, Mpr.av]; (repeat refine And.intro (by first | omega | assumption | exact rfl) ?_); refine V _ ?_; clear V K0; simp only [put, app, Z, ae, zE, zS, D])
  (refine aq rfl fun K0 V => ?_; simp only [zE, op1, ev, lkp, ag, af, aD, aC, aB, ak, aA, aP, reduceCtorEq, E, D, G, U, J, M, Tryd.td3, Tryd.td4, Mpr.av]; (repeat refine And.intro (by first | omega | assumption | exact rfl) ?_); refine V _ ?_; clear V K0; simp only [put, app, Z, ae, zE, zS, D])
  (refine a9 rfl fun K0 V => ?_; simp only [zE, op1, ev, lkp, ag, af, bp, reduceCtorEq, E, D, G, U, J, M, Tryd.td4, Mpr.av]; refine V _ ?_; clear V K0; simp only [put, app, Z, ae, zE, zS, D])
  refine ah ?_
  refine ⟨by simp only [Y, lkp, zE, reduceCtorEq, E, a8, D]; exact rfl, rfl, ?_, rfl⟩; (repeat refine aW rfl ?_); exact bt (by exact rfl) hq6
 case b6 => exact br (by first | rfl | (simp [bS]; done) | decide)
 simp only [bh, b8]
 refine ah ?_
 refine hK3 _ ?_; clear hK3; refine ad [0, 1, 2, 22] ?_; simp only [Y, lkp, zE, reduceCtorEq, E, a8, D]
 refine aE (by simp only [ev, Y, lkp, zE, reduceCtorEq, E, a8, D]; exact rfl) (fun hc7 => ?_) (fun hc7 => ?_)
 ·(try simp only [zB, reduceCtorEq] at hc7)
  refine aa fun K8 hK8 => ?_
  refine ai hP hN rfl ?_
  (refine a9 rfl fun K0 V => ?_; simp only [zE, op1, ev, lkp, ag, af, ev, reduceCtorEq, E, D, G, U, J, M, Tryd.td3, Mpr.av]; refine V _ ?_; clear V K0; simp only [put, app, Z, ae, zE, zS, D])
  refine ah ?_
  refine hK8 _ ?_; clear hK8; refine ad [0, 1, 2, 22] ?_; simp only [Y, lkp, zE, reduceCtorEq, E, a8, D]
  refine aL ?_
  refine ⟨by first | exact .inl rfl | exact .inr rfl, _, rfl, ?_⟩; simp only [fzV, fz1, fzC, List.map_cons, List.map_nil, Y, lkp, zE, reduceCtorEq, E, a8, D, Mpr.av]
  refine VLE.of_eq ?_
  refine congrArg (fun n => AV.one (AC.int IntKind.i64 n)) ?_
  unfold bD
  symm
  first
  | (rw [if_pos (by omega)]; done)
  | (rw [if_neg (by omega), if_pos (by omega)]; done)
  | (rw [if_neg (by omega), if_neg (by omega), if_pos (by omega)]; done)
  | (rw [if_neg (by omega), if_neg (by omega), if_neg (by omega), if_pos (by omega)]; done)
  | (rw [if_neg (by omega), if_neg (by omega), if_neg (by omega), if_neg (by omega), if_pos (by omega)]; done)
  | (rw [if_neg (by omega), if_neg (by omega), if_neg (by omega), if_neg (by omega), if_neg (by omega)]
     first
     | (exact aV hrows (by omega) (by assumption))
     | exact (aV hrows (by omega) (by rw [bZ hl9]; decide)).trans (bZ hl9)
     | exact (aV hrows (by omega) (by rw [c0 hl9 (by omega) hb9]; decide)).trans (c0 hl9 (by omega) hb9)
     | exact bC fun i hi => hrows i (by omega))
 ·(try simp only [zB, reduceCtorEq] at hc7)
  refine aH ?_
  refine hK2 _ ?_; clear hK2; refine ad [0, 1, 2, 22] ?_; simp only [Y, lkp, zE, reduceCtorEq, E, a8, D]
  refine aa fun K9 hK9 => ?_
  refine aa fun K10 hK10 => ?_
  refine ai hP hN rfl ?_
  iterate 4 (refine a9 rfl fun K0 V => ?_; simp only [zE, op1, ev, lkp, ag, af, am, az, Nat.mul_one, au, ay, acs, Ty.dflt, zG, ao, aF, bz, bi, ba, bc, bv, Nat.div_one, aK, bg, Ty.size, aI, dite_true, aD, aC, aB, ak, aA, aP, reduceCtorEq, E, D, G, U, J, M, Tryd.el22, Tryd.st24, Tryd.td22, Tryd.td24, Tryd.td3, Tryd.td4, Mpr.av]; (repeat refine And.intro (by first | omega | assumption | exact rfl) ?_); (first | refine V _ ?_ | refine Or.inl (V _ ?_)); clear V K0; simp only [put, app, Z, ae, zE, zS, D])
  refine ah ?_
  refine hK10 _ ?_; clear hK10; refine ad [0, 1, 2, 22, 26] ?_; simp only [Y, lkp, zE, reduceCtorEq, E, a8, D]
  refine aE (by simp only [ev, Y, lkp, zE, reduceCtorEq, E, a8, D]; exact rfl) (fun hc11 => ?_) (fun hc11 => ?_)
  ·(try simp only [zB, reduceCtorEq] at hc11)
   refine aa fun K12 hK12 => ?_
   refine ai hP hN rfl ?_
   (refine a9 rfl fun K0 V => ?_; simp only [zE, op1, ev, lkp, ag, af, ev, reduceCtorEq, E, D, G, U, J, M, Tryd.td3, Mpr.av]; refine V _ ?_; clear V K0; simp only [put, app, Z, ae, zE, zS, D])
   refine ah ?_
   refine hK12 _ ?_; clear hK12; refine ad [0, 1, 2, 22, 26] ?_; simp only [Y, lkp, zE, reduceCtorEq, E, a8, D]
   refine aL ?_
   refine ⟨by first | exact .inl rfl | exact .inr rfl, _, rfl, ?_⟩; simp only [fzV, fz1, fzC, List.map_cons, List.map_nil, Y, lkp, zE, reduceCtorEq, E, a8, D, Mpr.av]
   refine VLE.of_eq ?_
   refine congrArg (fun n => AV.one (AC.int IntKind.i64 n)) ?_
   unfold bD
   symm
   first
   | (rw [if_pos (by omega)]; done)
   | (rw [if_neg (by omega), if_pos (by omega)]; done)
   | (rw [if_neg (by omega), if_neg (by omega), if_pos (by omega)]; done)
   | (rw [if_neg (by omega), if_neg (by omega), if_neg (by omega), if_pos (by omega)]; done)
   | (rw [if_neg (by omega), if_neg (by omega), if_neg (by omega), if_neg (by omega), if_pos (by omega)]; done)
   | (rw [if_neg (by omega), if_neg (by omega), if_neg (by omega), if_neg (by omega), if_neg (by omega)]
      first
      | (exact aV hrows (by omega) (by assumption))
      | exact (aV hrows (by omega) (by rw [bZ hl9]; decide)).trans (bZ hl9)
      | exact (aV hrows (by omega) (by rw [c0 hl9 (by omega) hb9]; decide)).trans (c0 hl9 (by omega) hb9)
      | exact bC fun i hi => hrows i (by omega))
  ·(try simp only [zB, reduceCtorEq] at hc11)
   refine aH ?_
   refine hK9 _ ?_; clear hK9; refine ad [0, 1, 2, 22, 26] ?_; simp only [Y, lkp, zE, reduceCtorEq, E, a8, D]
   refine aa fun K13 hK13 => ?_
   refine aa fun K14 hK14 => ?_
   refine ai hP hN rfl ?_
   iterate 4 (refine a9 rfl fun K0 V => ?_; simp only [zE, op1, ev, lkp, ag, af, am, az, Nat.mul_one, au, ay, acs, Ty.dflt, zG, ao, aF, bz, bi, ba, bc, bv, Nat.div_one, aK, bg, Ty.size, aI, dite_true, aD, aC, aB, ak, aA, aP, reduceCtorEq, E, D, G, U, J, M, Tryd.el22, Tryd.st24, Tryd.td22, Tryd.td24, Tryd.td3, Tryd.td4, Mpr.av]; (repeat refine And.intro (by first | omega | assumption | exact rfl) ?_); (first | refine V _ ?_ | refine Or.inl (V _ ?_)); clear V K0; simp only [put, app, Z, ae, zE, zS, D])
   refine ah ?_
   refine hK14 _ ?_; clear hK14; refine ad [0, 1, 2, 22, 26, 30] ?_; simp only [Y, lkp, zE, reduceCtorEq, E, a8, D]
   refine aE (by simp only [ev, Y, lkp, zE, reduceCtorEq, E, a8, D]; exact rfl) (fun hc15 => ?_) (fun hc15 => ?_)
   ·(try simp only [zB, reduceCtorEq] at hc15)
    refine aa fun K16 hK16 => ?_
    refine ai hP hN rfl ?_
    (refine a9 rfl fun K0 V => ?_; simp only [zE, op1, ev, lkp, ag, af, ev, reduceCtorEq, E, D, G, U, J, M, Tryd.td3, Mpr.av]; refine V _ ?_; clear V K0; simp only [put, app, Z, ae, zE, zS, D])
    refine ah ?_
    refine hK16 _ ?_; clear hK16; refine ad [0, 1, 2, 22, 26, 30] ?_; simp only [Y, lkp, zE, reduceCtorEq, E, a8, D]
    refine aL ?_
    refine ⟨by first | exact .inl rfl | exact .inr rfl, _, rfl, ?_⟩; simp only [fzV, fz1, fzC, List.map_cons, List.map_nil, Y, lkp, zE, reduceCtorEq, E, a8, D, Mpr.av]
    refine VLE.of_eq ?_
    refine congrArg (fun n => AV.one (AC.int IntKind.i64 n)) ?_
    unfold bD
    symm
    first
    | (rw [if_pos (by omega)]; done)
    | (rw [if_neg (by omega), if_pos (by omega)]; done)
    | (rw [if_neg (by omega), if_neg (by omega), if_pos (by omega)]; done)
    | (rw [if_neg (by omega), if_neg (by omega), if_neg (by omega), if_pos (by omega)]; done)
    | (rw [if_neg (by omega), if_neg (by omega), if_neg (by omega), if_neg (by omega), if_pos (by omega)]; done)
    | (rw [if_neg (by omega), if_neg (by omega), if_neg (by omega), if_neg (by omega), if_neg (by omega)]
       first
       | (exact aV hrows (by omega) (by assumption))
       | exact (aV hrows (by omega) (by rw [bZ hl9]; decide)).trans (bZ hl9)
       | exact (aV hrows (by omega) (by rw [c0 hl9 (by omega) hb9]; decide)).trans (c0 hl9 (by omega) hb9)
       | exact bC fun i hi => hrows i (by omega))
   ·(try simp only [zB, reduceCtorEq] at hc15)
    refine aH ?_
    refine hK13 _ ?_; clear hK13; refine ad [0, 1, 2, 22, 26, 30] ?_; simp only [Y, lkp, zE, reduceCtorEq, E, a8, D]
    refine aa fun K17 hK17 => ?_
    refine aa fun K18 hK18 => ?_
    refine ai hP hN rfl ?_
    iterate 3 (refine a9 rfl fun K0 V => ?_; simp only [zE, op1, ev, lkp, ag, af, am, az, Nat.mul_one, au, ay, acs, Ty.dflt, zG, ao, aD, aC, aB, ak, aA, aP, reduceCtorEq, E, D, G, U, J, M, Tryd.st24, Tryd.td2, Tryd.td24, Tryd.td3, Tryd.td4, Mpr.av]; (repeat refine And.intro (by first | omega | assumption | exact rfl) ?_); refine V _ ?_; clear V K0; simp only [put, app, Z, ae, zE, zS, D])
    (refine a9 rfl fun K0 V => ?_; simp only [zE, op1, ev, lkp, ag, af, ev, reduceCtorEq, E, D, G, U, J, M, Tryd.td4, Mpr.av]; refine V _ ?_; clear V K0; simp only [put, app, Z, ae, zE, zS, D])
    refine' aX (want := false) 6 rfl (m := 34) (by simp only [Y, lkp, zE, reduceCtorEq, E, a8, D]; exact rfl) (by kernel_rfl) rfl rfl rfl rfl rfl (fun hg19 => ?a19) ?b19 ?c19
    case a19 =>
     have hq19 := hg19; (try simp only [zB, reduceCtorEq] at hg19); simp only [List.take_succ_cons, List.take_zero, List.cons_append, List.nil_append]
     (refine aq rfl fun K0 V => ?_; simp only [zE, op1, ev, lkp, ag, af, am, reduceCtorEq, E, D, G, U, J, M, Tryd.st24, Tryd.td2, Tryd.td24, Mpr.av]; (repeat refine And.intro (by first | omega | assumption | exact rfl) ?_); refine V _ ?_; clear V K0; simp only [put, app, Z, ae, zE, zS, D])
     (refine aq rfl fun K0 V => ?_; simp only [zE, op1, ev, lkp, ag, af, az, Nat.mul_one, au, ay, acs, Ty.dflt, zG, ao, reduceCtorEq, E, D, G, U, J, M, Tryd.td3, Mpr.av]; (repeat refine And.intro (by first | omega | assumption | exact rfl) ?_); refine V _ ?_; clear V K0; simp only [put, app, Z, ae, zE, zS, D])
     (refine aq rfl fun K0 V => ?_; simp only [zE, op1, ev, lkp, ag, af, am, reduceCtorEq, E, D, G, U, J, M, Tryd.st24, Tryd.td24, Tryd.td3, Mpr.av]; (repeat refine And.intro (by first | omega | assumption | exact rfl) ?_); refine V _ ?_; clear V K0; simp only [put, app, Z, ae, zE, zS, D])
     (refine aq rfl fun K0 V => ?_; simp only [zE, op1, ev, lkp, ag, af, az, Nat.mul_one, au, ay, acs, Ty.dflt, zG, ao, reduceCtorEq, E, D, G, U, J, M, Tryd.el22, Tryd.td22, Mpr.av]; (repeat refine And.intro (by first | omega | assumption | exact rfl) ?_); refine V _ ?_; clear V K0; simp only [put, app, Z, ae, zE, zS, D])
     (refine aq rfl fun K0 V => ?_; simp only [zE, op1, ev, lkp, ag, af, aF, bz, bi, ba, bc, bv, Nat.div_one, aK, bg, Ty.size, aI, dite_true, reduceCtorEq, E, D, G, U, J, M, Tryd.el22, Tryd.td22, Tryd.td3, Mpr.av]; (repeat refine And.intro (by first | omega | assumption | exact rfl) ?_); (first | refine V _ ?_ | refine Or.inl (V _ ?_)); clear V K0; simp only [put, app, Z, ae, zE, zS, D])
     (refine aq rfl fun K0 V => ?_; simp only [zE, op1, ev, lkp, ag, af, aD, aC, aB, ak, aA, aP, reduceCtorEq, E, D, G, U, J, M, Tryd.td3, Tryd.td4, Mpr.av]; (repeat refine And.intro (by first | omega | assumption | exact rfl) ?_); refine V _ ?_; clear V K0; simp only [put, app, Z, ae, zE, zS, D])
     (refine a9 rfl fun K0 V => ?_; simp only [zE, op1, ev, lkp, ag, af, bp, reduceCtorEq, E, D, G, U, J, M, Tryd.td4, Mpr.av]; refine V _ ?_; clear V K0; simp only [put, app, Z, ae, zE, zS, D])
     refine ah ?_
     refine ⟨by simp only [Y, lkp, zE, reduceCtorEq, E, a8, D]; exact rfl, rfl, ?_, rfl⟩; (repeat refine aW rfl ?_); exact bt (by exact rfl) hq19
    case b19 => exact br (by first | rfl | (simp [bS]; done) | decide)
    simp only [bh, b8]
    refine ah ?_
    refine hK18 _ ?_; clear hK18; refine ad [0, 1, 2, 22, 26, 30, 41] ?_; simp only [Y, lkp, zE, reduceCtorEq, E, a8, D]
    refine aE (by simp only [ev, Y, lkp, zE, reduceCtorEq, E, a8, D]; exact rfl) (fun hc20 => ?_) (fun hc20 => ?_)
    ·(try simp only [zB, reduceCtorEq] at hc20)
     refine aa fun K21 hK21 => ?_
     refine ai hP hN rfl ?_
     (refine a9 rfl fun K0 V => ?_; simp only [zE, op1, ev, lkp, ag, af, ev, reduceCtorEq, E, D, G, U, J, M, Tryd.td3, Mpr.av]; refine V _ ?_; clear V K0; simp only [put, app, Z, ae, zE, zS, D])
     refine ah ?_
     refine hK21 _ ?_; clear hK21; refine ad [0, 1, 2, 22, 26, 30, 41] ?_; simp only [Y, lkp, zE, reduceCtorEq, E, a8, D]
     refine aL ?_
     refine ⟨by first | exact .inl rfl | exact .inr rfl, _, rfl, ?_⟩; simp only [fzV, fz1, fzC, List.map_cons, List.map_nil, Y, lkp, zE, reduceCtorEq, E, a8, D, Mpr.av]
     refine VLE.of_eq ?_
     refine congrArg (fun n => AV.one (AC.int IntKind.i64 n)) ?_
     unfold bD
     symm
     first
     | (rw [if_pos (by omega)]; done)
     | (rw [if_neg (by omega), if_pos (by omega)]; done)
     | (rw [if_neg (by omega), if_neg (by omega), if_pos (by omega)]; done)
     | (rw [if_neg (by omega), if_neg (by omega), if_neg (by omega), if_pos (by omega)]; done)
     | (rw [if_neg (by omega), if_neg (by omega), if_neg (by omega), if_neg (by omega), if_pos (by omega)]; done)
     | (rw [if_neg (by omega), if_neg (by omega), if_neg (by omega), if_neg (by omega), if_neg (by omega)]
        first
        | (exact aV hrows (by omega) (by assumption))
        | exact (aV hrows (by omega) (by rw [bZ hl9]; decide)).trans (bZ hl9)
        | exact (aV hrows (by omega) (by rw [c0 hl9 (by omega) hb9]; decide)).trans (c0 hl9 (by omega) hb9)
        | exact bC fun i hi => hrows i (by omega))
    ·(try simp only [zB, reduceCtorEq] at hc20)
     refine aH ?_
     refine hK17 _ ?_; clear hK17; refine ad [0, 1, 2, 22, 26, 30, 41] ?_; simp only [Y, lkp, zE, reduceCtorEq, E, a8, D]
     refine aa fun K22 hK22 => ?_
     refine aa fun K23 hK23 => ?_
     refine ai hP hN rfl ?_
     iterate 7 (refine a9 rfl fun K0 V => ?_; simp only [zE, op1, ev, lkp, ag, af, am, az, Nat.mul_one, au, ay, acs, Ty.dflt, zG, ao, aF, bz, bi, ba, bc, bv, Nat.div_one, aK, bg, Ty.size, aI, dite_true, aD, aC, aB, ak, aA, aP, reduceCtorEq, E, D, G, U, J, M, Tryd.el22, Tryd.st24, Tryd.td22, Tryd.td24, Tryd.td3, Tryd.td4, Mpr.av]; (repeat refine And.intro (by first | omega | assumption | exact rfl) ?_); (first | refine V _ ?_ | refine Or.inl (V _ ?_)); clear V K0; simp only [put, app, Z, ae, zE, zS, D])
     refine ah ?_
     refine hK23 _ ?_; clear hK23; refine ad [0, 1, 2, 22, 26, 30, 41, 48] ?_; simp only [Y, lkp, zE, reduceCtorEq, E, a8, D]
     refine aE (by simp only [ev, Y, lkp, zE, reduceCtorEq, E, a8, D]; exact rfl) (fun hc24 => ?_) (fun hc24 => ?_)
     ·(try simp only [zB, reduceCtorEq] at hc24)
      refine aa fun K25 hK25 => ?_
      refine ai hP hN rfl ?_
      (refine a9 rfl fun K0 V => ?_; simp only [zE, op1, ev, lkp, ag, af, ev, reduceCtorEq, E, D, G, U, J, M, Tryd.td3, Mpr.av]; refine V _ ?_; clear V K0; simp only [put, app, Z, ae, zE, zS, D])
      refine ah ?_
      refine hK25 _ ?_; clear hK25; refine ad [0, 1, 2, 22, 26, 30, 41, 48] ?_; simp only [Y, lkp, zE, reduceCtorEq, E, a8, D]
      refine aL ?_
      refine ⟨by first | exact .inl rfl | exact .inr rfl, _, rfl, ?_⟩; simp only [fzV, fz1, fzC, List.map_cons, List.map_nil, Y, lkp, zE, reduceCtorEq, E, a8, D, Mpr.av]
      refine VLE.of_eq ?_
      refine congrArg (fun n => AV.one (AC.int IntKind.i64 n)) ?_
      unfold bD
      symm
      first
      | (rw [if_pos (by omega)]; done)
      | (rw [if_neg (by omega), if_pos (by omega)]; done)
      | (rw [if_neg (by omega), if_neg (by omega), if_pos (by omega)]; done)
      | (rw [if_neg (by omega), if_neg (by omega), if_neg (by omega), if_pos (by omega)]; done)
      | (rw [if_neg (by omega), if_neg (by omega), if_neg (by omega), if_neg (by omega), if_pos (by omega)]; done)
      | (rw [if_neg (by omega), if_neg (by omega), if_neg (by omega), if_neg (by omega), if_neg (by omega)]
         first
         | (exact aV hrows (by omega) (by assumption))
         | exact (aV hrows (by omega) (by rw [bZ hl9]; decide)).trans (bZ hl9)
         | exact (aV hrows (by omega) (by rw [c0 hl9 (by omega) hb9]; decide)).trans (c0 hl9 (by omega) hb9)
         | exact bC fun i hi => hrows i (by omega))
     ·(try simp only [zB, reduceCtorEq] at hc24)
      refine aH ?_
      refine hK22 _ ?_; clear hK22; refine ad [0, 1, 2, 22, 26, 30, 41, 48] ?_; simp only [Y, lkp, zE, reduceCtorEq, E, a8, D]
      refine aa fun K26 hK26 => ?_
      refine aa fun K27 hK27 => ?_
      refine ai hP hN rfl ?_
      (refine a9 rfl fun K0 V => ?_; simp only [zE, op1, ev, lkp, ag, af, ev, reduceCtorEq, E, D, G, U, J, M, Tryd.td3, Mpr.av]; refine V _ ?_; clear V K0; simp only [put, app, Z, ae, zE, zS, D])
      refine ah ?_
      refine hK27 _ ?_; clear hK27; refine ad [0, 1, 2, 3, 22, 26, 30, 41, 48] ?_; simp only [Y, lkp, zE, reduceCtorEq, E, a8, D]
      refine aR ?_
      refine bH (fun n28 s28 => ∃ (k : Nat), (k ≤ p.nx.length) ∧ (∀ i, i < k → f8 p i = 0) ∧ n28 = p.nx.length - k ∧ s28 = { env := [(1, .one (.ptr 0 0 0 0)), (2, .one (.int .i64 0)), (3, .one (.int .i64 (k : Int)))], L := [.vars 24 [.int .i64 p.inp, .int .i64 p.ab, .int .i64 p.st, .list (.list (.int .i64)) p.nx, .list (.list (.int .i64)) p.sy]] }) ?_ ?_
      ·exact ⟨_, _, aT [1, 2, 3], 0, Nat.zero_le _, fun i hi => by omega, rfl, rfl⟩
      ·rintro n28 s28 ⟨k, hk, hrows, rfl, rfl⟩
       refine aa fun K29 hK29 => ?_
       refine aa fun K30 hK30 => ?_
       refine ai hP hN rfl ?_
       iterate 5 (refine a9 rfl fun K0 V => ?_; simp only [zE, op1, ev, lkp, ag, af, am, az, Nat.mul_one, au, ay, acs, Ty.dflt, zG, ao, aF, bz, bi, ba, bc, bv, Nat.div_one, aK, bg, Ty.size, aI, dite_true, aD, aC, aB, ak, aA, aP, reduceCtorEq, E, D, G, U, J, M, Tryd.el22, Tryd.st24, Tryd.td22, Tryd.td24, Tryd.td3, Tryd.td4, Mpr.av]; (repeat refine And.intro (by first | omega | assumption | exact rfl) ?_); (first | refine V _ ?_ | refine Or.inl (V _ ?_)); clear V K0; simp only [put, app, Z, ae, zE, zS, D])
       refine ah ?_
       refine hK30 _ ?_; clear hK30; refine ad [1, 2, 3, 53] ?_; simp only [Y, lkp, zE, reduceCtorEq, E, a8, D]
       refine aE (by simp only [ev, Y, lkp, zE, reduceCtorEq, E, a8, D]; exact rfl) (fun hc31 => ?_) (fun hc31 => ?_)
       ·(try simp only [zB, reduceCtorEq] at hc31)
        refine aH ?_
        refine hK29 _ ?_; clear hK29; refine ad [1, 2, 3, 53] ?_; simp only [Y, lkp, zE, reduceCtorEq, E, a8, D]
        refine aa fun K32 hK32 => ?_
        refine aR ?_
        refine aa fun K33 hK33 => ?_
        refine ai hP hN rfl ?_
        iterate 2 (refine a9 rfl fun K0 V => ?_; simp only [zE, op1, ev, lkp, ag, af, az, Nat.mul_one, au, ay, acs, Ty.dflt, zG, ao, reduceCtorEq, E, D, G, U, J, M, Tryd.st24, Tryd.td24, Tryd.td3, Mpr.av]; (repeat refine And.intro (by first | omega | assumption | exact rfl) ?_); refine V _ ?_; clear V K0; simp only [put, app, Z, ae, zE, zS, D])
        refine a9 rfl fun K0 V => ?_
        refine aY (h := aM (pR p k (by omega) (by omega) (by omega))) rfl rfl (by first | exact rfl | (simp only [ev, Y, lkp, zE, reduceCtorEq, E, a8, D]; exact rfl)) (by simp only [zE, zG, op1, ev, lkp, ag, af, ar, acs, bl, mv1, mvC, Ty.dflt, reduceCtorEq, E, D, G, U, J, M, Mpr.av]) ?_
        refine V _ ?_; clear V K0; simp only [put, app, Z, ae, zE, zS, D]
        (refine a9 rfl fun K0 V => ?_; simp only [zE, op1, ev, lkp, ag, af, ev, reduceCtorEq, E, D, G, U, J, M, Tryd.td3, Mpr.av]; refine V _ ?_; clear V K0; simp only [put, app, Z, ae, zE, zS, D])
        refine ah ?_
        refine hK33 _ ?_; clear hK33; refine ad [1, 2, 3, 4, 53] ?_; simp only [Y, lkp, zE, reduceCtorEq, E, a8, D]
        refine aa fun K34 hK34 => ?_
        refine ai hP hN rfl ?_
        iterate 2 (refine a9 rfl fun K0 V => ?_; simp only [zE, op1, ev, lkp, ag, af, aD, aC, aB, ak, aA, aP, reduceCtorEq, E, D, G, U, J, M, Tryd.td3, Tryd.td4, Mpr.av]; (repeat refine And.intro (by first | omega | assumption | exact rfl) ?_); refine V _ ?_; clear V K0; simp only [put, app, Z, ae, zE, zS, D])
        refine ah ?_
        refine hK34 _ ?_; clear hK34; refine ad [1, 2, 3, 4, 53, 60] ?_; simp only [Y, lkp, zE, reduceCtorEq, E, a8, D]
        refine aE (by simp only [ev, Y, lkp, zE, reduceCtorEq, E, a8, D]; exact rfl) (fun hc35 => ?_) (fun hc35 => ?_)
        ·(try simp only [zB, reduceCtorEq] at hc35)
         refine aa fun K36 hK36 => ?_
         refine ai hP hN rfl ?_
         iterate 2 (refine a9 rfl fun K0 V => ?_; simp only [zE, op1, ev, lkp, ag, af, ev, reduceCtorEq, E, D, G, U, J, M, Tryd.td3, Mpr.av]; refine V _ ?_; clear V K0; simp only [put, app, Z, ae, zE, zS, D])
         refine ah ?_
         refine hK36 _ ?_; clear hK36; refine ad [1, 2, 3, 4, 53, 60] ?_; simp only [Y, lkp, zE, reduceCtorEq, E, a8, D]
         refine aL ?_
         refine ⟨by first | exact .inl rfl | exact .inr rfl, _, rfl, ?_⟩; simp only [fzV, fz1, fzC, List.map_cons, List.map_nil, Y, lkp, zE, reduceCtorEq, E, a8, D, Mpr.av]
         refine VLE.of_eq ?_
         refine congrArg (fun n => AV.one (AC.int IntKind.i64 n)) ?_
         unfold bD
         symm
         first
         | (rw [if_pos (by omega)]; done)
         | (rw [if_neg (by omega), if_pos (by omega)]; done)
         | (rw [if_neg (by omega), if_neg (by omega), if_pos (by omega)]; done)
         | (rw [if_neg (by omega), if_neg (by omega), if_neg (by omega), if_pos (by omega)]; done)
         | (rw [if_neg (by omega), if_neg (by omega), if_neg (by omega), if_neg (by omega), if_pos (by omega)]; done)
         | (rw [if_neg (by omega), if_neg (by omega), if_neg (by omega), if_neg (by omega), if_neg (by omega)]
            first
            | (exact aV hrows (by omega) (by assumption))
            | exact (aV hrows (by omega) (by rw [bZ hl9]; decide)).trans (bZ hl9)
            | exact (aV hrows (by omega) (by rw [c0 hl9 (by omega) hb9]; decide)).trans (c0 hl9 (by omega) hb9)
            | exact bC fun i hi => hrows i (by omega))
        ·(try simp only [zB, reduceCtorEq] at hc35)
         refine aH ?_
         refine hK32 _ ?_; clear hK32; refine ad [1, 2, 3, 4, 53, 60] ?_; simp only [Y, lkp, zE, reduceCtorEq, E, a8, D]
         refine ai hP hN rfl ?_
         iterate 3 (refine a9 rfl fun K0 V => ?_; simp only [zE, op1, ev, lkp, ag, af, aD, aC, aB, ak, aA, aP, reduceCtorEq, E, D, G, U, J, M, Tryd.td3, Mpr.av]; (repeat refine And.intro (by first | omega | assumption | exact rfl) ?_); refine V _ ?_; clear V K0; simp only [put, app, Z, ae, zE, zS, D])
         refine ah ?_
         refine ⟨_, _, ?_, aT [1, 2, 3], k + 1, by omega, fun i hi => ?_, rfl, rfl⟩
         · omega
         · by_cases e : i = k
           · rw [e]; omega
           · exact hrows i (by omega)
       ·(try simp only [zB, reduceCtorEq] at hc31)
        refine bG ?_
        refine hK26 _ ?_; clear hK26; refine ad [1, 2, 3, 53] ?_; simp only [Y, lkp, zE, reduceCtorEq, E, a8, D]
        refine aa fun K37 hK37 => ?_
        refine ai hP hN rfl ?_
        (refine a9 rfl fun K0 V => ?_; simp only [zE, op1, ev, lkp, ag, af, ev, reduceCtorEq, E, D, G, U, J, M, Tryd.td3, Mpr.av]; refine V _ ?_; clear V K0; simp only [put, app, Z, ae, zE, zS, D])
        refine ah ?_
        refine hK37 _ ?_; clear hK37; refine ad [1, 2, 3, 53] ?_; simp only [Y, lkp, zE, reduceCtorEq, E, a8, D]
        refine aL ?_
        refine ⟨by first | exact .inl rfl | exact .inr rfl, _, rfl, ?_⟩; simp only [fzV, fz1, fzC, List.map_cons, List.map_nil, Y, lkp, zE, reduceCtorEq, E, a8, D, Mpr.av]
        refine VLE.of_eq ?_
        refine congrArg (fun n => AV.one (AC.int IntKind.i64 n)) ?_
        unfold bD
        symm
        first
        | (rw [if_pos (by omega)]; done)
        | (rw [if_neg (by omega), if_pos (by omega)]; done)
        | (rw [if_neg (by omega), if_neg (by omega), if_pos (by omega)]; done)
        | (rw [if_neg (by omega), if_neg (by omega), if_neg (by omega), if_pos (by omega)]; done)
        | (rw [if_neg (by omega), if_neg (by omega), if_neg (by omega), if_neg (by omega), if_pos (by omega)]; done)
        | (rw [if_neg (by omega), if_neg (by omega), if_neg (by omega), if_neg (by omega), if_neg (by omega)]
           first
           | (exact aV hrows (by omega) (by assumption))
           | exact (aV hrows (by omega) (by rw [bZ hl9]; decide)).trans (bZ hl9)
           | exact (aV hrows (by omega) (by rw [c0 hl9 (by omega) hb9]; decide)).trans (c0 hl9 (by omega) hb9)
           | exact bC fun i hi => hrows i (by omega))
end Go.Proofs.YtgmgnkmgofkfpaaDoor
namespace Go.Proofs.YtgmgnkmgofkfpaaDoor
open Go Go.AV
open Nat renaming reduceEqDiff → E, reduceAdd → D, reduceLeDiff → G, reduceLT → U, reduceMul → J, reduceSub → M
open List renaming set_cons_zero → ax, set_cons_succ → aw
set_option maxRecDepth 100000 in
theorem pM (n : Int) : cd Tryd.prog 50 [.one (.int .i64 n)] (.one (.bool (decide (1 ≤ n) && decide (n ≤ 1024)))) := by
 refine bn Tryd.func50 rfl (by kernel_rfl) (Nat.le_of_ble_eq_true rfl) rfl fun C hP hN hB => ?_
 replace hN : C.N = 9 := hN
 simp only [a8, D]
 refine aa fun K1 hK1 => ?_
 refine ai hP hN rfl ?_
 (refine a9 rfl fun K0 V => ?_; simp only [zE, op1, ev, lkp, ag, af, ev, reduceCtorEq, E, D, G, U, J, M, Tryd.td4]; refine V _ ?_; clear V K0; simp only [put, app, Z, ae, zE, zS, D])
 refine ah ?_
 refine hK1 _ ?_; clear hK1; refine ad [0, 2] ?_; simp only [Y, lkp, zE, reduceCtorEq, E, a8, D]
 refine aa fun K2 hK2 => ?_
 refine ai hP hN rfl ?_
 iterate 2 (refine a9 rfl fun K0 V => ?_; simp only [zE, op1, ev, lkp, ag, af, aD, aC, aB, ak, aA, aP, reduceCtorEq, E, D, G, U, J, M, Tryd.td3, Tryd.td4]; (repeat refine And.intro (by first | omega | assumption | exact rfl) ?_); refine V _ ?_; clear V K0; simp only [put, app, Z, ae, zE, zS, D])
 (refine a9 rfl fun K0 V => ?_; simp only [zE, op1, ev, lkp, ag, af, ev, reduceCtorEq, E, D, G, U, J, M, Tryd.td4]; refine V _ ?_; clear V K0; simp only [put, app, Z, ae, zE, zS, D])
 refine' aX (want := true) 2 rfl (m := 5) (by simp only [Y, lkp, zE, reduceCtorEq, E, a8, D]; exact rfl) (by kernel_rfl) rfl rfl rfl rfl rfl (fun hg3 => ?a3) ?b3 ?c3
 case a3 =>
  have hq3 := hg3; (try simp only [zB, reduceCtorEq] at hg3); simp only [List.take_succ_cons, List.take_zero, List.cons_append, List.nil_append]
  (refine aq rfl fun K0 V => ?_; simp only [zE, op1, ev, lkp, ag, af, ev, reduceCtorEq, E, D, G, U, J, M, Tryd.td3]; refine V _ ?_; clear V K0; simp only [put, app, Z, ae, zE, zS, D])
  (refine aq rfl fun K0 V => ?_; simp only [zE, op1, ev, lkp, ag, af, aD, aC, aB, ak, aA, aP, reduceCtorEq, E, D, G, U, J, M, Tryd.td3, Tryd.td4]; (repeat refine And.intro (by first | omega | assumption | exact rfl) ?_); refine V _ ?_; clear V K0; simp only [put, app, Z, ae, zE, zS, D])
  (refine a9 rfl fun K0 V => ?_; simp only [zE, op1, ev, lkp, ag, af, bp, reduceCtorEq, E, D, G, U, J, M, Tryd.td4]; refine V _ ?_; clear V K0; simp only [put, app, Z, ae, zE, zS, D])
  refine ah ?_
  refine ⟨by simp only [Y, lkp, zE, reduceCtorEq, E, a8, D]; exact rfl, rfl, ?_, rfl⟩; (repeat refine aW rfl ?_); exact bt (by exact rfl) hq3
 case b3 => exact br (by first | rfl | (simp [bS]; done) | decide)
 simp only [bh, b8]
 (refine a9 rfl fun K0 V => ?_; simp only [zE, op1, ev, lkp, ag, af, ev, reduceCtorEq, E, D, G, U, J, M, Tryd.td4]; refine V _ ?_; clear V K0; simp only [put, app, Z, ae, zE, zS, D])
 refine ah ?_
 refine hK2 _ ?_; clear hK2; refine ad [0, 2] ?_; simp only [Y, lkp, zE, reduceCtorEq, E, a8, D]
 refine aL ?_
 refine ⟨by first | exact .inl rfl | exact .inr rfl, _, rfl, ?_⟩; simp only [fzV, fz1, fzC, List.map_cons, List.map_nil, Y, lkp, zE, reduceCtorEq, E, a8, D]
 refine VLE.of_eq ?_
 rfl
end Go.Proofs.YtgmgnkmgofkfpaaDoor
namespace Go.Proofs.YtgmgnkmgofkfpaaDoor
open Go Go.AV
open Nat renaming reduceEqDiff → E, reduceAdd → D, reduceLeDiff → G, reduceLT → U, reduceMul → J, reduceSub → M
open List renaming set_cons_zero → ax, set_cons_succ → aw
set_option maxRecDepth 100000 in
theorem jV (w : List Int) (n : Int) : cd Tryd.prog 29 [.one (.list (.int .i64) w), .one (.int .i64 n)] (.one (.int .i64 (c9 w n))) := by
 refine bn Tryd.func29 rfl (by kernel_rfl) (Nat.le_of_ble_eq_true rfl) rfl fun C hP hN hB => ?_
 replace hN : C.N = 31 := hN
 simp only [a8, D]
 refine aa fun K1 hK1 => ?_
 refine ai hP hN rfl ?_
 (refine a9 rfl fun K0 V => ?_; simp only [zE, op1, ev, lkp, ag, af, ev, reduceCtorEq, E, D, G, U, J, M, Tryd.td3]; refine V _ ?_; clear V K0; simp only [put, app, Z, ae, zE, zS, D])
 refine ah ?_
 refine hK1 _ ?_; clear hK1; refine ad [0, 1, 4] ?_; simp only [Y, lkp, zE, reduceCtorEq, E, a8, D]
 refine aa fun K2 hK2 => ?_
 refine aa fun K3 hK3 => ?_
 refine ai hP hN rfl ?_
 (refine a9 rfl fun K0 V => ?_; simp only [zE, op1, ev, lkp, ag, af, ev, reduceCtorEq, E, D, G, U, J, M, Tryd.td3]; refine V _ ?_; clear V K0; simp only [put, app, Z, ae, zE, zS, D])
 refine a9 rfl fun K0 V => ?_
 refine aY (h := aM (pM n)) rfl rfl (by first | exact rfl | (simp only [ev, Y, lkp, zE, reduceCtorEq, E, a8, D]; exact rfl)) (by simp only [zE, zG, op1, ev, lkp, ag, af, ar, acs, bl, mv1, mvC, Ty.dflt, reduceCtorEq, E, D, G, U, J, M]) ?_
 refine V _ ?_; clear V K0; simp only [put, app, Z, ae, zE, zS, D]
 (refine a9 rfl fun K0 V => ?_; simp only [zE, op1, ev, lkp, ag, af, dW, reduceCtorEq, E, D, G, U, J, M, Tryd.td4]; (repeat refine And.intro (by first | omega | assumption | exact rfl) ?_); refine V _ ?_; clear V K0; simp only [put, app, Z, ae, zE, zS, D])
 refine ah ?_
 refine hK3 _ ?_; clear hK3; refine ad [0, 1, 4, 8] ?_; simp only [Y, lkp, zE, reduceCtorEq, E, a8, D]
 refine aE (by simp only [ev, Y, lkp, zE, reduceCtorEq, E, a8, D]; exact rfl) (fun hc4 => ?_) (fun hc4 => ?_)
 ·(try simp only [zB, reduceCtorEq] at hc4)
  refine aa fun K5 hK5 => ?_
  refine ai hP hN rfl ?_
  (refine a9 rfl fun K0 V => ?_; simp only [zE, op1, ev, lkp, ag, af, ev, reduceCtorEq, E, D, G, U, J, M, Tryd.td3]; refine V _ ?_; clear V K0; simp only [put, app, Z, ae, zE, zS, D])
  refine ah ?_
  refine hK5 _ ?_; clear hK5; refine ad [0, 1, 4, 8] ?_; simp only [Y, lkp, zE, reduceCtorEq, E, a8, D]
  refine aL ?_
  refine ⟨by first | exact .inl rfl | exact .inr rfl, _, rfl, ?_⟩; simp only [fzV, fz1, fzC, List.map_cons, List.map_nil, Y, lkp, zE, reduceCtorEq, E, a8, D]
  refine VLE.of_eq ?_
  refine congrArg (fun n => AV.one (AC.int IntKind.i64 n)) ?_
  symm
  first
  | (unfold c9; rw [if_pos (by omega)]; done)
  | (unfold c9; rw [if_neg (by omega), if_pos (by omega)]; done)
  | exact eK (by omega) (by omega) (by omega) (i := k) (by omega) (by omega)
  | exact fE (by omega) (by omega) ⟨by omega, fun i hi => hI i (by omega)⟩
 ·(try simp only [zB, reduceCtorEq] at hc4)
  refine aH ?_
  refine hK2 _ ?_; clear hK2; refine ad [0, 1, 4, 8] ?_; simp only [Y, lkp, zE, reduceCtorEq, E, a8, D]
  refine aa fun K6 hK6 => ?_
  refine aa fun K7 hK7 => ?_
  refine ai hP hN rfl ?_
  iterate 3 (refine a9 rfl fun K0 V => ?_; simp only [zE, op1, ev, lkp, ag, af, aF, bz, bi, ba, bc, bv, Nat.div_one, aK, bg, Ty.size, aI, dite_true, aD, aC, aB, ak, aA, aP, reduceCtorEq, E, D, G, U, J, M, Tryd.el25, Tryd.td25, Tryd.td3, Tryd.td4]; (repeat refine And.intro (by first | omega | assumption | exact rfl) ?_); (first | refine V _ ?_ | refine Or.inl (V _ ?_)); clear V K0; simp only [put, app, Z, ae, zE, zS, D])
  refine ah ?_
  refine hK7 _ ?_; clear hK7; refine ad [0, 1, 4, 8, 11] ?_; simp only [Y, lkp, zE, reduceCtorEq, E, a8, D]
  refine aE (by simp only [ev, Y, lkp, zE, reduceCtorEq, E, a8, D]; exact rfl) (fun hc8 => ?_) (fun hc8 => ?_)
  ·(try simp only [zB, reduceCtorEq] at hc8)
   refine aa fun K9 hK9 => ?_
   refine ai hP hN rfl ?_
   (refine a9 rfl fun K0 V => ?_; simp only [zE, op1, ev, lkp, ag, af, ev, reduceCtorEq, E, D, G, U, J, M, Tryd.td3]; refine V _ ?_; clear V K0; simp only [put, app, Z, ae, zE, zS, D])
   refine ah ?_
   refine hK9 _ ?_; clear hK9; refine ad [0, 1, 4, 8, 11] ?_; simp only [Y, lkp, zE, reduceCtorEq, E, a8, D]
   refine aL ?_
   refine ⟨by first | exact .inl rfl | exact .inr rfl, _, rfl, ?_⟩; simp only [fzV, fz1, fzC, List.map_cons, List.map_nil, Y, lkp, zE, reduceCtorEq, E, a8, D]
   refine VLE.of_eq ?_
   refine congrArg (fun n => AV.one (AC.int IntKind.i64 n)) ?_
   symm
   first
   | (unfold c9; rw [if_pos (by omega)]; done)
   | (unfold c9; rw [if_neg (by omega), if_pos (by omega)]; done)
   | exact eK (by omega) (by omega) (by omega) (i := k) (by omega) (by omega)
   | exact fE (by omega) (by omega) ⟨by omega, fun i hi => hI i (by omega)⟩
  ·(try simp only [zB, reduceCtorEq] at hc8)
   refine aH ?_
   refine hK6 _ ?_; clear hK6; refine ad [0, 1, 4, 8, 11] ?_; simp only [Y, lkp, zE, reduceCtorEq, E, a8, D]
   refine aa fun K10 hK10 => ?_
   refine aa fun K11 hK11 => ?_
   refine ai hP hN rfl ?_
   (refine a9 rfl fun K0 V => ?_; simp only [zE, op1, ev, lkp, ag, af, ev, reduceCtorEq, E, D, G, U, J, M, Tryd.td3]; refine V _ ?_; clear V K0; simp only [put, app, Z, ae, zE, zS, D])
   refine ah ?_
   refine hK11 _ ?_; clear hK11; refine ad [0, 1, 4, 5, 8, 11] ?_; simp only [Y, lkp, zE, reduceCtorEq, E, a8, D]
   refine aR ?_
   refine bH (fun n12 s12 => ∃ (k : Nat), (k ≤ w.length) ∧ (∀ i, i < k → 0 ≤ w.getD i 0 ∧ w.getD i 0 < n) ∧ n12 = w.length - k ∧ s12 = { env := [(0, .one (.list (.int .i64) w)), (1, .one (.int .i64 n)), (5, .one (.int .i64 (k : Int)))], L := [] }) ?_ ?_
   ·exact ⟨_, _, aT [0, 1, 5], 0, Nat.zero_le _, fun i hi => by omega, rfl, rfl⟩
   ·rintro n12 s12 ⟨k, hk, hI, rfl, rfl⟩
    refine aa fun K13 hK13 => ?_
    refine aa fun K14 hK14 => ?_
    refine ai hP hN rfl ?_
    iterate 4 (refine a9 rfl fun K0 V => ?_; simp only [zE, op1, ev, lkp, ag, af, aF, bz, bi, ba, bc, bv, Nat.div_one, aK, bg, Ty.size, aI, dite_true, aD, aC, aB, ak, aA, aP, reduceCtorEq, E, D, G, U, J, M, Tryd.el25, Tryd.td25, Tryd.td3, Tryd.td4]; (repeat refine And.intro (by first | omega | assumption | exact rfl) ?_); (first | refine V _ ?_ | refine Or.inl (V _ ?_)); clear V K0; simp only [put, app, Z, ae, zE, zS, D])
    refine ah ?_
    refine hK14 _ ?_; clear hK14; refine ad [0, 1, 5, 15] ?_; simp only [Y, lkp, zE, reduceCtorEq, E, a8, D]
    refine aE (by simp only [ev, Y, lkp, zE, reduceCtorEq, E, a8, D]; exact rfl) (fun hc15 => ?_) (fun hc15 => ?_)
    ·(try simp only [zB, reduceCtorEq] at hc15)
     refine aH ?_
     refine hK13 _ ?_; clear hK13; refine ad [0, 1, 5, 15] ?_; simp only [Y, lkp, zE, reduceCtorEq, E, a8, D]
     refine aa fun K16 hK16 => ?_
     refine aR ?_
     refine aa fun K17 hK17 => ?_
     refine ai hP hN rfl ?_
     iterate 5 (refine a9 rfl fun K0 V => ?_; simp only [zE, op1, ev, lkp, ag, af, aG, zG, Ty.dflt, Ty.size, Nat.mul_one, ne_eq, not_false_eq_true, Int.natCast_one, Int.mul_one, az, au, ay, acs, ao, aD, aC, aB, ak, aA, aP, reduceCtorEq, E, D, G, U, J, M, Tryd.el25, Tryd.td25, Tryd.td3, Tryd.td4]; (repeat refine And.intro (by first | omega | assumption | exact rfl) ?_); refine V _ ?_; clear V K0; simp only [put, app, Z, ae, zE, zS, D])
     (refine a9 rfl fun K0 V => ?_; simp only [zE, op1, ev, lkp, ag, af, ev, reduceCtorEq, E, D, G, U, J, M, Tryd.td4]; refine V _ ?_; clear V K0; simp only [put, app, Z, ae, zE, zS, D])
     refine' aX (want := false) 6 rfl (m := 23) (by simp only [Y, lkp, zE, reduceCtorEq, E, a8, D]; exact rfl) (by kernel_rfl) rfl rfl rfl rfl rfl (fun hg18 => ?a18) ?b18 ?c18
     case a18 =>
      have hq18 := hg18; (try simp only [zB, reduceCtorEq] at hg18); simp only [List.take_succ_cons, List.take_zero, List.cons_append, List.nil_append]
      (refine aq rfl fun K0 V => ?_; simp only [zE, op1, ev, lkp, ag, af, ev, reduceCtorEq, E, D, G, U, J, M, Tryd.el25, Tryd.td25]; refine V _ ?_; clear V K0; simp only [put, app, Z, ae, zE, zS, D])
      (refine aq rfl fun K0 V => ?_; simp only [zE, op1, ev, lkp, ag, af, ev, reduceCtorEq, E, D, G, U, J, M, Tryd.td3]; refine V _ ?_; clear V K0; simp only [put, app, Z, ae, zE, zS, D])
      (refine aq rfl fun K0 V => ?_; simp only [zE, op1, ev, lkp, ag, af, aG, zG, Ty.dflt, Ty.size, Nat.mul_one, ne_eq, not_false_eq_true, Int.natCast_one, Int.mul_one, reduceCtorEq, E, D, G, U, J, M, Tryd.el25, Tryd.td25]; (repeat refine And.intro (by first | omega | assumption | exact rfl) ?_); refine V _ ?_; clear V K0; simp only [put, app, Z, ae, zE, zS, D])
      (refine aq rfl fun K0 V => ?_; simp only [zE, op1, ev, lkp, ag, af, az, Nat.mul_one, au, ay, acs, Ty.dflt, zG, ao, reduceCtorEq, E, D, G, U, J, M, Tryd.td3]; (repeat refine And.intro (by first | omega | assumption | exact rfl) ?_); refine V _ ?_; clear V K0; simp only [put, app, Z, ae, zE, zS, D])
      (refine aq rfl fun K0 V => ?_; simp only [zE, op1, ev, lkp, ag, af, ev, reduceCtorEq, E, D, G, U, J, M, Tryd.td3]; refine V _ ?_; clear V K0; simp only [put, app, Z, ae, zE, zS, D])
      (refine aq rfl fun K0 V => ?_; simp only [zE, op1, ev, lkp, ag, af, aD, aC, aB, ak, aA, aP, reduceCtorEq, E, D, G, U, J, M, Tryd.td3, Tryd.td4]; (repeat refine And.intro (by first | omega | assumption | exact rfl) ?_); refine V _ ?_; clear V K0; simp only [put, app, Z, ae, zE, zS, D])
      (refine a9 rfl fun K0 V => ?_; simp only [zE, op1, ev, lkp, ag, af, bp, reduceCtorEq, E, D, G, U, J, M, Tryd.td4]; refine V _ ?_; clear V K0; simp only [put, app, Z, ae, zE, zS, D])
      refine ah ?_
      refine ⟨by simp only [Y, lkp, zE, reduceCtorEq, E, a8, D]; exact rfl, rfl, ?_, rfl⟩; (repeat refine aW rfl ?_); exact bt (by exact rfl) hq18
     case b18 => exact br (by first | rfl | (simp [bS]; done) | decide)
     simp only [bh, b8]
     refine ah ?_
     refine hK17 _ ?_; clear hK17; refine ad [0, 1, 5, 15, 30] ?_; simp only [Y, lkp, zE, reduceCtorEq, E, a8, D]
     refine aE (by simp only [ev, Y, lkp, zE, reduceCtorEq, E, a8, D]; exact rfl) (fun hc19 => ?_) (fun hc19 => ?_)
     ·(try simp only [zB, reduceCtorEq] at hc19)
      refine aa fun K20 hK20 => ?_
      refine ai hP hN rfl ?_
      (refine a9 rfl fun K0 V => ?_; simp only [zE, op1, ev, lkp, ag, af, ev, reduceCtorEq, E, D, G, U, J, M, Tryd.td3]; refine V _ ?_; clear V K0; simp only [put, app, Z, ae, zE, zS, D])
      refine ah ?_
      refine hK20 _ ?_; clear hK20; refine ad [0, 1, 4, 5, 15, 30] ?_; simp only [Y, lkp, zE, reduceCtorEq, E, a8, D]
      refine aL ?_
      refine ⟨by first | exact .inl rfl | exact .inr rfl, _, rfl, ?_⟩; simp only [fzV, fz1, fzC, List.map_cons, List.map_nil, Y, lkp, zE, reduceCtorEq, E, a8, D]
      refine VLE.of_eq ?_
      refine congrArg (fun n => AV.one (AC.int IntKind.i64 n)) ?_
      symm
      first
      | (unfold c9; rw [if_pos (by omega)]; done)
      | (unfold c9; rw [if_neg (by omega), if_pos (by omega)]; done)
      | exact eK (by omega) (by omega) (by omega) (i := k) (by omega) (by omega)
      | exact fE (by omega) (by omega) ⟨by omega, fun i hi => hI i (by omega)⟩
     ·(try simp only [zB, reduceCtorEq] at hc19)
      refine aH ?_
      refine hK16 _ ?_; clear hK16; refine ad [0, 1, 5, 15, 30] ?_; simp only [Y, lkp, zE, reduceCtorEq, E, a8, D]
      refine ai hP hN rfl ?_
      iterate 3 (refine a9 rfl fun K0 V => ?_; simp only [zE, op1, ev, lkp, ag, af, aD, aC, aB, ak, aA, aP, reduceCtorEq, E, D, G, U, J, M, Tryd.td3]; (repeat refine And.intro (by first | omega | assumption | exact rfl) ?_); refine V _ ?_; clear V K0; simp only [put, app, Z, ae, zE, zS, D])
      refine ah ?_
      refine ⟨_, _, ?_, aT [0, 1, 5], k + 1, by omega, fun i hi => ?_, rfl, rfl⟩
      · omega
      · by_cases e : i = k
        · rw [e]; omega
        · exact hI i (by omega)
    ·(try simp only [zB, reduceCtorEq] at hc15)
     refine bG ?_
     refine hK10 _ ?_; clear hK10; refine ad [0, 1, 5, 15] ?_; simp only [Y, lkp, zE, reduceCtorEq, E, a8, D]
     refine aa fun K21 hK21 => ?_
     refine ai hP hN rfl ?_
     (refine a9 rfl fun K0 V => ?_; simp only [zE, op1, ev, lkp, ag, af, ev, reduceCtorEq, E, D, G, U, J, M, Tryd.td3]; refine V _ ?_; clear V K0; simp only [put, app, Z, ae, zE, zS, D])
     refine ah ?_
     refine hK21 _ ?_; clear hK21; refine ad [0, 1, 4, 5, 15] ?_; simp only [Y, lkp, zE, reduceCtorEq, E, a8, D]
     refine aL ?_
     refine ⟨by first | exact .inl rfl | exact .inr rfl, _, rfl, ?_⟩; simp only [fzV, fz1, fzC, List.map_cons, List.map_nil, Y, lkp, zE, reduceCtorEq, E, a8, D]
     refine VLE.of_eq ?_
     refine congrArg (fun n => AV.one (AC.int IntKind.i64 n)) ?_
     symm
     first
     | (unfold c9; rw [if_pos (by omega)]; done)
     | (unfold c9; rw [if_neg (by omega), if_pos (by omega)]; done)
     | exact eK (by omega) (by omega) (by omega) (i := k) (by omega) (by omega)
     | exact fE (by omega) (by omega) ⟨by omega, fun i hi => hI i (by omega)⟩
end Go.Proofs.YtgmgnkmgofkfpaaDoor
namespace Go.Proofs.YtgmgnkmgofkfpaaDoor
open Go Go.AV
open Nat renaming reduceEqDiff → E, reduceAdd → D, reduceLeDiff → G, reduceLT → U, reduceMul → J, reduceSub → M
open List renaming set_cons_zero → ax, set_cons_succ → aw
set_option maxRecDepth 100000 in
theorem pc (p : Mpr) (w : List Int) : cd Tryd.prog 17 [p.av, .one (.list (.int .i64) w)] (.tup [.one (.list (.int .i64) (abV p w)), .one (.int .i64 (abE p w))]) := by
 refine bn Tryd.func17 rfl (by kernel_rfl) (Nat.le_of_ble_eq_true rfl) rfl fun C hP hN hB => ?_
 replace hN : C.N = 23 := hN
 simp only [a8, D]
 refine aa fun K1 hK1 => ?_
 refine ai hP hN rfl ?_
 iterate 3 (refine a9 rfl fun K0 V => ?_; simp only [zE, op1, ev, lkp, ag, af, cB, ar, reduceCtorEq, E, D, G, U, J, M, Tryd.el25, Tryd.st24, Tryd.td24, Tryd.td25, Tryd.td3, Mpr.av]; (repeat refine And.intro (by first | omega | assumption | exact rfl) ?_); refine V _ ?_; clear V K0; simp only [put, app, Z, ae, zE, zS, D])
 refine ah ?_
 refine hK1 _ ?_; clear hK1; refine ad [0, 1, 2, 4, 5] ?_; simp only [Y, lkp, zE, reduceCtorEq, E, a8, D]
 refine aa fun K2 hK2 => ?_
 refine aa fun K3 hK3 => ?_
 refine ai hP hN rfl ?_
 (refine a9 rfl fun K0 V => ?_; simp only [zE, op1, ev, lkp, ag, af, az, Nat.mul_one, au, ay, acs, Ty.dflt, zG, ao, reduceCtorEq, E, D, G, U, J, M, Tryd.st24, Tryd.td24, Mpr.av]; (repeat refine And.intro (by first | omega | assumption | exact rfl) ?_); refine V _ ?_; clear V K0; simp only [put, app, Z, ae, zE, zS, D])
 refine a9 rfl fun K0 V => ?_
 refine aY (h := aM (jg p)) rfl rfl (by first | exact rfl | (simp only [ev, Y, lkp, zE, reduceCtorEq, E, a8, D]; exact rfl)) (by simp only [zE, zG, op1, ev, lkp, ag, af, ar, acs, bl, mv1, mvC, Ty.dflt, reduceCtorEq, E, D, G, U, J, M, Mpr.av]) ?_
 refine V _ ?_; clear V K0; simp only [put, app, Z, ae, zE, zS, D]
 (refine a9 rfl fun K0 V => ?_; simp only [zE, op1, ev, lkp, ag, af, ev, reduceCtorEq, E, D, G, U, J, M, Tryd.td3, Mpr.av]; refine V _ ?_; clear V K0; simp only [put, app, Z, ae, zE, zS, D])
 refine ah ?_
 refine hK3 _ ?_; clear hK3; refine ad [0, 1, 2, 4, 5, 6] ?_; simp only [Y, lkp, zE, reduceCtorEq, E, a8, D]
 refine aa fun K4 hK4 => ?_
 refine ai hP hN rfl ?_
 iterate 2 (refine a9 rfl fun K0 V => ?_; simp only [zE, op1, ev, lkp, ag, af, aD, aC, aB, ak, aA, aP, reduceCtorEq, E, D, G, U, J, M, Tryd.td3, Tryd.td4, Mpr.av]; (repeat refine And.intro (by first | omega | assumption | exact rfl) ?_); refine V _ ?_; clear V K0; simp only [put, app, Z, ae, zE, zS, D])
 refine ah ?_
 refine hK4 _ ?_; clear hK4; refine ad [0, 1, 2, 4, 5, 6, 11] ?_; simp only [Y, lkp, zE, reduceCtorEq, E, a8, D]
 refine aE (by simp only [ev, Y, lkp, zE, reduceCtorEq, E, a8, D]; exact rfl) (fun hc5 => ?_) (fun hc5 => ?_)
 ·(try simp only [zB, reduceCtorEq] at hc5)
  refine aa fun K6 hK6 => ?_
  refine ai hP hN rfl ?_
  iterate 3 (refine a9 rfl fun K0 V => ?_; simp only [zE, op1, ev, lkp, ag, af, ev, reduceCtorEq, E, D, G, U, J, M, Tryd.el25, Tryd.td25, Tryd.td3, Mpr.av]; refine V _ ?_; clear V K0; simp only [put, app, Z, ae, zE, zS, D])
  refine ah ?_
  refine hK6 _ ?_; clear hK6; refine ad [0, 1, 2, 4, 5, 6, 11] ?_; simp only [Y, lkp, zE, reduceCtorEq, E, a8, D]
  refine aL ?_
  refine ⟨by first | exact .inl rfl | exact .inr rfl, _, rfl, ?_⟩; simp only [fzV, fz1, fzC, List.map_cons, List.map_nil, Y, lkp, zE, reduceCtorEq, E, a8, D, Mpr.av]
  first
  | (have g9 := km (w := w) (by assumption); obtain ⟨g1, g2⟩ := g9; rw [g1, g2]; exact bf ⟨aQ (aJ rfl), fun _ _ _ _ _ h => h, trivial⟩)
  | (have g9 := kj hv (w := w) (by assumption); obtain ⟨g1, g2⟩ := g9; rw [g1, g2]; exact bf ⟨aQ (aJ rfl), fun _ _ _ _ _ h => h, trivial⟩)
  | (have g9 := i7 hv (w := w) (by omega); obtain ⟨g1, g2⟩ := g9; rw [g1, g2]; exact VLE.of_eq rfl)
 ·(try simp only [zB, reduceCtorEq] at hc5)
  have hv : bD p = 0 := by omega
  have hp := gq hv; have a1 := hp.i1; have a2 := hp.i2; have b1 := hp.b1; have b2 := hp.b2; have a3 := hp.n1; have a4 := hp.n2; have a5 := hp.s1; have a6 := hp.s2; have a7 := hp.sl
  refine aH ?_
  refine hK2 _ ?_; clear hK2; refine ad [0, 1, 2, 4, 5, 6, 11] ?_; simp only [Y, lkp, zE, reduceCtorEq, E, a8, D]
  refine aa fun K7 hK7 => ?_
  refine aa fun K8 hK8 => ?_
  refine ai hP hN rfl ?_
  iterate 3 (refine a9 rfl fun K0 V => ?_; simp only [zE, op1, ev, lkp, ag, af, am, az, Nat.mul_one, au, ay, acs, Ty.dflt, zG, ao, reduceCtorEq, E, D, G, U, J, M, Tryd.el25, Tryd.st24, Tryd.td24, Tryd.td25, Tryd.td3, Mpr.av]; (repeat refine And.intro (by first | omega | assumption | exact rfl) ?_); refine V _ ?_; clear V K0; simp only [put, app, Z, ae, zE, zS, D])
  refine a9 rfl fun K0 V => ?_
  refine aY (h := aM (jV w p.inp)) rfl rfl (by first | exact rfl | (simp only [ev, Y, lkp, zE, reduceCtorEq, E, a8, D]; exact rfl)) (by simp only [zE, zG, op1, ev, lkp, ag, af, ar, acs, bl, mv1, mvC, Ty.dflt, reduceCtorEq, E, D, G, U, J, M, Mpr.av]) ?_
  refine V _ ?_; clear V K0; simp only [put, app, Z, ae, zE, zS, D]
  (refine a9 rfl fun K0 V => ?_; simp only [zE, op1, ev, lkp, ag, af, ev, reduceCtorEq, E, D, G, U, J, M, Tryd.td3, Mpr.av]; refine V _ ?_; clear V K0; simp only [put, app, Z, ae, zE, zS, D])
  refine ah ?_
  refine hK8 _ ?_; clear hK8; refine ad [0, 1, 2, 4, 5, 6, 7, 11] ?_; simp only [Y, lkp, zE, reduceCtorEq, E, a8, D]
  refine aa fun K9 hK9 => ?_
  refine ai hP hN rfl ?_
  iterate 2 (refine a9 rfl fun K0 V => ?_; simp only [zE, op1, ev, lkp, ag, af, aD, aC, aB, ak, aA, aP, reduceCtorEq, E, D, G, U, J, M, Tryd.td3, Tryd.td4, Mpr.av]; (repeat refine And.intro (by first | omega | assumption | exact rfl) ?_); refine V _ ?_; clear V K0; simp only [put, app, Z, ae, zE, zS, D])
  refine ah ?_
  refine hK9 _ ?_; clear hK9; refine ad [0, 1, 2, 4, 5, 6, 7, 11, 18] ?_; simp only [Y, lkp, zE, reduceCtorEq, E, a8, D]
  refine aE (by simp only [ev, Y, lkp, zE, reduceCtorEq, E, a8, D]; exact rfl) (fun hc10 => ?_) (fun hc10 => ?_)
  ·(try simp only [zB, reduceCtorEq] at hc10)
   refine aa fun K11 hK11 => ?_
   refine ai hP hN rfl ?_
   iterate 3 (refine a9 rfl fun K0 V => ?_; simp only [zE, op1, ev, lkp, ag, af, ev, reduceCtorEq, E, D, G, U, J, M, Tryd.el25, Tryd.td25, Tryd.td3, Mpr.av]; refine V _ ?_; clear V K0; simp only [put, app, Z, ae, zE, zS, D])
   refine ah ?_
   refine hK11 _ ?_; clear hK11; refine ad [0, 1, 2, 4, 5, 6, 7, 11, 18] ?_; simp only [Y, lkp, zE, reduceCtorEq, E, a8, D]
   refine aL ?_
   refine ⟨by first | exact .inl rfl | exact .inr rfl, _, rfl, ?_⟩; simp only [fzV, fz1, fzC, List.map_cons, List.map_nil, Y, lkp, zE, reduceCtorEq, E, a8, D, Mpr.av]
   first
   | (have g9 := km (w := w) (by assumption); obtain ⟨g1, g2⟩ := g9; rw [g1, g2]; exact bf ⟨aQ (aJ rfl), fun _ _ _ _ _ h => h, trivial⟩)
   | (have g9 := kj hv (w := w) (by assumption); obtain ⟨g1, g2⟩ := g9; rw [g1, g2]; exact bf ⟨aQ (aJ rfl), fun _ _ _ _ _ h => h, trivial⟩)
   | (have g9 := i7 hv (w := w) (by omega); obtain ⟨g1, g2⟩ := g9; rw [g1, g2]; exact VLE.of_eq rfl)
  ·(try simp only [zB, reduceCtorEq] at hc10)
   have hw := iT (w := w) (n := p.inp) (by omega); have hwl := hw.len
   refine aH ?_
   refine hK7 _ ?_; clear hK7; refine ad [0, 1, 2, 4, 5, 6, 7, 11, 18] ?_; simp only [Y, lkp, zE, reduceCtorEq, E, a8, D]
   refine aa fun K12 hK12 => ?_
   refine ai hP hN rfl ?_
   iterate 2 (refine a9 rfl fun K0 V => ?_; simp only [zE, op1, ev, lkp, ag, af, az, Nat.mul_one, au, ay, acs, Ty.dflt, zG, ao, reduceCtorEq, E, D, G, U, J, M, Tryd.el25, Tryd.st24, Tryd.td24, Tryd.td25, Mpr.av]; (repeat refine And.intro (by first | omega | assumption | exact rfl) ?_); refine V _ ?_; clear V K0; simp only [put, app, Z, ae, zE, zS, D])
   refine a9 rfl fun K0 V => ?_
   refine aY (h := aM (pP p w hp hw)) rfl rfl (by first | exact rfl | (simp only [ev, Y, lkp, zE, reduceCtorEq, E, a8, D]; exact rfl)) (by simp only [zE, zG, op1, ev, lkp, ag, af, ar, acs, bl, mv1, mvC, Ty.dflt, reduceCtorEq, E, D, G, U, J, M, Mpr.av]) ?_
   refine V _ ?_; clear V K0; simp only [put, app, Z, ae, zE, zS, D]
   iterate 2 (refine a9 rfl fun K0 V => ?_; simp only [zE, op1, ev, lkp, ag, af, ev, reduceCtorEq, E, D, G, U, J, M, Tryd.el25, Tryd.td25, Tryd.td3, Mpr.av]; refine V _ ?_; clear V K0; simp only [put, app, Z, ae, zE, zS, D])
   refine ah ?_
   refine hK12 _ ?_; clear hK12; refine ad [0, 1, 2, 4, 5, 6, 7, 11, 18] ?_; simp only [Y, lkp, zE, reduceCtorEq, E, a8, D]
   refine aL ?_
   refine ⟨by first | exact .inl rfl | exact .inr rfl, _, rfl, ?_⟩; simp only [fzV, fz1, fzC, List.map_cons, List.map_nil, Y, lkp, zE, reduceCtorEq, E, a8, D, Mpr.av]
   first
   | (have g9 := km (w := w) (by assumption); obtain ⟨g1, g2⟩ := g9; rw [g1, g2]; exact bf ⟨aQ (aJ rfl), fun _ _ _ _ _ h => h, trivial⟩)
   | (have g9 := kj hv (w := w) (by assumption); obtain ⟨g1, g2⟩ := g9; rw [g1, g2]; exact bf ⟨aQ (aJ rfl), fun _ _ _ _ _ h => h, trivial⟩)
   | (have g9 := i7 hv (w := w) (by omega); obtain ⟨g1, g2⟩ := g9; rw [g1, g2]; exact VLE.of_eq rfl)
end Go.Proofs.YtgmgnkmgofkfpaaDoor
namespace Go.Proofs.YtgmgnkmgofkfpaaDoor
open Go Go.AV
open Nat renaming reduceEqDiff → E, reduceAdd → D, reduceLeDiff → G, reduceLT → U, reduceMul → J, reduceSub → M
open List renaming set_cons_zero → ax, set_cons_succ → aw
set_option maxRecDepth 100000 in
theorem q9 (p : Mpr) (can : List Bool) (x : Int) (hp : POK p) (hc : can.length = p.nx.length) : cd Tryd.prog 40 [p.av, .one (.list .bool can), .one (.int .i64 x)] (.one (.list .bool (stC p can x))) := by
 have a7 := hp.sl; have a4 := hp.n2; have a2 := hp.i2; have a1 := hp.i1
 refine bn Tryd.func40 rfl (by kernel_rfl) (Nat.le_of_ble_eq_true rfl) rfl fun C hP hN hB => ?_
 replace hN : C.N = 52 := hN
 simp only [a8, D]
 refine aa fun K1 hK1 => ?_
 refine ai hP hN rfl ?_
 iterate 2 (refine a9 rfl fun K0 V => ?_; simp only [zE, op1, ev, lkp, ag, af, cB, ar, reduceCtorEq, E, D, G, U, J, M, Tryd.el75, Tryd.st24, Tryd.td24, Tryd.td75, Mpr.av]; (repeat refine And.intro (by first | omega | assumption | exact rfl) ?_); refine V _ ?_; clear V K0; simp only [put, app, Z, ae, zE, zS, D])
 refine ah ?_
 refine hK1 _ ?_; clear hK1; refine ad [0, 1, 2, 3, 6] ?_; simp only [Y, lkp, zE, reduceCtorEq, E, a8, D]
 refine aa fun K2 hK2 => ?_
 refine ai hP hN rfl ?_
 iterate 4 (refine a9 rfl fun K0 V => ?_; simp only [zE, op1, ev, lkp, ag, af, aF, bz, bi, ba, bc, bv, Nat.div_one, aK, bg, Ty.size, aI, dite_true, cr, Ty.dflt, reduceCtorEq, E, D, G, U, J, M, Tryd.el75, Tryd.td3, Tryd.td75, Mpr.av]; (repeat refine And.intro (by first | omega | assumption | exact rfl) ?_); (first | refine V _ ?_ | refine Or.inl (V _ ?_)); clear V K0; simp only [put, app, Z, ae, zE, zS, D])
 refine ah ?_
 refine hK2 _ ?_; clear hK2; refine ad [0, 1, 2, 3, 6, 7] ?_; simp only [Y, lkp, zE, reduceCtorEq, E, a8, D]
 refine aa fun K3 hK3 => ?_
 refine aa fun K4 hK4 => ?_
 refine ai hP hN rfl ?_
 (refine a9 rfl fun K0 V => ?_; simp only [zE, op1, ev, lkp, ag, af, ev, reduceCtorEq, E, D, G, U, J, M, Tryd.td3, Mpr.av]; refine V _ ?_; clear V K0; simp only [put, app, Z, ae, zE, zS, D])
 refine ah ?_
 refine hK4 _ ?_; clear hK4; refine ad [0, 1, 2, 3, 6, 7, 8] ?_; simp only [Y, lkp, zE, reduceCtorEq, E, a8, D]
 refine aR ?_
 refine bH (fun n5 s5 => ∃ (s : Nat), (s ≤ p.nx.length) ∧ n5 = p.nx.length - s ∧ s5 = { env := [(1, .one (.list .bool can)), (2, .one (.int .i64 x)), (3, .one (.ptr 0 0 0 0)), (6, .one .nils), (7, .one (.row 1 0)), (8, .one (.int .i64 (s : Int)))], L := [.vars 24 [.int .i64 p.inp, .int .i64 p.ab, .int .i64 p.st, .list (.list (.int .i64)) p.nx, .list (.list (.int .i64)) p.sy], .row .bool 4 0 (prB (fun s => decide (fcV p can x s < p.inp.toNat)) p.nx.length s false)] }) ?_ ?_
 ·refine ⟨_, _, aT [1, 2, 3, 6, 7, 8], 0, Nat.zero_le _, rfl, ?_⟩
  rw [lj, hc]; rfl
 ·rintro n5 s5 ⟨s, hs, rfl, rfl⟩
  refine aa fun K6 hK6 => ?_
  refine aa fun K7 hK7 => ?_
  refine ai hP hN rfl ?_
  iterate 4 (refine a9 rfl fun K0 V => ?_; simp only [zE, op1, ev, lkp, ag, af, aF, bz, bi, ba, bc, bv, Nat.div_one, aK, bg, Ty.size, aI, dite_true, aD, aC, aB, ak, aA, aP, reduceCtorEq, E, D, G, U, J, M, Tryd.el75, Tryd.td3, Tryd.td4, Tryd.td75, Mpr.av]; (repeat refine And.intro (by first | omega | assumption | exact rfl) ?_); (first | refine V _ ?_ | refine Or.inl (V _ ?_)); clear V K0; simp only [put, app, Z, ae, zE, zS, D])
  refine ah ?_
  refine hK7 _ ?_; clear hK7; refine ad [1, 2, 3, 6, 7, 8, 16] ?_; simp only [Y, lkp, zE, reduceCtorEq, E, a8, D]
  refine aE (by simp only [ev, Y, lkp, zE, reduceCtorEq, E, a8, D]; exact rfl) (fun hc8 => ?_) (fun hc8 => ?_)
  ·(try simp only [zB, reduceCtorEq] at hc8)
   refine aH ?_
   refine hK6 _ ?_; clear hK6; refine ad [1, 2, 3, 6, 7, 8, 16] ?_; simp only [Y, lkp, zE, reduceCtorEq, E, a8, D]
   refine aa fun K9 hK9 => ?_
   refine aR ?_
   refine aa fun K10 hK10 => ?_
   refine ai hP hN rfl ?_
   (refine a9 rfl fun K0 V => ?_; simp only [zE, op1, ev, lkp, ag, af, ev, reduceCtorEq, E, D, G, U, J, M, Tryd.td3, Mpr.av]; refine V _ ?_; clear V K0; simp only [put, app, Z, ae, zE, zS, D])
   refine ah ?_
   refine hK10 _ ?_; clear hK10; refine ad [1, 2, 3, 6, 7, 8, 9, 16] ?_; simp only [Y, lkp, zE, reduceCtorEq, E, a8, D]
   refine aR ?_
   refine bH (fun n11 s11 => ∃ (c : Nat), ((c : Int) ≤ p.inp) ∧ n11 = p.inp.toNat - c ∧ s11 = { env := [(1, .one (.list .bool can)), (2, .one (.int .i64 x)), (3, .one (.ptr 0 0 0 0)), (6, .one .nils), (7, .one (.row 1 0)), (8, .one (.int .i64 (s : Int))), (9, .one (.int .i64 (c : Int)))], L := [.vars 24 [.int .i64 p.inp, .int .i64 p.ab, .int .i64 p.st, .list (.list (.int .i64)) p.nx, .list (.list (.int .i64)) p.sy], .row .bool 4 0 (prB (fun s => decide (fcV p can x s < p.inp.toNat)) p.nx.length s ((List.range c).any (fcP p can x s)))] }) ?_ ?_
   ·exact ⟨_, _, aT [1, 2, 3, 6, 7, 8, 9], 0, by omega, rfl, rfl⟩
   ·rintro n11 s11 ⟨c, hcc, rfl, rfl⟩
    refine aa fun K12 hK12 => ?_
    refine aa fun K13 hK13 => ?_
    refine ai hP hN rfl ?_
    iterate 4 (refine a9 rfl fun K0 V => ?_; simp only [zE, op1, ev, lkp, ag, af, am, az, Nat.mul_one, au, ay, acs, Ty.dflt, zG, ao, aD, aC, aB, ak, aA, aP, reduceCtorEq, E, D, G, U, J, M, Tryd.st24, Tryd.td24, Tryd.td3, Tryd.td4, Mpr.av]; (repeat refine And.intro (by first | omega | assumption | exact rfl) ?_); refine V _ ?_; clear V K0; simp only [put, app, Z, ae, zE, zS, D])
    refine ah ?_
    refine hK13 _ ?_; clear hK13; refine ad [1, 2, 3, 6, 7, 8, 9, 22] ?_; simp only [Y, lkp, zE, reduceCtorEq, E, a8, D]
    refine aE (by simp only [ev, Y, lkp, zE, reduceCtorEq, E, a8, D]; exact rfl) (fun hc14 => ?_) (fun hc14 => ?_)
    ·(try simp only [zB, reduceCtorEq] at hc14)
     refine aH ?_
     refine hK12 _ ?_; clear hK12; refine ad [1, 2, 3, 6, 7, 8, 9, 22] ?_; simp only [Y, lkp, zE, reduceCtorEq, E, a8, D]
     refine aa fun K15 hK15 => ?_
     refine aR ?_
     refine aa fun K16 hK16 => ?_
     have hsn : s < p.nx.length := by omega
     have hrl := hp.rl s hsn; have hql := hp.ql s hsn; have hcl := hp.cl s c hsn (by omega)
     refine ai hP hN rfl ?_
     iterate 10 (refine a9 rfl fun K0 V => ?_; simp only [zE, op1, ev, lkp, ag, af, am, az, Nat.mul_one, au, ay, acs, Ty.dflt, zG, ao, aG, Ty.size, ne_eq, not_false_eq_true, Int.natCast_one, Int.mul_one, aD, aC, aB, ak, aA, aP, reduceCtorEq, E, D, G, U, J, M, Tryd.el22, Tryd.el25, Tryd.st24, Tryd.td22, Tryd.td24, Tryd.td25, Tryd.td3, Tryd.td4, Mpr.av]; (repeat refine And.intro (by first | omega | assumption | exact rfl) ?_); refine V _ ?_; clear V K0; simp only [put, app, Z, ae, zE, zS, D])
     (refine a9 rfl fun K0 V => ?_; simp only [zE, op1, ev, lkp, ag, af, ev, reduceCtorEq, E, D, G, U, J, M, Tryd.td4, Mpr.av]; refine V _ ?_; clear V K0; simp only [put, app, Z, ae, zE, zS, D])
     refine' aX (want := true) 11 rfl (m := 35) (by simp only [Y, lkp, zE, reduceCtorEq, E, a8, D]; exact rfl) (by kernel_rfl) rfl rfl rfl rfl rfl (fun hg17 => ?a17) ?b17 ?c17
     case a17 =>
      have hq17 := hg17; (try simp only [zB, reduceCtorEq] at hg17); simp only [List.take_succ_cons, List.take_zero, List.cons_append, List.nil_append]
      (refine aq rfl fun K0 V => ?_; simp only [zE, op1, ev, lkp, ag, af, ev, reduceCtorEq, E, D, G, U, J, M, Tryd.el75, Tryd.td75, Mpr.av]; refine V _ ?_; clear V K0; simp only [put, app, Z, ae, zE, zS, D])
      (refine aq rfl fun K0 V => ?_; simp only [zE, op1, ev, lkp, ag, af, am, reduceCtorEq, E, D, G, U, J, M, Tryd.st24, Tryd.td24, Tryd.td3, Mpr.av]; (repeat refine And.intro (by first | omega | assumption | exact rfl) ?_); refine V _ ?_; clear V K0; simp only [put, app, Z, ae, zE, zS, D])
      (refine aq rfl fun K0 V => ?_; simp only [zE, op1, ev, lkp, ag, af, az, Nat.mul_one, au, ay, acs, Ty.dflt, zG, ao, reduceCtorEq, E, D, G, U, J, M, Tryd.el22, Tryd.td22, Mpr.av]; (repeat refine And.intro (by first | omega | assumption | exact rfl) ?_); refine V _ ?_; clear V K0; simp only [put, app, Z, ae, zE, zS, D])
      (refine aq rfl fun K0 V => ?_; simp only [zE, op1, ev, lkp, ag, af, ev, reduceCtorEq, E, D, G, U, J, M, Tryd.td3, Mpr.av]; refine V _ ?_; clear V K0; simp only [put, app, Z, ae, zE, zS, D])
      (refine aq rfl fun K0 V => ?_; simp only [zE, op1, ev, lkp, ag, af, aG, zG, Ty.dflt, Ty.size, Nat.mul_one, ne_eq, not_false_eq_true, Int.natCast_one, Int.mul_one, reduceCtorEq, E, D, G, U, J, M, Tryd.el22, Tryd.td22, Mpr.av]; (repeat refine And.intro (by first | omega | assumption | exact rfl) ?_); refine V _ ?_; clear V K0; simp only [put, app, Z, ae, zE, zS, D])
      (refine aq rfl fun K0 V => ?_; simp only [zE, op1, ev, lkp, ag, af, az, Nat.mul_one, au, ay, acs, Ty.dflt, zG, ao, reduceCtorEq, E, D, G, U, J, M, Tryd.el25, Tryd.td25, Mpr.av]; (repeat refine And.intro (by first | omega | assumption | exact rfl) ?_); refine V _ ?_; clear V K0; simp only [put, app, Z, ae, zE, zS, D])
      (refine aq rfl fun K0 V => ?_; simp only [zE, op1, ev, lkp, ag, af, ev, reduceCtorEq, E, D, G, U, J, M, Tryd.td3, Mpr.av]; refine V _ ?_; clear V K0; simp only [put, app, Z, ae, zE, zS, D])
      (refine aq rfl fun K0 V => ?_; simp only [zE, op1, ev, lkp, ag, af, aG, zG, Ty.dflt, Ty.size, Nat.mul_one, ne_eq, not_false_eq_true, Int.natCast_one, Int.mul_one, reduceCtorEq, E, D, G, U, J, M, Tryd.el25, Tryd.td25, Mpr.av]; (repeat refine And.intro (by first | omega | assumption | exact rfl) ?_); refine V _ ?_; clear V K0; simp only [put, app, Z, ae, zE, zS, D])
      (refine aq rfl fun K0 V => ?_; simp only [zE, op1, ev, lkp, ag, af, az, Nat.mul_one, au, ay, acs, Ty.dflt, zG, ao, reduceCtorEq, E, D, G, U, J, M, Tryd.td3, Mpr.av]; (repeat refine And.intro (by first | omega | assumption | exact rfl) ?_); refine V _ ?_; clear V K0; simp only [put, app, Z, ae, zE, zS, D])
      (refine aq rfl fun K0 V => ?_; simp only [zE, op1, ev, lkp, ag, af, aG, zG, Ty.dflt, Ty.size, Nat.mul_one, ne_eq, not_false_eq_true, Int.natCast_one, Int.mul_one, reduceCtorEq, E, D, G, U, J, M, Tryd.el75, Tryd.td75, Mpr.av]; (repeat refine And.intro (by first | omega | assumption | exact rfl) ?_); refine V _ ?_; clear V K0; simp only [put, app, Z, ae, zE, zS, D])
      (refine aq rfl fun K0 V => ?_; simp only [zE, op1, ev, lkp, ag, af, az, Nat.mul_one, au, ay, acs, Ty.dflt, zG, ao, reduceCtorEq, E, D, G, U, J, M, Tryd.td4, Mpr.av]; (repeat refine And.intro (by first | omega | assumption | exact rfl) ?_); refine V _ ?_; clear V K0; simp only [put, app, Z, ae, zE, zS, D])
      (refine a9 rfl fun K0 V => ?_; simp only [zE, op1, ev, lkp, ag, af, bp, reduceCtorEq, E, D, G, U, J, M, Tryd.td4, Mpr.av]; refine V _ ?_; clear V K0; simp only [put, app, Z, ae, zE, zS, D])
      refine ah ?_
      refine ⟨by simp only [Y, lkp, zE, reduceCtorEq, E, a8, D]; exact rfl, rfl, ?_, rfl⟩; (repeat refine aW rfl ?_); exact bt (by exact rfl) hq17
     case b17 => exact br (by first | rfl | (simp [bS]; done) | decide)
     simp only [bh, b8]
     refine ah ?_
     refine hK16 _ ?_; clear hK16; refine ad [1, 2, 3, 6, 7, 8, 9, 22, 47] ?_; simp only [Y, lkp, zE, reduceCtorEq, E, a8, D]
     refine aE (by simp only [ev, Y, lkp, zE, reduceCtorEq, E, a8, D]; exact rfl) (fun hc18 => ?_) (fun hc18 => ?_)
     ·(try simp only [zB, reduceCtorEq] at hc18)
      have hy : fcP p can x s c = true := by unfold fcP; have h9 := hc18; simp only [Bool.and_eq_true, decide_eq_true_eq]; exact h9
      have hsn : s < p.nx.length := by omega
      refine ai hP hN rfl ?_
      iterate 4 (refine a9 rfl fun K0 V => ?_; simp only [zE, op1, ev, lkp, ag, af, aG, zG, Ty.dflt, Ty.size, Nat.mul_one, ne_eq, not_false_eq_true, Int.natCast_one, Int.mul_one, bK, ar, aS, aI, acs, reduceCtorEq, E, D, G, U, J, M, Tryd.el75, Tryd.td3, Tryd.td4, Tryd.td75, Mpr.av, eW]; (repeat refine And.intro (by first | omega | assumption | exact rfl) ?_); refine V _ ?_; clear V K0; simp only [put, app, Z, ae, zE, zS, D])
      refine ah ?_
      refine hK15 _ ?_; clear hK15; refine ad [1, 2, 3, 6, 7, 8, 9, 22, 47] ?_; simp only [Y, lkp, zE, reduceCtorEq, E, a8, D]
      refine ai hP hN rfl ?_
      iterate 3 (refine a9 rfl fun K0 V => ?_; simp only [zE, op1, ev, lkp, ag, af, aD, aC, aB, ak, aA, aP, reduceCtorEq, E, D, G, U, J, M, Tryd.td3, Mpr.av]; (repeat refine And.intro (by first | omega | assumption | exact rfl) ?_); refine V _ ?_; clear V K0; simp only [put, app, Z, ae, zE, zS, D])
      refine ah ?_
      first
      | (refine ⟨_, _, ?_, aT [1, 2, 3, 6, 7, 8, 9], c + 1, by omega, rfl, ?_⟩
         · omega
         · rw [f9, show (true : Bool) = (List.range (c + 1)).any (fcP p can x s) by rw [List.range_succ, List.any_append]; simp [hy]]; rfl)
      | (refine ⟨_, _, ?_, aT [1, 2, 3, 6, 7, 8, 9], c + 1, by omega, rfl, ?_⟩
         · omega
         · rw [show (List.range c).any (fcP p can x s) = (List.range (c + 1)).any (fcP p can x s) by rw [List.range_succ, List.any_append]; simp [hy]]; rfl)
     ·(try simp only [zB, reduceCtorEq] at hc18)
      have hy : fcP p can x s c = false := by unfold fcP; have h9 := hc18; simp only [Bool.and_eq_false_iff, decide_eq_false_iff_not]; exact h9
      refine aH ?_
      refine hK15 _ ?_; clear hK15; refine ad [1, 2, 3, 6, 7, 8, 9, 22, 47] ?_; simp only [Y, lkp, zE, reduceCtorEq, E, a8, D]
      refine ai hP hN rfl ?_
      iterate 3 (refine a9 rfl fun K0 V => ?_; simp only [zE, op1, ev, lkp, ag, af, aD, aC, aB, ak, aA, aP, reduceCtorEq, E, D, G, U, J, M, Tryd.td3, Mpr.av]; (repeat refine And.intro (by first | omega | assumption | exact rfl) ?_); refine V _ ?_; clear V K0; simp only [put, app, Z, ae, zE, zS, D])
      refine ah ?_
      first
      | (refine ⟨_, _, ?_, aT [1, 2, 3, 6, 7, 8, 9], c + 1, by omega, rfl, ?_⟩
         · omega
         · rw [f9, show (true : Bool) = (List.range (c + 1)).any (fcP p can x s) by rw [List.range_succ, List.any_append]; simp [hy]]; rfl)
      | (refine ⟨_, _, ?_, aT [1, 2, 3, 6, 7, 8, 9], c + 1, by omega, rfl, ?_⟩
         · omega
         · rw [show (List.range c).any (fcP p can x s) = (List.range (c + 1)).any (fcP p can x s) by rw [List.range_succ, List.any_append]; simp [hy]]; rfl)
    ·(try simp only [zB, reduceCtorEq] at hc14)
     refine bG ?_
     refine hK9 _ ?_; clear hK9; refine ad [1, 2, 3, 6, 7, 8, 9, 22] ?_; simp only [Y, lkp, zE, reduceCtorEq, E, a8, D]
     refine ai hP hN rfl ?_
     iterate 3 (refine a9 rfl fun K0 V => ?_; simp only [zE, op1, ev, lkp, ag, af, aD, aC, aB, ak, aA, aP, reduceCtorEq, E, D, G, U, J, M, Tryd.td3, Mpr.av]; (repeat refine And.intro (by first | omega | assumption | exact rfl) ?_); refine V _ ?_; clear V K0; simp only [put, app, Z, ae, zE, zS, D])
     refine ah ?_
     refine ⟨_, _, ?_, aT [1, 2, 3, 6, 7, 8], s + 1, by omega, rfl, ?_⟩
     · omega
     · rw [← fB, show (List.range c).any (fcP p can x s) = decide (fcV p can x s < p.inp.toNat) from pY (by omega)]; rfl
  ·(try simp only [zB, reduceCtorEq] at hc8)
   refine bG ?_
   refine hK3 _ ?_; clear hK3; refine ad [1, 2, 3, 6, 7, 8, 16] ?_; simp only [Y, lkp, zE, reduceCtorEq, E, a8, D]
   refine aa fun K19 hK19 => ?_
   refine bY 1 rfl ?_; simp only [List.map_cons, List.map_nil, zS, E, and_self, and_true, true_and, and_false, false_and, if_true, if_false, eq_self, reduceCtorEq, Nat.one_ne_zero, Nat.zero_ne_one]
   have hs8 : s = p.nx.length := by omega
   rw [hs8, gp]
   refine ai hP hN rfl ?_
   iterate 2 (refine a9 rfl fun K0 V => ?_; simp only [zE, op1, ev, lkp, ag, af, ev, reduceCtorEq, E, D, G, U, J, M, Tryd.el75, Tryd.td75, Mpr.av]; refine V _ ?_; clear V K0; simp only [put, app, Z, ae, zE, zS, D])
   refine ah ?_
   refine hK19 _ ?_; clear hK19; refine ad [1, 2, 3, 6, 7, 8, 16] ?_; simp only [Y, lkp, zE, reduceCtorEq, E, a8, D]
   refine aL ?_
   refine ⟨by first | exact .inl rfl | exact .inr rfl, _, rfl, ?_⟩; simp only [fzV, fz1, fzC, List.map_cons, List.map_nil, Y, lkp, zE, reduceCtorEq, E, a8, D, Mpr.av]
   refine VLE.of_eq ?_
   rfl
end Go.Proofs.YtgmgnkmgofkfpaaDoor
