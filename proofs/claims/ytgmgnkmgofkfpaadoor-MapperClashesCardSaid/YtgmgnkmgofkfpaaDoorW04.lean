/- Contracts of functions of this seat, each out of a walk through its code, and plain facts on what they compute. Conditions: those that each theorem names. -/
import Derived.Test.YtgmgnkmgofkfpaaDoorW03
set_option linter.unusedSimpArgs false
set_option linter.unusedVariables false
namespace Go.Proofs.YtgmgnkmgofkfpaaDoor
open Go Go.AV
open Nat renaming reduceEqDiff → E, reduceAdd → D, reduceLeDiff → J, reduceLT → Y, reduceMul → U, reduceSub → V
open List renaming set_cons_zero → aq, set_cons_succ → ao
set_option maxRecDepth 100000 in
theorem nL (w : List Int) (a b : Int) (w2 : List Int) (a2 b2 : Int) : cj Tryd.prog 25 [.agg [.list (.int .i64) w, .int .i64 a, .int .i64 b], .agg [.list (.int .i64) w2, .int .i64 a2, .int .i64 b2]] (.one (.bool ((decide (w = w2) && decide (a = a2)) && decide (b = b2)))) := by
 refine bu Tryd.func25 rfl (by kernel_rfl) (Nat.le_of_ble_eq_true rfl) rfl fun C hP hN hB => ?_
 replace hN : C.N = 24 := hN
 simp only [a9, D]
 refine ae fun K1 hK1 => ?_
 refine ak hP hN rfl ?_
 iterate 3 (refine ad rfl fun K0 Z => ?_; simp only [zE, op1, ev, lkp, ai, ah, cW, au, reduceCtorEq, E, D, J, Y, U, V, Tryd.st50, Tryd.td4, Tryd.td50]; (repeat refine And.intro (by first | omega | assumption | exact rfl) ?_); refine Z _ ?_; clear Z K0; simp only [put, app, aa, ag, zE, zS, D])
 refine aj ?_
 refine hK1 _ ?_; clear hK1; refine af [0, 1, 2, 3, 4] ?_; simp only [a8, lkp, zE, reduceCtorEq, E, a9, D]
 refine ae fun K2 hK2 => ?_
 refine ak hP hN rfl ?_
 iterate 4 (refine ad rfl fun K0 Z => ?_; simp only [zE, op1, ev, lkp, ai, ah, aw, aC, Nat.mul_one, az, aA, acs, Ty.dflt, zG, ax, reduceCtorEq, E, D, J, Y, U, V, Tryd.el25, Tryd.st50, Tryd.td25, Tryd.td50]; (repeat refine And.intro (by first | omega | assumption | exact rfl) ?_); refine Z _ ?_; clear Z K0; simp only [put, app, aa, ag, zE, zS, D])
 refine ad rfl fun K0 Z => ?_
 refine aY (h := aL (iY w w2)) rfl rfl (by first | exact rfl | (simp only [ev, a8, lkp, zE, reduceCtorEq, E, a9, D]; exact rfl)) (by simp only [zE, zG, op1, ev, lkp, ai, ah, au, acs, bm, mv1, mvC, Ty.dflt, reduceCtorEq, E, D, J, Y, U, V]) ?_
 refine Z _ ?_; clear Z K0; simp only [put, app, aa, ag, zE, zS, D]
 (refine ad rfl fun K0 Z => ?_; simp only [zE, op1, ev, lkp, ai, ah, ev, reduceCtorEq, E, D, J, Y, U, V, Tryd.td4]; refine Z _ ?_; clear Z K0; simp only [put, app, aa, ag, zE, zS, D])
 refine' aW (want := true) 5 rfl (m := 10) (by simp only [a8, lkp, zE, reduceCtorEq, E, a9, D]; exact rfl) (by kernel_rfl) rfl rfl rfl rfl rfl (fun hg3 => ?a3) ?b3 ?c3
 case a3 =>
  have hq3 := hg3; (try simp only [zB, reduceCtorEq] at hg3); simp only [List.take_succ_cons, List.take_zero, List.cons_append, List.nil_append]
  (refine ay rfl fun K0 Z => ?_; simp only [zE, op1, ev, lkp, ai, ah, aw, reduceCtorEq, E, D, J, Y, U, V, Tryd.st50, Tryd.td1, Tryd.td50]; (repeat refine And.intro (by first | omega | assumption | exact rfl) ?_); refine Z _ ?_; clear Z K0; simp only [put, app, aa, ag, zE, zS, D])
  (refine ay rfl fun K0 Z => ?_; simp only [zE, op1, ev, lkp, ai, ah, aC, Nat.mul_one, az, aA, acs, Ty.dflt, zG, ax, reduceCtorEq, E, D, J, Y, U, V, Tryd.td3]; (repeat refine And.intro (by first | omega | assumption | exact rfl) ?_); refine Z _ ?_; clear Z K0; simp only [put, app, aa, ag, zE, zS, D])
  (refine ay rfl fun K0 Z => ?_; simp only [zE, op1, ev, lkp, ai, ah, aw, reduceCtorEq, E, D, J, Y, U, V, Tryd.st50, Tryd.td1, Tryd.td50]; (repeat refine And.intro (by first | omega | assumption | exact rfl) ?_); refine Z _ ?_; clear Z K0; simp only [put, app, aa, ag, zE, zS, D])
  (refine ay rfl fun K0 Z => ?_; simp only [zE, op1, ev, lkp, ai, ah, aC, Nat.mul_one, az, aA, acs, Ty.dflt, zG, ax, reduceCtorEq, E, D, J, Y, U, V, Tryd.td3]; (repeat refine And.intro (by first | omega | assumption | exact rfl) ?_); refine Z _ ?_; clear Z K0; simp only [put, app, aa, ag, zE, zS, D])
  (refine ay rfl fun K0 Z => ?_; simp only [zE, op1, ev, lkp, ai, ah, aD, aE, aF, ar, aB, aS, reduceCtorEq, E, D, J, Y, U, V, Tryd.td3, Tryd.td4]; (repeat refine And.intro (by first | omega | assumption | exact rfl) ?_); refine Z _ ?_; clear Z K0; simp only [put, app, aa, ag, zE, zS, D])
  (refine ad rfl fun K0 Z => ?_; simp only [zE, op1, ev, lkp, ai, ah, bt, reduceCtorEq, E, D, J, Y, U, V, Tryd.td4]; refine Z _ ?_; clear Z K0; simp only [put, app, aa, ag, zE, zS, D])
  refine aj ?_
  refine ⟨by simp only [a8, lkp, zE, reduceCtorEq, E, a9, D]; exact rfl, rfl, ?_, rfl⟩; (repeat refine aV rfl ?_); exact bB (by exact rfl) hq3
 case b3 => exact bz (by first | rfl | (simp [bW]; done) | decide)
 simp only [bj, ba]
 (refine ad rfl fun K0 Z => ?_; simp only [zE, op1, ev, lkp, ai, ah, ev, reduceCtorEq, E, D, J, Y, U, V, Tryd.td4]; refine Z _ ?_; clear Z K0; simp only [put, app, aa, ag, zE, zS, D])
 refine' aW (want := true) 5 rfl (m := 17) (by simp only [a8, lkp, zE, reduceCtorEq, E, a9, D]; exact rfl) (by kernel_rfl) rfl rfl rfl rfl rfl (fun hg4 => ?a4) ?b4 ?c4
 case a4 =>
  have hq4 := hg4; (try simp only [zB, reduceCtorEq] at hg4); simp only [List.take_succ_cons, List.take_zero, List.cons_append, List.nil_append]
  (refine ay rfl fun K0 Z => ?_; simp only [zE, op1, ev, lkp, ai, ah, aw, reduceCtorEq, E, D, J, Y, U, V, Tryd.st50, Tryd.td2, Tryd.td50]; (repeat refine And.intro (by first | omega | assumption | exact rfl) ?_); refine Z _ ?_; clear Z K0; simp only [put, app, aa, ag, zE, zS, D])
  (refine ay rfl fun K0 Z => ?_; simp only [zE, op1, ev, lkp, ai, ah, aC, Nat.mul_one, az, aA, acs, Ty.dflt, zG, ax, reduceCtorEq, E, D, J, Y, U, V, Tryd.td3]; (repeat refine And.intro (by first | omega | assumption | exact rfl) ?_); refine Z _ ?_; clear Z K0; simp only [put, app, aa, ag, zE, zS, D])
  (refine ay rfl fun K0 Z => ?_; simp only [zE, op1, ev, lkp, ai, ah, aw, reduceCtorEq, E, D, J, Y, U, V, Tryd.st50, Tryd.td2, Tryd.td50]; (repeat refine And.intro (by first | omega | assumption | exact rfl) ?_); refine Z _ ?_; clear Z K0; simp only [put, app, aa, ag, zE, zS, D])
  (refine ay rfl fun K0 Z => ?_; simp only [zE, op1, ev, lkp, ai, ah, aC, Nat.mul_one, az, aA, acs, Ty.dflt, zG, ax, reduceCtorEq, E, D, J, Y, U, V, Tryd.td3]; (repeat refine And.intro (by first | omega | assumption | exact rfl) ?_); refine Z _ ?_; clear Z K0; simp only [put, app, aa, ag, zE, zS, D])
  (refine ay rfl fun K0 Z => ?_; simp only [zE, op1, ev, lkp, ai, ah, aD, aE, aF, ar, aB, aS, reduceCtorEq, E, D, J, Y, U, V, Tryd.td3, Tryd.td4]; (repeat refine And.intro (by first | omega | assumption | exact rfl) ?_); refine Z _ ?_; clear Z K0; simp only [put, app, aa, ag, zE, zS, D])
  (refine ad rfl fun K0 Z => ?_; simp only [zE, op1, ev, lkp, ai, ah, bt, reduceCtorEq, E, D, J, Y, U, V, Tryd.td4]; refine Z _ ?_; clear Z K0; simp only [put, app, aa, ag, zE, zS, D])
  refine aj ?_
  refine ⟨by simp only [a8, lkp, zE, reduceCtorEq, E, a9, D]; exact rfl, rfl, ?_, rfl⟩; (repeat refine aV rfl ?_); exact bB (by exact rfl) hq4
 case b4 => exact bz (by first | rfl | (simp [bW]; done) | decide)
 simp only [bj, ba]
 (refine ad rfl fun K0 Z => ?_; simp only [zE, op1, ev, lkp, ai, ah, ev, reduceCtorEq, E, D, J, Y, U, V, Tryd.td4]; refine Z _ ?_; clear Z K0; simp only [put, app, aa, ag, zE, zS, D])
 refine aj ?_
 refine hK2 _ ?_; clear hK2; refine af [0, 1, 2, 3, 4] ?_; simp only [a8, lkp, zE, reduceCtorEq, E, a9, D]
 refine aJ ?_
 refine ⟨by first | exact .inl rfl | exact .inr rfl, _, rfl, ?_⟩; simp only [fzV, fz1, fzC, List.map_cons, List.map_nil, a8, lkp, zE, reduceCtorEq, E, a9, D]
 refine VLE.of_eq ?_
 rfl
end Go.Proofs.YtgmgnkmgofkfpaaDoor
namespace Go.Proofs.YtgmgnkmgofkfpaaDoor
open Go Go.AV
open Nat renaming reduceEqDiff → E, reduceAdd → D, reduceLeDiff → J, reduceLT → Y, reduceMul → U, reduceSub → V
open List renaming set_cons_zero → aq, set_cons_succ → ao
set_option maxRecDepth 100000 in
set_option maxHeartbeats 2000000 in
theorem gl  : cj Tryd.prog 14 [] (.one (.bool true)) := by
 refine bu Tryd.func14 rfl (by kernel_rfl) (Nat.le_of_ble_eq_true rfl) rfl fun C hP hN hB => ?_
 replace hN : C.N = 135 := hN
 simp only [a9, D]
 refine ae fun K1 hK1 => ?_
 refine ak hP hN rfl ?_
 (refine ad rfl fun K0 Z => ?_; simp only [zE, op1, ev, lkp, ai, ah, ev, reduceCtorEq, E, D, J, Y, U, V, Tryd.td4, Mpr.av, Mly.av, bq, bh, List.getD_cons_zero]; refine Z _ ?_; clear Z K0; simp only [put, app, aa, ag, zE, zS, D])
 refine aj ?_
 refine hK1 _ ?_; clear hK1; refine af [0] ?_; simp only [a8, lkp, zE, reduceCtorEq, E, a9, D]
 refine ae fun K2 hK2 => ?_
 refine ak hP hN rfl ?_
 (refine ad rfl fun K0 Z => ?_; simp only [zE, op1, ev, lkp, ai, ah, b8, bf, bV, rep, aI, aQ, au, Ty.size, reduceCtorEq, E, D, J, Y, U, V, Tryd.el25, Tryd.td25, Tryd.td3, Mpr.av, Mly.av, bq, bh, List.getD_cons_zero]; (repeat refine And.intro (by first | omega | assumption | exact rfl) ?_); (first | refine Z _ ?_ | refine Or.inl (Z _ ?_)); clear Z K0; simp only [put, app, aa, ag, zE, zS, D])
 refine ad rfl fun K0 Z => ?_
 refine aY (h := aL (kW [0, 1, 0])) rfl rfl (by first | exact rfl | (simp only [ev, a8, lkp, zE, reduceCtorEq, E, a9, D]; exact rfl)) (by simp only [zE, zG, op1, ev, lkp, ai, ah, au, acs, bm, mv1, mvC, Ty.dflt, reduceCtorEq, E, D, J, Y, U, V, Mpr.av, Mly.av, bq, bh, List.getD_cons_zero]) ?_
 refine Z _ ?_; clear Z K0; simp only [put, app, aa, ag, zE, zS, D]
 iterate 6 (refine ad rfl fun K0 Z => ?_; simp only [zE, op1, ev, lkp, ai, ah, c0, cp, bK, Nat.mul_one, au, aQ, aI, acs, Ty.size, Ty.dflt, zG, reduceCtorEq, E, D, J, Y, U, V, Tryd.st24, Tryd.td1, Tryd.td24, Tryd.td26, Mpr.av, Mly.av, bq, bh, List.getD_cons_zero]; (repeat refine And.intro (by first | omega | assumption | exact rfl) ?_); (first | refine Z _ ?_ | refine Or.inl (Z _ ?_)); clear Z K0; simp only [put, app, aa, ag, zE, zS, D])
 refine aj ?_
 refine hK2 _ ?_; clear hK2; refine af [0, 1, 2] ?_; simp only [a8, lkp, zE, reduceCtorEq, E, a9, D]
 refine ae fun K3 hK3 => ?_
 refine ak hP hN rfl ?_
 (refine ad rfl fun K0 Z => ?_; simp only [zE, op1, ev, lkp, ai, ah, b8, bf, bV, rep, aI, aQ, au, Ty.size, reduceCtorEq, E, D, J, Y, U, V, Tryd.el25, Tryd.td2, Tryd.td25, Mpr.av, Mly.av, bq, bh, List.getD_cons_zero]; (repeat refine And.intro (by first | omega | assumption | exact rfl) ?_); (first | refine Z _ ?_ | refine Or.inl (Z _ ?_)); clear Z K0; simp only [put, app, aa, ag, zE, zS, D])
 refine ad rfl fun K0 Z => ?_
 refine aY (h := aL (kW [1, 0])) rfl rfl (by first | exact rfl | (simp only [ev, a8, lkp, zE, reduceCtorEq, E, a9, D]; exact rfl)) (by simp only [zE, zG, op1, ev, lkp, ai, ah, au, acs, bm, mv1, mvC, Ty.dflt, reduceCtorEq, E, D, J, Y, U, V, Mpr.av, Mly.av, bq, bh, List.getD_cons_zero]) ?_
 refine Z _ ?_; clear Z K0; simp only [put, app, aa, ag, zE, zS, D]
 iterate 6 (refine ad rfl fun K0 Z => ?_; simp only [zE, op1, ev, lkp, ai, ah, c0, cp, bK, Nat.mul_one, au, aQ, aI, acs, Ty.size, Ty.dflt, zG, reduceCtorEq, E, D, J, Y, U, V, Tryd.st24, Tryd.td1, Tryd.td24, Tryd.td26, Mpr.av, Mly.av, bq, bh, List.getD_cons_zero]; (repeat refine And.intro (by first | omega | assumption | exact rfl) ?_); (first | refine Z _ ?_ | refine Or.inl (Z _ ?_)); clear Z K0; simp only [put, app, aa, ag, zE, zS, D])
 refine aj ?_
 refine hK3 _ ?_; clear hK3; refine af [0, 1, 2, 4] ?_; simp only [a8, lkp, zE, reduceCtorEq, E, a9, D]
 refine ae fun K4 hK4 => ?_
 refine ak hP hN rfl ?_
 iterate 2 (refine ad rfl fun K0 Z => ?_; simp only [zE, op1, ev, lkp, ai, ah, aC, Nat.mul_one, az, aA, acs, Ty.dflt, zG, ax, b8, bf, bV, rep, aI, aQ, au, Ty.size, reduceCtorEq, E, D, J, Y, U, V, Tryd.el25, Tryd.st24, Tryd.td24, Tryd.td25, Tryd.td3, Mpr.av, Mly.av, bq, bh, List.getD_cons_zero]; (repeat refine And.intro (by first | omega | assumption | exact rfl) ?_); (first | refine Z _ ?_ | refine Or.inl (Z _ ?_)); clear Z K0; simp only [put, app, aa, ag, zE, zS, D])
 refine ad rfl fun K0 Z => ?_
 refine aY (h := aL (qB (dt [0, 1, 0]) [2, 1, 0])) rfl rfl (by first | exact rfl | (simp only [ev, a8, lkp, zE, reduceCtorEq, E, a9, D]; exact rfl)) (by simp only [zE, zG, op1, ev, lkp, ai, ah, au, acs, bm, mv1, mvC, Ty.dflt, reduceCtorEq, E, D, J, Y, U, V, Mpr.av, Mly.av, bq, bh, List.getD_cons_zero]) ?_
 refine Z _ ?_; clear Z K0; simp only [put, app, aa, ag, zE, zS, D]
 iterate 5 (refine ad rfl fun K0 Z => ?_; simp only [zE, op1, ev, lkp, ai, ah, c0, reduceCtorEq, E, D, J, Y, U, V, Tryd.el25, Tryd.td1, Tryd.td25, Tryd.td26, Mpr.av, Mly.av, bq, bh, List.getD_cons_zero]; refine Z _ ?_; clear Z K0; simp only [put, app, aa, ag, zE, zS, D])
 refine aj ?_
 refine hK4 _ ?_; clear hK4; refine af [0, 1, 2, 4, 5, 6] ?_; simp only [a8, lkp, zE, reduceCtorEq, E, a9, D]
 refine ae fun K5 hK5 => ?_
 refine ak hP hN rfl ?_
 iterate 2 (refine ad rfl fun K0 Z => ?_; simp only [zE, op1, ev, lkp, ai, ah, aC, Nat.mul_one, az, aA, acs, Ty.dflt, zG, ax, b8, bf, bV, rep, aI, aQ, au, Ty.size, reduceCtorEq, E, D, J, Y, U, V, Tryd.el25, Tryd.st24, Tryd.td24, Tryd.td25, Tryd.td3, Mpr.av, Mly.av, bq, bh, List.getD_cons_zero]; (repeat refine And.intro (by first | omega | assumption | exact rfl) ?_); (first | refine Z _ ?_ | refine Or.inl (Z _ ?_)); clear Z K0; simp only [put, app, aa, ag, zE, zS, D])
 refine ad rfl fun K0 Z => ?_
 refine aY (h := aL (qF (dt [0, 1, 0]) [0, 1, 0])) rfl rfl (by first | exact rfl | (simp only [ev, a8, lkp, zE, reduceCtorEq, E, a9, D]; exact rfl)) (by simp only [zE, zG, op1, ev, lkp, ai, ah, au, acs, bm, mv1, mvC, Ty.dflt, reduceCtorEq, E, D, J, Y, U, V, Mpr.av, Mly.av, bq, bh, List.getD_cons_zero]) ?_
 refine Z _ ?_; clear Z K0; simp only [put, app, aa, ag, zE, zS, D]
 iterate 7 (refine ad rfl fun K0 Z => ?_; simp only [zE, op1, ev, lkp, ai, ah, c0, reduceCtorEq, E, D, J, Y, U, V, Tryd.el25, Tryd.td1, Tryd.td2, Tryd.td25, Tryd.td26, Tryd.td4, Mpr.av, Mly.av, bq, bh, List.getD_cons_zero]; refine Z _ ?_; clear Z K0; simp only [put, app, aa, ag, zE, zS, D])
 refine aj ?_
 refine hK5 _ ?_; clear hK5; refine af [0, 1, 2, 4, 5, 6, 7, 8, 9] ?_; simp only [a8, lkp, zE, reduceCtorEq, E, a9, D]
 refine ae fun K6 hK6 => ?_
 refine ak hP hN rfl ?_
 (refine ad rfl fun K0 Z => ?_; simp only [zE, op1, ev, lkp, ai, ah, b8, bf, bV, rep, aI, aQ, au, Ty.size, reduceCtorEq, E, D, J, Y, U, V, Tryd.el25, Tryd.td2, Tryd.td25, Mpr.av, Mly.av, bq, bh, List.getD_cons_zero]; (repeat refine And.intro (by first | omega | assumption | exact rfl) ?_); (first | refine Z _ ?_ | refine Or.inl (Z _ ?_)); clear Z K0; simp only [put, app, aa, ag, zE, zS, D])
 refine ad rfl fun K0 Z => ?_
 refine aY (h := aL (kW [0, 0])) rfl rfl (by first | exact rfl | (simp only [ev, a8, lkp, zE, reduceCtorEq, E, a9, D]; exact rfl)) (by simp only [zE, zG, op1, ev, lkp, ai, ah, au, acs, bm, mv1, mvC, Ty.dflt, reduceCtorEq, E, D, J, Y, U, V, Mpr.av, Mly.av, bq, bh, List.getD_cons_zero]) ?_
 refine Z _ ?_; clear Z K0; simp only [put, app, aa, ag, zE, zS, D]
 iterate 6 (refine ad rfl fun K0 Z => ?_; simp only [zE, op1, ev, lkp, ai, ah, c0, cp, bK, Nat.mul_one, au, aQ, aI, acs, Ty.size, Ty.dflt, zG, reduceCtorEq, E, D, J, Y, U, V, Tryd.st24, Tryd.td1, Tryd.td24, Tryd.td26, Mpr.av, Mly.av, bq, bh, List.getD_cons_zero]; (repeat refine And.intro (by first | omega | assumption | exact rfl) ?_); (first | refine Z _ ?_ | refine Or.inl (Z _ ?_)); clear Z K0; simp only [put, app, aa, ag, zE, zS, D])
 refine aj ?_
 refine hK6 _ ?_; clear hK6; refine af [0, 1, 2, 4, 5, 6, 7, 8, 9, 10] ?_; simp only [a8, lkp, zE, reduceCtorEq, E, a9, D]
 refine ae fun K7 hK7 => ?_
 refine fO ?_; simp only [List.cons_append, List.append_assoc, List.nil_append]
 refine fO ?_; simp only [List.cons_append, List.append_assoc, List.nil_append]
 refine ch hP hN Tryd.mixed rfl ?_
 refine ad rfl fun K0 Z => ?_
 refine aY (h := aL kn) rfl rfl (by first | exact rfl | (simp only [ev, a8, lkp, zE, reduceCtorEq, E, a9, D]; exact rfl)) (by simp only [zE, zG, op1, ev, lkp, ai, ah, au, acs, bm, mv1, mvC, Ty.dflt, reduceCtorEq, E, D, J, Y, U, V, Mpr.av, Mly.av, bq, bh, List.getD_cons_zero]) ?_
 refine Z _ ?_; clear Z K0; simp only [put, app, aa, ag, zE, zS, D]
 (refine ad rfl fun K0 Z => ?_; simp only [zE, op1, ev, lkp, ai, ah, aC, Nat.mul_one, az, aA, acs, Ty.dflt, zG, ax, reduceCtorEq, E, D, J, Y, U, V, Tryd.st24, Tryd.td24, Mpr.av, Mly.av, bq, bh, List.getD_cons_zero]; (repeat refine And.intro (by first | omega | assumption | exact rfl) ?_); refine Z _ ?_; clear Z K0; simp only [put, app, aa, ag, zE, zS, D])
 refine ad rfl fun K0 Z => ?_
 refine aY (h := aL rr) rfl rfl (by first | exact rfl | (simp only [ev, a8, lkp, zE, reduceCtorEq, E, a9, D]; exact rfl)) (by simp only [zE, zG, op1, ev, lkp, ai, ah, au, acs, bm, mv1, mvC, Ty.dflt, reduceCtorEq, E, D, J, Y, U, V, Mpr.av, Mly.av, bq, bh, List.getD_cons_zero]) ?_
 refine Z _ ?_; clear Z K0; simp only [put, app, aa, ag, zE, zS, D]
 iterate 5 (refine ad rfl fun K0 Z => ?_; simp only [zE, op1, ev, lkp, ai, ah, c0, reduceCtorEq, E, D, J, Y, U, V, Tryd.st47, Tryd.st50, Tryd.td1, Tryd.td2, Tryd.td26, Tryd.td3, Tryd.td4, Tryd.td47, Tryd.td50, Mpr.av, Mly.av, bq, bh, List.getD_cons_zero]; refine Z _ ?_; clear Z K0; simp only [put, app, aa, ag, zE, zS, D])
 (refine ad rfl fun K0 Z => ?_; simp only [zE, op1, ev, lkp, ai, ah, cp, reduceCtorEq, E, D, J, Y, U, V, Tryd.st47, Tryd.td47, Mpr.av, Mly.av, bq, bh, List.getD_cons_zero]; refine Or.inr (Or.inl ⟨3, ?_, (.pair (.int .i64) (.pair (.int .i64) (.pair (.list (.list (.int .i64))) (.pair (.list (.list (.int .i64))) .unit)))), (0, (0, ([], ([], ())))), ?_⟩); (exact rfl); (repeat refine And.intro (by first | rfl | decide) ?_); refine Z _ ?_; clear Z K0; simp only [put, app, aa, ag, zE, zS, D])
 (refine ad rfl fun K0 Z => ?_; simp only [zE, op1, ev, lkp, ai, ah, cp, reduceCtorEq, E, D, J, Y, U, V, Tryd.st50, Tryd.td50, Mpr.av, Mly.av, bq, bh, List.getD_cons_zero]; refine Or.inr (Or.inl ⟨4, ?_, (.pair (.list (.int .i64)) (.pair (.int .i64) (.pair (.int .i64) .unit))), ([], (0, (0, ()))), ?_⟩); (exact rfl); (repeat refine And.intro (by first | rfl | decide) ?_); refine Z _ ?_; clear Z K0; simp only [put, app, aa, ag, zE, zS, D])
 iterate 4 (refine ad rfl fun K0 Z => ?_; simp only [zE, op1, ev, lkp, ai, ah, bK, Nat.mul_one, au, aQ, aI, acs, Ty.size, Ty.dflt, zG, reduceCtorEq, E, D, J, Y, U, V, Tryd.st47, Tryd.st50, Tryd.td26, Tryd.td4, Tryd.td47, Tryd.td50, Mpr.av, Mly.av, bq, bh, List.getD_cons_zero]; (repeat refine And.intro (by first | omega | assumption | exact rfl) ?_); refine Z _ ?_; clear Z K0; simp only [put, app, aa, ag, zE, zS, D])
 refine aj ?_
 refine ⟨by kernel_rfl, ?_⟩
 refine hK7 _ ?_; clear hK7; refine af [0, 1, 2, 4, 5, 6, 7, 8, 9, 10, 13, 14, 15] ?_; simp only [a8, lkp, zE, reduceCtorEq, E, a9, D]
 refine ae fun K8 hK8 => ?_
 refine ak hP hN rfl ?_
 iterate 9 (refine ad rfl fun K0 Z => ?_; simp only [zE, op1, ev, lkp, ai, ah, b8, bf, bV, rep, aI, aQ, au, Ty.size, cq, cp, bK, Nat.mul_one, acs, Ty.dflt, zG, reduceCtorEq, E, D, J, Y, U, V, Tryd.el22, Tryd.el25, Tryd.st24, Tryd.td2, Tryd.td22, Tryd.td24, Tryd.td25, Mpr.av, Mly.av, bq, bh, List.getD_cons_zero]; (repeat refine And.intro (by first | omega | assumption | exact rfl) ?_); (first | refine Z _ ?_ | refine Or.inl (Z _ ?_)); clear Z K0; simp only [put, app, aa, ag, zE, zS, D])
 refine aj ?_
 refine hK8 _ ?_; clear hK8; refine af [0, 1, 2, 4, 5, 6, 7, 8, 9, 10, 13, 14, 15, 16] ?_; simp only [a8, lkp, zE, reduceCtorEq, E, a9, D]
 refine ae fun K9 hK9 => ?_
 refine fO ?_; simp only [List.cons_append, List.append_assoc, List.nil_append]
 refine fO ?_; simp only [List.cons_append, List.append_assoc, List.nil_append]
 refine ch hP hN Tryd.mixed rfl ?_
 refine ad rfl fun K0 Z => ?_
 refine aY (h := aL kn) rfl rfl (by first | exact rfl | (simp only [ev, a8, lkp, zE, reduceCtorEq, E, a9, D]; exact rfl)) (by simp only [zE, zG, op1, ev, lkp, ai, ah, au, acs, bm, mv1, mvC, Ty.dflt, reduceCtorEq, E, D, J, Y, U, V, Mpr.av, Mly.av, bq, bh, List.getD_cons_zero]) ?_
 refine Z _ ?_; clear Z K0; simp only [put, app, aa, ag, zE, zS, D]
 (refine ad rfl fun K0 Z => ?_; simp only [zE, op1, ev, lkp, ai, ah, aC, Nat.mul_one, az, aA, acs, Ty.dflt, zG, ax, reduceCtorEq, E, D, J, Y, U, V, Tryd.st24, Tryd.td24, Mpr.av, Mly.av, bq, bh, List.getD_cons_zero]; (repeat refine And.intro (by first | omega | assumption | exact rfl) ?_); refine Z _ ?_; clear Z K0; simp only [put, app, aa, ag, zE, zS, D])
 refine ad rfl fun K0 Z => ?_
 refine aY (h := aL rh) rfl rfl (by first | exact rfl | (simp only [ev, a8, lkp, zE, reduceCtorEq, E, a9, D]; exact rfl)) (by simp only [zE, zG, op1, ev, lkp, ai, ah, au, acs, bm, mv1, mvC, Ty.dflt, reduceCtorEq, E, D, J, Y, U, V, Mpr.av, Mly.av, bq, bh, List.getD_cons_zero]) ?_
 refine Z _ ?_; clear Z K0; simp only [put, app, aa, ag, zE, zS, D]
 iterate 5 (refine ad rfl fun K0 Z => ?_; simp only [zE, op1, ev, lkp, ai, ah, c0, reduceCtorEq, E, D, J, Y, U, V, Tryd.st47, Tryd.st50, Tryd.td1, Tryd.td2, Tryd.td26, Tryd.td3, Tryd.td4, Tryd.td47, Tryd.td50, Mpr.av, Mly.av, bq, bh, List.getD_cons_zero]; refine Z _ ?_; clear Z K0; simp only [put, app, aa, ag, zE, zS, D])
 (refine ad rfl fun K0 Z => ?_; simp only [zE, op1, ev, lkp, ai, ah, cp, reduceCtorEq, E, D, J, Y, U, V, Tryd.st47, Tryd.td47, Mpr.av, Mly.av, bq, bh, List.getD_cons_zero]; refine Or.inr (Or.inl ⟨6, ?_, (.pair (.int .i64) (.pair (.int .i64) (.pair (.list (.list (.int .i64))) (.pair (.list (.list (.int .i64))) .unit)))), (0, (0, ([], ([], ())))), ?_⟩); (exact rfl); (repeat refine And.intro (by first | rfl | decide) ?_); refine Z _ ?_; clear Z K0; simp only [put, app, aa, ag, zE, zS, D])
 (refine ad rfl fun K0 Z => ?_; simp only [zE, op1, ev, lkp, ai, ah, cp, reduceCtorEq, E, D, J, Y, U, V, Tryd.st50, Tryd.td50, Mpr.av, Mly.av, bq, bh, List.getD_cons_zero]; refine Or.inr (Or.inl ⟨7, ?_, (.pair (.list (.int .i64)) (.pair (.int .i64) (.pair (.int .i64) .unit))), ([], (0, (0, ()))), ?_⟩); (exact rfl); (repeat refine And.intro (by first | rfl | decide) ?_); refine Z _ ?_; clear Z K0; simp only [put, app, aa, ag, zE, zS, D])
 iterate 4 (refine ad rfl fun K0 Z => ?_; simp only [zE, op1, ev, lkp, ai, ah, bK, Nat.mul_one, au, aQ, aI, acs, Ty.size, Ty.dflt, zG, reduceCtorEq, E, D, J, Y, U, V, Tryd.st47, Tryd.st50, Tryd.td26, Tryd.td4, Tryd.td47, Tryd.td50, Mpr.av, Mly.av, bq, bh, List.getD_cons_zero]; (repeat refine And.intro (by first | omega | assumption | exact rfl) ?_); refine Z _ ?_; clear Z K0; simp only [put, app, aa, ag, zE, zS, D])
 refine aj ?_
 refine ⟨by kernel_rfl, ?_⟩
 refine hK9 _ ?_; clear hK9; refine af [0, 1, 2, 4, 5, 6, 7, 8, 9, 10, 13, 14, 15, 16, 17, 19, 20] ?_; simp only [a8, lkp, zE, reduceCtorEq, E, a9, D]
 refine ae fun K10 hK10 => ?_
 refine ae fun K11 hK11 => ?_
 refine ak hP hN rfl ?_
 iterate 2 (refine ad rfl fun K0 Z => ?_; simp only [zE, op1, ev, lkp, ai, ah, aD, aE, aF, ar, aB, aS, reduceCtorEq, E, D, J, Y, U, V, Tryd.td26, Tryd.td4, Mpr.av, Mly.av, bq, bh, List.getD_cons_zero]; (repeat refine And.intro (by first | omega | assumption | exact rfl) ?_); refine Z _ ?_; clear Z K0; simp only [put, app, aa, ag, zE, zS, D])
 (refine ad rfl fun K0 Z => ?_; simp only [zE, op1, ev, lkp, ai, ah, ev, reduceCtorEq, E, D, J, Y, U, V, Tryd.td4, Mpr.av, Mly.av, bq, bh, List.getD_cons_zero]; refine Z _ ?_; clear Z K0; simp only [put, app, aa, ag, zE, zS, D])
 refine' aW (want := false) 2 rfl (m := 74) (by simp only [a8, lkp, zE, reduceCtorEq, E, a9, D]; exact rfl) (by kernel_rfl) rfl rfl rfl rfl rfl (fun hg12 => ?a12) ?b12 ?c12
 case a12 =>
  have hq12 := hg12; (try simp only [zB, reduceCtorEq] at hg12); simp only [List.take_succ_cons, List.take_zero, List.cons_append, List.nil_append]
  (refine ay rfl fun K0 Z => ?_; simp only [zE, op1, ev, lkp, ai, ah, ev, reduceCtorEq, E, D, J, Y, U, V, Tryd.td26, Mpr.av, Mly.av, bq, bh, List.getD_cons_zero]; refine Z _ ?_; clear Z K0; simp only [put, app, aa, ag, zE, zS, D])
  (refine ay rfl fun K0 Z => ?_; simp only [zE, op1, ev, lkp, ai, ah, aD, aE, aF, ar, aB, aS, reduceCtorEq, E, D, J, Y, U, V, Tryd.td26, Tryd.td4, Mpr.av, Mly.av, bq, bh, List.getD_cons_zero]; (repeat refine And.intro (by first | omega | assumption | exact rfl) ?_); refine Z _ ?_; clear Z K0; simp only [put, app, aa, ag, zE, zS, D])
  (refine ad rfl fun K0 Z => ?_; simp only [zE, op1, ev, lkp, ai, ah, bt, reduceCtorEq, E, D, J, Y, U, V, Tryd.td4, Mpr.av, Mly.av, bq, bh, List.getD_cons_zero]; refine Z _ ?_; clear Z K0; simp only [put, app, aa, ag, zE, zS, D])
  refine aj ?_
  refine ⟨by simp only [a8, lkp, zE, reduceCtorEq, E, a9, D]; exact rfl, rfl, ?_, rfl⟩; (repeat refine aV rfl ?_); exact bB (by exact rfl) hq12
 case b12 => exact bz (by first | rfl | (simp [bW]; done) | decide)
 simp only [bj, ba]
 (refine ad rfl fun K0 Z => ?_; simp only [zE, op1, ev, lkp, ai, ah, ev, reduceCtorEq, E, D, J, Y, U, V, Tryd.td4, Mpr.av, Mly.av, bq, bh, List.getD_cons_zero]; refine Z _ ?_; clear Z K0; simp only [put, app, aa, ag, zE, zS, D])
 refine' aW (want := false) 2 rfl (m := 78) (by simp only [a8, lkp, zE, reduceCtorEq, E, a9, D]; exact rfl) (by kernel_rfl) rfl rfl rfl rfl rfl (fun hg13 => ?a13) ?b13 ?c13
 case a13 =>
  have hq13 := hg13; (try simp only [zB, reduceCtorEq] at hg13); simp only [List.take_succ_cons, List.take_zero, List.cons_append, List.nil_append]
  (refine ay rfl fun K0 Z => ?_; simp only [zE, op1, ev, lkp, ai, ah, ev, reduceCtorEq, E, D, J, Y, U, V, Tryd.td26, Mpr.av, Mly.av, bq, bh, List.getD_cons_zero]; refine Z _ ?_; clear Z K0; simp only [put, app, aa, ag, zE, zS, D])
  (refine ay rfl fun K0 Z => ?_; simp only [zE, op1, ev, lkp, ai, ah, aD, aE, aF, ar, aB, aS, reduceCtorEq, E, D, J, Y, U, V, Tryd.td26, Tryd.td4, Mpr.av, Mly.av, bq, bh, List.getD_cons_zero]; (repeat refine And.intro (by first | omega | assumption | exact rfl) ?_); refine Z _ ?_; clear Z K0; simp only [put, app, aa, ag, zE, zS, D])
  (refine ad rfl fun K0 Z => ?_; simp only [zE, op1, ev, lkp, ai, ah, bt, reduceCtorEq, E, D, J, Y, U, V, Tryd.td4, Mpr.av, Mly.av, bq, bh, List.getD_cons_zero]; refine Z _ ?_; clear Z K0; simp only [put, app, aa, ag, zE, zS, D])
  refine aj ?_
  refine ⟨by simp only [a8, lkp, zE, reduceCtorEq, E, a9, D]; exact rfl, rfl, ?_, rfl⟩; (repeat refine aV rfl ?_); exact bB (by exact rfl) hq13
 case b13 => exact bz (by first | rfl | (simp [bW]; done) | decide)
 simp only [bj, ba]
 (refine ad rfl fun K0 Z => ?_; simp only [zE, op1, ev, lkp, ai, ah, ev, reduceCtorEq, E, D, J, Y, U, V, Tryd.td4, Mpr.av, Mly.av, bq, bh, List.getD_cons_zero]; refine Z _ ?_; clear Z K0; simp only [put, app, aa, ag, zE, zS, D])
 refine' aW (want := false) 2 rfl (m := 82) (by simp only [a8, lkp, zE, reduceCtorEq, E, a9, D]; exact rfl) (by kernel_rfl) rfl rfl rfl rfl rfl (fun hg14 => ?a14) ?b14 ?c14
 case a14 =>
  have hq14 := hg14; (try simp only [zB, reduceCtorEq] at hg14); simp only [List.take_succ_cons, List.take_zero, List.cons_append, List.nil_append]
  (refine ay rfl fun K0 Z => ?_; simp only [zE, op1, ev, lkp, ai, ah, ev, reduceCtorEq, E, D, J, Y, U, V, Tryd.td26, Mpr.av, Mly.av, bq, bh, List.getD_cons_zero]; refine Z _ ?_; clear Z K0; simp only [put, app, aa, ag, zE, zS, D])
  (refine ay rfl fun K0 Z => ?_; simp only [zE, op1, ev, lkp, ai, ah, aD, aE, aF, ar, aB, aS, reduceCtorEq, E, D, J, Y, U, V, Tryd.td26, Tryd.td4, Mpr.av, Mly.av, bq, bh, List.getD_cons_zero]; (repeat refine And.intro (by first | omega | assumption | exact rfl) ?_); refine Z _ ?_; clear Z K0; simp only [put, app, aa, ag, zE, zS, D])
  (refine ad rfl fun K0 Z => ?_; simp only [zE, op1, ev, lkp, ai, ah, bt, reduceCtorEq, E, D, J, Y, U, V, Tryd.td4, Mpr.av, Mly.av, bq, bh, List.getD_cons_zero]; refine Z _ ?_; clear Z K0; simp only [put, app, aa, ag, zE, zS, D])
  refine aj ?_
  refine ⟨by simp only [a8, lkp, zE, reduceCtorEq, E, a9, D]; exact rfl, rfl, ?_, rfl⟩; (repeat refine aV rfl ?_); exact bB (by exact rfl) hq14
 case b14 => exact bz (by first | rfl | (simp [bW]; done) | decide)
 simp only [bj, ba]
 (refine ad rfl fun K0 Z => ?_; simp only [zE, op1, ev, lkp, ai, ah, ev, reduceCtorEq, E, D, J, Y, U, V, Tryd.td4, Mpr.av, Mly.av, bq, bh, List.getD_cons_zero]; refine Z _ ?_; clear Z K0; simp only [put, app, aa, ag, zE, zS, D])
 refine' aW (want := false) 2 rfl (m := 86) (by simp only [a8, lkp, zE, reduceCtorEq, E, a9, D]; exact rfl) (by kernel_rfl) rfl rfl rfl rfl rfl (fun hg15 => ?a15) ?b15 ?c15
 case a15 =>
  have hq15 := hg15; (try simp only [zB, reduceCtorEq] at hg15); simp only [List.take_succ_cons, List.take_zero, List.cons_append, List.nil_append]
  (refine ay rfl fun K0 Z => ?_; simp only [zE, op1, ev, lkp, ai, ah, ev, reduceCtorEq, E, D, J, Y, U, V, Tryd.td26, Mpr.av, Mly.av, bq, bh, List.getD_cons_zero]; refine Z _ ?_; clear Z K0; simp only [put, app, aa, ag, zE, zS, D])
  (refine ay rfl fun K0 Z => ?_; simp only [zE, op1, ev, lkp, ai, ah, aD, aE, aF, ar, aB, aS, reduceCtorEq, E, D, J, Y, U, V, Tryd.td26, Tryd.td4, Mpr.av, Mly.av, bq, bh, List.getD_cons_zero]; (repeat refine And.intro (by first | omega | assumption | exact rfl) ?_); refine Z _ ?_; clear Z K0; simp only [put, app, aa, ag, zE, zS, D])
  (refine ad rfl fun K0 Z => ?_; simp only [zE, op1, ev, lkp, ai, ah, bt, reduceCtorEq, E, D, J, Y, U, V, Tryd.td4, Mpr.av, Mly.av, bq, bh, List.getD_cons_zero]; refine Z _ ?_; clear Z K0; simp only [put, app, aa, ag, zE, zS, D])
  refine aj ?_
  refine ⟨by simp only [a8, lkp, zE, reduceCtorEq, E, a9, D]; exact rfl, rfl, ?_, rfl⟩; (repeat refine aV rfl ?_); exact bB (by exact rfl) hq15
 case b15 => exact bz (by first | rfl | (simp [bW]; done) | decide)
 simp only [bj, ba]
 (refine ad rfl fun K0 Z => ?_; simp only [zE, op1, ev, lkp, ai, ah, ev, reduceCtorEq, E, D, J, Y, U, V, Tryd.td4, Mpr.av, Mly.av, bq, bh, List.getD_cons_zero]; refine Z _ ?_; clear Z K0; simp only [put, app, aa, ag, zE, zS, D])
 refine' aW (want := false) 2 rfl (m := 90) (by simp only [a8, lkp, zE, reduceCtorEq, E, a9, D]; exact rfl) (by kernel_rfl) rfl rfl rfl rfl rfl (fun hg16 => ?a16) ?b16 ?c16
 case a16 =>
  have hq16 := hg16; (try simp only [zB, reduceCtorEq] at hg16); simp only [List.take_succ_cons, List.take_zero, List.cons_append, List.nil_append]
  (refine ay rfl fun K0 Z => ?_; simp only [zE, op1, ev, lkp, ai, ah, ev, reduceCtorEq, E, D, J, Y, U, V, Tryd.td26, Mpr.av, Mly.av, bq, bh, List.getD_cons_zero]; refine Z _ ?_; clear Z K0; simp only [put, app, aa, ag, zE, zS, D])
  (refine ay rfl fun K0 Z => ?_; simp only [zE, op1, ev, lkp, ai, ah, aD, aE, aF, ar, aB, aS, reduceCtorEq, E, D, J, Y, U, V, Tryd.td26, Tryd.td4, Mpr.av, Mly.av, bq, bh, List.getD_cons_zero]; (repeat refine And.intro (by first | omega | assumption | exact rfl) ?_); refine Z _ ?_; clear Z K0; simp only [put, app, aa, ag, zE, zS, D])
  (refine ad rfl fun K0 Z => ?_; simp only [zE, op1, ev, lkp, ai, ah, bt, reduceCtorEq, E, D, J, Y, U, V, Tryd.td4, Mpr.av, Mly.av, bq, bh, List.getD_cons_zero]; refine Z _ ?_; clear Z K0; simp only [put, app, aa, ag, zE, zS, D])
  refine aj ?_
  refine ⟨by simp only [a8, lkp, zE, reduceCtorEq, E, a9, D]; exact rfl, rfl, ?_, rfl⟩; (repeat refine aV rfl ?_); exact bB (by exact rfl) hq16
 case b16 => exact bz (by first | rfl | (simp [bW]; done) | decide)
 simp only [bj, ba]
 (refine ad rfl fun K0 Z => ?_; simp only [zE, op1, ev, lkp, ai, ah, ev, reduceCtorEq, E, D, J, Y, U, V, Tryd.td4, Mpr.av, Mly.av, bq, bh, List.getD_cons_zero]; refine Z _ ?_; clear Z K0; simp only [put, app, aa, ag, zE, zS, D])
 refine' aW (want := false) 2 rfl (m := 94) (by simp only [a8, lkp, zE, reduceCtorEq, E, a9, D]; exact rfl) (by kernel_rfl) rfl rfl rfl rfl rfl (fun hg17 => ?a17) ?b17 ?c17
 case a17 =>
  have hq17 := hg17; (try simp only [zB, reduceCtorEq] at hg17); simp only [List.take_succ_cons, List.take_zero, List.cons_append, List.nil_append]
  (refine ay rfl fun K0 Z => ?_; simp only [zE, op1, ev, lkp, ai, ah, ev, reduceCtorEq, E, D, J, Y, U, V, Tryd.td4, Mpr.av, Mly.av, bq, bh, List.getD_cons_zero]; refine Z _ ?_; clear Z K0; simp only [put, app, aa, ag, zE, zS, D])
  (refine ay rfl fun K0 Z => ?_; simp only [zE, op1, ev, lkp, ai, ah, ez, reduceCtorEq, E, D, J, Y, U, V, Tryd.td4, Mpr.av, Mly.av, bq, bh, List.getD_cons_zero]; (repeat refine And.intro (by first | omega | assumption | exact rfl) ?_); refine Z _ ?_; clear Z K0; simp only [put, app, aa, ag, zE, zS, D])
  (refine ad rfl fun K0 Z => ?_; simp only [zE, op1, ev, lkp, ai, ah, bt, reduceCtorEq, E, D, J, Y, U, V, Tryd.td4, Mpr.av, Mly.av, bq, bh, List.getD_cons_zero]; refine Z _ ?_; clear Z K0; simp only [put, app, aa, ag, zE, zS, D])
  refine aj ?_
  refine ⟨by simp only [a8, lkp, zE, reduceCtorEq, E, a9, D]; exact rfl, rfl, ?_, rfl⟩; (repeat refine aV rfl ?_); exact bB (by exact rfl) hq17
 case b17 => exact bz (by first | rfl | (simp [bW]; done) | decide)
 simp only [bj, ba]
 (refine ad rfl fun K0 Z => ?_; simp only [zE, op1, ev, lkp, ai, ah, ev, reduceCtorEq, E, D, J, Y, U, V, Tryd.td4, Mpr.av, Mly.av, bq, bh, List.getD_cons_zero]; refine Z _ ?_; clear Z K0; simp only [put, app, aa, ag, zE, zS, D])
 refine' aW (want := false) 1 rfl (m := 98) (by simp only [a8, lkp, zE, reduceCtorEq, E, a9, D]; exact rfl) (by kernel_rfl) rfl rfl rfl rfl rfl (fun hg18 => ?a18) ?b18 ?c18
 case a18 =>
  have hq18 := hg18; (try simp only [zB, reduceCtorEq] at hg18); simp only [List.take_succ_cons, List.take_zero, List.cons_append, List.nil_append]
  (refine ay rfl fun K0 Z => ?_; simp only [zE, op1, ev, lkp, ai, ah, ev, reduceCtorEq, E, D, J, Y, U, V, Tryd.td4, Mpr.av, Mly.av, bq, bh, List.getD_cons_zero]; refine Z _ ?_; clear Z K0; simp only [put, app, aa, ag, zE, zS, D])
  (refine ad rfl fun K0 Z => ?_; simp only [zE, op1, ev, lkp, ai, ah, bt, reduceCtorEq, E, D, J, Y, U, V, Tryd.td4, Mpr.av, Mly.av, bq, bh, List.getD_cons_zero]; refine Z _ ?_; clear Z K0; simp only [put, app, aa, ag, zE, zS, D])
  refine aj ?_
  refine ⟨by simp only [a8, lkp, zE, reduceCtorEq, E, a9, D]; exact rfl, rfl, ?_, rfl⟩; (repeat refine aV rfl ?_); exact bB (by exact rfl) hq18
 case b18 => exact bz (by first | rfl | (simp [bW]; done) | decide)
 simp only [bj, ba]
 (refine ad rfl fun K0 Z => ?_; simp only [zE, op1, ev, lkp, ai, ah, ev, reduceCtorEq, E, D, J, Y, U, V, Tryd.td4, Mpr.av, Mly.av, bq, bh, List.getD_cons_zero]; refine Z _ ?_; clear Z K0; simp only [put, app, aa, ag, zE, zS, D])
 refine' aW (want := false) 2 rfl (m := 101) (by simp only [a8, lkp, zE, reduceCtorEq, E, a9, D]; exact rfl) (by kernel_rfl) rfl rfl rfl rfl rfl (fun hg19 => ?a19) ?b19 ?c19
 case a19 =>
  have hq19 := hg19; (try simp only [zB, reduceCtorEq] at hg19); simp only [List.take_succ_cons, List.take_zero, List.cons_append, List.nil_append]
  (refine ay rfl fun K0 Z => ?_; simp only [zE, op1, ev, lkp, ai, ah, ev, reduceCtorEq, E, D, J, Y, U, V, Tryd.td4, Mpr.av, Mly.av, bq, bh, List.getD_cons_zero]; refine Z _ ?_; clear Z K0; simp only [put, app, aa, ag, zE, zS, D])
  (refine ay rfl fun K0 Z => ?_; simp only [zE, op1, ev, lkp, ai, ah, ez, reduceCtorEq, E, D, J, Y, U, V, Tryd.td4, Mpr.av, Mly.av, bq, bh, List.getD_cons_zero]; (repeat refine And.intro (by first | omega | assumption | exact rfl) ?_); refine Z _ ?_; clear Z K0; simp only [put, app, aa, ag, zE, zS, D])
  (refine ad rfl fun K0 Z => ?_; simp only [zE, op1, ev, lkp, ai, ah, bt, reduceCtorEq, E, D, J, Y, U, V, Tryd.td4, Mpr.av, Mly.av, bq, bh, List.getD_cons_zero]; refine Z _ ?_; clear Z K0; simp only [put, app, aa, ag, zE, zS, D])
  refine aj ?_
  refine ⟨by simp only [a8, lkp, zE, reduceCtorEq, E, a9, D]; exact rfl, rfl, ?_, rfl⟩; (repeat refine aV rfl ?_); exact bB (by exact rfl) hq19
 case b19 => exact bz (by first | rfl | (simp [bW]; done) | decide)
 simp only [bj, ba]
 (refine ad rfl fun K0 Z => ?_; simp only [zE, op1, ev, lkp, ai, ah, ev, reduceCtorEq, E, D, J, Y, U, V, Tryd.td4, Mpr.av, Mly.av, bq, bh, List.getD_cons_zero]; refine Z _ ?_; clear Z K0; simp only [put, app, aa, ag, zE, zS, D])
 refine' aW (want := false) 3 rfl (m := 105) (by simp only [a8, lkp, zE, reduceCtorEq, E, a9, D]; exact rfl) (by kernel_rfl) rfl rfl rfl rfl rfl (fun hg20 => ?a20) ?b20 ?c20
 case a20 =>
  have hq20 := hg20; (try simp only [zB, reduceCtorEq] at hg20); simp only [List.take_succ_cons, List.take_zero, List.cons_append, List.nil_append]
  (refine ay rfl fun K0 Z => ?_; simp only [zE, op1, ev, lkp, ai, ah, aw, reduceCtorEq, E, D, J, Y, U, V, Tryd.st24, Tryd.td1, Tryd.td24, Mpr.av, Mly.av, bq, bh, List.getD_cons_zero]; (repeat refine And.intro (by first | omega | assumption | exact rfl) ?_); refine Z _ ?_; clear Z K0; simp only [put, app, aa, ag, zE, zS, D])
  (refine ay rfl fun K0 Z => ?_; simp only [zE, op1, ev, lkp, ai, ah, aC, Nat.mul_one, az, aA, acs, Ty.dflt, zG, ax, reduceCtorEq, E, D, J, Y, U, V, Tryd.td3, Mpr.av, Mly.av, bq, bh, List.getD_cons_zero]; (repeat refine And.intro (by first | omega | assumption | exact rfl) ?_); refine Z _ ?_; clear Z K0; simp only [put, app, aa, ag, zE, zS, D])
  (refine ay rfl fun K0 Z => ?_; simp only [zE, op1, ev, lkp, ai, ah, aD, aE, aF, ar, aB, aS, reduceCtorEq, E, D, J, Y, U, V, Tryd.td3, Tryd.td4, Mpr.av, Mly.av, bq, bh, List.getD_cons_zero]; (repeat refine And.intro (by first | omega | assumption | exact rfl) ?_); refine Z _ ?_; clear Z K0; simp only [put, app, aa, ag, zE, zS, D])
  (refine ad rfl fun K0 Z => ?_; simp only [zE, op1, ev, lkp, ai, ah, bt, reduceCtorEq, E, D, J, Y, U, V, Tryd.td4, Mpr.av, Mly.av, bq, bh, List.getD_cons_zero]; refine Z _ ?_; clear Z K0; simp only [put, app, aa, ag, zE, zS, D])
  refine aj ?_
  refine ⟨by simp only [a8, lkp, zE, reduceCtorEq, E, a9, D]; exact rfl, rfl, ?_, rfl⟩; (repeat refine aV rfl ?_); exact bB (by exact rfl) hq20
 case b20 => exact bz (by first | rfl | (simp [bW]; done) | decide)
 simp only [bj, ba]
 refine aj ?_
 refine hK11 _ ?_; clear hK11; refine af [0, 1, 2, 4, 5, 6, 7, 8, 9, 10, 13, 14, 15, 16, 17, 19, 20, 109] ?_; simp only [a8, lkp, zE, reduceCtorEq, E, a9, D]
 refine aG (by simp only [ev, a8, lkp, zE, reduceCtorEq, E, a9, D]; exact rfl) (fun hc21 => ?_) (fun hc21 => ?_)
 ·exfalso; (try simp only [zB, reduceCtorEq] at hc21)
  revert hc21; decide +kernel
 ·(try simp only [zB, reduceCtorEq] at hc21)
  refine aM ?_
  refine hK10 _ ?_; clear hK10; refine af [0, 1, 2, 4, 5, 6, 7, 8, 9, 10, 13, 14, 15, 16, 17, 19, 20, 109] ?_; simp only [a8, lkp, zE, reduceCtorEq, E, a9, D]
  refine ae fun K22 hK22 => ?_
  refine ak hP hN rfl ?_
  iterate 2 (refine ad rfl fun K0 Z => ?_; simp only [zE, op1, ev, lkp, ai, ah, b8, bf, bV, rep, aI, aQ, au, Ty.size, reduceCtorEq, E, D, J, Y, U, V, Tryd.el25, Tryd.td25, Tryd.td3, Mpr.av, Mly.av, bq, bh, List.getD_cons_zero]; (repeat refine And.intro (by first | omega | assumption | exact rfl) ?_); (first | refine Z _ ?_ | refine Or.inl (Z _ ?_)); clear Z K0; simp only [put, app, aa, ag, zE, zS, D])
  refine ad rfl fun K0 Z => ?_
  refine aY (h := aL (iY (abV (dt [0, 1, 0]) [2, 1, 0]) [0, 1, 0])) rfl rfl (by first | exact rfl | (simp only [ev, a8, lkp, zE, reduceCtorEq, E, a9, D]; exact rfl)) (by simp only [zE, zG, op1, ev, lkp, ai, ah, au, acs, bm, mv1, mvC, Ty.dflt, reduceCtorEq, E, D, J, Y, U, V, Mpr.av, Mly.av, bq, bh, List.getD_cons_zero]) ?_
  refine Z _ ?_; clear Z K0; simp only [put, app, aa, ag, zE, zS, D]
  (refine ad rfl fun K0 Z => ?_; simp only [zE, op1, ev, lkp, ai, ah, ev, reduceCtorEq, E, D, J, Y, U, V, Tryd.td4, Mpr.av, Mly.av, bq, bh, List.getD_cons_zero]; refine Z _ ?_; clear Z K0; simp only [put, app, aa, ag, zE, zS, D])
  refine' aW (want := true) 3 rfl (m := 113) (by simp only [a8, lkp, zE, reduceCtorEq, E, a9, D]; exact rfl) (by kernel_rfl) rfl rfl rfl rfl rfl (fun hg23 => ?a23) ?b23 ?c23
  case a23 =>
   have hq23 := hg23; (try simp only [zB, reduceCtorEq] at hg23); simp only [List.take_succ_cons, List.take_zero, List.cons_append, List.nil_append]
   (refine ay rfl fun K0 Z => ?_; simp only [zE, op1, ev, lkp, ai, ah, ev, reduceCtorEq, E, D, J, Y, U, V, Tryd.el25, Tryd.td25, Mpr.av, Mly.av, bq, bh, List.getD_cons_zero]; refine Z _ ?_; clear Z K0; simp only [put, app, aa, ag, zE, zS, D])
   (refine ay rfl fun K0 Z => ?_; simp only [zE, op1, ev, lkp, ai, ah, b8, bf, bV, rep, aI, aQ, au, Ty.size, reduceCtorEq, E, D, J, Y, U, V, Tryd.el25, Tryd.td25, Tryd.td3, Mpr.av, Mly.av, bq, bh, List.getD_cons_zero]; (repeat refine And.intro (by first | omega | assumption | exact rfl) ?_); (first | refine Z _ ?_ | refine Or.inl (Z _ ?_)); clear Z K0; simp only [put, app, aa, ag, zE, zS, D])
   refine ay rfl fun K0 Z => ?_
   refine aY (h := aL (iY (pcW (dt [0, 1, 0]) [0, 1, 0]) [0, 1, 0])) rfl rfl (by first | exact rfl | (simp only [ev, a8, lkp, zE, reduceCtorEq, E, a9, D]; exact rfl)) (by simp only [zE, zG, op1, ev, lkp, ai, ah, au, acs, bm, mv1, mvC, Ty.dflt, reduceCtorEq, E, D, J, Y, U, V, Mpr.av, Mly.av, bq, bh, List.getD_cons_zero]) ?_
   refine Z _ ?_; clear Z K0; simp only [put, app, aa, ag, zE, zS, D]
   (refine ad rfl fun K0 Z => ?_; simp only [zE, op1, ev, lkp, ai, ah, bt, reduceCtorEq, E, D, J, Y, U, V, Tryd.td4, Mpr.av, Mly.av, bq, bh, List.getD_cons_zero]; refine Z _ ?_; clear Z K0; simp only [put, app, aa, ag, zE, zS, D])
   refine aj ?_
   refine ⟨by simp only [a8, lkp, zE, reduceCtorEq, E, a9, D]; exact rfl, rfl, ?_, rfl⟩; (repeat refine aV rfl ?_); exact bB (by exact rfl) hq23
  case b23 => exact bz (by first | rfl | (simp [bW]; done) | decide)
  simp only [bj, ba]
  (refine ad rfl fun K0 Z => ?_; simp only [zE, op1, ev, lkp, ai, ah, ev, reduceCtorEq, E, D, J, Y, U, V, Tryd.td4, Mpr.av, Mly.av, bq, bh, List.getD_cons_zero]; refine Z _ ?_; clear Z K0; simp only [put, app, aa, ag, zE, zS, D])
  refine' aW (want := true) 4 rfl (m := 118) (by simp only [a8, lkp, zE, reduceCtorEq, E, a9, D]; exact rfl) (by kernel_rfl) rfl rfl rfl rfl rfl (fun hg24 => ?a24) ?b24 ?c24
  case a24 =>
   have hq24 := hg24; (try simp only [zB, reduceCtorEq] at hg24); simp only [List.take_succ_cons, List.take_zero, List.cons_append, List.nil_append]
   (refine ay rfl fun K0 Z => ?_; simp only [zE, op1, ev, lkp, ai, ah, aC, Nat.mul_one, az, aA, acs, Ty.dflt, zG, ax, reduceCtorEq, E, D, J, Y, U, V, Tryd.st50, Tryd.td50, Mpr.av, Mly.av, bq, bh, List.getD_cons_zero]; (repeat refine And.intro (by first | omega | assumption | exact rfl) ?_); refine Z _ ?_; clear Z K0; simp only [put, app, aa, ag, zE, zS, D])
   (refine ay rfl fun K0 Z => ?_; simp only [zE, op1, ev, lkp, ai, ah, b8, bf, bV, rep, aI, aQ, au, Ty.size, reduceCtorEq, E, D, J, Y, U, V, Tryd.el25, Tryd.td1, Tryd.td25, Mpr.av, Mly.av, bq, bh, List.getD_cons_zero]; (repeat refine And.intro (by first | omega | assumption | exact rfl) ?_); (first | refine Z _ ?_ | refine Or.inl (Z _ ?_)); clear Z K0; simp only [put, app, aa, ag, zE, zS, D])
   (refine ay rfl fun K0 Z => ?_; simp only [zE, op1, ev, lkp, ai, ah, cq, bf, aQ, au, reduceCtorEq, E, D, J, Y, U, V, Tryd.st50, Tryd.td50, Mpr.av, Mly.av, bq, bh, List.getD_cons_zero]; (repeat refine And.intro (by first | omega | assumption | exact rfl) ?_); (first | refine Z _ ?_ | refine Or.inl (Z _ ?_)); clear Z K0; simp only [put, app, aa, ag, zE, zS, D])
   refine ay rfl fun K0 Z => ?_
   refine aY (h := aL (nL [0] 1 2 [0] 1 2)) rfl rfl (by first | exact rfl | (simp only [ev, a8, lkp, zE, reduceCtorEq, E, a9, D]; exact rfl)) (by simp only [zE, zG, op1, ev, lkp, ai, ah, au, acs, bm, mv1, mvC, Ty.dflt, reduceCtorEq, E, D, J, Y, U, V, Mpr.av, Mly.av, bq, bh, List.getD_cons_zero]) ?_
   refine Z _ ?_; clear Z K0; simp only [put, app, aa, ag, zE, zS, D]
   (refine ad rfl fun K0 Z => ?_; simp only [zE, op1, ev, lkp, ai, ah, bt, reduceCtorEq, E, D, J, Y, U, V, Tryd.td4, Mpr.av, Mly.av, bq, bh, List.getD_cons_zero]; refine Z _ ?_; clear Z K0; simp only [put, app, aa, ag, zE, zS, D])
   refine aj ?_
   refine ⟨by simp only [a8, lkp, zE, reduceCtorEq, E, a9, D]; exact rfl, rfl, ?_, rfl⟩; (repeat refine aV rfl ?_); exact bB (by exact rfl) hq24
  case b24 => exact bz (by first | rfl | (simp [bW]; done) | decide)
  simp only [bj, ba]
  (refine ad rfl fun K0 Z => ?_; simp only [zE, op1, ev, lkp, ai, ah, ev, reduceCtorEq, E, D, J, Y, U, V, Tryd.td4, Mpr.av, Mly.av, bq, bh, List.getD_cons_zero]; refine Z _ ?_; clear Z K0; simp only [put, app, aa, ag, zE, zS, D])
  refine' aW (want := true) 9 rfl (m := 124) (by simp only [a8, lkp, zE, reduceCtorEq, E, a9, D]; exact rfl) (by kernel_rfl) rfl rfl rfl rfl rfl (fun hg25 => ?a25) ?b25 ?c25
  case a25 =>
   have hq25 := hg25; (try simp only [zB, reduceCtorEq] at hg25); simp only [List.take_succ_cons, List.take_zero, List.cons_append, List.nil_append]
   (refine ay rfl fun K0 Z => ?_; simp only [zE, op1, ev, lkp, ai, ah, aC, Nat.mul_one, az, aA, acs, Ty.dflt, zG, ax, reduceCtorEq, E, D, J, Y, U, V, Tryd.st47, Tryd.td47, Mpr.av, Mly.av, bq, bh, List.getD_cons_zero]; (repeat refine And.intro (by first | omega | assumption | exact rfl) ?_); refine Z _ ?_; clear Z K0; simp only [put, app, aa, ag, zE, zS, D])
   (refine ay rfl fun K0 Z => ?_; simp only [zE, op1, ev, lkp, ai, ah, b8, bf, bV, rep, aI, aQ, au, Ty.size, reduceCtorEq, E, D, J, Y, U, V, Tryd.el25, Tryd.td2, Tryd.td25, Mpr.av, Mly.av, bq, bh, List.getD_cons_zero]; (repeat refine And.intro (by first | omega | assumption | exact rfl) ?_); (first | refine Z _ ?_ | refine Or.inl (Z _ ?_)); clear Z K0; simp only [put, app, aa, ag, zE, zS, D])
   (refine ay rfl fun K0 Z => ?_; simp only [zE, op1, ev, lkp, ai, ah, b8, bf, bV, rep, aI, aQ, au, Ty.size, reduceCtorEq, E, D, J, Y, U, V, Tryd.el25, Tryd.td2, Tryd.td25, Mpr.av, Mly.av, bq, bh, List.getD_cons_zero]; (repeat refine And.intro (by first | omega | assumption | exact rfl) ?_); (first | refine Z _ ?_ | refine Or.inl (Z _ ?_)); clear Z K0; simp only [put, app, aa, ag, zE, zS, D])
   (refine ay rfl fun K0 Z => ?_; simp only [zE, op1, ev, lkp, ai, ah, b8, bf, bV, rep, aI, aQ, au, Ty.size, reduceCtorEq, E, D, J, Y, U, V, Tryd.el22, Tryd.td2, Tryd.td22, Mpr.av, Mly.av, bq, bh, List.getD_cons_zero]; (repeat refine And.intro (by first | omega | assumption | exact rfl) ?_); (first | refine Z _ ?_ | refine Or.inl (Z _ ?_)); clear Z K0; simp only [put, app, aa, ag, zE, zS, D])
   (refine ay rfl fun K0 Z => ?_; simp only [zE, op1, ev, lkp, ai, ah, b8, bf, bV, rep, aI, aQ, au, Ty.size, reduceCtorEq, E, D, J, Y, U, V, Tryd.el25, Tryd.td2, Tryd.td25, Mpr.av, Mly.av, bq, bh, List.getD_cons_zero]; (repeat refine And.intro (by first | omega | assumption | exact rfl) ?_); (first | refine Z _ ?_ | refine Or.inl (Z _ ?_)); clear Z K0; simp only [put, app, aa, ag, zE, zS, D])
   (refine ay rfl fun K0 Z => ?_; simp only [zE, op1, ev, lkp, ai, ah, b8, bf, bV, rep, aI, aQ, au, Ty.size, reduceCtorEq, E, D, J, Y, U, V, Tryd.el25, Tryd.td2, Tryd.td25, Mpr.av, Mly.av, bq, bh, List.getD_cons_zero]; (repeat refine And.intro (by first | omega | assumption | exact rfl) ?_); (first | refine Z _ ?_ | refine Or.inl (Z _ ?_)); clear Z K0; simp only [put, app, aa, ag, zE, zS, D])
   (refine ay rfl fun K0 Z => ?_; simp only [zE, op1, ev, lkp, ai, ah, b8, bf, bV, rep, aI, aQ, au, Ty.size, reduceCtorEq, E, D, J, Y, U, V, Tryd.el22, Tryd.td2, Tryd.td22, Mpr.av, Mly.av, bq, bh, List.getD_cons_zero]; (repeat refine And.intro (by first | omega | assumption | exact rfl) ?_); (first | refine Z _ ?_ | refine Or.inl (Z _ ?_)); clear Z K0; simp only [put, app, aa, ag, zE, zS, D])
   (refine ay rfl fun K0 Z => ?_; simp only [zE, op1, ev, lkp, ai, ah, cq, bf, aQ, au, reduceCtorEq, E, D, J, Y, U, V, Tryd.st47, Tryd.td47, Mpr.av, Mly.av, bq, bh, List.getD_cons_zero]; (repeat refine And.intro (by first | omega | assumption | exact rfl) ?_); (first | refine Z _ ?_ | refine Or.inl (Z _ ?_)); clear Z K0; simp only [put, app, aa, ag, zE, zS, D])
   refine ay rfl fun K0 Z => ?_
   refine aY (h := aL (ov ⟨2, 0, [[1, 0], [0, 1]], [[2, 1], [3, 2]]⟩ ⟨2, 0, [[1, 0], [0, 1]], [[2, 1], [3, 2]]⟩)) rfl rfl (by first | exact rfl | (simp only [ev, a8, lkp, zE, reduceCtorEq, E, a9, D]; exact rfl)) (by simp only [zE, zG, op1, ev, lkp, ai, ah, au, acs, bm, mv1, mvC, Ty.dflt, reduceCtorEq, E, D, J, Y, U, V, Mpr.av, Mly.av, bq, bh, List.getD_cons_zero]) ?_
   refine Z _ ?_; clear Z K0; simp only [put, app, aa, ag, zE, zS, D]
   (refine ad rfl fun K0 Z => ?_; simp only [zE, op1, ev, lkp, ai, ah, bt, reduceCtorEq, E, D, J, Y, U, V, Tryd.td4, Mpr.av, Mly.av, bq, bh, List.getD_cons_zero]; refine Z _ ?_; clear Z K0; simp only [put, app, aa, ag, zE, zS, D])
   refine aj ?_
   refine ⟨by simp only [a8, lkp, zE, reduceCtorEq, E, a9, D]; exact rfl, rfl, ?_, rfl⟩; (repeat refine aV rfl ?_); exact bB (by exact rfl) hq25
  case b25 => exact bz (by first | rfl | (simp [bW]; done) | decide)
  simp only [bj, ba]
  (refine ad rfl fun K0 Z => ?_; simp only [zE, op1, ev, lkp, ai, ah, ev, reduceCtorEq, E, D, J, Y, U, V, Tryd.td4, Mpr.av, Mly.av, bq, bh, List.getD_cons_zero]; refine Z _ ?_; clear Z K0; simp only [put, app, aa, ag, zE, zS, D])
  refine aj ?_
  refine hK22 _ ?_; clear hK22; refine af [0, 1, 2, 4, 5, 6, 7, 8, 9, 10, 13, 14, 15, 16, 17, 19, 20, 109] ?_; simp only [a8, lkp, zE, reduceCtorEq, E, a9, D]
  refine aJ ?_
  refine ⟨by first | exact .inl rfl | exact .inr rfl, _, rfl, ?_⟩; simp only [fzV, fz1, fzC, List.map_cons, List.map_nil, a8, lkp, zE, reduceCtorEq, E, a9, D, Mpr.av, Mly.av, bq, bh, List.getD_cons_zero]
  refine VLE.of_eq ?_
  refine congrArg (fun b => AV.one (AC.bool b)) ?_
  decide +kernel
end Go.Proofs.YtgmgnkmgofkfpaaDoor
namespace Go.AV
open Nat renaming reduceEqDiff → E, reduceAdd → D, reduceLeDiff → J, reduceLT → Y, reduceMul → U, reduceSub → V
open List renaming set_cons_zero → aq, set_cons_succ → ao
/-plain-/
/-! The greatest output. -/
/-! The systems. -/
def IP (a b : Mly) (p : PP) : Prop := (0 ≤ p.1 ∧ p.1 < a.nx.length) ∧ 0 ≤ p.2 ∧ p.2 < b.nx.length
def IS (m : Mly) (p : PP) : Prop := (0 ≤ p.1 ∧ p.1 < m.nx.length) ∧ p.2 = 0
theorem IP.st {a b : Mly} (ha : MOK a) (hb : MOK b) : IP a b (a.st, b.st) := ⟨⟨ha.s1, ha.s2⟩, hb.s1, hb.s2⟩
theorem IS.st {m : Mly} (hm : MOK m) : IS m (m.st, 0) := ⟨⟨hm.s1, hm.s2⟩, rfl⟩
/-! What the functions return. -/
/-! Restrict and Map: the trimmed machine. -/
/-! The machine of pairs (s, 0) is the trimmed machine. -/
structure SNG (X : Mly) (F : SYS) : Prop where
  st : ∀ s x : Nat, s < X.nx.length → (x : Int) < X.inp → F ((s : Int), 0) x = ((X.nxt s x, 0), X.out s x)
theorem SNG.at_ {X : Mly} {F : SYS} (h : SNG X F) {q : PP} (hq : IS X q) {x : Nat} (hx : (x : Int) < X.inp) : F q x = ((X.nxt q.1 x, 0), X.out q.1 x) := by
  obtain ⟨q1, q2⟩ := q
  obtain ⟨h1, h2⟩ := hq
  simp only at h1 h2
  subst h2
  have := h.st q1.toNat x (by omega) hx
  rw [Int.toNat_of_nonneg h1.1] at this
  exact this
end Go.AV
namespace Go.AV
open Nat renaming reduceEqDiff → E, reduceAdd → D, reduceLeDiff → J, reduceLT → Y, reduceMul → U, reduceSub → V
open List renaming set_cons_zero → aq, set_cons_succ → ao
/-plain-/
abbrev Bs := List UInt8
def okI (c : Int) : Prop := (97 ≤ c ∧ c ≤ 122) ∨ (65 ≤ c ∧ c ≤ 90) ∨ (48 ≤ c ∧ c ≤ 57) ∨ c = 95 ∨ c = 45 ∨ c = 46
instance (c : Int) : Decidable (okI c) := by unfold okI; exact inferInstance
def ry (s : Bs) : Bool := s.all (fun b => decide (okI (b.toNat : Int))) && decide (1 ≤ s.length) && decide (s.length ≤ 32)
/-! Alphabets. -/
structure AOK (xs : List Bs) : Prop where
  n0 : 1 ≤ xs.length
  n1 : xs.length ≤ 64
  nm : ∀ k, k < xs.length → ry (xs.getD k []) = true
  nw : ∀ k, k < xs.length → xs.getD k [] ∉ xs.take k
theorem ju {xs : List Bs} {k : Nat} (h : k < xs.length) : xs.getD k [] ∈ xs := by simp [List.getD, h]
theorem rF {xs : List Bs} {x : Bs} : x ∈ xs ↔ ∃ j, j < xs.length ∧ xs.getD j [] = x := by
  constructor
  · intro h
    obtain ⟨j, hj⟩ := List.getElem?_of_mem h
    exact ⟨j, (List.getElem?_eq_some_iff.1 hj).1, by simp [List.getD, hj]⟩
  · rintro ⟨j, hj, e⟩; rw [← e]; exact ju hj
theorem mv {xs : List Bs} {i k : Nat} (hi : i < k) : (xs.take k).getD i [] = xs.getD i [] := by simp [List.getD, List.getElem?_take, hi]
theorem m3 {q : Bs} : ∀ {l : List Bs} {k : Nat}, k < pos l q → l.getD k [] ≠ q
  | [], k, h => by simp [pos] at h
  | y :: l, k, h => by
    simp only [pos] at h
    split at h
    · omega
    · rename_i e
      cases k with
      | zero => simpa [List.getD] using e
      | succ k =>
        have := m3 (q := q) (l := l) (k := k) (by omega)
        simpa [List.getD] using this
theorem oQ {l : List Bs} {q : Bs} (h : q ∈ l) : l.getD (pos l q) [] = q := by rw [List.getD, ly h]; rfl
theorem rA {l : List Bs} {q : Bs} {k : Nat} (hq : ∀ j, j < k → l.getD j [] ≠ q) (hk : k < l.length) (h : l.getD k [] = q) : pos l q = k ∧ q ∈ l := by
  have hm : q ∈ l := by rw [← h]; exact ju hk
  refine ⟨?_, hm⟩
  rcases Nat.lt_trichotomy k (pos l q) with h2 | h2 | h2
  · exact absurd h (m3 h2)
  · exact h2.symm
  · exact absurd (oQ hm) (hq _ h2)
theorem AOK.pos {xs : List Bs} (h : AOK xs) {k : Nat} (hk : k < xs.length) : pos xs (xs.getD k []) = k :=
  (rA (fun j hj e => h.nw k hk (by rw [rF]; exact ⟨j, by rw [List.length_take]; omega, by rw [mv hj, e]⟩)) hk rfl).1
/-! Cutting at spaces. -/
/-! .. as a fold. -/
/-! Words and texts. -/
/-! The laws without the reference. -/
/-! Numbered alphabets. -/
end Go.AV
namespace Go.AV
open Nat renaming reduceEqDiff → E, reduceAdd → D, reduceLeDiff → J, reduceLT → Y, reduceMul → U, reduceSub → V
open List renaming set_cons_zero → aq, set_cons_succ → ao
/-plain-/
end Go.AV
namespace Go.AV
open Nat renaming reduceEqDiff → E, reduceAdd → D, reduceLeDiff → J, reduceLT → Y, reduceMul → U, reduceSub → V
open List renaming set_cons_zero → aq, set_cons_succ → ao
/-plain-/
def r7 (a b : Dfa) : Int := if cZ a = 0 then (if cZ b = 0 then (if a.inp = b.inp then 0 else 15) else cZ b) else cZ a
end Go.AV
namespace Go.AV
open Nat renaming reduceEqDiff → E, reduceAdd → D, reduceLeDiff → J, reduceLT → Y, reduceMul → U, reduceSub → V
open List renaming set_cons_zero → aq, set_cons_succ → ao
/-plain-/
def rN (d : Dfa) : STP := fun q x => (d.dl q.1 x, 0)
def rT (a b : Dfa) : STP := fun q x => (a.dl q.1 x, b.dl q.2 x)
def qY (d : Dfa) (q : PP) : Bool := d.ac q.1
def rP (a b : Dfa) (q : PP) : Bool := a.ac q.1 != b.ac q.2
end Go.AV
namespace Go.AV
open Nat renaming reduceEqDiff → E, reduceAdd → D, reduceLeDiff → J, reduceLT → Y, reduceMul → U, reduceSub → V
open List renaming set_cons_zero → aq, set_cons_succ → ao
/-plain-/
/-! Classes of states of an automaton. -/
def Dfa.sg (d : Dfa) (cl : List Int) (s : Nat) : List Int := cl.getD s 0 :: (d.nx.getD s []).map fun t => cl.getD t.toNat 0
def Dfa.nxL (d : Dfa) (cl : List Int) : List Int := (List.range d.nx.length).map fun s => (pos (p8 (d.sg cl) d.nx.length) (d.sg cl s) : Int)
def Dfa.cl (d : Dfa) : Nat → List Int
  | 0 => (List.range d.nx.length).map (qZ d)
  | i + 1 => d.nxL (d.cl i)
def Dfa.cn (d : Dfa) : Nat → Nat
  | 0 => 0
  | i + 1 => (p8 (d.sg (d.cl i)) d.nx.length).length
/-! How many there are. -/
def eu (n : Int) (w : List Int) : Prop := ∀ x, x ∈ w → 0 ≤ x ∧ x < n
theorem pN {n : Int} {w : List Int} (h : eu n w) : ∀ i : Nat, i < w.length → 0 ≤ w.getD i 0 ∧ w.getD i 0 < n := fun i hi => h _ (kg.2 ⟨i, hi, rfl⟩)
/-- Two states accept the same words. -/
def DEQ (a b : Dfa) (s t : Int) : Prop := ∀ w : List Int, eu a.inp w → a.ac (a.run s w) = b.ac (b.run t w)
theorem DEQ.acc {a b : Dfa} {s t : Int} (h : DEQ a b s t) : a.ac s = b.ac t := h [] (fun x hx => by cases hx)
theorem DEQ.symm {d : Dfa} {s t : Int} (h : DEQ d d s t) : DEQ d d t s := fun w hw => (h w hw).symm
theorem DEQ.trans {d : Dfa} {s t u : Int} (h : DEQ d d s t) (h2 : DEQ d d t u) : DEQ d d s u := fun w hw => (h w hw).trans (h2 w hw)
end Go.AV
namespace Go.AV
open Nat renaming reduceEqDiff → E, reduceAdd → D, reduceLeDiff → J, reduceLT → Y, reduceMul → U, reduceSub → V
open List renaming set_cons_zero → aq, set_cons_succ → ao
/-plain-/
def qW (d : Dfa) : List W3 := oD (rN d) d.inp.toNat (d.nx.length * 1) (d.st, 0)
def rK (a b : Dfa) : List W3 := oD (rT a b) a.inp.toNat (a.nx.length * b.nx.length) (a.st, b.st)
def laW (g : PP → Bool) (L : List W3) : List Int := if dB g L = true then ((dQ g L).getD ((dQ g L).length - 1) w30).2 else []
def nq (d : Dfa) : List Int := if cZ d = 0 then laW (qY d) (qW d) else []
def pQ (d : Dfa) : Bool := if cZ d = 0 then dB (qY d) (qW d) else false
def rH (a b : Dfa) : Bool := if r7 a b = 0 then dB (rP a b) (rK a b) else false
end Go.AV
namespace Go.AV
open Nat renaming reduceEqDiff → E, reduceAdd → D, reduceLeDiff → J, reduceLT → Y, reduceMul → U, reduceSub → V
open List renaming set_cons_zero → aq, set_cons_succ → ao
/-plain-/
/-! Two searches side by side. -/
structure SIM (A B : STP) (n : Nat) (R : PP → PP → Prop) : Prop where
  st : ∀ p q, R p q → ∀ x, x < n → R (A p x) (B q x)
  bi : ∀ p q p' q', R p q → R p' q' → (p = p' ↔ q = q')
def RL (R : PP → PP → Prop) (l l' : List W3) : Prop := l.length = l'.length ∧ ∀ i, i < l.length → R (l.getD i w30).1 (l'.getD i w30).1 ∧ (l.getD i w30).2 = (l'.getD i w30).2
theorem RL.one {R : PP → PP → Prop} {p q : PP} (h : R p q) : RL R [(p, [])] [(q, [])] := ⟨rfl, fun i hi => by
  have : i = 0 := by simpa using hi
  subst this; exact ⟨h, rfl⟩⟩
end Go.AV
namespace Go.AV
open Nat renaming reduceEqDiff → E, reduceAdd → D, reduceLeDiff → J, reduceLT → Y, reduceMul → U, reduceSub → V
open List renaming set_cons_zero → aq, set_cons_succ → ao
/-plain-/
end Go.AV
namespace Go.AV
open Nat renaming reduceEqDiff → E, reduceAdd → D, reduceLeDiff → J, reduceLT → Y, reduceMul → U, reduceSub → V
open List renaming set_cons_zero → aq, set_cons_succ → ao
/-plain-/
/-! Words in the order of their lengths and symbols. -/
def SLT (u v : List Int) : Prop := u.length < v.length ∨ (u.length = v.length ∧ ∃ m, m < u.length ∧ (∀ q, q < m → u.getD q 0 = v.getD q 0) ∧ u.getD m 0 < v.getD m 0)
def SLE (u v : List Int) : Prop := u = v ∨ SLT u v
theorem SLT.trans {u v w : List Int} (h : SLT u v) (h2 : SLT v w) : SLT u w := by
  rcases h with h | ⟨h, m, a1, a2, a3⟩
  · rcases h2 with h2 | ⟨h2, _⟩
    · exact .inl (by omega)
    · exact .inl (by omega)
  · rcases h2 with h2 | ⟨h2, k, b1, b2, b3⟩
    · exact .inl (by omega)
    · refine .inr ⟨by omega, ?_⟩
      rcases Nat.lt_trichotomy m k with e | e | e
      · exact ⟨m, a1, fun q hq => (a2 q hq).trans (b2 q (by omega)), by rw [← b2 m e]; exact a3⟩
      · subst e; exact ⟨m, a1, fun q hq => (a2 q hq).trans (b2 q hq), by omega⟩
      · exact ⟨k, by omega, fun q hq => (a2 q (by omega)).trans (b2 q hq), by rw [a2 k e]; exact b3⟩
theorem SLE.trans_lt {u v w : List Int} (h : SLE u v) (h2 : SLT v w) : SLT u w := by
  rcases h with rfl | h
  · exact h2
  · exact h.trans h2
theorem SLE.trans {u v w : List Int} (h : SLE u v) (h2 : SLE v w) : SLE u w := by
  rcases h2 with rfl | h2
  · exact h
  · exact .inr (h.trans_lt h2)
theorem SLT.app {u v : List Int} (h : SLT u v) (a b : Int) : SLT (u ++ [a]) (v ++ [b]) := by
  rcases h with h | ⟨h, m, a1, a2, a3⟩
  · exact .inl (by simp; omega)
  · refine .inr ⟨by simp; omega, m, by simp; omega, fun q hq => ?_, ?_⟩
    · rw [cS (by omega), cS (by omega)]; exact a2 q hq
    · rw [cS a1, cS (by omega)]; exact a3
theorem SLE.app {u v : List Int} (h : SLE u v) (a : Int) : SLE (u ++ [a]) (v ++ [a]) := by
  rcases h with rfl | h
  · exact .inl rfl
  · exact .inr (h.app a a)
structure BW (A : STP) (n i : Nat) (l : List W3) : Prop where
  so : ∀ j k, j < k → k < l.length → SLT (l.getD j w30).2 (l.getD k w30).2
  mi : ∀ j, j < i → j < l.length → ∀ x, x < n → ∃ k, k < l.length ∧ (l.getD k w30).1 = A (l.getD j w30).1 x ∧ SLE (l.getD k w30).2 ((l.getD j w30).2 ++ [(x : Int)])
  up : i < l.length → ∀ k, k < l.length → SLT (l.getD k w30).2 ((l.getD i w30).2 ++ [0])
structure BX (A : STP) (n i x : Nat) (l0 l : List W3) : Prop where
  so : ∀ j k, j < k → k < l.length → SLT (l.getD j w30).2 (l.getD k w30).2
  mi : ∀ y, y < x → ∃ k, k < l.length ∧ (l.getD k w30).1 = A (l0.getD i w30).1 y ∧ SLE (l.getD k w30).2 ((l0.getD i w30).2 ++ [(y : Int)])
  up : ∀ k, k < l.length → SLT (l.getD k w30).2 ((l0.getD i w30).2 ++ [(x : Int)])
end Go.AV
namespace Go.AV
open Nat renaming reduceEqDiff → E, reduceAdd → D, reduceLeDiff → J, reduceLT → Y, reduceMul → U, reduceSub → V
open List renaming set_cons_zero → aq, set_cons_succ → ao
/-plain-/
/-! The automaton that is built from a search. -/
structure LCL (A : STP) (n : Nat) (L : List W3) : Prop where
  nd : (L.map Prod.fst).Nodup
  cl : ∀ j, j < L.length → ∀ x, x < n → A (L.getD j w30).1 x ∈ L.map Prod.fst
variable {A : STP} {G : PP → Bool} {n : Nat} {L : List W3}
end Go.AV
namespace Go.AV
open Nat renaming reduceEqDiff → E, reduceAdd → D, reduceLeDiff → J, reduceLT → Y, reduceMul → U, reduceSub → V
open List renaming set_cons_zero → aq, set_cons_succ → ao
/-plain-/
/-! The least state of a class. -/
def Dfa.sto (d : Dfa) : Nat → Nat → Nat
  | 0, i => i
  | f + 1, i => if d.cn (i + 1) = d.cn i then i else d.sto f (i + 1)
def Dfa.cls (d : Dfa) : List Int := d.cl (d.sto (d.nx.length + 1) 0 + 1)
/-- The least state from s on of each class. -/
def fsV (cl : List Int) (n s c : Nat) : Int := match (List.range n).find? (fun q => decide (s ≤ q) && decide (cl.getD q 0 = (c : Int))) with | some q => (q : Int) | none => 0
def fsL (cl : List Int) (n s : Nat) : List Int := (List.range n).map fun c => fsV cl n s c
def Dfa.rep (d : Dfa) (s : Int) : Int := (fsL d.cls d.nx.length 0).getD (d.cls.getD s.toNat 0).toNat 0
structure RPR (d : Dfa) (s r : Int) : Prop where
  rg : 0 ≤ r ∧ r < d.nx.length
  le : r ≤ s
  cl : d.cls.getD r.toNat 0 = d.cls.getD s.toNat 0
  mi : ∀ q : Nat, (q : Int) < r → d.cls.getD q 0 ≠ d.cls.getD s.toNat 0
end Go.AV
namespace Go.AV
open Nat renaming reduceEqDiff → E, reduceAdd → D, reduceLeDiff → J, reduceLT → Y, reduceMul → U, reduceSub → V
open List renaming set_cons_zero → aq, set_cons_succ → ao
/-plain-/
/-! On drepTh. -/
structure M1OK (d : Dfa) (q : PP) (x : Nat) : Prop where
  r1 : 0 ≤ q.1 ∧ q.1 < d.nx.length
  rl : ((d.nx.getD q.1.toNat []).length : Int) = d.inp
  t1 : 0 ≤ (d.nx.getD q.1.toNat []).getD x 0 ∧ (d.nx.getD q.1.toNat []).getD x 0 < d.nx.length
  c1 : 0 ≤ d.cls.getD ((d.nx.getD q.1.toNat []).getD x 0).toNat 0 ∧ d.cls.getD ((d.nx.getD q.1.toNat []).getD x 0).toNat 0 < d.nx.length
  e : d.rep (d.dl q.1 x) = (fsL d.cls d.nx.length 0).getD (d.cls.getD ((d.nx.getD q.1.toNat []).getD x 0).toNat 0).toNat 0
end Go.AV
namespace Go.AV
open Nat renaming reduceEqDiff → E, reduceAdd → D, reduceLeDiff → J, reduceLT → Y, reduceMul → U, reduceSub → V
open List renaming set_cons_zero → aq, set_cons_succ → ao
/-plain-/
/-! On drepTh, dsimTh, minqTh. -/
structure SHP (d : Dfa) (P : List W3) (k : Nat) : Prop where
  rg : 0 ≤ (P.getD k w30).1.1 ∧ (P.getD k w30).1.1 < d.nx.length
end Go.AV
namespace Go.AV
open Nat renaming reduceEqDiff → E, reduceAdd → D, reduceLeDiff → J, reduceLT → Y, reduceMul → U, reduceSub → V
open List renaming set_cons_zero → aq, set_cons_succ → ao
/-plain-/
/-! On drcTh, compTh, shapesTh. -/
def rb (m : Mly) : STP := fun q x => (m.nxt q.1 x, m.out q.1 x)
def rR (q : PP) : Bool := decide (q.2 = 1)
def pA (m : Mly) : Bool := m.ot.flatten.any fun o => decide (1 < o)
def qV (m : Mly) (acc : Bool) : List W3 := oD (rb m) m.inp.toNat (m.nx.length * 2) (m.st, bI1 acc)
def fmE (m : Mly) (acc : Bool) : Int := if ¬ ci m = 0 then ci m else if pA m = true then 1 else dBE (qV m acc)
def fmD (m : Mly) (acc : Bool) : Dfa := if ¬ ci m = 0 then nj else if pA m = true then nj else dBD (rb m) rR m.inp.toNat (qV m acc)
end Go.AV
namespace Go.AV
open Nat renaming reduceEqDiff → E, reduceAdd → D, reduceLeDiff → J, reduceLT → Y, reduceMul → U, reduceSub → V
open List renaming set_cons_zero → aq, set_cons_succ → ao
/-plain-/
/-! On drepTh. -/
end Go.AV
namespace Go.AV
open Nat renaming reduceEqDiff → E, reduceAdd → D, reduceLeDiff → J, reduceLT → Y, reduceMul → U, reduceSub → V
open List renaming set_cons_zero → aq, set_cons_succ → ao
/-plain-/
/-! On drepTh, sigTh, dfmTh. -/
def lq (P : Nat → Bool) (s : Nat) : Nat := ((List.range s).find? P).getD s
def rc0 (t : Dfa) (s : Nat) : Int := (lq (fun q => decide (t.acc.getD q false = t.acc.getD s false)) s : Int)
def rcF (t : Dfa) (cl : List Int) (s : Nat) : Int := (lq (fun q => decide (t.sg cl q = t.sg cl s)) s : Int)
def rcl (t : Dfa) : Nat → List Int
  | 0 => (List.range t.nx.length).map (rc0 t)
  | r + 1 => (List.range t.nx.length).map (rcF t (rcl t r))
def rC (t : Dfa) : List Int := rcl t t.nx.length
structure RCK (t : Dfa) : Prop where
  rg : ∀ s, s < t.nx.length → 0 ≤ (rC t).getD s 0 ∧ (rC t).getD s 0 ≤ s
  eq : ∀ s u, s < t.nx.length → u < t.nx.length → ((rC t).getD s 0 = (rC t).getD u 0 ↔ DEQ t t s u)
  id : ∀ s, s < t.nx.length → (rC t).getD ((rC t).getD s 0).toNat 0 = (rC t).getD s 0
/-! The states that name a class, and their numbers. -/
end Go.AV
