/- Contracts of functions of this seat, each out of a walk through its code, and plain facts on what they compute. Conditions: those that each theorem names. -/
import Derived.Test.YtgmgnkmgofkfpaaDoorW03
set_option linter.unusedSimpArgs false
set_option linter.unusedVariables false
namespace Go.Proofs.YtgmgnkmgofkfpaaDoor
open Go Go.AV
open Nat renaming reduceEqDiff → G, reduceAdd → E, reduceLeDiff → J, reduceLT → V, reduceMul → M, reduceSub → U
open List renaming set_cons_zero → aA, set_cons_succ → az
set_option maxRecDepth 100000 in
theorem kU (w : List Int) (a b : Int) (w2 : List Int) (a2 b2 : Int) : ch Tryd.prog 25 [.agg [.list (.int .i64) w, .int .i64 a, .int .i64 b], .agg [.list (.int .i64) w2, .int .i64 a2, .int .i64 b2]] (.one (.bool ((decide (w = w2) && decide (a = a2)) && decide (b = b2)))) := by
 refine bp Tryd.func25 rfl (by kernel_rfl) (Nat.le_of_ble_eq_true rfl) rfl fun C hP hN hB => ?_
 replace hN : C.N = 24 := hN
 simp only [a8, E]
 refine aa fun K1 hK1 => ?_
 refine aj hP hN rfl ?_
 iterate 3 (refine ad rfl fun K0 Y => ?_; simp only [zE, op1, ev, lkp, ah, ag, cA, au, reduceCtorEq, G, E, J, V, M, U, Tryd.st50, Tryd.td4, Tryd.td50]; (repeat refine And.intro (by first | omega | assumption | exact rfl) ?_); refine Y _ ?_; clear Y K0; simp only [put, app, a9, af, zE, zS, E])
 refine ai ?_
 refine hK1 _ ?_; clear hK1; refine ae [0, 1, 2, 3, 4] ?_; simp only [Z, lkp, zE, reduceCtorEq, G, a8, E]
 refine aa fun K2 hK2 => ?_
 refine aj hP hN rfl ?_
 iterate 4 (refine ad rfl fun K0 Y => ?_; simp only [zE, op1, ev, lkp, ah, ag, am, ay, Nat.mul_one, aw, ax, acs, Ty.dflt, zG, aq, reduceCtorEq, G, E, J, V, M, U, Tryd.el25, Tryd.st50, Tryd.td25, Tryd.td50]; (repeat refine And.intro (by first | omega | assumption | exact rfl) ?_); refine Y _ ?_; clear Y K0; simp only [put, app, a9, af, zE, zS, E])
 refine ad rfl fun K0 Y => ?_
 refine bc (h := aU (ja w w2)) rfl rfl (by first | exact rfl | (simp only [ev, Z, lkp, zE, reduceCtorEq, G, a8, E]; exact rfl)) (by simp only [zE, zG, op1, ev, lkp, ah, ag, au, acs, br, mv1, mvC, Ty.dflt, reduceCtorEq, G, E, J, V, M, U]) ?_
 refine Y _ ?_; clear Y K0; simp only [put, app, a9, af, zE, zS, E]
 (refine ad rfl fun K0 Y => ?_; simp only [zE, op1, ev, lkp, ah, ag, ev, reduceCtorEq, G, E, J, V, M, U, Tryd.td4]; refine Y _ ?_; clear Y K0; simp only [put, app, a9, af, zE, zS, E])
 refine' aY (want := true) 5 rfl (m := 10) (by simp only [Z, lkp, zE, reduceCtorEq, G, a8, E]; exact rfl) (by kernel_rfl) rfl rfl rfl rfl rfl (fun hg3 => ?a3) ?b3 ?c3
 case a3 =>
  have hq3 := hg3; (try simp only [zB, reduceCtorEq] at hg3); simp only [List.take_succ_cons, List.take_zero, List.cons_append, List.nil_append]
  (refine ar rfl fun K0 Y => ?_; simp only [zE, op1, ev, lkp, ah, ag, am, reduceCtorEq, G, E, J, V, M, U, Tryd.st50, Tryd.td1, Tryd.td50]; (repeat refine And.intro (by first | omega | assumption | exact rfl) ?_); refine Y _ ?_; clear Y K0; simp only [put, app, a9, af, zE, zS, E])
  (refine ar rfl fun K0 Y => ?_; simp only [zE, op1, ev, lkp, ah, ag, ay, Nat.mul_one, aw, ax, acs, Ty.dflt, zG, aq, reduceCtorEq, G, E, J, V, M, U, Tryd.td3]; (repeat refine And.intro (by first | omega | assumption | exact rfl) ?_); refine Y _ ?_; clear Y K0; simp only [put, app, a9, af, zE, zS, E])
  (refine ar rfl fun K0 Y => ?_; simp only [zE, op1, ev, lkp, ah, ag, am, reduceCtorEq, G, E, J, V, M, U, Tryd.st50, Tryd.td1, Tryd.td50]; (repeat refine And.intro (by first | omega | assumption | exact rfl) ?_); refine Y _ ?_; clear Y K0; simp only [put, app, a9, af, zE, zS, E])
  (refine ar rfl fun K0 Y => ?_; simp only [zE, op1, ev, lkp, ah, ag, ay, Nat.mul_one, aw, ax, acs, Ty.dflt, zG, aq, reduceCtorEq, G, E, J, V, M, U, Tryd.td3]; (repeat refine And.intro (by first | omega | assumption | exact rfl) ?_); refine Y _ ?_; clear Y K0; simp only [put, app, a9, af, zE, zS, E])
  (refine ar rfl fun K0 Y => ?_; simp only [zE, op1, ev, lkp, ah, ag, aC, aD, aE, ao, aB, aR, reduceCtorEq, G, E, J, V, M, U, Tryd.td3, Tryd.td4]; (repeat refine And.intro (by first | omega | assumption | exact rfl) ?_); refine Y _ ?_; clear Y K0; simp only [put, app, a9, af, zE, zS, E])
  (refine ad rfl fun K0 Y => ?_; simp only [zE, op1, ev, lkp, ah, ag, bt, reduceCtorEq, G, E, J, V, M, U, Tryd.td4]; refine Y _ ?_; clear Y K0; simp only [put, app, a9, af, zE, zS, E])
  refine ai ?_
  refine ⟨by simp only [Z, lkp, zE, reduceCtorEq, G, a8, E]; exact rfl, rfl, ?_, rfl⟩; (repeat refine aZ rfl ?_); exact bz (by exact rfl) hq3
 case b3 => exact bv (by first | rfl | (simp [bV]; done) | decide)
 simp only [bj, bg]
 (refine ad rfl fun K0 Y => ?_; simp only [zE, op1, ev, lkp, ah, ag, ev, reduceCtorEq, G, E, J, V, M, U, Tryd.td4]; refine Y _ ?_; clear Y K0; simp only [put, app, a9, af, zE, zS, E])
 refine' aY (want := true) 5 rfl (m := 17) (by simp only [Z, lkp, zE, reduceCtorEq, G, a8, E]; exact rfl) (by kernel_rfl) rfl rfl rfl rfl rfl (fun hg4 => ?a4) ?b4 ?c4
 case a4 =>
  have hq4 := hg4; (try simp only [zB, reduceCtorEq] at hg4); simp only [List.take_succ_cons, List.take_zero, List.cons_append, List.nil_append]
  (refine ar rfl fun K0 Y => ?_; simp only [zE, op1, ev, lkp, ah, ag, am, reduceCtorEq, G, E, J, V, M, U, Tryd.st50, Tryd.td2, Tryd.td50]; (repeat refine And.intro (by first | omega | assumption | exact rfl) ?_); refine Y _ ?_; clear Y K0; simp only [put, app, a9, af, zE, zS, E])
  (refine ar rfl fun K0 Y => ?_; simp only [zE, op1, ev, lkp, ah, ag, ay, Nat.mul_one, aw, ax, acs, Ty.dflt, zG, aq, reduceCtorEq, G, E, J, V, M, U, Tryd.td3]; (repeat refine And.intro (by first | omega | assumption | exact rfl) ?_); refine Y _ ?_; clear Y K0; simp only [put, app, a9, af, zE, zS, E])
  (refine ar rfl fun K0 Y => ?_; simp only [zE, op1, ev, lkp, ah, ag, am, reduceCtorEq, G, E, J, V, M, U, Tryd.st50, Tryd.td2, Tryd.td50]; (repeat refine And.intro (by first | omega | assumption | exact rfl) ?_); refine Y _ ?_; clear Y K0; simp only [put, app, a9, af, zE, zS, E])
  (refine ar rfl fun K0 Y => ?_; simp only [zE, op1, ev, lkp, ah, ag, ay, Nat.mul_one, aw, ax, acs, Ty.dflt, zG, aq, reduceCtorEq, G, E, J, V, M, U, Tryd.td3]; (repeat refine And.intro (by first | omega | assumption | exact rfl) ?_); refine Y _ ?_; clear Y K0; simp only [put, app, a9, af, zE, zS, E])
  (refine ar rfl fun K0 Y => ?_; simp only [zE, op1, ev, lkp, ah, ag, aC, aD, aE, ao, aB, aR, reduceCtorEq, G, E, J, V, M, U, Tryd.td3, Tryd.td4]; (repeat refine And.intro (by first | omega | assumption | exact rfl) ?_); refine Y _ ?_; clear Y K0; simp only [put, app, a9, af, zE, zS, E])
  (refine ad rfl fun K0 Y => ?_; simp only [zE, op1, ev, lkp, ah, ag, bt, reduceCtorEq, G, E, J, V, M, U, Tryd.td4]; refine Y _ ?_; clear Y K0; simp only [put, app, a9, af, zE, zS, E])
  refine ai ?_
  refine ⟨by simp only [Z, lkp, zE, reduceCtorEq, G, a8, E]; exact rfl, rfl, ?_, rfl⟩; (repeat refine aZ rfl ?_); exact bz (by exact rfl) hq4
 case b4 => exact bv (by first | rfl | (simp [bV]; done) | decide)
 simp only [bj, bg]
 (refine ad rfl fun K0 Y => ?_; simp only [zE, op1, ev, lkp, ah, ag, ev, reduceCtorEq, G, E, J, V, M, U, Tryd.td4]; refine Y _ ?_; clear Y K0; simp only [put, app, a9, af, zE, zS, E])
 refine ai ?_
 refine hK2 _ ?_; clear hK2; refine ae [0, 1, 2, 3, 4] ?_; simp only [Z, lkp, zE, reduceCtorEq, G, a8, E]
 refine aP ?_
 refine ⟨by first | exact .inl rfl | exact .inr rfl, _, rfl, ?_⟩; simp only [fzV, fz1, fzC, List.map_cons, List.map_nil, Z, lkp, zE, reduceCtorEq, G, a8, E]
 refine VLE.of_eq ?_
 rfl
end Go.Proofs.YtgmgnkmgofkfpaaDoor
namespace Go.Proofs.YtgmgnkmgofkfpaaDoor
open Go Go.AV
open Nat renaming reduceEqDiff → G, reduceAdd → E, reduceLeDiff → J, reduceLT → V, reduceMul → M, reduceSub → U
open List renaming set_cons_zero → aA, set_cons_succ → az
set_option maxRecDepth 100000 in
set_option maxHeartbeats 2000000 in
theorem jx  : ch Tryd.prog 14 [] (.one (.bool true)) := by
 refine bp Tryd.func14 rfl (by kernel_rfl) (Nat.le_of_ble_eq_true rfl) rfl fun C hP hN hB => ?_
 replace hN : C.N = 135 := hN
 simp only [a8, E]
 refine aa fun K1 hK1 => ?_
 refine aj hP hN rfl ?_
 (refine ad rfl fun K0 Y => ?_; simp only [zE, op1, ev, lkp, ah, ag, ev, reduceCtorEq, G, E, J, V, M, U, Tryd.td4, Mpr.av, Mly.av, bG, bC, List.getD_cons_zero]; refine Y _ ?_; clear Y K0; simp only [put, app, a9, af, zE, zS, E])
 refine ai ?_
 refine hK1 _ ?_; clear hK1; refine ae [0] ?_; simp only [Z, lkp, zE, reduceCtorEq, G, a8, E]
 refine aa fun K2 hK2 => ?_
 refine aj hP hN rfl ?_
 (refine ad rfl fun K0 Y => ?_; simp only [zE, op1, ev, lkp, ah, ag, aV, b9, bJ, rep, aL, aQ, au, Ty.size, reduceCtorEq, G, E, J, V, M, U, Tryd.el25, Tryd.td25, Tryd.td3, Mpr.av, Mly.av, bG, bC, List.getD_cons_zero]; (repeat refine And.intro (by first | omega | assumption | exact rfl) ?_); (first | refine Y _ ?_ | refine Or.inl (Y _ ?_)); clear Y K0; simp only [put, app, a9, af, zE, zS, E])
 refine ad rfl fun K0 Y => ?_
 refine bc (h := aU (lv [0, 1, 0])) rfl rfl (by first | exact rfl | (simp only [ev, Z, lkp, zE, reduceCtorEq, G, a8, E]; exact rfl)) (by simp only [zE, zG, op1, ev, lkp, ah, ag, au, acs, br, mv1, mvC, Ty.dflt, reduceCtorEq, G, E, J, V, M, U, Mpr.av, Mly.av, bG, bC, List.getD_cons_zero]) ?_
 refine Y _ ?_; clear Y K0; simp only [put, app, a9, af, zE, zS, E]
 iterate 6 (refine ad rfl fun K0 Y => ?_; simp only [zE, op1, ev, lkp, ah, ag, bZ, co, bI, Nat.mul_one, au, aQ, aL, acs, Ty.size, Ty.dflt, zG, reduceCtorEq, G, E, J, V, M, U, Tryd.st24, Tryd.td1, Tryd.td24, Tryd.td26, Mpr.av, Mly.av, bG, bC, List.getD_cons_zero]; (repeat refine And.intro (by first | omega | assumption | exact rfl) ?_); (first | refine Y _ ?_ | refine Or.inl (Y _ ?_)); clear Y K0; simp only [put, app, a9, af, zE, zS, E])
 refine ai ?_
 refine hK2 _ ?_; clear hK2; refine ae [0, 1, 2] ?_; simp only [Z, lkp, zE, reduceCtorEq, G, a8, E]
 refine aa fun K3 hK3 => ?_
 refine aj hP hN rfl ?_
 (refine ad rfl fun K0 Y => ?_; simp only [zE, op1, ev, lkp, ah, ag, aV, b9, bJ, rep, aL, aQ, au, Ty.size, reduceCtorEq, G, E, J, V, M, U, Tryd.el25, Tryd.td2, Tryd.td25, Mpr.av, Mly.av, bG, bC, List.getD_cons_zero]; (repeat refine And.intro (by first | omega | assumption | exact rfl) ?_); (first | refine Y _ ?_ | refine Or.inl (Y _ ?_)); clear Y K0; simp only [put, app, a9, af, zE, zS, E])
 refine ad rfl fun K0 Y => ?_
 refine bc (h := aU (lv [1, 0])) rfl rfl (by first | exact rfl | (simp only [ev, Z, lkp, zE, reduceCtorEq, G, a8, E]; exact rfl)) (by simp only [zE, zG, op1, ev, lkp, ah, ag, au, acs, br, mv1, mvC, Ty.dflt, reduceCtorEq, G, E, J, V, M, U, Mpr.av, Mly.av, bG, bC, List.getD_cons_zero]) ?_
 refine Y _ ?_; clear Y K0; simp only [put, app, a9, af, zE, zS, E]
 iterate 6 (refine ad rfl fun K0 Y => ?_; simp only [zE, op1, ev, lkp, ah, ag, bZ, co, bI, Nat.mul_one, au, aQ, aL, acs, Ty.size, Ty.dflt, zG, reduceCtorEq, G, E, J, V, M, U, Tryd.st24, Tryd.td1, Tryd.td24, Tryd.td26, Mpr.av, Mly.av, bG, bC, List.getD_cons_zero]; (repeat refine And.intro (by first | omega | assumption | exact rfl) ?_); (first | refine Y _ ?_ | refine Or.inl (Y _ ?_)); clear Y K0; simp only [put, app, a9, af, zE, zS, E])
 refine ai ?_
 refine hK3 _ ?_; clear hK3; refine ae [0, 1, 2, 4] ?_; simp only [Z, lkp, zE, reduceCtorEq, G, a8, E]
 refine aa fun K4 hK4 => ?_
 refine aj hP hN rfl ?_
 iterate 2 (refine ad rfl fun K0 Y => ?_; simp only [zE, op1, ev, lkp, ah, ag, ay, Nat.mul_one, aw, ax, acs, Ty.dflt, zG, aq, aV, b9, bJ, rep, aL, aQ, au, Ty.size, reduceCtorEq, G, E, J, V, M, U, Tryd.el25, Tryd.st24, Tryd.td24, Tryd.td25, Tryd.td3, Mpr.av, Mly.av, bG, bC, List.getD_cons_zero]; (repeat refine And.intro (by first | omega | assumption | exact rfl) ?_); (first | refine Y _ ?_ | refine Or.inl (Y _ ?_)); clear Y K0; simp only [put, app, a9, af, zE, zS, E])
 refine ad rfl fun K0 Y => ?_
 refine bc (h := aU (qz (dy [0, 1, 0]) [2, 1, 0])) rfl rfl (by first | exact rfl | (simp only [ev, Z, lkp, zE, reduceCtorEq, G, a8, E]; exact rfl)) (by simp only [zE, zG, op1, ev, lkp, ah, ag, au, acs, br, mv1, mvC, Ty.dflt, reduceCtorEq, G, E, J, V, M, U, Mpr.av, Mly.av, bG, bC, List.getD_cons_zero]) ?_
 refine Y _ ?_; clear Y K0; simp only [put, app, a9, af, zE, zS, E]
 iterate 5 (refine ad rfl fun K0 Y => ?_; simp only [zE, op1, ev, lkp, ah, ag, bZ, reduceCtorEq, G, E, J, V, M, U, Tryd.el25, Tryd.td1, Tryd.td25, Tryd.td26, Mpr.av, Mly.av, bG, bC, List.getD_cons_zero]; refine Y _ ?_; clear Y K0; simp only [put, app, a9, af, zE, zS, E])
 refine ai ?_
 refine hK4 _ ?_; clear hK4; refine ae [0, 1, 2, 4, 5, 6] ?_; simp only [Z, lkp, zE, reduceCtorEq, G, a8, E]
 refine aa fun K5 hK5 => ?_
 refine aj hP hN rfl ?_
 iterate 2 (refine ad rfl fun K0 Y => ?_; simp only [zE, op1, ev, lkp, ah, ag, ay, Nat.mul_one, aw, ax, acs, Ty.dflt, zG, aq, aV, b9, bJ, rep, aL, aQ, au, Ty.size, reduceCtorEq, G, E, J, V, M, U, Tryd.el25, Tryd.st24, Tryd.td24, Tryd.td25, Tryd.td3, Mpr.av, Mly.av, bG, bC, List.getD_cons_zero]; (repeat refine And.intro (by first | omega | assumption | exact rfl) ?_); (first | refine Y _ ?_ | refine Or.inl (Y _ ?_)); clear Y K0; simp only [put, app, a9, af, zE, zS, E])
 refine ad rfl fun K0 Y => ?_
 refine bc (h := aU (qZ (dy [0, 1, 0]) [0, 1, 0])) rfl rfl (by first | exact rfl | (simp only [ev, Z, lkp, zE, reduceCtorEq, G, a8, E]; exact rfl)) (by simp only [zE, zG, op1, ev, lkp, ah, ag, au, acs, br, mv1, mvC, Ty.dflt, reduceCtorEq, G, E, J, V, M, U, Mpr.av, Mly.av, bG, bC, List.getD_cons_zero]) ?_
 refine Y _ ?_; clear Y K0; simp only [put, app, a9, af, zE, zS, E]
 iterate 7 (refine ad rfl fun K0 Y => ?_; simp only [zE, op1, ev, lkp, ah, ag, bZ, reduceCtorEq, G, E, J, V, M, U, Tryd.el25, Tryd.td1, Tryd.td2, Tryd.td25, Tryd.td26, Tryd.td4, Mpr.av, Mly.av, bG, bC, List.getD_cons_zero]; refine Y _ ?_; clear Y K0; simp only [put, app, a9, af, zE, zS, E])
 refine ai ?_
 refine hK5 _ ?_; clear hK5; refine ae [0, 1, 2, 4, 5, 6, 7, 8, 9] ?_; simp only [Z, lkp, zE, reduceCtorEq, G, a8, E]
 refine aa fun K6 hK6 => ?_
 refine aj hP hN rfl ?_
 (refine ad rfl fun K0 Y => ?_; simp only [zE, op1, ev, lkp, ah, ag, aV, b9, bJ, rep, aL, aQ, au, Ty.size, reduceCtorEq, G, E, J, V, M, U, Tryd.el25, Tryd.td2, Tryd.td25, Mpr.av, Mly.av, bG, bC, List.getD_cons_zero]; (repeat refine And.intro (by first | omega | assumption | exact rfl) ?_); (first | refine Y _ ?_ | refine Or.inl (Y _ ?_)); clear Y K0; simp only [put, app, a9, af, zE, zS, E])
 refine ad rfl fun K0 Y => ?_
 refine bc (h := aU (lv [0, 0])) rfl rfl (by first | exact rfl | (simp only [ev, Z, lkp, zE, reduceCtorEq, G, a8, E]; exact rfl)) (by simp only [zE, zG, op1, ev, lkp, ah, ag, au, acs, br, mv1, mvC, Ty.dflt, reduceCtorEq, G, E, J, V, M, U, Mpr.av, Mly.av, bG, bC, List.getD_cons_zero]) ?_
 refine Y _ ?_; clear Y K0; simp only [put, app, a9, af, zE, zS, E]
 iterate 6 (refine ad rfl fun K0 Y => ?_; simp only [zE, op1, ev, lkp, ah, ag, bZ, co, bI, Nat.mul_one, au, aQ, aL, acs, Ty.size, Ty.dflt, zG, reduceCtorEq, G, E, J, V, M, U, Tryd.st24, Tryd.td1, Tryd.td24, Tryd.td26, Mpr.av, Mly.av, bG, bC, List.getD_cons_zero]; (repeat refine And.intro (by first | omega | assumption | exact rfl) ?_); (first | refine Y _ ?_ | refine Or.inl (Y _ ?_)); clear Y K0; simp only [put, app, a9, af, zE, zS, E])
 refine ai ?_
 refine hK6 _ ?_; clear hK6; refine ae [0, 1, 2, 4, 5, 6, 7, 8, 9, 10] ?_; simp only [Z, lkp, zE, reduceCtorEq, G, a8, E]
 refine aa fun K7 hK7 => ?_
 refine fU ?_; simp only [List.cons_append, List.append_assoc, List.nil_append]
 refine fU ?_; simp only [List.cons_append, List.append_assoc, List.nil_append]
 refine bW hP hN Tryd.mixed rfl ?_
 refine ad rfl fun K0 Y => ?_
 refine bc (h := aU kE) rfl rfl (by first | exact rfl | (simp only [ev, Z, lkp, zE, reduceCtorEq, G, a8, E]; exact rfl)) (by simp only [zE, zG, op1, ev, lkp, ah, ag, au, acs, br, mv1, mvC, Ty.dflt, reduceCtorEq, G, E, J, V, M, U, Mpr.av, Mly.av, bG, bC, List.getD_cons_zero]) ?_
 refine Y _ ?_; clear Y K0; simp only [put, app, a9, af, zE, zS, E]
 (refine ad rfl fun K0 Y => ?_; simp only [zE, op1, ev, lkp, ah, ag, ay, Nat.mul_one, aw, ax, acs, Ty.dflt, zG, aq, reduceCtorEq, G, E, J, V, M, U, Tryd.st24, Tryd.td24, Mpr.av, Mly.av, bG, bC, List.getD_cons_zero]; (repeat refine And.intro (by first | omega | assumption | exact rfl) ?_); refine Y _ ?_; clear Y K0; simp only [put, app, a9, af, zE, zS, E])
 refine ad rfl fun K0 Y => ?_
 refine bc (h := aU rC) rfl rfl (by first | exact rfl | (simp only [ev, Z, lkp, zE, reduceCtorEq, G, a8, E]; exact rfl)) (by simp only [zE, zG, op1, ev, lkp, ah, ag, au, acs, br, mv1, mvC, Ty.dflt, reduceCtorEq, G, E, J, V, M, U, Mpr.av, Mly.av, bG, bC, List.getD_cons_zero]) ?_
 refine Y _ ?_; clear Y K0; simp only [put, app, a9, af, zE, zS, E]
 iterate 5 (refine ad rfl fun K0 Y => ?_; simp only [zE, op1, ev, lkp, ah, ag, bZ, reduceCtorEq, G, E, J, V, M, U, Tryd.st47, Tryd.st50, Tryd.td1, Tryd.td2, Tryd.td26, Tryd.td3, Tryd.td4, Tryd.td47, Tryd.td50, Mpr.av, Mly.av, bG, bC, List.getD_cons_zero]; refine Y _ ?_; clear Y K0; simp only [put, app, a9, af, zE, zS, E])
 (refine ad rfl fun K0 Y => ?_; simp only [zE, op1, ev, lkp, ah, ag, co, reduceCtorEq, G, E, J, V, M, U, Tryd.st47, Tryd.td47, Mpr.av, Mly.av, bG, bC, List.getD_cons_zero]; refine Or.inr (Or.inl ⟨3, ?_, (.pair (.int .i64) (.pair (.int .i64) (.pair (.list (.list (.int .i64))) (.pair (.list (.list (.int .i64))) .unit)))), (0, (0, ([], ([], ())))), ?_⟩); (exact rfl); (repeat refine And.intro (by first | rfl | decide) ?_); refine Y _ ?_; clear Y K0; simp only [put, app, a9, af, zE, zS, E])
 (refine ad rfl fun K0 Y => ?_; simp only [zE, op1, ev, lkp, ah, ag, co, reduceCtorEq, G, E, J, V, M, U, Tryd.st50, Tryd.td50, Mpr.av, Mly.av, bG, bC, List.getD_cons_zero]; refine Or.inr (Or.inl ⟨4, ?_, (.pair (.list (.int .i64)) (.pair (.int .i64) (.pair (.int .i64) .unit))), ([], (0, (0, ()))), ?_⟩); (exact rfl); (repeat refine And.intro (by first | rfl | decide) ?_); refine Y _ ?_; clear Y K0; simp only [put, app, a9, af, zE, zS, E])
 iterate 4 (refine ad rfl fun K0 Y => ?_; simp only [zE, op1, ev, lkp, ah, ag, bI, Nat.mul_one, au, aQ, aL, acs, Ty.size, Ty.dflt, zG, reduceCtorEq, G, E, J, V, M, U, Tryd.st47, Tryd.st50, Tryd.td26, Tryd.td4, Tryd.td47, Tryd.td50, Mpr.av, Mly.av, bG, bC, List.getD_cons_zero]; (repeat refine And.intro (by first | omega | assumption | exact rfl) ?_); refine Y _ ?_; clear Y K0; simp only [put, app, a9, af, zE, zS, E])
 refine ai ?_
 refine ⟨by kernel_rfl, ?_⟩
 refine hK7 _ ?_; clear hK7; refine ae [0, 1, 2, 4, 5, 6, 7, 8, 9, 10, 13, 14, 15] ?_; simp only [Z, lkp, zE, reduceCtorEq, G, a8, E]
 refine aa fun K8 hK8 => ?_
 refine aj hP hN rfl ?_
 iterate 9 (refine ad rfl fun K0 Y => ?_; simp only [zE, op1, ev, lkp, ah, ag, aV, b9, bJ, rep, aL, aQ, au, Ty.size, c9, co, bI, Nat.mul_one, acs, Ty.dflt, zG, reduceCtorEq, G, E, J, V, M, U, Tryd.el22, Tryd.el25, Tryd.st24, Tryd.td2, Tryd.td22, Tryd.td24, Tryd.td25, Mpr.av, Mly.av, bG, bC, List.getD_cons_zero]; (repeat refine And.intro (by first | omega | assumption | exact rfl) ?_); (first | refine Y _ ?_ | refine Or.inl (Y _ ?_)); clear Y K0; simp only [put, app, a9, af, zE, zS, E])
 refine ai ?_
 refine hK8 _ ?_; clear hK8; refine ae [0, 1, 2, 4, 5, 6, 7, 8, 9, 10, 13, 14, 15, 16] ?_; simp only [Z, lkp, zE, reduceCtorEq, G, a8, E]
 refine aa fun K9 hK9 => ?_
 refine fU ?_; simp only [List.cons_append, List.append_assoc, List.nil_append]
 refine fU ?_; simp only [List.cons_append, List.append_assoc, List.nil_append]
 refine bW hP hN Tryd.mixed rfl ?_
 refine ad rfl fun K0 Y => ?_
 refine bc (h := aU kE) rfl rfl (by first | exact rfl | (simp only [ev, Z, lkp, zE, reduceCtorEq, G, a8, E]; exact rfl)) (by simp only [zE, zG, op1, ev, lkp, ah, ag, au, acs, br, mv1, mvC, Ty.dflt, reduceCtorEq, G, E, J, V, M, U, Mpr.av, Mly.av, bG, bC, List.getD_cons_zero]) ?_
 refine Y _ ?_; clear Y K0; simp only [put, app, a9, af, zE, zS, E]
 (refine ad rfl fun K0 Y => ?_; simp only [zE, op1, ev, lkp, ah, ag, ay, Nat.mul_one, aw, ax, acs, Ty.dflt, zG, aq, reduceCtorEq, G, E, J, V, M, U, Tryd.st24, Tryd.td24, Mpr.av, Mly.av, bG, bC, List.getD_cons_zero]; (repeat refine And.intro (by first | omega | assumption | exact rfl) ?_); refine Y _ ?_; clear Y K0; simp only [put, app, a9, af, zE, zS, E])
 refine ad rfl fun K0 Y => ?_
 refine bc (h := aU rA) rfl rfl (by first | exact rfl | (simp only [ev, Z, lkp, zE, reduceCtorEq, G, a8, E]; exact rfl)) (by simp only [zE, zG, op1, ev, lkp, ah, ag, au, acs, br, mv1, mvC, Ty.dflt, reduceCtorEq, G, E, J, V, M, U, Mpr.av, Mly.av, bG, bC, List.getD_cons_zero]) ?_
 refine Y _ ?_; clear Y K0; simp only [put, app, a9, af, zE, zS, E]
 iterate 5 (refine ad rfl fun K0 Y => ?_; simp only [zE, op1, ev, lkp, ah, ag, bZ, reduceCtorEq, G, E, J, V, M, U, Tryd.st47, Tryd.st50, Tryd.td1, Tryd.td2, Tryd.td26, Tryd.td3, Tryd.td4, Tryd.td47, Tryd.td50, Mpr.av, Mly.av, bG, bC, List.getD_cons_zero]; refine Y _ ?_; clear Y K0; simp only [put, app, a9, af, zE, zS, E])
 (refine ad rfl fun K0 Y => ?_; simp only [zE, op1, ev, lkp, ah, ag, co, reduceCtorEq, G, E, J, V, M, U, Tryd.st47, Tryd.td47, Mpr.av, Mly.av, bG, bC, List.getD_cons_zero]; refine Or.inr (Or.inl ⟨6, ?_, (.pair (.int .i64) (.pair (.int .i64) (.pair (.list (.list (.int .i64))) (.pair (.list (.list (.int .i64))) .unit)))), (0, (0, ([], ([], ())))), ?_⟩); (exact rfl); (repeat refine And.intro (by first | rfl | decide) ?_); refine Y _ ?_; clear Y K0; simp only [put, app, a9, af, zE, zS, E])
 (refine ad rfl fun K0 Y => ?_; simp only [zE, op1, ev, lkp, ah, ag, co, reduceCtorEq, G, E, J, V, M, U, Tryd.st50, Tryd.td50, Mpr.av, Mly.av, bG, bC, List.getD_cons_zero]; refine Or.inr (Or.inl ⟨7, ?_, (.pair (.list (.int .i64)) (.pair (.int .i64) (.pair (.int .i64) .unit))), ([], (0, (0, ()))), ?_⟩); (exact rfl); (repeat refine And.intro (by first | rfl | decide) ?_); refine Y _ ?_; clear Y K0; simp only [put, app, a9, af, zE, zS, E])
 iterate 4 (refine ad rfl fun K0 Y => ?_; simp only [zE, op1, ev, lkp, ah, ag, bI, Nat.mul_one, au, aQ, aL, acs, Ty.size, Ty.dflt, zG, reduceCtorEq, G, E, J, V, M, U, Tryd.st47, Tryd.st50, Tryd.td26, Tryd.td4, Tryd.td47, Tryd.td50, Mpr.av, Mly.av, bG, bC, List.getD_cons_zero]; (repeat refine And.intro (by first | omega | assumption | exact rfl) ?_); refine Y _ ?_; clear Y K0; simp only [put, app, a9, af, zE, zS, E])
 refine ai ?_
 refine ⟨by kernel_rfl, ?_⟩
 refine hK9 _ ?_; clear hK9; refine ae [0, 1, 2, 4, 5, 6, 7, 8, 9, 10, 13, 14, 15, 16, 17, 19, 20] ?_; simp only [Z, lkp, zE, reduceCtorEq, G, a8, E]
 refine aa fun K10 hK10 => ?_
 refine aa fun K11 hK11 => ?_
 refine aj hP hN rfl ?_
 iterate 2 (refine ad rfl fun K0 Y => ?_; simp only [zE, op1, ev, lkp, ah, ag, aC, aD, aE, ao, aB, aR, reduceCtorEq, G, E, J, V, M, U, Tryd.td26, Tryd.td4, Mpr.av, Mly.av, bG, bC, List.getD_cons_zero]; (repeat refine And.intro (by first | omega | assumption | exact rfl) ?_); refine Y _ ?_; clear Y K0; simp only [put, app, a9, af, zE, zS, E])
 (refine ad rfl fun K0 Y => ?_; simp only [zE, op1, ev, lkp, ah, ag, ev, reduceCtorEq, G, E, J, V, M, U, Tryd.td4, Mpr.av, Mly.av, bG, bC, List.getD_cons_zero]; refine Y _ ?_; clear Y K0; simp only [put, app, a9, af, zE, zS, E])
 refine' aY (want := false) 2 rfl (m := 74) (by simp only [Z, lkp, zE, reduceCtorEq, G, a8, E]; exact rfl) (by kernel_rfl) rfl rfl rfl rfl rfl (fun hg12 => ?a12) ?b12 ?c12
 case a12 =>
  have hq12 := hg12; (try simp only [zB, reduceCtorEq] at hg12); simp only [List.take_succ_cons, List.take_zero, List.cons_append, List.nil_append]
  (refine ar rfl fun K0 Y => ?_; simp only [zE, op1, ev, lkp, ah, ag, ev, reduceCtorEq, G, E, J, V, M, U, Tryd.td26, Mpr.av, Mly.av, bG, bC, List.getD_cons_zero]; refine Y _ ?_; clear Y K0; simp only [put, app, a9, af, zE, zS, E])
  (refine ar rfl fun K0 Y => ?_; simp only [zE, op1, ev, lkp, ah, ag, aC, aD, aE, ao, aB, aR, reduceCtorEq, G, E, J, V, M, U, Tryd.td26, Tryd.td4, Mpr.av, Mly.av, bG, bC, List.getD_cons_zero]; (repeat refine And.intro (by first | omega | assumption | exact rfl) ?_); refine Y _ ?_; clear Y K0; simp only [put, app, a9, af, zE, zS, E])
  (refine ad rfl fun K0 Y => ?_; simp only [zE, op1, ev, lkp, ah, ag, bt, reduceCtorEq, G, E, J, V, M, U, Tryd.td4, Mpr.av, Mly.av, bG, bC, List.getD_cons_zero]; refine Y _ ?_; clear Y K0; simp only [put, app, a9, af, zE, zS, E])
  refine ai ?_
  refine ⟨by simp only [Z, lkp, zE, reduceCtorEq, G, a8, E]; exact rfl, rfl, ?_, rfl⟩; (repeat refine aZ rfl ?_); exact bz (by exact rfl) hq12
 case b12 => exact bv (by first | rfl | (simp [bV]; done) | decide)
 simp only [bj, bg]
 (refine ad rfl fun K0 Y => ?_; simp only [zE, op1, ev, lkp, ah, ag, ev, reduceCtorEq, G, E, J, V, M, U, Tryd.td4, Mpr.av, Mly.av, bG, bC, List.getD_cons_zero]; refine Y _ ?_; clear Y K0; simp only [put, app, a9, af, zE, zS, E])
 refine' aY (want := false) 2 rfl (m := 78) (by simp only [Z, lkp, zE, reduceCtorEq, G, a8, E]; exact rfl) (by kernel_rfl) rfl rfl rfl rfl rfl (fun hg13 => ?a13) ?b13 ?c13
 case a13 =>
  have hq13 := hg13; (try simp only [zB, reduceCtorEq] at hg13); simp only [List.take_succ_cons, List.take_zero, List.cons_append, List.nil_append]
  (refine ar rfl fun K0 Y => ?_; simp only [zE, op1, ev, lkp, ah, ag, ev, reduceCtorEq, G, E, J, V, M, U, Tryd.td26, Mpr.av, Mly.av, bG, bC, List.getD_cons_zero]; refine Y _ ?_; clear Y K0; simp only [put, app, a9, af, zE, zS, E])
  (refine ar rfl fun K0 Y => ?_; simp only [zE, op1, ev, lkp, ah, ag, aC, aD, aE, ao, aB, aR, reduceCtorEq, G, E, J, V, M, U, Tryd.td26, Tryd.td4, Mpr.av, Mly.av, bG, bC, List.getD_cons_zero]; (repeat refine And.intro (by first | omega | assumption | exact rfl) ?_); refine Y _ ?_; clear Y K0; simp only [put, app, a9, af, zE, zS, E])
  (refine ad rfl fun K0 Y => ?_; simp only [zE, op1, ev, lkp, ah, ag, bt, reduceCtorEq, G, E, J, V, M, U, Tryd.td4, Mpr.av, Mly.av, bG, bC, List.getD_cons_zero]; refine Y _ ?_; clear Y K0; simp only [put, app, a9, af, zE, zS, E])
  refine ai ?_
  refine ⟨by simp only [Z, lkp, zE, reduceCtorEq, G, a8, E]; exact rfl, rfl, ?_, rfl⟩; (repeat refine aZ rfl ?_); exact bz (by exact rfl) hq13
 case b13 => exact bv (by first | rfl | (simp [bV]; done) | decide)
 simp only [bj, bg]
 (refine ad rfl fun K0 Y => ?_; simp only [zE, op1, ev, lkp, ah, ag, ev, reduceCtorEq, G, E, J, V, M, U, Tryd.td4, Mpr.av, Mly.av, bG, bC, List.getD_cons_zero]; refine Y _ ?_; clear Y K0; simp only [put, app, a9, af, zE, zS, E])
 refine' aY (want := false) 2 rfl (m := 82) (by simp only [Z, lkp, zE, reduceCtorEq, G, a8, E]; exact rfl) (by kernel_rfl) rfl rfl rfl rfl rfl (fun hg14 => ?a14) ?b14 ?c14
 case a14 =>
  have hq14 := hg14; (try simp only [zB, reduceCtorEq] at hg14); simp only [List.take_succ_cons, List.take_zero, List.cons_append, List.nil_append]
  (refine ar rfl fun K0 Y => ?_; simp only [zE, op1, ev, lkp, ah, ag, ev, reduceCtorEq, G, E, J, V, M, U, Tryd.td26, Mpr.av, Mly.av, bG, bC, List.getD_cons_zero]; refine Y _ ?_; clear Y K0; simp only [put, app, a9, af, zE, zS, E])
  (refine ar rfl fun K0 Y => ?_; simp only [zE, op1, ev, lkp, ah, ag, aC, aD, aE, ao, aB, aR, reduceCtorEq, G, E, J, V, M, U, Tryd.td26, Tryd.td4, Mpr.av, Mly.av, bG, bC, List.getD_cons_zero]; (repeat refine And.intro (by first | omega | assumption | exact rfl) ?_); refine Y _ ?_; clear Y K0; simp only [put, app, a9, af, zE, zS, E])
  (refine ad rfl fun K0 Y => ?_; simp only [zE, op1, ev, lkp, ah, ag, bt, reduceCtorEq, G, E, J, V, M, U, Tryd.td4, Mpr.av, Mly.av, bG, bC, List.getD_cons_zero]; refine Y _ ?_; clear Y K0; simp only [put, app, a9, af, zE, zS, E])
  refine ai ?_
  refine ⟨by simp only [Z, lkp, zE, reduceCtorEq, G, a8, E]; exact rfl, rfl, ?_, rfl⟩; (repeat refine aZ rfl ?_); exact bz (by exact rfl) hq14
 case b14 => exact bv (by first | rfl | (simp [bV]; done) | decide)
 simp only [bj, bg]
 (refine ad rfl fun K0 Y => ?_; simp only [zE, op1, ev, lkp, ah, ag, ev, reduceCtorEq, G, E, J, V, M, U, Tryd.td4, Mpr.av, Mly.av, bG, bC, List.getD_cons_zero]; refine Y _ ?_; clear Y K0; simp only [put, app, a9, af, zE, zS, E])
 refine' aY (want := false) 2 rfl (m := 86) (by simp only [Z, lkp, zE, reduceCtorEq, G, a8, E]; exact rfl) (by kernel_rfl) rfl rfl rfl rfl rfl (fun hg15 => ?a15) ?b15 ?c15
 case a15 =>
  have hq15 := hg15; (try simp only [zB, reduceCtorEq] at hg15); simp only [List.take_succ_cons, List.take_zero, List.cons_append, List.nil_append]
  (refine ar rfl fun K0 Y => ?_; simp only [zE, op1, ev, lkp, ah, ag, ev, reduceCtorEq, G, E, J, V, M, U, Tryd.td26, Mpr.av, Mly.av, bG, bC, List.getD_cons_zero]; refine Y _ ?_; clear Y K0; simp only [put, app, a9, af, zE, zS, E])
  (refine ar rfl fun K0 Y => ?_; simp only [zE, op1, ev, lkp, ah, ag, aC, aD, aE, ao, aB, aR, reduceCtorEq, G, E, J, V, M, U, Tryd.td26, Tryd.td4, Mpr.av, Mly.av, bG, bC, List.getD_cons_zero]; (repeat refine And.intro (by first | omega | assumption | exact rfl) ?_); refine Y _ ?_; clear Y K0; simp only [put, app, a9, af, zE, zS, E])
  (refine ad rfl fun K0 Y => ?_; simp only [zE, op1, ev, lkp, ah, ag, bt, reduceCtorEq, G, E, J, V, M, U, Tryd.td4, Mpr.av, Mly.av, bG, bC, List.getD_cons_zero]; refine Y _ ?_; clear Y K0; simp only [put, app, a9, af, zE, zS, E])
  refine ai ?_
  refine ⟨by simp only [Z, lkp, zE, reduceCtorEq, G, a8, E]; exact rfl, rfl, ?_, rfl⟩; (repeat refine aZ rfl ?_); exact bz (by exact rfl) hq15
 case b15 => exact bv (by first | rfl | (simp [bV]; done) | decide)
 simp only [bj, bg]
 (refine ad rfl fun K0 Y => ?_; simp only [zE, op1, ev, lkp, ah, ag, ev, reduceCtorEq, G, E, J, V, M, U, Tryd.td4, Mpr.av, Mly.av, bG, bC, List.getD_cons_zero]; refine Y _ ?_; clear Y K0; simp only [put, app, a9, af, zE, zS, E])
 refine' aY (want := false) 2 rfl (m := 90) (by simp only [Z, lkp, zE, reduceCtorEq, G, a8, E]; exact rfl) (by kernel_rfl) rfl rfl rfl rfl rfl (fun hg16 => ?a16) ?b16 ?c16
 case a16 =>
  have hq16 := hg16; (try simp only [zB, reduceCtorEq] at hg16); simp only [List.take_succ_cons, List.take_zero, List.cons_append, List.nil_append]
  (refine ar rfl fun K0 Y => ?_; simp only [zE, op1, ev, lkp, ah, ag, ev, reduceCtorEq, G, E, J, V, M, U, Tryd.td26, Mpr.av, Mly.av, bG, bC, List.getD_cons_zero]; refine Y _ ?_; clear Y K0; simp only [put, app, a9, af, zE, zS, E])
  (refine ar rfl fun K0 Y => ?_; simp only [zE, op1, ev, lkp, ah, ag, aC, aD, aE, ao, aB, aR, reduceCtorEq, G, E, J, V, M, U, Tryd.td26, Tryd.td4, Mpr.av, Mly.av, bG, bC, List.getD_cons_zero]; (repeat refine And.intro (by first | omega | assumption | exact rfl) ?_); refine Y _ ?_; clear Y K0; simp only [put, app, a9, af, zE, zS, E])
  (refine ad rfl fun K0 Y => ?_; simp only [zE, op1, ev, lkp, ah, ag, bt, reduceCtorEq, G, E, J, V, M, U, Tryd.td4, Mpr.av, Mly.av, bG, bC, List.getD_cons_zero]; refine Y _ ?_; clear Y K0; simp only [put, app, a9, af, zE, zS, E])
  refine ai ?_
  refine ⟨by simp only [Z, lkp, zE, reduceCtorEq, G, a8, E]; exact rfl, rfl, ?_, rfl⟩; (repeat refine aZ rfl ?_); exact bz (by exact rfl) hq16
 case b16 => exact bv (by first | rfl | (simp [bV]; done) | decide)
 simp only [bj, bg]
 (refine ad rfl fun K0 Y => ?_; simp only [zE, op1, ev, lkp, ah, ag, ev, reduceCtorEq, G, E, J, V, M, U, Tryd.td4, Mpr.av, Mly.av, bG, bC, List.getD_cons_zero]; refine Y _ ?_; clear Y K0; simp only [put, app, a9, af, zE, zS, E])
 refine' aY (want := false) 2 rfl (m := 94) (by simp only [Z, lkp, zE, reduceCtorEq, G, a8, E]; exact rfl) (by kernel_rfl) rfl rfl rfl rfl rfl (fun hg17 => ?a17) ?b17 ?c17
 case a17 =>
  have hq17 := hg17; (try simp only [zB, reduceCtorEq] at hg17); simp only [List.take_succ_cons, List.take_zero, List.cons_append, List.nil_append]
  (refine ar rfl fun K0 Y => ?_; simp only [zE, op1, ev, lkp, ah, ag, ev, reduceCtorEq, G, E, J, V, M, U, Tryd.td4, Mpr.av, Mly.av, bG, bC, List.getD_cons_zero]; refine Y _ ?_; clear Y K0; simp only [put, app, a9, af, zE, zS, E])
  (refine ar rfl fun K0 Y => ?_; simp only [zE, op1, ev, lkp, ah, ag, dR, reduceCtorEq, G, E, J, V, M, U, Tryd.td4, Mpr.av, Mly.av, bG, bC, List.getD_cons_zero]; (repeat refine And.intro (by first | omega | assumption | exact rfl) ?_); refine Y _ ?_; clear Y K0; simp only [put, app, a9, af, zE, zS, E])
  (refine ad rfl fun K0 Y => ?_; simp only [zE, op1, ev, lkp, ah, ag, bt, reduceCtorEq, G, E, J, V, M, U, Tryd.td4, Mpr.av, Mly.av, bG, bC, List.getD_cons_zero]; refine Y _ ?_; clear Y K0; simp only [put, app, a9, af, zE, zS, E])
  refine ai ?_
  refine ⟨by simp only [Z, lkp, zE, reduceCtorEq, G, a8, E]; exact rfl, rfl, ?_, rfl⟩; (repeat refine aZ rfl ?_); exact bz (by exact rfl) hq17
 case b17 => exact bv (by first | rfl | (simp [bV]; done) | decide)
 simp only [bj, bg]
 (refine ad rfl fun K0 Y => ?_; simp only [zE, op1, ev, lkp, ah, ag, ev, reduceCtorEq, G, E, J, V, M, U, Tryd.td4, Mpr.av, Mly.av, bG, bC, List.getD_cons_zero]; refine Y _ ?_; clear Y K0; simp only [put, app, a9, af, zE, zS, E])
 refine' aY (want := false) 1 rfl (m := 98) (by simp only [Z, lkp, zE, reduceCtorEq, G, a8, E]; exact rfl) (by kernel_rfl) rfl rfl rfl rfl rfl (fun hg18 => ?a18) ?b18 ?c18
 case a18 =>
  have hq18 := hg18; (try simp only [zB, reduceCtorEq] at hg18); simp only [List.take_succ_cons, List.take_zero, List.cons_append, List.nil_append]
  (refine ar rfl fun K0 Y => ?_; simp only [zE, op1, ev, lkp, ah, ag, ev, reduceCtorEq, G, E, J, V, M, U, Tryd.td4, Mpr.av, Mly.av, bG, bC, List.getD_cons_zero]; refine Y _ ?_; clear Y K0; simp only [put, app, a9, af, zE, zS, E])
  (refine ad rfl fun K0 Y => ?_; simp only [zE, op1, ev, lkp, ah, ag, bt, reduceCtorEq, G, E, J, V, M, U, Tryd.td4, Mpr.av, Mly.av, bG, bC, List.getD_cons_zero]; refine Y _ ?_; clear Y K0; simp only [put, app, a9, af, zE, zS, E])
  refine ai ?_
  refine ⟨by simp only [Z, lkp, zE, reduceCtorEq, G, a8, E]; exact rfl, rfl, ?_, rfl⟩; (repeat refine aZ rfl ?_); exact bz (by exact rfl) hq18
 case b18 => exact bv (by first | rfl | (simp [bV]; done) | decide)
 simp only [bj, bg]
 (refine ad rfl fun K0 Y => ?_; simp only [zE, op1, ev, lkp, ah, ag, ev, reduceCtorEq, G, E, J, V, M, U, Tryd.td4, Mpr.av, Mly.av, bG, bC, List.getD_cons_zero]; refine Y _ ?_; clear Y K0; simp only [put, app, a9, af, zE, zS, E])
 refine' aY (want := false) 2 rfl (m := 101) (by simp only [Z, lkp, zE, reduceCtorEq, G, a8, E]; exact rfl) (by kernel_rfl) rfl rfl rfl rfl rfl (fun hg19 => ?a19) ?b19 ?c19
 case a19 =>
  have hq19 := hg19; (try simp only [zB, reduceCtorEq] at hg19); simp only [List.take_succ_cons, List.take_zero, List.cons_append, List.nil_append]
  (refine ar rfl fun K0 Y => ?_; simp only [zE, op1, ev, lkp, ah, ag, ev, reduceCtorEq, G, E, J, V, M, U, Tryd.td4, Mpr.av, Mly.av, bG, bC, List.getD_cons_zero]; refine Y _ ?_; clear Y K0; simp only [put, app, a9, af, zE, zS, E])
  (refine ar rfl fun K0 Y => ?_; simp only [zE, op1, ev, lkp, ah, ag, dR, reduceCtorEq, G, E, J, V, M, U, Tryd.td4, Mpr.av, Mly.av, bG, bC, List.getD_cons_zero]; (repeat refine And.intro (by first | omega | assumption | exact rfl) ?_); refine Y _ ?_; clear Y K0; simp only [put, app, a9, af, zE, zS, E])
  (refine ad rfl fun K0 Y => ?_; simp only [zE, op1, ev, lkp, ah, ag, bt, reduceCtorEq, G, E, J, V, M, U, Tryd.td4, Mpr.av, Mly.av, bG, bC, List.getD_cons_zero]; refine Y _ ?_; clear Y K0; simp only [put, app, a9, af, zE, zS, E])
  refine ai ?_
  refine ⟨by simp only [Z, lkp, zE, reduceCtorEq, G, a8, E]; exact rfl, rfl, ?_, rfl⟩; (repeat refine aZ rfl ?_); exact bz (by exact rfl) hq19
 case b19 => exact bv (by first | rfl | (simp [bV]; done) | decide)
 simp only [bj, bg]
 (refine ad rfl fun K0 Y => ?_; simp only [zE, op1, ev, lkp, ah, ag, ev, reduceCtorEq, G, E, J, V, M, U, Tryd.td4, Mpr.av, Mly.av, bG, bC, List.getD_cons_zero]; refine Y _ ?_; clear Y K0; simp only [put, app, a9, af, zE, zS, E])
 refine' aY (want := false) 3 rfl (m := 105) (by simp only [Z, lkp, zE, reduceCtorEq, G, a8, E]; exact rfl) (by kernel_rfl) rfl rfl rfl rfl rfl (fun hg20 => ?a20) ?b20 ?c20
 case a20 =>
  have hq20 := hg20; (try simp only [zB, reduceCtorEq] at hg20); simp only [List.take_succ_cons, List.take_zero, List.cons_append, List.nil_append]
  (refine ar rfl fun K0 Y => ?_; simp only [zE, op1, ev, lkp, ah, ag, am, reduceCtorEq, G, E, J, V, M, U, Tryd.st24, Tryd.td1, Tryd.td24, Mpr.av, Mly.av, bG, bC, List.getD_cons_zero]; (repeat refine And.intro (by first | omega | assumption | exact rfl) ?_); refine Y _ ?_; clear Y K0; simp only [put, app, a9, af, zE, zS, E])
  (refine ar rfl fun K0 Y => ?_; simp only [zE, op1, ev, lkp, ah, ag, ay, Nat.mul_one, aw, ax, acs, Ty.dflt, zG, aq, reduceCtorEq, G, E, J, V, M, U, Tryd.td3, Mpr.av, Mly.av, bG, bC, List.getD_cons_zero]; (repeat refine And.intro (by first | omega | assumption | exact rfl) ?_); refine Y _ ?_; clear Y K0; simp only [put, app, a9, af, zE, zS, E])
  (refine ar rfl fun K0 Y => ?_; simp only [zE, op1, ev, lkp, ah, ag, aC, aD, aE, ao, aB, aR, reduceCtorEq, G, E, J, V, M, U, Tryd.td3, Tryd.td4, Mpr.av, Mly.av, bG, bC, List.getD_cons_zero]; (repeat refine And.intro (by first | omega | assumption | exact rfl) ?_); refine Y _ ?_; clear Y K0; simp only [put, app, a9, af, zE, zS, E])
  (refine ad rfl fun K0 Y => ?_; simp only [zE, op1, ev, lkp, ah, ag, bt, reduceCtorEq, G, E, J, V, M, U, Tryd.td4, Mpr.av, Mly.av, bG, bC, List.getD_cons_zero]; refine Y _ ?_; clear Y K0; simp only [put, app, a9, af, zE, zS, E])
  refine ai ?_
  refine ⟨by simp only [Z, lkp, zE, reduceCtorEq, G, a8, E]; exact rfl, rfl, ?_, rfl⟩; (repeat refine aZ rfl ?_); exact bz (by exact rfl) hq20
 case b20 => exact bv (by first | rfl | (simp [bV]; done) | decide)
 simp only [bj, bg]
 refine ai ?_
 refine hK11 _ ?_; clear hK11; refine ae [0, 1, 2, 4, 5, 6, 7, 8, 9, 10, 13, 14, 15, 16, 17, 19, 20, 109] ?_; simp only [Z, lkp, zE, reduceCtorEq, G, a8, E]
 refine aG (by simp only [ev, Z, lkp, zE, reduceCtorEq, G, a8, E]; exact rfl) (fun hc21 => ?_) (fun hc21 => ?_)
 ·exfalso; (try simp only [zB, reduceCtorEq] at hc21)
  revert hc21; decide +kernel
 ·(try simp only [zB, reduceCtorEq] at hc21)
  refine aJ ?_
  refine hK10 _ ?_; clear hK10; refine ae [0, 1, 2, 4, 5, 6, 7, 8, 9, 10, 13, 14, 15, 16, 17, 19, 20, 109] ?_; simp only [Z, lkp, zE, reduceCtorEq, G, a8, E]
  refine aa fun K22 hK22 => ?_
  refine aj hP hN rfl ?_
  iterate 2 (refine ad rfl fun K0 Y => ?_; simp only [zE, op1, ev, lkp, ah, ag, aV, b9, bJ, rep, aL, aQ, au, Ty.size, reduceCtorEq, G, E, J, V, M, U, Tryd.el25, Tryd.td25, Tryd.td3, Mpr.av, Mly.av, bG, bC, List.getD_cons_zero]; (repeat refine And.intro (by first | omega | assumption | exact rfl) ?_); (first | refine Y _ ?_ | refine Or.inl (Y _ ?_)); clear Y K0; simp only [put, app, a9, af, zE, zS, E])
  refine ad rfl fun K0 Y => ?_
  refine bc (h := aU (ja (abV (dy [0, 1, 0]) [2, 1, 0]) [0, 1, 0])) rfl rfl (by first | exact rfl | (simp only [ev, Z, lkp, zE, reduceCtorEq, G, a8, E]; exact rfl)) (by simp only [zE, zG, op1, ev, lkp, ah, ag, au, acs, br, mv1, mvC, Ty.dflt, reduceCtorEq, G, E, J, V, M, U, Mpr.av, Mly.av, bG, bC, List.getD_cons_zero]) ?_
  refine Y _ ?_; clear Y K0; simp only [put, app, a9, af, zE, zS, E]
  (refine ad rfl fun K0 Y => ?_; simp only [zE, op1, ev, lkp, ah, ag, ev, reduceCtorEq, G, E, J, V, M, U, Tryd.td4, Mpr.av, Mly.av, bG, bC, List.getD_cons_zero]; refine Y _ ?_; clear Y K0; simp only [put, app, a9, af, zE, zS, E])
  refine' aY (want := true) 3 rfl (m := 113) (by simp only [Z, lkp, zE, reduceCtorEq, G, a8, E]; exact rfl) (by kernel_rfl) rfl rfl rfl rfl rfl (fun hg23 => ?a23) ?b23 ?c23
  case a23 =>
   have hq23 := hg23; (try simp only [zB, reduceCtorEq] at hg23); simp only [List.take_succ_cons, List.take_zero, List.cons_append, List.nil_append]
   (refine ar rfl fun K0 Y => ?_; simp only [zE, op1, ev, lkp, ah, ag, ev, reduceCtorEq, G, E, J, V, M, U, Tryd.el25, Tryd.td25, Mpr.av, Mly.av, bG, bC, List.getD_cons_zero]; refine Y _ ?_; clear Y K0; simp only [put, app, a9, af, zE, zS, E])
   (refine ar rfl fun K0 Y => ?_; simp only [zE, op1, ev, lkp, ah, ag, aV, b9, bJ, rep, aL, aQ, au, Ty.size, reduceCtorEq, G, E, J, V, M, U, Tryd.el25, Tryd.td25, Tryd.td3, Mpr.av, Mly.av, bG, bC, List.getD_cons_zero]; (repeat refine And.intro (by first | omega | assumption | exact rfl) ?_); (first | refine Y _ ?_ | refine Or.inl (Y _ ?_)); clear Y K0; simp only [put, app, a9, af, zE, zS, E])
   refine ar rfl fun K0 Y => ?_
   refine bc (h := aU (ja (pcW (dy [0, 1, 0]) [0, 1, 0]) [0, 1, 0])) rfl rfl (by first | exact rfl | (simp only [ev, Z, lkp, zE, reduceCtorEq, G, a8, E]; exact rfl)) (by simp only [zE, zG, op1, ev, lkp, ah, ag, au, acs, br, mv1, mvC, Ty.dflt, reduceCtorEq, G, E, J, V, M, U, Mpr.av, Mly.av, bG, bC, List.getD_cons_zero]) ?_
   refine Y _ ?_; clear Y K0; simp only [put, app, a9, af, zE, zS, E]
   (refine ad rfl fun K0 Y => ?_; simp only [zE, op1, ev, lkp, ah, ag, bt, reduceCtorEq, G, E, J, V, M, U, Tryd.td4, Mpr.av, Mly.av, bG, bC, List.getD_cons_zero]; refine Y _ ?_; clear Y K0; simp only [put, app, a9, af, zE, zS, E])
   refine ai ?_
   refine ⟨by simp only [Z, lkp, zE, reduceCtorEq, G, a8, E]; exact rfl, rfl, ?_, rfl⟩; (repeat refine aZ rfl ?_); exact bz (by exact rfl) hq23
  case b23 => exact bv (by first | rfl | (simp [bV]; done) | decide)
  simp only [bj, bg]
  (refine ad rfl fun K0 Y => ?_; simp only [zE, op1, ev, lkp, ah, ag, ev, reduceCtorEq, G, E, J, V, M, U, Tryd.td4, Mpr.av, Mly.av, bG, bC, List.getD_cons_zero]; refine Y _ ?_; clear Y K0; simp only [put, app, a9, af, zE, zS, E])
  refine' aY (want := true) 4 rfl (m := 118) (by simp only [Z, lkp, zE, reduceCtorEq, G, a8, E]; exact rfl) (by kernel_rfl) rfl rfl rfl rfl rfl (fun hg24 => ?a24) ?b24 ?c24
  case a24 =>
   have hq24 := hg24; (try simp only [zB, reduceCtorEq] at hg24); simp only [List.take_succ_cons, List.take_zero, List.cons_append, List.nil_append]
   (refine ar rfl fun K0 Y => ?_; simp only [zE, op1, ev, lkp, ah, ag, ay, Nat.mul_one, aw, ax, acs, Ty.dflt, zG, aq, reduceCtorEq, G, E, J, V, M, U, Tryd.st50, Tryd.td50, Mpr.av, Mly.av, bG, bC, List.getD_cons_zero]; (repeat refine And.intro (by first | omega | assumption | exact rfl) ?_); refine Y _ ?_; clear Y K0; simp only [put, app, a9, af, zE, zS, E])
   (refine ar rfl fun K0 Y => ?_; simp only [zE, op1, ev, lkp, ah, ag, aV, b9, bJ, rep, aL, aQ, au, Ty.size, reduceCtorEq, G, E, J, V, M, U, Tryd.el25, Tryd.td1, Tryd.td25, Mpr.av, Mly.av, bG, bC, List.getD_cons_zero]; (repeat refine And.intro (by first | omega | assumption | exact rfl) ?_); (first | refine Y _ ?_ | refine Or.inl (Y _ ?_)); clear Y K0; simp only [put, app, a9, af, zE, zS, E])
   (refine ar rfl fun K0 Y => ?_; simp only [zE, op1, ev, lkp, ah, ag, c9, b9, aQ, au, reduceCtorEq, G, E, J, V, M, U, Tryd.st50, Tryd.td50, Mpr.av, Mly.av, bG, bC, List.getD_cons_zero]; (repeat refine And.intro (by first | omega | assumption | exact rfl) ?_); (first | refine Y _ ?_ | refine Or.inl (Y _ ?_)); clear Y K0; simp only [put, app, a9, af, zE, zS, E])
   refine ar rfl fun K0 Y => ?_
   refine bc (h := aU (kU [0] 1 2 [0] 1 2)) rfl rfl (by first | exact rfl | (simp only [ev, Z, lkp, zE, reduceCtorEq, G, a8, E]; exact rfl)) (by simp only [zE, zG, op1, ev, lkp, ah, ag, au, acs, br, mv1, mvC, Ty.dflt, reduceCtorEq, G, E, J, V, M, U, Mpr.av, Mly.av, bG, bC, List.getD_cons_zero]) ?_
   refine Y _ ?_; clear Y K0; simp only [put, app, a9, af, zE, zS, E]
   (refine ad rfl fun K0 Y => ?_; simp only [zE, op1, ev, lkp, ah, ag, bt, reduceCtorEq, G, E, J, V, M, U, Tryd.td4, Mpr.av, Mly.av, bG, bC, List.getD_cons_zero]; refine Y _ ?_; clear Y K0; simp only [put, app, a9, af, zE, zS, E])
   refine ai ?_
   refine ⟨by simp only [Z, lkp, zE, reduceCtorEq, G, a8, E]; exact rfl, rfl, ?_, rfl⟩; (repeat refine aZ rfl ?_); exact bz (by exact rfl) hq24
  case b24 => exact bv (by first | rfl | (simp [bV]; done) | decide)
  simp only [bj, bg]
  (refine ad rfl fun K0 Y => ?_; simp only [zE, op1, ev, lkp, ah, ag, ev, reduceCtorEq, G, E, J, V, M, U, Tryd.td4, Mpr.av, Mly.av, bG, bC, List.getD_cons_zero]; refine Y _ ?_; clear Y K0; simp only [put, app, a9, af, zE, zS, E])
  refine' aY (want := true) 9 rfl (m := 124) (by simp only [Z, lkp, zE, reduceCtorEq, G, a8, E]; exact rfl) (by kernel_rfl) rfl rfl rfl rfl rfl (fun hg25 => ?a25) ?b25 ?c25
  case a25 =>
   have hq25 := hg25; (try simp only [zB, reduceCtorEq] at hg25); simp only [List.take_succ_cons, List.take_zero, List.cons_append, List.nil_append]
   (refine ar rfl fun K0 Y => ?_; simp only [zE, op1, ev, lkp, ah, ag, ay, Nat.mul_one, aw, ax, acs, Ty.dflt, zG, aq, reduceCtorEq, G, E, J, V, M, U, Tryd.st47, Tryd.td47, Mpr.av, Mly.av, bG, bC, List.getD_cons_zero]; (repeat refine And.intro (by first | omega | assumption | exact rfl) ?_); refine Y _ ?_; clear Y K0; simp only [put, app, a9, af, zE, zS, E])
   (refine ar rfl fun K0 Y => ?_; simp only [zE, op1, ev, lkp, ah, ag, aV, b9, bJ, rep, aL, aQ, au, Ty.size, reduceCtorEq, G, E, J, V, M, U, Tryd.el25, Tryd.td2, Tryd.td25, Mpr.av, Mly.av, bG, bC, List.getD_cons_zero]; (repeat refine And.intro (by first | omega | assumption | exact rfl) ?_); (first | refine Y _ ?_ | refine Or.inl (Y _ ?_)); clear Y K0; simp only [put, app, a9, af, zE, zS, E])
   (refine ar rfl fun K0 Y => ?_; simp only [zE, op1, ev, lkp, ah, ag, aV, b9, bJ, rep, aL, aQ, au, Ty.size, reduceCtorEq, G, E, J, V, M, U, Tryd.el25, Tryd.td2, Tryd.td25, Mpr.av, Mly.av, bG, bC, List.getD_cons_zero]; (repeat refine And.intro (by first | omega | assumption | exact rfl) ?_); (first | refine Y _ ?_ | refine Or.inl (Y _ ?_)); clear Y K0; simp only [put, app, a9, af, zE, zS, E])
   (refine ar rfl fun K0 Y => ?_; simp only [zE, op1, ev, lkp, ah, ag, aV, b9, bJ, rep, aL, aQ, au, Ty.size, reduceCtorEq, G, E, J, V, M, U, Tryd.el22, Tryd.td2, Tryd.td22, Mpr.av, Mly.av, bG, bC, List.getD_cons_zero]; (repeat refine And.intro (by first | omega | assumption | exact rfl) ?_); (first | refine Y _ ?_ | refine Or.inl (Y _ ?_)); clear Y K0; simp only [put, app, a9, af, zE, zS, E])
   (refine ar rfl fun K0 Y => ?_; simp only [zE, op1, ev, lkp, ah, ag, aV, b9, bJ, rep, aL, aQ, au, Ty.size, reduceCtorEq, G, E, J, V, M, U, Tryd.el25, Tryd.td2, Tryd.td25, Mpr.av, Mly.av, bG, bC, List.getD_cons_zero]; (repeat refine And.intro (by first | omega | assumption | exact rfl) ?_); (first | refine Y _ ?_ | refine Or.inl (Y _ ?_)); clear Y K0; simp only [put, app, a9, af, zE, zS, E])
   (refine ar rfl fun K0 Y => ?_; simp only [zE, op1, ev, lkp, ah, ag, aV, b9, bJ, rep, aL, aQ, au, Ty.size, reduceCtorEq, G, E, J, V, M, U, Tryd.el25, Tryd.td2, Tryd.td25, Mpr.av, Mly.av, bG, bC, List.getD_cons_zero]; (repeat refine And.intro (by first | omega | assumption | exact rfl) ?_); (first | refine Y _ ?_ | refine Or.inl (Y _ ?_)); clear Y K0; simp only [put, app, a9, af, zE, zS, E])
   (refine ar rfl fun K0 Y => ?_; simp only [zE, op1, ev, lkp, ah, ag, aV, b9, bJ, rep, aL, aQ, au, Ty.size, reduceCtorEq, G, E, J, V, M, U, Tryd.el22, Tryd.td2, Tryd.td22, Mpr.av, Mly.av, bG, bC, List.getD_cons_zero]; (repeat refine And.intro (by first | omega | assumption | exact rfl) ?_); (first | refine Y _ ?_ | refine Or.inl (Y _ ?_)); clear Y K0; simp only [put, app, a9, af, zE, zS, E])
   (refine ar rfl fun K0 Y => ?_; simp only [zE, op1, ev, lkp, ah, ag, c9, b9, aQ, au, reduceCtorEq, G, E, J, V, M, U, Tryd.st47, Tryd.td47, Mpr.av, Mly.av, bG, bC, List.getD_cons_zero]; (repeat refine And.intro (by first | omega | assumption | exact rfl) ?_); (first | refine Y _ ?_ | refine Or.inl (Y _ ?_)); clear Y K0; simp only [put, app, a9, af, zE, zS, E])
   refine ar rfl fun K0 Y => ?_
   refine bc (h := aU (lU ⟨2, 0, [[1, 0], [0, 1]], [[2, 1], [3, 2]]⟩ ⟨2, 0, [[1, 0], [0, 1]], [[2, 1], [3, 2]]⟩)) rfl rfl (by first | exact rfl | (simp only [ev, Z, lkp, zE, reduceCtorEq, G, a8, E]; exact rfl)) (by simp only [zE, zG, op1, ev, lkp, ah, ag, au, acs, br, mv1, mvC, Ty.dflt, reduceCtorEq, G, E, J, V, M, U, Mpr.av, Mly.av, bG, bC, List.getD_cons_zero]) ?_
   refine Y _ ?_; clear Y K0; simp only [put, app, a9, af, zE, zS, E]
   (refine ad rfl fun K0 Y => ?_; simp only [zE, op1, ev, lkp, ah, ag, bt, reduceCtorEq, G, E, J, V, M, U, Tryd.td4, Mpr.av, Mly.av, bG, bC, List.getD_cons_zero]; refine Y _ ?_; clear Y K0; simp only [put, app, a9, af, zE, zS, E])
   refine ai ?_
   refine ⟨by simp only [Z, lkp, zE, reduceCtorEq, G, a8, E]; exact rfl, rfl, ?_, rfl⟩; (repeat refine aZ rfl ?_); exact bz (by exact rfl) hq25
  case b25 => exact bv (by first | rfl | (simp [bV]; done) | decide)
  simp only [bj, bg]
  (refine ad rfl fun K0 Y => ?_; simp only [zE, op1, ev, lkp, ah, ag, ev, reduceCtorEq, G, E, J, V, M, U, Tryd.td4, Mpr.av, Mly.av, bG, bC, List.getD_cons_zero]; refine Y _ ?_; clear Y K0; simp only [put, app, a9, af, zE, zS, E])
  refine ai ?_
  refine hK22 _ ?_; clear hK22; refine ae [0, 1, 2, 4, 5, 6, 7, 8, 9, 10, 13, 14, 15, 16, 17, 19, 20, 109] ?_; simp only [Z, lkp, zE, reduceCtorEq, G, a8, E]
  refine aP ?_
  refine ⟨by first | exact .inl rfl | exact .inr rfl, _, rfl, ?_⟩; simp only [fzV, fz1, fzC, List.map_cons, List.map_nil, Z, lkp, zE, reduceCtorEq, G, a8, E, Mpr.av, Mly.av, bG, bC, List.getD_cons_zero]
  refine VLE.of_eq ?_
  refine congrArg (fun b => AV.one (AC.bool b)) ?_
  decide +kernel
end Go.Proofs.YtgmgnkmgofkfpaaDoor
namespace Go.AV
open Nat renaming reduceEqDiff → G, reduceAdd → E, reduceLeDiff → J, reduceLT → V, reduceMul → M, reduceSub → U
open List renaming set_cons_zero → aA, set_cons_succ → az
/-plain-/
/-! On mapTh. -/
def p6 (a b : Mpr) : Bool := decide (a.inp = b.inp) && decide (a.ab = b.ab) && decide (a.st = b.st) && decide (a.nx = b.nx) && decide (a.sy = b.sy)
theorem eD (a : Mpr) : p6 a a = true := by simp [p6]
end Go.AV
namespace Go.Proofs.YtgmgnkmgofkfpaaDoor
open Go Go.AV
open Nat renaming reduceEqDiff → G, reduceAdd → E, reduceLeDiff → J, reduceLT → V, reduceMul → M, reduceSub → U
open List renaming set_cons_zero → aA, set_cons_succ → az
set_option maxRecDepth 100000 in
theorem qV (ls : List (List Int)) (hb : ls.flatten.length ≤ 1000000) : ch Tryd.prog 32 [.one (.list (.list (.int .i64)) ls)] (.one (.list (.int .i64) ls.flatten)) := by
 refine bp Tryd.func32 rfl (by kernel_rfl) (Nat.le_of_ble_eq_true rfl) rfl fun C hP hN hB => ?_
 replace hN : C.N = 18 := hN
 simp only [a8, E]
 refine gX 0 rfl fun hf0 => ?_; simp only [lkp, if_true, if_false, reduceCtorEq, G, eq_self, Nat.one_ne_zero, Nat.zero_ne_one, kA, jR, jo, Fit, and_true, implies_true, true_and] at hf0
 refine aa fun K1 hK1 => ?_
 refine aj hP hN rfl ?_
 (refine ad rfl fun K0 Y => ?_; simp only [zE, op1, ev, lkp, ah, ag, ev, reduceCtorEq, G, E, J, V, M, U, Tryd.el25, Tryd.td25]; refine Y _ ?_; clear Y K0; simp only [put, app, a9, af, zE, zS, E])
 refine ai ?_
 refine hK1 _ ?_; clear hK1; refine ae [0, 2] ?_; simp only [Z, lkp, zE, reduceCtorEq, G, a8, E]
 refine aa fun K2 hK2 => ?_
 refine aj hP hN rfl ?_
 (refine ad rfl fun K0 Y => ?_; simp only [zE, op1, ev, lkp, ah, ag, ev, reduceCtorEq, G, E, J, V, M, U, Tryd.el25, Tryd.td25]; refine Y _ ?_; clear Y K0; simp only [put, app, a9, af, zE, zS, E])
 refine ai ?_
 refine hK2 _ ?_; clear hK2; refine ae [0, 2, 3] ?_; simp only [Z, lkp, zE, reduceCtorEq, G, a8, E]
 refine aa fun K3 hK3 => ?_
 refine aa fun K4 hK4 => ?_
 refine aj hP hN rfl ?_
 (refine ad rfl fun K0 Y => ?_; simp only [zE, op1, ev, lkp, ah, ag, ev, reduceCtorEq, G, E, J, V, M, U, Tryd.td3]; refine Y _ ?_; clear Y K0; simp only [put, app, a9, af, zE, zS, E])
 refine ai ?_
 refine hK4 _ ?_; clear hK4; refine ae [0, 2, 3, 4] ?_; simp only [Z, lkp, zE, reduceCtorEq, G, a8, E]
 refine aW ?_
 refine cL 3 (.int .i64) 3 (by decide) rfl ?_; simp only [List.length_cons, List.length_nil, List.cons_append, List.nil_append, Nat.zero_add, E]
 refine bM (fun n5 s5 => ∃ (k : Nat) (v : Nat), (k ≤ ls.length) ∧ n5 = ls.length - k ∧ s5 = { env := [(0, .one (.list (.list (.int .i64)) ls)), (3, .one (.row 0 v)), (4, .one (.int .i64 (k : Int)))], L := [.row (.int .i64) 3 v (ls.take k).flatten] }) ?_ ?_
 ·exact ⟨_, _, aS [0, 3, 4], 0, 0, Nat.zero_le _, rfl, rfl⟩
 ·rintro n5 s5 ⟨k, v, hk, rfl, rfl⟩
  refine aa fun K6 hK6 => ?_
  refine aa fun K7 hK7 => ?_
  refine aj hP hN rfl ?_
  iterate 4 (refine ad rfl fun K0 Y => ?_; simp only [zE, op1, ev, lkp, ah, ag, aF, bu, bh, ba, bb, bq, Nat.div_one, aK, bf, Ty.size, aL, dite_true, aC, aD, aE, ao, aB, aR, reduceCtorEq, G, E, J, V, M, U, Tryd.el22, Tryd.td22, Tryd.td3, Tryd.td4]; (repeat refine And.intro (by first | omega | assumption | exact rfl) ?_); (first | refine Y _ ?_ | refine Or.inl (Y _ ?_)); clear Y K0; simp only [put, app, a9, af, zE, zS, E])
  refine ai ?_
  refine hK7 _ ?_; clear hK7; refine ae [0, 3, 4, 8] ?_; simp only [Z, lkp, zE, reduceCtorEq, G, a8, E]
  refine aG (by simp only [ev, Z, lkp, zE, reduceCtorEq, G, a8, E]; exact rfl) (fun hc8 => ?_) (fun hc8 => ?_)
  ·(try simp only [zB, reduceCtorEq] at hc8)
   refine aJ ?_
   refine hK6 _ ?_; clear hK6; refine ae [0, 3, 4, 8] ?_; simp only [Z, lkp, zE, reduceCtorEq, G, a8, E]
   refine aa fun K9 hK9 => ?_
   refine aW ?_
   have hfl := dH ls (k + 1); rw [cX ls (by omega), List.length_append] at hfl
   refine aj hP hN rfl ?_
   iterate 7 (refine ad rfl fun K0 Y => ?_; simp only [zE, op1, ev, lkp, ah, ag, aI, zG, Ty.dflt, Ty.size, Nat.mul_one, ne_eq, not_false_eq_true, Int.natCast_one, Int.mul_one, ay, aw, ax, acs, aq, aF, bu, bh, ba, bb, bq, Nat.div_one, aK, bf, aL, dite_true, reduceCtorEq, G, E, J, V, M, U, Tryd.el22, Tryd.el25, Tryd.td22, Tryd.td25, Tryd.td3]; (repeat refine And.intro (by first | omega | assumption | exact rfl) ?_); (first | refine Y _ ?_ | refine Or.inl (Y _ ?_)); clear Y K0; simp only [put, app, a9, af, zE, zS, E])
   refine ai ?_
   refine hK9 _ ?_; clear hK9; refine ae [0, 3, 4, 8] ?_; simp only [Z, lkp, zE, reduceCtorEq, G, a8, E]
   refine aj hP hN rfl ?_
   iterate 3 (refine ad rfl fun K0 Y => ?_; simp only [zE, op1, ev, lkp, ah, ag, aC, aD, aE, ao, aB, aR, reduceCtorEq, G, E, J, V, M, U, Tryd.td3]; (repeat refine And.intro (by first | omega | assumption | exact rfl) ?_); refine Y _ ?_; clear Y K0; simp only [put, app, a9, af, zE, zS, E])
   refine ai ?_
   refine ⟨_, _, ?_, aS [0, 3, 4], k + 1, v + 1, by omega, rfl, ?_⟩
   · omega
   · rw [cX ls (by omega)]; rfl
  ·(try simp only [zB, reduceCtorEq] at hc8)
   refine bK ?_
   refine hK3 _ ?_; clear hK3; refine ae [0, 3, 4, 8] ?_; simp only [Z, lkp, zE, reduceCtorEq, G, a8, E]
   refine aa fun K10 hK10 => ?_
   refine aj hP hN rfl ?_
   iterate 2 (refine ad rfl fun K0 Y => ?_; simp only [zE, op1, ev, lkp, ah, ag, ev, reduceCtorEq, G, E, J, V, M, U, Tryd.el25, Tryd.td25]; refine Y _ ?_; clear Y K0; simp only [put, app, a9, af, zE, zS, E])
   refine ai ?_
   refine hK10 _ ?_; clear hK10; refine ae [0, 2, 3, 4, 8] ?_; simp only [Z, lkp, zE, reduceCtorEq, G, a8, E]
   refine aP ?_
   refine ⟨by first | exact .inl rfl | exact .inr rfl, _, rfl, ?_⟩; simp only [fzV, fz1, fzC, List.map_cons, List.map_nil, Z, lkp, zE, reduceCtorEq, G, a8, E]
   refine VLE.of_eq ?_
   have htk : ls.take k = ls := by rw [show k = ls.length by omega, List.take_length]
   rw [htk]; try simp
end Go.Proofs.YtgmgnkmgofkfpaaDoor
namespace Go.Proofs.YtgmgnkmgofkfpaaDoor
open Go Go.AV
open Nat renaming reduceEqDiff → G, reduceAdd → E, reduceLeDiff → J, reduceLT → V, reduceMul → M, reduceSub → U
open List renaming set_cons_zero → aA, set_cons_succ → az
set_option maxRecDepth 100000 in
theorem nY (l : List Int) (n : Int) (hl : l.Pairwise (· < ·)) (hb : l.length ≤ 10000000) : ch Tryd.prog 58 [.one (.list (.int .i64) l), .one (.int .i64 n)] (.one (.list (.int .i64) (dS l n))) := by
 refine bp Tryd.func58 rfl (by kernel_rfl) (Nat.le_of_ble_eq_true rfl) rfl fun C hP hN hB => ?_
 replace hN : C.N = 49 := hN
 simp only [a8, E]
 refine aa fun K1 hK1 => ?_
 refine aj hP hN rfl ?_
 (refine ad rfl fun K0 Y => ?_; simp only [zE, op1, ev, lkp, ah, ag, ev, reduceCtorEq, G, E, J, V, M, U, Tryd.el25, Tryd.td25]; refine Y _ ?_; clear Y K0; simp only [put, app, a9, af, zE, zS, E])
 refine ai ?_
 refine hK1 _ ?_; clear hK1; refine ae [0, 1, 4] ?_; simp only [Z, lkp, zE, reduceCtorEq, G, a8, E]
 refine aa fun K2 hK2 => ?_
 refine aj hP hN rfl ?_
 (refine ad rfl fun K0 Y => ?_; simp only [zE, op1, ev, lkp, ah, ag, ev, reduceCtorEq, G, E, J, V, M, U, Tryd.el25, Tryd.td25]; refine Y _ ?_; clear Y K0; simp only [put, app, a9, af, zE, zS, E])
 refine ai ?_
 refine hK2 _ ?_; clear hK2; refine ae [0, 1, 4, 5] ?_; simp only [Z, lkp, zE, reduceCtorEq, G, a8, E]
 refine aa fun K3 hK3 => ?_
 refine aj hP hN rfl ?_
 (refine ad rfl fun K0 Y => ?_; simp only [zE, op1, ev, lkp, ah, ag, ev, reduceCtorEq, G, E, J, V, M, U, Tryd.td4]; refine Y _ ?_; clear Y K0; simp only [put, app, a9, af, zE, zS, E])
 refine ai ?_
 refine hK3 _ ?_; clear hK3; refine ae [0, 1, 4, 5, 6] ?_; simp only [Z, lkp, zE, reduceCtorEq, G, a8, E]
 refine aa fun K4 hK4 => ?_
 refine aa fun K5 hK5 => ?_
 refine aj hP hN rfl ?_
 (refine ad rfl fun K0 Y => ?_; simp only [zE, op1, ev, lkp, ah, ag, ev, reduceCtorEq, G, E, J, V, M, U, Tryd.td3]; refine Y _ ?_; clear Y K0; simp only [put, app, a9, af, zE, zS, E])
 refine ai ?_
 refine hK5 _ ?_; clear hK5; refine ae [0, 1, 4, 5, 6, 7] ?_; simp only [Z, lkp, zE, reduceCtorEq, G, a8, E]
 refine aW ?_
 refine cL 5 (.int .i64) 3 (by decide) rfl ?_; simp only [List.length_cons, List.length_nil, List.cons_append, List.nil_append, Nat.zero_add, E]
 refine bM (fun n6 s6 => ∃ (k : Nat) (v : Nat), (k ≤ l.length) ∧ ((cR l n k).length ≤ k + 1) ∧ (∀ j, j < k → l.getD j 0 ≠ n) ∧ n6 = l.length - k ∧ s6 = { env := [(0, .one (.list (.int .i64) l)), (1, .one (.int .i64 n)), (4, .one .nils), (5, .one (.row 0 v)), (6, .one (.bool (cp l n k))), (7, .one (.int .i64 (k : Int)))], L := [.row (.int .i64) 3 v (cR l n k)] }) ?_ ?_
 ·refine ⟨_, _, aS [0, 1, 4, 5, 6, 7], 0, 0, Nat.zero_le _, by simp [cR, cp], fun j hj => by omega, rfl, ?_⟩
  rw [show cp l n 0 = false from rfl, show cR l n 0 = [] by simp [cR, cp]]; rfl
 ·rintro n6 s6 ⟨k, v, hk, hvl0, hno, rfl, rfl⟩
  refine aa fun K7 hK7 => ?_
  refine aa fun K8 hK8 => ?_
  refine aj hP hN rfl ?_
  iterate 4 (refine ad rfl fun K0 Y => ?_; simp only [zE, op1, ev, lkp, ah, ag, aF, bu, bh, ba, bb, bq, Nat.div_one, aK, bf, Ty.size, aL, dite_true, aC, aD, aE, ao, aB, aR, reduceCtorEq, G, E, J, V, M, U, Tryd.el25, Tryd.td25, Tryd.td3, Tryd.td4]; (repeat refine And.intro (by first | omega | assumption | exact rfl) ?_); (first | refine Y _ ?_ | refine Or.inl (Y _ ?_)); clear Y K0; simp only [put, app, a9, af, zE, zS, E])
  refine ai ?_
  refine hK8 _ ?_; clear hK8; refine ae [0, 1, 4, 5, 6, 7, 11] ?_; simp only [Z, lkp, zE, reduceCtorEq, G, a8, E]
  refine aG (by simp only [ev, Z, lkp, zE, reduceCtorEq, G, a8, E]; exact rfl) (fun hc9 => ?_) (fun hc9 => ?_)
  ·(try simp only [zB, reduceCtorEq] at hc9)
   refine aJ ?_
   refine hK7 _ ?_; clear hK7; refine ae [0, 1, 4, 5, 6, 7, 11] ?_; simp only [Z, lkp, zE, reduceCtorEq, G, a8, E]
   refine aa fun K10 hK10 => ?_
   refine aW ?_
   refine aa fun K11 hK11 => ?_
   refine aa fun K12 hK12 => ?_
   refine aj hP hN rfl ?_
   iterate 6 (refine ad rfl fun K0 Y => ?_; simp only [zE, op1, ev, lkp, ah, ag, aI, zG, Ty.dflt, Ty.size, Nat.mul_one, ne_eq, not_false_eq_true, Int.natCast_one, Int.mul_one, ay, aw, ax, acs, aq, aC, aD, aE, ao, aB, aR, reduceCtorEq, G, E, J, V, M, U, Tryd.el25, Tryd.td25, Tryd.td3, Tryd.td4]; (repeat refine And.intro (by first | omega | assumption | exact rfl) ?_); refine Y _ ?_; clear Y K0; simp only [put, app, a9, af, zE, zS, E])
   refine ai ?_
   refine hK12 _ ?_; clear hK12; refine ae [0, 1, 4, 5, 6, 7, 11, 19] ?_; simp only [Z, lkp, zE, reduceCtorEq, G, a8, E]
   refine aG (by simp only [ev, Z, lkp, zE, reduceCtorEq, G, a8, E]; exact rfl) (fun hc13 => ?_) (fun hc13 => ?_)
   ·(try simp only [zB, reduceCtorEq] at hc13)
    have hin : n ∈ l := by rw [← (show l.getD k 0 = n by omega)]; exact cJ (by omega)
    refine aa fun K14 hK14 => ?_
    refine aj hP hN rfl ?_
    iterate 2 (refine ad rfl fun K0 Y => ?_; simp only [zE, op1, ev, lkp, ah, ag, ev, reduceCtorEq, G, E, J, V, M, U, Tryd.el25, Tryd.td25]; refine Y _ ?_; clear Y K0; simp only [put, app, a9, af, zE, zS, E])
    refine ai ?_
    refine hK14 _ ?_; clear hK14; refine ae [0, 1, 4, 5, 6, 7, 11, 19] ?_; simp only [Z, lkp, zE, reduceCtorEq, G, a8, E]
    refine aP ?_
    refine ⟨by first | exact .inl rfl | exact .inr rfl, _, rfl, ?_⟩; simp only [fzV, fz1, fzC, List.map_cons, List.map_nil, Z, lkp, zE, reduceCtorEq, G, a8, E]
    refine VLE.of_eq ?_
    first
    | (rw [ef hin]; done)
    | (rw [dQ hnot (by rw [← hkl]; exact hA), ← hkl]; done)
    | (rw [dO hnot (by rw [← hkl]; exact hA), ← hkl]; done)
    | (rw [dQ hnot (by rw [← hkl]; exact hA), ← hkl]; rfl)
    | (rw [dO hnot (by rw [← hkl]; exact hA), ← hkl]; rfl)
   ·(try simp only [zB, reduceCtorEq] at hc13)
    have hnx : ∀ j, j < k + 1 → l.getD j 0 ≠ n := fun j hj => by
      by_cases e : j = k
      · rw [e]; omega
      · exact hno j (by omega)
    refine aJ ?_
    refine hK11 _ ?_; clear hK11; refine ae [0, 1, 4, 5, 6, 7, 11, 19] ?_; simp only [Z, lkp, zE, reduceCtorEq, G, a8, E]
    refine aa fun K15 hK15 => ?_
    refine aa fun K16 hK16 => ?_
    refine aj hP hN rfl ?_
    iterate 2 (refine ad rfl fun K0 Y => ?_; simp only [zE, op1, ev, lkp, ah, ag, dR, reduceCtorEq, G, E, J, V, M, U, Tryd.td4]; (repeat refine And.intro (by first | omega | assumption | exact rfl) ?_); refine Y _ ?_; clear Y K0; simp only [put, app, a9, af, zE, zS, E])
    (refine ad rfl fun K0 Y => ?_; simp only [zE, op1, ev, lkp, ah, ag, ev, reduceCtorEq, G, E, J, V, M, U, Tryd.td4]; refine Y _ ?_; clear Y K0; simp only [put, app, a9, af, zE, zS, E])
    refine' aY (want := true) 6 rfl (m := 23) (by simp only [Z, lkp, zE, reduceCtorEq, G, a8, E]; exact rfl) (by kernel_rfl) rfl rfl rfl rfl rfl (fun hg17 => ?a17) ?b17 ?c17
    case a17 =>
     have hq17 := hg17; (try simp only [zB, reduceCtorEq] at hg17); simp only [List.take_succ_cons, List.take_zero, List.cons_append, List.nil_append]
     (refine ar rfl fun K0 Y => ?_; simp only [zE, op1, ev, lkp, ah, ag, ev, reduceCtorEq, G, E, J, V, M, U, Tryd.td3]; refine Y _ ?_; clear Y K0; simp only [put, app, a9, af, zE, zS, E])
     (refine ar rfl fun K0 Y => ?_; simp only [zE, op1, ev, lkp, ah, ag, ev, reduceCtorEq, G, E, J, V, M, U, Tryd.el25, Tryd.td25]; refine Y _ ?_; clear Y K0; simp only [put, app, a9, af, zE, zS, E])
     (refine ar rfl fun K0 Y => ?_; simp only [zE, op1, ev, lkp, ah, ag, ev, reduceCtorEq, G, E, J, V, M, U, Tryd.td3]; refine Y _ ?_; clear Y K0; simp only [put, app, a9, af, zE, zS, E])
     (refine ar rfl fun K0 Y => ?_; simp only [zE, op1, ev, lkp, ah, ag, aI, zG, Ty.dflt, Ty.size, Nat.mul_one, ne_eq, not_false_eq_true, Int.natCast_one, Int.mul_one, reduceCtorEq, G, E, J, V, M, U, Tryd.el25, Tryd.td25]; (repeat refine And.intro (by first | omega | assumption | exact rfl) ?_); refine Y _ ?_; clear Y K0; simp only [put, app, a9, af, zE, zS, E])
     (refine ar rfl fun K0 Y => ?_; simp only [zE, op1, ev, lkp, ah, ag, ay, Nat.mul_one, aw, ax, acs, Ty.dflt, zG, aq, reduceCtorEq, G, E, J, V, M, U, Tryd.td3]; (repeat refine And.intro (by first | omega | assumption | exact rfl) ?_); refine Y _ ?_; clear Y K0; simp only [put, app, a9, af, zE, zS, E])
     (refine ar rfl fun K0 Y => ?_; simp only [zE, op1, ev, lkp, ah, ag, aC, aD, aE, ao, aB, aR, reduceCtorEq, G, E, J, V, M, U, Tryd.td3, Tryd.td4]; (repeat refine And.intro (by first | omega | assumption | exact rfl) ?_); refine Y _ ?_; clear Y K0; simp only [put, app, a9, af, zE, zS, E])
     (refine ad rfl fun K0 Y => ?_; simp only [zE, op1, ev, lkp, ah, ag, bt, reduceCtorEq, G, E, J, V, M, U, Tryd.td4]; refine Y _ ?_; clear Y K0; simp only [put, app, a9, af, zE, zS, E])
     refine ai ?_
     refine ⟨by simp only [Z, lkp, zE, reduceCtorEq, G, a8, E]; exact rfl, rfl, ?_, rfl⟩; (repeat refine aZ rfl ?_); exact bz (by exact rfl) hq17
    case b17 => exact bv (by first | rfl | (simp [bV]; done) | decide)
    simp only [bj, bg]
    refine ai ?_
    refine hK16 _ ?_; clear hK16; refine ae [0, 1, 4, 5, 6, 7, 11, 19, 30] ?_; simp only [Z, lkp, zE, reduceCtorEq, G, a8, E]
    refine aG (by simp only [ev, Z, lkp, zE, reduceCtorEq, G, a8, E]; exact rfl) (fun hc18 => ?_) (fun hc18 => ?_)
    ·(try simp only [zB, reduceCtorEq] at hc18)
     have hca : cp l n k = false ∧ n < l.getD k 0 := by simp_all
     refine aa fun K19 hK19 => ?_
     refine aj hP hN rfl ?_
     iterate 5 (refine ad rfl fun K0 Y => ?_; simp only [zE, op1, ev, lkp, ah, ag, aV, b9, bJ, rep, aL, aQ, au, Ty.size, aF, bu, bh, ba, bb, bq, Nat.div_one, aK, bf, dite_true, reduceCtorEq, G, E, J, V, M, U, Tryd.el25, Tryd.td1, Tryd.td25, Tryd.td3]; (repeat refine And.intro (by first | omega | assumption | exact rfl) ?_); (first | refine Y _ ?_ | refine Or.inl (Y _ ?_)); clear Y K0; simp only [put, app, a9, af, zE, zS, E])
     refine ai ?_
     refine hK19 _ ?_; clear hK19; refine ae [0, 1, 4, 5, 6, 7, 11, 19, 30] ?_; simp only [Z, lkp, zE, reduceCtorEq, G, a8, E]
     refine aj hP hN rfl ?_
     (refine ad rfl fun K0 Y => ?_; simp only [zE, op1, ev, lkp, ah, ag, ev, reduceCtorEq, G, E, J, V, M, U, Tryd.td4]; refine Y _ ?_; clear Y K0; simp only [put, app, a9, af, zE, zS, E])
     refine ai ?_
     refine hK15 _ ?_; clear hK15; refine ae [0, 1, 4, 5, 6, 7, 11, 19, 30] ?_; simp only [Z, lkp, zE, reduceCtorEq, G, a8, E]
     have hvl := cr l n (k := k) (by omega)
     refine aj hP hN rfl ?_
     iterate 8 (refine ad rfl fun K0 Y => ?_; simp only [zE, op1, ev, lkp, ah, ag, aI, zG, Ty.dflt, Ty.size, Nat.mul_one, ne_eq, not_false_eq_true, Int.natCast_one, Int.mul_one, ay, aw, ax, acs, aq, aV, b9, bJ, rep, aL, aQ, au, aF, bu, bh, ba, bb, bq, Nat.div_one, aK, bf, dite_true, reduceCtorEq, G, E, J, V, M, U, Tryd.el25, Tryd.td1, Tryd.td25, Tryd.td3, List.length_append, List.length_cons, List.length_nil]; (repeat refine And.intro (by first | omega | assumption | exact rfl) ?_); (first | refine Y _ ?_ | refine Or.inl (Y _ ?_)); clear Y K0; simp only [put, app, a9, af, zE, zS, E])
     refine ai ?_
     refine hK10 _ ?_; clear hK10; refine ae [0, 1, 4, 5, 6, 7, 11, 19, 30] ?_; simp only [Z, lkp, zE, reduceCtorEq, G, a8, E]
     refine aj hP hN rfl ?_
     iterate 3 (refine ad rfl fun K0 Y => ?_; simp only [zE, op1, ev, lkp, ah, ag, aC, aD, aE, ao, aB, aR, reduceCtorEq, G, E, J, V, M, U, Tryd.td3]; (repeat refine And.intro (by first | omega | assumption | exact rfl) ?_); refine Y _ ?_; clear Y K0; simp only [put, app, a9, af, zE, zS, E])
     refine ai ?_
     first
     | (obtain ⟨e1, e2⟩ := gc (by omega) hca.1 hca.2
        refine ⟨_, _, ?_, aS [0, 1, 4, 5, 6, 7], k + 1, v + 1 + 1, by omega, cr l n (by omega), hnx, rfl, ?_⟩
        · omega
        · rw [e1, e2]; rfl)
     | (rcases hcase with hA | hA
        · obtain ⟨e1, e2⟩ := f9 hl (by omega) hA
          refine ⟨_, _, ?_, aS [0, 1, 4, 5, 6, 7], k + 1, v + 1, by omega, cr l n (by omega), hnx, rfl, ?_⟩
          · omega
          · rw [e1, e2, hA]; rfl
        · obtain ⟨e1, e2⟩ := fZ (by omega) hA.1 hA.2
          refine ⟨_, _, ?_, aS [0, 1, 4, 5, 6, 7], k + 1, v + 1, by omega, cr l n (by omega), hnx, rfl, ?_⟩
          · omega
          · rw [e1, e2, hA.1]; rfl)
    ·(try simp only [zB, reduceCtorEq] at hc18)
     have hcase : cp l n k = true ∨ (cp l n k = false ∧ l.getD k 0 < n) := by
       cases hA : cp l n k with
       | true => exact .inl rfl
       | false => exact .inr ⟨rfl, by rw [hA] at hc18; simp only [reduceCtorEq, false_or] at hc18; omega⟩
     refine aJ ?_
     refine hK15 _ ?_; clear hK15; refine ae [0, 1, 4, 5, 6, 7, 11, 19, 30] ?_; simp only [Z, lkp, zE, reduceCtorEq, G, a8, E]
     have hvl := cr l n (k := k) (by omega)
     refine aj hP hN rfl ?_
     iterate 8 (refine ad rfl fun K0 Y => ?_; simp only [zE, op1, ev, lkp, ah, ag, aI, zG, Ty.dflt, Ty.size, Nat.mul_one, ne_eq, not_false_eq_true, Int.natCast_one, Int.mul_one, ay, aw, ax, acs, aq, aV, b9, bJ, rep, aL, aQ, au, aF, bu, bh, ba, bb, bq, Nat.div_one, aK, bf, dite_true, reduceCtorEq, G, E, J, V, M, U, Tryd.el25, Tryd.td1, Tryd.td25, Tryd.td3, List.length_append, List.length_cons, List.length_nil]; (repeat refine And.intro (by first | omega | assumption | exact rfl) ?_); (first | refine Y _ ?_ | refine Or.inl (Y _ ?_)); clear Y K0; simp only [put, app, a9, af, zE, zS, E])
     refine ai ?_
     refine hK10 _ ?_; clear hK10; refine ae [0, 1, 4, 5, 6, 7, 11, 19, 30] ?_; simp only [Z, lkp, zE, reduceCtorEq, G, a8, E]
     refine aj hP hN rfl ?_
     iterate 3 (refine ad rfl fun K0 Y => ?_; simp only [zE, op1, ev, lkp, ah, ag, aC, aD, aE, ao, aB, aR, reduceCtorEq, G, E, J, V, M, U, Tryd.td3]; (repeat refine And.intro (by first | omega | assumption | exact rfl) ?_); refine Y _ ?_; clear Y K0; simp only [put, app, a9, af, zE, zS, E])
     refine ai ?_
     first
     | (obtain ⟨e1, e2⟩ := gc (by omega) hca.1 hca.2
        refine ⟨_, _, ?_, aS [0, 1, 4, 5, 6, 7], k + 1, v + 1 + 1, by omega, cr l n (by omega), hnx, rfl, ?_⟩
        · omega
        · rw [e1, e2]; rfl)
     | (rcases hcase with hA | hA
        · obtain ⟨e1, e2⟩ := f9 hl (by omega) hA
          refine ⟨_, _, ?_, aS [0, 1, 4, 5, 6, 7], k + 1, v + 1, by omega, cr l n (by omega), hnx, rfl, ?_⟩
          · omega
          · rw [e1, e2, hA]; rfl
        · obtain ⟨e1, e2⟩ := fZ (by omega) hA.1 hA.2
          refine ⟨_, _, ?_, aS [0, 1, 4, 5, 6, 7], k + 1, v + 1, by omega, cr l n (by omega), hnx, rfl, ?_⟩
          · omega
          · rw [e1, e2, hA.1]; rfl)
  ·(try simp only [zB, reduceCtorEq] at hc9)
   refine bK ?_
   refine hK4 _ ?_; clear hK4; refine ae [0, 1, 4, 5, 6, 7, 11] ?_; simp only [Z, lkp, zE, reduceCtorEq, G, a8, E]
   refine aa fun K20 hK20 => ?_
   refine aa fun K21 hK21 => ?_
   have hkl : k = l.length := by omega
   have hnot : n ∉ l := kY fun j hj => hno j (by omega)
   refine aj hP hN rfl ?_
   iterate 2 (refine ad rfl fun K0 Y => ?_; simp only [zE, op1, ev, lkp, ah, ag, dR, reduceCtorEq, G, E, J, V, M, U, Tryd.td4]; (repeat refine And.intro (by first | omega | assumption | exact rfl) ?_); refine Y _ ?_; clear Y K0; simp only [put, app, a9, af, zE, zS, E])
   refine ai ?_
   refine hK21 _ ?_; clear hK21; refine ae [0, 1, 4, 5, 6, 7, 11, 43] ?_; simp only [Z, lkp, zE, reduceCtorEq, G, a8, E]
   refine aG (by simp only [ev, Z, lkp, zE, reduceCtorEq, G, a8, E]; exact rfl) (fun hc22 => ?_) (fun hc22 => ?_)
   ·(try simp only [zB, reduceCtorEq] at hc22)
    have hA : cp l n k = false := by simpa using hc22
    refine aj hP hN rfl ?_
    iterate 5 (refine ad rfl fun K0 Y => ?_; simp only [zE, op1, ev, lkp, ah, ag, aV, b9, bJ, rep, aL, aQ, au, Ty.size, aF, bu, bh, ba, bb, bq, Nat.div_one, aK, bf, dite_true, reduceCtorEq, G, E, J, V, M, U, Tryd.el25, Tryd.td1, Tryd.td25, Tryd.td3]; (repeat refine And.intro (by first | omega | assumption | exact rfl) ?_); (first | refine Y _ ?_ | refine Or.inl (Y _ ?_)); clear Y K0; simp only [put, app, a9, af, zE, zS, E])
    refine ai ?_
    refine hK20 _ ?_; clear hK20; refine ae [0, 1, 4, 5, 6, 7, 11, 43] ?_; simp only [Z, lkp, zE, reduceCtorEq, G, a8, E]
    refine aa fun K23 hK23 => ?_
    refine aj hP hN rfl ?_
    iterate 2 (refine ad rfl fun K0 Y => ?_; simp only [zE, op1, ev, lkp, ah, ag, ev, reduceCtorEq, G, E, J, V, M, U, Tryd.el25, Tryd.td25]; refine Y _ ?_; clear Y K0; simp only [put, app, a9, af, zE, zS, E])
    refine ai ?_
    refine hK23 _ ?_; clear hK23; refine ae [0, 1, 4, 5, 6, 7, 11, 43] ?_; simp only [Z, lkp, zE, reduceCtorEq, G, a8, E]
    refine aP ?_
    refine ⟨by first | exact .inl rfl | exact .inr rfl, _, rfl, ?_⟩; simp only [fzV, fz1, fzC, List.map_cons, List.map_nil, Z, lkp, zE, reduceCtorEq, G, a8, E]
    refine VLE.of_eq ?_
    first
    | (rw [ef hin]; done)
    | (rw [dQ hnot (by rw [← hkl]; exact hA), ← hkl]; done)
    | (rw [dO hnot (by rw [← hkl]; exact hA), ← hkl]; done)
    | (rw [dQ hnot (by rw [← hkl]; exact hA), ← hkl]; rfl)
    | (rw [dO hnot (by rw [← hkl]; exact hA), ← hkl]; rfl)
   ·(try simp only [zB, reduceCtorEq] at hc22)
    have hA : cp l n k = true := by simpa using hc22
    refine aJ ?_
    refine hK20 _ ?_; clear hK20; refine ae [0, 1, 4, 5, 6, 7, 11, 43] ?_; simp only [Z, lkp, zE, reduceCtorEq, G, a8, E]
    refine aa fun K24 hK24 => ?_
    refine aj hP hN rfl ?_
    iterate 2 (refine ad rfl fun K0 Y => ?_; simp only [zE, op1, ev, lkp, ah, ag, ev, reduceCtorEq, G, E, J, V, M, U, Tryd.el25, Tryd.td25]; refine Y _ ?_; clear Y K0; simp only [put, app, a9, af, zE, zS, E])
    refine ai ?_
    refine hK24 _ ?_; clear hK24; refine ae [0, 1, 4, 5, 6, 7, 11, 43] ?_; simp only [Z, lkp, zE, reduceCtorEq, G, a8, E]
    refine aP ?_
    refine ⟨by first | exact .inl rfl | exact .inr rfl, _, rfl, ?_⟩; simp only [fzV, fz1, fzC, List.map_cons, List.map_nil, Z, lkp, zE, reduceCtorEq, G, a8, E]
    refine VLE.of_eq ?_
    first
    | (rw [ef hin]; done)
    | (rw [dQ hnot (by rw [← hkl]; exact hA), ← hkl]; done)
    | (rw [dO hnot (by rw [← hkl]; exact hA), ← hkl]; done)
    | (rw [dQ hnot (by rw [← hkl]; exact hA), ← hkl]; rfl)
    | (rw [dO hnot (by rw [← hkl]; exact hA), ← hkl]; rfl)
end Go.Proofs.YtgmgnkmgofkfpaaDoor
namespace Go.Proofs.YtgmgnkmgofkfpaaDoor
open Go Go.AV
open Nat renaming reduceEqDiff → G, reduceAdd → E, reduceLeDiff → J, reduceLT → V, reduceMul → M, reduceSub → U
open List renaming set_cons_zero → aA, set_cons_succ → az
set_option maxRecDepth 100000 in
theorem qY (m : Mly) (l : List Int) (n a b : Int) (hl : l.Pairwise (· < ·)) (hb : l.length ≤ 10000000) (hm1 : 1 ≤ m.nx.length) (h0 : ∀ x ∈ l, 0 ≤ x) (hn0 : 0 ≤ n) (ha : (qxN m n : Int) = a) (hb2 : (sxN m n : Int) = b) : ch Tryd.prog 59 [.one (.list (.pair (.int .i64) (.pair (.int .i64) .unit)) (List.map (dcE m) l)), .agg [.int .i64 a, .int .i64 b]] (.one (.list (.pair (.int .i64) (.pair (.int .i64) .unit)) (List.map (dcE m) (dS l n)))) := by
 subst ha; subst hb2
 refine bp Tryd.func59 rfl (by kernel_rfl) (Nat.le_of_ble_eq_true rfl) rfl fun C hP hN hB => ?_
 replace hN : C.N = 71 := hN
 simp only [a8, E]
 refine aa fun K1 hK1 => ?_
 refine aj hP hN rfl ?_
 iterate 2 (refine ad rfl fun K0 Y => ?_; simp only [zE, op1, ev, lkp, ah, ag, cA, au, reduceCtorEq, G, E, J, V, M, U, Tryd.el95, Tryd.fl94, Tryd.st94, Tryd.td94, Tryd.td95, List.length_map]; (repeat refine And.intro (by first | omega | assumption | exact rfl) ?_); refine Y _ ?_; clear Y K0; simp only [put, app, a9, af, zE, zS, E])
 refine ai ?_
 refine hK1 _ ?_; clear hK1; refine ae [0, 1, 3, 4] ?_; simp only [Z, lkp, zE, reduceCtorEq, G, a8, E]
 refine aa fun K2 hK2 => ?_
 refine aj hP hN rfl ?_
 (refine ad rfl fun K0 Y => ?_; simp only [zE, op1, ev, lkp, ah, ag, ev, reduceCtorEq, G, E, J, V, M, U, Tryd.el95, Tryd.td95, List.length_map]; refine Y _ ?_; clear Y K0; simp only [put, app, a9, af, zE, zS, E])
 refine ai ?_
 refine hK2 _ ?_; clear hK2; refine ae [0, 1, 3, 4, 5] ?_; simp only [Z, lkp, zE, reduceCtorEq, G, a8, E]
 refine aa fun K3 hK3 => ?_
 refine aj hP hN rfl ?_
 (refine ad rfl fun K0 Y => ?_; simp only [zE, op1, ev, lkp, ah, ag, ev, reduceCtorEq, G, E, J, V, M, U, Tryd.td4, List.length_map]; refine Y _ ?_; clear Y K0; simp only [put, app, a9, af, zE, zS, E])
 refine ai ?_
 refine hK3 _ ?_; clear hK3; refine ae [0, 1, 3, 4, 5, 6] ?_; simp only [Z, lkp, zE, reduceCtorEq, G, a8, E]
 refine aa fun K4 hK4 => ?_
 refine aa fun K5 hK5 => ?_
 refine aj hP hN rfl ?_
 (refine ad rfl fun K0 Y => ?_; simp only [zE, op1, ev, lkp, ah, ag, ev, reduceCtorEq, G, E, J, V, M, U, Tryd.td3, List.length_map]; refine Y _ ?_; clear Y K0; simp only [put, app, a9, af, zE, zS, E])
 refine ai ?_
 refine hK5 _ ?_; clear hK5; refine ae [0, 1, 3, 4, 5, 6, 7] ?_; simp only [Z, lkp, zE, reduceCtorEq, G, a8, E]
 refine aW ?_
 refine cL 5 (.pair (.int .i64) (.pair (.int .i64) .unit)) 94 (by decide) rfl ?_; simp only [List.length_cons, List.length_nil, List.cons_append, List.nil_append, Nat.zero_add, E]
 refine bM (fun n6 s6 => ∃ (k : Nat) (v : Nat), (k ≤ l.length) ∧ ((cR l n k).length ≤ k + 1) ∧ (∀ j, j < k → l.getD j 0 ≠ n) ∧ n6 = l.length - k ∧ s6 = { env := [(0, .one (.list (.pair (.int .i64) (.pair (.int .i64) .unit)) (List.map (dcE m) l))), (3, .one (.ptr 0 0 0 0)), (4, .one .nils), (5, .one (.row 1 v)), (6, .one (.bool (cp l n k))), (7, .one (.int .i64 (k : Int)))], L := [.vars 94 [.int .i64 (qxN m n : Int), .int .i64 (sxN m n : Int)], .row (.pair (.int .i64) (.pair (.int .i64) .unit)) 94 v (List.map (dcE m) (cR l n k))] }) ?_ ?_
 ·refine ⟨_, _, aS [0, 3, 4, 5, 6, 7], 0, 0, Nat.zero_le _, by simp [cR, cp], fun j hj => by omega, rfl, ?_⟩
  rw [show cp l n 0 = false from rfl, show cR l n 0 = [] by simp [cR, cp]]; rfl
 ·rintro n6 s6 ⟨k, v, hk, hvl0, hno, rfl, rfl⟩
  refine aa fun K7 hK7 => ?_
  refine aa fun K8 hK8 => ?_
  refine aj hP hN rfl ?_
  iterate 4 (refine ad rfl fun K0 Y => ?_; simp only [zE, op1, ev, lkp, ah, ag, aF, bu, bh, ba, bb, bq, Nat.div_one, aK, bf, Ty.size, aL, dite_true, aC, aD, aE, ao, aB, aR, reduceCtorEq, G, E, J, V, M, U, Tryd.el95, Tryd.td3, Tryd.td4, Tryd.td95, List.length_map]; (repeat refine And.intro (by first | omega | assumption | exact rfl) ?_); (first | refine Y _ ?_ | refine Or.inl (Y _ ?_)); clear Y K0; simp only [put, app, a9, af, zE, zS, E])
  refine ai ?_
  refine hK8 _ ?_; clear hK8; refine ae [0, 3, 4, 5, 6, 7, 11] ?_; simp only [Z, lkp, zE, reduceCtorEq, G, a8, E]
  refine aG (by simp only [ev, Z, lkp, zE, reduceCtorEq, G, a8, E]; exact rfl) (fun hc9 => ?_) (fun hc9 => ?_)
  ·(try simp only [zB, reduceCtorEq] at hc9)
   refine aJ ?_
   refine hK7 _ ?_; clear hK7; refine ae [0, 3, 4, 5, 6, 7, 11] ?_; simp only [Z, lkp, zE, reduceCtorEq, G, a8, E]
   refine aa fun K10 hK10 => ?_
   refine aW ?_
   refine aa fun K11 hK11 => ?_
   refine aa fun K12 hK12 => ?_
   have hkl0 : k < l.length := by omega
   have hx0 := h0 _ (cJ hkl0); have hdc := nc (m := m) hx0 hn0 hm1; have hdc2 := nc (m := m) hn0 hx0 hm1
   have hgi : gt (.pair (.int .i64) (.pair (.int .i64) .unit)) (List.map (dcE m) l) (k : Int) = ((qxN m (l.getD k 0) : Int), ((sxN m (l.getD k 0) : Int), ())) := gO hkl0 _
   have hgj : ∀ d, (List.map (dcE m) l).getD k d = ((qxN m (l.getD k 0) : Int), ((sxN m (l.getD k 0) : Int), ())) := fun d => gO hkl0 d
   refine bW hP hN Tryd.mixed rfl ?_
   iterate 6 (refine ad rfl fun K0 Y => ?_; simp only [zE, op1, ev, lkp, ah, ag, aI, zG, Ty.dflt, Ty.size, Nat.mul_one, ne_eq, not_false_eq_true, Int.natCast_one, Int.mul_one, ay, aw, ax, acs, aq, aC, aD, aE, ao, aB, aR, reduceCtorEq, G, E, J, V, M, U, Tryd.el95, Tryd.fl94, Tryd.st94, Tryd.td3, Tryd.td4, Tryd.td94, Tryd.td95, List.length_map, hgi, hgj]; (repeat refine And.intro (by first | omega | assumption | exact rfl) ?_); refine Y _ ?_; clear Y K0; simp only [put, app, a9, af, zE, zS, E])
   refine ai ?_
   refine ⟨by kernel_rfl, ?_⟩
   refine hK12 _ ?_; clear hK12; refine ae [0, 3, 4, 5, 6, 7, 11, 19] ?_; simp only [Z, lkp, zE, reduceCtorEq, G, a8, E]
   refine aG (by simp only [ev, Z, lkp, zE, reduceCtorEq, G, a8, E]; exact rfl) (fun hc13 => ?_) (fun hc13 => ?_)
   ·(try simp only [zB, reduceCtorEq] at hc13)
    have hin : n ∈ l := by rw [← (show l.getD k 0 = n from hdc.2.1 (by simpa using hc13))]; exact cJ (by omega)
    refine aa fun K14 hK14 => ?_
    refine aj hP hN rfl ?_
    iterate 2 (refine ad rfl fun K0 Y => ?_; simp only [zE, op1, ev, lkp, ah, ag, ev, reduceCtorEq, G, E, J, V, M, U, Tryd.el95, Tryd.td95, List.length_map]; refine Y _ ?_; clear Y K0; simp only [put, app, a9, af, zE, zS, E])
    refine ai ?_
    refine hK14 _ ?_; clear hK14; refine ae [0, 3, 4, 5, 6, 7, 11, 19] ?_; simp only [Z, lkp, zE, reduceCtorEq, G, a8, E]
    refine aP ?_
    refine ⟨by first | exact .inl rfl | exact .inr rfl, _, rfl, ?_⟩; simp only [fzV, fz1, fzC, List.map_cons, List.map_nil, Z, lkp, zE, reduceCtorEq, G, a8, E, List.length_map]
    refine VLE.of_eq ?_
    first
    | (rw [ef hin]; done)
    | (rw [dQ hnot (by rw [← hkl]; exact hA), ← hkl]; done)
    | (rw [dO hnot (by rw [← hkl]; exact hA), ← hkl]; done)
    | (rw [dQ hnot (by rw [← hkl]; exact hA), ← hkl]; rfl)
    | (rw [dO hnot (by rw [← hkl]; exact hA), ← hkl, List.map_append]; rfl)
   ·(try simp only [zB, reduceCtorEq] at hc13)
    have hne : l.getD k 0 ≠ n := fun e => by have h9 := hc13; rw [e] at h9; simp at h9
    have hnx : ∀ j, j < k + 1 → l.getD j 0 ≠ n := fun j hj => by
      by_cases e : j = k
      · rw [e]; exact hne
      · exact hno j (by omega)
    refine aJ ?_
    refine hK11 _ ?_; clear hK11; refine ae [0, 3, 4, 5, 6, 7, 11, 19] ?_; simp only [Z, lkp, zE, reduceCtorEq, G, a8, E]
    refine aa fun K15 hK15 => ?_
    refine aa fun K16 hK16 => ?_
    refine bW hP hN Tryd.mixed rfl ?_
    iterate 2 (refine ad rfl fun K0 Y => ?_; simp only [zE, op1, ev, lkp, ah, ag, dR, reduceCtorEq, G, E, J, V, M, U, Tryd.td4, List.length_map, hgi, hgj]; (repeat refine And.intro (by first | omega | assumption | exact rfl) ?_); refine Y _ ?_; clear Y K0; simp only [put, app, a9, af, zE, zS, E])
    (refine ad rfl fun K0 Y => ?_; simp only [zE, op1, ev, lkp, ah, ag, ev, reduceCtorEq, G, E, J, V, M, U, Tryd.td4, List.length_map, hgi, hgj]; refine Y _ ?_; clear Y K0; simp only [put, app, a9, af, zE, zS, E])
    refine' aY (want := true) 28 rfl (m := 23) (by simp only [Z, lkp, zE, reduceCtorEq, G, a8, E]; exact rfl) (by kernel_rfl) rfl rfl rfl rfl rfl (fun hg17 => ?a17) ?b17 ?c17
    case a17 =>
     have hq17 := hg17; (try simp only [zB, reduceCtorEq] at hg17); simp only [List.take_succ_cons, List.take_zero, List.cons_append, List.nil_append]
     (refine ar rfl fun K0 Y => ?_; simp only [zE, op1, ev, lkp, ah, ag, am, reduceCtorEq, G, E, J, V, M, U, Tryd.fl94, Tryd.st94, Tryd.td94, List.length_map, hgi, hgj]; (repeat refine And.intro (by first | omega | assumption | exact rfl) ?_); refine Y _ ?_; clear Y K0; simp only [put, app, a9, af, zE, zS, E])
     (refine ar rfl fun K0 Y => ?_; simp only [zE, op1, ev, lkp, ah, ag, ay, Nat.mul_one, aw, ax, acs, Ty.dflt, zG, aq, reduceCtorEq, G, E, J, V, M, U, Tryd.td3, List.length_map, hgi, hgj]; (repeat refine And.intro (by first | omega | assumption | exact rfl) ?_); refine Y _ ?_; clear Y K0; simp only [put, app, a9, af, zE, zS, E])
     (refine ar rfl fun K0 Y => ?_; simp only [zE, op1, ev, lkp, ah, ag, ev, reduceCtorEq, G, E, J, V, M, U, Tryd.el95, Tryd.td95, List.length_map, hgi, hgj]; refine Y _ ?_; clear Y K0; simp only [put, app, a9, af, zE, zS, E])
     (refine ar rfl fun K0 Y => ?_; simp only [zE, op1, ev, lkp, ah, ag, ev, reduceCtorEq, G, E, J, V, M, U, Tryd.td3, List.length_map, hgi, hgj]; refine Y _ ?_; clear Y K0; simp only [put, app, a9, af, zE, zS, E])
     (refine ar rfl fun K0 Y => ?_; simp only [zE, op1, ev, lkp, ah, ag, aI, zG, Ty.dflt, Ty.size, Nat.mul_one, ne_eq, not_false_eq_true, Int.natCast_one, Int.mul_one, reduceCtorEq, G, E, J, V, M, U, Tryd.el95, Tryd.td95, List.length_map, hgi, hgj]; (repeat refine And.intro (by first | omega | assumption | exact rfl) ?_); refine Y _ ?_; clear Y K0; simp only [put, app, a9, af, zE, zS, E])
     (refine ar rfl fun K0 Y => ?_; simp only [zE, op1, ev, lkp, ah, ag, am, reduceCtorEq, G, E, J, V, M, U, Tryd.fl94, Tryd.st94, Tryd.td94, List.length_map, hgi, hgj]; (repeat refine And.intro (by first | omega | assumption | exact rfl) ?_); refine Y _ ?_; clear Y K0; simp only [put, app, a9, af, zE, zS, E])
     (refine ar rfl fun K0 Y => ?_; simp only [zE, op1, ev, lkp, ah, ag, ay, Nat.mul_one, aw, ax, acs, Ty.dflt, zG, aq, reduceCtorEq, G, E, J, V, M, U, Tryd.td3, List.length_map, hgi, hgj]; (repeat refine And.intro (by first | omega | assumption | exact rfl) ?_); refine Y _ ?_; clear Y K0; simp only [put, app, a9, af, zE, zS, E])
     (refine ar rfl fun K0 Y => ?_; simp only [zE, op1, ev, lkp, ah, ag, aC, aD, aE, ao, aB, aR, reduceCtorEq, G, E, J, V, M, U, Tryd.td3, Tryd.td4, List.length_map, hgi, hgj]; (repeat refine And.intro (by first | omega | assumption | exact rfl) ?_); refine Y _ ?_; clear Y K0; simp only [put, app, a9, af, zE, zS, E])
     (refine ar rfl fun K0 Y => ?_; simp only [zE, op1, ev, lkp, ah, ag, ev, reduceCtorEq, G, E, J, V, M, U, Tryd.td4, List.length_map, hgi, hgj]; refine Y _ ?_; clear Y K0; simp only [put, app, a9, af, zE, zS, E])
     refine' aY (want := false) 18 rfl (m := 32) (by simp only [Z, lkp, zE, reduceCtorEq, G, a8, E]; exact rfl) (by kernel_rfl) rfl rfl rfl rfl rfl (fun hg18 => ?a18) ?b18 ?c18
     case a18 =>
      have hq18 := hg18; (try simp only [zB, reduceCtorEq] at hg18); simp only [List.take_succ_cons, List.take_zero, List.cons_append, List.nil_append]
      (refine ar rfl fun K0 Y => ?_; simp only [zE, op1, ev, lkp, ah, ag, am, reduceCtorEq, G, E, J, V, M, U, Tryd.fl94, Tryd.st94, Tryd.td94, List.length_map, hgi, hgj]; (repeat refine And.intro (by first | omega | assumption | exact rfl) ?_); refine Y _ ?_; clear Y K0; simp only [put, app, a9, af, zE, zS, E])
      (refine ar rfl fun K0 Y => ?_; simp only [zE, op1, ev, lkp, ah, ag, ay, Nat.mul_one, aw, ax, acs, Ty.dflt, zG, aq, reduceCtorEq, G, E, J, V, M, U, Tryd.td3, List.length_map, hgi, hgj]; (repeat refine And.intro (by first | omega | assumption | exact rfl) ?_); refine Y _ ?_; clear Y K0; simp only [put, app, a9, af, zE, zS, E])
      (refine ar rfl fun K0 Y => ?_; simp only [zE, op1, ev, lkp, ah, ag, ev, reduceCtorEq, G, E, J, V, M, U, Tryd.el95, Tryd.td95, List.length_map, hgi, hgj]; refine Y _ ?_; clear Y K0; simp only [put, app, a9, af, zE, zS, E])
      (refine ar rfl fun K0 Y => ?_; simp only [zE, op1, ev, lkp, ah, ag, ev, reduceCtorEq, G, E, J, V, M, U, Tryd.td3, List.length_map, hgi, hgj]; refine Y _ ?_; clear Y K0; simp only [put, app, a9, af, zE, zS, E])
      (refine ar rfl fun K0 Y => ?_; simp only [zE, op1, ev, lkp, ah, ag, aI, zG, Ty.dflt, Ty.size, Nat.mul_one, ne_eq, not_false_eq_true, Int.natCast_one, Int.mul_one, reduceCtorEq, G, E, J, V, M, U, Tryd.el95, Tryd.td95, List.length_map, hgi, hgj]; (repeat refine And.intro (by first | omega | assumption | exact rfl) ?_); refine Y _ ?_; clear Y K0; simp only [put, app, a9, af, zE, zS, E])
      (refine ar rfl fun K0 Y => ?_; simp only [zE, op1, ev, lkp, ah, ag, am, reduceCtorEq, G, E, J, V, M, U, Tryd.fl94, Tryd.st94, Tryd.td94, List.length_map, hgi, hgj]; (repeat refine And.intro (by first | omega | assumption | exact rfl) ?_); refine Y _ ?_; clear Y K0; simp only [put, app, a9, af, zE, zS, E])
      (refine ar rfl fun K0 Y => ?_; simp only [zE, op1, ev, lkp, ah, ag, ay, Nat.mul_one, aw, ax, acs, Ty.dflt, zG, aq, reduceCtorEq, G, E, J, V, M, U, Tryd.td3, List.length_map, hgi, hgj]; (repeat refine And.intro (by first | omega | assumption | exact rfl) ?_); refine Y _ ?_; clear Y K0; simp only [put, app, a9, af, zE, zS, E])
      (refine ar rfl fun K0 Y => ?_; simp only [zE, op1, ev, lkp, ah, ag, aC, aD, aE, ao, aB, aR, reduceCtorEq, G, E, J, V, M, U, Tryd.td3, Tryd.td4, List.length_map, hgi, hgj]; (repeat refine And.intro (by first | omega | assumption | exact rfl) ?_); refine Y _ ?_; clear Y K0; simp only [put, app, a9, af, zE, zS, E])
      (refine ar rfl fun K0 Y => ?_; simp only [zE, op1, ev, lkp, ah, ag, ev, reduceCtorEq, G, E, J, V, M, U, Tryd.td4, List.length_map, hgi, hgj]; refine Y _ ?_; clear Y K0; simp only [put, app, a9, af, zE, zS, E])
      refine' aY (want := true) 8 rfl (m := 41) (by simp only [Z, lkp, zE, reduceCtorEq, G, a8, E]; exact rfl) (by kernel_rfl) rfl rfl rfl rfl rfl (fun hg19 => ?a19) ?b19 ?c19
      case a19 =>
       have hq19 := hg19; (try simp only [zB, reduceCtorEq] at hg19); simp only [List.take_succ_cons, List.take_zero, List.cons_append, List.nil_append]
       (refine ar rfl fun K0 Y => ?_; simp only [zE, op1, ev, lkp, ah, ag, am, reduceCtorEq, G, E, J, V, M, U, Tryd.fl94, Tryd.st94, Tryd.td1, Tryd.td94, List.length_map, hgi, hgj]; (repeat refine And.intro (by first | omega | assumption | exact rfl) ?_); refine Y _ ?_; clear Y K0; simp only [put, app, a9, af, zE, zS, E])
       (refine ar rfl fun K0 Y => ?_; simp only [zE, op1, ev, lkp, ah, ag, ay, Nat.mul_one, aw, ax, acs, Ty.dflt, zG, aq, reduceCtorEq, G, E, J, V, M, U, Tryd.td3, List.length_map, hgi, hgj]; (repeat refine And.intro (by first | omega | assumption | exact rfl) ?_); refine Y _ ?_; clear Y K0; simp only [put, app, a9, af, zE, zS, E])
       (refine ar rfl fun K0 Y => ?_; simp only [zE, op1, ev, lkp, ah, ag, ev, reduceCtorEq, G, E, J, V, M, U, Tryd.el95, Tryd.td95, List.length_map, hgi, hgj]; refine Y _ ?_; clear Y K0; simp only [put, app, a9, af, zE, zS, E])
       (refine ar rfl fun K0 Y => ?_; simp only [zE, op1, ev, lkp, ah, ag, ev, reduceCtorEq, G, E, J, V, M, U, Tryd.td3, List.length_map, hgi, hgj]; refine Y _ ?_; clear Y K0; simp only [put, app, a9, af, zE, zS, E])
       (refine ar rfl fun K0 Y => ?_; simp only [zE, op1, ev, lkp, ah, ag, aI, zG, Ty.dflt, Ty.size, Nat.mul_one, ne_eq, not_false_eq_true, Int.natCast_one, Int.mul_one, reduceCtorEq, G, E, J, V, M, U, Tryd.el95, Tryd.td95, List.length_map, hgi, hgj]; (repeat refine And.intro (by first | omega | assumption | exact rfl) ?_); refine Y _ ?_; clear Y K0; simp only [put, app, a9, af, zE, zS, E])
       (refine ar rfl fun K0 Y => ?_; simp only [zE, op1, ev, lkp, ah, ag, am, reduceCtorEq, G, E, J, V, M, U, Tryd.fl94, Tryd.st94, Tryd.td1, Tryd.td94, List.length_map, hgi, hgj]; (repeat refine And.intro (by first | omega | assumption | exact rfl) ?_); refine Y _ ?_; clear Y K0; simp only [put, app, a9, af, zE, zS, E])
       (refine ar rfl fun K0 Y => ?_; simp only [zE, op1, ev, lkp, ah, ag, ay, Nat.mul_one, aw, ax, acs, Ty.dflt, zG, aq, reduceCtorEq, G, E, J, V, M, U, Tryd.td3, List.length_map, hgi, hgj]; (repeat refine And.intro (by first | omega | assumption | exact rfl) ?_); refine Y _ ?_; clear Y K0; simp only [put, app, a9, af, zE, zS, E])
       (refine ar rfl fun K0 Y => ?_; simp only [zE, op1, ev, lkp, ah, ag, aC, aD, aE, ao, aB, aR, reduceCtorEq, G, E, J, V, M, U, Tryd.td3, Tryd.td4, List.length_map, hgi, hgj]; (repeat refine And.intro (by first | omega | assumption | exact rfl) ?_); refine Y _ ?_; clear Y K0; simp only [put, app, a9, af, zE, zS, E])
       (refine ar rfl fun K0 Y => ?_; simp only [zE, op1, ev, lkp, ah, ag, bt, reduceCtorEq, G, E, J, V, M, U, Tryd.td4, List.length_map, hgi, hgj]; refine Y _ ?_; clear Y K0; simp only [put, app, a9, af, zE, zS, E])
       refine ai ?_
       refine ⟨by simp only [Z, lkp, zE, reduceCtorEq, G, a8, E]; exact rfl, rfl, ?_, rfl⟩; (repeat refine aZ rfl ?_); exact bz (by exact rfl) hq19
      case b19 => exact bv (by first | rfl | (simp [bV]; done) | decide)
      simp only [bj, bg]
      (refine ar rfl fun K0 Y => ?_; simp only [zE, op1, ev, lkp, ah, ag, bt, reduceCtorEq, G, E, J, V, M, U, Tryd.td4, List.length_map, hgi, hgj]; refine Y _ ?_; clear Y K0; simp only [put, app, a9, af, zE, zS, E])
      refine ai ?_
      refine ⟨by simp only [Z, lkp, zE, reduceCtorEq, G, a8, E]; exact rfl, rfl, ?_, rfl⟩; (repeat refine aZ rfl ?_); exact bz (by exact rfl) hq18
     case b18 => exact bv (by first | rfl | (simp [bV]; done) | decide)
     simp only [bj, bg]
     (refine ad rfl fun K0 Y => ?_; simp only [zE, op1, ev, lkp, ah, ag, bt, reduceCtorEq, G, E, J, V, M, U, Tryd.td4, List.length_map, hgi, hgj]; refine Y _ ?_; clear Y K0; simp only [put, app, a9, af, zE, zS, E])
     refine ai ?_
     refine ⟨by simp only [Z, lkp, zE, reduceCtorEq, G, a8, E]; exact rfl, rfl, ?_, rfl⟩; (repeat refine aZ rfl ?_); exact bz (by exact rfl) hq17
    case b17 => exact bv (by first | rfl | (simp [bV]; done) | decide)
    simp only [bj, bg]
    refine ai ?_
    refine ⟨by kernel_rfl, ?_⟩
    refine hK16 _ ?_; clear hK16; refine ae [0, 3, 4, 5, 6, 7, 11, 19, 52] ?_; simp only [Z, lkp, zE, reduceCtorEq, G, a8, E]
    refine aG (by simp only [ev, Z, lkp, zE, reduceCtorEq, G, a8, E]; exact rfl) (fun hc20 => ?_) (fun hc20 => ?_)
    ·(try simp only [zB, reduceCtorEq] at hc20)
     have hca : cp l n k = false ∧ n < l.getD k 0 := by have h9 := hc20; rw [← hdc2.1]; simp_all
     refine aa fun K21 hK21 => ?_
     refine aj hP hN rfl ?_
     iterate 5 (refine ad rfl fun K0 Y => ?_; simp only [zE, op1, ev, lkp, ah, ag, ay, Nat.mul_one, aw, ax, acs, Ty.dflt, zG, aq, aV, b9, bJ, rep, aL, aQ, au, Ty.size, aF, bu, bh, ba, bb, bq, Nat.div_one, aK, bf, dite_true, reduceCtorEq, G, E, J, V, M, U, Tryd.el95, Tryd.fl94, Tryd.st94, Tryd.td1, Tryd.td94, Tryd.td95, List.length_map]; (repeat refine And.intro (by first | omega | assumption | exact rfl) ?_); (first | refine Y _ ?_ | refine Or.inl (Y _ ?_)); clear Y K0; simp only [put, app, a9, af, zE, zS, E])
     refine ai ?_
     refine hK21 _ ?_; clear hK21; refine ae [0, 3, 4, 5, 6, 7, 11, 19, 52] ?_; simp only [Z, lkp, zE, reduceCtorEq, G, a8, E]
     refine aj hP hN rfl ?_
     (refine ad rfl fun K0 Y => ?_; simp only [zE, op1, ev, lkp, ah, ag, ev, reduceCtorEq, G, E, J, V, M, U, Tryd.td4, List.length_map]; refine Y _ ?_; clear Y K0; simp only [put, app, a9, af, zE, zS, E])
     refine ai ?_
     refine hK15 _ ?_; clear hK15; refine ae [0, 3, 4, 5, 6, 7, 11, 19, 52] ?_; simp only [Z, lkp, zE, reduceCtorEq, G, a8, E]
     have hvl := cr l n (k := k) (by omega)
     refine aj hP hN rfl ?_
     iterate 8 (refine ad rfl fun K0 Y => ?_; simp only [zE, op1, ev, lkp, ah, ag, aI, zG, Ty.dflt, Ty.size, Nat.mul_one, ne_eq, not_false_eq_true, Int.natCast_one, Int.mul_one, ay, aw, ax, acs, aq, aV, b9, bJ, rep, aL, aQ, au, aF, bu, bh, ba, bb, bq, Nat.div_one, aK, bf, dite_true, reduceCtorEq, G, E, J, V, M, U, Tryd.el95, Tryd.fl94, Tryd.st94, Tryd.td1, Tryd.td3, Tryd.td94, Tryd.td95, List.length_map, hgi, hgj, List.length_append, List.length_cons, List.length_nil]; (repeat refine And.intro (by first | omega | assumption | exact rfl) ?_); (first | refine Y _ ?_ | refine Or.inl (Y _ ?_)); clear Y K0; simp only [put, app, a9, af, zE, zS, E])
     refine ai ?_
     refine hK10 _ ?_; clear hK10; refine ae [0, 3, 4, 5, 6, 7, 11, 19, 52] ?_; simp only [Z, lkp, zE, reduceCtorEq, G, a8, E]
     refine aj hP hN rfl ?_
     iterate 3 (refine ad rfl fun K0 Y => ?_; simp only [zE, op1, ev, lkp, ah, ag, aC, aD, aE, ao, aB, aR, reduceCtorEq, G, E, J, V, M, U, Tryd.td3, List.length_map]; (repeat refine And.intro (by first | omega | assumption | exact rfl) ?_); refine Y _ ?_; clear Y K0; simp only [put, app, a9, af, zE, zS, E])
     refine ai ?_
     first
     | (obtain ⟨e1, e2⟩ := gc (by omega) hca.1 hca.2
        refine ⟨_, _, ?_, aS [0, 3, 4, 5, 6, 7], k + 1, v + 1 + 1, by omega, cr l n (by omega), hnx, rfl, ?_⟩
        · omega
        · rw [e1, e2, List.map_append, List.map_append]; rfl)
     | (rcases hcase with hA | hA
        · obtain ⟨e1, e2⟩ := f9 hl (by omega) hA
          refine ⟨_, _, ?_, aS [0, 3, 4, 5, 6, 7], k + 1, v + 1, by omega, cr l n (by omega), hnx, rfl, ?_⟩
          · omega
          · rw [e1, e2, hA, List.map_append]; rfl
        · obtain ⟨e1, e2⟩ := fZ (by omega) hA.1 hA.2
          refine ⟨_, _, ?_, aS [0, 3, 4, 5, 6, 7], k + 1, v + 1, by omega, cr l n (by omega), hnx, rfl, ?_⟩
          · omega
          · rw [e1, e2, hA.1, List.map_append]; rfl)
    ·(try simp only [zB, reduceCtorEq] at hc20)
     have hcase : cp l n k = true ∨ (cp l n k = false ∧ l.getD k 0 < n) := by
       cases hA : cp l n k with
       | true => exact .inl rfl
       | false => exact .inr ⟨rfl, by have h9 := hc20; rw [hA] at h9; have h8 : ¬ n < l.getD k 0 := fun hlt => (by have h7 := hdc2.1.2 hlt; rcases h9 with h9 | h9 <;> first | omega | cases h9); omega⟩
     refine aJ ?_
     refine hK15 _ ?_; clear hK15; refine ae [0, 3, 4, 5, 6, 7, 11, 19, 52] ?_; simp only [Z, lkp, zE, reduceCtorEq, G, a8, E]
     have hvl := cr l n (k := k) (by omega)
     refine aj hP hN rfl ?_
     iterate 8 (refine ad rfl fun K0 Y => ?_; simp only [zE, op1, ev, lkp, ah, ag, aI, zG, Ty.dflt, Ty.size, Nat.mul_one, ne_eq, not_false_eq_true, Int.natCast_one, Int.mul_one, ay, aw, ax, acs, aq, aV, b9, bJ, rep, aL, aQ, au, aF, bu, bh, ba, bb, bq, Nat.div_one, aK, bf, dite_true, reduceCtorEq, G, E, J, V, M, U, Tryd.el95, Tryd.fl94, Tryd.st94, Tryd.td1, Tryd.td3, Tryd.td94, Tryd.td95, List.length_map, hgi, hgj, List.length_append, List.length_cons, List.length_nil]; (repeat refine And.intro (by first | omega | assumption | exact rfl) ?_); (first | refine Y _ ?_ | refine Or.inl (Y _ ?_)); clear Y K0; simp only [put, app, a9, af, zE, zS, E])
     refine ai ?_
     refine hK10 _ ?_; clear hK10; refine ae [0, 3, 4, 5, 6, 7, 11, 19, 52] ?_; simp only [Z, lkp, zE, reduceCtorEq, G, a8, E]
     refine aj hP hN rfl ?_
     iterate 3 (refine ad rfl fun K0 Y => ?_; simp only [zE, op1, ev, lkp, ah, ag, aC, aD, aE, ao, aB, aR, reduceCtorEq, G, E, J, V, M, U, Tryd.td3, List.length_map]; (repeat refine And.intro (by first | omega | assumption | exact rfl) ?_); refine Y _ ?_; clear Y K0; simp only [put, app, a9, af, zE, zS, E])
     refine ai ?_
     first
     | (obtain ⟨e1, e2⟩ := gc (by omega) hca.1 hca.2
        refine ⟨_, _, ?_, aS [0, 3, 4, 5, 6, 7], k + 1, v + 1 + 1, by omega, cr l n (by omega), hnx, rfl, ?_⟩
        · omega
        · rw [e1, e2, List.map_append, List.map_append]; rfl)
     | (rcases hcase with hA | hA
        · obtain ⟨e1, e2⟩ := f9 hl (by omega) hA
          refine ⟨_, _, ?_, aS [0, 3, 4, 5, 6, 7], k + 1, v + 1, by omega, cr l n (by omega), hnx, rfl, ?_⟩
          · omega
          · rw [e1, e2, hA, List.map_append]; rfl
        · obtain ⟨e1, e2⟩ := fZ (by omega) hA.1 hA.2
          refine ⟨_, _, ?_, aS [0, 3, 4, 5, 6, 7], k + 1, v + 1, by omega, cr l n (by omega), hnx, rfl, ?_⟩
          · omega
          · rw [e1, e2, hA.1, List.map_append]; rfl)
  ·(try simp only [zB, reduceCtorEq] at hc9)
   refine bK ?_
   refine hK4 _ ?_; clear hK4; refine ae [0, 3, 4, 5, 6, 7, 11] ?_; simp only [Z, lkp, zE, reduceCtorEq, G, a8, E]
   refine aa fun K22 hK22 => ?_
   refine aa fun K23 hK23 => ?_
   have hkl : k = l.length := by omega
   have hnot : n ∉ l := kY fun j hj => hno j (by omega)
   refine aj hP hN rfl ?_
   iterate 2 (refine ad rfl fun K0 Y => ?_; simp only [zE, op1, ev, lkp, ah, ag, dR, reduceCtorEq, G, E, J, V, M, U, Tryd.td4, List.length_map]; (repeat refine And.intro (by first | omega | assumption | exact rfl) ?_); refine Y _ ?_; clear Y K0; simp only [put, app, a9, af, zE, zS, E])
   refine ai ?_
   refine hK23 _ ?_; clear hK23; refine ae [0, 3, 4, 5, 6, 7, 11, 65] ?_; simp only [Z, lkp, zE, reduceCtorEq, G, a8, E]
   refine aG (by simp only [ev, Z, lkp, zE, reduceCtorEq, G, a8, E]; exact rfl) (fun hc24 => ?_) (fun hc24 => ?_)
   ·(try simp only [zB, reduceCtorEq] at hc24)
    have hA : cp l n k = false := by simpa using hc24
    refine aj hP hN rfl ?_
    iterate 5 (refine ad rfl fun K0 Y => ?_; simp only [zE, op1, ev, lkp, ah, ag, ay, Nat.mul_one, aw, ax, acs, Ty.dflt, zG, aq, aV, b9, bJ, rep, aL, aQ, au, Ty.size, aF, bu, bh, ba, bb, bq, Nat.div_one, aK, bf, dite_true, reduceCtorEq, G, E, J, V, M, U, Tryd.el95, Tryd.fl94, Tryd.st94, Tryd.td1, Tryd.td94, Tryd.td95, List.length_map]; (repeat refine And.intro (by first | omega | assumption | exact rfl) ?_); (first | refine Y _ ?_ | refine Or.inl (Y _ ?_)); clear Y K0; simp only [put, app, a9, af, zE, zS, E])
    refine ai ?_
    refine hK22 _ ?_; clear hK22; refine ae [0, 3, 4, 5, 6, 7, 11, 65] ?_; simp only [Z, lkp, zE, reduceCtorEq, G, a8, E]
    refine aa fun K25 hK25 => ?_
    refine aj hP hN rfl ?_
    iterate 2 (refine ad rfl fun K0 Y => ?_; simp only [zE, op1, ev, lkp, ah, ag, ev, reduceCtorEq, G, E, J, V, M, U, Tryd.el95, Tryd.td95, List.length_map]; refine Y _ ?_; clear Y K0; simp only [put, app, a9, af, zE, zS, E])
    refine ai ?_
    refine hK25 _ ?_; clear hK25; refine ae [0, 3, 4, 5, 6, 7, 11, 65] ?_; simp only [Z, lkp, zE, reduceCtorEq, G, a8, E]
    refine aP ?_
    refine ⟨by first | exact .inl rfl | exact .inr rfl, _, rfl, ?_⟩; simp only [fzV, fz1, fzC, List.map_cons, List.map_nil, Z, lkp, zE, reduceCtorEq, G, a8, E, List.length_map]
    refine VLE.of_eq ?_
    first
    | (rw [ef hin]; done)
    | (rw [dQ hnot (by rw [← hkl]; exact hA), ← hkl]; done)
    | (rw [dO hnot (by rw [← hkl]; exact hA), ← hkl]; done)
    | (rw [dQ hnot (by rw [← hkl]; exact hA), ← hkl]; rfl)
    | (rw [dO hnot (by rw [← hkl]; exact hA), ← hkl, List.map_append]; rfl)
   ·(try simp only [zB, reduceCtorEq] at hc24)
    have hA : cp l n k = true := by simpa using hc24
    refine aJ ?_
    refine hK22 _ ?_; clear hK22; refine ae [0, 3, 4, 5, 6, 7, 11, 65] ?_; simp only [Z, lkp, zE, reduceCtorEq, G, a8, E]
    refine aa fun K26 hK26 => ?_
    refine aj hP hN rfl ?_
    iterate 2 (refine ad rfl fun K0 Y => ?_; simp only [zE, op1, ev, lkp, ah, ag, ev, reduceCtorEq, G, E, J, V, M, U, Tryd.el95, Tryd.td95, List.length_map]; refine Y _ ?_; clear Y K0; simp only [put, app, a9, af, zE, zS, E])
    refine ai ?_
    refine hK26 _ ?_; clear hK26; refine ae [0, 3, 4, 5, 6, 7, 11, 65] ?_; simp only [Z, lkp, zE, reduceCtorEq, G, a8, E]
    refine aP ?_
    refine ⟨by first | exact .inl rfl | exact .inr rfl, _, rfl, ?_⟩; simp only [fzV, fz1, fzC, List.map_cons, List.map_nil, Z, lkp, zE, reduceCtorEq, G, a8, E, List.length_map]
    refine VLE.of_eq ?_
    first
    | (rw [ef hin]; done)
    | (rw [dQ hnot (by rw [← hkl]; exact hA), ← hkl]; done)
    | (rw [dO hnot (by rw [← hkl]; exact hA), ← hkl]; done)
    | (rw [dQ hnot (by rw [← hkl]; exact hA), ← hkl]; rfl)
    | (rw [dO hnot (by rw [← hkl]; exact hA), ← hkl, List.map_append]; rfl)
end Go.Proofs.YtgmgnkmgofkfpaaDoor
namespace Go.Proofs.YtgmgnkmgofkfpaaDoor
open Go Go.AV
open Nat renaming reduceEqDiff → G, reduceAdd → E, reduceLeDiff → J, reduceLT → V, reduceMul → M, reduceSub → U
open List renaming set_cons_zero → aA, set_cons_succ → az
set_option maxRecDepth 100000 in
set_option maxHeartbeats 1000000 in
theorem ri (m : Mly) (p : Mpr) (xs : List Int) (a : Int) (hm : MOK m) (hp : POK p) (hi : m.inp = p.inp) (hs : SB m p xs) : ch Tryd.prog 46 [m.av, p.av, .one (.list (.pair (.int .i64) (.pair (.int .i64) .unit)) (List.map (dcE m) xs)), .one (.int .i64 a)] (.tup [.one (.list (.int .i64) (aO m p xs a)), .one (.list (.pair (.int .i64) (.pair (.int .i64) .unit)) (List.map (dcE m) (aN m p xs a)))]) := by
 have hxl := hs.len hm hp; have hx0 := hs.pos; have hn1 := hm.n1; have hn2 := hm.n2; have p1 := hp.i1; have p2 := hp.i2; have a7 := hp.sl; have ol := hm.ol; have b1 := hp.n1; have b2 := hp.n2
 refine bp Tryd.func46 rfl (by kernel_rfl) (Nat.le_of_ble_eq_true rfl) rfl fun C hP hN hB => ?_
 replace hN : C.N = 93 := hN
 simp only [a8, E]
 refine aa fun K1 hK1 => ?_
 refine aj hP hN rfl ?_
 iterate 4 (refine ad rfl fun K0 Y => ?_; simp only [zE, op1, ev, lkp, ah, ag, cA, au, reduceCtorEq, G, E, J, V, M, U, Tryd.el25, Tryd.el95, Tryd.st24, Tryd.st47, Tryd.td24, Tryd.td25, Tryd.td47, Tryd.td95, Mly.av, Mpr.av, Int.toNat_natCast, List.length_map]; (repeat refine And.intro (by first | omega | assumption | exact rfl) ?_); refine Y _ ?_; clear Y K0; simp only [put, app, a9, af, zE, zS, E])
 refine ai ?_
 refine hK1 _ ?_; clear hK1; refine ae [0, 1, 2, 3, 4, 5, 8, 9] ?_; simp only [Z, lkp, zE, reduceCtorEq, G, a8, E]
 refine aa fun K2 hK2 => ?_
 refine aj hP hN rfl ?_
 (refine ad rfl fun K0 Y => ?_; simp only [zE, op1, ev, lkp, ah, ag, ev, reduceCtorEq, G, E, J, V, M, U, Tryd.el25, Tryd.td25, Mly.av, Mpr.av, Int.toNat_natCast, List.length_map]; refine Y _ ?_; clear Y K0; simp only [put, app, a9, af, zE, zS, E])
 refine ai ?_
 refine hK2 _ ?_; clear hK2; refine ae [0, 1, 2, 3, 4, 5, 8, 9, 10] ?_; simp only [Z, lkp, zE, reduceCtorEq, G, a8, E]
 refine aa fun K3 hK3 => ?_
 refine aj hP hN rfl ?_
 (refine ad rfl fun K0 Y => ?_; simp only [zE, op1, ev, lkp, ah, ag, ev, reduceCtorEq, G, E, J, V, M, U, Tryd.el95, Tryd.td95, Mly.av, Mpr.av, Int.toNat_natCast, List.length_map]; refine Y _ ?_; clear Y K0; simp only [put, app, a9, af, zE, zS, E])
 refine ai ?_
 refine hK3 _ ?_; clear hK3; refine ae [0, 1, 2, 3, 4, 5, 8, 9, 10, 11] ?_; simp only [Z, lkp, zE, reduceCtorEq, G, a8, E]
 refine aa fun K4 hK4 => ?_
 refine aa fun K5 hK5 => ?_
 refine aj hP hN rfl ?_
 (refine ad rfl fun K0 Y => ?_; simp only [zE, op1, ev, lkp, ah, ag, ev, reduceCtorEq, G, E, J, V, M, U, Tryd.td3, Mly.av, Mpr.av, Int.toNat_natCast, List.length_map]; refine Y _ ?_; clear Y K0; simp only [put, app, a9, af, zE, zS, E])
 refine ai ?_
 refine hK5 _ ?_; clear hK5; refine ae [0, 1, 2, 3, 4, 5, 8, 9, 10, 11, 12] ?_; simp only [Z, lkp, zE, reduceCtorEq, G, a8, E]
 refine aW ?_
 refine o0 10 (v' := .one (.list (.int .i64) [])) rfl (jB (aH rfl)) ?_
 refine o0 11 (v' := .one (.list (.pair (.int .i64) (.pair (.int .i64) .unit)) [])) rfl (jB (aH rfl)) ?_
 refine bM (fun n6 s6 => ∃ (k : Nat), (k ≤ xs.length) ∧ n6 = xs.length - k ∧ s6 = { env := [(2, .one (.list (.pair (.int .i64) (.pair (.int .i64) .unit)) (List.map (dcE m) xs))), (3, .one (.int .i64 a)), (4, .one (.ptr 0 0 0 0)), (5, .one (.ptr 1 0 0 0)), (8, .one .nils), (9, .one .nils), (10, .one (.list (.int .i64) (d4 (oA m p (xs.take k) a)))), (11, .one (.list (.pair (.int .i64) (.pair (.int .i64) .unit)) (List.map (dcE m) (d4 (nA m p (xs.take k) a))))), (12, .one (.int .i64 (k : Int)))], L := [.vars 47 [.int .i64 m.inp, .int .i64 m.st, .list (.list (.int .i64)) m.nx, .list (.list (.int .i64)) m.ot], .vars 24 [.int .i64 p.inp, .int .i64 p.ab, .int .i64 p.st, .list (.list (.int .i64)) p.nx, .list (.list (.int .i64)) p.sy]] }) ?_ ?_
 ·refine ⟨_, _, aS [2, 3, 4, 5, 8, 9, 10, 11, 12], 0, Nat.zero_le _, rfl, ?_⟩
  rw [show oA m p (xs.take 0) a = [] from rfl, show nA m p (xs.take 0) a = [] from rfl, oF]; rfl
 ·rintro n6 s6 ⟨k, hk, rfl, rfl⟩
  refine aa fun K7 hK7 => ?_
  refine aa fun K8 hK8 => ?_
  refine aj hP hN rfl ?_
  iterate 4 (refine ad rfl fun K0 Y => ?_; simp only [zE, op1, ev, lkp, ah, ag, aF, bu, bh, ba, bb, bq, Nat.div_one, aK, bf, Ty.size, aL, dite_true, aC, aD, aE, ao, aB, aR, reduceCtorEq, G, E, J, V, M, U, Tryd.el95, Tryd.td3, Tryd.td4, Tryd.td95, Mly.av, Mpr.av, Int.toNat_natCast, List.length_map]; (repeat refine And.intro (by first | omega | assumption | exact rfl) ?_); (first | refine Y _ ?_ | refine Or.inl (Y _ ?_)); clear Y K0; simp only [put, app, a9, af, zE, zS, E])
  refine ai ?_
  refine hK8 _ ?_; clear hK8; refine ae [2, 3, 4, 5, 8, 9, 10, 11, 12, 18] ?_; simp only [Z, lkp, zE, reduceCtorEq, G, a8, E]
  refine aG (by simp only [ev, Z, lkp, zE, reduceCtorEq, G, a8, E]; exact rfl) (fun hc9 => ?_) (fun hc9 => ?_)
  ·(try simp only [zB, reduceCtorEq] at hc9)
   refine aJ ?_
   refine hK7 _ ?_; clear hK7; refine ae [2, 3, 4, 5, 8, 9, 10, 11, 12, 18] ?_; simp only [Z, lkp, zE, reduceCtorEq, G, a8, E]
   refine aa fun K10 hK10 => ?_
   refine aW ?_
   refine aa fun K11 hK11 => ?_
   have hxr := hs.rng (xs.getD k 0) (cJ (w := xs) (i := k) (by omega))
   have hq00 := (eE hm hp hi hxr (c := 0) (by omega)).1
   have hol := l7 (m := m) (p := p) hp.i2 (xs.take k) a; rw [List.length_take] at hol
   have hgj : ∀ d, (List.map (dcE m) xs).getD k d = ((qxN m (xs.getD k 0) : Int), ((sxN m (xs.getD k 0) : Int), ())) := fun d => gO (by omega) d
   have hgi : gt (.pair (.int .i64) (.pair (.int .i64) .unit)) (List.map (dcE m) xs) (k : Int) = ((qxN m (xs.getD k 0) : Int), ((sxN m (xs.getD k 0) : Int), ())) := hgj _
   refine aj hP hN rfl ?_
   (refine ad rfl fun K0 Y => ?_; simp only [zE, op1, ev, lkp, ah, ag, ev, reduceCtorEq, G, E, J, V, M, U, Tryd.td4, Mly.av, Mpr.av, Int.toNat_natCast, List.length_map]; refine Y _ ?_; clear Y K0; simp only [put, app, a9, af, zE, zS, E])
   refine ai ?_
   refine hK11 _ ?_; clear hK11; refine ae [2, 3, 4, 5, 8, 9, 10, 11, 12, 13, 18] ?_; simp only [Z, lkp, zE, reduceCtorEq, G, a8, E]
   refine aa fun K12 hK12 => ?_
   refine aa fun K13 hK13 => ?_
   refine aj hP hN rfl ?_
   (refine ad rfl fun K0 Y => ?_; simp only [zE, op1, ev, lkp, ah, ag, ev, reduceCtorEq, G, E, J, V, M, U, Tryd.td3, Mly.av, Mpr.av, Int.toNat_natCast, List.length_map]; refine Y _ ?_; clear Y K0; simp only [put, app, a9, af, zE, zS, E])
   refine ai ?_
   refine hK13 _ ?_; clear hK13; refine ae [2, 3, 4, 5, 8, 9, 10, 11, 12, 13, 14, 18] ?_; simp only [Z, lkp, zE, reduceCtorEq, G, a8, E]
   refine aW ?_
   refine bM (fun n14 s14 => ∃ (c : Nat), ((c : Int) ≤ p.inp) ∧ n14 = p.inp.toNat - c ∧ s14 = { env := [(2, .one (.list (.pair (.int .i64) (.pair (.int .i64) .unit)) (List.map (dcE m) xs))), (3, .one (.int .i64 a)), (4, .one (.ptr 0 0 0 0)), (5, .one (.ptr 1 0 0 0)), (8, .one .nils), (9, .one .nils), (10, .one (.list (.int .i64) (d4 (oA m p (xs.take k) a ++ oK m p (xs.getD k 0) a c)))), (11, .one (.list (.pair (.int .i64) (.pair (.int .i64) .unit)) (List.map (dcE m) (d4 (nA m p (xs.take k) a ++ nK m p (xs.getD k 0) a c))))), (12, .one (.int .i64 (k : Int))), (13, .one (.bool (cK p (qxN m (xs.getD k 0)) a c).isEmpty)), (14, .one (.int .i64 (c : Int)))], L := [.vars 47 [.int .i64 m.inp, .int .i64 m.st, .list (.list (.int .i64)) m.nx, .list (.list (.int .i64)) m.ot], .vars 24 [.int .i64 p.inp, .int .i64 p.ab, .int .i64 p.st, .list (.list (.int .i64)) p.nx, .list (.list (.int .i64)) p.sy]] }) ?_ ?_
   ·refine ⟨_, _, aS [2, 3, 4, 5, 8, 9, 10, 11, 12, 13, 14], 0, by omega, rfl, ?_⟩
    rw [ml, lR, List.append_nil, List.append_nil]; rfl
   ·rintro n14 s14 ⟨c, hc, rfl, rfl⟩
    refine aa fun K15 hK15 => ?_
    refine aa fun K16 hK16 => ?_
    refine aj hP hN rfl ?_
    iterate 4 (refine ad rfl fun K0 Y => ?_; simp only [zE, op1, ev, lkp, ah, ag, am, ay, Nat.mul_one, aw, ax, acs, Ty.dflt, zG, aq, aC, aD, aE, ao, aB, aR, reduceCtorEq, G, E, J, V, M, U, Tryd.st24, Tryd.td24, Tryd.td3, Tryd.td4, Mly.av, Mpr.av, Int.toNat_natCast, List.length_map]; (repeat refine And.intro (by first | omega | assumption | exact rfl) ?_); refine Y _ ?_; clear Y K0; simp only [put, app, a9, af, zE, zS, E])
    refine ai ?_
    refine hK16 _ ?_; clear hK16; refine ae [2, 3, 4, 5, 8, 9, 10, 11, 12, 13, 14, 24] ?_; simp only [Z, lkp, zE, reduceCtorEq, G, a8, E]
    refine aG (by simp only [ev, Z, lkp, zE, reduceCtorEq, G, a8, E]; exact rfl) (fun hc17 => ?_) (fun hc17 => ?_)
    ·(try simp only [zB, reduceCtorEq] at hc17)
     refine aJ ?_
     refine hK15 _ ?_; clear hK15; refine ae [2, 3, 4, 5, 8, 9, 10, 11, 12, 13, 14, 24] ?_; simp only [Z, lkp, zE, reduceCtorEq, G, a8, E]
     refine aa fun K18 hK18 => ?_
     refine aW ?_
     refine aa fun K19 hK19 => ?_
     obtain ⟨⟨hq9, hs9⟩, hm9, hn9⟩ := eE hm hp hi hxr (c := c) (by omega)
     have hor := hm.or _ c hs9 (by omega); have r1 := hp.rl _ hq9; have r2 := hp.ql _ hq9; have r3 := hm.rl _ hs9; have r4 := hm.ql _ hs9
     have hkl := gJ (m := m) (p := p) (xs.getD k 0) a c
     have ha1 : (oA m p (xs.take k) a ++ oK m p (xs.getD k 0) a c).length = (oA m p (xs.take k) a).length + (oK m p (xs.getD k 0) a c).length := List.length_append
     have ha2 : (nA m p (xs.take k) a ++ nK m p (xs.getD k 0) a c).length = (nA m p (xs.take k) a).length + (nK m p (xs.getD k 0) a c).length := List.length_append
     have hu1 := eS (oA m p (xs.take k) a ++ oK m p (xs.getD k 0) a c); have hu2 := eS (nA m p (xs.take k) a ++ nK m p (xs.getD k 0) a c)
     obtain ⟨hsp1, hsp2⟩ := oH hm hp hi hxr (c := c) (by omega)
     have hnn : ∀ y ∈ (d4 (nA m p (xs.take k) a ++ nK m p (xs.getD k 0) a c)), 0 ≤ y := qu fun y hy => by
       rcases List.mem_append.1 hy with h9 | h9
       · exact ry hm hp hi (fun x hx => hs.rng x (List.mem_of_mem_take hx)) a y h9
       · exact rB hm hp hi hxr a (by omega) y h9
     refine bW hP hN Tryd.mixed rfl ?_
     iterate 14 (refine ad rfl fun K0 Y => ?_; simp only [zE, op1, ev, lkp, ah, ag, am, ay, Nat.mul_one, aw, ax, acs, Ty.dflt, zG, aq, aI, Ty.size, ne_eq, not_false_eq_true, Int.natCast_one, Int.mul_one, aC, aD, aE, ao, aB, aR, reduceCtorEq, G, E, J, V, M, U, Tryd.el22, Tryd.el25, Tryd.el95, Tryd.fl94, Tryd.st24, Tryd.st94, Tryd.td22, Tryd.td24, Tryd.td25, Tryd.td3, Tryd.td4, Tryd.td94, Tryd.td95, Mly.av, Mpr.av, Int.toNat_natCast, List.length_map, hgi, hgj]; (repeat refine And.intro (by first | omega | assumption | exact rfl) ?_); refine Y _ ?_; clear Y K0; simp only [put, app, a9, af, zE, zS, E])
     refine ai ?_
     refine ⟨by kernel_rfl, ?_⟩
     refine hK19 _ ?_; clear hK19; refine ae [2, 3, 4, 5, 8, 9, 10, 11, 12, 13, 14, 24, 40] ?_; simp only [Z, lkp, zE, reduceCtorEq, G, a8, E]
     refine aG (by simp only [ev, Z, lkp, zE, reduceCtorEq, G, a8, E]; exact rfl) (fun hc20 => ?_) (fun hc20 => ?_)
     ·(try simp only [zB, reduceCtorEq] at hc20)
      have hy : (p.sy.getD (qxN m (xs.getD k 0)) []).getD c 0 = a := by simpa using hc20
      refine aa fun K21 hK21 => ?_
      refine aj hP hN rfl ?_
      (refine ad rfl fun K0 Y => ?_; simp only [zE, op1, ev, lkp, ah, ag, ev, reduceCtorEq, G, E, J, V, M, U, Tryd.td4, Mly.av, Mpr.av, Int.toNat_natCast, List.length_map]; refine Y _ ?_; clear Y K0; simp only [put, app, a9, af, zE, zS, E])
      refine ai ?_
      refine hK21 _ ?_; clear hK21; refine ae [2, 3, 4, 5, 8, 9, 10, 11, 12, 13, 14, 24, 40] ?_; simp only [Z, lkp, zE, reduceCtorEq, G, a8, E]
      refine aa fun K22 hK22 => ?_
      refine bW hP hN Tryd.mixed rfl ?_
      iterate 14 (refine ad rfl fun K0 Y => ?_; simp only [zE, op1, ev, lkp, ah, ag, am, ay, Nat.mul_one, aw, ax, acs, Ty.dflt, zG, aq, aI, Ty.size, ne_eq, not_false_eq_true, Int.natCast_one, Int.mul_one, aC, aD, aE, ao, aB, aR, reduceCtorEq, G, E, J, V, M, U, Tryd.el22, Tryd.el25, Tryd.el95, Tryd.fl94, Tryd.st47, Tryd.st94, Tryd.td1, Tryd.td22, Tryd.td25, Tryd.td3, Tryd.td47, Tryd.td94, Tryd.td95, Mly.av, Mpr.av, Int.toNat_natCast, List.length_map, hgi, hgj]; (repeat refine And.intro (by first | omega | assumption | exact rfl) ?_); refine Y _ ?_; clear Y K0; simp only [put, app, a9, af, zE, zS, E])
      refine ad rfl fun K0 Y => ?_
      refine bc (h := aU (nY (d4 (oA m p (xs.take k) a ++ oK m p (xs.getD k 0) a c)) (1 + (m.ot.getD (sxN m (xs.getD k 0)) []).getD c 0) (cz _).1 (by omega))) rfl rfl (by first | exact rfl | (simp only [ev, Z, lkp, zE, reduceCtorEq, G, a8, E]; exact rfl)) (by simp only [zE, zG, op1, ev, lkp, ah, ag, au, acs, br, mv1, mvC, Ty.dflt, reduceCtorEq, G, E, J, V, M, U, Mly.av, Mpr.av, Int.toNat_natCast, List.length_map, hgi, hgj]) ?_
      refine Y _ ?_; clear Y K0; simp only [put, app, a9, af, zE, zS, E]
      (refine ad rfl fun K0 Y => ?_; simp only [zE, op1, ev, lkp, ah, ag, ev, reduceCtorEq, G, E, J, V, M, U, Tryd.el25, Tryd.td25, Mly.av, Mpr.av, Int.toNat_natCast, List.length_map, hgi, hgj]; refine Y _ ?_; clear Y K0; simp only [put, app, a9, af, zE, zS, E])
      refine ai ?_
      refine ⟨by kernel_rfl, ?_⟩
      refine hK22 _ ?_; clear hK22; refine ae [2, 3, 4, 5, 8, 9, 10, 11, 12, 13, 14, 24, 40] ?_; simp only [Z, lkp, zE, reduceCtorEq, G, a8, E]
      refine bW hP hN Tryd.mixed rfl ?_
      iterate 26 (refine ad rfl fun K0 Y => ?_; simp only [zE, op1, ev, lkp, ah, ag, am, ay, Nat.mul_one, aw, ax, acs, Ty.dflt, zG, aq, aI, Ty.size, ne_eq, not_false_eq_true, Int.natCast_one, Int.mul_one, c9, b9, aQ, au, reduceCtorEq, G, E, J, V, M, U, Tryd.el22, Tryd.el25, Tryd.el95, Tryd.fl94, Tryd.st24, Tryd.st47, Tryd.st94, Tryd.td1, Tryd.td2, Tryd.td22, Tryd.td24, Tryd.td25, Tryd.td3, Tryd.td47, Tryd.td94, Tryd.td95, Mly.av, Mpr.av, Int.toNat_natCast, List.length_map, hgi, hgj]; (repeat refine And.intro (by first | omega | assumption | exact rfl) ?_); (first | refine Y _ ?_ | refine Or.inl (Y _ ?_)); clear Y K0; simp only [put, app, a9, af, zE, zS, E])
      refine ad rfl fun K0 Y => ?_
      refine bc (h := aU (qY m (d4 (nA m p (xs.take k) a ++ nK m p (xs.getD k 0) a c)) (nC m p (xs.getD k 0) c) _ _ (cz _).1 (by omega) hn1 hnn (by omega) hsp1 hsp2)) rfl rfl (by first | exact rfl | (simp only [ev, Z, lkp, zE, reduceCtorEq, G, a8, E]; exact rfl)) (by simp only [zE, zG, op1, ev, lkp, ah, ag, au, acs, br, mv1, mvC, Ty.dflt, reduceCtorEq, G, E, J, V, M, U, Mly.av, Mpr.av, Int.toNat_natCast, List.length_map, hgi, hgj]) ?_
      refine Y _ ?_; clear Y K0; simp only [put, app, a9, af, zE, zS, E]
      (refine ad rfl fun K0 Y => ?_; simp only [zE, op1, ev, lkp, ah, ag, ev, reduceCtorEq, G, E, J, V, M, U, Tryd.el95, Tryd.td95, Mly.av, Mpr.av, Int.toNat_natCast, List.length_map, hgi, hgj]; refine Y _ ?_; clear Y K0; simp only [put, app, a9, af, zE, zS, E])
      refine ai ?_
      refine ⟨by kernel_rfl, ?_⟩
      refine hK18 _ ?_; clear hK18; refine ae [2, 3, 4, 5, 8, 9, 10, 11, 12, 13, 14, 24, 40] ?_; simp only [Z, lkp, zE, reduceCtorEq, G, a8, E]
      refine aj hP hN rfl ?_
      iterate 3 (refine ad rfl fun K0 Y => ?_; simp only [zE, op1, ev, lkp, ah, ag, aC, aD, aE, ao, aB, aR, reduceCtorEq, G, E, J, V, M, U, Tryd.td3, Mly.av, Mpr.av, Int.toNat_natCast, List.length_map]; (repeat refine And.intro (by first | omega | assumption | exact rfl) ?_); refine Y _ ?_; clear Y K0; simp only [put, app, a9, af, zE, zS, E])
      refine ai ?_
      first
      | (refine ⟨_, _, ?_, aS [2, 3, 4, 5, 8, 9, 10, 11, 12, 13, 14], c + 1, by omega, rfl, ?_⟩
         · omega
         · rw [li hy, jb hy, jd hy, ← List.append_assoc, ← List.append_assoc, dA, dA]; rfl)
      | (refine ⟨_, _, ?_, aS [2, 3, 4, 5, 8, 9, 10, 11, 12, 13, 14], c + 1, by omega, rfl, ?_⟩
         · omega
         · rw [jA hy, (fK hy).1, (fK hy).2]; rfl)
     ·(try simp only [zB, reduceCtorEq] at hc20)
      have hy : ¬ (p.sy.getD (qxN m (xs.getD k 0)) []).getD c 0 = a := by simpa using hc20
      refine aJ ?_
      refine hK18 _ ?_; clear hK18; refine ae [2, 3, 4, 5, 8, 9, 10, 11, 12, 13, 14, 24, 40] ?_; simp only [Z, lkp, zE, reduceCtorEq, G, a8, E]
      refine aj hP hN rfl ?_
      iterate 3 (refine ad rfl fun K0 Y => ?_; simp only [zE, op1, ev, lkp, ah, ag, aC, aD, aE, ao, aB, aR, reduceCtorEq, G, E, J, V, M, U, Tryd.td3, Mly.av, Mpr.av, Int.toNat_natCast, List.length_map]; (repeat refine And.intro (by first | omega | assumption | exact rfl) ?_); refine Y _ ?_; clear Y K0; simp only [put, app, a9, af, zE, zS, E])
      refine ai ?_
      first
      | (refine ⟨_, _, ?_, aS [2, 3, 4, 5, 8, 9, 10, 11, 12, 13, 14], c + 1, by omega, rfl, ?_⟩
         · omega
         · rw [li hy, jb hy, jd hy, ← List.append_assoc, ← List.append_assoc, dA, dA]; rfl)
      | (refine ⟨_, _, ?_, aS [2, 3, 4, 5, 8, 9, 10, 11, 12, 13, 14], c + 1, by omega, rfl, ?_⟩
         · omega
         · rw [jA hy, (fK hy).1, (fK hy).2]; rfl)
    ·(try simp only [zB, reduceCtorEq] at hc17)
     refine bK ?_
     refine hK12 _ ?_; clear hK12; refine ae [2, 3, 4, 5, 8, 9, 10, 11, 12, 13, 14, 24] ?_; simp only [Z, lkp, zE, reduceCtorEq, G, a8, E]
     refine aa fun K23 hK23 => ?_
     have hcp : p.inp.toNat = c := by omega
     have ha1 : (oA m p (xs.take k) a ++ oK m p (xs.getD k 0) a p.inp.toNat).length = (oA m p (xs.take k) a).length + (oK m p (xs.getD k 0) a p.inp.toNat).length := List.length_append
     have hkl := gJ (m := m) (p := p) (xs.getD k 0) a p.inp.toNat
     have hu1 := eS (oA m p (xs.take k) a ++ oK m p (xs.getD k 0) a p.inp.toNat)
     rw [← hcp]
     refine aj hP hN rfl ?_
     (refine ad rfl fun K0 Y => ?_; simp only [zE, op1, ev, lkp, ah, ag, ev, reduceCtorEq, G, E, J, V, M, U, Tryd.td4, Mly.av, Mpr.av, Int.toNat_natCast, List.length_map]; refine Y _ ?_; clear Y K0; simp only [put, app, a9, af, zE, zS, E])
     refine ai ?_
     refine hK23 _ ?_; clear hK23; refine ae [2, 3, 4, 5, 8, 9, 10, 11, 12, 13, 14, 24, 83] ?_; simp only [Z, lkp, zE, reduceCtorEq, G, a8, E]
     refine aG (by simp only [ev, Z, lkp, zE, reduceCtorEq, G, a8, E]; exact rfl) (fun hc24 => ?_) (fun hc24 => ?_)
     ·(try simp only [zB, reduceCtorEq] at hc24)
      have he : cK p (qxN m (xs.getD k 0)) a p.inp.toNat = [] := by simpa [show p.inp.toNat = c by omega] using hc24
      refine aj hP hN rfl ?_
      (refine ad rfl fun K0 Y => ?_; simp only [zE, op1, ev, lkp, ah, ag, ev, reduceCtorEq, G, E, J, V, M, U, Tryd.el25, Tryd.td25, Mly.av, Mpr.av, Int.toNat_natCast, List.length_map]; refine Y _ ?_; clear Y K0; simp only [put, app, a9, af, zE, zS, E])
      refine ad rfl fun K0 Y => ?_
      refine bc (h := aU (nY (d4 (oA m p (xs.take k) a ++ oK m p (xs.getD k 0) a p.inp.toNat)) 0 (cz _).1 (by omega))) rfl rfl (by first | exact rfl | (simp only [ev, Z, lkp, zE, reduceCtorEq, G, a8, E]; exact rfl)) (by simp only [zE, zG, op1, ev, lkp, ah, ag, au, acs, br, mv1, mvC, Ty.dflt, reduceCtorEq, G, E, J, V, M, U, Mly.av, Mpr.av, Int.toNat_natCast, List.length_map]) ?_
      refine Y _ ?_; clear Y K0; simp only [put, app, a9, af, zE, zS, E]
      (refine ad rfl fun K0 Y => ?_; simp only [zE, op1, ev, lkp, ah, ag, ev, reduceCtorEq, G, E, J, V, M, U, Tryd.el25, Tryd.td25, Mly.av, Mpr.av, Int.toNat_natCast, List.length_map]; refine Y _ ?_; clear Y K0; simp only [put, app, a9, af, zE, zS, E])
      refine ai ?_
      refine hK10 _ ?_; clear hK10; refine ae [2, 3, 4, 5, 8, 9, 10, 11, 12, 13, 14, 24, 83] ?_; simp only [Z, lkp, zE, reduceCtorEq, G, a8, E]
      refine aj hP hN rfl ?_
      iterate 3 (refine ad rfl fun K0 Y => ?_; simp only [zE, op1, ev, lkp, ah, ag, aC, aD, aE, ao, aB, aR, reduceCtorEq, G, E, J, V, M, U, Tryd.td3, Mly.av, Mpr.av, Int.toNat_natCast, List.length_map]; (repeat refine And.intro (by first | omega | assumption | exact rfl) ?_); refine Y _ ?_; clear Y K0; simp only [put, app, a9, af, zE, zS, E])
      refine ai ?_
      first
      | (refine ⟨_, _, ?_, aS [2, 3, 4, 5, 8, 9, 10, 11, 12], k + 1, by omega, rfl, ?_⟩
         · omega
         · rw [nW (by omega) he, dK (by omega), dA]; rfl)
      | (refine ⟨_, _, ?_, aS [2, 3, 4, 5, 8, 9, 10, 11, 12], k + 1, by omega, rfl, ?_⟩
         · omega
         · rw [nE (by omega) he, dK (by omega)]; rfl)
     ·(try simp only [zB, reduceCtorEq] at hc24)
      have he : ¬ cK p (qxN m (xs.getD k 0)) a p.inp.toNat = [] := by simpa [show p.inp.toNat = c by omega] using hc24
      refine aJ ?_
      refine hK10 _ ?_; clear hK10; refine ae [2, 3, 4, 5, 8, 9, 10, 11, 12, 13, 14, 24, 83] ?_; simp only [Z, lkp, zE, reduceCtorEq, G, a8, E]
      refine aj hP hN rfl ?_
      iterate 3 (refine ad rfl fun K0 Y => ?_; simp only [zE, op1, ev, lkp, ah, ag, aC, aD, aE, ao, aB, aR, reduceCtorEq, G, E, J, V, M, U, Tryd.td3, Mly.av, Mpr.av, Int.toNat_natCast, List.length_map]; (repeat refine And.intro (by first | omega | assumption | exact rfl) ?_); refine Y _ ?_; clear Y K0; simp only [put, app, a9, af, zE, zS, E])
      refine ai ?_
      first
      | (refine ⟨_, _, ?_, aS [2, 3, 4, 5, 8, 9, 10, 11, 12], k + 1, by omega, rfl, ?_⟩
         · omega
         · rw [nW (by omega) he, dK (by omega), dA]; rfl)
      | (refine ⟨_, _, ?_, aS [2, 3, 4, 5, 8, 9, 10, 11, 12], k + 1, by omega, rfl, ?_⟩
         · omega
         · rw [nE (by omega) he, dK (by omega)]; rfl)
  ·(try simp only [zB, reduceCtorEq] at hc9)
   refine bK ?_
   refine hK4 _ ?_; clear hK4; refine ae [2, 3, 4, 5, 8, 9, 10, 11, 12, 18] ?_; simp only [Z, lkp, zE, reduceCtorEq, G, a8, E]
   refine aa fun K25 hK25 => ?_
   refine aa fun K26 hK26 => ?_
   have hkw : k = xs.length := by omega
   rw [hkw, List.take_length]
   refine aj hP hN rfl ?_
   iterate 3 (refine ad rfl fun K0 Y => ?_; simp only [zE, op1, ev, lkp, ah, ag, aF, bu, bh, ba, bb, bq, Nat.div_one, aK, bf, Ty.size, aL, dite_true, aC, aD, aE, ao, aB, aR, reduceCtorEq, G, E, J, V, M, U, Tryd.el95, Tryd.td3, Tryd.td4, Tryd.td95, Mly.av, Mpr.av, Int.toNat_natCast, List.length_map]; (repeat refine And.intro (by first | omega | assumption | exact rfl) ?_); (first | refine Y _ ?_ | refine Or.inl (Y _ ?_)); clear Y K0; simp only [put, app, a9, af, zE, zS, E])
   refine ai ?_
   refine hK26 _ ?_; clear hK26; refine ae [2, 3, 4, 5, 8, 9, 10, 11, 12, 18, 88] ?_; simp only [Z, lkp, zE, reduceCtorEq, G, a8, E]
   refine aG (by simp only [ev, Z, lkp, zE, reduceCtorEq, G, a8, E]; exact rfl) (fun hc27 => ?_) (fun hc27 => ?_)
   ·(try simp only [zB, reduceCtorEq] at hc27)
    have hNa := rI (a := a) hs (by omega)
    refine aa fun K28 hK28 => ?_
    refine aj hP hN rfl ?_
    iterate 4 (refine ad rfl fun K0 Y => ?_; simp only [zE, op1, ev, lkp, ah, ag, ev, reduceCtorEq, G, E, J, V, M, U, Tryd.el25, Tryd.el95, Tryd.td25, Tryd.td95, Mly.av, Mpr.av, Int.toNat_natCast, List.length_map]; refine Y _ ?_; clear Y K0; simp only [put, app, a9, af, zE, zS, E])
    refine ai ?_
    refine hK28 _ ?_; clear hK28; refine ae [2, 3, 4, 5, 8, 9, 10, 11, 12, 18, 88] ?_; simp only [Z, lkp, zE, reduceCtorEq, G, a8, E]
    refine aP ?_
    refine ⟨by first | exact .inl rfl | exact .inr rfl, _, rfl, ?_⟩; simp only [fzV, fz1, fzC, List.map_cons, List.map_nil, Z, lkp, zE, reduceCtorEq, G, a8, E, Mly.av, Mpr.av, Int.toNat_natCast, List.length_map]
    refine VLE.of_eq ?_
    rw [hNa]; rfl
   ·(try simp only [zB, reduceCtorEq] at hc27)
    have hNa := rL (m := m) (p := p) (xs := xs) (a := a) (by omega)
    refine aJ ?_
    refine hK25 _ ?_; clear hK25; refine ae [2, 3, 4, 5, 8, 9, 10, 11, 12, 18, 88] ?_; simp only [Z, lkp, zE, reduceCtorEq, G, a8, E]
    refine aa fun K29 hK29 => ?_
    refine aj hP hN rfl ?_
    iterate 4 (refine ad rfl fun K0 Y => ?_; simp only [zE, op1, ev, lkp, ah, ag, ev, reduceCtorEq, G, E, J, V, M, U, Tryd.el25, Tryd.el95, Tryd.td25, Tryd.td95, Mly.av, Mpr.av, Int.toNat_natCast, List.length_map]; refine Y _ ?_; clear Y K0; simp only [put, app, a9, af, zE, zS, E])
    refine ai ?_
    refine hK29 _ ?_; clear hK29; refine ae [2, 3, 4, 5, 8, 9, 10, 11, 12, 18, 88] ?_; simp only [Z, lkp, zE, reduceCtorEq, G, a8, E]
    refine aP ?_
    refine ⟨by first | exact .inl rfl | exact .inr rfl, _, rfl, ?_⟩; simp only [fzV, fz1, fzC, List.map_cons, List.map_nil, Z, lkp, zE, reduceCtorEq, G, a8, E, Mly.av, Mpr.av, Int.toNat_natCast, List.length_map]
    refine VLE.of_eq ?_
    rw [hNa]; rfl
end Go.Proofs.YtgmgnkmgofkfpaaDoor
namespace Go.Proofs.YtgmgnkmgofkfpaaDoor
open Go Go.AV
open Nat renaming reduceEqDiff → G, reduceAdd → E, reduceLeDiff → J, reduceLT → V, reduceMul → M, reduceSub → U
open List renaming set_cons_zero → aA, set_cons_succ → az
set_option maxRecDepth 100000 in
theorem rb (m : Mly) (l l2 : List Int) (hb : l.length ≤ 1000000) (hm1 : 1 ≤ m.nx.length) (h0 : ∀ x ∈ l, 0 ≤ x) (h2 : ∀ x ∈ l2, 0 ≤ x) : ch Tryd.prog 60 [.one (.list (.pair (.int .i64) (.pair (.int .i64) .unit)) (List.map (dcE m) l)), .one (.list (.pair (.int .i64) (.pair (.int .i64) .unit)) (List.map (dcE m) l2))] (.one (.bool (decide (l = l2)))) := by
 refine bp Tryd.func60 rfl (by kernel_rfl) (Nat.le_of_ble_eq_true rfl) rfl fun C hP hN hB => ?_
 replace hN : C.N = 26 := hN
 simp only [a8, E]
 refine aa fun K1 hK1 => ?_
 refine aj hP hN rfl ?_
 (refine ad rfl fun K0 Y => ?_; simp only [zE, op1, ev, lkp, ah, ag, ev, reduceCtorEq, G, E, J, V, M, U, Tryd.td4, List.length_map]; refine Y _ ?_; clear Y K0; simp only [put, app, a9, af, zE, zS, E])
 refine ai ?_
 refine hK1 _ ?_; clear hK1; refine ae [0, 1, 4] ?_; simp only [Z, lkp, zE, reduceCtorEq, G, a8, E]
 refine aa fun K2 hK2 => ?_
 refine aa fun K3 hK3 => ?_
 refine aj hP hN rfl ?_
 iterate 5 (refine ad rfl fun K0 Y => ?_; simp only [zE, op1, ev, lkp, ah, ag, aF, bu, bh, ba, bb, bq, Nat.div_one, aK, bf, Ty.size, aL, dite_true, aC, aD, aE, ao, aB, aR, reduceCtorEq, G, E, J, V, M, U, Tryd.el95, Tryd.td3, Tryd.td4, Tryd.td95, List.length_map]; (repeat refine And.intro (by first | omega | assumption | exact rfl) ?_); (first | refine Y _ ?_ | refine Or.inl (Y _ ?_)); clear Y K0; simp only [put, app, a9, af, zE, zS, E])
 refine ai ?_
 refine hK3 _ ?_; clear hK3; refine ae [0, 1, 4, 10] ?_; simp only [Z, lkp, zE, reduceCtorEq, G, a8, E]
 refine aG (by simp only [ev, Z, lkp, zE, reduceCtorEq, G, a8, E]; exact rfl) (fun hc4 => ?_) (fun hc4 => ?_)
 ·(try simp only [zB, reduceCtorEq] at hc4)
  have hne : ¬ l = l2 := fun e => by have h9 := hc4; rw [e] at h9; omega
  refine aa fun K5 hK5 => ?_
  refine aj hP hN rfl ?_
  (refine ad rfl fun K0 Y => ?_; simp only [zE, op1, ev, lkp, ah, ag, ev, reduceCtorEq, G, E, J, V, M, U, Tryd.td4, List.length_map]; refine Y _ ?_; clear Y K0; simp only [put, app, a9, af, zE, zS, E])
  refine ai ?_
  refine hK5 _ ?_; clear hK5; refine ae [0, 1, 4, 10] ?_; simp only [Z, lkp, zE, reduceCtorEq, G, a8, E]
  refine aP ?_
  refine ⟨by first | exact .inl rfl | exact .inr rfl, _, rfl, ?_⟩; simp only [fzV, fz1, fzC, List.map_cons, List.map_nil, Z, lkp, zE, reduceCtorEq, G, a8, E, List.length_map]
  refine VLE.of_eq ?_
  first
  | (rw [decide_eq_false hne]; done)
  | (have he : l = l2 := List.ext_getElem (by omega) fun j h1 h2 => by have := hq j (by omega); simpa [List.getD, h1, h2] using this
     rw [decide_eq_true he]; done)
  | (rw [decide_eq_false hne]; rfl)
 ·(try simp only [zB, reduceCtorEq] at hc4)
  have hll : l.length = l2.length := by omega
  refine aJ ?_
  refine hK2 _ ?_; clear hK2; refine ae [0, 1, 4, 10] ?_; simp only [Z, lkp, zE, reduceCtorEq, G, a8, E]
  refine aa fun K6 hK6 => ?_
  refine aa fun K7 hK7 => ?_
  refine aj hP hN rfl ?_
  (refine ad rfl fun K0 Y => ?_; simp only [zE, op1, ev, lkp, ah, ag, ev, reduceCtorEq, G, E, J, V, M, U, Tryd.td3, List.length_map]; refine Y _ ?_; clear Y K0; simp only [put, app, a9, af, zE, zS, E])
  refine ai ?_
  refine hK7 _ ?_; clear hK7; refine ae [0, 1, 4, 5, 10] ?_; simp only [Z, lkp, zE, reduceCtorEq, G, a8, E]
  refine aW ?_
  refine bM (fun n8 s8 => ∃ (k : Nat), (k ≤ l.length) ∧ (∀ j, j < k → l.getD j 0 = l2.getD j 0) ∧ n8 = l.length - k ∧ s8 = { env := [(0, .one (.list (.pair (.int .i64) (.pair (.int .i64) .unit)) (List.map (dcE m) l))), (1, .one (.list (.pair (.int .i64) (.pair (.int .i64) .unit)) (List.map (dcE m) l2))), (4, .one (.bool false)), (5, .one (.int .i64 (k : Int)))], L := [] }) ?_ ?_
  ·exact ⟨_, _, aS [0, 1, 4, 5], 0, Nat.zero_le _, fun j hj => by omega, rfl, rfl⟩
  ·rintro n8 s8 ⟨k, hk, hq, rfl, rfl⟩
   refine aa fun K9 hK9 => ?_
   refine aa fun K10 hK10 => ?_
   refine aj hP hN rfl ?_
   iterate 4 (refine ad rfl fun K0 Y => ?_; simp only [zE, op1, ev, lkp, ah, ag, aF, bu, bh, ba, bb, bq, Nat.div_one, aK, bf, Ty.size, aL, dite_true, aC, aD, aE, ao, aB, aR, reduceCtorEq, G, E, J, V, M, U, Tryd.el95, Tryd.td3, Tryd.td4, Tryd.td95, List.length_map]; (repeat refine And.intro (by first | omega | assumption | exact rfl) ?_); (first | refine Y _ ?_ | refine Or.inl (Y _ ?_)); clear Y K0; simp only [put, app, a9, af, zE, zS, E])
   refine ai ?_
   refine hK10 _ ?_; clear hK10; refine ae [0, 1, 4, 5, 14] ?_; simp only [Z, lkp, zE, reduceCtorEq, G, a8, E]
   refine aG (by simp only [ev, Z, lkp, zE, reduceCtorEq, G, a8, E]; exact rfl) (fun hc11 => ?_) (fun hc11 => ?_)
   ·(try simp only [zB, reduceCtorEq] at hc11)
    refine aJ ?_
    refine hK9 _ ?_; clear hK9; refine ae [0, 1, 4, 5, 14] ?_; simp only [Z, lkp, zE, reduceCtorEq, G, a8, E]
    refine aa fun K12 hK12 => ?_
    refine aW ?_
    refine aa fun K13 hK13 => ?_
    have hkl0 : k < l.length := by omega
    have hkl2 : k < l2.length := by omega
    have hdc := nc (m := m) (h0 _ (cJ hkl0)) (h2 _ (cJ hkl2)) hm1
    have hgi : gt (.pair (.int .i64) (.pair (.int .i64) .unit)) (List.map (dcE m) l) (k : Int) = ((qxN m (l.getD k 0) : Int), ((sxN m (l.getD k 0) : Int), ())) := gO hkl0 _
    have hgj : gt (.pair (.int .i64) (.pair (.int .i64) .unit)) (List.map (dcE m) l2) (k : Int) = ((qxN m (l2.getD k 0) : Int), ((sxN m (l2.getD k 0) : Int), ())) := gO hkl2 _
    refine bW hP hN Tryd.mixed rfl ?_
    iterate 9 (refine ad rfl fun K0 Y => ?_; simp only [zE, op1, ev, lkp, ah, ag, aI, zG, Ty.dflt, Ty.size, Nat.mul_one, ne_eq, not_false_eq_true, Int.natCast_one, Int.mul_one, ay, aw, ax, acs, aq, aC, aD, aE, ao, aB, aR, reduceCtorEq, G, E, J, V, M, U, Tryd.el95, Tryd.fl94, Tryd.st94, Tryd.td3, Tryd.td4, Tryd.td94, Tryd.td95, List.length_map, hgi, hgj]; (repeat refine And.intro (by first | omega | assumption | exact rfl) ?_); refine Y _ ?_; clear Y K0; simp only [put, app, a9, af, zE, zS, E])
    refine ai ?_
    refine ⟨by kernel_rfl, ?_⟩
    refine hK13 _ ?_; clear hK13; refine ae [0, 1, 4, 5, 14, 25] ?_; simp only [Z, lkp, zE, reduceCtorEq, G, a8, E]
    refine aG (by simp only [ev, Z, lkp, zE, reduceCtorEq, G, a8, E]; exact rfl) (fun hc14 => ?_) (fun hc14 => ?_)
    ·(try simp only [zB, reduceCtorEq] at hc14)
     have hne : ¬ l = l2 := fun e => by have h9 := hc14; rw [e] at h9; simp at h9
     refine aa fun K15 hK15 => ?_
     refine aj hP hN rfl ?_
     (refine ad rfl fun K0 Y => ?_; simp only [zE, op1, ev, lkp, ah, ag, ev, reduceCtorEq, G, E, J, V, M, U, Tryd.td4, List.length_map]; refine Y _ ?_; clear Y K0; simp only [put, app, a9, af, zE, zS, E])
     refine ai ?_
     refine hK15 _ ?_; clear hK15; refine ae [0, 1, 4, 5, 14, 25] ?_; simp only [Z, lkp, zE, reduceCtorEq, G, a8, E]
     refine aP ?_
     refine ⟨by first | exact .inl rfl | exact .inr rfl, _, rfl, ?_⟩; simp only [fzV, fz1, fzC, List.map_cons, List.map_nil, Z, lkp, zE, reduceCtorEq, G, a8, E, List.length_map]
     refine VLE.of_eq ?_
     first
     | (rw [decide_eq_false hne]; done)
     | (have he : l = l2 := List.ext_getElem (by omega) fun j h1 h2 => by have := hq j (by omega); simpa [List.getD, h1, h2] using this
        rw [decide_eq_true he]; done)
     | (rw [decide_eq_false hne]; rfl)
    ·(try simp only [zB, reduceCtorEq] at hc14)
     have heq : l.getD k 0 = l2.getD k 0 := hdc.2.1 (by have h9 := hc14; simpa using h9)
     refine aJ ?_
     refine hK12 _ ?_; clear hK12; refine ae [0, 1, 4, 5, 14, 25] ?_; simp only [Z, lkp, zE, reduceCtorEq, G, a8, E]
     refine aj hP hN rfl ?_
     iterate 3 (refine ad rfl fun K0 Y => ?_; simp only [zE, op1, ev, lkp, ah, ag, aC, aD, aE, ao, aB, aR, reduceCtorEq, G, E, J, V, M, U, Tryd.td3, List.length_map]; (repeat refine And.intro (by first | omega | assumption | exact rfl) ?_); refine Y _ ?_; clear Y K0; simp only [put, app, a9, af, zE, zS, E])
     refine ai ?_
     refine ⟨_, _, ?_, aS [0, 1, 4, 5], k + 1, by omega, fun j hj => ?_, rfl, rfl⟩
     · omega
     · by_cases e : j = k
       · rw [e]; exact heq
       · exact hq j (by omega)
   ·(try simp only [zB, reduceCtorEq] at hc11)
    refine bK ?_
    refine hK6 _ ?_; clear hK6; refine ae [0, 1, 4, 5, 14] ?_; simp only [Z, lkp, zE, reduceCtorEq, G, a8, E]
    refine aa fun K16 hK16 => ?_
    refine aj hP hN rfl ?_
    (refine ad rfl fun K0 Y => ?_; simp only [zE, op1, ev, lkp, ah, ag, ev, reduceCtorEq, G, E, J, V, M, U, Tryd.td4, List.length_map]; refine Y _ ?_; clear Y K0; simp only [put, app, a9, af, zE, zS, E])
    refine ai ?_
    refine hK16 _ ?_; clear hK16; refine ae [0, 1, 4, 5, 14] ?_; simp only [Z, lkp, zE, reduceCtorEq, G, a8, E]
    refine aP ?_
    refine ⟨by first | exact .inl rfl | exact .inr rfl, _, rfl, ?_⟩; simp only [fzV, fz1, fzC, List.map_cons, List.map_nil, Z, lkp, zE, reduceCtorEq, G, a8, E, List.length_map]
    refine VLE.of_eq ?_
    first
    | (rw [decide_eq_false hne]; done)
    | (have he : l = l2 := List.ext_getElem (by omega) fun j h1 h2 => by have := hq j (by omega); simpa [List.getD, h1, h2] using this
       rw [decide_eq_true he]; done)
    | (rw [decide_eq_false hne]; rfl)
end Go.Proofs.YtgmgnkmgofkfpaaDoor
namespace Go.Proofs.YtgmgnkmgofkfpaaDoor
open Go Go.AV
open Nat renaming reduceEqDiff → G, reduceAdd → E, reduceLeDiff → J, reduceLT → V, reduceMul → M, reduceSub → U
open List renaming set_cons_zero → aA, set_cons_succ → az
set_option maxRecDepth 100000 in
theorem re (m : Mly) (S : List SS) (x : List Int) (hm1 : 1 ≤ m.nx.length) (hS : ∀ s ∈ S, KB s.1) (hx : KB x) (hl : S.length ≤ 1000) (hb : ∀ s ∈ S, s.1.length ≤ 1000000) : ch Tryd.prog 47 [.one (.list (.list (.pair (.int .i64) (.pair (.int .i64) .unit))) (List.map (fun s : SS => List.map (dcE m) s.1) S)), .one (.list (.pair (.int .i64) (.pair (.int .i64) .unit)) (List.map (dcE m) x))] (.one (.int .i64 (ct S x : Int))) := by
 refine bp Tryd.func47 rfl (by kernel_rfl) (Nat.le_of_ble_eq_true rfl) rfl fun C hP hN hB => ?_
 replace hN : C.N = 21 := hN
 simp only [a8, E]
 refine aa fun K1 hK1 => ?_
 refine aj hP hN rfl ?_
 (refine ad rfl fun K0 Y => ?_; simp only [zE, op1, ev, lkp, ah, ag, ev, reduceCtorEq, G, E, J, V, M, U, Tryd.td3, List.length_map]; refine Y _ ?_; clear Y K0; simp only [put, app, a9, af, zE, zS, E])
 refine ai ?_
 refine hK1 _ ?_; clear hK1; refine ae [0, 1, 4] ?_; simp only [Z, lkp, zE, reduceCtorEq, G, a8, E]
 refine aa fun K2 hK2 => ?_
 refine aa fun K3 hK3 => ?_
 refine aj hP hN rfl ?_
 (refine ad rfl fun K0 Y => ?_; simp only [zE, op1, ev, lkp, ah, ag, ev, reduceCtorEq, G, E, J, V, M, U, Tryd.td3, List.length_map]; refine Y _ ?_; clear Y K0; simp only [put, app, a9, af, zE, zS, E])
 refine ai ?_
 refine hK3 _ ?_; clear hK3; refine ae [0, 1, 4, 5] ?_; simp only [Z, lkp, zE, reduceCtorEq, G, a8, E]
 refine aW ?_
 refine bM (fun n4 s4 => ∃ (k : Nat), (k ≤ S.length) ∧ (∀ j, j < k → (S.getD j ss0).1 ≠ x) ∧ n4 = S.length - k ∧ s4 = { env := [(0, .one (.list (.list (.pair (.int .i64) (.pair (.int .i64) .unit))) (List.map (fun s : SS => List.map (dcE m) s.1) S))), (1, .one (.list (.pair (.int .i64) (.pair (.int .i64) .unit)) (List.map (dcE m) x))), (4, .one (.int .i64 0)), (5, .one (.int .i64 (k : Int)))], L := [] }) ?_ ?_
 ·exact ⟨_, _, aS [0, 1, 4, 5], 0, Nat.zero_le _, fun j hj => by omega, rfl, rfl⟩
 ·rintro n4 s4 ⟨k, hk, hq, rfl, rfl⟩
  refine aa fun K5 hK5 => ?_
  refine aa fun K6 hK6 => ?_
  refine aj hP hN rfl ?_
  iterate 4 (refine ad rfl fun K0 Y => ?_; simp only [zE, op1, ev, lkp, ah, ag, aF, bu, bh, ba, bb, bq, Nat.div_one, aK, bf, Ty.size, aL, dite_true, aC, aD, aE, ao, aB, aR, reduceCtorEq, G, E, J, V, M, U, Tryd.el96, Tryd.td3, Tryd.td4, Tryd.td96, List.length_map]; (repeat refine And.intro (by first | omega | assumption | exact rfl) ?_); (first | refine Y _ ?_ | refine Or.inl (Y _ ?_)); clear Y K0; simp only [put, app, a9, af, zE, zS, E])
  refine ai ?_
  refine hK6 _ ?_; clear hK6; refine ae [0, 1, 4, 5, 9] ?_; simp only [Z, lkp, zE, reduceCtorEq, G, a8, E]
  refine aG (by simp only [ev, Z, lkp, zE, reduceCtorEq, G, a8, E]; exact rfl) (fun hc7 => ?_) (fun hc7 => ?_)
  ·(try simp only [zB, reduceCtorEq] at hc7)
   refine aJ ?_
   refine hK5 _ ?_; clear hK5; refine ae [0, 1, 4, 5, 9] ?_; simp only [Z, lkp, zE, reduceCtorEq, G, a8, E]
   refine aa fun K8 hK8 => ?_
   refine aW ?_
   refine aa fun K9 hK9 => ?_
   have hkl : k < S.length := by omega
   have hmem : S.getD k ss0 ∈ S := by simp [List.getD, hkl]
   have hgj : ∀ d, (List.map (fun s : SS => List.map (dcE m) s.1) S).getD k d = List.map (dcE m) (S.getD k ss0).1 := fun d => by simp [List.getD, hkl]
   have hgi : gt (.list (.pair (.int .i64) (.pair (.int .i64) .unit))) (List.map (fun s : SS => List.map (dcE m) s.1) S) (k : Int) = List.map (dcE m) (S.getD k ss0).1 := hgj _
   refine aj hP hN rfl ?_
   iterate 5 (refine ad rfl fun K0 Y => ?_; simp only [zE, op1, ev, lkp, ah, ag, aI, zG, Ty.dflt, Ty.size, Nat.mul_one, ne_eq, not_false_eq_true, Int.natCast_one, Int.mul_one, ay, aw, ax, acs, aq, reduceCtorEq, G, E, J, V, M, U, Tryd.el95, Tryd.el96, Tryd.td3, Tryd.td95, Tryd.td96, List.length_map, hgi, hgj]; (repeat refine And.intro (by first | omega | assumption | exact rfl) ?_); refine Y _ ?_; clear Y K0; simp only [put, app, a9, af, zE, zS, E])
   refine ad rfl fun K0 Y => ?_
   refine bc (h := aU (rb m (S.getD k ss0).1 x (hb _ hmem) hm1 (fun y hy => (hS _ hmem y hy).1) (fun y hy => (hx y hy).1))) rfl rfl (by first | exact rfl | (simp only [ev, Z, lkp, zE, reduceCtorEq, G, a8, E]; exact rfl)) (by simp only [zE, zG, op1, ev, lkp, ah, ag, au, acs, br, mv1, mvC, Ty.dflt, reduceCtorEq, G, E, J, V, M, U, List.length_map, hgi, hgj]) ?_
   refine Y _ ?_; clear Y K0; simp only [put, app, a9, af, zE, zS, E]
   refine ai ?_
   refine hK9 _ ?_; clear hK9; refine ae [0, 1, 4, 5, 9, 17] ?_; simp only [Z, lkp, zE, reduceCtorEq, G, a8, E]
   refine aG (by simp only [ev, Z, lkp, zE, reduceCtorEq, G, a8, E]; exact rfl) (fun hc10 => ?_) (fun hc10 => ?_)
   ·(try simp only [zB, reduceCtorEq] at hc10)
    have hp9 := pB hkl hq (by simpa using hc10)
    refine aa fun K11 hK11 => ?_
    refine aj hP hN rfl ?_
    iterate 2 (refine ad rfl fun K0 Y => ?_; simp only [zE, op1, ev, lkp, ah, ag, ev, reduceCtorEq, G, E, J, V, M, U, Tryd.td3, List.length_map]; refine Y _ ?_; clear Y K0; simp only [put, app, a9, af, zE, zS, E])
    refine ai ?_
    refine hK11 _ ?_; clear hK11; refine ae [0, 1, 4, 5, 9, 17] ?_; simp only [Z, lkp, zE, reduceCtorEq, G, a8, E]
    refine aP ?_
    refine ⟨by first | exact .inl rfl | exact .inr rfl, _, rfl, ?_⟩; simp only [fzV, fz1, fzC, List.map_cons, List.map_nil, Z, lkp, zE, reduceCtorEq, G, a8, E, List.length_map]
    refine VLE.of_eq ?_
    first
    | (rw [hp9]; done)
    | (rw [kn fun j hj => hq j (by omega)]; done)
    | (rw [hp9]; rfl)
   ·(try simp only [zB, reduceCtorEq] at hc10)
    have hne : (S.getD k ss0).1 ≠ x := by simpa using hc10
    refine aJ ?_
    refine hK8 _ ?_; clear hK8; refine ae [0, 1, 4, 5, 9, 17] ?_; simp only [Z, lkp, zE, reduceCtorEq, G, a8, E]
    refine aj hP hN rfl ?_
    iterate 3 (refine ad rfl fun K0 Y => ?_; simp only [zE, op1, ev, lkp, ah, ag, aC, aD, aE, ao, aB, aR, reduceCtorEq, G, E, J, V, M, U, Tryd.td3, List.length_map]; (repeat refine And.intro (by first | omega | assumption | exact rfl) ?_); refine Y _ ?_; clear Y K0; simp only [put, app, a9, af, zE, zS, E])
    refine ai ?_
    refine ⟨_, _, ?_, aS [0, 1, 4, 5], k + 1, by omega, fun j hj => ?_, rfl, rfl⟩
    · omega
    · by_cases e : j = k
      · rw [e]; exact hne
      · exact hq j (by omega)
  ·(try simp only [zB, reduceCtorEq] at hc7)
   refine bK ?_
   refine hK2 _ ?_; clear hK2; refine ae [0, 1, 4, 5, 9] ?_; simp only [Z, lkp, zE, reduceCtorEq, G, a8, E]
   refine aa fun K12 hK12 => ?_
   refine aj hP hN rfl ?_
   iterate 3 (refine ad rfl fun K0 Y => ?_; simp only [zE, op1, ev, lkp, ah, ag, aF, bu, bh, ba, bb, bq, Nat.div_one, aK, bf, Ty.size, aL, dite_true, reduceCtorEq, G, E, J, V, M, U, Tryd.el96, Tryd.td3, Tryd.td96, List.length_map]; (repeat refine And.intro (by first | omega | assumption | exact rfl) ?_); (first | refine Y _ ?_ | refine Or.inl (Y _ ?_)); clear Y K0; simp only [put, app, a9, af, zE, zS, E])
   refine ai ?_
   refine hK12 _ ?_; clear hK12; refine ae [0, 1, 4, 5, 9] ?_; simp only [Z, lkp, zE, reduceCtorEq, G, a8, E]
   refine aP ?_
   refine ⟨by first | exact .inl rfl | exact .inr rfl, _, rfl, ?_⟩; simp only [fzV, fz1, fzC, List.map_cons, List.map_nil, Z, lkp, zE, reduceCtorEq, G, a8, E, List.length_map]
   refine VLE.of_eq ?_
   first
   | (rw [hp9]; done)
   | (rw [kn fun j hj => hq j (by omega)]; done)
   | (rw [hp9]; rfl)
end Go.Proofs.YtgmgnkmgofkfpaaDoor
