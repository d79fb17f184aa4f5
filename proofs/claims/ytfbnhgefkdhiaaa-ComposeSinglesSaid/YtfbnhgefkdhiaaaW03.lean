/- Contracts of functions of this seat, each out of a walk through its code, and plain facts on what they compute. Conditions: those that each theorem names. -/
import Derived.Test.YtfbnhgefkdhiaaaW02
set_option linter.unusedSimpArgs false
set_option linter.unusedVariables false
namespace Go.Proofs.Ytfbnhgefkdhiaaa
open Go Go.AV
open Nat (reduceEqDiff reduceAdd reduceLeDiff reduceLT reduceMul reduceSub)
open List (set_cons_zero set_cons_succ)
set_option maxRecDepth 100000 in
theorem rsame_c (m n : Mly) : PURE Try.prog 18 [m.av, n.av] (.one (.bool (mlySame m n))) := by
  refine pure_of_le Try.func18 rfl (by kernel_rfl) (Nat.le_of_ble_eq_true rfl) rfl fun C hP hN hB => ?_
  replace hN : C.N = 31 := hN
  simp only [argEnv, reduceAdd]
  refine awp_seq_k fun K1 hK1 => ?_
  refine awp_reg hP hN rfl ?_
  iterate 3 (refine rg_step rfl fun K0 hK0 => ?_; simp only [zE, op1, ev, lkp, avOf, acOf, opBox, cellsAV, reduceCtorEq, reduceEqDiff, reduceAdd, reduceLeDiff, reduceLT, reduceMul, reduceSub, Try.st24, Try.td24, Try.td4, Mly.av]; (repeat refine And.intro (by first | omega | assumption | exact rfl) ?_); (first | refine hK0 _ ?_ | refine Or.inl (hK0 _ ?_)); clear hK0 K0; simp only [put, app, setAll, trOf, zE, zS, reduceAdd])
  refine rg_nil ?_
  refine hK1 _ ?_; clear hK1; refine awp_keep [0, 1, 2, 3, 4] ?_; simp only [keepEnv, lkp, zE, reduceCtorEq, reduceEqDiff, argEnv, reduceAdd]
  refine awp_seq_k fun K2 hK2 => ?_
  refine awp_reg hP hN rfl ?_
  iterate 5 (refine rg_step rfl fun K0 hK0 => ?_; simp only [zE, op1, ev, lkp, avOf, acOf, opFieldAddr, opLoad, Nat.mul_one, readAC, isAggK, acs, Ty.dflt, zG, cellsAt, opBin, arith, inK_i64, eqACs, eqAC, reduceCtorEq, reduceEqDiff, reduceAdd, reduceLeDiff, reduceLT, reduceMul, reduceSub, Try.st24, Try.td24, Try.td3, Try.td4, Mly.av]; (repeat refine And.intro (by first | omega | assumption | exact rfl) ?_); (first | refine hK0 _ ?_ | refine Or.inl (hK0 _ ?_)); clear hK0 K0; simp only [put, app, setAll, trOf, zE, zS, reduceAdd])
  (refine rg_step rfl fun K0 hK0 => ?_; simp only [zE, op1, ev, lkp, avOf, acOf, ev, reduceCtorEq, reduceEqDiff, reduceAdd, reduceLeDiff, reduceLT, reduceMul, reduceSub, Try.td4, Mly.av]; (repeat refine And.intro (by first | omega | assumption | exact rfl) ?_); (first | refine hK0 _ ?_ | refine Or.inl (hK0 _ ?_)); clear hK0 K0; simp only [put, app, setAll, trOf, zE, zS, reduceAdd])
  refine' rg_join_n (want := true) 5 rfl (m := 10) (by simp only [keepEnv, lkp, zE, reduceCtorEq, reduceEqDiff, argEnv, reduceAdd]; exact rfl) (by kernel_rfl) rfl rfl rfl rfl rfl (fun hg3 => ?a3) ?b3 ?c3
  case a3 =>
    have hq3 := hg3; (try simp only [zB, reduceCtorEq] at hg3); simp only [List.take_succ_cons, List.take_zero, List.cons_append, List.nil_append]
    (refine rg_do rfl fun K0 hK0 => ?_; simp only [zE, op1, ev, lkp, avOf, acOf, opFieldAddr, reduceCtorEq, reduceEqDiff, reduceAdd, reduceLeDiff, reduceLT, reduceMul, reduceSub, Try.st24, Try.td1, Try.td24, Mly.av]; (repeat refine And.intro (by first | omega | assumption | exact rfl) ?_); (first | refine hK0 _ ?_ | refine Or.inl (hK0 _ ?_)); clear hK0 K0; simp only [put, app, setAll, trOf, zE, zS, reduceAdd])
    (refine rg_do rfl fun K0 hK0 => ?_; simp only [zE, op1, ev, lkp, avOf, acOf, opLoad, Nat.mul_one, readAC, isAggK, acs, Ty.dflt, zG, cellsAt, reduceCtorEq, reduceEqDiff, reduceAdd, reduceLeDiff, reduceLT, reduceMul, reduceSub, Try.td3, Mly.av]; (repeat refine And.intro (by first | omega | assumption | exact rfl) ?_); (first | refine hK0 _ ?_ | refine Or.inl (hK0 _ ?_)); clear hK0 K0; simp only [put, app, setAll, trOf, zE, zS, reduceAdd])
    (refine rg_do rfl fun K0 hK0 => ?_; simp only [zE, op1, ev, lkp, avOf, acOf, opFieldAddr, reduceCtorEq, reduceEqDiff, reduceAdd, reduceLeDiff, reduceLT, reduceMul, reduceSub, Try.st24, Try.td1, Try.td24, Mly.av]; (repeat refine And.intro (by first | omega | assumption | exact rfl) ?_); (first | refine hK0 _ ?_ | refine Or.inl (hK0 _ ?_)); clear hK0 K0; simp only [put, app, setAll, trOf, zE, zS, reduceAdd])
    (refine rg_do rfl fun K0 hK0 => ?_; simp only [zE, op1, ev, lkp, avOf, acOf, opLoad, Nat.mul_one, readAC, isAggK, acs, Ty.dflt, zG, cellsAt, reduceCtorEq, reduceEqDiff, reduceAdd, reduceLeDiff, reduceLT, reduceMul, reduceSub, Try.td3, Mly.av]; (repeat refine And.intro (by first | omega | assumption | exact rfl) ?_); (first | refine hK0 _ ?_ | refine Or.inl (hK0 _ ?_)); clear hK0 K0; simp only [put, app, setAll, trOf, zE, zS, reduceAdd])
    (refine rg_do rfl fun K0 hK0 => ?_; simp only [zE, op1, ev, lkp, avOf, acOf, opBin, arith, inK_i64, eqACs, eqAC, reduceCtorEq, reduceEqDiff, reduceAdd, reduceLeDiff, reduceLT, reduceMul, reduceSub, Try.td3, Try.td4, Mly.av]; (repeat refine And.intro (by first | omega | assumption | exact rfl) ?_); (first | refine hK0 _ ?_ | refine Or.inl (hK0 _ ?_)); clear hK0 K0; simp only [put, app, setAll, trOf, zE, zS, reduceAdd])
    (refine rg_step rfl fun K0 hK0 => ?_; simp only [zE, op1, ev, lkp, avOf, acOf, opPick, reduceCtorEq, reduceEqDiff, reduceAdd, reduceLeDiff, reduceLT, reduceMul, reduceSub, Try.td4, Mly.av]; (repeat refine And.intro (by first | omega | assumption | exact rfl) ?_); (first | refine hK0 _ ?_ | refine Or.inl (hK0 _ ?_)); clear hK0 K0; simp only [put, app, setAll, trOf, zE, zS, reduceAdd])
    refine rg_nil ?_
    refine ⟨by simp only [keepEnv, lkp, zE, reduceCtorEq, reduceEqDiff, argEnv, reduceAdd]; exact rfl, rfl, ?_, rfl⟩; (repeat refine keep_cons rfl ?_); exact keep_m (by exact rfl) hq3
  case b3 => exact tle_of (by first | rfl | (simp [tleB]; done) | decide)
  simp only [join_or, join_and]
  (refine rg_step rfl fun K0 hK0 => ?_; simp only [zE, op1, ev, lkp, avOf, acOf, ev, reduceCtorEq, reduceEqDiff, reduceAdd, reduceLeDiff, reduceLT, reduceMul, reduceSub, Try.td4, Mly.av]; (repeat refine And.intro (by first | omega | assumption | exact rfl) ?_); (first | refine hK0 _ ?_ | refine Or.inl (hK0 _ ?_)); clear hK0 K0; simp only [put, app, setAll, trOf, zE, zS, reduceAdd])
  refine' rg_join_n (want := true) 5 rfl (m := 17) (by simp only [keepEnv, lkp, zE, reduceCtorEq, reduceEqDiff, argEnv, reduceAdd]; exact rfl) (by kernel_rfl) rfl rfl rfl rfl rfl (fun hg4 => ?a4) ?b4 ?c4
  case a4 =>
    have hq4 := hg4; (try simp only [zB, reduceCtorEq] at hg4); simp only [List.take_succ_cons, List.take_zero, List.cons_append, List.nil_append]
    (refine rg_do rfl fun K0 hK0 => ?_; simp only [zE, op1, ev, lkp, avOf, acOf, opFieldAddr, reduceCtorEq, reduceEqDiff, reduceAdd, reduceLeDiff, reduceLT, reduceMul, reduceSub, Try.st24, Try.td2, Try.td24, Mly.av]; (repeat refine And.intro (by first | omega | assumption | exact rfl) ?_); (first | refine hK0 _ ?_ | refine Or.inl (hK0 _ ?_)); clear hK0 K0; simp only [put, app, setAll, trOf, zE, zS, reduceAdd])
    (refine rg_do rfl fun K0 hK0 => ?_; simp only [zE, op1, ev, lkp, avOf, acOf, opLoad, Nat.mul_one, readAC, isAggK, acs, Ty.dflt, zG, cellsAt, reduceCtorEq, reduceEqDiff, reduceAdd, reduceLeDiff, reduceLT, reduceMul, reduceSub, Try.el22, Try.td22, Mly.av]; (repeat refine And.intro (by first | omega | assumption | exact rfl) ?_); (first | refine hK0 _ ?_ | refine Or.inl (hK0 _ ?_)); clear hK0 K0; simp only [put, app, setAll, trOf, zE, zS, reduceAdd])
    (refine rg_do rfl fun K0 hK0 => ?_; simp only [zE, op1, ev, lkp, avOf, acOf, opFieldAddr, reduceCtorEq, reduceEqDiff, reduceAdd, reduceLeDiff, reduceLT, reduceMul, reduceSub, Try.st24, Try.td2, Try.td24, Mly.av]; (repeat refine And.intro (by first | omega | assumption | exact rfl) ?_); (first | refine hK0 _ ?_ | refine Or.inl (hK0 _ ?_)); clear hK0 K0; simp only [put, app, setAll, trOf, zE, zS, reduceAdd])
    (refine rg_do rfl fun K0 hK0 => ?_; simp only [zE, op1, ev, lkp, avOf, acOf, opLoad, Nat.mul_one, readAC, isAggK, acs, Ty.dflt, zG, cellsAt, reduceCtorEq, reduceEqDiff, reduceAdd, reduceLeDiff, reduceLT, reduceMul, reduceSub, Try.el22, Try.td22, Mly.av]; (repeat refine And.intro (by first | omega | assumption | exact rfl) ?_); (first | refine hK0 _ ?_ | refine Or.inl (hK0 _ ?_)); clear hK0 K0; simp only [put, app, setAll, trOf, zE, zS, reduceAdd])
    refine rg_do rfl fun K0 hK0 => ?_
    refine op_call (h := call_of_pure (lists_c m.nx n.nx)) rfl rfl (by first | exact rfl | (simp only [ev, keepEnv, lkp, zE, reduceCtorEq, reduceEqDiff, argEnv, reduceAdd]; exact rfl)) (by simp only [zE, zG, op1, ev, lkp, avOf, acOf, cellsAV, acs, capAV, mv1, mvC, Ty.dflt, reduceCtorEq, reduceEqDiff, reduceAdd, reduceLeDiff, reduceLT, reduceMul, reduceSub, Mly.av]) ?_
    refine hK0 _ ?_; clear hK0 K0; simp only [put, app, setAll, trOf, zE, zS, reduceAdd]
    (refine rg_step rfl fun K0 hK0 => ?_; simp only [zE, op1, ev, lkp, avOf, acOf, opPick, reduceCtorEq, reduceEqDiff, reduceAdd, reduceLeDiff, reduceLT, reduceMul, reduceSub, Try.td4, Mly.av]; (repeat refine And.intro (by first | omega | assumption | exact rfl) ?_); (first | refine hK0 _ ?_ | refine Or.inl (hK0 _ ?_)); clear hK0 K0; simp only [put, app, setAll, trOf, zE, zS, reduceAdd])
    refine rg_nil ?_
    refine ⟨by simp only [keepEnv, lkp, zE, reduceCtorEq, reduceEqDiff, argEnv, reduceAdd]; exact rfl, rfl, ?_, rfl⟩; (repeat refine keep_cons rfl ?_); exact keep_m (by exact rfl) hq4
  case b4 => exact tle_of (by first | rfl | (simp [tleB]; done) | decide)
  simp only [join_or, join_and]
  (refine rg_step rfl fun K0 hK0 => ?_; simp only [zE, op1, ev, lkp, avOf, acOf, ev, reduceCtorEq, reduceEqDiff, reduceAdd, reduceLeDiff, reduceLT, reduceMul, reduceSub, Try.td4, Mly.av]; (repeat refine And.intro (by first | omega | assumption | exact rfl) ?_); (first | refine hK0 _ ?_ | refine Or.inl (hK0 _ ?_)); clear hK0 K0; simp only [put, app, setAll, trOf, zE, zS, reduceAdd])
  refine' rg_join_n (want := true) 5 rfl (m := 24) (by simp only [keepEnv, lkp, zE, reduceCtorEq, reduceEqDiff, argEnv, reduceAdd]; exact rfl) (by kernel_rfl) rfl rfl rfl rfl rfl (fun hg5 => ?a5) ?b5 ?c5
  case a5 =>
    have hq5 := hg5; (try simp only [zB, reduceCtorEq] at hg5); simp only [List.take_succ_cons, List.take_zero, List.cons_append, List.nil_append]
    (refine rg_do rfl fun K0 hK0 => ?_; simp only [zE, op1, ev, lkp, avOf, acOf, opFieldAddr, reduceCtorEq, reduceEqDiff, reduceAdd, reduceLeDiff, reduceLT, reduceMul, reduceSub, Try.st24, Try.td24, Try.td3, Mly.av]; (repeat refine And.intro (by first | omega | assumption | exact rfl) ?_); (first | refine hK0 _ ?_ | refine Or.inl (hK0 _ ?_)); clear hK0 K0; simp only [put, app, setAll, trOf, zE, zS, reduceAdd])
    (refine rg_do rfl fun K0 hK0 => ?_; simp only [zE, op1, ev, lkp, avOf, acOf, opLoad, Nat.mul_one, readAC, isAggK, acs, Ty.dflt, zG, cellsAt, reduceCtorEq, reduceEqDiff, reduceAdd, reduceLeDiff, reduceLT, reduceMul, reduceSub, Try.el22, Try.td22, Mly.av]; (repeat refine And.intro (by first | omega | assumption | exact rfl) ?_); (first | refine hK0 _ ?_ | refine Or.inl (hK0 _ ?_)); clear hK0 K0; simp only [put, app, setAll, trOf, zE, zS, reduceAdd])
    (refine rg_do rfl fun K0 hK0 => ?_; simp only [zE, op1, ev, lkp, avOf, acOf, opFieldAddr, reduceCtorEq, reduceEqDiff, reduceAdd, reduceLeDiff, reduceLT, reduceMul, reduceSub, Try.st24, Try.td24, Try.td3, Mly.av]; (repeat refine And.intro (by first | omega | assumption | exact rfl) ?_); (first | refine hK0 _ ?_ | refine Or.inl (hK0 _ ?_)); clear hK0 K0; simp only [put, app, setAll, trOf, zE, zS, reduceAdd])
    (refine rg_do rfl fun K0 hK0 => ?_; simp only [zE, op1, ev, lkp, avOf, acOf, opLoad, Nat.mul_one, readAC, isAggK, acs, Ty.dflt, zG, cellsAt, reduceCtorEq, reduceEqDiff, reduceAdd, reduceLeDiff, reduceLT, reduceMul, reduceSub, Try.el22, Try.td22, Mly.av]; (repeat refine And.intro (by first | omega | assumption | exact rfl) ?_); (first | refine hK0 _ ?_ | refine Or.inl (hK0 _ ?_)); clear hK0 K0; simp only [put, app, setAll, trOf, zE, zS, reduceAdd])
    refine rg_do rfl fun K0 hK0 => ?_
    refine op_call (h := call_of_pure (lists_c m.ot n.ot)) rfl rfl (by first | exact rfl | (simp only [ev, keepEnv, lkp, zE, reduceCtorEq, reduceEqDiff, argEnv, reduceAdd]; exact rfl)) (by simp only [zE, zG, op1, ev, lkp, avOf, acOf, cellsAV, acs, capAV, mv1, mvC, Ty.dflt, reduceCtorEq, reduceEqDiff, reduceAdd, reduceLeDiff, reduceLT, reduceMul, reduceSub, Mly.av]) ?_
    refine hK0 _ ?_; clear hK0 K0; simp only [put, app, setAll, trOf, zE, zS, reduceAdd]
    (refine rg_step rfl fun K0 hK0 => ?_; simp only [zE, op1, ev, lkp, avOf, acOf, opPick, reduceCtorEq, reduceEqDiff, reduceAdd, reduceLeDiff, reduceLT, reduceMul, reduceSub, Try.td4, Mly.av]; (repeat refine And.intro (by first | omega | assumption | exact rfl) ?_); (first | refine hK0 _ ?_ | refine Or.inl (hK0 _ ?_)); clear hK0 K0; simp only [put, app, setAll, trOf, zE, zS, reduceAdd])
    refine rg_nil ?_
    refine ⟨by simp only [keepEnv, lkp, zE, reduceCtorEq, reduceEqDiff, argEnv, reduceAdd]; exact rfl, rfl, ?_, rfl⟩; (repeat refine keep_cons rfl ?_); exact keep_m (by exact rfl) hq5
  case b5 => exact tle_of (by first | rfl | (simp [tleB]; done) | decide)
  simp only [join_or, join_and]
  (refine rg_step rfl fun K0 hK0 => ?_; simp only [zE, op1, ev, lkp, avOf, acOf, ev, reduceCtorEq, reduceEqDiff, reduceAdd, reduceLeDiff, reduceLT, reduceMul, reduceSub, Try.td4, Mly.av]; (repeat refine And.intro (by first | omega | assumption | exact rfl) ?_); (first | refine hK0 _ ?_ | refine Or.inl (hK0 _ ?_)); clear hK0 K0; simp only [put, app, setAll, trOf, zE, zS, reduceAdd])
  refine rg_nil ?_
  refine hK2 _ ?_; clear hK2; refine awp_keep [0, 1, 2, 3, 4] ?_; simp only [keepEnv, lkp, zE, reduceCtorEq, reduceEqDiff, argEnv, reduceAdd]
  refine awp_ret ?_
  refine ⟨by first | exact .inl rfl | exact .inr rfl, _, rfl, ?_⟩; simp only [fzV, fz1, fzC, List.map_cons, List.map_nil, keepEnv, lkp, zE, reduceCtorEq, reduceEqDiff, argEnv, reduceAdd, Mly.av]
  refine VLE.of_eq ?_
  rfl
end Go.Proofs.Ytfbnhgefkdhiaaa
namespace Go.Proofs.Ytfbnhgefkdhiaaa
open Go Go.AV
open Nat (reduceEqDiff reduceAdd reduceLeDiff reduceLT reduceMul reduceSub)
open List (set_cons_zero set_cons_succ)
set_option maxRecDepth 100000 in
set_option maxHeartbeats 1000000 in
theorem exh_c  : PURE Try.prog 11 [] (.one (.bool true)) := by
  refine pure_of_le Try.func11 rfl (by kernel_rfl) (Nat.le_of_ble_eq_true rfl) rfl fun C hP hN hB => ?_
  replace hN : C.N = 140 := hN
  simp only [argEnv, reduceAdd]
  refine awp_seq_k fun K1 hK1 => ?_
  refine awp_reg hP hN rfl ?_
  (refine rg_step rfl fun K0 hK0 => ?_; simp only [zE, op1, ev, lkp, avOf, acOf, ev, reduceCtorEq, reduceEqDiff, reduceAdd, reduceLeDiff, reduceLT, reduceMul, reduceSub, Try.td4, Mly.av, exA, exB, exC, exP, exL, exM, exK]; (repeat refine And.intro (by first | omega | assumption | exact rfl) ?_); (first | refine hK0 _ ?_ | refine Or.inl (hK0 _ ?_)); clear hK0 K0; simp only [put, app, setAll, trOf, zE, zS, reduceAdd])
  refine rg_nil ?_
  refine hK1 _ ?_; clear hK1; refine awp_keep [0] ?_; simp only [keepEnv, lkp, zE, reduceCtorEq, reduceEqDiff, argEnv, reduceAdd]
  refine awp_seq_k fun K2 hK2 => ?_
  refine awp_reg hP hN rfl ?_
  iterate 9 (refine rg_step rfl fun K0 hK0 => ?_; simp only [zE, op1, ev, lkp, avOf, acOf, opBuildSlice, fillAC, chunk, rep, datOf, writeAC, cellsAV, Ty.size, opBuild, opAlloc, opStore, Nat.mul_one, acs, Ty.dflt, zG, reduceCtorEq, reduceEqDiff, reduceAdd, reduceLeDiff, reduceLT, reduceMul, reduceSub, Try.el22, Try.el33, Try.st24, Try.td1, Try.td2, Try.td22, Try.td24, Try.td33, Mly.av, exA, exB, exC, exP, exL, exM, exK]; (repeat refine And.intro (by first | omega | assumption | exact rfl) ?_); (first | refine hK0 _ ?_ | refine Or.inl (hK0 _ ?_)); clear hK0 K0; simp only [put, app, setAll, trOf, zE, zS, reduceAdd])
  refine rg_nil ?_
  refine hK2 _ ?_; clear hK2; refine awp_keep [0, 1] ?_; simp only [keepEnv, lkp, zE, reduceCtorEq, reduceEqDiff, argEnv, reduceAdd]
  refine awp_seq_k fun K3 hK3 => ?_
  refine awp_reg hP hN rfl ?_
  iterate 7 (refine rg_step rfl fun K0 hK0 => ?_; simp only [zE, op1, ev, lkp, avOf, acOf, opBuildSlice, fillAC, chunk, rep, datOf, writeAC, cellsAV, Ty.size, opBuild, opAlloc, opStore, Nat.mul_one, acs, Ty.dflt, zG, reduceCtorEq, reduceEqDiff, reduceAdd, reduceLeDiff, reduceLT, reduceMul, reduceSub, Try.el22, Try.el33, Try.st24, Try.td1, Try.td22, Try.td24, Try.td33, Mly.av, exA, exB, exC, exP, exL, exM, exK]; (repeat refine And.intro (by first | omega | assumption | exact rfl) ?_); (first | refine hK0 _ ?_ | refine Or.inl (hK0 _ ?_)); clear hK0 K0; simp only [put, app, setAll, trOf, zE, zS, reduceAdd])
  refine rg_nil ?_
  refine hK3 _ ?_; clear hK3; refine awp_keep [0, 1, 2] ?_; simp only [keepEnv, lkp, zE, reduceCtorEq, reduceEqDiff, argEnv, reduceAdd]
  refine awp_seq_k fun K4 hK4 => ?_
  refine awp_reg hP hN rfl ?_
  iterate 2 (refine rg_step rfl fun K0 hK0 => ?_; simp only [zE, op1, ev, lkp, avOf, acOf, opLoad, Nat.mul_one, readAC, isAggK, acs, Ty.dflt, zG, cellsAt, reduceCtorEq, reduceEqDiff, reduceAdd, reduceLeDiff, reduceLT, reduceMul, reduceSub, Try.st24, Try.td24, Mly.av, exA, exB, exC, exP, exL, exM, exK]; (repeat refine And.intro (by first | omega | assumption | exact rfl) ?_); (first | refine hK0 _ ?_ | refine Or.inl (hK0 _ ?_)); clear hK0 K0; simp only [put, app, setAll, trOf, zE, zS, reduceAdd])
  refine rg_step rfl fun K0 hK0 => ?_
  refine op_call (h := call_of_pure (prod_c exA exB)) rfl rfl (by first | exact rfl | (simp only [ev, keepEnv, lkp, zE, reduceCtorEq, reduceEqDiff, argEnv, reduceAdd]; exact rfl)) (by simp only [zE, zG, op1, ev, lkp, avOf, acOf, cellsAV, acs, capAV, mv1, mvC, Ty.dflt, reduceCtorEq, reduceEqDiff, reduceAdd, reduceLeDiff, reduceLT, reduceMul, reduceSub, Mly.av, exA, exB, exC, exP, exL, exM, exK]) ?_
  refine hK0 _ ?_; clear hK0 K0; simp only [put, app, setAll, trOf, zE, zS, reduceAdd]
  iterate 6 (refine rg_step rfl fun K0 hK0 => ?_; simp only [zE, op1, ev, lkp, avOf, acOf, opExtract, opAlloc, opStore, Nat.mul_one, cellsAV, writeAC, datOf, acs, Ty.size, Ty.dflt, zG, reduceCtorEq, reduceEqDiff, reduceAdd, reduceLeDiff, reduceLT, reduceMul, reduceSub, Try.st24, Try.td1, Try.td24, Try.td27, Mly.av, exA, exB, exC, exP, exL, exM, exK]; (repeat refine And.intro (by first | omega | assumption | exact rfl) ?_); (first | refine hK0 _ ?_ | refine Or.inl (hK0 _ ?_)); clear hK0 K0; simp only [put, app, setAll, trOf, zE, zS, reduceAdd])
  refine rg_nil ?_
  refine hK4 _ ?_; clear hK4; refine awp_keep [0, 1, 2, 3, 4] ?_; simp only [keepEnv, lkp, zE, reduceCtorEq, reduceEqDiff, argEnv, reduceAdd]
  refine awp_seq_k fun K5 hK5 => ?_
  refine awp_reg hP hN rfl ?_
  iterate 2 (refine rg_step rfl fun K0 hK0 => ?_; simp only [zE, op1, ev, lkp, avOf, acOf, opLoad, Nat.mul_one, readAC, isAggK, acs, Ty.dflt, zG, cellsAt, reduceCtorEq, reduceEqDiff, reduceAdd, reduceLeDiff, reduceLT, reduceMul, reduceSub, Try.st24, Try.td24, Mly.av, exA, exB, exC, exP, exL, exM, exK]; (repeat refine And.intro (by first | omega | assumption | exact rfl) ?_); (first | refine hK0 _ ?_ | refine Or.inl (hK0 _ ?_)); clear hK0 K0; simp only [put, app, setAll, trOf, zE, zS, reduceAdd])
  refine rg_step rfl fun K0 hK0 => ?_
  refine op_call (h := call_of_pure (para_c exA exB)) rfl rfl (by first | exact rfl | (simp only [ev, keepEnv, lkp, zE, reduceCtorEq, reduceEqDiff, argEnv, reduceAdd]; exact rfl)) (by simp only [zE, zG, op1, ev, lkp, avOf, acOf, cellsAV, acs, capAV, mv1, mvC, Ty.dflt, reduceCtorEq, reduceEqDiff, reduceAdd, reduceLeDiff, reduceLT, reduceMul, reduceSub, Mly.av, exA, exB, exC, exP, exL, exM, exK]) ?_
  refine hK0 _ ?_; clear hK0 K0; simp only [put, app, setAll, trOf, zE, zS, reduceAdd]
  iterate 6 (refine rg_step rfl fun K0 hK0 => ?_; simp only [zE, op1, ev, lkp, avOf, acOf, opExtract, opAlloc, opStore, Nat.mul_one, cellsAV, writeAC, datOf, acs, Ty.size, Ty.dflt, zG, reduceCtorEq, reduceEqDiff, reduceAdd, reduceLeDiff, reduceLT, reduceMul, reduceSub, Try.st24, Try.td1, Try.td24, Try.td27, Mly.av, exA, exB, exC, exP, exL, exM, exK]; (repeat refine And.intro (by first | omega | assumption | exact rfl) ?_); (first | refine hK0 _ ?_ | refine Or.inl (hK0 _ ?_)); clear hK0 K0; simp only [put, app, setAll, trOf, zE, zS, reduceAdd])
  refine rg_nil ?_
  refine hK5 _ ?_; clear hK5; refine awp_keep [0, 1, 2, 3, 4, 5, 6] ?_; simp only [keepEnv, lkp, zE, reduceCtorEq, reduceEqDiff, argEnv, reduceAdd]
  refine awp_seq_k fun K6 hK6 => ?_
  refine awp_reg hP hN rfl ?_
  iterate 2 (refine rg_step rfl fun K0 hK0 => ?_; simp only [zE, op1, ev, lkp, avOf, acOf, opLoad, Nat.mul_one, readAC, isAggK, acs, Ty.dflt, zG, cellsAt, reduceCtorEq, reduceEqDiff, reduceAdd, reduceLeDiff, reduceLT, reduceMul, reduceSub, Try.st24, Try.td24, Mly.av, exA, exB, exC, exP, exL, exM, exK]; (repeat refine And.intro (by first | omega | assumption | exact rfl) ?_); (first | refine hK0 _ ?_ | refine Or.inl (hK0 _ ?_)); clear hK0 K0; simp only [put, app, setAll, trOf, zE, zS, reduceAdd])
  refine rg_step rfl fun K0 hK0 => ?_
  refine op_call (h := call_of_pure (casc_c exB exA)) rfl rfl (by first | exact rfl | (simp only [ev, keepEnv, lkp, zE, reduceCtorEq, reduceEqDiff, argEnv, reduceAdd]; exact rfl)) (by simp only [zE, zG, op1, ev, lkp, avOf, acOf, cellsAV, acs, capAV, mv1, mvC, Ty.dflt, reduceCtorEq, reduceEqDiff, reduceAdd, reduceLeDiff, reduceLT, reduceMul, reduceSub, Mly.av, exA, exB, exC, exP, exL, exM, exK]) ?_
  refine hK0 _ ?_; clear hK0 K0; simp only [put, app, setAll, trOf, zE, zS, reduceAdd]
  iterate 6 (refine rg_step rfl fun K0 hK0 => ?_; simp only [zE, op1, ev, lkp, avOf, acOf, opExtract, opAlloc, opStore, Nat.mul_one, cellsAV, writeAC, datOf, acs, Ty.size, Ty.dflt, zG, reduceCtorEq, reduceEqDiff, reduceAdd, reduceLeDiff, reduceLT, reduceMul, reduceSub, Try.st24, Try.td1, Try.td24, Try.td27, Mly.av, exA, exB, exC, exP, exL, exM, exK]; (repeat refine And.intro (by first | omega | assumption | exact rfl) ?_); (first | refine hK0 _ ?_ | refine Or.inl (hK0 _ ?_)); clear hK0 K0; simp only [put, app, setAll, trOf, zE, zS, reduceAdd])
  refine rg_nil ?_
  refine hK6 _ ?_; clear hK6; refine awp_keep [0, 1, 2, 3, 4, 5, 6, 8] ?_; simp only [keepEnv, lkp, zE, reduceCtorEq, reduceEqDiff, argEnv, reduceAdd]
  refine awp_seq_k fun K7 hK7 => ?_
  refine awp_reg hP hN rfl ?_
  iterate 2 (refine rg_step rfl fun K0 hK0 => ?_; simp only [zE, op1, ev, lkp, avOf, acOf, opLoad, Nat.mul_one, readAC, isAggK, acs, Ty.dflt, zG, cellsAt, opBuildSlice, fillAC, chunk, rep, datOf, writeAC, cellsAV, Ty.size, reduceCtorEq, reduceEqDiff, reduceAdd, reduceLeDiff, reduceLT, reduceMul, reduceSub, Try.el33, Try.st24, Try.td2, Try.td24, Try.td33, Mly.av, exA, exB, exC, exP, exL, exM, exK]; (repeat refine And.intro (by first | omega | assumption | exact rfl) ?_); (first | refine hK0 _ ?_ | refine Or.inl (hK0 _ ?_)); clear hK0 K0; simp only [put, app, setAll, trOf, zE, zS, reduceAdd])
  refine rg_step rfl fun K0 hK0 => ?_
  refine op_call (h := call_of_pure (cmap_c exA [7, 5])) rfl rfl (by first | exact rfl | (simp only [ev, keepEnv, lkp, zE, reduceCtorEq, reduceEqDiff, argEnv, reduceAdd]; exact rfl)) (by simp only [zE, zG, op1, ev, lkp, avOf, acOf, cellsAV, acs, capAV, mv1, mvC, Ty.dflt, reduceCtorEq, reduceEqDiff, reduceAdd, reduceLeDiff, reduceLT, reduceMul, reduceSub, Mly.av, exA, exB, exC, exP, exL, exM, exK]) ?_
  refine hK0 _ ?_; clear hK0 K0; simp only [put, app, setAll, trOf, zE, zS, reduceAdd]
  iterate 6 (refine rg_step rfl fun K0 hK0 => ?_; simp only [zE, op1, ev, lkp, avOf, acOf, opExtract, opAlloc, opStore, Nat.mul_one, cellsAV, writeAC, datOf, acs, Ty.size, Ty.dflt, zG, reduceCtorEq, reduceEqDiff, reduceAdd, reduceLeDiff, reduceLT, reduceMul, reduceSub, Try.st24, Try.td1, Try.td24, Try.td27, Mly.av, exA, exB, exC, exP, exL, exM, exK]; (repeat refine And.intro (by first | omega | assumption | exact rfl) ?_); (first | refine hK0 _ ?_ | refine Or.inl (hK0 _ ?_)); clear hK0 K0; simp only [put, app, setAll, trOf, zE, zS, reduceAdd])
  refine rg_nil ?_
  refine hK7 _ ?_; clear hK7; refine awp_keep [0, 1, 2, 3, 4, 5, 6, 8, 9, 10] ?_; simp only [keepEnv, lkp, zE, reduceCtorEq, reduceEqDiff, argEnv, reduceAdd]
  refine awp_seq_k fun K8 hK8 => ?_
  refine awp_reg hP hN rfl ?_
  iterate 2 (refine rg_step rfl fun K0 hK0 => ?_; simp only [zE, op1, ev, lkp, avOf, acOf, opLoad, Nat.mul_one, readAC, isAggK, acs, Ty.dflt, zG, cellsAt, opBuildSlice, fillAC, chunk, rep, datOf, writeAC, cellsAV, Ty.size, reduceCtorEq, reduceEqDiff, reduceAdd, reduceLeDiff, reduceLT, reduceMul, reduceSub, Try.el33, Try.st24, Try.td1, Try.td24, Try.td33, Mly.av, exA, exB, exC, exP, exL, exM, exK]; (repeat refine And.intro (by first | omega | assumption | exact rfl) ?_); (first | refine hK0 _ ?_ | refine Or.inl (hK0 _ ?_)); clear hK0 K0; simp only [put, app, setAll, trOf, zE, zS, reduceAdd])
  refine rg_step rfl fun K0 hK0 => ?_
  refine op_call (h := call_of_pure (cmap_c exA [7])) rfl rfl (by first | exact rfl | (simp only [ev, keepEnv, lkp, zE, reduceCtorEq, reduceEqDiff, argEnv, reduceAdd]; exact rfl)) (by simp only [zE, zG, op1, ev, lkp, avOf, acOf, cellsAV, acs, capAV, mv1, mvC, Ty.dflt, reduceCtorEq, reduceEqDiff, reduceAdd, reduceLeDiff, reduceLT, reduceMul, reduceSub, Mly.av, exA, exB, exC, exP, exL, exM, exK]) ?_
  refine hK0 _ ?_; clear hK0 K0; simp only [put, app, setAll, trOf, zE, zS, reduceAdd]
  iterate 6 (refine rg_step rfl fun K0 hK0 => ?_; simp only [zE, op1, ev, lkp, avOf, acOf, opExtract, opAlloc, opStore, Nat.mul_one, cellsAV, writeAC, datOf, acs, Ty.size, Ty.dflt, zG, reduceCtorEq, reduceEqDiff, reduceAdd, reduceLeDiff, reduceLT, reduceMul, reduceSub, Try.st24, Try.td1, Try.td24, Try.td27, Mly.av, exA, exB, exC, exP, exL, exM, exK]; (repeat refine And.intro (by first | omega | assumption | exact rfl) ?_); (first | refine hK0 _ ?_ | refine Or.inl (hK0 _ ?_)); clear hK0 K0; simp only [put, app, setAll, trOf, zE, zS, reduceAdd])
  refine rg_nil ?_
  refine hK8 _ ?_; clear hK8; refine awp_keep [0, 1, 2, 3, 4, 5, 6, 8, 9, 10, 12] ?_; simp only [keepEnv, lkp, zE, reduceCtorEq, reduceEqDiff, argEnv, reduceAdd]
  refine awp_seq_k fun K9 hK9 => ?_
  refine awp_reg hP hN rfl ?_
  (refine rg_step rfl fun K0 hK0 => ?_; simp only [zE, op1, ev, lkp, avOf, acOf, opLoad, Nat.mul_one, readAC, isAggK, acs, Ty.dflt, zG, cellsAt, reduceCtorEq, reduceEqDiff, reduceAdd, reduceLeDiff, reduceLT, reduceMul, reduceSub, Try.st24, Try.td24, Mly.av, exA, exB, exC, exP, exL, exM, exK]; (repeat refine And.intro (by first | omega | assumption | exact rfl) ?_); (first | refine hK0 _ ?_ | refine Or.inl (hK0 _ ?_)); clear hK0 K0; simp only [put, app, setAll, trOf, zE, zS, reduceAdd])
  refine rg_step rfl fun K0 hK0 => ?_
  refine op_call (h := call_of_pure (restrN_c exA)) rfl rfl (by first | exact rfl | (simp only [ev, keepEnv, lkp, zE, reduceCtorEq, reduceEqDiff, argEnv, reduceAdd]; exact rfl)) (by simp only [zE, zG, op1, ev, lkp, avOf, acOf, cellsAV, acs, capAV, mv1, mvC, Ty.dflt, reduceCtorEq, reduceEqDiff, reduceAdd, reduceLeDiff, reduceLT, reduceMul, reduceSub, Mly.av, exA, exB, exC, exP, exL, exM, exK]) ?_
  refine hK0 _ ?_; clear hK0 K0; simp only [put, app, setAll, trOf, zE, zS, reduceAdd]
  iterate 6 (refine rg_step rfl fun K0 hK0 => ?_; simp only [zE, op1, ev, lkp, avOf, acOf, opExtract, opAlloc, opStore, Nat.mul_one, cellsAV, writeAC, datOf, acs, Ty.size, Ty.dflt, zG, reduceCtorEq, reduceEqDiff, reduceAdd, reduceLeDiff, reduceLT, reduceMul, reduceSub, Try.st24, Try.td1, Try.td24, Try.td27, Mly.av, exA, exB, exC, exP, exL, exM, exK]; (repeat refine And.intro (by first | omega | assumption | exact rfl) ?_); (first | refine hK0 _ ?_ | refine Or.inl (hK0 _ ?_)); clear hK0 K0; simp only [put, app, setAll, trOf, zE, zS, reduceAdd])
  refine rg_nil ?_
  refine hK9 _ ?_; clear hK9; refine awp_keep [0, 1, 2, 3, 4, 5, 6, 8, 9, 10, 12, 14] ?_; simp only [keepEnv, lkp, zE, reduceCtorEq, reduceEqDiff, argEnv, reduceAdd]
  refine awp_seq_k fun K10 hK10 => ?_
  refine awp_reg hP hN rfl ?_
  iterate 6 (refine rg_step rfl fun K0 hK0 => ?_; simp only [zE, op1, ev, lkp, avOf, acOf, opLoad, Nat.mul_one, readAC, isAggK, acs, Ty.dflt, zG, cellsAt, opBuildSlice, fillAC, chunk, rep, datOf, writeAC, cellsAV, Ty.size, opBuild, reduceCtorEq, reduceEqDiff, reduceAdd, reduceLeDiff, reduceLT, reduceMul, reduceSub, Try.el22, Try.el33, Try.st24, Try.td1, Try.td2, Try.td22, Try.td24, Try.td33, Mly.av, exA, exB, exC, exP, exL, exM, exK]; (repeat refine And.intro (by first | omega | assumption | exact rfl) ?_); (first | refine hK0 _ ?_ | refine Or.inl (hK0 _ ?_)); clear hK0 K0; simp only [put, app, setAll, trOf, zE, zS, reduceAdd])
  refine rg_step rfl fun K0 hK0 => ?_
  refine op_call (h := call_of_pure (casc_c exA exC)) rfl rfl (by first | exact rfl | (simp only [ev, keepEnv, lkp, zE, reduceCtorEq, reduceEqDiff, argEnv, reduceAdd]; exact rfl)) (by simp only [zE, zG, op1, ev, lkp, avOf, acOf, cellsAV, acs, capAV, mv1, mvC, Ty.dflt, reduceCtorEq, reduceEqDiff, reduceAdd, reduceLeDiff, reduceLT, reduceMul, reduceSub, Mly.av, exA, exB, exC, exP, exL, exM, exK]) ?_
  refine hK0 _ ?_; clear hK0 K0; simp only [put, app, setAll, trOf, zE, zS, reduceAdd]
  iterate 6 (refine rg_step rfl fun K0 hK0 => ?_; simp only [zE, op1, ev, lkp, avOf, acOf, opExtract, opAlloc, opStore, Nat.mul_one, cellsAV, writeAC, datOf, acs, Ty.size, Ty.dflt, zG, reduceCtorEq, reduceEqDiff, reduceAdd, reduceLeDiff, reduceLT, reduceMul, reduceSub, Try.st24, Try.td1, Try.td24, Try.td27, Mly.av, exA, exB, exC, exP, exL, exM, exK]; (repeat refine And.intro (by first | omega | assumption | exact rfl) ?_); (first | refine hK0 _ ?_ | refine Or.inl (hK0 _ ?_)); clear hK0 K0; simp only [put, app, setAll, trOf, zE, zS, reduceAdd])
  refine rg_nil ?_
  refine hK10 _ ?_; clear hK10; refine awp_keep [0, 1, 2, 3, 4, 5, 6, 8, 9, 10, 12, 14, 15, 16] ?_; simp only [keepEnv, lkp, zE, reduceCtorEq, reduceEqDiff, argEnv, reduceAdd]
  refine awp_seq_k fun K11 hK11 => ?_
  refine awp_seq_k fun K12 hK12 => ?_
  have k1 : prE exA exB = 0 := by decide +kernel
  have k2 : plE exA exB = 0 := by decide +kernel
  have k3 : caE exB exA = 2 := by decide +kernel
  have k4 : maE exA [7, 5] = 0 := by decide +kernel
  have k5 : maE exA [7] = 2 := by decide +kernel
  have k6 : reE exA [] = 19 := by decide +kernel
  have k7 : caE exA exC = 0 := by decide +kernel
  simp only [exA, exB, exC] at k1 k2 k3 k4 k5 k6 k7
  refine awp_reg hP hN rfl ?_
  iterate 2 (refine rg_step rfl fun K0 hK0 => ?_; simp only [zE, op1, ev, lkp, avOf, acOf, opBin, arith, inK_i64, eqACs, eqAC, reduceCtorEq, reduceEqDiff, reduceAdd, reduceLeDiff, reduceLT, reduceMul, reduceSub, Try.td27, Try.td4, Mly.av, exA, exB, exC, exP, exL, exM, exK, k1, k2, k3, k4, k5, k6, k7]; (repeat refine And.intro (by first | omega | assumption | exact rfl) ?_); (first | refine hK0 _ ?_ | refine Or.inl (hK0 _ ?_)); clear hK0 K0; simp only [put, app, setAll, trOf, zE, zS, reduceAdd])
  (refine rg_step rfl fun K0 hK0 => ?_; simp only [zE, op1, ev, lkp, avOf, acOf, ev, reduceCtorEq, reduceEqDiff, reduceAdd, reduceLeDiff, reduceLT, reduceMul, reduceSub, Try.td4, Mly.av, exA, exB, exC, exP, exL, exM, exK, k1, k2, k3, k4, k5, k6, k7]; (repeat refine And.intro (by first | omega | assumption | exact rfl) ?_); (first | refine hK0 _ ?_ | refine Or.inl (hK0 _ ?_)); clear hK0 K0; simp only [put, app, setAll, trOf, zE, zS, reduceAdd])
  refine' rg_join_n (want := false) 2 rfl (m := 77) (by simp only [keepEnv, lkp, zE, reduceCtorEq, reduceEqDiff, argEnv, reduceAdd]; exact rfl) (by kernel_rfl) rfl rfl rfl rfl rfl (fun hg13 => ?a13) ?b13 ?c13
  case a13 =>
    have hq13 := hg13; (try simp only [zB, reduceCtorEq] at hg13); simp only [List.take_succ_cons, List.take_zero, List.cons_append, List.nil_append]
    (refine rg_do rfl fun K0 hK0 => ?_; simp only [zE, op1, ev, lkp, avOf, acOf, ev, reduceCtorEq, reduceEqDiff, reduceAdd, reduceLeDiff, reduceLT, reduceMul, reduceSub, Try.td27, Mly.av, exA, exB, exC, exP, exL, exM, exK, k1, k2, k3, k4, k5, k6, k7]; (repeat refine And.intro (by first | omega | assumption | exact rfl) ?_); (first | refine hK0 _ ?_ | refine Or.inl (hK0 _ ?_)); clear hK0 K0; simp only [put, app, setAll, trOf, zE, zS, reduceAdd])
    (refine rg_do rfl fun K0 hK0 => ?_; simp only [zE, op1, ev, lkp, avOf, acOf, opBin, arith, inK_i64, eqACs, eqAC, reduceCtorEq, reduceEqDiff, reduceAdd, reduceLeDiff, reduceLT, reduceMul, reduceSub, Try.td27, Try.td4, Mly.av, exA, exB, exC, exP, exL, exM, exK, k1, k2, k3, k4, k5, k6, k7]; (repeat refine And.intro (by first | omega | assumption | exact rfl) ?_); (first | refine hK0 _ ?_ | refine Or.inl (hK0 _ ?_)); clear hK0 K0; simp only [put, app, setAll, trOf, zE, zS, reduceAdd])
    (refine rg_step rfl fun K0 hK0 => ?_; simp only [zE, op1, ev, lkp, avOf, acOf, opPick, reduceCtorEq, reduceEqDiff, reduceAdd, reduceLeDiff, reduceLT, reduceMul, reduceSub, Try.td4, Mly.av, exA, exB, exC, exP, exL, exM, exK, k1, k2, k3, k4, k5, k6, k7]; (repeat refine And.intro (by first | omega | assumption | exact rfl) ?_); (first | refine hK0 _ ?_ | refine Or.inl (hK0 _ ?_)); clear hK0 K0; simp only [put, app, setAll, trOf, zE, zS, reduceAdd])
    refine rg_nil ?_
    refine ⟨by simp only [keepEnv, lkp, zE, reduceCtorEq, reduceEqDiff, argEnv, reduceAdd]; exact rfl, rfl, ?_, rfl⟩; (repeat refine keep_cons rfl ?_); exact keep_m (by exact rfl) hq13
  case b13 => exact tle_of (by first | rfl | (simp [tleB]; done) | decide)
  simp only [join_or, join_and]
  (refine rg_step rfl fun K0 hK0 => ?_; simp only [zE, op1, ev, lkp, avOf, acOf, ev, reduceCtorEq, reduceEqDiff, reduceAdd, reduceLeDiff, reduceLT, reduceMul, reduceSub, Try.td4, Mly.av, exA, exB, exC, exP, exL, exM, exK, k1, k2, k3, k4, k5, k6, k7]; (repeat refine And.intro (by first | omega | assumption | exact rfl) ?_); (first | refine hK0 _ ?_ | refine Or.inl (hK0 _ ?_)); clear hK0 K0; simp only [put, app, setAll, trOf, zE, zS, reduceAdd])
  refine' rg_join_n (want := false) 2 rfl (m := 81) (by simp only [keepEnv, lkp, zE, reduceCtorEq, reduceEqDiff, argEnv, reduceAdd]; exact rfl) (by kernel_rfl) rfl rfl rfl rfl rfl (fun hg14 => ?a14) ?b14 ?c14
  case a14 =>
    have hq14 := hg14; (try simp only [zB, reduceCtorEq] at hg14); simp only [List.take_succ_cons, List.take_zero, List.cons_append, List.nil_append]
    (refine rg_do rfl fun K0 hK0 => ?_; simp only [zE, op1, ev, lkp, avOf, acOf, ev, reduceCtorEq, reduceEqDiff, reduceAdd, reduceLeDiff, reduceLT, reduceMul, reduceSub, Try.td27, Mly.av, exA, exB, exC, exP, exL, exM, exK, k1, k2, k3, k4, k5, k6, k7]; (repeat refine And.intro (by first | omega | assumption | exact rfl) ?_); (first | refine hK0 _ ?_ | refine Or.inl (hK0 _ ?_)); clear hK0 K0; simp only [put, app, setAll, trOf, zE, zS, reduceAdd])
    (refine rg_do rfl fun K0 hK0 => ?_; simp only [zE, op1, ev, lkp, avOf, acOf, opBin, arith, inK_i64, eqACs, eqAC, reduceCtorEq, reduceEqDiff, reduceAdd, reduceLeDiff, reduceLT, reduceMul, reduceSub, Try.td27, Try.td4, Mly.av, exA, exB, exC, exP, exL, exM, exK, k1, k2, k3, k4, k5, k6, k7]; (repeat refine And.intro (by first | omega | assumption | exact rfl) ?_); (first | refine hK0 _ ?_ | refine Or.inl (hK0 _ ?_)); clear hK0 K0; simp only [put, app, setAll, trOf, zE, zS, reduceAdd])
    (refine rg_step rfl fun K0 hK0 => ?_; simp only [zE, op1, ev, lkp, avOf, acOf, opPick, reduceCtorEq, reduceEqDiff, reduceAdd, reduceLeDiff, reduceLT, reduceMul, reduceSub, Try.td4, Mly.av, exA, exB, exC, exP, exL, exM, exK, k1, k2, k3, k4, k5, k6, k7]; (repeat refine And.intro (by first | omega | assumption | exact rfl) ?_); (first | refine hK0 _ ?_ | refine Or.inl (hK0 _ ?_)); clear hK0 K0; simp only [put, app, setAll, trOf, zE, zS, reduceAdd])
    refine rg_nil ?_
    refine ⟨by simp only [keepEnv, lkp, zE, reduceCtorEq, reduceEqDiff, argEnv, reduceAdd]; exact rfl, rfl, ?_, rfl⟩; (repeat refine keep_cons rfl ?_); exact keep_m (by exact rfl) hq14
  case b14 => exact tle_of (by first | rfl | (simp [tleB]; done) | decide)
  simp only [join_or, join_and]
  (refine rg_step rfl fun K0 hK0 => ?_; simp only [zE, op1, ev, lkp, avOf, acOf, ev, reduceCtorEq, reduceEqDiff, reduceAdd, reduceLeDiff, reduceLT, reduceMul, reduceSub, Try.td4, Mly.av, exA, exB, exC, exP, exL, exM, exK, k1, k2, k3, k4, k5, k6, k7]; (repeat refine And.intro (by first | omega | assumption | exact rfl) ?_); (first | refine hK0 _ ?_ | refine Or.inl (hK0 _ ?_)); clear hK0 K0; simp only [put, app, setAll, trOf, zE, zS, reduceAdd])
  refine' rg_join_n (want := false) 2 rfl (m := 85) (by simp only [keepEnv, lkp, zE, reduceCtorEq, reduceEqDiff, argEnv, reduceAdd]; exact rfl) (by kernel_rfl) rfl rfl rfl rfl rfl (fun hg15 => ?a15) ?b15 ?c15
  case a15 =>
    have hq15 := hg15; (try simp only [zB, reduceCtorEq] at hg15); simp only [List.take_succ_cons, List.take_zero, List.cons_append, List.nil_append]
    (refine rg_do rfl fun K0 hK0 => ?_; simp only [zE, op1, ev, lkp, avOf, acOf, ev, reduceCtorEq, reduceEqDiff, reduceAdd, reduceLeDiff, reduceLT, reduceMul, reduceSub, Try.td27, Mly.av, exA, exB, exC, exP, exL, exM, exK, k1, k2, k3, k4, k5, k6, k7]; (repeat refine And.intro (by first | omega | assumption | exact rfl) ?_); (first | refine hK0 _ ?_ | refine Or.inl (hK0 _ ?_)); clear hK0 K0; simp only [put, app, setAll, trOf, zE, zS, reduceAdd])
    (refine rg_do rfl fun K0 hK0 => ?_; simp only [zE, op1, ev, lkp, avOf, acOf, opBin, arith, inK_i64, eqACs, eqAC, reduceCtorEq, reduceEqDiff, reduceAdd, reduceLeDiff, reduceLT, reduceMul, reduceSub, Try.td27, Try.td4, Mly.av, exA, exB, exC, exP, exL, exM, exK, k1, k2, k3, k4, k5, k6, k7]; (repeat refine And.intro (by first | omega | assumption | exact rfl) ?_); (first | refine hK0 _ ?_ | refine Or.inl (hK0 _ ?_)); clear hK0 K0; simp only [put, app, setAll, trOf, zE, zS, reduceAdd])
    (refine rg_step rfl fun K0 hK0 => ?_; simp only [zE, op1, ev, lkp, avOf, acOf, opPick, reduceCtorEq, reduceEqDiff, reduceAdd, reduceLeDiff, reduceLT, reduceMul, reduceSub, Try.td4, Mly.av, exA, exB, exC, exP, exL, exM, exK, k1, k2, k3, k4, k5, k6, k7]; (repeat refine And.intro (by first | omega | assumption | exact rfl) ?_); (first | refine hK0 _ ?_ | refine Or.inl (hK0 _ ?_)); clear hK0 K0; simp only [put, app, setAll, trOf, zE, zS, reduceAdd])
    refine rg_nil ?_
    refine ⟨by simp only [keepEnv, lkp, zE, reduceCtorEq, reduceEqDiff, argEnv, reduceAdd]; exact rfl, rfl, ?_, rfl⟩; (repeat refine keep_cons rfl ?_); exact keep_m (by exact rfl) hq15
  case b15 => exact tle_of (by first | rfl | (simp [tleB]; done) | decide)
  simp only [join_or, join_and]
  (refine rg_step rfl fun K0 hK0 => ?_; simp only [zE, op1, ev, lkp, avOf, acOf, ev, reduceCtorEq, reduceEqDiff, reduceAdd, reduceLeDiff, reduceLT, reduceMul, reduceSub, Try.td4, Mly.av, exA, exB, exC, exP, exL, exM, exK, k1, k2, k3, k4, k5, k6, k7]; (repeat refine And.intro (by first | omega | assumption | exact rfl) ?_); (first | refine hK0 _ ?_ | refine Or.inl (hK0 _ ?_)); clear hK0 K0; simp only [put, app, setAll, trOf, zE, zS, reduceAdd])
  refine' rg_join_n (want := false) 2 rfl (m := 89) (by simp only [keepEnv, lkp, zE, reduceCtorEq, reduceEqDiff, argEnv, reduceAdd]; exact rfl) (by kernel_rfl) rfl rfl rfl rfl rfl (fun hg16 => ?a16) ?b16 ?c16
  case a16 =>
    have hq16 := hg16; (try simp only [zB, reduceCtorEq] at hg16); simp only [List.take_succ_cons, List.take_zero, List.cons_append, List.nil_append]
    (refine rg_do rfl fun K0 hK0 => ?_; simp only [zE, op1, ev, lkp, avOf, acOf, ev, reduceCtorEq, reduceEqDiff, reduceAdd, reduceLeDiff, reduceLT, reduceMul, reduceSub, Try.td27, Mly.av, exA, exB, exC, exP, exL, exM, exK, k1, k2, k3, k4, k5, k6, k7]; (repeat refine And.intro (by first | omega | assumption | exact rfl) ?_); (first | refine hK0 _ ?_ | refine Or.inl (hK0 _ ?_)); clear hK0 K0; simp only [put, app, setAll, trOf, zE, zS, reduceAdd])
    (refine rg_do rfl fun K0 hK0 => ?_; simp only [zE, op1, ev, lkp, avOf, acOf, opBin, arith, inK_i64, eqACs, eqAC, reduceCtorEq, reduceEqDiff, reduceAdd, reduceLeDiff, reduceLT, reduceMul, reduceSub, Try.td27, Try.td4, Mly.av, exA, exB, exC, exP, exL, exM, exK, k1, k2, k3, k4, k5, k6, k7]; (repeat refine And.intro (by first | omega | assumption | exact rfl) ?_); (first | refine hK0 _ ?_ | refine Or.inl (hK0 _ ?_)); clear hK0 K0; simp only [put, app, setAll, trOf, zE, zS, reduceAdd])
    (refine rg_step rfl fun K0 hK0 => ?_; simp only [zE, op1, ev, lkp, avOf, acOf, opPick, reduceCtorEq, reduceEqDiff, reduceAdd, reduceLeDiff, reduceLT, reduceMul, reduceSub, Try.td4, Mly.av, exA, exB, exC, exP, exL, exM, exK, k1, k2, k3, k4, k5, k6, k7]; (repeat refine And.intro (by first | omega | assumption | exact rfl) ?_); (first | refine hK0 _ ?_ | refine Or.inl (hK0 _ ?_)); clear hK0 K0; simp only [put, app, setAll, trOf, zE, zS, reduceAdd])
    refine rg_nil ?_
    refine ⟨by simp only [keepEnv, lkp, zE, reduceCtorEq, reduceEqDiff, argEnv, reduceAdd]; exact rfl, rfl, ?_, rfl⟩; (repeat refine keep_cons rfl ?_); exact keep_m (by exact rfl) hq16
  case b16 => exact tle_of (by first | rfl | (simp [tleB]; done) | decide)
  simp only [join_or, join_and]
  (refine rg_step rfl fun K0 hK0 => ?_; simp only [zE, op1, ev, lkp, avOf, acOf, ev, reduceCtorEq, reduceEqDiff, reduceAdd, reduceLeDiff, reduceLT, reduceMul, reduceSub, Try.td4, Mly.av, exA, exB, exC, exP, exL, exM, exK, k1, k2, k3, k4, k5, k6, k7]; (repeat refine And.intro (by first | omega | assumption | exact rfl) ?_); (first | refine hK0 _ ?_ | refine Or.inl (hK0 _ ?_)); clear hK0 K0; simp only [put, app, setAll, trOf, zE, zS, reduceAdd])
  refine' rg_join_n (want := false) 2 rfl (m := 93) (by simp only [keepEnv, lkp, zE, reduceCtorEq, reduceEqDiff, argEnv, reduceAdd]; exact rfl) (by kernel_rfl) rfl rfl rfl rfl rfl (fun hg17 => ?a17) ?b17 ?c17
  case a17 =>
    have hq17 := hg17; (try simp only [zB, reduceCtorEq] at hg17); simp only [List.take_succ_cons, List.take_zero, List.cons_append, List.nil_append]
    (refine rg_do rfl fun K0 hK0 => ?_; simp only [zE, op1, ev, lkp, avOf, acOf, ev, reduceCtorEq, reduceEqDiff, reduceAdd, reduceLeDiff, reduceLT, reduceMul, reduceSub, Try.td27, Mly.av, exA, exB, exC, exP, exL, exM, exK, k1, k2, k3, k4, k5, k6, k7]; (repeat refine And.intro (by first | omega | assumption | exact rfl) ?_); (first | refine hK0 _ ?_ | refine Or.inl (hK0 _ ?_)); clear hK0 K0; simp only [put, app, setAll, trOf, zE, zS, reduceAdd])
    (refine rg_do rfl fun K0 hK0 => ?_; simp only [zE, op1, ev, lkp, avOf, acOf, opBin, arith, inK_i64, eqACs, eqAC, reduceCtorEq, reduceEqDiff, reduceAdd, reduceLeDiff, reduceLT, reduceMul, reduceSub, Try.td27, Try.td4, Mly.av, exA, exB, exC, exP, exL, exM, exK, k1, k2, k3, k4, k5, k6, k7]; (repeat refine And.intro (by first | omega | assumption | exact rfl) ?_); (first | refine hK0 _ ?_ | refine Or.inl (hK0 _ ?_)); clear hK0 K0; simp only [put, app, setAll, trOf, zE, zS, reduceAdd])
    (refine rg_step rfl fun K0 hK0 => ?_; simp only [zE, op1, ev, lkp, avOf, acOf, opPick, reduceCtorEq, reduceEqDiff, reduceAdd, reduceLeDiff, reduceLT, reduceMul, reduceSub, Try.td4, Mly.av, exA, exB, exC, exP, exL, exM, exK, k1, k2, k3, k4, k5, k6, k7]; (repeat refine And.intro (by first | omega | assumption | exact rfl) ?_); (first | refine hK0 _ ?_ | refine Or.inl (hK0 _ ?_)); clear hK0 K0; simp only [put, app, setAll, trOf, zE, zS, reduceAdd])
    refine rg_nil ?_
    refine ⟨by simp only [keepEnv, lkp, zE, reduceCtorEq, reduceEqDiff, argEnv, reduceAdd]; exact rfl, rfl, ?_, rfl⟩; (repeat refine keep_cons rfl ?_); exact keep_m (by exact rfl) hq17
  case b17 => exact tle_of (by first | rfl | (simp [tleB]; done) | decide)
  simp only [join_or, join_and]
  (refine rg_step rfl fun K0 hK0 => ?_; simp only [zE, op1, ev, lkp, avOf, acOf, ev, reduceCtorEq, reduceEqDiff, reduceAdd, reduceLeDiff, reduceLT, reduceMul, reduceSub, Try.td4, Mly.av, exA, exB, exC, exP, exL, exM, exK, k1, k2, k3, k4, k5, k6, k7]; (repeat refine And.intro (by first | omega | assumption | exact rfl) ?_); (first | refine hK0 _ ?_ | refine Or.inl (hK0 _ ?_)); clear hK0 K0; simp only [put, app, setAll, trOf, zE, zS, reduceAdd])
  refine' rg_join_n (want := false) 2 rfl (m := 97) (by simp only [keepEnv, lkp, zE, reduceCtorEq, reduceEqDiff, argEnv, reduceAdd]; exact rfl) (by kernel_rfl) rfl rfl rfl rfl rfl (fun hg18 => ?a18) ?b18 ?c18
  case a18 =>
    have hq18 := hg18; (try simp only [zB, reduceCtorEq] at hg18); simp only [List.take_succ_cons, List.take_zero, List.cons_append, List.nil_append]
    (refine rg_do rfl fun K0 hK0 => ?_; simp only [zE, op1, ev, lkp, avOf, acOf, ev, reduceCtorEq, reduceEqDiff, reduceAdd, reduceLeDiff, reduceLT, reduceMul, reduceSub, Try.td27, Mly.av, exA, exB, exC, exP, exL, exM, exK, k1, k2, k3, k4, k5, k6, k7]; (repeat refine And.intro (by first | omega | assumption | exact rfl) ?_); (first | refine hK0 _ ?_ | refine Or.inl (hK0 _ ?_)); clear hK0 K0; simp only [put, app, setAll, trOf, zE, zS, reduceAdd])
    (refine rg_do rfl fun K0 hK0 => ?_; simp only [zE, op1, ev, lkp, avOf, acOf, opBin, arith, inK_i64, eqACs, eqAC, reduceCtorEq, reduceEqDiff, reduceAdd, reduceLeDiff, reduceLT, reduceMul, reduceSub, Try.td27, Try.td4, Mly.av, exA, exB, exC, exP, exL, exM, exK, k1, k2, k3, k4, k5, k6, k7]; (repeat refine And.intro (by first | omega | assumption | exact rfl) ?_); (first | refine hK0 _ ?_ | refine Or.inl (hK0 _ ?_)); clear hK0 K0; simp only [put, app, setAll, trOf, zE, zS, reduceAdd])
    (refine rg_step rfl fun K0 hK0 => ?_; simp only [zE, op1, ev, lkp, avOf, acOf, opPick, reduceCtorEq, reduceEqDiff, reduceAdd, reduceLeDiff, reduceLT, reduceMul, reduceSub, Try.td4, Mly.av, exA, exB, exC, exP, exL, exM, exK, k1, k2, k3, k4, k5, k6, k7]; (repeat refine And.intro (by first | omega | assumption | exact rfl) ?_); (first | refine hK0 _ ?_ | refine Or.inl (hK0 _ ?_)); clear hK0 K0; simp only [put, app, setAll, trOf, zE, zS, reduceAdd])
    refine rg_nil ?_
    refine ⟨by simp only [keepEnv, lkp, zE, reduceCtorEq, reduceEqDiff, argEnv, reduceAdd]; exact rfl, rfl, ?_, rfl⟩; (repeat refine keep_cons rfl ?_); exact keep_m (by exact rfl) hq18
  case b18 => exact tle_of (by first | rfl | (simp [tleB]; done) | decide)
  simp only [join_or, join_and]
  refine rg_nil ?_
  refine hK12 _ ?_; clear hK12; refine awp_keep [0, 1, 2, 3, 4, 5, 6, 8, 9, 10, 12, 14, 15, 16, 100] ?_; simp only [keepEnv, lkp, zE, reduceCtorEq, reduceEqDiff, argEnv, reduceAdd]
  refine awp_cond (by simp only [ev, keepEnv, lkp, zE, reduceCtorEq, reduceEqDiff, argEnv, reduceAdd]; exact rfl) (fun hc19 => ?_) (fun hc19 => ?_)
  · exfalso; (try simp only [zB, reduceCtorEq] at hc19); all_goals (first | (cases hc19; done) | omega | (simp at hc19; done) | (simp_all; done))
  · (try simp only [zB, reduceCtorEq] at hc19)
    refine awp_skip ?_
    refine hK11 _ ?_; clear hK11; refine awp_keep [0, 1, 2, 3, 4, 5, 6, 8, 9, 10, 12, 14, 15, 16, 100] ?_; simp only [keepEnv, lkp, zE, reduceCtorEq, reduceEqDiff, argEnv, reduceAdd]
    refine awp_seq_k fun K20 hK20 => ?_
    refine awp_reg hP hN rfl ?_
    iterate 4 (refine rg_step rfl fun K0 hK0 => ?_; simp only [zE, op1, ev, lkp, avOf, acOf, opBuildSlice, fillAC, chunk, rep, datOf, writeAC, cellsAV, Ty.size, reduceCtorEq, reduceEqDiff, reduceAdd, reduceLeDiff, reduceLT, reduceMul, reduceSub, Try.el22, Try.el33, Try.td1, Try.td2, Try.td22, Try.td33, Mly.av, exA, exB, exC, exP, exL, exM, exK]; (repeat refine And.intro (by first | omega | assumption | exact rfl) ?_); (first | refine hK0 _ ?_ | refine Or.inl (hK0 _ ?_)); clear hK0 K0; simp only [put, app, setAll, trOf, zE, zS, reduceAdd])
    refine rg_nil ?_
    refine hK20 _ ?_; clear hK20; refine awp_keep [0, 1, 2, 3, 4, 5, 6, 8, 9, 10, 12, 14, 15, 16, 17, 100] ?_; simp only [keepEnv, lkp, zE, reduceCtorEq, reduceEqDiff, argEnv, reduceAdd]
    refine awp_seq_k fun K21 hK21 => ?_
    refine awp_reg hP hN rfl ?_
    iterate 6 (refine rg_step rfl fun K0 hK0 => ?_; simp only [zE, op1, ev, lkp, avOf, acOf, opLoad, Nat.mul_one, readAC, isAggK, acs, Ty.dflt, zG, cellsAt, opBuildSlice, fillAC, chunk, rep, datOf, writeAC, cellsAV, Ty.size, opBuild, reduceCtorEq, reduceEqDiff, reduceAdd, reduceLeDiff, reduceLT, reduceMul, reduceSub, Try.el22, Try.el33, Try.st24, Try.td1, Try.td2, Try.td22, Try.td24, Try.td33, Mly.av, exA, exB, exC, exP, exL, exM, exK]; (repeat refine And.intro (by first | omega | assumption | exact rfl) ?_); (first | refine hK0 _ ?_ | refine Or.inl (hK0 _ ?_)); clear hK0 K0; simp only [put, app, setAll, trOf, zE, zS, reduceAdd])
    refine rg_step rfl fun K0 hK0 => ?_
    refine op_call (h := call_of_pure (rsame_c (prM exA exB) exP)) rfl rfl (by first | exact rfl | (simp only [ev, keepEnv, lkp, zE, reduceCtorEq, reduceEqDiff, argEnv, reduceAdd]; exact rfl)) (by simp only [zE, zG, op1, ev, lkp, avOf, acOf, cellsAV, acs, capAV, mv1, mvC, Ty.dflt, reduceCtorEq, reduceEqDiff, reduceAdd, reduceLeDiff, reduceLT, reduceMul, reduceSub, Mly.av, exA, exB, exC, exP, exL, exM, exK]) ?_
    refine hK0 _ ?_; clear hK0 K0; simp only [put, app, setAll, trOf, zE, zS, reduceAdd]
    (refine rg_step rfl fun K0 hK0 => ?_; simp only [zE, op1, ev, lkp, avOf, acOf, ev, reduceCtorEq, reduceEqDiff, reduceAdd, reduceLeDiff, reduceLT, reduceMul, reduceSub, Try.td4, Mly.av, exA, exB, exC, exP, exL, exM, exK]; (repeat refine And.intro (by first | omega | assumption | exact rfl) ?_); (first | refine hK0 _ ?_ | refine Or.inl (hK0 _ ?_)); clear hK0 K0; simp only [put, app, setAll, trOf, zE, zS, reduceAdd])
    refine' rg_join_n (want := true) 9 rfl (m := 111) (by simp only [keepEnv, lkp, zE, reduceCtorEq, reduceEqDiff, argEnv, reduceAdd]; exact rfl) (by kernel_rfl) rfl rfl rfl rfl rfl (fun hg22 => ?a22) ?b22 ?c22
    case a22 =>
      have hq22 := hg22; (try simp only [zB, reduceCtorEq] at hg22); simp only [List.take_succ_cons, List.take_zero, List.cons_append, List.nil_append]
      (refine rg_do rfl fun K0 hK0 => ?_; simp only [zE, op1, ev, lkp, avOf, acOf, opLoad, Nat.mul_one, readAC, isAggK, acs, Ty.dflt, zG, cellsAt, reduceCtorEq, reduceEqDiff, reduceAdd, reduceLeDiff, reduceLT, reduceMul, reduceSub, Try.st24, Try.td24, Mly.av, exA, exB, exC, exP, exL, exM, exK]; (repeat refine And.intro (by first | omega | assumption | exact rfl) ?_); (first | refine hK0 _ ?_ | refine Or.inl (hK0 _ ?_)); clear hK0 K0; simp only [put, app, setAll, trOf, zE, zS, reduceAdd])
      (refine rg_do rfl fun K0 hK0 => ?_; simp only [zE, op1, ev, lkp, avOf, acOf, opBuildSlice, fillAC, chunk, rep, datOf, writeAC, cellsAV, Ty.size, reduceCtorEq, reduceEqDiff, reduceAdd, reduceLeDiff, reduceLT, reduceMul, reduceSub, Try.el33, Try.td2, Try.td33, Mly.av, exA, exB, exC, exP, exL, exM, exK]; (repeat refine And.intro (by first | omega | assumption | exact rfl) ?_); (first | refine hK0 _ ?_ | refine Or.inl (hK0 _ ?_)); clear hK0 K0; simp only [put, app, setAll, trOf, zE, zS, reduceAdd])
      (refine rg_do rfl fun K0 hK0 => ?_; simp only [zE, op1, ev, lkp, avOf, acOf, opBuildSlice, fillAC, chunk, rep, datOf, writeAC, cellsAV, Ty.size, reduceCtorEq, reduceEqDiff, reduceAdd, reduceLeDiff, reduceLT, reduceMul, reduceSub, Try.el33, Try.td2, Try.td33, Mly.av, exA, exB, exC, exP, exL, exM, exK]; (repeat refine And.intro (by first | omega | assumption | exact rfl) ?_); (first | refine hK0 _ ?_ | refine Or.inl (hK0 _ ?_)); clear hK0 K0; simp only [put, app, setAll, trOf, zE, zS, reduceAdd])
      (refine rg_do rfl fun K0 hK0 => ?_; simp only [zE, op1, ev, lkp, avOf, acOf, opBuildSlice, fillAC, chunk, rep, datOf, writeAC, cellsAV, Ty.size, reduceCtorEq, reduceEqDiff, reduceAdd, reduceLeDiff, reduceLT, reduceMul, reduceSub, Try.el22, Try.td2, Try.td22, Mly.av, exA, exB, exC, exP, exL, exM, exK]; (repeat refine And.intro (by first | omega | assumption | exact rfl) ?_); (first | refine hK0 _ ?_ | refine Or.inl (hK0 _ ?_)); clear hK0 K0; simp only [put, app, setAll, trOf, zE, zS, reduceAdd])
      (refine rg_do rfl fun K0 hK0 => ?_; simp only [zE, op1, ev, lkp, avOf, acOf, opBuildSlice, fillAC, chunk, rep, datOf, writeAC, cellsAV, Ty.size, reduceCtorEq, reduceEqDiff, reduceAdd, reduceLeDiff, reduceLT, reduceMul, reduceSub, Try.el33, Try.td2, Try.td33, Mly.av, exA, exB, exC, exP, exL, exM, exK]; (repeat refine And.intro (by first | omega | assumption | exact rfl) ?_); (first | refine hK0 _ ?_ | refine Or.inl (hK0 _ ?_)); clear hK0 K0; simp only [put, app, setAll, trOf, zE, zS, reduceAdd])
      (refine rg_do rfl fun K0 hK0 => ?_; simp only [zE, op1, ev, lkp, avOf, acOf, opBuildSlice, fillAC, chunk, rep, datOf, writeAC, cellsAV, Ty.size, reduceCtorEq, reduceEqDiff, reduceAdd, reduceLeDiff, reduceLT, reduceMul, reduceSub, Try.el33, Try.td2, Try.td33, Mly.av, exA, exB, exC, exP, exL, exM, exK]; (repeat refine And.intro (by first | omega | assumption | exact rfl) ?_); (first | refine hK0 _ ?_ | refine Or.inl (hK0 _ ?_)); clear hK0 K0; simp only [put, app, setAll, trOf, zE, zS, reduceAdd])
      (refine rg_do rfl fun K0 hK0 => ?_; simp only [zE, op1, ev, lkp, avOf, acOf, opBuildSlice, fillAC, chunk, rep, datOf, writeAC, cellsAV, Ty.size, reduceCtorEq, reduceEqDiff, reduceAdd, reduceLeDiff, reduceLT, reduceMul, reduceSub, Try.el22, Try.td2, Try.td22, Mly.av, exA, exB, exC, exP, exL, exM, exK]; (repeat refine And.intro (by first | omega | assumption | exact rfl) ?_); (first | refine hK0 _ ?_ | refine Or.inl (hK0 _ ?_)); clear hK0 K0; simp only [put, app, setAll, trOf, zE, zS, reduceAdd])
      (refine rg_do rfl fun K0 hK0 => ?_; simp only [zE, op1, ev, lkp, avOf, acOf, opBuild, fillAC, writeAC, cellsAV, reduceCtorEq, reduceEqDiff, reduceAdd, reduceLeDiff, reduceLT, reduceMul, reduceSub, Try.st24, Try.td24, Mly.av, exA, exB, exC, exP, exL, exM, exK]; (repeat refine And.intro (by first | omega | assumption | exact rfl) ?_); (first | refine hK0 _ ?_ | refine Or.inl (hK0 _ ?_)); clear hK0 K0; simp only [put, app, setAll, trOf, zE, zS, reduceAdd])
      refine rg_do rfl fun K0 hK0 => ?_
      refine op_call (h := call_of_pure (rsame_c (plM exA exB) exL)) rfl rfl (by first | exact rfl | (simp only [ev, keepEnv, lkp, zE, reduceCtorEq, reduceEqDiff, argEnv, reduceAdd]; exact rfl)) (by simp only [zE, zG, op1, ev, lkp, avOf, acOf, cellsAV, acs, capAV, mv1, mvC, Ty.dflt, reduceCtorEq, reduceEqDiff, reduceAdd, reduceLeDiff, reduceLT, reduceMul, reduceSub, Mly.av, exA, exB, exC, exP, exL, exM, exK]) ?_
      refine hK0 _ ?_; clear hK0 K0; simp only [put, app, setAll, trOf, zE, zS, reduceAdd]
      (refine rg_step rfl fun K0 hK0 => ?_; simp only [zE, op1, ev, lkp, avOf, acOf, opPick, reduceCtorEq, reduceEqDiff, reduceAdd, reduceLeDiff, reduceLT, reduceMul, reduceSub, Try.td4, Mly.av, exA, exB, exC, exP, exL, exM, exK]; (repeat refine And.intro (by first | omega | assumption | exact rfl) ?_); (first | refine hK0 _ ?_ | refine Or.inl (hK0 _ ?_)); clear hK0 K0; simp only [put, app, setAll, trOf, zE, zS, reduceAdd])
      refine rg_nil ?_
      refine ⟨by simp only [keepEnv, lkp, zE, reduceCtorEq, reduceEqDiff, argEnv, reduceAdd]; exact rfl, rfl, ?_, rfl⟩; (repeat refine keep_cons rfl ?_); exact keep_m (by exact rfl) hq22
    case b22 => exact tle_of (by first | rfl | (simp [tleB]; done) | decide)
    simp only [join_or, join_and]
    (refine rg_step rfl fun K0 hK0 => ?_; simp only [zE, op1, ev, lkp, avOf, acOf, ev, reduceCtorEq, reduceEqDiff, reduceAdd, reduceLeDiff, reduceLT, reduceMul, reduceSub, Try.td4, Mly.av, exA, exB, exC, exP, exL, exM, exK]; (repeat refine And.intro (by first | omega | assumption | exact rfl) ?_); (first | refine hK0 _ ?_ | refine Or.inl (hK0 _ ?_)); clear hK0 K0; simp only [put, app, setAll, trOf, zE, zS, reduceAdd])
    refine' rg_join_n (want := true) 7 rfl (m := 122) (by simp only [keepEnv, lkp, zE, reduceCtorEq, reduceEqDiff, argEnv, reduceAdd]; exact rfl) (by kernel_rfl) rfl rfl rfl rfl rfl (fun hg23 => ?a23) ?b23 ?c23
    case a23 =>
      have hq23 := hg23; (try simp only [zB, reduceCtorEq] at hg23); simp only [List.take_succ_cons, List.take_zero, List.cons_append, List.nil_append]
      (refine rg_do rfl fun K0 hK0 => ?_; simp only [zE, op1, ev, lkp, avOf, acOf, opLoad, Nat.mul_one, readAC, isAggK, acs, Ty.dflt, zG, cellsAt, reduceCtorEq, reduceEqDiff, reduceAdd, reduceLeDiff, reduceLT, reduceMul, reduceSub, Try.st24, Try.td24, Mly.av, exA, exB, exC, exP, exL, exM, exK]; (repeat refine And.intro (by first | omega | assumption | exact rfl) ?_); (first | refine hK0 _ ?_ | refine Or.inl (hK0 _ ?_)); clear hK0 K0; simp only [put, app, setAll, trOf, zE, zS, reduceAdd])
      (refine rg_do rfl fun K0 hK0 => ?_; simp only [zE, op1, ev, lkp, avOf, acOf, ev, reduceCtorEq, reduceEqDiff, reduceAdd, reduceLeDiff, reduceLT, reduceMul, reduceSub, Try.el22, Try.td22, Mly.av, exA, exB, exC, exP, exL, exM, exK]; (repeat refine And.intro (by first | omega | assumption | exact rfl) ?_); (first | refine hK0 _ ?_ | refine Or.inl (hK0 _ ?_)); clear hK0 K0; simp only [put, app, setAll, trOf, zE, zS, reduceAdd])
      (refine rg_do rfl fun K0 hK0 => ?_; simp only [zE, op1, ev, lkp, avOf, acOf, opBuildSlice, fillAC, chunk, rep, datOf, writeAC, cellsAV, Ty.size, reduceCtorEq, reduceEqDiff, reduceAdd, reduceLeDiff, reduceLT, reduceMul, reduceSub, Try.el33, Try.td1, Try.td33, Mly.av, exA, exB, exC, exP, exL, exM, exK]; (repeat refine And.intro (by first | omega | assumption | exact rfl) ?_); (first | refine hK0 _ ?_ | refine Or.inl (hK0 _ ?_)); clear hK0 K0; simp only [put, app, setAll, trOf, zE, zS, reduceAdd])
      (refine rg_do rfl fun K0 hK0 => ?_; simp only [zE, op1, ev, lkp, avOf, acOf, opBuildSlice, fillAC, chunk, rep, datOf, writeAC, cellsAV, Ty.size, reduceCtorEq, reduceEqDiff, reduceAdd, reduceLeDiff, reduceLT, reduceMul, reduceSub, Try.el33, Try.td1, Try.td33, Mly.av, exA, exB, exC, exP, exL, exM, exK]; (repeat refine And.intro (by first | omega | assumption | exact rfl) ?_); (first | refine hK0 _ ?_ | refine Or.inl (hK0 _ ?_)); clear hK0 K0; simp only [put, app, setAll, trOf, zE, zS, reduceAdd])
      (refine rg_do rfl fun K0 hK0 => ?_; simp only [zE, op1, ev, lkp, avOf, acOf, opBuildSlice, fillAC, chunk, rep, datOf, writeAC, cellsAV, Ty.size, reduceCtorEq, reduceEqDiff, reduceAdd, reduceLeDiff, reduceLT, reduceMul, reduceSub, Try.el22, Try.td2, Try.td22, Mly.av, exA, exB, exC, exP, exL, exM, exK]; (repeat refine And.intro (by first | omega | assumption | exact rfl) ?_); (first | refine hK0 _ ?_ | refine Or.inl (hK0 _ ?_)); clear hK0 K0; simp only [put, app, setAll, trOf, zE, zS, reduceAdd])
      (refine rg_do rfl fun K0 hK0 => ?_; simp only [zE, op1, ev, lkp, avOf, acOf, opBuild, fillAC, writeAC, cellsAV, reduceCtorEq, reduceEqDiff, reduceAdd, reduceLeDiff, reduceLT, reduceMul, reduceSub, Try.st24, Try.td24, Mly.av, exA, exB, exC, exP, exL, exM, exK]; (repeat refine And.intro (by first | omega | assumption | exact rfl) ?_); (first | refine hK0 _ ?_ | refine Or.inl (hK0 _ ?_)); clear hK0 K0; simp only [put, app, setAll, trOf, zE, zS, reduceAdd])
      refine rg_do rfl fun K0 hK0 => ?_
      refine op_call (h := call_of_pure (rsame_c (maM exA [7, 5]) exM)) rfl rfl (by first | exact rfl | (simp only [ev, keepEnv, lkp, zE, reduceCtorEq, reduceEqDiff, argEnv, reduceAdd]; exact rfl)) (by simp only [zE, zG, op1, ev, lkp, avOf, acOf, cellsAV, acs, capAV, mv1, mvC, Ty.dflt, reduceCtorEq, reduceEqDiff, reduceAdd, reduceLeDiff, reduceLT, reduceMul, reduceSub, Mly.av, exA, exB, exC, exP, exL, exM, exK]) ?_
      refine hK0 _ ?_; clear hK0 K0; simp only [put, app, setAll, trOf, zE, zS, reduceAdd]
      (refine rg_step rfl fun K0 hK0 => ?_; simp only [zE, op1, ev, lkp, avOf, acOf, opPick, reduceCtorEq, reduceEqDiff, reduceAdd, reduceLeDiff, reduceLT, reduceMul, reduceSub, Try.td4, Mly.av, exA, exB, exC, exP, exL, exM, exK]; (repeat refine And.intro (by first | omega | assumption | exact rfl) ?_); (first | refine hK0 _ ?_ | refine Or.inl (hK0 _ ?_)); clear hK0 K0; simp only [put, app, setAll, trOf, zE, zS, reduceAdd])
      refine rg_nil ?_
      refine ⟨by simp only [keepEnv, lkp, zE, reduceCtorEq, reduceEqDiff, argEnv, reduceAdd]; exact rfl, rfl, ?_, rfl⟩; (repeat refine keep_cons rfl ?_); exact keep_m (by exact rfl) hq23
    case b23 => exact tle_of (by first | rfl | (simp [tleB]; done) | decide)
    simp only [join_or, join_and]
    (refine rg_step rfl fun K0 hK0 => ?_; simp only [zE, op1, ev, lkp, avOf, acOf, ev, reduceCtorEq, reduceEqDiff, reduceAdd, reduceLeDiff, reduceLT, reduceMul, reduceSub, Try.td4, Mly.av, exA, exB, exC, exP, exL, exM, exK]; (repeat refine And.intro (by first | omega | assumption | exact rfl) ?_); (first | refine hK0 _ ?_ | refine Or.inl (hK0 _ ?_)); clear hK0 K0; simp only [put, app, setAll, trOf, zE, zS, reduceAdd])
    refine' rg_join_n (want := true) 7 rfl (m := 131) (by simp only [keepEnv, lkp, zE, reduceCtorEq, reduceEqDiff, argEnv, reduceAdd]; exact rfl) (by kernel_rfl) rfl rfl rfl rfl rfl (fun hg24 => ?a24) ?b24 ?c24
    case a24 =>
      have hq24 := hg24; (try simp only [zB, reduceCtorEq] at hg24); simp only [List.take_succ_cons, List.take_zero, List.cons_append, List.nil_append]
      (refine rg_do rfl fun K0 hK0 => ?_; simp only [zE, op1, ev, lkp, avOf, acOf, opLoad, Nat.mul_one, readAC, isAggK, acs, Ty.dflt, zG, cellsAt, reduceCtorEq, reduceEqDiff, reduceAdd, reduceLeDiff, reduceLT, reduceMul, reduceSub, Try.st24, Try.td24, Mly.av, exA, exB, exC, exP, exL, exM, exK]; (repeat refine And.intro (by first | omega | assumption | exact rfl) ?_); (first | refine hK0 _ ?_ | refine Or.inl (hK0 _ ?_)); clear hK0 K0; simp only [put, app, setAll, trOf, zE, zS, reduceAdd])
      (refine rg_do rfl fun K0 hK0 => ?_; simp only [zE, op1, ev, lkp, avOf, acOf, ev, reduceCtorEq, reduceEqDiff, reduceAdd, reduceLeDiff, reduceLT, reduceMul, reduceSub, Try.el22, Try.td22, Mly.av, exA, exB, exC, exP, exL, exM, exK]; (repeat refine And.intro (by first | omega | assumption | exact rfl) ?_); (first | refine hK0 _ ?_ | refine Or.inl (hK0 _ ?_)); clear hK0 K0; simp only [put, app, setAll, trOf, zE, zS, reduceAdd])
      (refine rg_do rfl fun K0 hK0 => ?_; simp only [zE, op1, ev, lkp, avOf, acOf, opBuildSlice, fillAC, chunk, rep, datOf, writeAC, cellsAV, Ty.size, reduceCtorEq, reduceEqDiff, reduceAdd, reduceLeDiff, reduceLT, reduceMul, reduceSub, Try.el33, Try.td1, Try.td33, Mly.av, exA, exB, exC, exP, exL, exM, exK]; (repeat refine And.intro (by first | omega | assumption | exact rfl) ?_); (first | refine hK0 _ ?_ | refine Or.inl (hK0 _ ?_)); clear hK0 K0; simp only [put, app, setAll, trOf, zE, zS, reduceAdd])
      (refine rg_do rfl fun K0 hK0 => ?_; simp only [zE, op1, ev, lkp, avOf, acOf, opBuildSlice, fillAC, chunk, rep, datOf, writeAC, cellsAV, Ty.size, reduceCtorEq, reduceEqDiff, reduceAdd, reduceLeDiff, reduceLT, reduceMul, reduceSub, Try.el33, Try.td1, Try.td33, Mly.av, exA, exB, exC, exP, exL, exM, exK]; (repeat refine And.intro (by first | omega | assumption | exact rfl) ?_); (first | refine hK0 _ ?_ | refine Or.inl (hK0 _ ?_)); clear hK0 K0; simp only [put, app, setAll, trOf, zE, zS, reduceAdd])
      (refine rg_do rfl fun K0 hK0 => ?_; simp only [zE, op1, ev, lkp, avOf, acOf, opBuildSlice, fillAC, chunk, rep, datOf, writeAC, cellsAV, Ty.size, reduceCtorEq, reduceEqDiff, reduceAdd, reduceLeDiff, reduceLT, reduceMul, reduceSub, Try.el22, Try.td2, Try.td22, Mly.av, exA, exB, exC, exP, exL, exM, exK]; (repeat refine And.intro (by first | omega | assumption | exact rfl) ?_); (first | refine hK0 _ ?_ | refine Or.inl (hK0 _ ?_)); clear hK0 K0; simp only [put, app, setAll, trOf, zE, zS, reduceAdd])
      (refine rg_do rfl fun K0 hK0 => ?_; simp only [zE, op1, ev, lkp, avOf, acOf, opBuild, fillAC, writeAC, cellsAV, reduceCtorEq, reduceEqDiff, reduceAdd, reduceLeDiff, reduceLT, reduceMul, reduceSub, Try.st24, Try.td24, Mly.av, exA, exB, exC, exP, exL, exM, exK]; (repeat refine And.intro (by first | omega | assumption | exact rfl) ?_); (first | refine hK0 _ ?_ | refine Or.inl (hK0 _ ?_)); clear hK0 K0; simp only [put, app, setAll, trOf, zE, zS, reduceAdd])
      refine rg_do rfl fun K0 hK0 => ?_
      refine op_call (h := call_of_pure (rsame_c (caM exA exC) exK)) rfl rfl (by first | exact rfl | (simp only [ev, keepEnv, lkp, zE, reduceCtorEq, reduceEqDiff, argEnv, reduceAdd]; exact rfl)) (by simp only [zE, zG, op1, ev, lkp, avOf, acOf, cellsAV, acs, capAV, mv1, mvC, Ty.dflt, reduceCtorEq, reduceEqDiff, reduceAdd, reduceLeDiff, reduceLT, reduceMul, reduceSub, Mly.av, exA, exB, exC, exP, exL, exM, exK]) ?_
      refine hK0 _ ?_; clear hK0 K0; simp only [put, app, setAll, trOf, zE, zS, reduceAdd]
      (refine rg_step rfl fun K0 hK0 => ?_; simp only [zE, op1, ev, lkp, avOf, acOf, opPick, reduceCtorEq, reduceEqDiff, reduceAdd, reduceLeDiff, reduceLT, reduceMul, reduceSub, Try.td4, Mly.av, exA, exB, exC, exP, exL, exM, exK]; (repeat refine And.intro (by first | omega | assumption | exact rfl) ?_); (first | refine hK0 _ ?_ | refine Or.inl (hK0 _ ?_)); clear hK0 K0; simp only [put, app, setAll, trOf, zE, zS, reduceAdd])
      refine rg_nil ?_
      refine ⟨by simp only [keepEnv, lkp, zE, reduceCtorEq, reduceEqDiff, argEnv, reduceAdd]; exact rfl, rfl, ?_, rfl⟩; (repeat refine keep_cons rfl ?_); exact keep_m (by exact rfl) hq24
    case b24 => exact tle_of (by first | rfl | (simp [tleB]; done) | decide)
    simp only [join_or, join_and]
    (refine rg_step rfl fun K0 hK0 => ?_; simp only [zE, op1, ev, lkp, avOf, acOf, ev, reduceCtorEq, reduceEqDiff, reduceAdd, reduceLeDiff, reduceLT, reduceMul, reduceSub, Try.td4, Mly.av, exA, exB, exC, exP, exL, exM, exK]; (repeat refine And.intro (by first | omega | assumption | exact rfl) ?_); (first | refine hK0 _ ?_ | refine Or.inl (hK0 _ ?_)); clear hK0 K0; simp only [put, app, setAll, trOf, zE, zS, reduceAdd])
    refine rg_nil ?_
    refine hK21 _ ?_; clear hK21; refine awp_keep [0, 1, 2, 3, 4, 5, 6, 8, 9, 10, 12, 14, 15, 16, 17, 100] ?_; simp only [keepEnv, lkp, zE, reduceCtorEq, reduceEqDiff, argEnv, reduceAdd]
    refine awp_ret ?_
    refine ⟨by first | exact .inl rfl | exact .inr rfl, _, rfl, ?_⟩; simp only [fzV, fz1, fzC, List.map_cons, List.map_nil, keepEnv, lkp, zE, reduceCtorEq, reduceEqDiff, argEnv, reduceAdd, Mly.av, exA, exB, exC, exP, exL, exM, exK]
    refine VLE.of_eq ?_
    refine congrArg (fun b => AV.one (AC.bool b)) ?_; decide +kernel
end Go.Proofs.Ytfbnhgefkdhiaaa
namespace Go.Proofs.Ytfbnhgefkdhiaaa
open Go Go.AV
open Nat (reduceEqDiff reduceAdd reduceLeDiff reduceLT reduceMul reduceSub)
open List (set_cons_zero set_cons_succ)
set_option maxRecDepth 100000 in
theorem g8_c (m : Mly) : PURE Try.prog 10 [m.av] (.one (.bool (g8 m))) := by
  refine pure_of_le Try.func10 rfl (by kernel_rfl) (Nat.le_of_ble_eq_true rfl) rfl fun C hP hN hB => ?_
  replace hN : C.N = 48 := hN
  simp only [argEnv, reduceAdd]
  refine awp_seq_k fun K1 hK1 => ?_
  refine awp_reg hP hN rfl ?_
  iterate 2 (refine rg_step rfl fun K0 hK0 => ?_; simp only [zE, op1, ev, lkp, avOf, acOf, opBox, cellsAV, reduceCtorEq, reduceEqDiff, reduceAdd, reduceLeDiff, reduceLT, reduceMul, reduceSub, Try.st24, Try.td24, Try.td4, Mly.av]; (repeat refine And.intro (by first | omega | assumption | exact rfl) ?_); (first | refine hK0 _ ?_ | refine Or.inl (hK0 _ ?_)); clear hK0 K0; simp only [put, app, setAll, trOf, zE, zS, reduceAdd])
  refine rg_nil ?_
  refine hK1 _ ?_; clear hK1; refine awp_keep [0, 1, 2] ?_; simp only [keepEnv, lkp, zE, reduceCtorEq, reduceEqDiff, argEnv, reduceAdd]
  refine awp_seq_k fun K2 hK2 => ?_
  refine awp_seq_k fun K3 hK3 => ?_
  refine awp_reg hP hN rfl ?_
  iterate 4 (refine rg_step rfl fun K0 hK0 => ?_; simp only [zE, op1, ev, lkp, avOf, acOf, opFieldAddr, opLoad, Nat.mul_one, readAC, isAggK, acs, Ty.dflt, zG, cellsAt, opCallAny, opMM, opLen, lenAC, lenOk, fpAC, Nat.div_one, opAppend, srcOf, Ty.size, datOf, dite_true, opBin, arith, inK_i64, eqACs, eqAC, reduceCtorEq, reduceEqDiff, reduceAdd, reduceLeDiff, reduceLT, reduceMul, reduceSub, Try.el22, Try.st24, Try.td2, Try.td22, Try.td24, Try.td3, Try.td4, Mly.av]; (repeat refine And.intro (by first | omega | assumption | exact rfl) ?_); (first | refine hK0 _ ?_ | refine Or.inl (hK0 _ ?_)); clear hK0 K0; simp only [put, app, setAll, trOf, zE, zS, reduceAdd])
  (refine rg_step rfl fun K0 hK0 => ?_; simp only [zE, op1, ev, lkp, avOf, acOf, ev, reduceCtorEq, reduceEqDiff, reduceAdd, reduceLeDiff, reduceLT, reduceMul, reduceSub, Try.td4, Mly.av]; (repeat refine And.intro (by first | omega | assumption | exact rfl) ?_); (first | refine hK0 _ ?_ | refine Or.inl (hK0 _ ?_)); clear hK0 K0; simp only [put, app, setAll, trOf, zE, zS, reduceAdd])
  refine' rg_join_n (want := false) 4 rfl (m := 9) (by simp only [keepEnv, lkp, zE, reduceCtorEq, reduceEqDiff, argEnv, reduceAdd]; exact rfl) (by kernel_rfl) rfl rfl rfl rfl rfl (fun hg4 => ?a4) ?b4 ?c4
  case a4 =>
    have hq4 := hg4; (try simp only [zB, reduceCtorEq] at hg4); simp only [List.take_succ_cons, List.take_zero, List.cons_append, List.nil_append]
    (refine rg_do rfl fun K0 hK0 => ?_; simp only [zE, op1, ev, lkp, avOf, acOf, opFieldAddr, reduceCtorEq, reduceEqDiff, reduceAdd, reduceLeDiff, reduceLT, reduceMul, reduceSub, Try.st24, Try.td24, Try.td3, Mly.av]; (repeat refine And.intro (by first | omega | assumption | exact rfl) ?_); (first | refine hK0 _ ?_ | refine Or.inl (hK0 _ ?_)); clear hK0 K0; simp only [put, app, setAll, trOf, zE, zS, reduceAdd])
    (refine rg_do rfl fun K0 hK0 => ?_; simp only [zE, op1, ev, lkp, avOf, acOf, opLoad, Nat.mul_one, readAC, isAggK, acs, Ty.dflt, zG, cellsAt, reduceCtorEq, reduceEqDiff, reduceAdd, reduceLeDiff, reduceLT, reduceMul, reduceSub, Try.el22, Try.td22, Mly.av]; (repeat refine And.intro (by first | omega | assumption | exact rfl) ?_); (first | refine hK0 _ ?_ | refine Or.inl (hK0 _ ?_)); clear hK0 K0; simp only [put, app, setAll, trOf, zE, zS, reduceAdd])
    (refine rg_do rfl fun K0 hK0 => ?_; simp only [zE, op1, ev, lkp, avOf, acOf, opCallAny, opMM, opLen, lenAC, lenOk, fpAC, Nat.div_one, opAppend, srcOf, Ty.size, datOf, dite_true, reduceCtorEq, reduceEqDiff, reduceAdd, reduceLeDiff, reduceLT, reduceMul, reduceSub, Try.el22, Try.td22, Try.td3, Mly.av]; (repeat refine And.intro (by first | omega | assumption | exact rfl) ?_); (first | refine hK0 _ ?_ | refine Or.inl (hK0 _ ?_)); clear hK0 K0; simp only [put, app, setAll, trOf, zE, zS, reduceAdd])
    (refine rg_do rfl fun K0 hK0 => ?_; simp only [zE, op1, ev, lkp, avOf, acOf, opBin, arith, inK_i64, eqACs, eqAC, reduceCtorEq, reduceEqDiff, reduceAdd, reduceLeDiff, reduceLT, reduceMul, reduceSub, Try.td3, Try.td4, Mly.av]; (repeat refine And.intro (by first | omega | assumption | exact rfl) ?_); (first | refine hK0 _ ?_ | refine Or.inl (hK0 _ ?_)); clear hK0 K0; simp only [put, app, setAll, trOf, zE, zS, reduceAdd])
    (refine rg_step rfl fun K0 hK0 => ?_; simp only [zE, op1, ev, lkp, avOf, acOf, opPick, reduceCtorEq, reduceEqDiff, reduceAdd, reduceLeDiff, reduceLT, reduceMul, reduceSub, Try.td4, Mly.av]; (repeat refine And.intro (by first | omega | assumption | exact rfl) ?_); (first | refine hK0 _ ?_ | refine Or.inl (hK0 _ ?_)); clear hK0 K0; simp only [put, app, setAll, trOf, zE, zS, reduceAdd])
    refine rg_nil ?_
    refine ⟨by simp only [keepEnv, lkp, zE, reduceCtorEq, reduceEqDiff, argEnv, reduceAdd]; exact rfl, rfl, ?_, rfl⟩; (repeat refine keep_cons rfl ?_); exact keep_m (by exact rfl) hq4
  case b4 => exact tle_of (by first | rfl | (simp [tleB]; done) | decide)
  simp only [join_or, join_and]
  (refine rg_step rfl fun K0 hK0 => ?_; simp only [zE, op1, ev, lkp, avOf, acOf, ev, reduceCtorEq, reduceEqDiff, reduceAdd, reduceLeDiff, reduceLT, reduceMul, reduceSub, Try.td4, Mly.av]; (repeat refine And.intro (by first | omega | assumption | exact rfl) ?_); (first | refine hK0 _ ?_ | refine Or.inl (hK0 _ ?_)); clear hK0 K0; simp only [put, app, setAll, trOf, zE, zS, reduceAdd])
  refine' rg_join_n (want := false) 3 rfl (m := 15) (by simp only [keepEnv, lkp, zE, reduceCtorEq, reduceEqDiff, argEnv, reduceAdd]; exact rfl) (by kernel_rfl) rfl rfl rfl rfl rfl (fun hg5 => ?a5) ?b5 ?c5
  case a5 =>
    have hq5 := hg5; (try simp only [zB, reduceCtorEq] at hg5); simp only [List.take_succ_cons, List.take_zero, List.cons_append, List.nil_append]
    (refine rg_do rfl fun K0 hK0 => ?_; simp only [zE, op1, ev, lkp, avOf, acOf, opFieldAddr, reduceCtorEq, reduceEqDiff, reduceAdd, reduceLeDiff, reduceLT, reduceMul, reduceSub, Try.st24, Try.td24, Mly.av]; (repeat refine And.intro (by first | omega | assumption | exact rfl) ?_); (first | refine hK0 _ ?_ | refine Or.inl (hK0 _ ?_)); clear hK0 K0; simp only [put, app, setAll, trOf, zE, zS, reduceAdd])
    (refine rg_do rfl fun K0 hK0 => ?_; simp only [zE, op1, ev, lkp, avOf, acOf, opLoad, Nat.mul_one, readAC, isAggK, acs, Ty.dflt, zG, cellsAt, reduceCtorEq, reduceEqDiff, reduceAdd, reduceLeDiff, reduceLT, reduceMul, reduceSub, Try.td3, Mly.av]; (repeat refine And.intro (by first | omega | assumption | exact rfl) ?_); (first | refine hK0 _ ?_ | refine Or.inl (hK0 _ ?_)); clear hK0 K0; simp only [put, app, setAll, trOf, zE, zS, reduceAdd])
    (refine rg_do rfl fun K0 hK0 => ?_; simp only [zE, op1, ev, lkp, avOf, acOf, opBin, arith, inK_i64, eqACs, eqAC, reduceCtorEq, reduceEqDiff, reduceAdd, reduceLeDiff, reduceLT, reduceMul, reduceSub, Try.td3, Try.td4, Mly.av]; (repeat refine And.intro (by first | omega | assumption | exact rfl) ?_); (first | refine hK0 _ ?_ | refine Or.inl (hK0 _ ?_)); clear hK0 K0; simp only [put, app, setAll, trOf, zE, zS, reduceAdd])
    (refine rg_step rfl fun K0 hK0 => ?_; simp only [zE, op1, ev, lkp, avOf, acOf, opPick, reduceCtorEq, reduceEqDiff, reduceAdd, reduceLeDiff, reduceLT, reduceMul, reduceSub, Try.td4, Mly.av]; (repeat refine And.intro (by first | omega | assumption | exact rfl) ?_); (first | refine hK0 _ ?_ | refine Or.inl (hK0 _ ?_)); clear hK0 K0; simp only [put, app, setAll, trOf, zE, zS, reduceAdd])
    refine rg_nil ?_
    refine ⟨by simp only [keepEnv, lkp, zE, reduceCtorEq, reduceEqDiff, argEnv, reduceAdd]; exact rfl, rfl, ?_, rfl⟩; (repeat refine keep_cons rfl ?_); exact keep_m (by exact rfl) hq5
  case b5 => exact tle_of (by first | rfl | (simp [tleB]; done) | decide)
  simp only [join_or, join_and]
  refine rg_nil ?_
  refine hK3 _ ?_; clear hK3; refine awp_keep [0, 1, 2, 19] ?_; simp only [keepEnv, lkp, zE, reduceCtorEq, reduceEqDiff, argEnv, reduceAdd]
  refine awp_cond (by simp only [ev, keepEnv, lkp, zE, reduceCtorEq, reduceEqDiff, argEnv, reduceAdd]; exact rfl) (fun hc6 => ?_) (fun hc6 => ?_)
  · (try simp only [zB, reduceCtorEq] at hc6)
    refine awp_seq_k fun K7 hK7 => ?_
    refine awp_reg hP hN rfl ?_
    (refine rg_step rfl fun K0 hK0 => ?_; simp only [zE, op1, ev, lkp, avOf, acOf, ev, reduceCtorEq, reduceEqDiff, reduceAdd, reduceLeDiff, reduceLT, reduceMul, reduceSub, Try.td4, Mly.av]; (repeat refine And.intro (by first | omega | assumption | exact rfl) ?_); (first | refine hK0 _ ?_ | refine Or.inl (hK0 _ ?_)); clear hK0 K0; simp only [put, app, setAll, trOf, zE, zS, reduceAdd])
    refine rg_nil ?_
    refine hK7 _ ?_; clear hK7; refine awp_keep [0, 1, 2, 19] ?_; simp only [keepEnv, lkp, zE, reduceCtorEq, reduceEqDiff, argEnv, reduceAdd]
    refine awp_ret ?_
    refine ⟨by first | exact .inl rfl | exact .inr rfl, _, rfl, ?_⟩; simp only [fzV, fz1, fzC, List.map_cons, List.map_nil, keepEnv, lkp, zE, reduceCtorEq, reduceEqDiff, argEnv, reduceAdd, Mly.av]
    refine VLE.of_eq ?_
    refine congrArg (fun b => AV.one (AC.bool b)) ?_
    symm
    unfold g8
    first
    | (simp only [Bool.or_eq_true, decide_eq_true_eq]; omega)
    | (rw [anyL_at (ls := m.nx) (k := k) (by omega) (by omega)]; simp; done)
    | (rw [anyL_at (ls := m.ot) (k := k) (by omega) (by omega)]; simp; done)
    | (rw [anyL_no (ls := m.nx) (fun q hq => hqnx q (by omega)), anyL_no (ls := m.ot) (fun q hq => hqot q (by omega))]; simp only [Bool.or_eq_false_iff, decide_eq_false_iff_not, Bool.or_false]; omega)
  · (try simp only [zB, reduceCtorEq] at hc6)
    refine awp_skip ?_
    refine hK2 _ ?_; clear hK2; refine awp_keep [0, 1, 2, 19] ?_; simp only [keepEnv, lkp, zE, reduceCtorEq, reduceEqDiff, argEnv, reduceAdd]
    refine awp_seq_k fun K8 hK8 => ?_
    refine awp_seq_k fun K9 hK9 => ?_
    refine awp_reg hP hN rfl ?_
    iterate 4 (refine rg_step rfl fun K0 hK0 => ?_; simp only [zE, op1, ev, lkp, avOf, acOf, opFieldAddr, opLoad, Nat.mul_one, readAC, isAggK, acs, Ty.dflt, zG, cellsAt, opCallAny, opMM, opLen, lenAC, lenOk, fpAC, Nat.div_one, opAppend, srcOf, Ty.size, datOf, dite_true, reduceCtorEq, reduceEqDiff, reduceAdd, reduceLeDiff, reduceLT, reduceMul, reduceSub, Try.el22, Try.st24, Try.td2, Try.td22, Try.td24, Try.td3, Mly.av]; (repeat refine And.intro (by first | omega | assumption | exact rfl) ?_); (first | refine hK0 _ ?_ | refine Or.inl (hK0 _ ?_)); clear hK0 K0; simp only [put, app, setAll, trOf, zE, zS, reduceAdd])
    refine rg_nil ?_
    refine hK9 _ ?_; clear hK9; refine awp_keep [0, 1, 2, 19, 22, 23] ?_; simp only [keepEnv, lkp, zE, reduceCtorEq, reduceEqDiff, argEnv, reduceAdd]
    refine awp_block ?_
    refine awp_loop (fun n10 s10 => ∃ (k : Nat), (k ≤ m.nx.length) ∧ (∀ q, q < k → (m.nx.getD q []).length ≤ 12) ∧ n10 = m.nx.length - k ∧ s10 = { env := [(1, .one (.ptr 0 0 0 0)), (22, .one (.int .i64 (m.nx.length : Int))), (23, .one (.int .i64 (k : Int)))], L := [.vars 24 [.int .i64 m.inp, .int .i64 m.st, .list (.list (.int .i64)) m.nx, .list (.list (.int .i64)) m.ot]] }) ?_ ?_
    · exact ⟨_, _, sub_keep [1, 22, 23], 0, Nat.zero_le _, fun q hq => by omega, rfl, rfl⟩
    · rintro n10 s10 ⟨k, hknx, hqnx, rfl, rfl⟩
      refine awp_seq_k fun K11 hK11 => ?_
      refine awp_reg hP hN rfl ?_
      (refine rg_step rfl fun K0 hK0 => ?_; simp only [zE, op1, ev, lkp, avOf, acOf, opBin, arith, inK_i64, eqACs, eqAC, reduceCtorEq, reduceEqDiff, reduceAdd, reduceLeDiff, reduceLT, reduceMul, reduceSub, Try.td3, Mly.av]; (repeat refine And.intro (by first | omega | assumption | exact rfl) ?_); (first | refine hK0 _ ?_ | refine Or.inl (hK0 _ ?_)); clear hK0 K0; simp only [put, app, setAll, trOf, zE, zS, reduceAdd])
      refine rg_nil ?_
      refine hK11 _ ?_; clear hK11; refine awp_keep [1, 22, 23, 24] ?_; simp only [keepEnv, lkp, zE, reduceCtorEq, reduceEqDiff, argEnv, reduceAdd]
      refine awp_seq_k fun K12 hK12 => ?_
      refine awp_cond (by simp only [ev, keepEnv, lkp, zE, reduceCtorEq, reduceEqDiff, argEnv, reduceAdd]; exact rfl) (fun hc13 => ?_) (fun hc13 => ?_)
      · (try simp only [zB, reduceCtorEq] at hc13)
        refine awp_skip ?_
        refine hK12 _ ?_; clear hK12; refine awp_keep [1, 22, 23, 24] ?_; simp only [keepEnv, lkp, zE, reduceCtorEq, reduceEqDiff, argEnv, reduceAdd]
        refine awp_seq_k fun K14 hK14 => ?_
        refine awp_block ?_
        refine awp_seq_k fun K15 hK15 => ?_
        refine awp_reg hP hN rfl ?_
        iterate 2 (refine rg_step rfl fun K0 hK0 => ?_; simp only [zE, op1, ev, lkp, avOf, acOf, ev, reduceCtorEq, reduceEqDiff, reduceAdd, reduceLeDiff, reduceLT, reduceMul, reduceSub, Try.td3, Mly.av]; (repeat refine And.intro (by first | omega | assumption | exact rfl) ?_); (first | refine hK0 _ ?_ | refine Or.inl (hK0 _ ?_)); clear hK0 K0; simp only [put, app, setAll, trOf, zE, zS, reduceAdd])
        refine rg_nil ?_
        refine hK15 _ ?_; clear hK15; refine awp_keep [1, 3, 22, 23, 24] ?_; simp only [keepEnv, lkp, zE, reduceCtorEq, reduceEqDiff, argEnv, reduceAdd]
        refine awp_seq_k fun K16 hK16 => ?_
        refine awp_reg hP hN rfl ?_
        iterate 7 (refine rg_step rfl fun K0 hK0 => ?_; simp only [zE, op1, ev, lkp, avOf, acOf, opFieldAddr, opLoad, Nat.mul_one, readAC, isAggK, acs, Ty.dflt, zG, cellsAt, opIndexAddr, Ty.size, ne_eq, not_false_eq_true, Int.natCast_one, Int.mul_one, opCallAny, opMM, opLen, lenAC, lenOk, fpAC, Nat.div_one, opAppend, srcOf, datOf, dite_true, opBin, arith, inK_i64, eqACs, eqAC, reduceCtorEq, reduceEqDiff, reduceAdd, reduceLeDiff, reduceLT, reduceMul, reduceSub, Try.el22, Try.el33, Try.st24, Try.td2, Try.td22, Try.td24, Try.td3, Try.td33, Try.td4, Mly.av]; (repeat refine And.intro (by first | omega | assumption | exact rfl) ?_); (first | refine hK0 _ ?_ | refine Or.inl (hK0 _ ?_)); clear hK0 K0; simp only [put, app, setAll, trOf, zE, zS, reduceAdd])
        refine rg_nil ?_
        refine hK16 _ ?_; clear hK16; refine awp_keep [1, 3, 22, 23, 24, 32] ?_; simp only [keepEnv, lkp, zE, reduceCtorEq, reduceEqDiff, argEnv, reduceAdd]
        refine awp_cond (by simp only [ev, keepEnv, lkp, zE, reduceCtorEq, reduceEqDiff, argEnv, reduceAdd]; exact rfl) (fun hc17 => ?_) (fun hc17 => ?_)
        · (try simp only [zB, reduceCtorEq] at hc17)
          refine awp_seq_k fun K18 hK18 => ?_
          refine awp_reg hP hN rfl ?_
          (refine rg_step rfl fun K0 hK0 => ?_; simp only [zE, op1, ev, lkp, avOf, acOf, ev, reduceCtorEq, reduceEqDiff, reduceAdd, reduceLeDiff, reduceLT, reduceMul, reduceSub, Try.td4, Mly.av]; (repeat refine And.intro (by first | omega | assumption | exact rfl) ?_); (first | refine hK0 _ ?_ | refine Or.inl (hK0 _ ?_)); clear hK0 K0; simp only [put, app, setAll, trOf, zE, zS, reduceAdd])
          refine rg_nil ?_
          refine hK18 _ ?_; clear hK18; refine awp_keep [1, 2, 3, 22, 23, 24, 32] ?_; simp only [keepEnv, lkp, zE, reduceCtorEq, reduceEqDiff, argEnv, reduceAdd]
          refine awp_ret ?_
          refine ⟨by first | exact .inl rfl | exact .inr rfl, _, rfl, ?_⟩; simp only [fzV, fz1, fzC, List.map_cons, List.map_nil, keepEnv, lkp, zE, reduceCtorEq, reduceEqDiff, argEnv, reduceAdd, Mly.av]
          refine VLE.of_eq ?_
          refine congrArg (fun b => AV.one (AC.bool b)) ?_
          symm
          unfold g8
          first
          | (simp only [Bool.or_eq_true, decide_eq_true_eq]; omega)
          | (rw [anyL_at (ls := m.nx) (k := k) (by omega) (by omega)]; simp; done)
          | (rw [anyL_at (ls := m.ot) (k := k) (by omega) (by omega)]; simp; done)
          | (rw [anyL_no (ls := m.nx) (fun q hq => hqnx q (by omega)), anyL_no (ls := m.ot) (fun q hq => hqot q (by omega))]; simp only [Bool.or_eq_false_iff, decide_eq_false_iff_not, Bool.or_false]; omega)
        · (try simp only [zB, reduceCtorEq] at hc17)
          refine awp_skip ?_
          refine hK14 _ ?_; clear hK14; refine awp_keep [1, 3, 22, 23, 24, 32] ?_; simp only [keepEnv, lkp, zE, reduceCtorEq, reduceEqDiff, argEnv, reduceAdd]
          refine awp_reg hP hN rfl ?_
          iterate 2 (refine rg_step rfl fun K0 hK0 => ?_; simp only [zE, op1, ev, lkp, avOf, acOf, opBin, arith, inK_i64, eqACs, eqAC, reduceCtorEq, reduceEqDiff, reduceAdd, reduceLeDiff, reduceLT, reduceMul, reduceSub, Try.td3, Mly.av]; (repeat refine And.intro (by first | omega | assumption | exact rfl) ?_); (first | refine hK0 _ ?_ | refine Or.inl (hK0 _ ?_)); clear hK0 K0; simp only [put, app, setAll, trOf, zE, zS, reduceAdd])
          refine rg_nil ?_
          refine ⟨_, _, ?_, sub_keep [1, 22, 23], k + 1, by omega, fun q hq2 => ?_, rfl, rfl⟩
          · omega
          · by_cases e : q = k
            · rw [e]; omega
            · exact hqnx q (by omega)
      · (try simp only [zB, reduceCtorEq] at hc13)
        refine awp_exit ?_
        refine hK8 _ ?_; clear hK8; refine awp_keep [1, 22, 23, 24] ?_; simp only [keepEnv, lkp, zE, reduceCtorEq, reduceEqDiff, argEnv, reduceAdd]
        refine awp_seq_k fun K19 hK19 => ?_
        refine awp_seq_k fun K20 hK20 => ?_
        refine awp_reg hP hN rfl ?_
        iterate 4 (refine rg_step rfl fun K0 hK0 => ?_; simp only [zE, op1, ev, lkp, avOf, acOf, opFieldAddr, opLoad, Nat.mul_one, readAC, isAggK, acs, Ty.dflt, zG, cellsAt, opCallAny, opMM, opLen, lenAC, lenOk, fpAC, Nat.div_one, opAppend, srcOf, Ty.size, datOf, dite_true, reduceCtorEq, reduceEqDiff, reduceAdd, reduceLeDiff, reduceLT, reduceMul, reduceSub, Try.el22, Try.st24, Try.td22, Try.td24, Try.td3, Mly.av]; (repeat refine And.intro (by first | omega | assumption | exact rfl) ?_); (first | refine hK0 _ ?_ | refine Or.inl (hK0 _ ?_)); clear hK0 K0; simp only [put, app, setAll, trOf, zE, zS, reduceAdd])
        refine rg_nil ?_
        refine hK20 _ ?_; clear hK20; refine awp_keep [1, 22, 23, 24, 36, 37] ?_; simp only [keepEnv, lkp, zE, reduceCtorEq, reduceEqDiff, argEnv, reduceAdd]
        refine awp_block ?_
        refine awp_loop (fun n21 s21 => ∃ (k : Nat), (k ≤ m.ot.length) ∧ (∀ q, q < k → (m.ot.getD q []).length ≤ 12) ∧ n21 = m.ot.length - k ∧ s21 = { env := [(1, .one (.ptr 0 0 0 0)), (36, .one (.int .i64 (m.ot.length : Int))), (37, .one (.int .i64 (k : Int)))], L := [.vars 24 [.int .i64 m.inp, .int .i64 m.st, .list (.list (.int .i64)) m.nx, .list (.list (.int .i64)) m.ot]] }) ?_ ?_
        · exact ⟨_, _, sub_keep [1, 36, 37], 0, Nat.zero_le _, fun q hq => by omega, rfl, rfl⟩
        · rintro n21 s21 ⟨k, hkot, hqot, rfl, rfl⟩
          refine awp_seq_k fun K22 hK22 => ?_
          refine awp_reg hP hN rfl ?_
          (refine rg_step rfl fun K0 hK0 => ?_; simp only [zE, op1, ev, lkp, avOf, acOf, opBin, arith, inK_i64, eqACs, eqAC, reduceCtorEq, reduceEqDiff, reduceAdd, reduceLeDiff, reduceLT, reduceMul, reduceSub, Try.td3, Mly.av]; (repeat refine And.intro (by first | omega | assumption | exact rfl) ?_); (first | refine hK0 _ ?_ | refine Or.inl (hK0 _ ?_)); clear hK0 K0; simp only [put, app, setAll, trOf, zE, zS, reduceAdd])
          refine rg_nil ?_
          refine hK22 _ ?_; clear hK22; refine awp_keep [1, 36, 37, 38] ?_; simp only [keepEnv, lkp, zE, reduceCtorEq, reduceEqDiff, argEnv, reduceAdd]
          refine awp_seq_k fun K23 hK23 => ?_
          refine awp_cond (by simp only [ev, keepEnv, lkp, zE, reduceCtorEq, reduceEqDiff, argEnv, reduceAdd]; exact rfl) (fun hc24 => ?_) (fun hc24 => ?_)
          · (try simp only [zB, reduceCtorEq] at hc24)
            refine awp_skip ?_
            refine hK23 _ ?_; clear hK23; refine awp_keep [1, 36, 37, 38] ?_; simp only [keepEnv, lkp, zE, reduceCtorEq, reduceEqDiff, argEnv, reduceAdd]
            refine awp_seq_k fun K25 hK25 => ?_
            refine awp_block ?_
            refine awp_seq_k fun K26 hK26 => ?_
            refine awp_reg hP hN rfl ?_
            iterate 2 (refine rg_step rfl fun K0 hK0 => ?_; simp only [zE, op1, ev, lkp, avOf, acOf, ev, reduceCtorEq, reduceEqDiff, reduceAdd, reduceLeDiff, reduceLT, reduceMul, reduceSub, Try.td3, Mly.av]; (repeat refine And.intro (by first | omega | assumption | exact rfl) ?_); (first | refine hK0 _ ?_ | refine Or.inl (hK0 _ ?_)); clear hK0 K0; simp only [put, app, setAll, trOf, zE, zS, reduceAdd])
            refine rg_nil ?_
            refine hK26 _ ?_; clear hK26; refine awp_keep [1, 4, 36, 37, 38] ?_; simp only [keepEnv, lkp, zE, reduceCtorEq, reduceEqDiff, argEnv, reduceAdd]
            refine awp_seq_k fun K27 hK27 => ?_
            refine awp_reg hP hN rfl ?_
            iterate 7 (refine rg_step rfl fun K0 hK0 => ?_; simp only [zE, op1, ev, lkp, avOf, acOf, opFieldAddr, opLoad, Nat.mul_one, readAC, isAggK, acs, Ty.dflt, zG, cellsAt, opIndexAddr, Ty.size, ne_eq, not_false_eq_true, Int.natCast_one, Int.mul_one, opCallAny, opMM, opLen, lenAC, lenOk, fpAC, Nat.div_one, opAppend, srcOf, datOf, dite_true, opBin, arith, inK_i64, eqACs, eqAC, reduceCtorEq, reduceEqDiff, reduceAdd, reduceLeDiff, reduceLT, reduceMul, reduceSub, Try.el22, Try.el33, Try.st24, Try.td22, Try.td24, Try.td3, Try.td33, Try.td4, Mly.av]; (repeat refine And.intro (by first | omega | assumption | exact rfl) ?_); (first | refine hK0 _ ?_ | refine Or.inl (hK0 _ ?_)); clear hK0 K0; simp only [put, app, setAll, trOf, zE, zS, reduceAdd])
            refine rg_nil ?_
            refine hK27 _ ?_; clear hK27; refine awp_keep [1, 4, 36, 37, 38, 46] ?_; simp only [keepEnv, lkp, zE, reduceCtorEq, reduceEqDiff, argEnv, reduceAdd]
            refine awp_cond (by simp only [ev, keepEnv, lkp, zE, reduceCtorEq, reduceEqDiff, argEnv, reduceAdd]; exact rfl) (fun hc28 => ?_) (fun hc28 => ?_)
            · (try simp only [zB, reduceCtorEq] at hc28)
              refine awp_seq_k fun K29 hK29 => ?_
              refine awp_reg hP hN rfl ?_
              (refine rg_step rfl fun K0 hK0 => ?_; simp only [zE, op1, ev, lkp, avOf, acOf, ev, reduceCtorEq, reduceEqDiff, reduceAdd, reduceLeDiff, reduceLT, reduceMul, reduceSub, Try.td4, Mly.av]; (repeat refine And.intro (by first | omega | assumption | exact rfl) ?_); (first | refine hK0 _ ?_ | refine Or.inl (hK0 _ ?_)); clear hK0 K0; simp only [put, app, setAll, trOf, zE, zS, reduceAdd])
              refine rg_nil ?_
              refine hK29 _ ?_; clear hK29; refine awp_keep [1, 2, 4, 36, 37, 38, 46] ?_; simp only [keepEnv, lkp, zE, reduceCtorEq, reduceEqDiff, argEnv, reduceAdd]
              refine awp_ret ?_
              refine ⟨by first | exact .inl rfl | exact .inr rfl, _, rfl, ?_⟩; simp only [fzV, fz1, fzC, List.map_cons, List.map_nil, keepEnv, lkp, zE, reduceCtorEq, reduceEqDiff, argEnv, reduceAdd, Mly.av]
              refine VLE.of_eq ?_
              refine congrArg (fun b => AV.one (AC.bool b)) ?_
              symm
              unfold g8
              first
              | (simp only [Bool.or_eq_true, decide_eq_true_eq]; omega)
              | (rw [anyL_at (ls := m.nx) (k := k) (by omega) (by omega)]; simp; done)
              | (rw [anyL_at (ls := m.ot) (k := k) (by omega) (by omega)]; simp; done)
              | (rw [anyL_no (ls := m.nx) (fun q hq => hqnx q (by omega)), anyL_no (ls := m.ot) (fun q hq => hqot q (by omega))]; simp only [Bool.or_eq_false_iff, decide_eq_false_iff_not, Bool.or_false]; omega)
            · (try simp only [zB, reduceCtorEq] at hc28)
              refine awp_skip ?_
              refine hK25 _ ?_; clear hK25; refine awp_keep [1, 4, 36, 37, 38, 46] ?_; simp only [keepEnv, lkp, zE, reduceCtorEq, reduceEqDiff, argEnv, reduceAdd]
              refine awp_reg hP hN rfl ?_
              iterate 2 (refine rg_step rfl fun K0 hK0 => ?_; simp only [zE, op1, ev, lkp, avOf, acOf, opBin, arith, inK_i64, eqACs, eqAC, reduceCtorEq, reduceEqDiff, reduceAdd, reduceLeDiff, reduceLT, reduceMul, reduceSub, Try.td3, Mly.av]; (repeat refine And.intro (by first | omega | assumption | exact rfl) ?_); (first | refine hK0 _ ?_ | refine Or.inl (hK0 _ ?_)); clear hK0 K0; simp only [put, app, setAll, trOf, zE, zS, reduceAdd])
              refine rg_nil ?_
              refine ⟨_, _, ?_, sub_keep [1, 36, 37], k + 1, by omega, fun q hq2 => ?_, rfl, rfl⟩
              · omega
              · by_cases e : q = k
                · rw [e]; omega
                · exact hqot q (by omega)
          · (try simp only [zB, reduceCtorEq] at hc24)
            refine awp_exit ?_
            refine hK19 _ ?_; clear hK19; refine awp_keep [1, 36, 37, 38] ?_; simp only [keepEnv, lkp, zE, reduceCtorEq, reduceEqDiff, argEnv, reduceAdd]
            refine awp_seq_k fun K30 hK30 => ?_
            refine awp_reg hP hN rfl ?_
            (refine rg_step rfl fun K0 hK0 => ?_; simp only [zE, op1, ev, lkp, avOf, acOf, ev, reduceCtorEq, reduceEqDiff, reduceAdd, reduceLeDiff, reduceLT, reduceMul, reduceSub, Try.td4, Mly.av]; (repeat refine And.intro (by first | omega | assumption | exact rfl) ?_); (first | refine hK0 _ ?_ | refine Or.inl (hK0 _ ?_)); clear hK0 K0; simp only [put, app, setAll, trOf, zE, zS, reduceAdd])
            refine rg_nil ?_
            refine hK30 _ ?_; clear hK30; refine awp_keep [1, 2, 36, 37, 38] ?_; simp only [keepEnv, lkp, zE, reduceCtorEq, reduceEqDiff, argEnv, reduceAdd]
            refine awp_ret ?_
            refine ⟨by first | exact .inl rfl | exact .inr rfl, _, rfl, ?_⟩; simp only [fzV, fz1, fzC, List.map_cons, List.map_nil, keepEnv, lkp, zE, reduceCtorEq, reduceEqDiff, argEnv, reduceAdd, Mly.av]
            refine VLE.of_eq ?_
            refine congrArg (fun b => AV.one (AC.bool b)) ?_
            symm
            unfold g8
            first
            | (simp only [Bool.or_eq_true, decide_eq_true_eq]; omega)
            | (rw [anyL_at (ls := m.nx) (k := k) (by omega) (by omega)]; simp; done)
            | (rw [anyL_at (ls := m.ot) (k := k) (by omega) (by omega)]; simp; done)
            | (rw [anyL_no (ls := m.nx) (fun q hq => hqnx q (by omega)), anyL_no (ls := m.ot) (fun q hq => hqot q (by omega))]; simp only [Bool.or_eq_false_iff, decide_eq_false_iff_not, Bool.or_false]; omega)
end Go.Proofs.Ytfbnhgefkdhiaaa
namespace Go.Proofs.Ytfbnhgefkdhiaaa
open Go Go.AV
open Nat (reduceEqDiff reduceAdd reduceLeDiff reduceLT reduceMul reduceSub)
open List (set_cons_zero set_cons_succ)
set_option maxRecDepth 100000 in
theorem rindex_c (xs : List Int) (x : Int) : PURE Try.prog 55 [.one (.list (.int .i64) xs), .one (.int .i64 x)] (.one (.int .i64 (idxR xs x))) := by
  refine pure_of_le Try.func55 rfl (by kernel_rfl) (Nat.le_of_ble_eq_true rfl) rfl fun C hP hN hB => ?_
  replace hN : C.N = 19 := hN
  simp only [argEnv, reduceAdd]
  refine awp_fit 0 rfl fun hf0 => ?_; simp only [lkp, if_true, if_false, reduceCtorEq, reduceEqDiff, eq_self, Nat.one_ne_zero, Nat.zero_ne_one, fitV, fitC, fitL, Fit, and_true, implies_true, true_and] at hf0
  refine awp_seq_k fun K1 hK1 => ?_
  refine awp_reg hP hN rfl ?_
  (refine rg_step rfl fun K0 hK0 => ?_; simp only [zE, op1, ev, lkp, avOf, acOf, ev, reduceCtorEq, reduceEqDiff, reduceAdd, reduceLeDiff, reduceLT, reduceMul, reduceSub, Try.td3]; (repeat refine And.intro (by first | omega | assumption | exact rfl) ?_); (first | refine hK0 _ ?_ | refine Or.inl (hK0 _ ?_)); clear hK0 K0; simp only [put, app, setAll, trOf, zE, zS, reduceAdd])
  refine rg_nil ?_
  refine hK1 _ ?_; clear hK1; refine awp_keep [0, 1, 4] ?_; simp only [keepEnv, lkp, zE, reduceCtorEq, reduceEqDiff, argEnv, reduceAdd]
  refine awp_seq_k fun K2 hK2 => ?_
  refine awp_seq_k fun K3 hK3 => ?_
  refine awp_reg hP hN rfl ?_
  (refine rg_step rfl fun K0 hK0 => ?_; simp only [zE, op1, ev, lkp, avOf, acOf, ev, reduceCtorEq, reduceEqDiff, reduceAdd, reduceLeDiff, reduceLT, reduceMul, reduceSub, Try.td3]; (repeat refine And.intro (by first | omega | assumption | exact rfl) ?_); (first | refine hK0 _ ?_ | refine Or.inl (hK0 _ ?_)); clear hK0 K0; simp only [put, app, setAll, trOf, zE, zS, reduceAdd])
  refine rg_nil ?_
  refine hK3 _ ?_; clear hK3; refine awp_keep [0, 1, 4, 5] ?_; simp only [keepEnv, lkp, zE, reduceCtorEq, reduceEqDiff, argEnv, reduceAdd]
  refine awp_block ?_
  refine awp_loop (fun n4 s4 => ∃ (k : Nat), (k ≤ xs.length) ∧ (∀ q, q < k → xs.getD q 0 ≠ x) ∧ n4 = xs.length - k ∧ s4 = { env := [(0, .one (.list (.int .i64) xs)), (1, .one (.int .i64 x)), (5, .one (.int .i64 (k : Int)))], L := [] }) ?_ ?_
  · exact ⟨_, _, sub_keep [0, 1, 5], 0, Nat.zero_le _, fun q hq => by omega, rfl, rfl⟩
  · rintro n4 s4 ⟨k, hk, hq, rfl, rfl⟩
    refine awp_seq_k fun K5 hK5 => ?_
    refine awp_seq_k fun K6 hK6 => ?_
    refine awp_reg hP hN rfl ?_
    iterate 4 (refine rg_step rfl fun K0 hK0 => ?_; simp only [zE, op1, ev, lkp, avOf, acOf, opCallAny, opMM, opLen, lenAC, lenOk, fpAC, Nat.div_one, opAppend, srcOf, Ty.size, datOf, dite_true, opBin, arith, inK_i64, eqACs, eqAC, reduceCtorEq, reduceEqDiff, reduceAdd, reduceLeDiff, reduceLT, reduceMul, reduceSub, Try.el33, Try.td3, Try.td33, Try.td4]; (repeat refine And.intro (by first | omega | assumption | exact rfl) ?_); (first | refine hK0 _ ?_ | refine Or.inl (hK0 _ ?_)); clear hK0 K0; simp only [put, app, setAll, trOf, zE, zS, reduceAdd])
    refine rg_nil ?_
    refine hK6 _ ?_; clear hK6; refine awp_keep [0, 1, 5, 9] ?_; simp only [keepEnv, lkp, zE, reduceCtorEq, reduceEqDiff, argEnv, reduceAdd]
    refine awp_cond (by simp only [ev, keepEnv, lkp, zE, reduceCtorEq, reduceEqDiff, argEnv, reduceAdd]; exact rfl) (fun hc7 => ?_) (fun hc7 => ?_)
    · (try simp only [zB, reduceCtorEq] at hc7)
      refine awp_skip ?_
      refine hK5 _ ?_; clear hK5; refine awp_keep [0, 1, 5, 9] ?_; simp only [keepEnv, lkp, zE, reduceCtorEq, reduceEqDiff, argEnv, reduceAdd]
      refine awp_seq_k fun K8 hK8 => ?_
      refine awp_block ?_
      refine awp_seq_k fun K9 hK9 => ?_
      refine awp_reg hP hN rfl ?_
      iterate 6 (refine rg_step rfl fun K0 hK0 => ?_; simp only [zE, op1, ev, lkp, avOf, acOf, opIndexAddr, zG, Ty.dflt, Ty.size, Nat.mul_one, ne_eq, not_false_eq_true, Int.natCast_one, Int.mul_one, opLoad, readAC, isAggK, acs, cellsAt, opBin, arith, inK_i64, eqACs, eqAC, reduceCtorEq, reduceEqDiff, reduceAdd, reduceLeDiff, reduceLT, reduceMul, reduceSub, Try.el33, Try.td3, Try.td33, Try.td4]; (repeat refine And.intro (by first | omega | assumption | exact rfl) ?_); (first | refine hK0 _ ?_ | refine Or.inl (hK0 _ ?_)); clear hK0 K0; simp only [put, app, setAll, trOf, zE, zS, reduceAdd])
      refine rg_nil ?_
      refine hK9 _ ?_; clear hK9; refine awp_keep [0, 1, 5, 9, 17] ?_; simp only [keepEnv, lkp, zE, reduceCtorEq, reduceEqDiff, argEnv, reduceAdd]
      refine awp_cond (by simp only [ev, keepEnv, lkp, zE, reduceCtorEq, reduceEqDiff, argEnv, reduceAdd]; exact rfl) (fun hc10 => ?_) (fun hc10 => ?_)
      · (try simp only [zB, reduceCtorEq] at hc10)
        refine awp_seq_k fun K11 hK11 => ?_
        refine awp_reg hP hN rfl ?_
        iterate 2 (refine rg_step rfl fun K0 hK0 => ?_; simp only [zE, op1, ev, lkp, avOf, acOf, ev, reduceCtorEq, reduceEqDiff, reduceAdd, reduceLeDiff, reduceLT, reduceMul, reduceSub, Try.td3]; (repeat refine And.intro (by first | omega | assumption | exact rfl) ?_); (first | refine hK0 _ ?_ | refine Or.inl (hK0 _ ?_)); clear hK0 K0; simp only [put, app, setAll, trOf, zE, zS, reduceAdd])
        refine rg_nil ?_
        refine hK11 _ ?_; clear hK11; refine awp_keep [0, 1, 4, 5, 9, 17] ?_; simp only [keepEnv, lkp, zE, reduceCtorEq, reduceEqDiff, argEnv, reduceAdd]
        refine awp_ret ?_
        refine ⟨by first | exact .inl rfl | exact .inr rfl, _, rfl, ?_⟩; simp only [fzV, fz1, fzC, List.map_cons, List.map_nil, keepEnv, lkp, zE, reduceCtorEq, reduceEqDiff, argEnv, reduceAdd]
        refine VLE.of_eq ?_
        refine congrArg (fun n => AV.one (AC.int IntKind.i64 n)) ?_
        unfold idxR
        first
        | (rw [if_pos (mem_of_getD (k := k) (by omega) (by omega)), pos_first (k := k) (by omega) (by omega) hq]; done)
        | (rw [if_neg (not_mem_of hq (by omega))]; done)
      · (try simp only [zB, reduceCtorEq] at hc10)
        refine awp_skip ?_
        refine hK8 _ ?_; clear hK8; refine awp_keep [0, 1, 5, 9, 17] ?_; simp only [keepEnv, lkp, zE, reduceCtorEq, reduceEqDiff, argEnv, reduceAdd]
        refine awp_reg hP hN rfl ?_
        iterate 3 (refine rg_step rfl fun K0 hK0 => ?_; simp only [zE, op1, ev, lkp, avOf, acOf, opBin, arith, inK_i64, eqACs, eqAC, reduceCtorEq, reduceEqDiff, reduceAdd, reduceLeDiff, reduceLT, reduceMul, reduceSub, Try.td3]; (repeat refine And.intro (by first | omega | assumption | exact rfl) ?_); (first | refine hK0 _ ?_ | refine Or.inl (hK0 _ ?_)); clear hK0 K0; simp only [put, app, setAll, trOf, zE, zS, reduceAdd])
        refine rg_nil ?_
        refine ⟨_, _, ?_, sub_keep [0, 1, 5], k + 1, by omega, fun q hq2 => ?_, rfl, rfl⟩
        · omega
        · by_cases e : q = k
          · rw [e]; intro hh; simp_all
          · exact hq q (by omega)
    · (try simp only [zB, reduceCtorEq] at hc7)
      refine awp_exit ?_
      refine hK2 _ ?_; clear hK2; refine awp_keep [0, 1, 5, 9] ?_; simp only [keepEnv, lkp, zE, reduceCtorEq, reduceEqDiff, argEnv, reduceAdd]
      refine awp_seq_k fun K12 hK12 => ?_
      refine awp_reg hP hN rfl ?_
      (refine rg_step rfl fun K0 hK0 => ?_; simp only [zE, op1, ev, lkp, avOf, acOf, ev, reduceCtorEq, reduceEqDiff, reduceAdd, reduceLeDiff, reduceLT, reduceMul, reduceSub, Try.td3]; (repeat refine And.intro (by first | omega | assumption | exact rfl) ?_); (first | refine hK0 _ ?_ | refine Or.inl (hK0 _ ?_)); clear hK0 K0; simp only [put, app, setAll, trOf, zE, zS, reduceAdd])
      refine rg_nil ?_
      refine hK12 _ ?_; clear hK12; refine awp_keep [0, 1, 4, 5, 9] ?_; simp only [keepEnv, lkp, zE, reduceCtorEq, reduceEqDiff, argEnv, reduceAdd]
      refine awp_ret ?_
      refine ⟨by first | exact .inl rfl | exact .inr rfl, _, rfl, ?_⟩; simp only [fzV, fz1, fzC, List.map_cons, List.map_nil, keepEnv, lkp, zE, reduceCtorEq, reduceEqDiff, argEnv, reduceAdd]
      refine VLE.of_eq ?_
      refine congrArg (fun n => AV.one (AC.int IntKind.i64 n)) ?_
      unfold idxR
      first
      | (rw [if_pos (mem_of_getD (k := k) (by omega) (by omega)), pos_first (k := k) (by omega) (by omega) hq]; done)
      | (rw [if_neg (not_mem_of hq (by omega))]; done)
end Go.Proofs.Ytfbnhgefkdhiaaa
namespace Go.Proofs.Ytfbnhgefkdhiaaa
open Go Go.AV
open Nat (reduceEqDiff reduceAdd reduceLeDiff reduceLT reduceMul reduceSub)
open List (set_cons_zero set_cons_succ)
set_option maxRecDepth 100000 in
theorem has_c (xs : List Int) (x : Int) : PURE Try.prog 65 [.one (.list (.int .i64) xs), .one (.int .i64 x)] (.one (.bool (decide (x ∈ xs)))) := by
  refine pure_of_le Try.func65 rfl (by kernel_rfl) (Nat.le_of_ble_eq_true rfl) rfl fun C hP hN hB => ?_
  replace hN : C.N = 18 := hN
  simp only [argEnv, reduceAdd]
  refine awp_fit 0 rfl fun hf0 => ?_; simp only [lkp, if_true, if_false, reduceCtorEq, reduceEqDiff, eq_self, Nat.one_ne_zero, Nat.zero_ne_one, fitV, fitC, fitL, Fit, and_true, implies_true, true_and] at hf0
  refine awp_seq_k fun K1 hK1 => ?_
  refine awp_reg hP hN rfl ?_
  (refine rg_step rfl fun K0 hK0 => ?_; simp only [zE, op1, ev, lkp, avOf, acOf, ev, reduceCtorEq, reduceEqDiff, reduceAdd, reduceLeDiff, reduceLT, reduceMul, reduceSub, Try.td4]; (repeat refine And.intro (by first | omega | assumption | exact rfl) ?_); (first | refine hK0 _ ?_ | refine Or.inl (hK0 _ ?_)); clear hK0 K0; simp only [put, app, setAll, trOf, zE, zS, reduceAdd])
  refine rg_nil ?_
  refine hK1 _ ?_; clear hK1; refine awp_keep [0, 1, 4] ?_; simp only [keepEnv, lkp, zE, reduceCtorEq, reduceEqDiff, argEnv, reduceAdd]
  refine awp_seq_k fun K2 hK2 => ?_
  refine awp_seq_k fun K3 hK3 => ?_
  refine awp_reg hP hN rfl ?_
  (refine rg_step rfl fun K0 hK0 => ?_; simp only [zE, op1, ev, lkp, avOf, acOf, ev, reduceCtorEq, reduceEqDiff, reduceAdd, reduceLeDiff, reduceLT, reduceMul, reduceSub, Try.td3]; (repeat refine And.intro (by first | omega | assumption | exact rfl) ?_); (first | refine hK0 _ ?_ | refine Or.inl (hK0 _ ?_)); clear hK0 K0; simp only [put, app, setAll, trOf, zE, zS, reduceAdd])
  refine rg_nil ?_
  refine hK3 _ ?_; clear hK3; refine awp_keep [0, 1, 4, 5] ?_; simp only [keepEnv, lkp, zE, reduceCtorEq, reduceEqDiff, argEnv, reduceAdd]
  refine awp_block ?_
  refine awp_loop (fun n4 s4 => ∃ (k : Nat), (k ≤ xs.length) ∧ (∀ q, q < k → xs.getD q 0 ≠ x) ∧ n4 = xs.length - k ∧ s4 = { env := [(0, .one (.list (.int .i64) xs)), (1, .one (.int .i64 x)), (5, .one (.int .i64 (k : Int)))], L := [] }) ?_ ?_
  · exact ⟨_, _, sub_keep [0, 1, 5], 0, Nat.zero_le _, fun q hq => by omega, rfl, rfl⟩
  · rintro n4 s4 ⟨k, hk, hq, rfl, rfl⟩
    refine awp_seq_k fun K5 hK5 => ?_
    refine awp_seq_k fun K6 hK6 => ?_
    refine awp_reg hP hN rfl ?_
    iterate 4 (refine rg_step rfl fun K0 hK0 => ?_; simp only [zE, op1, ev, lkp, avOf, acOf, opCallAny, opMM, opLen, lenAC, lenOk, fpAC, Nat.div_one, opAppend, srcOf, Ty.size, datOf, dite_true, opBin, arith, inK_i64, eqACs, eqAC, reduceCtorEq, reduceEqDiff, reduceAdd, reduceLeDiff, reduceLT, reduceMul, reduceSub, Try.el33, Try.td3, Try.td33, Try.td4]; (repeat refine And.intro (by first | omega | assumption | exact rfl) ?_); (first | refine hK0 _ ?_ | refine Or.inl (hK0 _ ?_)); clear hK0 K0; simp only [put, app, setAll, trOf, zE, zS, reduceAdd])
    refine rg_nil ?_
    refine hK6 _ ?_; clear hK6; refine awp_keep [0, 1, 5, 9] ?_; simp only [keepEnv, lkp, zE, reduceCtorEq, reduceEqDiff, argEnv, reduceAdd]
    refine awp_cond (by simp only [ev, keepEnv, lkp, zE, reduceCtorEq, reduceEqDiff, argEnv, reduceAdd]; exact rfl) (fun hc7 => ?_) (fun hc7 => ?_)
    · (try simp only [zB, reduceCtorEq] at hc7)
      refine awp_skip ?_
      refine hK5 _ ?_; clear hK5; refine awp_keep [0, 1, 5, 9] ?_; simp only [keepEnv, lkp, zE, reduceCtorEq, reduceEqDiff, argEnv, reduceAdd]
      refine awp_seq_k fun K8 hK8 => ?_
      refine awp_block ?_
      refine awp_seq_k fun K9 hK9 => ?_
      refine awp_reg hP hN rfl ?_
      iterate 6 (refine rg_step rfl fun K0 hK0 => ?_; simp only [zE, op1, ev, lkp, avOf, acOf, opIndexAddr, zG, Ty.dflt, Ty.size, Nat.mul_one, ne_eq, not_false_eq_true, Int.natCast_one, Int.mul_one, opLoad, readAC, isAggK, acs, cellsAt, opBin, arith, inK_i64, eqACs, eqAC, reduceCtorEq, reduceEqDiff, reduceAdd, reduceLeDiff, reduceLT, reduceMul, reduceSub, Try.el33, Try.td3, Try.td33, Try.td4]; (repeat refine And.intro (by first | omega | assumption | exact rfl) ?_); (first | refine hK0 _ ?_ | refine Or.inl (hK0 _ ?_)); clear hK0 K0; simp only [put, app, setAll, trOf, zE, zS, reduceAdd])
      refine rg_nil ?_
      refine hK9 _ ?_; clear hK9; refine awp_keep [0, 1, 5, 9, 17] ?_; simp only [keepEnv, lkp, zE, reduceCtorEq, reduceEqDiff, argEnv, reduceAdd]
      refine awp_cond (by simp only [ev, keepEnv, lkp, zE, reduceCtorEq, reduceEqDiff, argEnv, reduceAdd]; exact rfl) (fun hc10 => ?_) (fun hc10 => ?_)
      · (try simp only [zB, reduceCtorEq] at hc10)
        refine awp_seq_k fun K11 hK11 => ?_
        refine awp_reg hP hN rfl ?_
        (refine rg_step rfl fun K0 hK0 => ?_; simp only [zE, op1, ev, lkp, avOf, acOf, ev, reduceCtorEq, reduceEqDiff, reduceAdd, reduceLeDiff, reduceLT, reduceMul, reduceSub, Try.td4]; (repeat refine And.intro (by first | omega | assumption | exact rfl) ?_); (first | refine hK0 _ ?_ | refine Or.inl (hK0 _ ?_)); clear hK0 K0; simp only [put, app, setAll, trOf, zE, zS, reduceAdd])
        refine rg_nil ?_
        refine hK11 _ ?_; clear hK11; refine awp_keep [0, 1, 4, 5, 9, 17] ?_; simp only [keepEnv, lkp, zE, reduceCtorEq, reduceEqDiff, argEnv, reduceAdd]
        refine awp_ret ?_
        refine ⟨by first | exact .inl rfl | exact .inr rfl, _, rfl, ?_⟩; simp only [fzV, fz1, fzC, List.map_cons, List.map_nil, keepEnv, lkp, zE, reduceCtorEq, reduceEqDiff, argEnv, reduceAdd]
        refine VLE.of_eq ?_
        refine congrArg (fun b => AV.one (AC.bool b)) ?_
        symm
        first
        | (rw [decide_eq_true_eq]; exact mem_of_getD (k := k) (by omega) (by omega))
        | (rw [decide_eq_false_iff_not]; exact not_mem_of hq (by omega))
      · (try simp only [zB, reduceCtorEq] at hc10)
        refine awp_skip ?_
        refine hK8 _ ?_; clear hK8; refine awp_keep [0, 1, 5, 9, 17] ?_; simp only [keepEnv, lkp, zE, reduceCtorEq, reduceEqDiff, argEnv, reduceAdd]
        refine awp_reg hP hN rfl ?_
        iterate 3 (refine rg_step rfl fun K0 hK0 => ?_; simp only [zE, op1, ev, lkp, avOf, acOf, opBin, arith, inK_i64, eqACs, eqAC, reduceCtorEq, reduceEqDiff, reduceAdd, reduceLeDiff, reduceLT, reduceMul, reduceSub, Try.td3]; (repeat refine And.intro (by first | omega | assumption | exact rfl) ?_); (first | refine hK0 _ ?_ | refine Or.inl (hK0 _ ?_)); clear hK0 K0; simp only [put, app, setAll, trOf, zE, zS, reduceAdd])
        refine rg_nil ?_
        refine ⟨_, _, ?_, sub_keep [0, 1, 5], k + 1, by omega, fun q hq2 => ?_, rfl, rfl⟩
        · omega
        · by_cases e : q = k
          · rw [e]; intro hh; simp_all
          · exact hq q (by omega)
    · (try simp only [zB, reduceCtorEq] at hc7)
      refine awp_exit ?_
      refine hK2 _ ?_; clear hK2; refine awp_keep [0, 1, 5, 9] ?_; simp only [keepEnv, lkp, zE, reduceCtorEq, reduceEqDiff, argEnv, reduceAdd]
      refine awp_seq_k fun K12 hK12 => ?_
      refine awp_reg hP hN rfl ?_
      (refine rg_step rfl fun K0 hK0 => ?_; simp only [zE, op1, ev, lkp, avOf, acOf, ev, reduceCtorEq, reduceEqDiff, reduceAdd, reduceLeDiff, reduceLT, reduceMul, reduceSub, Try.td4]; (repeat refine And.intro (by first | omega | assumption | exact rfl) ?_); (first | refine hK0 _ ?_ | refine Or.inl (hK0 _ ?_)); clear hK0 K0; simp only [put, app, setAll, trOf, zE, zS, reduceAdd])
      refine rg_nil ?_
      refine hK12 _ ?_; clear hK12; refine awp_keep [0, 1, 4, 5, 9] ?_; simp only [keepEnv, lkp, zE, reduceCtorEq, reduceEqDiff, argEnv, reduceAdd]
      refine awp_ret ?_
      refine ⟨by first | exact .inl rfl | exact .inr rfl, _, rfl, ?_⟩; simp only [fzV, fz1, fzC, List.map_cons, List.map_nil, keepEnv, lkp, zE, reduceCtorEq, reduceEqDiff, argEnv, reduceAdd]
      refine VLE.of_eq ?_
      refine congrArg (fun b => AV.one (AC.bool b)) ?_
      symm
      first
      | (rw [decide_eq_true_eq]; exact mem_of_getD (k := k) (by omega) (by omega))
      | (rw [decide_eq_false_iff_not]; exact not_mem_of hq (by omega))
end Go.Proofs.Ytfbnhgefkdhiaaa
namespace Go.Proofs.Ytfbnhgefkdhiaaa
open Go Go.AV
open Nat (reduceEqDiff reduceAdd reduceLeDiff reduceLT reduceMul reduceSub)
open List (set_cons_zero set_cons_succ)
set_option maxRecDepth 100000 in
theorem rrow_c (m : Mly) (s : Nat) (hi : m.inp ≤ 64) (hs : s < m.nx.length) (ho : m.ot.length = m.nx.length) : PURE Try.prog 45 [m.av, .one (.int .i64 (s : Int))] (.one (.int .i64 (rowE m s))) := by
  refine pure_of_le Try.func45 rfl (by kernel_rfl) (Nat.le_of_ble_eq_true rfl) rfl fun C hP hN hB => ?_
  replace hN : C.N = 77 := hN
  simp only [argEnv, reduceAdd]
  refine awp_seq_k fun K1 hK1 => ?_
  refine awp_reg hP hN rfl ?_
  iterate 2 (refine rg_step rfl fun K0 hK0 => ?_; simp only [zE, op1, ev, lkp, avOf, acOf, opBox, cellsAV, reduceCtorEq, reduceEqDiff, reduceAdd, reduceLeDiff, reduceLT, reduceMul, reduceSub, Try.st24, Try.td24, Try.td3, Mly.av]; (repeat refine And.intro (by first | omega | assumption | exact rfl) ?_); (first | refine hK0 _ ?_ | refine Or.inl (hK0 _ ?_)); clear hK0 K0; simp only [put, app, setAll, trOf, zE, zS, reduceAdd])
  refine rg_nil ?_
  refine hK1 _ ?_; clear hK1; refine awp_keep [0, 1, 2, 4] ?_; simp only [keepEnv, lkp, zE, reduceCtorEq, reduceEqDiff, argEnv, reduceAdd]
  refine awp_seq_k fun K2 hK2 => ?_
  refine awp_seq_k fun K3 hK3 => ?_
  refine awp_drw hP hN Try.mixed rfl ?_
  iterate 9 (refine rg_step rfl fun K0 hK0 => ?_; simp only [zE, op1, ev, lkp, avOf, acOf, opFieldAddr, opLoad, Nat.mul_one, readAC, isAggK, acs, Ty.dflt, zG, cellsAt, opIndexAddr, Ty.size, ne_eq, not_false_eq_true, Int.natCast_one, Int.mul_one, opCallAny, opMM, opLen, lenAC, lenOk, fpAC, Nat.div_one, opAppend, srcOf, datOf, dite_true, opBin, arith, inK_i64, eqACs, eqAC, reduceCtorEq, reduceEqDiff, reduceAdd, reduceLeDiff, reduceLT, reduceMul, reduceSub, Try.el22, Try.el33, Try.st24, Try.td2, Try.td22, Try.td24, Try.td3, Try.td33, Try.td4, Mly.av]; (repeat refine And.intro (by first | omega | assumption | exact rfl) ?_); (first | refine hK0 _ ?_ | refine Or.inl (hK0 _ ?_)); clear hK0 K0; simp only [put, app, setAll, trOf, zE, zS, reduceAdd])
  (refine rg_step rfl fun K0 hK0 => ?_; simp only [zE, op1, ev, lkp, avOf, acOf, ev, reduceCtorEq, reduceEqDiff, reduceAdd, reduceLeDiff, reduceLT, reduceMul, reduceSub, Try.td4, Mly.av]; (repeat refine And.intro (by first | omega | assumption | exact rfl) ?_); (first | refine hK0 _ ?_ | refine Or.inl (hK0 _ ?_)); clear hK0 K0; simp only [put, app, setAll, trOf, zE, zS, reduceAdd])
  refine' rg_join_n (want := false) 9 rfl (m := 15) (by simp only [keepEnv, lkp, zE, reduceCtorEq, reduceEqDiff, argEnv, reduceAdd]; exact rfl) (by kernel_rfl) rfl rfl rfl rfl rfl (fun hg4 => ?a4) ?b4 ?c4
  case a4 =>
    have hq4 := hg4; (try simp only [zB, reduceCtorEq] at hg4); simp only [List.take_succ_cons, List.take_zero, List.cons_append, List.nil_append]
    (refine rg_do rfl fun K0 hK0 => ?_; simp only [zE, op1, ev, lkp, avOf, acOf, opFieldAddr, reduceCtorEq, reduceEqDiff, reduceAdd, reduceLeDiff, reduceLT, reduceMul, reduceSub, Try.st24, Try.td24, Try.td3, Mly.av]; (repeat refine And.intro (by first | omega | assumption | exact rfl) ?_); (first | refine hK0 _ ?_ | refine Or.inl (hK0 _ ?_)); clear hK0 K0; simp only [put, app, setAll, trOf, zE, zS, reduceAdd])
    (refine rg_do rfl fun K0 hK0 => ?_; simp only [zE, op1, ev, lkp, avOf, acOf, opLoad, Nat.mul_one, readAC, isAggK, acs, Ty.dflt, zG, cellsAt, reduceCtorEq, reduceEqDiff, reduceAdd, reduceLeDiff, reduceLT, reduceMul, reduceSub, Try.el22, Try.td22, Mly.av]; (repeat refine And.intro (by first | omega | assumption | exact rfl) ?_); (first | refine hK0 _ ?_ | refine Or.inl (hK0 _ ?_)); clear hK0 K0; simp only [put, app, setAll, trOf, zE, zS, reduceAdd])
    (refine rg_do rfl fun K0 hK0 => ?_; simp only [zE, op1, ev, lkp, avOf, acOf, ev, reduceCtorEq, reduceEqDiff, reduceAdd, reduceLeDiff, reduceLT, reduceMul, reduceSub, Try.td3, Mly.av]; (repeat refine And.intro (by first | omega | assumption | exact rfl) ?_); (first | refine hK0 _ ?_ | refine Or.inl (hK0 _ ?_)); clear hK0 K0; simp only [put, app, setAll, trOf, zE, zS, reduceAdd])
    (refine rg_do rfl fun K0 hK0 => ?_; simp only [zE, op1, ev, lkp, avOf, acOf, opIndexAddr, zG, Ty.dflt, Ty.size, Nat.mul_one, ne_eq, not_false_eq_true, Int.natCast_one, Int.mul_one, reduceCtorEq, reduceEqDiff, reduceAdd, reduceLeDiff, reduceLT, reduceMul, reduceSub, Try.el22, Try.td22, Mly.av]; (repeat refine And.intro (by first | omega | assumption | exact rfl) ?_); (first | refine hK0 _ ?_ | refine Or.inl (hK0 _ ?_)); clear hK0 K0; simp only [put, app, setAll, trOf, zE, zS, reduceAdd])
    (refine rg_do rfl fun K0 hK0 => ?_; simp only [zE, op1, ev, lkp, avOf, acOf, opLoad, Nat.mul_one, readAC, isAggK, acs, Ty.dflt, zG, cellsAt, reduceCtorEq, reduceEqDiff, reduceAdd, reduceLeDiff, reduceLT, reduceMul, reduceSub, Try.el33, Try.td33, Mly.av]; (repeat refine And.intro (by first | omega | assumption | exact rfl) ?_); (first | refine hK0 _ ?_ | refine Or.inl (hK0 _ ?_)); clear hK0 K0; simp only [put, app, setAll, trOf, zE, zS, reduceAdd])
    (refine rg_do rfl fun K0 hK0 => ?_; simp only [zE, op1, ev, lkp, avOf, acOf, opCallAny, opMM, opLen, lenAC, lenOk, fpAC, Nat.div_one, opAppend, srcOf, Ty.size, datOf, dite_true, reduceCtorEq, reduceEqDiff, reduceAdd, reduceLeDiff, reduceLT, reduceMul, reduceSub, Try.el33, Try.td3, Try.td33, Mly.av]; (repeat refine And.intro (by first | omega | assumption | exact rfl) ?_); (first | refine hK0 _ ?_ | refine Or.inl (hK0 _ ?_)); clear hK0 K0; simp only [put, app, setAll, trOf, zE, zS, reduceAdd])
    (refine rg_do rfl fun K0 hK0 => ?_; simp only [zE, op1, ev, lkp, avOf, acOf, opFieldAddr, reduceCtorEq, reduceEqDiff, reduceAdd, reduceLeDiff, reduceLT, reduceMul, reduceSub, Try.st24, Try.td24, Mly.av]; (repeat refine And.intro (by first | omega | assumption | exact rfl) ?_); (first | refine hK0 _ ?_ | refine Or.inl (hK0 _ ?_)); clear hK0 K0; simp only [put, app, setAll, trOf, zE, zS, reduceAdd])
    (refine rg_do rfl fun K0 hK0 => ?_; simp only [zE, op1, ev, lkp, avOf, acOf, opLoad, Nat.mul_one, readAC, isAggK, acs, Ty.dflt, zG, cellsAt, reduceCtorEq, reduceEqDiff, reduceAdd, reduceLeDiff, reduceLT, reduceMul, reduceSub, Try.td3, Mly.av]; (repeat refine And.intro (by first | omega | assumption | exact rfl) ?_); (first | refine hK0 _ ?_ | refine Or.inl (hK0 _ ?_)); clear hK0 K0; simp only [put, app, setAll, trOf, zE, zS, reduceAdd])
    (refine rg_do rfl fun K0 hK0 => ?_; simp only [zE, op1, ev, lkp, avOf, acOf, opBin, arith, inK_i64, eqACs, eqAC, reduceCtorEq, reduceEqDiff, reduceAdd, reduceLeDiff, reduceLT, reduceMul, reduceSub, Try.td3, Try.td4, Mly.av]; (repeat refine And.intro (by first | omega | assumption | exact rfl) ?_); (first | refine hK0 _ ?_ | refine Or.inl (hK0 _ ?_)); clear hK0 K0; simp only [put, app, setAll, trOf, zE, zS, reduceAdd])
    (refine rg_step rfl fun K0 hK0 => ?_; simp only [zE, op1, ev, lkp, avOf, acOf, opPick, reduceCtorEq, reduceEqDiff, reduceAdd, reduceLeDiff, reduceLT, reduceMul, reduceSub, Try.td4, Mly.av]; (repeat refine And.intro (by first | omega | assumption | exact rfl) ?_); (first | refine hK0 _ ?_ | refine Or.inl (hK0 _ ?_)); clear hK0 K0; simp only [put, app, setAll, trOf, zE, zS, reduceAdd])
    refine rg_nil ?_
    refine ⟨by simp only [keepEnv, lkp, zE, reduceCtorEq, reduceEqDiff, argEnv, reduceAdd]; exact rfl, rfl, ?_, rfl⟩; (repeat refine keep_cons rfl ?_); exact keep_m (by exact rfl) hq4
  case b4 => exact tle_of (by first | rfl | (simp [tleB]; done) | decide)
  simp only [join_or, join_and]
  refine rg_nil ?_
  refine ⟨by kernel_rfl, ?_⟩
  refine hK3 _ ?_; clear hK3; refine awp_keep [0, 1, 2, 4, 25] ?_; simp only [keepEnv, lkp, zE, reduceCtorEq, reduceEqDiff, argEnv, reduceAdd]
  refine awp_cond (by simp only [ev, keepEnv, lkp, zE, reduceCtorEq, reduceEqDiff, argEnv, reduceAdd]; exact rfl) (fun hc5 => ?_) (fun hc5 => ?_)
  · (try simp only [zB, reduceCtorEq] at hc5)
    refine awp_seq_k fun K6 hK6 => ?_
    refine awp_reg hP hN rfl ?_
    (refine rg_step rfl fun K0 hK0 => ?_; simp only [zE, op1, ev, lkp, avOf, acOf, ev, reduceCtorEq, reduceEqDiff, reduceAdd, reduceLeDiff, reduceLT, reduceMul, reduceSub, Try.td3, Mly.av]; (repeat refine And.intro (by first | omega | assumption | exact rfl) ?_); (first | refine hK0 _ ?_ | refine Or.inl (hK0 _ ?_)); clear hK0 K0; simp only [put, app, setAll, trOf, zE, zS, reduceAdd])
    refine rg_nil ?_
    refine hK6 _ ?_; clear hK6; refine awp_keep [0, 1, 2, 4, 25] ?_; simp only [keepEnv, lkp, zE, reduceCtorEq, reduceEqDiff, argEnv, reduceAdd]
    refine awp_ret ?_
    refine ⟨by first | exact .inl rfl | exact .inr rfl, _, rfl, ?_⟩; simp only [fzV, fz1, fzC, List.map_cons, List.map_nil, keepEnv, lkp, zE, reduceCtorEq, reduceEqDiff, argEnv, reduceAdd, Mly.av]
    refine VLE.of_eq ?_
    refine congrArg (fun n => AV.one (AC.int IntKind.i64 n)) ?_
    symm
    first
    | exact rowE_bad1 hc5
    | exact rowE_bad2 hc5.1 hc5.2 (j := j) (by omega) (by unfold cellBad; omega)
    | exact rowE_ok hc5.1 hc5.2 fun a ha => hcells a (by omega)
  · (try simp only [zB, reduceCtorEq] at hc5)
    refine awp_skip ?_
    refine hK2 _ ?_; clear hK2; refine awp_keep [0, 1, 2, 4, 25] ?_; simp only [keepEnv, lkp, zE, reduceCtorEq, reduceEqDiff, argEnv, reduceAdd]
    refine awp_seq_k fun K7 hK7 => ?_
    refine awp_seq_k fun K8 hK8 => ?_
    refine awp_reg hP hN rfl ?_
    (refine rg_step rfl fun K0 hK0 => ?_; simp only [zE, op1, ev, lkp, avOf, acOf, ev, reduceCtorEq, reduceEqDiff, reduceAdd, reduceLeDiff, reduceLT, reduceMul, reduceSub, Try.td3, Mly.av]; (repeat refine And.intro (by first | omega | assumption | exact rfl) ?_); (first | refine hK0 _ ?_ | refine Or.inl (hK0 _ ?_)); clear hK0 K0; simp only [put, app, setAll, trOf, zE, zS, reduceAdd])
    refine rg_nil ?_
    refine hK8 _ ?_; clear hK8; refine awp_keep [0, 1, 2, 4, 5, 25] ?_; simp only [keepEnv, lkp, zE, reduceCtorEq, reduceEqDiff, argEnv, reduceAdd]
    refine awp_block ?_
    refine awp_loop (fun n9 s9 => ∃ (j : Nat), (∀ a, a < j → ¬ cellBad m s a) ∧ (j ≤ m.inp.toNat) ∧ n9 = m.inp.toNat - j ∧ s9 = { env := [(1, .one (.int .i64 (s : Int))), (2, .one (.ptr 0 0 0 0)), (5, .one (.int .i64 (j : Int)))], L := [.vars 24 [.int .i64 m.inp, .int .i64 m.st, .list (.list (.int .i64)) m.nx, .list (.list (.int .i64)) m.ot]] }) ?_ ?_
    · exact ⟨_, _, sub_keep [1, 2, 5], 0, fun i hi => by omega, Nat.zero_le _, rfl, rfl⟩
    · rintro n9 s9 ⟨j, hcells, hj, rfl, rfl⟩
      refine awp_seq_k fun K10 hK10 => ?_
      refine awp_seq_k fun K11 hK11 => ?_
      refine awp_reg hP hN rfl ?_
      iterate 4 (refine rg_step rfl fun K0 hK0 => ?_; simp only [zE, op1, ev, lkp, avOf, acOf, opFieldAddr, opLoad, Nat.mul_one, readAC, isAggK, acs, Ty.dflt, zG, cellsAt, opBin, arith, inK_i64, eqACs, eqAC, reduceCtorEq, reduceEqDiff, reduceAdd, reduceLeDiff, reduceLT, reduceMul, reduceSub, Try.st24, Try.td24, Try.td3, Try.td4, Mly.av]; (repeat refine And.intro (by first | omega | assumption | exact rfl) ?_); (first | refine hK0 _ ?_ | refine Or.inl (hK0 _ ?_)); clear hK0 K0; simp only [put, app, setAll, trOf, zE, zS, reduceAdd])
      refine rg_nil ?_
      refine hK11 _ ?_; clear hK11; refine awp_keep [1, 2, 5, 29] ?_; simp only [keepEnv, lkp, zE, reduceCtorEq, reduceEqDiff, argEnv, reduceAdd]
      refine awp_cond (by simp only [ev, keepEnv, lkp, zE, reduceCtorEq, reduceEqDiff, argEnv, reduceAdd]; exact rfl) (fun hc12 => ?_) (fun hc12 => ?_)
      · (try simp only [zB, reduceCtorEq] at hc12)
        refine awp_skip ?_
        refine hK10 _ ?_; clear hK10; refine awp_keep [1, 2, 5, 29] ?_; simp only [keepEnv, lkp, zE, reduceCtorEq, reduceEqDiff, argEnv, reduceAdd]
        refine awp_seq_k fun K13 hK13 => ?_
        refine awp_block ?_
        refine awp_seq_k fun K14 hK14 => ?_
        refine awp_drw hP hN Try.mixed rfl ?_
        iterate 9 (refine rg_step rfl fun K0 hK0 => ?_; simp only [zE, op1, ev, lkp, avOf, acOf, opFieldAddr, opLoad, Nat.mul_one, readAC, isAggK, acs, Ty.dflt, zG, cellsAt, opIndexAddr, Ty.size, ne_eq, not_false_eq_true, Int.natCast_one, Int.mul_one, opBin, arith, inK_i64, eqACs, eqAC, reduceCtorEq, reduceEqDiff, reduceAdd, reduceLeDiff, reduceLT, reduceMul, reduceSub, Try.el22, Try.el33, Try.st24, Try.td2, Try.td22, Try.td24, Try.td3, Try.td33, Try.td4, Mly.av]; (repeat refine And.intro (by first | omega | assumption | exact rfl) ?_); (first | refine hK0 _ ?_ | refine Or.inl (hK0 _ ?_)); clear hK0 K0; simp only [put, app, setAll, trOf, zE, zS, reduceAdd])
        (refine rg_step rfl fun K0 hK0 => ?_; simp only [zE, op1, ev, lkp, avOf, acOf, ev, reduceCtorEq, reduceEqDiff, reduceAdd, reduceLeDiff, reduceLT, reduceMul, reduceSub, Try.td4, Mly.av]; (repeat refine And.intro (by first | omega | assumption | exact rfl) ?_); (first | refine hK0 _ ?_ | refine Or.inl (hK0 _ ?_)); clear hK0 K0; simp only [put, app, setAll, trOf, zE, zS, reduceAdd])
        refine' rg_join_n (want := false) 12 rfl (m := 41) (by simp only [keepEnv, lkp, zE, reduceCtorEq, reduceEqDiff, argEnv, reduceAdd]; exact rfl) (by kernel_rfl) rfl rfl rfl rfl rfl (fun hg15 => ?a15) ?b15 ?c15
        case a15 =>
          have hq15 := hg15; (try simp only [zB, reduceCtorEq] at hg15); simp only [List.take_succ_cons, List.take_zero, List.cons_append, List.nil_append]
          (refine rg_do rfl fun K0 hK0 => ?_; simp only [zE, op1, ev, lkp, avOf, acOf, opFieldAddr, reduceCtorEq, reduceEqDiff, reduceAdd, reduceLeDiff, reduceLT, reduceMul, reduceSub, Try.st24, Try.td2, Try.td24, Mly.av]; (repeat refine And.intro (by first | omega | assumption | exact rfl) ?_); (first | refine hK0 _ ?_ | refine Or.inl (hK0 _ ?_)); clear hK0 K0; simp only [put, app, setAll, trOf, zE, zS, reduceAdd])
          (refine rg_do rfl fun K0 hK0 => ?_; simp only [zE, op1, ev, lkp, avOf, acOf, opLoad, Nat.mul_one, readAC, isAggK, acs, Ty.dflt, zG, cellsAt, reduceCtorEq, reduceEqDiff, reduceAdd, reduceLeDiff, reduceLT, reduceMul, reduceSub, Try.el22, Try.td22, Mly.av]; (repeat refine And.intro (by first | omega | assumption | exact rfl) ?_); (first | refine hK0 _ ?_ | refine Or.inl (hK0 _ ?_)); clear hK0 K0; simp only [put, app, setAll, trOf, zE, zS, reduceAdd])
          (refine rg_do rfl fun K0 hK0 => ?_; simp only [zE, op1, ev, lkp, avOf, acOf, ev, reduceCtorEq, reduceEqDiff, reduceAdd, reduceLeDiff, reduceLT, reduceMul, reduceSub, Try.td3, Mly.av]; (repeat refine And.intro (by first | omega | assumption | exact rfl) ?_); (first | refine hK0 _ ?_ | refine Or.inl (hK0 _ ?_)); clear hK0 K0; simp only [put, app, setAll, trOf, zE, zS, reduceAdd])
          (refine rg_do rfl fun K0 hK0 => ?_; simp only [zE, op1, ev, lkp, avOf, acOf, opIndexAddr, zG, Ty.dflt, Ty.size, Nat.mul_one, ne_eq, not_false_eq_true, Int.natCast_one, Int.mul_one, reduceCtorEq, reduceEqDiff, reduceAdd, reduceLeDiff, reduceLT, reduceMul, reduceSub, Try.el22, Try.td22, Mly.av]; (repeat refine And.intro (by first | omega | assumption | exact rfl) ?_); (first | refine hK0 _ ?_ | refine Or.inl (hK0 _ ?_)); clear hK0 K0; simp only [put, app, setAll, trOf, zE, zS, reduceAdd])
          (refine rg_do rfl fun K0 hK0 => ?_; simp only [zE, op1, ev, lkp, avOf, acOf, opLoad, Nat.mul_one, readAC, isAggK, acs, Ty.dflt, zG, cellsAt, reduceCtorEq, reduceEqDiff, reduceAdd, reduceLeDiff, reduceLT, reduceMul, reduceSub, Try.el33, Try.td33, Mly.av]; (repeat refine And.intro (by first | omega | assumption | exact rfl) ?_); (first | refine hK0 _ ?_ | refine Or.inl (hK0 _ ?_)); clear hK0 K0; simp only [put, app, setAll, trOf, zE, zS, reduceAdd])
          (refine rg_do rfl fun K0 hK0 => ?_; simp only [zE, op1, ev, lkp, avOf, acOf, ev, reduceCtorEq, reduceEqDiff, reduceAdd, reduceLeDiff, reduceLT, reduceMul, reduceSub, Try.td3, Mly.av]; (repeat refine And.intro (by first | omega | assumption | exact rfl) ?_); (first | refine hK0 _ ?_ | refine Or.inl (hK0 _ ?_)); clear hK0 K0; simp only [put, app, setAll, trOf, zE, zS, reduceAdd])
          (refine rg_do rfl fun K0 hK0 => ?_; simp only [zE, op1, ev, lkp, avOf, acOf, opIndexAddr, zG, Ty.dflt, Ty.size, Nat.mul_one, ne_eq, not_false_eq_true, Int.natCast_one, Int.mul_one, reduceCtorEq, reduceEqDiff, reduceAdd, reduceLeDiff, reduceLT, reduceMul, reduceSub, Try.el33, Try.td33, Mly.av]; (repeat refine And.intro (by first | omega | assumption | exact rfl) ?_); (first | refine hK0 _ ?_ | refine Or.inl (hK0 _ ?_)); clear hK0 K0; simp only [put, app, setAll, trOf, zE, zS, reduceAdd])
          (refine rg_do rfl fun K0 hK0 => ?_; simp only [zE, op1, ev, lkp, avOf, acOf, opLoad, Nat.mul_one, readAC, isAggK, acs, Ty.dflt, zG, cellsAt, reduceCtorEq, reduceEqDiff, reduceAdd, reduceLeDiff, reduceLT, reduceMul, reduceSub, Try.td3, Mly.av]; (repeat refine And.intro (by first | omega | assumption | exact rfl) ?_); (first | refine hK0 _ ?_ | refine Or.inl (hK0 _ ?_)); clear hK0 K0; simp only [put, app, setAll, trOf, zE, zS, reduceAdd])
          (refine rg_do rfl fun K0 hK0 => ?_; simp only [zE, op1, ev, lkp, avOf, acOf, opFieldAddr, reduceCtorEq, reduceEqDiff, reduceAdd, reduceLeDiff, reduceLT, reduceMul, reduceSub, Try.st24, Try.td2, Try.td24, Mly.av]; (repeat refine And.intro (by first | omega | assumption | exact rfl) ?_); (first | refine hK0 _ ?_ | refine Or.inl (hK0 _ ?_)); clear hK0 K0; simp only [put, app, setAll, trOf, zE, zS, reduceAdd])
          (refine rg_do rfl fun K0 hK0 => ?_; simp only [zE, op1, ev, lkp, avOf, acOf, opLoad, Nat.mul_one, readAC, isAggK, acs, Ty.dflt, zG, cellsAt, reduceCtorEq, reduceEqDiff, reduceAdd, reduceLeDiff, reduceLT, reduceMul, reduceSub, Try.el22, Try.td22, Mly.av]; (repeat refine And.intro (by first | omega | assumption | exact rfl) ?_); (first | refine hK0 _ ?_ | refine Or.inl (hK0 _ ?_)); clear hK0 K0; simp only [put, app, setAll, trOf, zE, zS, reduceAdd])
          (refine rg_do rfl fun K0 hK0 => ?_; simp only [zE, op1, ev, lkp, avOf, acOf, opCallAny, opMM, opLen, lenAC, lenOk, fpAC, Nat.div_one, opAppend, srcOf, Ty.size, datOf, dite_true, reduceCtorEq, reduceEqDiff, reduceAdd, reduceLeDiff, reduceLT, reduceMul, reduceSub, Try.el22, Try.td22, Try.td3, Mly.av]; (repeat refine And.intro (by first | omega | assumption | exact rfl) ?_); (first | refine hK0 _ ?_ | refine Or.inl (hK0 _ ?_)); clear hK0 K0; simp only [put, app, setAll, trOf, zE, zS, reduceAdd])
          (refine rg_do rfl fun K0 hK0 => ?_; simp only [zE, op1, ev, lkp, avOf, acOf, opBin, arith, inK_i64, eqACs, eqAC, reduceCtorEq, reduceEqDiff, reduceAdd, reduceLeDiff, reduceLT, reduceMul, reduceSub, Try.td3, Try.td4, Mly.av]; (repeat refine And.intro (by first | omega | assumption | exact rfl) ?_); (first | refine hK0 _ ?_ | refine Or.inl (hK0 _ ?_)); clear hK0 K0; simp only [put, app, setAll, trOf, zE, zS, reduceAdd])
          (refine rg_step rfl fun K0 hK0 => ?_; simp only [zE, op1, ev, lkp, avOf, acOf, opPick, reduceCtorEq, reduceEqDiff, reduceAdd, reduceLeDiff, reduceLT, reduceMul, reduceSub, Try.td4, Mly.av]; (repeat refine And.intro (by first | omega | assumption | exact rfl) ?_); (first | refine hK0 _ ?_ | refine Or.inl (hK0 _ ?_)); clear hK0 K0; simp only [put, app, setAll, trOf, zE, zS, reduceAdd])
          refine rg_nil ?_
          refine ⟨by simp only [keepEnv, lkp, zE, reduceCtorEq, reduceEqDiff, argEnv, reduceAdd]; exact rfl, rfl, ?_, rfl⟩; (repeat refine keep_cons rfl ?_); exact keep_m (by exact rfl) hq15
        case b15 => exact tle_of (by first | rfl | (simp [tleB]; done) | decide)
        simp only [join_or, join_and]
        (refine rg_step rfl fun K0 hK0 => ?_; simp only [zE, op1, ev, lkp, avOf, acOf, ev, reduceCtorEq, reduceEqDiff, reduceAdd, reduceLeDiff, reduceLT, reduceMul, reduceSub, Try.td4, Mly.av]; (repeat refine And.intro (by first | omega | assumption | exact rfl) ?_); (first | refine hK0 _ ?_ | refine Or.inl (hK0 _ ?_)); clear hK0 K0; simp only [put, app, setAll, trOf, zE, zS, reduceAdd])
        refine' rg_join_n (want := false) 9 rfl (m := 55) (by simp only [keepEnv, lkp, zE, reduceCtorEq, reduceEqDiff, argEnv, reduceAdd]; exact rfl) (by kernel_rfl) rfl rfl rfl rfl rfl (fun hg16 => ?a16) ?b16 ?c16
        case a16 =>
          have hq16 := hg16; (try simp only [zB, reduceCtorEq] at hg16); simp only [List.take_succ_cons, List.take_zero, List.cons_append, List.nil_append]
          (refine rg_do rfl fun K0 hK0 => ?_; simp only [zE, op1, ev, lkp, avOf, acOf, opFieldAddr, reduceCtorEq, reduceEqDiff, reduceAdd, reduceLeDiff, reduceLT, reduceMul, reduceSub, Try.st24, Try.td24, Try.td3, Mly.av]; (repeat refine And.intro (by first | omega | assumption | exact rfl) ?_); (first | refine hK0 _ ?_ | refine Or.inl (hK0 _ ?_)); clear hK0 K0; simp only [put, app, setAll, trOf, zE, zS, reduceAdd])
          (refine rg_do rfl fun K0 hK0 => ?_; simp only [zE, op1, ev, lkp, avOf, acOf, opLoad, Nat.mul_one, readAC, isAggK, acs, Ty.dflt, zG, cellsAt, reduceCtorEq, reduceEqDiff, reduceAdd, reduceLeDiff, reduceLT, reduceMul, reduceSub, Try.el22, Try.td22, Mly.av]; (repeat refine And.intro (by first | omega | assumption | exact rfl) ?_); (first | refine hK0 _ ?_ | refine Or.inl (hK0 _ ?_)); clear hK0 K0; simp only [put, app, setAll, trOf, zE, zS, reduceAdd])
          (refine rg_do rfl fun K0 hK0 => ?_; simp only [zE, op1, ev, lkp, avOf, acOf, ev, reduceCtorEq, reduceEqDiff, reduceAdd, reduceLeDiff, reduceLT, reduceMul, reduceSub, Try.td3, Mly.av]; (repeat refine And.intro (by first | omega | assumption | exact rfl) ?_); (first | refine hK0 _ ?_ | refine Or.inl (hK0 _ ?_)); clear hK0 K0; simp only [put, app, setAll, trOf, zE, zS, reduceAdd])
          (refine rg_do rfl fun K0 hK0 => ?_; simp only [zE, op1, ev, lkp, avOf, acOf, opIndexAddr, zG, Ty.dflt, Ty.size, Nat.mul_one, ne_eq, not_false_eq_true, Int.natCast_one, Int.mul_one, reduceCtorEq, reduceEqDiff, reduceAdd, reduceLeDiff, reduceLT, reduceMul, reduceSub, Try.el22, Try.td22, Mly.av]; (repeat refine And.intro (by first | omega | assumption | exact rfl) ?_); (first | refine hK0 _ ?_ | refine Or.inl (hK0 _ ?_)); clear hK0 K0; simp only [put, app, setAll, trOf, zE, zS, reduceAdd])
          (refine rg_do rfl fun K0 hK0 => ?_; simp only [zE, op1, ev, lkp, avOf, acOf, opLoad, Nat.mul_one, readAC, isAggK, acs, Ty.dflt, zG, cellsAt, reduceCtorEq, reduceEqDiff, reduceAdd, reduceLeDiff, reduceLT, reduceMul, reduceSub, Try.el33, Try.td33, Mly.av]; (repeat refine And.intro (by first | omega | assumption | exact rfl) ?_); (first | refine hK0 _ ?_ | refine Or.inl (hK0 _ ?_)); clear hK0 K0; simp only [put, app, setAll, trOf, zE, zS, reduceAdd])
          (refine rg_do rfl fun K0 hK0 => ?_; simp only [zE, op1, ev, lkp, avOf, acOf, ev, reduceCtorEq, reduceEqDiff, reduceAdd, reduceLeDiff, reduceLT, reduceMul, reduceSub, Try.td3, Mly.av]; (repeat refine And.intro (by first | omega | assumption | exact rfl) ?_); (first | refine hK0 _ ?_ | refine Or.inl (hK0 _ ?_)); clear hK0 K0; simp only [put, app, setAll, trOf, zE, zS, reduceAdd])
          (refine rg_do rfl fun K0 hK0 => ?_; simp only [zE, op1, ev, lkp, avOf, acOf, opIndexAddr, zG, Ty.dflt, Ty.size, Nat.mul_one, ne_eq, not_false_eq_true, Int.natCast_one, Int.mul_one, reduceCtorEq, reduceEqDiff, reduceAdd, reduceLeDiff, reduceLT, reduceMul, reduceSub, Try.el33, Try.td33, Mly.av]; (repeat refine And.intro (by first | omega | assumption | exact rfl) ?_); (first | refine hK0 _ ?_ | refine Or.inl (hK0 _ ?_)); clear hK0 K0; simp only [put, app, setAll, trOf, zE, zS, reduceAdd])
          (refine rg_do rfl fun K0 hK0 => ?_; simp only [zE, op1, ev, lkp, avOf, acOf, opLoad, Nat.mul_one, readAC, isAggK, acs, Ty.dflt, zG, cellsAt, reduceCtorEq, reduceEqDiff, reduceAdd, reduceLeDiff, reduceLT, reduceMul, reduceSub, Try.td3, Mly.av]; (repeat refine And.intro (by first | omega | assumption | exact rfl) ?_); (first | refine hK0 _ ?_ | refine Or.inl (hK0 _ ?_)); clear hK0 K0; simp only [put, app, setAll, trOf, zE, zS, reduceAdd])
          (refine rg_do rfl fun K0 hK0 => ?_; simp only [zE, op1, ev, lkp, avOf, acOf, opBin, arith, inK_i64, eqACs, eqAC, reduceCtorEq, reduceEqDiff, reduceAdd, reduceLeDiff, reduceLT, reduceMul, reduceSub, Try.td3, Try.td4, Mly.av]; (repeat refine And.intro (by first | omega | assumption | exact rfl) ?_); (first | refine hK0 _ ?_ | refine Or.inl (hK0 _ ?_)); clear hK0 K0; simp only [put, app, setAll, trOf, zE, zS, reduceAdd])
          (refine rg_step rfl fun K0 hK0 => ?_; simp only [zE, op1, ev, lkp, avOf, acOf, opPick, reduceCtorEq, reduceEqDiff, reduceAdd, reduceLeDiff, reduceLT, reduceMul, reduceSub, Try.td4, Mly.av]; (repeat refine And.intro (by first | omega | assumption | exact rfl) ?_); (first | refine hK0 _ ?_ | refine Or.inl (hK0 _ ?_)); clear hK0 K0; simp only [put, app, setAll, trOf, zE, zS, reduceAdd])
          refine rg_nil ?_
          refine ⟨by simp only [keepEnv, lkp, zE, reduceCtorEq, reduceEqDiff, argEnv, reduceAdd]; exact rfl, rfl, ?_, rfl⟩; (repeat refine keep_cons rfl ?_); exact keep_m (by exact rfl) hq16
        case b16 => exact tle_of (by first | rfl | (simp [tleB]; done) | decide)
        simp only [join_or, join_and]
        (refine rg_step rfl fun K0 hK0 => ?_; simp only [zE, op1, ev, lkp, avOf, acOf, ev, reduceCtorEq, reduceEqDiff, reduceAdd, reduceLeDiff, reduceLT, reduceMul, reduceSub, Try.td4, Mly.av]; (repeat refine And.intro (by first | omega | assumption | exact rfl) ?_); (first | refine hK0 _ ?_ | refine Or.inl (hK0 _ ?_)); clear hK0 K0; simp only [put, app, setAll, trOf, zE, zS, reduceAdd])
        refine' rg_join_n (want := false) 9 rfl (m := 66) (by simp only [keepEnv, lkp, zE, reduceCtorEq, reduceEqDiff, argEnv, reduceAdd]; exact rfl) (by kernel_rfl) rfl rfl rfl rfl rfl (fun hg17 => ?a17) ?b17 ?c17
        case a17 =>
          have hq17 := hg17; (try simp only [zB, reduceCtorEq] at hg17); simp only [List.take_succ_cons, List.take_zero, List.cons_append, List.nil_append]
          (refine rg_do rfl fun K0 hK0 => ?_; simp only [zE, op1, ev, lkp, avOf, acOf, opFieldAddr, reduceCtorEq, reduceEqDiff, reduceAdd, reduceLeDiff, reduceLT, reduceMul, reduceSub, Try.st24, Try.td24, Try.td3, Mly.av]; (repeat refine And.intro (by first | omega | assumption | exact rfl) ?_); (first | refine hK0 _ ?_ | refine Or.inl (hK0 _ ?_)); clear hK0 K0; simp only [put, app, setAll, trOf, zE, zS, reduceAdd])
          (refine rg_do rfl fun K0 hK0 => ?_; simp only [zE, op1, ev, lkp, avOf, acOf, opLoad, Nat.mul_one, readAC, isAggK, acs, Ty.dflt, zG, cellsAt, reduceCtorEq, reduceEqDiff, reduceAdd, reduceLeDiff, reduceLT, reduceMul, reduceSub, Try.el22, Try.td22, Mly.av]; (repeat refine And.intro (by first | omega | assumption | exact rfl) ?_); (first | refine hK0 _ ?_ | refine Or.inl (hK0 _ ?_)); clear hK0 K0; simp only [put, app, setAll, trOf, zE, zS, reduceAdd])
          (refine rg_do rfl fun K0 hK0 => ?_; simp only [zE, op1, ev, lkp, avOf, acOf, ev, reduceCtorEq, reduceEqDiff, reduceAdd, reduceLeDiff, reduceLT, reduceMul, reduceSub, Try.td3, Mly.av]; (repeat refine And.intro (by first | omega | assumption | exact rfl) ?_); (first | refine hK0 _ ?_ | refine Or.inl (hK0 _ ?_)); clear hK0 K0; simp only [put, app, setAll, trOf, zE, zS, reduceAdd])
          (refine rg_do rfl fun K0 hK0 => ?_; simp only [zE, op1, ev, lkp, avOf, acOf, opIndexAddr, zG, Ty.dflt, Ty.size, Nat.mul_one, ne_eq, not_false_eq_true, Int.natCast_one, Int.mul_one, reduceCtorEq, reduceEqDiff, reduceAdd, reduceLeDiff, reduceLT, reduceMul, reduceSub, Try.el22, Try.td22, Mly.av]; (repeat refine And.intro (by first | omega | assumption | exact rfl) ?_); (first | refine hK0 _ ?_ | refine Or.inl (hK0 _ ?_)); clear hK0 K0; simp only [put, app, setAll, trOf, zE, zS, reduceAdd])
          (refine rg_do rfl fun K0 hK0 => ?_; simp only [zE, op1, ev, lkp, avOf, acOf, opLoad, Nat.mul_one, readAC, isAggK, acs, Ty.dflt, zG, cellsAt, reduceCtorEq, reduceEqDiff, reduceAdd, reduceLeDiff, reduceLT, reduceMul, reduceSub, Try.el33, Try.td33, Mly.av]; (repeat refine And.intro (by first | omega | assumption | exact rfl) ?_); (first | refine hK0 _ ?_ | refine Or.inl (hK0 _ ?_)); clear hK0 K0; simp only [put, app, setAll, trOf, zE, zS, reduceAdd])
          (refine rg_do rfl fun K0 hK0 => ?_; simp only [zE, op1, ev, lkp, avOf, acOf, ev, reduceCtorEq, reduceEqDiff, reduceAdd, reduceLeDiff, reduceLT, reduceMul, reduceSub, Try.td3, Mly.av]; (repeat refine And.intro (by first | omega | assumption | exact rfl) ?_); (first | refine hK0 _ ?_ | refine Or.inl (hK0 _ ?_)); clear hK0 K0; simp only [put, app, setAll, trOf, zE, zS, reduceAdd])
          (refine rg_do rfl fun K0 hK0 => ?_; simp only [zE, op1, ev, lkp, avOf, acOf, opIndexAddr, zG, Ty.dflt, Ty.size, Nat.mul_one, ne_eq, not_false_eq_true, Int.natCast_one, Int.mul_one, reduceCtorEq, reduceEqDiff, reduceAdd, reduceLeDiff, reduceLT, reduceMul, reduceSub, Try.el33, Try.td33, Mly.av]; (repeat refine And.intro (by first | omega | assumption | exact rfl) ?_); (first | refine hK0 _ ?_ | refine Or.inl (hK0 _ ?_)); clear hK0 K0; simp only [put, app, setAll, trOf, zE, zS, reduceAdd])
          (refine rg_do rfl fun K0 hK0 => ?_; simp only [zE, op1, ev, lkp, avOf, acOf, opLoad, Nat.mul_one, readAC, isAggK, acs, Ty.dflt, zG, cellsAt, reduceCtorEq, reduceEqDiff, reduceAdd, reduceLeDiff, reduceLT, reduceMul, reduceSub, Try.td3, Mly.av]; (repeat refine And.intro (by first | omega | assumption | exact rfl) ?_); (first | refine hK0 _ ?_ | refine Or.inl (hK0 _ ?_)); clear hK0 K0; simp only [put, app, setAll, trOf, zE, zS, reduceAdd])
          (refine rg_do rfl fun K0 hK0 => ?_; simp only [zE, op1, ev, lkp, avOf, acOf, opBin, arith, inK_i64, eqACs, eqAC, reduceCtorEq, reduceEqDiff, reduceAdd, reduceLeDiff, reduceLT, reduceMul, reduceSub, Try.td3, Try.td4, Mly.av]; (repeat refine And.intro (by first | omega | assumption | exact rfl) ?_); (first | refine hK0 _ ?_ | refine Or.inl (hK0 _ ?_)); clear hK0 K0; simp only [put, app, setAll, trOf, zE, zS, reduceAdd])
          (refine rg_step rfl fun K0 hK0 => ?_; simp only [zE, op1, ev, lkp, avOf, acOf, opPick, reduceCtorEq, reduceEqDiff, reduceAdd, reduceLeDiff, reduceLT, reduceMul, reduceSub, Try.td4, Mly.av]; (repeat refine And.intro (by first | omega | assumption | exact rfl) ?_); (first | refine hK0 _ ?_ | refine Or.inl (hK0 _ ?_)); clear hK0 K0; simp only [put, app, setAll, trOf, zE, zS, reduceAdd])
          refine rg_nil ?_
          refine ⟨by simp only [keepEnv, lkp, zE, reduceCtorEq, reduceEqDiff, argEnv, reduceAdd]; exact rfl, rfl, ?_, rfl⟩; (repeat refine keep_cons rfl ?_); exact keep_m (by exact rfl) hq17
        case b17 => exact tle_of (by first | rfl | (simp [tleB]; done) | decide)
        simp only [join_or, join_and]
        refine rg_nil ?_
        refine ⟨by kernel_rfl, ?_⟩
        refine hK14 _ ?_; clear hK14; refine awp_keep [1, 2, 5, 29, 76] ?_; simp only [keepEnv, lkp, zE, reduceCtorEq, reduceEqDiff, argEnv, reduceAdd]
        refine awp_cond (by simp only [ev, keepEnv, lkp, zE, reduceCtorEq, reduceEqDiff, argEnv, reduceAdd]; exact rfl) (fun hc18 => ?_) (fun hc18 => ?_)
        · (try simp only [zB, reduceCtorEq] at hc18)
          refine awp_seq_k fun K19 hK19 => ?_
          refine awp_reg hP hN rfl ?_
          (refine rg_step rfl fun K0 hK0 => ?_; simp only [zE, op1, ev, lkp, avOf, acOf, ev, reduceCtorEq, reduceEqDiff, reduceAdd, reduceLeDiff, reduceLT, reduceMul, reduceSub, Try.td3, Mly.av]; (repeat refine And.intro (by first | omega | assumption | exact rfl) ?_); (first | refine hK0 _ ?_ | refine Or.inl (hK0 _ ?_)); clear hK0 K0; simp only [put, app, setAll, trOf, zE, zS, reduceAdd])
          refine rg_nil ?_
          refine hK19 _ ?_; clear hK19; refine awp_keep [1, 2, 4, 5, 29, 76] ?_; simp only [keepEnv, lkp, zE, reduceCtorEq, reduceEqDiff, argEnv, reduceAdd]
          refine awp_ret ?_
          refine ⟨by first | exact .inl rfl | exact .inr rfl, _, rfl, ?_⟩; simp only [fzV, fz1, fzC, List.map_cons, List.map_nil, keepEnv, lkp, zE, reduceCtorEq, reduceEqDiff, argEnv, reduceAdd, Mly.av]
          refine VLE.of_eq ?_
          refine congrArg (fun n => AV.one (AC.int IntKind.i64 n)) ?_
          symm
          first
          | exact rowE_bad1 hc5
          | exact rowE_bad2 hc5.1 hc5.2 (j := j) (by omega) (by unfold cellBad; omega)
          | exact rowE_ok hc5.1 hc5.2 fun a ha => hcells a (by omega)
        · (try simp only [zB, reduceCtorEq] at hc18)
          refine awp_skip ?_
          refine hK13 _ ?_; clear hK13; refine awp_keep [1, 2, 5, 29, 76] ?_; simp only [keepEnv, lkp, zE, reduceCtorEq, reduceEqDiff, argEnv, reduceAdd]
          refine awp_reg hP hN rfl ?_
          iterate 3 (refine rg_step rfl fun K0 hK0 => ?_; simp only [zE, op1, ev, lkp, avOf, acOf, opBin, arith, inK_i64, eqACs, eqAC, reduceCtorEq, reduceEqDiff, reduceAdd, reduceLeDiff, reduceLT, reduceMul, reduceSub, Try.td3, Mly.av]; (repeat refine And.intro (by first | omega | assumption | exact rfl) ?_); (first | refine hK0 _ ?_ | refine Or.inl (hK0 _ ?_)); clear hK0 K0; simp only [put, app, setAll, trOf, zE, zS, reduceAdd])
          refine rg_nil ?_
          refine ⟨_, _, ?_, sub_keep [1, 2, 5], j + 1, fun a ha => ?_, ?_, rfl, rfl⟩
          · omega
          · by_cases e : a = j
            · rw [e]; unfold cellBad; omega
            · exact hcells a (by omega)
          · omega
      · (try simp only [zB, reduceCtorEq] at hc12)
        refine awp_exit ?_
        refine hK7 _ ?_; clear hK7; refine awp_keep [1, 2, 5, 29] ?_; simp only [keepEnv, lkp, zE, reduceCtorEq, reduceEqDiff, argEnv, reduceAdd]
        refine awp_seq_k fun K20 hK20 => ?_
        refine awp_reg hP hN rfl ?_
        (refine rg_step rfl fun K0 hK0 => ?_; simp only [zE, op1, ev, lkp, avOf, acOf, ev, reduceCtorEq, reduceEqDiff, reduceAdd, reduceLeDiff, reduceLT, reduceMul, reduceSub, Try.td3, Mly.av]; (repeat refine And.intro (by first | omega | assumption | exact rfl) ?_); (first | refine hK0 _ ?_ | refine Or.inl (hK0 _ ?_)); clear hK0 K0; simp only [put, app, setAll, trOf, zE, zS, reduceAdd])
        refine rg_nil ?_
        refine hK20 _ ?_; clear hK20; refine awp_keep [1, 2, 4, 5, 29] ?_; simp only [keepEnv, lkp, zE, reduceCtorEq, reduceEqDiff, argEnv, reduceAdd]
        refine awp_ret ?_
        refine ⟨by first | exact .inl rfl | exact .inr rfl, _, rfl, ?_⟩; simp only [fzV, fz1, fzC, List.map_cons, List.map_nil, keepEnv, lkp, zE, reduceCtorEq, reduceEqDiff, argEnv, reduceAdd, Mly.av]
        refine VLE.of_eq ?_
        refine congrArg (fun n => AV.one (AC.int IntKind.i64 n)) ?_
        symm
        first
        | exact rowE_bad1 hc5
        | exact rowE_bad2 hc5.1 hc5.2 (j := j) (by omega) (by unfold cellBad; omega)
        | exact rowE_ok hc5.1 hc5.2 fun a ha => hcells a (by omega)
end Go.Proofs.Ytfbnhgefkdhiaaa
namespace Go.Proofs.Ytfbnhgefkdhiaaa
open Go Go.AV
open Nat (reduceEqDiff reduceAdd reduceLeDiff reduceLT reduceMul reduceSub)
open List (set_cons_zero set_cons_succ)
set_option maxRecDepth 100000 in
theorem rvalid_c (m : Mly) : PURE Try.prog 23 [m.av] (.one (.int .i64 (validE m))) := by
  refine pure_of_le Try.func23 rfl (by kernel_rfl) (Nat.le_of_ble_eq_true rfl) rfl fun C hP hN hB => ?_
  replace hN : C.N = 52 := hN
  simp only [argEnv, reduceAdd]
  refine awp_seq_k fun K1 hK1 => ?_
  refine awp_reg hP hN rfl ?_
  iterate 2 (refine rg_step rfl fun K0 hK0 => ?_; simp only [zE, op1, ev, lkp, avOf, acOf, opBox, cellsAV, reduceCtorEq, reduceEqDiff, reduceAdd, reduceLeDiff, reduceLT, reduceMul, reduceSub, Try.st24, Try.td24, Try.td3, Mly.av]; (repeat refine And.intro (by first | omega | assumption | exact rfl) ?_); (first | refine hK0 _ ?_ | refine Or.inl (hK0 _ ?_)); clear hK0 K0; simp only [put, app, setAll, trOf, zE, zS, reduceAdd])
  refine rg_nil ?_
  refine hK1 _ ?_; clear hK1; refine awp_keep [0, 1, 2] ?_; simp only [keepEnv, lkp, zE, reduceCtorEq, reduceEqDiff, argEnv, reduceAdd]
  refine awp_seq_k fun K2 hK2 => ?_
  refine awp_seq_k fun K3 hK3 => ?_
  refine awp_reg hP hN rfl ?_
  iterate 3 (refine rg_step rfl fun K0 hK0 => ?_; simp only [zE, op1, ev, lkp, avOf, acOf, opFieldAddr, opLoad, Nat.mul_one, readAC, isAggK, acs, Ty.dflt, zG, cellsAt, opBin, arith, inK_i64, eqACs, eqAC, reduceCtorEq, reduceEqDiff, reduceAdd, reduceLeDiff, reduceLT, reduceMul, reduceSub, Try.st24, Try.td24, Try.td3, Try.td4, Mly.av]; (repeat refine And.intro (by first | omega | assumption | exact rfl) ?_); (first | refine hK0 _ ?_ | refine Or.inl (hK0 _ ?_)); clear hK0 K0; simp only [put, app, setAll, trOf, zE, zS, reduceAdd])
  (refine rg_step rfl fun K0 hK0 => ?_; simp only [zE, op1, ev, lkp, avOf, acOf, ev, reduceCtorEq, reduceEqDiff, reduceAdd, reduceLeDiff, reduceLT, reduceMul, reduceSub, Try.td4, Mly.av]; (repeat refine And.intro (by first | omega | assumption | exact rfl) ?_); (first | refine hK0 _ ?_ | refine Or.inl (hK0 _ ?_)); clear hK0 K0; simp only [put, app, setAll, trOf, zE, zS, reduceAdd])
  refine' rg_join_n (want := false) 3 rfl (m := 8) (by simp only [keepEnv, lkp, zE, reduceCtorEq, reduceEqDiff, argEnv, reduceAdd]; exact rfl) (by kernel_rfl) rfl rfl rfl rfl rfl (fun hg4 => ?a4) ?b4 ?c4
  case a4 =>
    have hq4 := hg4; (try simp only [zB, reduceCtorEq] at hg4); simp only [List.take_succ_cons, List.take_zero, List.cons_append, List.nil_append]
    (refine rg_do rfl fun K0 hK0 => ?_; simp only [zE, op1, ev, lkp, avOf, acOf, opFieldAddr, reduceCtorEq, reduceEqDiff, reduceAdd, reduceLeDiff, reduceLT, reduceMul, reduceSub, Try.st24, Try.td24, Mly.av]; (repeat refine And.intro (by first | omega | assumption | exact rfl) ?_); (first | refine hK0 _ ?_ | refine Or.inl (hK0 _ ?_)); clear hK0 K0; simp only [put, app, setAll, trOf, zE, zS, reduceAdd])
    (refine rg_do rfl fun K0 hK0 => ?_; simp only [zE, op1, ev, lkp, avOf, acOf, opLoad, Nat.mul_one, readAC, isAggK, acs, Ty.dflt, zG, cellsAt, reduceCtorEq, reduceEqDiff, reduceAdd, reduceLeDiff, reduceLT, reduceMul, reduceSub, Try.td3, Mly.av]; (repeat refine And.intro (by first | omega | assumption | exact rfl) ?_); (first | refine hK0 _ ?_ | refine Or.inl (hK0 _ ?_)); clear hK0 K0; simp only [put, app, setAll, trOf, zE, zS, reduceAdd])
    (refine rg_do rfl fun K0 hK0 => ?_; simp only [zE, op1, ev, lkp, avOf, acOf, opBin, arith, inK_i64, eqACs, eqAC, reduceCtorEq, reduceEqDiff, reduceAdd, reduceLeDiff, reduceLT, reduceMul, reduceSub, Try.td3, Try.td4, Mly.av]; (repeat refine And.intro (by first | omega | assumption | exact rfl) ?_); (first | refine hK0 _ ?_ | refine Or.inl (hK0 _ ?_)); clear hK0 K0; simp only [put, app, setAll, trOf, zE, zS, reduceAdd])
    (refine rg_step rfl fun K0 hK0 => ?_; simp only [zE, op1, ev, lkp, avOf, acOf, opPick, reduceCtorEq, reduceEqDiff, reduceAdd, reduceLeDiff, reduceLT, reduceMul, reduceSub, Try.td4, Mly.av]; (repeat refine And.intro (by first | omega | assumption | exact rfl) ?_); (first | refine hK0 _ ?_ | refine Or.inl (hK0 _ ?_)); clear hK0 K0; simp only [put, app, setAll, trOf, zE, zS, reduceAdd])
    refine rg_nil ?_
    refine ⟨by simp only [keepEnv, lkp, zE, reduceCtorEq, reduceEqDiff, argEnv, reduceAdd]; exact rfl, rfl, ?_, rfl⟩; (repeat refine keep_cons rfl ?_); exact keep_m (by exact rfl) hq4
  case b4 => exact tle_of (by first | rfl | (simp [tleB]; done) | decide)
  simp only [join_or, join_and]
  refine rg_nil ?_
  refine hK3 _ ?_; clear hK3; refine awp_keep [0, 1, 2, 12] ?_; simp only [keepEnv, lkp, zE, reduceCtorEq, reduceEqDiff, argEnv, reduceAdd]
  refine awp_cond (by simp only [ev, keepEnv, lkp, zE, reduceCtorEq, reduceEqDiff, argEnv, reduceAdd]; exact rfl) (fun hc5 => ?_) (fun hc5 => ?_)
  · (try simp only [zB, reduceCtorEq] at hc5)
    refine awp_seq_k fun K6 hK6 => ?_
    refine awp_reg hP hN rfl ?_
    (refine rg_step rfl fun K0 hK0 => ?_; simp only [zE, op1, ev, lkp, avOf, acOf, ev, reduceCtorEq, reduceEqDiff, reduceAdd, reduceLeDiff, reduceLT, reduceMul, reduceSub, Try.td3, Mly.av]; (repeat refine And.intro (by first | omega | assumption | exact rfl) ?_); (first | refine hK0 _ ?_ | refine Or.inl (hK0 _ ?_)); clear hK0 K0; simp only [put, app, setAll, trOf, zE, zS, reduceAdd])
    refine rg_nil ?_
    refine hK6 _ ?_; clear hK6; refine awp_keep [0, 1, 2, 12] ?_; simp only [keepEnv, lkp, zE, reduceCtorEq, reduceEqDiff, argEnv, reduceAdd]
    refine awp_ret ?_
    refine ⟨by first | exact .inl rfl | exact .inr rfl, _, rfl, ?_⟩; simp only [fzV, fz1, fzC, List.map_cons, List.map_nil, keepEnv, lkp, zE, reduceCtorEq, reduceEqDiff, argEnv, reduceAdd, Mly.av]
    refine VLE.of_eq ?_
    refine congrArg (fun n => AV.one (AC.int IntKind.i64 n)) ?_
    symm
    unfold validE
    first
    | (rw [if_pos (by omega)]; done)
    | (rw [if_neg (by omega), if_pos (by omega)]; done)
    | (rw [if_neg (by omega), if_neg (by omega), if_pos (by omega)]; done)
    | (rw [if_neg (by omega), if_neg (by omega), if_neg (by omega), if_pos (by omega)]; done)
    | (rw [if_neg (by omega), if_neg (by omega), if_neg (by omega), if_neg (by omega), if_pos (by omega)]; done)
    | (rw [if_neg (by omega), if_neg (by omega), if_neg (by omega), if_neg (by omega), if_neg (by omega)]
       first
       | exact firstE_at hrows (by omega) (by assumption)
       | exact firstE_zero fun i hi => hrows i (by omega))
  · (try simp only [zB, reduceCtorEq] at hc5)
    refine awp_skip ?_
    refine hK2 _ ?_; clear hK2; refine awp_keep [0, 1, 2, 12] ?_; simp only [keepEnv, lkp, zE, reduceCtorEq, reduceEqDiff, argEnv, reduceAdd]
    refine awp_seq_k fun K7 hK7 => ?_
    refine awp_seq_k fun K8 hK8 => ?_
    refine awp_reg hP hN rfl ?_
    iterate 4 (refine rg_step rfl fun K0 hK0 => ?_; simp only [zE, op1, ev, lkp, avOf, acOf, opFieldAddr, opLoad, Nat.mul_one, readAC, isAggK, acs, Ty.dflt, zG, cellsAt, opCallAny, opMM, opLen, lenAC, lenOk, fpAC, Nat.div_one, opAppend, srcOf, Ty.size, datOf, dite_true, opBin, arith, inK_i64, eqACs, eqAC, reduceCtorEq, reduceEqDiff, reduceAdd, reduceLeDiff, reduceLT, reduceMul, reduceSub, Try.el22, Try.st24, Try.td2, Try.td22, Try.td24, Try.td3, Try.td4, Mly.av]; (repeat refine And.intro (by first | omega | assumption | exact rfl) ?_); (first | refine hK0 _ ?_ | refine Or.inl (hK0 _ ?_)); clear hK0 K0; simp only [put, app, setAll, trOf, zE, zS, reduceAdd])
    refine rg_nil ?_
    refine hK8 _ ?_; clear hK8; refine awp_keep [0, 1, 2, 12, 16] ?_; simp only [keepEnv, lkp, zE, reduceCtorEq, reduceEqDiff, argEnv, reduceAdd]
    refine awp_cond (by simp only [ev, keepEnv, lkp, zE, reduceCtorEq, reduceEqDiff, argEnv, reduceAdd]; exact rfl) (fun hc9 => ?_) (fun hc9 => ?_)
    · (try simp only [zB, reduceCtorEq] at hc9)
      refine awp_seq_k fun K10 hK10 => ?_
      refine awp_reg hP hN rfl ?_
      (refine rg_step rfl fun K0 hK0 => ?_; simp only [zE, op1, ev, lkp, avOf, acOf, ev, reduceCtorEq, reduceEqDiff, reduceAdd, reduceLeDiff, reduceLT, reduceMul, reduceSub, Try.td3, Mly.av]; (repeat refine And.intro (by first | omega | assumption | exact rfl) ?_); (first | refine hK0 _ ?_ | refine Or.inl (hK0 _ ?_)); clear hK0 K0; simp only [put, app, setAll, trOf, zE, zS, reduceAdd])
      refine rg_nil ?_
      refine hK10 _ ?_; clear hK10; refine awp_keep [0, 1, 2, 12, 16] ?_; simp only [keepEnv, lkp, zE, reduceCtorEq, reduceEqDiff, argEnv, reduceAdd]
      refine awp_ret ?_
      refine ⟨by first | exact .inl rfl | exact .inr rfl, _, rfl, ?_⟩; simp only [fzV, fz1, fzC, List.map_cons, List.map_nil, keepEnv, lkp, zE, reduceCtorEq, reduceEqDiff, argEnv, reduceAdd, Mly.av]
      refine VLE.of_eq ?_
      refine congrArg (fun n => AV.one (AC.int IntKind.i64 n)) ?_
      symm
      unfold validE
      first
      | (rw [if_pos (by omega)]; done)
      | (rw [if_neg (by omega), if_pos (by omega)]; done)
      | (rw [if_neg (by omega), if_neg (by omega), if_pos (by omega)]; done)
      | (rw [if_neg (by omega), if_neg (by omega), if_neg (by omega), if_pos (by omega)]; done)
      | (rw [if_neg (by omega), if_neg (by omega), if_neg (by omega), if_neg (by omega), if_pos (by omega)]; done)
      | (rw [if_neg (by omega), if_neg (by omega), if_neg (by omega), if_neg (by omega), if_neg (by omega)]
         first
         | exact firstE_at hrows (by omega) (by assumption)
         | exact firstE_zero fun i hi => hrows i (by omega))
    · (try simp only [zB, reduceCtorEq] at hc9)
      refine awp_skip ?_
      refine hK7 _ ?_; clear hK7; refine awp_keep [0, 1, 2, 12, 16] ?_; simp only [keepEnv, lkp, zE, reduceCtorEq, reduceEqDiff, argEnv, reduceAdd]
      refine awp_seq_k fun K11 hK11 => ?_
      refine awp_seq_k fun K12 hK12 => ?_
      refine awp_reg hP hN rfl ?_
      iterate 4 (refine rg_step rfl fun K0 hK0 => ?_; simp only [zE, op1, ev, lkp, avOf, acOf, opFieldAddr, opLoad, Nat.mul_one, readAC, isAggK, acs, Ty.dflt, zG, cellsAt, opCallAny, opMM, opLen, lenAC, lenOk, fpAC, Nat.div_one, opAppend, srcOf, Ty.size, datOf, dite_true, opBin, arith, inK_i64, eqACs, eqAC, reduceCtorEq, reduceEqDiff, reduceAdd, reduceLeDiff, reduceLT, reduceMul, reduceSub, Try.el22, Try.st24, Try.td2, Try.td22, Try.td24, Try.td3, Try.td4, Mly.av]; (repeat refine And.intro (by first | omega | assumption | exact rfl) ?_); (first | refine hK0 _ ?_ | refine Or.inl (hK0 _ ?_)); clear hK0 K0; simp only [put, app, setAll, trOf, zE, zS, reduceAdd])
      refine rg_nil ?_
      refine hK12 _ ?_; clear hK12; refine awp_keep [0, 1, 2, 12, 16, 20] ?_; simp only [keepEnv, lkp, zE, reduceCtorEq, reduceEqDiff, argEnv, reduceAdd]
      refine awp_cond (by simp only [ev, keepEnv, lkp, zE, reduceCtorEq, reduceEqDiff, argEnv, reduceAdd]; exact rfl) (fun hc13 => ?_) (fun hc13 => ?_)
      · (try simp only [zB, reduceCtorEq] at hc13)
        refine awp_seq_k fun K14 hK14 => ?_
        refine awp_reg hP hN rfl ?_
        (refine rg_step rfl fun K0 hK0 => ?_; simp only [zE, op1, ev, lkp, avOf, acOf, ev, reduceCtorEq, reduceEqDiff, reduceAdd, reduceLeDiff, reduceLT, reduceMul, reduceSub, Try.td3, Mly.av]; (repeat refine And.intro (by first | omega | assumption | exact rfl) ?_); (first | refine hK0 _ ?_ | refine Or.inl (hK0 _ ?_)); clear hK0 K0; simp only [put, app, setAll, trOf, zE, zS, reduceAdd])
        refine rg_nil ?_
        refine hK14 _ ?_; clear hK14; refine awp_keep [0, 1, 2, 12, 16, 20] ?_; simp only [keepEnv, lkp, zE, reduceCtorEq, reduceEqDiff, argEnv, reduceAdd]
        refine awp_ret ?_
        refine ⟨by first | exact .inl rfl | exact .inr rfl, _, rfl, ?_⟩; simp only [fzV, fz1, fzC, List.map_cons, List.map_nil, keepEnv, lkp, zE, reduceCtorEq, reduceEqDiff, argEnv, reduceAdd, Mly.av]
        refine VLE.of_eq ?_
        refine congrArg (fun n => AV.one (AC.int IntKind.i64 n)) ?_
        symm
        unfold validE
        first
        | (rw [if_pos (by omega)]; done)
        | (rw [if_neg (by omega), if_pos (by omega)]; done)
        | (rw [if_neg (by omega), if_neg (by omega), if_pos (by omega)]; done)
        | (rw [if_neg (by omega), if_neg (by omega), if_neg (by omega), if_pos (by omega)]; done)
        | (rw [if_neg (by omega), if_neg (by omega), if_neg (by omega), if_neg (by omega), if_pos (by omega)]; done)
        | (rw [if_neg (by omega), if_neg (by omega), if_neg (by omega), if_neg (by omega), if_neg (by omega)]
           first
           | exact firstE_at hrows (by omega) (by assumption)
           | exact firstE_zero fun i hi => hrows i (by omega))
      · (try simp only [zB, reduceCtorEq] at hc13)
        refine awp_skip ?_
        refine hK11 _ ?_; clear hK11; refine awp_keep [0, 1, 2, 12, 16, 20] ?_; simp only [keepEnv, lkp, zE, reduceCtorEq, reduceEqDiff, argEnv, reduceAdd]
        refine awp_seq_k fun K15 hK15 => ?_
        refine awp_seq_k fun K16 hK16 => ?_
        refine awp_reg hP hN rfl ?_
        iterate 3 (refine rg_step rfl fun K0 hK0 => ?_; simp only [zE, op1, ev, lkp, avOf, acOf, opFieldAddr, opLoad, Nat.mul_one, readAC, isAggK, acs, Ty.dflt, zG, cellsAt, opBin, arith, inK_i64, eqACs, eqAC, reduceCtorEq, reduceEqDiff, reduceAdd, reduceLeDiff, reduceLT, reduceMul, reduceSub, Try.st24, Try.td1, Try.td24, Try.td3, Try.td4, Mly.av]; (repeat refine And.intro (by first | omega | assumption | exact rfl) ?_); (first | refine hK0 _ ?_ | refine Or.inl (hK0 _ ?_)); clear hK0 K0; simp only [put, app, setAll, trOf, zE, zS, reduceAdd])
        (refine rg_step rfl fun K0 hK0 => ?_; simp only [zE, op1, ev, lkp, avOf, acOf, ev, reduceCtorEq, reduceEqDiff, reduceAdd, reduceLeDiff, reduceLT, reduceMul, reduceSub, Try.td4, Mly.av]; (repeat refine And.intro (by first | omega | assumption | exact rfl) ?_); (first | refine hK0 _ ?_ | refine Or.inl (hK0 _ ?_)); clear hK0 K0; simp only [put, app, setAll, trOf, zE, zS, reduceAdd])
        refine' rg_join_n (want := false) 6 rfl (m := 24) (by simp only [keepEnv, lkp, zE, reduceCtorEq, reduceEqDiff, argEnv, reduceAdd]; exact rfl) (by kernel_rfl) rfl rfl rfl rfl rfl (fun hg17 => ?a17) ?b17 ?c17
        case a17 =>
          have hq17 := hg17; (try simp only [zB, reduceCtorEq] at hg17); simp only [List.take_succ_cons, List.take_zero, List.cons_append, List.nil_append]
          (refine rg_do rfl fun K0 hK0 => ?_; simp only [zE, op1, ev, lkp, avOf, acOf, opFieldAddr, reduceCtorEq, reduceEqDiff, reduceAdd, reduceLeDiff, reduceLT, reduceMul, reduceSub, Try.st24, Try.td1, Try.td24, Mly.av]; (repeat refine And.intro (by first | omega | assumption | exact rfl) ?_); (first | refine hK0 _ ?_ | refine Or.inl (hK0 _ ?_)); clear hK0 K0; simp only [put, app, setAll, trOf, zE, zS, reduceAdd])
          (refine rg_do rfl fun K0 hK0 => ?_; simp only [zE, op1, ev, lkp, avOf, acOf, opLoad, Nat.mul_one, readAC, isAggK, acs, Ty.dflt, zG, cellsAt, reduceCtorEq, reduceEqDiff, reduceAdd, reduceLeDiff, reduceLT, reduceMul, reduceSub, Try.td3, Mly.av]; (repeat refine And.intro (by first | omega | assumption | exact rfl) ?_); (first | refine hK0 _ ?_ | refine Or.inl (hK0 _ ?_)); clear hK0 K0; simp only [put, app, setAll, trOf, zE, zS, reduceAdd])
          (refine rg_do rfl fun K0 hK0 => ?_; simp only [zE, op1, ev, lkp, avOf, acOf, opFieldAddr, reduceCtorEq, reduceEqDiff, reduceAdd, reduceLeDiff, reduceLT, reduceMul, reduceSub, Try.st24, Try.td2, Try.td24, Mly.av]; (repeat refine And.intro (by first | omega | assumption | exact rfl) ?_); (first | refine hK0 _ ?_ | refine Or.inl (hK0 _ ?_)); clear hK0 K0; simp only [put, app, setAll, trOf, zE, zS, reduceAdd])
          (refine rg_do rfl fun K0 hK0 => ?_; simp only [zE, op1, ev, lkp, avOf, acOf, opLoad, Nat.mul_one, readAC, isAggK, acs, Ty.dflt, zG, cellsAt, reduceCtorEq, reduceEqDiff, reduceAdd, reduceLeDiff, reduceLT, reduceMul, reduceSub, Try.el22, Try.td22, Mly.av]; (repeat refine And.intro (by first | omega | assumption | exact rfl) ?_); (first | refine hK0 _ ?_ | refine Or.inl (hK0 _ ?_)); clear hK0 K0; simp only [put, app, setAll, trOf, zE, zS, reduceAdd])
          (refine rg_do rfl fun K0 hK0 => ?_; simp only [zE, op1, ev, lkp, avOf, acOf, opCallAny, opMM, opLen, lenAC, lenOk, fpAC, Nat.div_one, opAppend, srcOf, Ty.size, datOf, dite_true, reduceCtorEq, reduceEqDiff, reduceAdd, reduceLeDiff, reduceLT, reduceMul, reduceSub, Try.el22, Try.td22, Try.td3, Mly.av]; (repeat refine And.intro (by first | omega | assumption | exact rfl) ?_); (first | refine hK0 _ ?_ | refine Or.inl (hK0 _ ?_)); clear hK0 K0; simp only [put, app, setAll, trOf, zE, zS, reduceAdd])
          (refine rg_do rfl fun K0 hK0 => ?_; simp only [zE, op1, ev, lkp, avOf, acOf, opBin, arith, inK_i64, eqACs, eqAC, reduceCtorEq, reduceEqDiff, reduceAdd, reduceLeDiff, reduceLT, reduceMul, reduceSub, Try.td3, Try.td4, Mly.av]; (repeat refine And.intro (by first | omega | assumption | exact rfl) ?_); (first | refine hK0 _ ?_ | refine Or.inl (hK0 _ ?_)); clear hK0 K0; simp only [put, app, setAll, trOf, zE, zS, reduceAdd])
          (refine rg_step rfl fun K0 hK0 => ?_; simp only [zE, op1, ev, lkp, avOf, acOf, opPick, reduceCtorEq, reduceEqDiff, reduceAdd, reduceLeDiff, reduceLT, reduceMul, reduceSub, Try.td4, Mly.av]; (repeat refine And.intro (by first | omega | assumption | exact rfl) ?_); (first | refine hK0 _ ?_ | refine Or.inl (hK0 _ ?_)); clear hK0 K0; simp only [put, app, setAll, trOf, zE, zS, reduceAdd])
          refine rg_nil ?_
          refine ⟨by simp only [keepEnv, lkp, zE, reduceCtorEq, reduceEqDiff, argEnv, reduceAdd]; exact rfl, rfl, ?_, rfl⟩; (repeat refine keep_cons rfl ?_); exact keep_m (by exact rfl) hq17
        case b17 => exact tle_of (by first | rfl | (simp [tleB]; done) | decide)
        simp only [join_or, join_and]
        refine rg_nil ?_
        refine hK16 _ ?_; clear hK16; refine awp_keep [0, 1, 2, 12, 16, 20, 31] ?_; simp only [keepEnv, lkp, zE, reduceCtorEq, reduceEqDiff, argEnv, reduceAdd]
        refine awp_cond (by simp only [ev, keepEnv, lkp, zE, reduceCtorEq, reduceEqDiff, argEnv, reduceAdd]; exact rfl) (fun hc18 => ?_) (fun hc18 => ?_)
        · (try simp only [zB, reduceCtorEq] at hc18)
          refine awp_seq_k fun K19 hK19 => ?_
          refine awp_reg hP hN rfl ?_
          (refine rg_step rfl fun K0 hK0 => ?_; simp only [zE, op1, ev, lkp, avOf, acOf, ev, reduceCtorEq, reduceEqDiff, reduceAdd, reduceLeDiff, reduceLT, reduceMul, reduceSub, Try.td3, Mly.av]; (repeat refine And.intro (by first | omega | assumption | exact rfl) ?_); (first | refine hK0 _ ?_ | refine Or.inl (hK0 _ ?_)); clear hK0 K0; simp only [put, app, setAll, trOf, zE, zS, reduceAdd])
          refine rg_nil ?_
          refine hK19 _ ?_; clear hK19; refine awp_keep [0, 1, 2, 12, 16, 20, 31] ?_; simp only [keepEnv, lkp, zE, reduceCtorEq, reduceEqDiff, argEnv, reduceAdd]
          refine awp_ret ?_
          refine ⟨by first | exact .inl rfl | exact .inr rfl, _, rfl, ?_⟩; simp only [fzV, fz1, fzC, List.map_cons, List.map_nil, keepEnv, lkp, zE, reduceCtorEq, reduceEqDiff, argEnv, reduceAdd, Mly.av]
          refine VLE.of_eq ?_
          refine congrArg (fun n => AV.one (AC.int IntKind.i64 n)) ?_
          symm
          unfold validE
          first
          | (rw [if_pos (by omega)]; done)
          | (rw [if_neg (by omega), if_pos (by omega)]; done)
          | (rw [if_neg (by omega), if_neg (by omega), if_pos (by omega)]; done)
          | (rw [if_neg (by omega), if_neg (by omega), if_neg (by omega), if_pos (by omega)]; done)
          | (rw [if_neg (by omega), if_neg (by omega), if_neg (by omega), if_neg (by omega), if_pos (by omega)]; done)
          | (rw [if_neg (by omega), if_neg (by omega), if_neg (by omega), if_neg (by omega), if_neg (by omega)]
             first
             | exact firstE_at hrows (by omega) (by assumption)
             | exact firstE_zero fun i hi => hrows i (by omega))
        · (try simp only [zB, reduceCtorEq] at hc18)
          refine awp_skip ?_
          refine hK15 _ ?_; clear hK15; refine awp_keep [0, 1, 2, 12, 16, 20, 31] ?_; simp only [keepEnv, lkp, zE, reduceCtorEq, reduceEqDiff, argEnv, reduceAdd]
          refine awp_seq_k fun K20 hK20 => ?_
          refine awp_seq_k fun K21 hK21 => ?_
          refine awp_reg hP hN rfl ?_
          iterate 7 (refine rg_step rfl fun K0 hK0 => ?_; simp only [zE, op1, ev, lkp, avOf, acOf, opFieldAddr, opLoad, Nat.mul_one, readAC, isAggK, acs, Ty.dflt, zG, cellsAt, opCallAny, opMM, opLen, lenAC, lenOk, fpAC, Nat.div_one, opAppend, srcOf, Ty.size, datOf, dite_true, opBin, arith, inK_i64, eqACs, eqAC, reduceCtorEq, reduceEqDiff, reduceAdd, reduceLeDiff, reduceLT, reduceMul, reduceSub, Try.el22, Try.st24, Try.td2, Try.td22, Try.td24, Try.td3, Try.td4, Mly.av]; (repeat refine And.intro (by first | omega | assumption | exact rfl) ?_); (first | refine hK0 _ ?_ | refine Or.inl (hK0 _ ?_)); clear hK0 K0; simp only [put, app, setAll, trOf, zE, zS, reduceAdd])
          refine rg_nil ?_
          refine hK21 _ ?_; clear hK21; refine awp_keep [0, 1, 2, 12, 16, 20, 31, 38] ?_; simp only [keepEnv, lkp, zE, reduceCtorEq, reduceEqDiff, argEnv, reduceAdd]
          refine awp_cond (by simp only [ev, keepEnv, lkp, zE, reduceCtorEq, reduceEqDiff, argEnv, reduceAdd]; exact rfl) (fun hc22 => ?_) (fun hc22 => ?_)
          · (try simp only [zB, reduceCtorEq] at hc22)
            refine awp_seq_k fun K23 hK23 => ?_
            refine awp_reg hP hN rfl ?_
            (refine rg_step rfl fun K0 hK0 => ?_; simp only [zE, op1, ev, lkp, avOf, acOf, ev, reduceCtorEq, reduceEqDiff, reduceAdd, reduceLeDiff, reduceLT, reduceMul, reduceSub, Try.td3, Mly.av]; (repeat refine And.intro (by first | omega | assumption | exact rfl) ?_); (first | refine hK0 _ ?_ | refine Or.inl (hK0 _ ?_)); clear hK0 K0; simp only [put, app, setAll, trOf, zE, zS, reduceAdd])
            refine rg_nil ?_
            refine hK23 _ ?_; clear hK23; refine awp_keep [0, 1, 2, 12, 16, 20, 31, 38] ?_; simp only [keepEnv, lkp, zE, reduceCtorEq, reduceEqDiff, argEnv, reduceAdd]
            refine awp_ret ?_
            refine ⟨by first | exact .inl rfl | exact .inr rfl, _, rfl, ?_⟩; simp only [fzV, fz1, fzC, List.map_cons, List.map_nil, keepEnv, lkp, zE, reduceCtorEq, reduceEqDiff, argEnv, reduceAdd, Mly.av]
            refine VLE.of_eq ?_
            refine congrArg (fun n => AV.one (AC.int IntKind.i64 n)) ?_
            symm
            unfold validE
            first
            | (rw [if_pos (by omega)]; done)
            | (rw [if_neg (by omega), if_pos (by omega)]; done)
            | (rw [if_neg (by omega), if_neg (by omega), if_pos (by omega)]; done)
            | (rw [if_neg (by omega), if_neg (by omega), if_neg (by omega), if_pos (by omega)]; done)
            | (rw [if_neg (by omega), if_neg (by omega), if_neg (by omega), if_neg (by omega), if_pos (by omega)]; done)
            | (rw [if_neg (by omega), if_neg (by omega), if_neg (by omega), if_neg (by omega), if_neg (by omega)]
               first
               | exact firstE_at hrows (by omega) (by assumption)
               | exact firstE_zero fun i hi => hrows i (by omega))
          · (try simp only [zB, reduceCtorEq] at hc22)
            refine awp_skip ?_
            refine hK20 _ ?_; clear hK20; refine awp_keep [0, 1, 2, 12, 16, 20, 31, 38] ?_; simp only [keepEnv, lkp, zE, reduceCtorEq, reduceEqDiff, argEnv, reduceAdd]
            refine awp_seq_k fun K24 hK24 => ?_
            refine awp_seq_k fun K25 hK25 => ?_
            refine awp_reg hP hN rfl ?_
            (refine rg_step rfl fun K0 hK0 => ?_; simp only [zE, op1, ev, lkp, avOf, acOf, ev, reduceCtorEq, reduceEqDiff, reduceAdd, reduceLeDiff, reduceLT, reduceMul, reduceSub, Try.td3, Mly.av]; (repeat refine And.intro (by first | omega | assumption | exact rfl) ?_); (first | refine hK0 _ ?_ | refine Or.inl (hK0 _ ?_)); clear hK0 K0; simp only [put, app, setAll, trOf, zE, zS, reduceAdd])
            refine rg_nil ?_
            refine hK25 _ ?_; clear hK25; refine awp_keep [0, 1, 2, 3, 12, 16, 20, 31, 38] ?_; simp only [keepEnv, lkp, zE, reduceCtorEq, reduceEqDiff, argEnv, reduceAdd]
            refine awp_block ?_
            refine awp_loop (fun n26 s26 => ∃ (k : Nat), (k ≤ m.nx.length) ∧ (∀ i, i < k → rowE m i = 0) ∧ n26 = m.nx.length - k ∧ s26 = { env := [(1, .one (.ptr 0 0 0 0)), (3, .one (.int .i64 (k : Int)))], L := [.vars 24 [.int .i64 m.inp, .int .i64 m.st, .list (.list (.int .i64)) m.nx, .list (.list (.int .i64)) m.ot]] }) ?_ ?_
            · exact ⟨_, _, sub_keep [1, 3], 0, Nat.zero_le _, fun i hi => by omega, rfl, rfl⟩
            · rintro n26 s26 ⟨k, hk, hrows, rfl, rfl⟩
              refine awp_seq_k fun K27 hK27 => ?_
              refine awp_seq_k fun K28 hK28 => ?_
              refine awp_reg hP hN rfl ?_
              iterate 5 (refine rg_step rfl fun K0 hK0 => ?_; simp only [zE, op1, ev, lkp, avOf, acOf, opFieldAddr, opLoad, Nat.mul_one, readAC, isAggK, acs, Ty.dflt, zG, cellsAt, opCallAny, opMM, opLen, lenAC, lenOk, fpAC, Nat.div_one, opAppend, srcOf, Ty.size, datOf, dite_true, opBin, arith, inK_i64, eqACs, eqAC, reduceCtorEq, reduceEqDiff, reduceAdd, reduceLeDiff, reduceLT, reduceMul, reduceSub, Try.el22, Try.st24, Try.td2, Try.td22, Try.td24, Try.td3, Try.td4, Mly.av]; (repeat refine And.intro (by first | omega | assumption | exact rfl) ?_); (first | refine hK0 _ ?_ | refine Or.inl (hK0 _ ?_)); clear hK0 K0; simp only [put, app, setAll, trOf, zE, zS, reduceAdd])
              refine rg_nil ?_
              refine hK28 _ ?_; clear hK28; refine awp_keep [1, 3, 43] ?_; simp only [keepEnv, lkp, zE, reduceCtorEq, reduceEqDiff, argEnv, reduceAdd]
              refine awp_cond (by simp only [ev, keepEnv, lkp, zE, reduceCtorEq, reduceEqDiff, argEnv, reduceAdd]; exact rfl) (fun hc29 => ?_) (fun hc29 => ?_)
              · (try simp only [zB, reduceCtorEq] at hc29)
                refine awp_skip ?_
                refine hK27 _ ?_; clear hK27; refine awp_keep [1, 3, 43] ?_; simp only [keepEnv, lkp, zE, reduceCtorEq, reduceEqDiff, argEnv, reduceAdd]
                refine awp_seq_k fun K30 hK30 => ?_
                refine awp_block ?_
                refine awp_seq_k fun K31 hK31 => ?_
                refine awp_reg hP hN rfl ?_
                iterate 2 (refine rg_step rfl fun K0 hK0 => ?_; simp only [zE, op1, ev, lkp, avOf, acOf, opLoad, Nat.mul_one, readAC, isAggK, acs, Ty.dflt, zG, cellsAt, reduceCtorEq, reduceEqDiff, reduceAdd, reduceLeDiff, reduceLT, reduceMul, reduceSub, Try.st24, Try.td24, Try.td3, Mly.av]; (repeat refine And.intro (by first | omega | assumption | exact rfl) ?_); (first | refine hK0 _ ?_ | refine Or.inl (hK0 _ ?_)); clear hK0 K0; simp only [put, app, setAll, trOf, zE, zS, reduceAdd])
                refine rg_step rfl fun K0 hK0 => ?_
                refine op_call (h := call_of_pure (rrow_c m k (by omega) (by omega) (by omega))) rfl rfl (by first | exact rfl | (simp only [ev, keepEnv, lkp, zE, reduceCtorEq, reduceEqDiff, argEnv, reduceAdd]; exact rfl)) (by simp only [zE, zG, op1, ev, lkp, avOf, acOf, cellsAV, acs, capAV, mv1, mvC, Ty.dflt, reduceCtorEq, reduceEqDiff, reduceAdd, reduceLeDiff, reduceLT, reduceMul, reduceSub, Mly.av]) ?_
                refine hK0 _ ?_; clear hK0 K0; simp only [put, app, setAll, trOf, zE, zS, reduceAdd]
                (refine rg_step rfl fun K0 hK0 => ?_; simp only [zE, op1, ev, lkp, avOf, acOf, ev, reduceCtorEq, reduceEqDiff, reduceAdd, reduceLeDiff, reduceLT, reduceMul, reduceSub, Try.td3, Mly.av]; (repeat refine And.intro (by first | omega | assumption | exact rfl) ?_); (first | refine hK0 _ ?_ | refine Or.inl (hK0 _ ?_)); clear hK0 K0; simp only [put, app, setAll, trOf, zE, zS, reduceAdd])
                refine rg_nil ?_
                refine hK31 _ ?_; clear hK31; refine awp_keep [1, 3, 4, 43] ?_; simp only [keepEnv, lkp, zE, reduceCtorEq, reduceEqDiff, argEnv, reduceAdd]
                refine awp_seq_k fun K32 hK32 => ?_
                refine awp_reg hP hN rfl ?_
                iterate 2 (refine rg_step rfl fun K0 hK0 => ?_; simp only [zE, op1, ev, lkp, avOf, acOf, opBin, arith, inK_i64, eqACs, eqAC, reduceCtorEq, reduceEqDiff, reduceAdd, reduceLeDiff, reduceLT, reduceMul, reduceSub, Try.td3, Try.td4, Mly.av]; (repeat refine And.intro (by first | omega | assumption | exact rfl) ?_); (first | refine hK0 _ ?_ | refine Or.inl (hK0 _ ?_)); clear hK0 K0; simp only [put, app, setAll, trOf, zE, zS, reduceAdd])
                refine rg_nil ?_
                refine hK32 _ ?_; clear hK32; refine awp_keep [1, 3, 4, 43, 50] ?_; simp only [keepEnv, lkp, zE, reduceCtorEq, reduceEqDiff, argEnv, reduceAdd]
                refine awp_cond (by simp only [ev, keepEnv, lkp, zE, reduceCtorEq, reduceEqDiff, argEnv, reduceAdd]; exact rfl) (fun hc33 => ?_) (fun hc33 => ?_)
                · (try simp only [zB, reduceCtorEq] at hc33)
                  refine awp_seq_k fun K34 hK34 => ?_
                  refine awp_reg hP hN rfl ?_
                  iterate 2 (refine rg_step rfl fun K0 hK0 => ?_; simp only [zE, op1, ev, lkp, avOf, acOf, ev, reduceCtorEq, reduceEqDiff, reduceAdd, reduceLeDiff, reduceLT, reduceMul, reduceSub, Try.td3, Mly.av]; (repeat refine And.intro (by first | omega | assumption | exact rfl) ?_); (first | refine hK0 _ ?_ | refine Or.inl (hK0 _ ?_)); clear hK0 K0; simp only [put, app, setAll, trOf, zE, zS, reduceAdd])
                  refine rg_nil ?_
                  refine hK34 _ ?_; clear hK34; refine awp_keep [1, 2, 3, 4, 43, 50] ?_; simp only [keepEnv, lkp, zE, reduceCtorEq, reduceEqDiff, argEnv, reduceAdd]
                  refine awp_ret ?_
                  refine ⟨by first | exact .inl rfl | exact .inr rfl, _, rfl, ?_⟩; simp only [fzV, fz1, fzC, List.map_cons, List.map_nil, keepEnv, lkp, zE, reduceCtorEq, reduceEqDiff, argEnv, reduceAdd, Mly.av]
                  refine VLE.of_eq ?_
                  refine congrArg (fun n => AV.one (AC.int IntKind.i64 n)) ?_
                  symm
                  unfold validE
                  first
                  | (rw [if_pos (by omega)]; done)
                  | (rw [if_neg (by omega), if_pos (by omega)]; done)
                  | (rw [if_neg (by omega), if_neg (by omega), if_pos (by omega)]; done)
                  | (rw [if_neg (by omega), if_neg (by omega), if_neg (by omega), if_pos (by omega)]; done)
                  | (rw [if_neg (by omega), if_neg (by omega), if_neg (by omega), if_neg (by omega), if_pos (by omega)]; done)
                  | (rw [if_neg (by omega), if_neg (by omega), if_neg (by omega), if_neg (by omega), if_neg (by omega)]
                     first
                     | exact firstE_at hrows (by omega) (by assumption)
                     | exact firstE_zero fun i hi => hrows i (by omega))
                · (try simp only [zB, reduceCtorEq] at hc33)
                  refine awp_skip ?_
                  refine hK30 _ ?_; clear hK30; refine awp_keep [1, 3, 4, 43, 50] ?_; simp only [keepEnv, lkp, zE, reduceCtorEq, reduceEqDiff, argEnv, reduceAdd]
                  refine awp_reg hP hN rfl ?_
                  iterate 3 (refine rg_step rfl fun K0 hK0 => ?_; simp only [zE, op1, ev, lkp, avOf, acOf, opBin, arith, inK_i64, eqACs, eqAC, reduceCtorEq, reduceEqDiff, reduceAdd, reduceLeDiff, reduceLT, reduceMul, reduceSub, Try.td3, Mly.av]; (repeat refine And.intro (by first | omega | assumption | exact rfl) ?_); (first | refine hK0 _ ?_ | refine Or.inl (hK0 _ ?_)); clear hK0 K0; simp only [put, app, setAll, trOf, zE, zS, reduceAdd])
                  refine rg_nil ?_
                  refine ⟨_, _, ?_, sub_keep [1, 3], k + 1, by omega, fun i hi => ?_, rfl, rfl⟩
                  · omega
                  · by_cases e : i = k
                    · rw [e]; first | assumption | omega
                    · exact hrows i (by omega)
              · (try simp only [zB, reduceCtorEq] at hc29)
                refine awp_exit ?_
                refine hK24 _ ?_; clear hK24; refine awp_keep [1, 3, 43] ?_; simp only [keepEnv, lkp, zE, reduceCtorEq, reduceEqDiff, argEnv, reduceAdd]
                refine awp_seq_k fun K35 hK35 => ?_
                refine awp_reg hP hN rfl ?_
                (refine rg_step rfl fun K0 hK0 => ?_; simp only [zE, op1, ev, lkp, avOf, acOf, ev, reduceCtorEq, reduceEqDiff, reduceAdd, reduceLeDiff, reduceLT, reduceMul, reduceSub, Try.td3, Mly.av]; (repeat refine And.intro (by first | omega | assumption | exact rfl) ?_); (first | refine hK0 _ ?_ | refine Or.inl (hK0 _ ?_)); clear hK0 K0; simp only [put, app, setAll, trOf, zE, zS, reduceAdd])
                refine rg_nil ?_
                refine hK35 _ ?_; clear hK35; refine awp_keep [1, 2, 3, 43] ?_; simp only [keepEnv, lkp, zE, reduceCtorEq, reduceEqDiff, argEnv, reduceAdd]
                refine awp_ret ?_
                refine ⟨by first | exact .inl rfl | exact .inr rfl, _, rfl, ?_⟩; simp only [fzV, fz1, fzC, List.map_cons, List.map_nil, keepEnv, lkp, zE, reduceCtorEq, reduceEqDiff, argEnv, reduceAdd, Mly.av]
                refine VLE.of_eq ?_
                refine congrArg (fun n => AV.one (AC.int IntKind.i64 n)) ?_
                symm
                unfold validE
                first
                | (rw [if_pos (by omega)]; done)
                | (rw [if_neg (by omega), if_pos (by omega)]; done)
                | (rw [if_neg (by omega), if_neg (by omega), if_pos (by omega)]; done)
                | (rw [if_neg (by omega), if_neg (by omega), if_neg (by omega), if_pos (by omega)]; done)
                | (rw [if_neg (by omega), if_neg (by omega), if_neg (by omega), if_neg (by omega), if_pos (by omega)]; done)
                | (rw [if_neg (by omega), if_neg (by omega), if_neg (by omega), if_neg (by omega), if_neg (by omega)]
                   first
                   | exact firstE_at hrows (by omega) (by assumption)
                   | exact firstE_zero fun i hi => hrows i (by omega))
end Go.Proofs.Ytfbnhgefkdhiaaa
namespace Go.Proofs.Ytfbnhgefkdhiaaa
open Go Go.AV
open Nat (reduceEqDiff reduceAdd reduceLeDiff reduceLT reduceMul reduceSub)
open List (set_cons_zero set_cons_succ)
set_option maxRecDepth 100000 in
set_option maxHeartbeats 1000000 in
theorem rreach_c (m : Mly) : PURE Try.prog 54 [m.av] (.one (.list (.int .i64) m.reach)) := by
  refine pure_of_le Try.func54 rfl (by kernel_rfl) (Nat.le_of_ble_eq_true rfl) rfl fun C hP hN hB => ?_
  replace hN : C.N = 53 := hN
  simp only [argEnv, reduceAdd]
  refine awp_seq_k fun K1 hK1 => ?_
  refine awp_reg hP hN rfl ?_
  iterate 2 (refine rg_step rfl fun K0 hK0 => ?_; simp only [zE, op1, ev, lkp, avOf, acOf, opBox, cellsAV, reduceCtorEq, reduceEqDiff, reduceAdd, reduceLeDiff, reduceLT, reduceMul, reduceSub, Try.el33, Try.st24, Try.td24, Try.td33, Mly.av]; (repeat refine And.intro (by first | omega | assumption | exact rfl) ?_); (first | refine hK0 _ ?_ | refine Or.inl (hK0 _ ?_)); clear hK0 K0; simp only [put, app, setAll, trOf, zE, zS, reduceAdd])
  refine rg_nil ?_
  refine hK1 _ ?_; clear hK1; refine awp_keep [0, 1, 2] ?_; simp only [keepEnv, lkp, zE, reduceCtorEq, reduceEqDiff, argEnv, reduceAdd]
  refine awp_seq_k fun K2 hK2 => ?_
  refine awp_seq_k fun K3 hK3 => ?_
  refine awp_reg hP hN rfl ?_
  (refine rg_step rfl fun K0 hK0 => ?_; simp only [zE, op1, ev, lkp, avOf, acOf, opLoad, Nat.mul_one, readAC, isAggK, acs, Ty.dflt, zG, cellsAt, reduceCtorEq, reduceEqDiff, reduceAdd, reduceLeDiff, reduceLT, reduceMul, reduceSub, Try.st24, Try.td24, Mly.av]; (repeat refine And.intro (by first | omega | assumption | exact rfl) ?_); (first | refine hK0 _ ?_ | refine Or.inl (hK0 _ ?_)); clear hK0 K0; simp only [put, app, setAll, trOf, zE, zS, reduceAdd])
  refine rg_step rfl fun K0 hK0 => ?_
  refine op_call (h := call_of_pure (rvalid_c m)) rfl rfl (by first | exact rfl | (simp only [ev, keepEnv, lkp, zE, reduceCtorEq, reduceEqDiff, argEnv, reduceAdd]; exact rfl)) (by simp only [zE, zG, op1, ev, lkp, avOf, acOf, cellsAV, acs, capAV, mv1, mvC, Ty.dflt, reduceCtorEq, reduceEqDiff, reduceAdd, reduceLeDiff, reduceLT, reduceMul, reduceSub, Mly.av]) ?_
  refine hK0 _ ?_; clear hK0 K0; simp only [put, app, setAll, trOf, zE, zS, reduceAdd]
  (refine rg_step rfl fun K0 hK0 => ?_; simp only [zE, op1, ev, lkp, avOf, acOf, opBin, arith, inK_i64, eqACs, eqAC, reduceCtorEq, reduceEqDiff, reduceAdd, reduceLeDiff, reduceLT, reduceMul, reduceSub, Try.td3, Try.td4, Mly.av]; (repeat refine And.intro (by first | omega | assumption | exact rfl) ?_); (first | refine hK0 _ ?_ | refine Or.inl (hK0 _ ?_)); clear hK0 K0; simp only [put, app, setAll, trOf, zE, zS, reduceAdd])
  refine rg_nil ?_
  refine hK3 _ ?_; clear hK3; refine awp_keep [0, 1, 2, 8] ?_; simp only [keepEnv, lkp, zE, reduceCtorEq, reduceEqDiff, argEnv, reduceAdd]
  refine awp_cond (by simp only [ev, keepEnv, lkp, zE, reduceCtorEq, reduceEqDiff, argEnv, reduceAdd]; exact rfl) (fun hc4 => ?_) (fun hc4 => ?_)
  · (try simp only [zB, reduceCtorEq] at hc4)
    refine awp_seq_k fun K5 hK5 => ?_
    refine awp_reg hP hN rfl ?_
    (refine rg_step rfl fun K0 hK0 => ?_; simp only [zE, op1, ev, lkp, avOf, acOf, ev, reduceCtorEq, reduceEqDiff, reduceAdd, reduceLeDiff, reduceLT, reduceMul, reduceSub, Try.el33, Try.td33, Mly.av]; (repeat refine And.intro (by first | omega | assumption | exact rfl) ?_); (first | refine hK0 _ ?_ | refine Or.inl (hK0 _ ?_)); clear hK0 K0; simp only [put, app, setAll, trOf, zE, zS, reduceAdd])
    refine rg_nil ?_
    refine hK5 _ ?_; clear hK5; refine awp_keep [0, 1, 2, 8] ?_; simp only [keepEnv, lkp, zE, reduceCtorEq, reduceEqDiff, argEnv, reduceAdd]
    refine awp_ret ?_
    refine ⟨by first | exact .inl rfl | exact .inr rfl, _, rfl, ?_⟩; simp only [fzV, fz1, fzC, List.map_cons, List.map_nil, keepEnv, lkp, zE, reduceCtorEq, reduceEqDiff, argEnv, reduceAdd, Mly.av]
    first
    | (rw [reach_bad ‹¬validE m = 0›]; exact vle_one (cle_nils rfl))
    | (rw [← hrf, rf_end _ _ _ _ (by omega)]; exact VLE.of_eq (by simp))
  · (try simp only [zB, reduceCtorEq] at hc4)
    have hv : validE m = 0 := by omega
    have hm := mok_of hv; have h1 := hm.s1; have h2 := hm.s2; have h3 := hm.n2; have hi1 := hm.i1; have hi2 := hm.i2
    refine awp_skip ?_
    refine hK2 _ ?_; clear hK2; refine awp_keep [0, 1, 2, 8] ?_; simp only [keepEnv, lkp, zE, reduceCtorEq, reduceEqDiff, argEnv, reduceAdd]
    refine awp_seq_k fun K6 hK6 => ?_
    refine awp_reg hP hN rfl ?_
    iterate 2 (refine rg_step rfl fun K0 hK0 => ?_; simp only [zE, op1, ev, lkp, avOf, acOf, opFieldAddr, opLoad, Nat.mul_one, readAC, isAggK, acs, Ty.dflt, zG, cellsAt, reduceCtorEq, reduceEqDiff, reduceAdd, reduceLeDiff, reduceLT, reduceMul, reduceSub, Try.st24, Try.td1, Try.td24, Try.td3, Mly.av]; (repeat refine And.intro (by first | omega | assumption | exact rfl) ?_); (first | refine hK0 _ ?_ | refine Or.inl (hK0 _ ?_)); clear hK0 K0; simp only [put, app, setAll, trOf, zE, zS, reduceAdd])
    (refine rg_step rfl fun K0 hK0 => ?_; simp only [zE, op1, ev, lkp, avOf, acOf, opBuildSlice, fillAC, chunk, rep, datOf, writeAC, cellsAV, Ty.size, reduceCtorEq, reduceEqDiff, reduceAdd, reduceLeDiff, reduceLT, reduceMul, reduceSub, Try.el33, Try.td1, Try.td33, Mly.av]; (repeat refine And.intro (by first | omega | assumption | exact rfl) ?_); refine Or.inr (Or.inl (hK0 _ ?_)); clear hK0 K0; simp only [put, app, setAll, trOf, zE, zS, reduceAdd])
    (refine rg_step rfl fun K0 hK0 => ?_; simp only [zE, op1, ev, lkp, avOf, acOf, ev, reduceCtorEq, reduceEqDiff, reduceAdd, reduceLeDiff, reduceLT, reduceMul, reduceSub, Try.el33, Try.td33, Mly.av]; (repeat refine And.intro (by first | omega | assumption | exact rfl) ?_); (first | refine hK0 _ ?_ | refine Or.inl (hK0 _ ?_)); clear hK0 K0; simp only [put, app, setAll, trOf, zE, zS, reduceAdd])
    refine rg_nil ?_
    refine hK6 _ ?_; clear hK6; refine awp_keep [0, 1, 2, 3, 8] ?_; simp only [keepEnv, lkp, zE, reduceCtorEq, reduceEqDiff, argEnv, reduceAdd]
    refine awp_seq_k fun K7 hK7 => ?_
    refine awp_seq_k fun K8 hK8 => ?_
    refine awp_reg hP hN rfl ?_
    (refine rg_step rfl fun K0 hK0 => ?_; simp only [zE, op1, ev, lkp, avOf, acOf, ev, reduceCtorEq, reduceEqDiff, reduceAdd, reduceLeDiff, reduceLT, reduceMul, reduceSub, Try.td3, Mly.av]; (repeat refine And.intro (by first | omega | assumption | exact rfl) ?_); (first | refine hK0 _ ?_ | refine Or.inl (hK0 _ ?_)); clear hK0 K0; simp only [put, app, setAll, trOf, zE, zS, reduceAdd])
    refine rg_nil ?_
    refine hK8 _ ?_; clear hK8; refine awp_keep [0, 1, 2, 3, 4, 8] ?_; simp only [keepEnv, lkp, zE, reduceCtorEq, reduceEqDiff, argEnv, reduceAdd]
    refine awp_block ?_
    refine awp_loop (fun n9 s9 => ∃ (i : Nat) (l : List Int) (v : Nat), (RSet m.nx.length l) ∧ (m.rf (m.nx.length + 1 - i) i l = m.reach) ∧ (i ≤ l.length) ∧ n9 = m.nx.length + 1 - i ∧ s9 = { env := [(1, .one (.ptr 0 0 0 0)), (3, .one (.row 1 v)), (4, .one (.int .i64 (i : Int)))], L := [.vars 24 [.int .i64 m.inp, .int .i64 m.st, .list (.list (.int .i64)) m.nx, .list (.list (.int .i64)) m.ot], .row (.int .i64) 3 v l] }) ?_ ?_
    · exact ⟨_, _, sub_keep [1, 3, 4], 0, [m.st], 0, rset_one hm, (reach_ok hv).symm, Nat.zero_le _, rfl, rfl⟩
    · rintro n9 s9 ⟨i, l, v, hR, hrf, hi, rfl, rfl⟩
      refine awp_seq_k fun K10 hK10 => ?_
      refine awp_seq_k fun K11 hK11 => ?_
      refine awp_reg hP hN rfl ?_
      iterate 4 (refine rg_step rfl fun K0 hK0 => ?_; simp only [zE, op1, ev, lkp, avOf, acOf, opCallAny, opMM, opLen, lenAC, lenOk, fpAC, Nat.div_one, opAppend, srcOf, Ty.size, datOf, dite_true, opBin, arith, inK_i64, eqACs, eqAC, reduceCtorEq, reduceEqDiff, reduceAdd, reduceLeDiff, reduceLT, reduceMul, reduceSub, Try.el33, Try.td3, Try.td33, Try.td4, Mly.av]; (repeat refine And.intro (by first | omega | assumption | exact rfl) ?_); (first | refine hK0 _ ?_ | refine Or.inl (hK0 _ ?_)); clear hK0 K0; simp only [put, app, setAll, trOf, zE, zS, reduceAdd])
      refine rg_nil ?_
      refine hK11 _ ?_; clear hK11; refine awp_keep [1, 3, 4, 15] ?_; simp only [keepEnv, lkp, zE, reduceCtorEq, reduceEqDiff, argEnv, reduceAdd]
      refine awp_cond (by simp only [ev, keepEnv, lkp, zE, reduceCtorEq, reduceEqDiff, argEnv, reduceAdd]; exact rfl) (fun hc12 => ?_) (fun hc12 => ?_)
      · (try simp only [zB, reduceCtorEq] at hc12)
        refine awp_skip ?_
        refine hK10 _ ?_; clear hK10; refine awp_keep [1, 3, 4, 15] ?_; simp only [keepEnv, lkp, zE, reduceCtorEq, reduceEqDiff, argEnv, reduceAdd]
        refine awp_seq_k fun K13 hK13 => ?_
        refine awp_block ?_
        refine awp_seq_k fun K14 hK14 => ?_
        refine awp_reg hP hN rfl ?_
        (refine rg_step rfl fun K0 hK0 => ?_; simp only [zE, op1, ev, lkp, avOf, acOf, ev, reduceCtorEq, reduceEqDiff, reduceAdd, reduceLeDiff, reduceLT, reduceMul, reduceSub, Try.td3, Mly.av]; (repeat refine And.intro (by first | omega | assumption | exact rfl) ?_); (first | refine hK0 _ ?_ | refine Or.inl (hK0 _ ?_)); clear hK0 K0; simp only [put, app, setAll, trOf, zE, zS, reduceAdd])
        refine rg_nil ?_
        refine hK14 _ ?_; clear hK14; refine awp_keep [1, 3, 4, 5, 15] ?_; simp only [keepEnv, lkp, zE, reduceCtorEq, reduceEqDiff, argEnv, reduceAdd]
        refine awp_block ?_
        refine awp_loop (fun n15 s15 => ∃ (j : Nat) (v2 : Nat), ((j : Int) ≤ m.inp) ∧ (RSet m.nx.length (((m.row (l.getD i 0)).take j).foldl addS l)) ∧ n15 = m.inp.toNat - j ∧ s15 = { env := [(1, .one (.ptr 0 0 0 0)), (3, .one (.row 1 v2)), (4, .one (.int .i64 (i : Int))), (5, .one (.int .i64 (j : Int)))], L := [.vars 24 [.int .i64 m.inp, .int .i64 m.st, .list (.list (.int .i64)) m.nx, .list (.list (.int .i64)) m.ot], .row (.int .i64) 3 v2 (((m.row (l.getD i 0)).take j).foldl addS l)] }) ?_ ?_
        · exact ⟨_, _, sub_keep [1, 3, 4, 5], 0, v, by omega, hR, rfl, rfl⟩
        · rintro n15 s15 ⟨j, v2, hj, hRc, rfl, rfl⟩
          refine awp_seq_k fun K16 hK16 => ?_
          refine awp_seq_k fun K17 hK17 => ?_
          refine awp_reg hP hN rfl ?_
          iterate 4 (refine rg_step rfl fun K0 hK0 => ?_; simp only [zE, op1, ev, lkp, avOf, acOf, opFieldAddr, opLoad, Nat.mul_one, readAC, isAggK, acs, Ty.dflt, zG, cellsAt, opBin, arith, inK_i64, eqACs, eqAC, reduceCtorEq, reduceEqDiff, reduceAdd, reduceLeDiff, reduceLT, reduceMul, reduceSub, Try.st24, Try.td24, Try.td3, Try.td4, Mly.av]; (repeat refine And.intro (by first | omega | assumption | exact rfl) ?_); (first | refine hK0 _ ?_ | refine Or.inl (hK0 _ ?_)); clear hK0 K0; simp only [put, app, setAll, trOf, zE, zS, reduceAdd])
          refine rg_nil ?_
          refine hK17 _ ?_; clear hK17; refine awp_keep [1, 3, 4, 5, 21] ?_; simp only [keepEnv, lkp, zE, reduceCtorEq, reduceEqDiff, argEnv, reduceAdd]
          refine awp_cond (by simp only [ev, keepEnv, lkp, zE, reduceCtorEq, reduceEqDiff, argEnv, reduceAdd]; exact rfl) (fun hc18 => ?_) (fun hc18 => ?_)
          · (try simp only [zB, reduceCtorEq] at hc18)
            refine awp_skip ?_
            refine hK16 _ ?_; clear hK16; refine awp_keep [1, 3, 4, 5, 21] ?_; simp only [keepEnv, lkp, zE, reduceCtorEq, reduceEqDiff, argEnv, reduceAdd]
            refine awp_seq_k fun K19 hK19 => ?_
            refine awp_block ?_
            refine awp_seq_k fun K20 hK20 => ?_
            have hx := hR.at_ (i := i) (by omega); have hl := hR.len; have hrl9 := hm.rl (l.getD i 0).toNat (by omega); have hlc := hRc.len; have hrow : (((m.row (l.getD i 0))).length : Int) = m.inp := hm.rl (l.getD i 0).toNat (by omega); have hlp : ((((m.row (l.getD i 0)).take j).foldl addS l)).getD i 0 = l.getD i 0 := by obtain ⟨k9, e9⟩ := foldS_pre ((m.row (l.getD i 0)).take j) l; rw [e9]; exact getD_pre (by omega)
            have hge := fold_len_le ((m.row (l.getD i 0)).take j) l
            refine awp_drw hP hN Try.mixed rfl ?_
            iterate 12 (refine rg_step rfl fun K0 hK0 => ?_; simp only [zE, op1, ev, lkp, avOf, acOf, opFieldAddr, opLoad, Nat.mul_one, readAC, isAggK, acs, Ty.dflt, zG, cellsAt, opIndexAddr, Ty.size, ne_eq, not_false_eq_true, Int.natCast_one, Int.mul_one, reduceCtorEq, reduceEqDiff, reduceAdd, reduceLeDiff, reduceLT, reduceMul, reduceSub, Try.el22, Try.el33, Try.st24, Try.td2, Try.td22, Try.td24, Try.td3, Try.td33, Mly.av, hlp]; (repeat refine And.intro (by first | omega | assumption | exact rfl) ?_); (first | refine hK0 _ ?_ | refine Or.inl (hK0 _ ?_)); clear hK0 K0; simp only [put, app, setAll, trOf, zE, zS, reduceAdd])
            refine rg_step rfl fun K0 hK0 => ?_
            refine op_call (h := call_lend' (args := [.one (.row 1 v2), .one (.int .i64 ((m.row (l.getD i 0)).getD j 0))]) (by simp [fzV, fz1, fzC]) rfl (has_c (((m.row (l.getD i 0)).take j).foldl addS l) ((m.row (l.getD i 0)).getD j 0)) rfl) rfl rfl (by first | exact rfl | (simp only [ev, keepEnv, lkp, zE, reduceCtorEq, reduceEqDiff, argEnv, reduceAdd]; exact rfl)) (by simp only [zE, zG, op1, ev, lkp, avOf, acOf, cellsAV, acs, capAV, mv1, mvC, Ty.dflt, reduceCtorEq, reduceEqDiff, reduceAdd, reduceLeDiff, reduceLT, reduceMul, reduceSub, Mly.av, hlp]) ?_
            refine hK0 _ ?_; clear hK0 K0; simp only [put, app, setAll, trOf, zE, zS, reduceAdd]
            (refine rg_step rfl fun K0 hK0 => ?_; simp only [zE, op1, ev, lkp, avOf, acOf, opUn, reduceCtorEq, reduceEqDiff, reduceAdd, reduceLeDiff, reduceLT, reduceMul, reduceSub, Try.td4, Mly.av, hlp]; (repeat refine And.intro (by first | omega | assumption | exact rfl) ?_); (first | refine hK0 _ ?_ | refine Or.inl (hK0 _ ?_)); clear hK0 K0; simp only [put, app, setAll, trOf, zE, zS, reduceAdd])
            refine rg_nil ?_
            refine ⟨by kernel_rfl, ?_⟩
            refine hK20 _ ?_; clear hK20; refine awp_keep [1, 3, 4, 5, 21, 37] ?_; simp only [keepEnv, lkp, zE, reduceCtorEq, reduceEqDiff, argEnv, reduceAdd]
            refine awp_cond (by simp only [ev, keepEnv, lkp, zE, reduceCtorEq, reduceEqDiff, argEnv, reduceAdd]; exact rfl) (fun hc21 => ?_) (fun hc21 => ?_)
            · (try simp only [zB, reduceCtorEq] at hc21)
              have hin : (m.row (l.getD i 0)).getD j 0 ∉ (((m.row (l.getD i 0)).take j).foldl addS l) := by simp_all
              refine awp_drw hP hN Try.mixed rfl ?_
              iterate 15 (refine rg_step rfl fun K0 hK0 => ?_; simp only [zE, op1, ev, lkp, avOf, acOf, opFieldAddr, opLoad, Nat.mul_one, readAC, isAggK, acs, Ty.dflt, zG, cellsAt, opIndexAddr, Ty.size, ne_eq, not_false_eq_true, Int.natCast_one, Int.mul_one, opBuildSlice, fillAC, chunk, rep, datOf, writeAC, cellsAV, opCallAny, opMM, opLen, lenAC, lenOk, fpAC, Nat.div_one, opAppend, srcOf, dite_true, reduceCtorEq, reduceEqDiff, reduceAdd, reduceLeDiff, reduceLT, reduceMul, reduceSub, Try.el22, Try.el33, Try.st24, Try.td1, Try.td2, Try.td22, Try.td24, Try.td3, Try.td33, Mly.av, hlp]; (repeat refine And.intro (by first | omega | assumption | exact rfl) ?_); (first | refine hK0 _ ?_ | refine Or.inl (hK0 _ ?_)); clear hK0 K0; simp only [put, app, setAll, trOf, zE, zS, reduceAdd])
              refine rg_nil ?_
              refine ⟨by kernel_rfl, ?_⟩
              refine hK19 _ ?_; clear hK19; refine awp_keep [1, 3, 4, 5, 21, 37] ?_; simp only [keepEnv, lkp, zE, reduceCtorEq, reduceEqDiff, argEnv, reduceAdd]
              refine awp_reg hP hN rfl ?_
              iterate 3 (refine rg_step rfl fun K0 hK0 => ?_; simp only [zE, op1, ev, lkp, avOf, acOf, opBin, arith, inK_i64, eqACs, eqAC, reduceCtorEq, reduceEqDiff, reduceAdd, reduceLeDiff, reduceLT, reduceMul, reduceSub, Try.td3, Mly.av]; (repeat refine And.intro (by first | omega | assumption | exact rfl) ?_); (first | refine hK0 _ ?_ | refine Or.inl (hK0 _ ?_)); clear hK0 K0; simp only [put, app, setAll, trOf, zE, zS, reduceAdd])
              refine rg_nil ?_
              first
              | (have hin2 : (m.row (l.getD i 0)).getD j 0 ∉ (((m.row (l.getD i 0)).take j).foldl addS l) := hin
                 refine ⟨_, _, ?_, sub_keep [1, 3, 4, 5], j + 1, v2 + 1, by omega, ?_, rfl, ?_⟩
                 · omega
                 · exact RSet.take hm hR hx.1 hx.2 (j + 1)
                 · rw [fold_succ (by omega), addS_out hin2]; rfl)
              | (have hin2 : (m.row (l.getD i 0)).getD j 0 ∈ (((m.row (l.getD i 0)).take j).foldl addS l) := hin
                 refine ⟨_, _, ?_, sub_keep [1, 3, 4, 5], j + 1, v2, by omega, ?_, rfl, ?_⟩
                 · omega
                 · exact RSet.take hm hR hx.1 hx.2 (j + 1)
                 · rw [fold_succ (by omega), addS_in hin2]; rfl)
            · (try simp only [zB, reduceCtorEq] at hc21)
              have hin : (m.row (l.getD i 0)).getD j 0 ∈ (((m.row (l.getD i 0)).take j).foldl addS l) := by simp_all
              refine awp_skip ?_
              refine hK19 _ ?_; clear hK19; refine awp_keep [1, 3, 4, 5, 21, 37] ?_; simp only [keepEnv, lkp, zE, reduceCtorEq, reduceEqDiff, argEnv, reduceAdd]
              refine awp_reg hP hN rfl ?_
              iterate 3 (refine rg_step rfl fun K0 hK0 => ?_; simp only [zE, op1, ev, lkp, avOf, acOf, opBin, arith, inK_i64, eqACs, eqAC, reduceCtorEq, reduceEqDiff, reduceAdd, reduceLeDiff, reduceLT, reduceMul, reduceSub, Try.td3, Mly.av]; (repeat refine And.intro (by first | omega | assumption | exact rfl) ?_); (first | refine hK0 _ ?_ | refine Or.inl (hK0 _ ?_)); clear hK0 K0; simp only [put, app, setAll, trOf, zE, zS, reduceAdd])
              refine rg_nil ?_
              first
              | (have hin2 : (m.row (l.getD i 0)).getD j 0 ∉ (((m.row (l.getD i 0)).take j).foldl addS l) := hin
                 refine ⟨_, _, ?_, sub_keep [1, 3, 4, 5], j + 1, v2 + 1, by omega, ?_, rfl, ?_⟩
                 · omega
                 · exact RSet.take hm hR hx.1 hx.2 (j + 1)
                 · rw [fold_succ (by omega), addS_out hin2]; rfl)
              | (have hin2 : (m.row (l.getD i 0)).getD j 0 ∈ (((m.row (l.getD i 0)).take j).foldl addS l) := hin
                 refine ⟨_, _, ?_, sub_keep [1, 3, 4, 5], j + 1, v2, by omega, ?_, rfl, ?_⟩
                 · omega
                 · exact RSet.take hm hR hx.1 hx.2 (j + 1)
                 · rw [fold_succ (by omega), addS_in hin2]; rfl)
          · (try simp only [zB, reduceCtorEq] at hc18)
            refine awp_exit ?_
            refine hK13 _ ?_; clear hK13; refine awp_keep [1, 3, 4, 5, 21] ?_; simp only [keepEnv, lkp, zE, reduceCtorEq, reduceEqDiff, argEnv, reduceAdd]
            have hl9 := hR.len; have hil9 : i < l.length := by omega
            refine awp_reg hP hN rfl ?_
            iterate 3 (refine rg_step rfl fun K0 hK0 => ?_; simp only [zE, op1, ev, lkp, avOf, acOf, opBin, arith, inK_i64, eqACs, eqAC, reduceCtorEq, reduceEqDiff, reduceAdd, reduceLeDiff, reduceLT, reduceMul, reduceSub, Try.td3, Mly.av]; (repeat refine And.intro (by first | omega | assumption | exact rfl) ?_); (first | refine hK0 _ ?_ | refine Or.inl (hK0 _ ?_)); clear hK0 K0; simp only [put, app, setAll, trOf, zE, zS, reduceAdd])
            refine rg_nil ?_
            have hil : i < l.length := by omega
            have hx := hR.at_ (i := i) hil; have hl := hR.len
            have hrow : (((m.row (l.getD i 0))).length : Int) = m.inp := hm.rl (l.getD i 0).toNat (by omega)
            have hjr : (m.row (l.getD i 0)).take j = (m.row (l.getD i 0)) := List.take_of_length_le (by omega)
            rw [hjr] at hRc
            have hge := fold_len_le (m.row (l.getD i 0)) l
            refine ⟨_, _, ?_, sub_keep [1, 3, 4], i + 1, (m.row (l.getD i 0)).foldl addS l, v2, hRc, ?_, by omega, rfl, ?_⟩
            · omega
            · rw [← hrf, show m.nx.length + 1 - i = (m.nx.length + 1 - (i + 1)) + 1 by omega, rf_step m _ _ _ hil]
            · rw [hjr]; rfl
      · (try simp only [zB, reduceCtorEq] at hc12)
        refine awp_exit ?_
        refine hK7 _ ?_; clear hK7; refine awp_keep [1, 3, 4, 15] ?_; simp only [keepEnv, lkp, zE, reduceCtorEq, reduceEqDiff, argEnv, reduceAdd]
        refine awp_seq_k fun K22 hK22 => ?_
        refine awp_reg hP hN rfl ?_
        iterate 2 (refine rg_step rfl fun K0 hK0 => ?_; simp only [zE, op1, ev, lkp, avOf, acOf, ev, reduceCtorEq, reduceEqDiff, reduceAdd, reduceLeDiff, reduceLT, reduceMul, reduceSub, Try.el33, Try.td33, Mly.av]; (repeat refine And.intro (by first | omega | assumption | exact rfl) ?_); (first | refine hK0 _ ?_ | refine Or.inl (hK0 _ ?_)); clear hK0 K0; simp only [put, app, setAll, trOf, zE, zS, reduceAdd])
        refine rg_nil ?_
        refine hK22 _ ?_; clear hK22; refine awp_keep [1, 2, 3, 4, 15] ?_; simp only [keepEnv, lkp, zE, reduceCtorEq, reduceEqDiff, argEnv, reduceAdd]
        refine awp_ret ?_
        refine ⟨by first | exact .inl rfl | exact .inr rfl, _, rfl, ?_⟩; simp only [fzV, fz1, fzC, List.map_cons, List.map_nil, keepEnv, lkp, zE, reduceCtorEq, reduceEqDiff, argEnv, reduceAdd, Mly.av]
        first
        | (rw [reach_bad ‹¬validE m = 0›]; exact vle_one (cle_nils rfl))
        | (rw [← hrf, rf_end _ _ _ _ (by omega)]; exact VLE.of_eq (by simp))
end Go.Proofs.Ytfbnhgefkdhiaaa
