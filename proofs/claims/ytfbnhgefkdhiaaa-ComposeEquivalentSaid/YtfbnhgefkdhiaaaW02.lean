/- Contracts of functions of this seat, each out of a walk through its code, and plain facts on what they compute. Conditions: those that each theorem names. -/
import Derived.Test.YtfbnhgefkdhiaaaW01
set_option linter.unusedSimpArgs false
set_option linter.unusedVariables false
namespace Go.Proofs.Ytfbnhgefkdhiaaa
open Go Go.AV
open Nat (reduceEqDiff reduceAdd reduceLeDiff reduceLT reduceMul reduceSub)
open List (set_cons_zero set_cons_succ)
set_option maxRecDepth 100000 in
theorem concat_c (ls : List (List Int)) (hb : ls.flatten.length ≤ 1000000) : PURE Try.prog 87 [.one (.list (.list (.int .i64)) ls)] (.one (.list (.int .i64) ls.flatten)) := by
  refine pure_of_le Try.func87 rfl (by kernel_rfl) (Nat.le_of_ble_eq_true rfl) rfl fun C hP hN hB => ?_
  replace hN : C.N = 36 := hN
  simp only [argEnv, reduceAdd]
  refine awp_fit 0 rfl fun hf0 => ?_; simp only [lkp, if_true, if_false, reduceCtorEq, reduceEqDiff, eq_self, Nat.one_ne_zero, Nat.zero_ne_one, fitV, fitC, fitL, Fit, and_true, implies_true, true_and] at hf0
  refine awp_seq_k fun K1 hK1 => ?_
  refine awp_reg hP hN rfl ?_
  (refine rg_step rfl fun K0 hK0 => ?_; simp only [zE, op1, ev, lkp, avOf, acOf, ev, reduceCtorEq, reduceEqDiff, reduceAdd, reduceLeDiff, reduceLT, reduceMul, reduceSub, Try.el33, Try.td33]; (repeat refine And.intro (by first | omega | assumption | exact rfl) ?_); (first | refine hK0 _ ?_ | refine Or.inl (hK0 _ ?_)); clear hK0 K0; simp only [put, app, setAll, trOf, zE, zS, reduceAdd])
  refine rg_nil ?_
  refine hK1 _ ?_; clear hK1; refine awp_keep [0, 2] ?_; simp only [keepEnv, lkp, zE, reduceCtorEq, reduceEqDiff, argEnv, reduceAdd]
  refine awp_seq_k fun K2 hK2 => ?_
  refine awp_reg hP hN rfl ?_
  (refine rg_step rfl fun K0 hK0 => ?_; simp only [zE, op1, ev, lkp, avOf, acOf, ev, reduceCtorEq, reduceEqDiff, reduceAdd, reduceLeDiff, reduceLT, reduceMul, reduceSub, Try.td3]; (repeat refine And.intro (by first | omega | assumption | exact rfl) ?_); (first | refine hK0 _ ?_ | refine Or.inl (hK0 _ ?_)); clear hK0 K0; simp only [put, app, setAll, trOf, zE, zS, reduceAdd])
  refine rg_nil ?_
  refine hK2 _ ?_; clear hK2; refine awp_keep [0, 2, 3] ?_; simp only [keepEnv, lkp, zE, reduceCtorEq, reduceEqDiff, argEnv, reduceAdd]
  refine awp_seq_k fun K3 hK3 => ?_
  refine awp_seq_k fun K4 hK4 => ?_
  refine awp_reg hP hN rfl ?_
  iterate 3 (refine rg_step rfl fun K0 hK0 => ?_; simp only [zE, op1, ev, lkp, avOf, acOf, opCallAny, opMM, opLen, lenAC, lenOk, fpAC, Nat.div_one, opAppend, srcOf, Ty.size, datOf, dite_true, reduceCtorEq, reduceEqDiff, reduceAdd, reduceLeDiff, reduceLT, reduceMul, reduceSub, Try.el22, Try.td22, Try.td3]; (repeat refine And.intro (by first | omega | assumption | exact rfl) ?_); (first | refine hK0 _ ?_ | refine Or.inl (hK0 _ ?_)); clear hK0 K0; simp only [put, app, setAll, trOf, zE, zS, reduceAdd])
  refine rg_nil ?_
  refine hK4 _ ?_; clear hK4; refine awp_keep [0, 2, 3, 9, 10, 11] ?_; simp only [keepEnv, lkp, zE, reduceCtorEq, reduceEqDiff, argEnv, reduceAdd]
  refine awp_block ?_
  refine awp_loop (fun n5 s5 => ∃ (k : Nat), (k ≤ ls.length) ∧ n5 = ls.length - k ∧ s5 = { env := [(0, .one (.list (.list (.int .i64)) ls)), (3, .one (.int .i64 (((ls.take k).flatten.length : Nat) : Int))), (9, .one (.list (.list (.int .i64)) ls)), (10, .one (.int .i64 (ls.length : Int))), (11, .one (.int .i64 (k : Int)))], L := [] }) ?_ ?_
  · exact ⟨_, _, sub_keep [0, 3, 9, 10, 11], 0, Nat.zero_le _, rfl, rfl⟩
  · rintro n5 s5 ⟨k, hk, rfl, rfl⟩
    refine awp_seq_k fun K6 hK6 => ?_
    refine awp_reg hP hN rfl ?_
    (refine rg_step rfl fun K0 hK0 => ?_; simp only [zE, op1, ev, lkp, avOf, acOf, opBin, arith, inK_i64, eqACs, eqAC, reduceCtorEq, reduceEqDiff, reduceAdd, reduceLeDiff, reduceLT, reduceMul, reduceSub, Try.td3]; (repeat refine And.intro (by first | omega | assumption | exact rfl) ?_); (first | refine hK0 _ ?_ | refine Or.inl (hK0 _ ?_)); clear hK0 K0; simp only [put, app, setAll, trOf, zE, zS, reduceAdd])
    refine rg_nil ?_
    refine hK6 _ ?_; clear hK6; refine awp_keep [0, 3, 9, 10, 11, 12] ?_; simp only [keepEnv, lkp, zE, reduceCtorEq, reduceEqDiff, argEnv, reduceAdd]
    refine awp_seq_k fun K7 hK7 => ?_
    refine awp_cond (by simp only [ev, keepEnv, lkp, zE, reduceCtorEq, reduceEqDiff, argEnv, reduceAdd]; exact rfl) (fun hc8 => ?_) (fun hc8 => ?_)
    · (try simp only [zB, reduceCtorEq] at hc8)
      refine awp_skip ?_
      refine hK7 _ ?_; clear hK7; refine awp_keep [0, 3, 9, 10, 11, 12] ?_; simp only [keepEnv, lkp, zE, reduceCtorEq, reduceEqDiff, argEnv, reduceAdd]
      refine awp_seq_k fun K9 hK9 => ?_
      refine awp_block ?_
      refine awp_seq_k fun K10 hK10 => ?_
      refine awp_reg hP hN rfl ?_
      iterate 3 (refine rg_step rfl fun K0 hK0 => ?_; simp only [zE, op1, ev, lkp, avOf, acOf, opIndexAddr, zG, Ty.dflt, Ty.size, Nat.mul_one, ne_eq, not_false_eq_true, Int.natCast_one, Int.mul_one, opLoad, readAC, isAggK, acs, cellsAt, reduceCtorEq, reduceEqDiff, reduceAdd, reduceLeDiff, reduceLT, reduceMul, reduceSub, Try.el22, Try.el33, Try.td22, Try.td33]; (repeat refine And.intro (by first | omega | assumption | exact rfl) ?_); (first | refine hK0 _ ?_ | refine Or.inl (hK0 _ ?_)); clear hK0 K0; simp only [put, app, setAll, trOf, zE, zS, reduceAdd])
      refine rg_nil ?_
      refine hK10 _ ?_; clear hK10; refine awp_keep [0, 3, 5, 9, 10, 11, 12] ?_; simp only [keepEnv, lkp, zE, reduceCtorEq, reduceEqDiff, argEnv, reduceAdd]
      refine awp_seq_k fun K11 hK11 => ?_
      have hfl := flat_take_le ls (k + 1); have hfe : (ls.take (k + 1)).flatten.length = (ls.take k).flatten.length + (ls.getD k []).length := by rw [flat_take_succ ls (by omega), List.length_append]
      refine awp_reg hP hN rfl ?_
      iterate 5 (refine rg_step rfl fun K0 hK0 => ?_; simp only [zE, op1, ev, lkp, avOf, acOf, opCallAny, opMM, opLen, lenAC, lenOk, fpAC, Nat.div_one, opAppend, srcOf, Ty.size, datOf, dite_true, opBin, arith, inK_i64, eqACs, eqAC, reduceCtorEq, reduceEqDiff, reduceAdd, reduceLeDiff, reduceLT, reduceMul, reduceSub, Try.el33, Try.td3, Try.td33]; (repeat refine And.intro (by first | omega | assumption | exact rfl) ?_); (first | refine hK0 _ ?_ | refine Or.inl (hK0 _ ?_)); clear hK0 K0; simp only [put, app, setAll, trOf, zE, zS, reduceAdd])
      refine rg_nil ?_
      refine hK11 _ ?_; clear hK11; refine awp_keep [0, 3, 5, 9, 10, 11, 12] ?_; simp only [keepEnv, lkp, zE, reduceCtorEq, reduceEqDiff, argEnv, reduceAdd]
      refine awp_seq_k fun K12 hK12 => ?_
      refine awp_reg hP hN rfl ?_
      iterate 2 (refine rg_step rfl fun K0 hK0 => ?_; simp only [zE, op1, ev, lkp, avOf, acOf, opBin, arith, inK_i64, eqACs, eqAC, reduceCtorEq, reduceEqDiff, reduceAdd, reduceLeDiff, reduceLT, reduceMul, reduceSub, Try.td3, Try.td4]; (repeat refine And.intro (by first | omega | assumption | exact rfl) ?_); (first | refine hK0 _ ?_ | refine Or.inl (hK0 _ ?_)); clear hK0 K0; simp only [put, app, setAll, trOf, zE, zS, reduceAdd])
      refine rg_nil ?_
      refine hK12 _ ?_; clear hK12; refine awp_keep [0, 3, 5, 9, 10, 11, 12, 20] ?_; simp only [keepEnv, lkp, zE, reduceCtorEq, reduceEqDiff, argEnv, reduceAdd]
      refine awp_cond (by simp only [ev, keepEnv, lkp, zE, reduceCtorEq, reduceEqDiff, argEnv, reduceAdd]; exact rfl) (fun hc13 => ?_) (fun hc13 => ?_)
      · exfalso; (try simp only [zB, reduceCtorEq] at hc13); all_goals (first | (cases hc13; done) | omega | (simp at hc13; done) | (simp_all; done))
      · (try simp only [zB, reduceCtorEq] at hc13)
        refine awp_skip ?_
        refine hK9 _ ?_; clear hK9; refine awp_keep [0, 3, 5, 9, 10, 11, 12, 20] ?_; simp only [keepEnv, lkp, zE, reduceCtorEq, reduceEqDiff, argEnv, reduceAdd]
        refine awp_reg hP hN rfl ?_
        iterate 2 (refine rg_step rfl fun K0 hK0 => ?_; simp only [zE, op1, ev, lkp, avOf, acOf, opBin, arith, inK_i64, eqACs, eqAC, reduceCtorEq, reduceEqDiff, reduceAdd, reduceLeDiff, reduceLT, reduceMul, reduceSub, Try.td3]; (repeat refine And.intro (by first | omega | assumption | exact rfl) ?_); (first | refine hK0 _ ?_ | refine Or.inl (hK0 _ ?_)); clear hK0 K0; simp only [put, app, setAll, trOf, zE, zS, reduceAdd])
        refine rg_nil ?_
        refine ⟨_, _, ?_, sub_keep [0, 3, 9, 10, 11], k + 1, by omega, rfl, ?_⟩
        · omega
        · rw [hfe]; simp only [Int.natCast_add]; rfl
    · (try simp only [zB, reduceCtorEq] at hc8)
      refine awp_exit ?_
      refine hK3 _ ?_; clear hK3; refine awp_keep [0, 3, 9, 10, 11, 12] ?_; simp only [keepEnv, lkp, zE, reduceCtorEq, reduceEqDiff, argEnv, reduceAdd]
      refine awp_seq_k fun K14 hK14 => ?_
      have hfl := flat_take_le ls k
      refine awp_reg hP hN rfl ?_
      (refine rg_step rfl fun K0 hK0 => ?_; simp only [zE, op1, ev, lkp, avOf, acOf, ev, reduceCtorEq, reduceEqDiff, reduceAdd, reduceLeDiff, reduceLT, reduceMul, reduceSub, Try.td3]; (repeat refine And.intro (by first | omega | assumption | exact rfl) ?_); (first | refine hK0 _ ?_ | refine Or.inl (hK0 _ ?_)); clear hK0 K0; simp only [put, app, setAll, trOf, zE, zS, reduceAdd])
      refine rg_step rfl fun K0 hK0 => ?_
      refine op_call (h := call_owns (grow_c (((ls.take k).flatten.length : Nat) : Int) (by omega) (by omega))) rfl rfl (by first | exact rfl | (simp only [ev, keepEnv, lkp, zE, reduceCtorEq, reduceEqDiff, argEnv, reduceAdd]; exact rfl)) (by simp only [zE, zG, op1, ev, lkp, avOf, acOf, cellsAV, acs, capAV, mv1, mvC, Ty.dflt, reduceCtorEq, reduceEqDiff, reduceAdd, reduceLeDiff, reduceLT, reduceMul, reduceSub]) ?_
      refine hK0 _ ?_; clear hK0 K0; simp only [put, app, setAll, trOf, zE, zS, reduceAdd]
      (refine rg_step rfl fun K0 hK0 => ?_; simp only [zE, op1, ev, lkp, avOf, acOf, ev, reduceCtorEq, reduceEqDiff, reduceAdd, reduceLeDiff, reduceLT, reduceMul, reduceSub, Try.el33, Try.td33]; (repeat refine And.intro (by first | omega | assumption | exact rfl) ?_); (first | refine hK0 _ ?_ | refine Or.inl (hK0 _ ?_)); clear hK0 K0; simp only [put, app, setAll, trOf, zE, zS, reduceAdd])
      refine rg_nil ?_
      refine hK14 _ ?_; clear hK14; refine awp_keep [0, 3, 6, 9, 10, 11, 12] ?_; simp only [keepEnv, lkp, zE, reduceCtorEq, reduceEqDiff, argEnv, reduceAdd]
      refine awp_seq_k fun K15 hK15 => ?_
      refine awp_seq_k fun K16 hK16 => ?_
      refine awp_reg hP hN rfl ?_
      iterate 3 (refine rg_step rfl fun K0 hK0 => ?_; simp only [zE, op1, ev, lkp, avOf, acOf, opCallAny, opMM, opLen, lenAC, lenOk, fpAC, Nat.div_one, opAppend, srcOf, Ty.size, datOf, dite_true, reduceCtorEq, reduceEqDiff, reduceAdd, reduceLeDiff, reduceLT, reduceMul, reduceSub, Try.el22, Try.td22, Try.td3]; (repeat refine And.intro (by first | omega | assumption | exact rfl) ?_); (first | refine hK0 _ ?_ | refine Or.inl (hK0 _ ?_)); clear hK0 K0; simp only [put, app, setAll, trOf, zE, zS, reduceAdd])
      refine rg_nil ?_
      refine hK16 _ ?_; clear hK16; refine awp_keep [0, 3, 6, 9, 10, 11, 12, 25, 26, 27] ?_; simp only [keepEnv, lkp, zE, reduceCtorEq, reduceEqDiff, argEnv, reduceAdd]
      refine awp_block ?_
      refine awp_loop (fun n17 s17 => ∃ (k : Nat) (v : Nat), (k ≤ ls.length) ∧ n17 = ls.length - k ∧ s17 = { env := [(6, .one (.row 0 v)), (25, .one (.list (.list (.int .i64)) ls)), (26, .one (.int .i64 (ls.length : Int))), (27, .one (.int .i64 (k : Int)))], L := [.row (.int .i64) 3 v (ls.take k).flatten] }) ?_ ?_
      · exact ⟨_, _, sub_keep [6, 25, 26, 27], 0, 0, Nat.zero_le _, rfl, rfl⟩
      · rintro n17 s17 ⟨k, v, hk, rfl, rfl⟩
        refine awp_seq_k fun K18 hK18 => ?_
        refine awp_reg hP hN rfl ?_
        (refine rg_step rfl fun K0 hK0 => ?_; simp only [zE, op1, ev, lkp, avOf, acOf, opBin, arith, inK_i64, eqACs, eqAC, reduceCtorEq, reduceEqDiff, reduceAdd, reduceLeDiff, reduceLT, reduceMul, reduceSub, Try.td3]; (repeat refine And.intro (by first | omega | assumption | exact rfl) ?_); (first | refine hK0 _ ?_ | refine Or.inl (hK0 _ ?_)); clear hK0 K0; simp only [put, app, setAll, trOf, zE, zS, reduceAdd])
        refine rg_nil ?_
        refine hK18 _ ?_; clear hK18; refine awp_keep [6, 25, 26, 27, 28] ?_; simp only [keepEnv, lkp, zE, reduceCtorEq, reduceEqDiff, argEnv, reduceAdd]
        refine awp_seq_k fun K19 hK19 => ?_
        refine awp_cond (by simp only [ev, keepEnv, lkp, zE, reduceCtorEq, reduceEqDiff, argEnv, reduceAdd]; exact rfl) (fun hc20 => ?_) (fun hc20 => ?_)
        · (try simp only [zB, reduceCtorEq] at hc20)
          refine awp_skip ?_
          refine hK19 _ ?_; clear hK19; refine awp_keep [6, 25, 26, 27, 28] ?_; simp only [keepEnv, lkp, zE, reduceCtorEq, reduceEqDiff, argEnv, reduceAdd]
          refine awp_seq_k fun K21 hK21 => ?_
          refine awp_block ?_
          refine awp_seq_k fun K22 hK22 => ?_
          refine awp_reg hP hN rfl ?_
          iterate 3 (refine rg_step rfl fun K0 hK0 => ?_; simp only [zE, op1, ev, lkp, avOf, acOf, opIndexAddr, zG, Ty.dflt, Ty.size, Nat.mul_one, ne_eq, not_false_eq_true, Int.natCast_one, Int.mul_one, opLoad, readAC, isAggK, acs, cellsAt, reduceCtorEq, reduceEqDiff, reduceAdd, reduceLeDiff, reduceLT, reduceMul, reduceSub, Try.el22, Try.el33, Try.td22, Try.td33]; (repeat refine And.intro (by first | omega | assumption | exact rfl) ?_); (first | refine hK0 _ ?_ | refine Or.inl (hK0 _ ?_)); clear hK0 K0; simp only [put, app, setAll, trOf, zE, zS, reduceAdd])
          refine rg_nil ?_
          refine hK22 _ ?_; clear hK22; refine awp_keep [6, 8, 25, 26, 27, 28] ?_; simp only [keepEnv, lkp, zE, reduceCtorEq, reduceEqDiff, argEnv, reduceAdd]
          have hfl := flat_take_le ls (k + 1); have hfe : (ls.take (k + 1)).flatten.length = (ls.take k).flatten.length + (ls.getD k []).length := by rw [flat_take_succ ls (by omega), List.length_append]
          refine awp_reg hP hN rfl ?_
          iterate 4 (refine rg_step rfl fun K0 hK0 => ?_; simp only [zE, op1, ev, lkp, avOf, acOf, opCallAny, opMM, opLen, lenAC, lenOk, fpAC, Nat.div_one, opAppend, srcOf, Ty.size, datOf, dite_true, reduceCtorEq, reduceEqDiff, reduceAdd, reduceLeDiff, reduceLT, reduceMul, reduceSub, Try.el33, Try.td33]; (repeat refine And.intro (by first | omega | assumption | exact rfl) ?_); (first | refine hK0 _ ?_ | refine Or.inl (hK0 _ ?_)); clear hK0 K0; simp only [put, app, setAll, trOf, zE, zS, reduceAdd])
          refine rg_nil ?_
          refine hK21 _ ?_; clear hK21; refine awp_keep [6, 8, 25, 26, 27, 28] ?_; simp only [keepEnv, lkp, zE, reduceCtorEq, reduceEqDiff, argEnv, reduceAdd]
          refine awp_reg hP hN rfl ?_
          iterate 2 (refine rg_step rfl fun K0 hK0 => ?_; simp only [zE, op1, ev, lkp, avOf, acOf, opBin, arith, inK_i64, eqACs, eqAC, reduceCtorEq, reduceEqDiff, reduceAdd, reduceLeDiff, reduceLT, reduceMul, reduceSub, Try.td3]; (repeat refine And.intro (by first | omega | assumption | exact rfl) ?_); (first | refine hK0 _ ?_ | refine Or.inl (hK0 _ ?_)); clear hK0 K0; simp only [put, app, setAll, trOf, zE, zS, reduceAdd])
          refine rg_nil ?_
          refine ⟨_, _, ?_, sub_keep [6, 25, 26, 27], k + 1, v + 1, by omega, rfl, ?_⟩
          · omega
          · rw [flat_take_succ ls (by omega)]; rfl
        · (try simp only [zB, reduceCtorEq] at hc20)
          refine awp_exit ?_
          refine hK15 _ ?_; clear hK15; refine awp_keep [6, 25, 26, 27, 28] ?_; simp only [keepEnv, lkp, zE, reduceCtorEq, reduceEqDiff, argEnv, reduceAdd]
          refine awp_seq_k fun K23 hK23 => ?_
          refine awp_reg hP hN rfl ?_
          iterate 2 (refine rg_step rfl fun K0 hK0 => ?_; simp only [zE, op1, ev, lkp, avOf, acOf, ev, reduceCtorEq, reduceEqDiff, reduceAdd, reduceLeDiff, reduceLT, reduceMul, reduceSub, Try.el33, Try.td33]; (repeat refine And.intro (by first | omega | assumption | exact rfl) ?_); (first | refine hK0 _ ?_ | refine Or.inl (hK0 _ ?_)); clear hK0 K0; simp only [put, app, setAll, trOf, zE, zS, reduceAdd])
          refine rg_nil ?_
          refine hK23 _ ?_; clear hK23; refine awp_keep [2, 6, 25, 26, 27, 28] ?_; simp only [keepEnv, lkp, zE, reduceCtorEq, reduceEqDiff, argEnv, reduceAdd]
          refine awp_ret ?_
          refine ⟨by first | exact .inl rfl | exact .inr rfl, _, rfl, ?_⟩; simp only [fzV, fz1, fzC, List.map_cons, List.map_nil, keepEnv, lkp, zE, reduceCtorEq, reduceEqDiff, argEnv, reduceAdd]
          refine VLE.of_eq ?_
          have htk : ls.take k = ls := by rw [show k = ls.length by omega, List.take_length]
          rw [htk]
end Go.Proofs.Ytfbnhgefkdhiaaa
namespace Go.Proofs.Ytfbnhgefkdhiaaa
open Go Go.AV
open Nat (reduceEqDiff reduceAdd reduceLeDiff reduceLT reduceMul reduceSub)
open List (set_cons_zero set_cons_succ)
set_option maxRecDepth 100000 in
theorem wjoin_c (ls : List (List Int)) (hb : ls.flatten.length ≤ 1000000) : PURE Try.prog 73 [.one (.list (.list (.int .i64)) ls)] (.one (.list (.int .i64) ls.flatten)) := by
  refine pure_of_le Try.func73 rfl (by kernel_rfl) (Nat.le_of_ble_eq_true rfl) rfl fun C hP hN hB => ?_
  replace hN : C.N = 5 := hN
  simp only [argEnv, reduceAdd]
  refine awp_seq_k fun K1 hK1 => ?_
  refine awp_reg hP hN rfl ?_
  (refine rg_step rfl fun K0 hK0 => ?_; simp only [zE, op1, ev, lkp, avOf, acOf, ev, reduceCtorEq, reduceEqDiff, reduceAdd, reduceLeDiff, reduceLT, reduceMul, reduceSub, Try.el33, Try.td33]; (repeat refine And.intro (by first | omega | assumption | exact rfl) ?_); (first | refine hK0 _ ?_ | refine Or.inl (hK0 _ ?_)); clear hK0 K0; simp only [put, app, setAll, trOf, zE, zS, reduceAdd])
  refine rg_nil ?_
  refine hK1 _ ?_; clear hK1; refine awp_keep [0, 2] ?_; simp only [keepEnv, lkp, zE, reduceCtorEq, reduceEqDiff, argEnv, reduceAdd]
  refine awp_seq_k fun K2 hK2 => ?_
  refine awp_reg hP hN rfl ?_
  (refine rg_step rfl fun K0 hK0 => ?_; simp only [zE, op1, ev, lkp, avOf, acOf, ev, reduceCtorEq, reduceEqDiff, reduceAdd, reduceLeDiff, reduceLT, reduceMul, reduceSub, Try.el22, Try.td22]; (repeat refine And.intro (by first | omega | assumption | exact rfl) ?_); (first | refine hK0 _ ?_ | refine Or.inl (hK0 _ ?_)); clear hK0 K0; simp only [put, app, setAll, trOf, zE, zS, reduceAdd])
  refine rg_step rfl fun K0 hK0 => ?_
  refine op_call (h := call_of_pure (concat_c ls hb)) rfl rfl (by first | exact rfl | (simp only [ev, keepEnv, lkp, zE, reduceCtorEq, reduceEqDiff, argEnv, reduceAdd]; exact rfl)) (by simp only [zE, zG, op1, ev, lkp, avOf, acOf, cellsAV, acs, capAV, mv1, mvC, Ty.dflt, reduceCtorEq, reduceEqDiff, reduceAdd, reduceLeDiff, reduceLT, reduceMul, reduceSub]) ?_
  refine hK0 _ ?_; clear hK0 K0; simp only [put, app, setAll, trOf, zE, zS, reduceAdd]
  (refine rg_step rfl fun K0 hK0 => ?_; simp only [zE, op1, ev, lkp, avOf, acOf, ev, reduceCtorEq, reduceEqDiff, reduceAdd, reduceLeDiff, reduceLT, reduceMul, reduceSub, Try.el33, Try.td33]; (repeat refine And.intro (by first | omega | assumption | exact rfl) ?_); (first | refine hK0 _ ?_ | refine Or.inl (hK0 _ ?_)); clear hK0 K0; simp only [put, app, setAll, trOf, zE, zS, reduceAdd])
  refine rg_nil ?_
  refine hK2 _ ?_; clear hK2; refine awp_keep [0, 2] ?_; simp only [keepEnv, lkp, zE, reduceCtorEq, reduceEqDiff, argEnv, reduceAdd]
  refine awp_ret ?_
  refine ⟨by first | exact .inl rfl | exact .inr rfl, _, rfl, ?_⟩; simp only [fzV, fz1, fzC, List.map_cons, List.map_nil, keepEnv, lkp, zE, reduceCtorEq, reduceEqDiff, argEnv, reduceAdd]
  refine VLE.of_eq ?_
  rfl
end Go.Proofs.Ytfbnhgefkdhiaaa
namespace Go.AV
open Nat (reduceEqDiff reduceAdd reduceLeDiff reduceLT reduceMul reduceSub)
open List (set_cons_zero set_cons_succ)
/-plain-/
theorem writeAC_one {cs : List AC} {off : Nat} {c : AC} (h : off < cs.length) : writeAC cs off [c] = cs.set off c := by
  unfold writeAC
  rw [List.set_eq_take_append_cons_drop, if_pos h]
  simp
end Go.AV
namespace Go.Proofs.Ytfbnhgefkdhiaaa
open Go Go.AV
open Nat (reduceEqDiff reduceAdd reduceLeDiff reduceLT reduceMul reduceSub)
open List (set_cons_zero set_cons_succ)
set_option maxRecDepth 100000 in
set_option maxHeartbeats 1000000 in
theorem search_c (a b : Mly) (s t : Int) (ha : MOK a) (hb : MOK b) (hi : a.inp = b.inp) (hs : 0 ≤ s ∧ s < a.nx.length) (ht : 0 ≤ t ∧ t < b.nx.length) : PURE Try.prog 64 [a.av, b.av, .agg [.int .i64 s, .int .i64 t]] (.tup [.one (.list (.int .i64) ((seS a b s t).getD [])), .one (.bool (seS a b s t).isSome)]) := by
  have hai1 := ha.i1; have hai2 := ha.i2; have han2 := ha.n2; have hbn2 := hb.n2; have hao := ha.ol; have hbo := hb.ol; have hfu : fuS a b = a.nx.length * b.nx.length + 1 := rfl
  refine pure_of_le Try.func64 rfl (by kernel_rfl) (Nat.le_of_ble_eq_true rfl) rfl fun C hP hN hB => ?_
  replace hN : C.N = 144 := hN
  simp only [argEnv, reduceAdd]
  refine awp_seq_k fun K1 hK1 => ?_
  refine awp_reg hP hN rfl ?_
  iterate 5 (refine rg_step rfl fun K0 hK0 => ?_; simp only [zE, op1, ev, lkp, avOf, acOf, opBox, cellsAV, reduceCtorEq, reduceEqDiff, reduceAdd, reduceLeDiff, reduceLT, reduceMul, reduceSub, Try.el33, Try.fl88, Try.st24, Try.st88, Try.td24, Try.td33, Try.td4, Try.td88, Mly.av, List.length_map, gRows_len, gRows_nth, gRows_nth1, gRows_nth2, List.length_append, gcs_len, rep_one, List.length_replicate, List.getD_cons_zero]; (repeat refine And.intro (by first | omega | assumption | exact rfl) ?_); (first | refine hK0 _ ?_ | refine Or.inl (hK0 _ ?_)); clear hK0 K0; simp only [put, app, setAll, trOf, zE, zS, reduceAdd, List.append_assoc, gRows_setn, gRows_setn1, gRows_setn2])
  refine rg_nil ?_
  refine hK1 _ ?_; clear hK1; refine awp_keep [0, 1, 2, 3, 4, 5, 6, 7] ?_; simp only [keepEnv, lkp, zE, reduceCtorEq, reduceEqDiff, argEnv, reduceAdd]
  refine awp_seq_k fun K2 hK2 => ?_
  refine awp_reg hP hN rfl ?_
  iterate 3 (refine rg_step rfl fun K0 hK0 => ?_; simp only [zE, op1, ev, lkp, avOf, acOf, opFieldAddr, opLoad, Nat.mul_one, readAC, isAggK, acs, Ty.dflt, zG, cellsAt, opCallAny, opMM, opLen, lenAC, lenOk, fpAC, Nat.div_one, opAppend, srcOf, Ty.size, datOf, dite_true, reduceCtorEq, reduceEqDiff, reduceAdd, reduceLeDiff, reduceLT, reduceMul, reduceSub, Try.el22, Try.st24, Try.td2, Try.td22, Try.td24, Try.td3, Mly.av, List.length_map, gRows_len, gRows_nth, gRows_nth1, gRows_nth2, List.length_append, gcs_len, rep_one, List.length_replicate, List.getD_cons_zero]; (repeat refine And.intro (by first | omega | assumption | exact rfl) ?_); (first | refine hK0 _ ?_ | refine Or.inl (hK0 _ ?_)); clear hK0 K0; simp only [put, app, setAll, trOf, zE, zS, reduceAdd, List.append_assoc, gRows_setn, gRows_setn1, gRows_setn2])
  (refine rg_step rfl fun K0 hK0 => ?_; simp only [zE, op1, ev, lkp, avOf, acOf, opMakeSlice, datOf, Ty.size, Ty.dflt, reduceCtorEq, reduceEqDiff, reduceAdd, reduceLeDiff, reduceLT, reduceMul, reduceSub, Try.el99, Try.td99, Mly.av, List.length_map, gRows_len, gRows_nth, gRows_nth1, gRows_nth2, List.length_append, gcs_len, rep_one, List.length_replicate, List.getD_cons_zero]; (repeat refine And.intro (by first | omega | assumption | exact rfl) ?_); refine Or.inr (Or.inl (hK0 _ ?_)); clear hK0 K0; simp only [put, app, setAll, trOf, zE, zS, reduceAdd, List.append_assoc, gRows_setn, gRows_setn1, gRows_setn2])
  (refine rg_step rfl fun K0 hK0 => ?_; simp only [zE, op1, ev, lkp, avOf, acOf, ev, reduceCtorEq, reduceEqDiff, reduceAdd, reduceLeDiff, reduceLT, reduceMul, reduceSub, Try.el99, Try.td99, Mly.av, List.length_map, gRows_len, gRows_nth, gRows_nth1, gRows_nth2, List.length_append, gcs_len, rep_one, List.length_replicate, List.getD_cons_zero]; (repeat refine And.intro (by first | omega | assumption | exact rfl) ?_); (first | refine hK0 _ ?_ | refine Or.inl (hK0 _ ?_)); clear hK0 K0; simp only [put, app, setAll, trOf, zE, zS, reduceAdd, List.append_assoc, gRows_setn, gRows_setn1, gRows_setn2])
  refine rg_nil ?_
  refine hK2 _ ?_; clear hK2; refine awp_keep [0, 1, 2, 3, 4, 5, 6, 7, 8] ?_; simp only [keepEnv, lkp, zE, reduceCtorEq, reduceEqDiff, argEnv, reduceAdd]
  refine awp_seq_k fun K3 hK3 => ?_
  refine awp_seq_k fun K4 hK4 => ?_
  refine awp_reg hP hN rfl ?_
  iterate 3 (refine rg_step rfl fun K0 hK0 => ?_; simp only [zE, op1, ev, lkp, avOf, acOf, opCallAny, opMM, opLen, lenAC, lenOk, fpAC, Nat.div_one, opAppend, srcOf, Ty.size, datOf, dite_true, reduceCtorEq, reduceEqDiff, reduceAdd, reduceLeDiff, reduceLT, reduceMul, reduceSub, Try.el99, Try.td3, Try.td99, Mly.av, List.length_map, gRows_len, gRows_nth, gRows_nth1, gRows_nth2, List.length_append, gcs_len, rep_one, List.length_replicate, List.getD_cons_zero]; (repeat refine And.intro (by first | omega | assumption | exact rfl) ?_); (first | refine hK0 _ ?_ | refine Or.inl (hK0 _ ?_)); clear hK0 K0; simp only [put, app, setAll, trOf, zE, zS, reduceAdd, List.append_assoc, gRows_setn, gRows_setn1, gRows_setn2])
  refine rg_nil ?_
  refine hK4 _ ?_; clear hK4; refine awp_keep [0, 1, 2, 3, 4, 5, 6, 7, 8, 20, 21] ?_; simp only [keepEnv, lkp, zE, reduceCtorEq, reduceEqDiff, argEnv, reduceAdd]
  refine awp_block ?_
  refine awp_loop (fun n5 s5 => ∃ (k : Nat), (k ≤ a.nx.length) ∧ n5 = a.nx.length - k ∧ s5 = { env := [(3, .one (.ptr 0 0 0 0)), (4, .one (.ptr 1 0 0 0)), (5, .one (.ptr 2 0 0 0)), (8, .one (.rwc 3 0)), (20, .one (.int .i64 (a.nx.length : Int))), (21, .one (.int .i64 (k : Int)))], L := .vars 24 [.int .i64 a.inp, .int .i64 a.st, .list (.list (.int .i64)) a.nx, .list (.list (.int .i64)) a.ot] :: .vars 24 [.int .i64 b.inp, .int .i64 b.st, .list (.list (.int .i64)) b.nx, .list (.list (.int .i64)) b.ot] :: .vars 88 [.int .i64 s, .int .i64 t] :: .rowc 64 1 0 (setF (fun i => AC.row (i + 1 + 1 + 1 + 1) 0) .nils a.nx.length k) :: gRows 4 (fun _ => List.replicate b.nx.length false) k }) ?_ ?_
  · refine ⟨_, _, sub_keep [3, 4, 5, 8, 20, 21], 0, Nat.zero_le _, rfl, ?_⟩
    rw [setF_zero, ← rep_one]; rfl
  · rintro n5 s5 ⟨k, hk, rfl, rfl⟩
    refine awp_seq_k fun K6 hK6 => ?_
    refine awp_reg hP hN rfl ?_
    (refine rg_step rfl fun K0 hK0 => ?_; simp only [zE, op1, ev, lkp, avOf, acOf, opBin, arith, inK_i64, eqACs, eqAC, reduceCtorEq, reduceEqDiff, reduceAdd, reduceLeDiff, reduceLT, reduceMul, reduceSub, Try.td3, Mly.av, List.length_map, gRows_len, gRows_nth, gRows_nth1, gRows_nth2, List.length_append, gcs_len, rep_one, List.length_replicate, List.getD_cons_zero]; (repeat refine And.intro (by first | omega | assumption | exact rfl) ?_); (first | refine hK0 _ ?_ | refine Or.inl (hK0 _ ?_)); clear hK0 K0; simp only [put, app, setAll, trOf, zE, zS, reduceAdd, List.append_assoc, gRows_setn, gRows_setn1, gRows_setn2])
    refine rg_nil ?_
    refine hK6 _ ?_; clear hK6; refine awp_keep [3, 4, 5, 8, 20, 21, 22] ?_; simp only [keepEnv, lkp, zE, reduceCtorEq, reduceEqDiff, argEnv, reduceAdd]
    refine awp_seq_k fun K7 hK7 => ?_
    refine awp_cond (by simp only [ev, keepEnv, lkp, zE, reduceCtorEq, reduceEqDiff, argEnv, reduceAdd]; exact rfl) (fun hc8 => ?_) (fun hc8 => ?_)
    · (try simp only [zB, reduceCtorEq] at hc8)
      refine awp_skip ?_
      refine hK7 _ ?_; clear hK7; refine awp_keep [3, 4, 5, 8, 20, 21, 22] ?_; simp only [keepEnv, lkp, zE, reduceCtorEq, reduceEqDiff, argEnv, reduceAdd]
      refine awp_seq_k fun K9 hK9 => ?_
      refine awp_block ?_
      refine awp_seq_k fun K10 hK10 => ?_
      refine awp_reg hP hN rfl ?_
      iterate 2 (refine rg_step rfl fun K0 hK0 => ?_; simp only [zE, op1, ev, lkp, avOf, acOf, ev, reduceCtorEq, reduceEqDiff, reduceAdd, reduceLeDiff, reduceLT, reduceMul, reduceSub, Try.td3, Mly.av, List.length_map, gRows_len, gRows_nth, gRows_nth1, gRows_nth2, List.length_append, gcs_len, rep_one, List.length_replicate, List.getD_cons_zero]; (repeat refine And.intro (by first | omega | assumption | exact rfl) ?_); (first | refine hK0 _ ?_ | refine Or.inl (hK0 _ ?_)); clear hK0 K0; simp only [put, app, setAll, trOf, zE, zS, reduceAdd, List.append_assoc, gRows_setn, gRows_setn1, gRows_setn2])
      refine rg_nil ?_
      refine hK10 _ ?_; clear hK10; refine awp_keep [3, 4, 5, 8, 9, 20, 21, 22] ?_; simp only [keepEnv, lkp, zE, reduceCtorEq, reduceEqDiff, argEnv, reduceAdd]
      have hsf := setF_len (fun i => AC.row (i + 1 + 1 + 1 + 1) 0) .nils (n := a.nx.length) (k := k) (by omega); have hw : ∀ c, writeAC (setF (fun i => AC.row (i + 1 + 1 + 1 + 1) 0) .nils a.nx.length k) k [c] = (setF (fun i => AC.row (i + 1 + 1 + 1 + 1) 0) .nils a.nx.length k).set k c := fun c => writeAC_one (by omega)
      refine awp_reg hP hN rfl ?_
      iterate 8 (refine rg_step rfl fun K0 hK0 => ?_; simp only [zE, op1, ev, lkp, avOf, acOf, opFieldAddr, opLoad, Nat.mul_one, readAC, isAggK, acs, Ty.dflt, zG, cellsAt, opCallAny, opMM, opLen, lenAC, lenOk, fpAC, Nat.div_one, opAppend, srcOf, Ty.size, datOf, dite_true, opMakeSlice, opIndexAddr, ne_eq, not_false_eq_true, Int.natCast_one, Int.mul_one, opStore, cellsAV, reduceCtorEq, reduceEqDiff, reduceAdd, reduceLeDiff, reduceLT, reduceMul, reduceSub, Try.el22, Try.el64, Try.el99, Try.st24, Try.td2, Try.td22, Try.td24, Try.td3, Try.td64, Try.td99, Mly.av, List.length_map, gRows_len, gRows_nth, gRows_nth1, gRows_nth2, List.length_append, gcs_len, rep_one, List.length_replicate, List.getD_cons_zero, hsf, hw]; (repeat refine And.intro (by first | omega | assumption | exact rfl) ?_); (first | refine hK0 _ ?_ | refine Or.inl (hK0 _ ?_)); clear hK0 K0; simp only [put, app, setAll, trOf, zE, zS, reduceAdd, List.append_assoc, gRows_setn, gRows_setn1, gRows_setn2])
      refine rg_nil ?_
      refine hK9 _ ?_; clear hK9; refine awp_keep [3, 4, 5, 8, 9, 20, 21, 22] ?_; simp only [keepEnv, lkp, zE, reduceCtorEq, reduceEqDiff, argEnv, reduceAdd]
      refine awp_reg hP hN rfl ?_
      iterate 2 (refine rg_step rfl fun K0 hK0 => ?_; simp only [zE, op1, ev, lkp, avOf, acOf, opBin, arith, inK_i64, eqACs, eqAC, reduceCtorEq, reduceEqDiff, reduceAdd, reduceLeDiff, reduceLT, reduceMul, reduceSub, Try.td3, Mly.av, List.length_map, gRows_len, gRows_nth, gRows_nth1, gRows_nth2, List.length_append, gcs_len, rep_one, List.length_replicate, List.getD_cons_zero]; (repeat refine And.intro (by first | omega | assumption | exact rfl) ?_); (first | refine hK0 _ ?_ | refine Or.inl (hK0 _ ?_)); clear hK0 K0; simp only [put, app, setAll, trOf, zE, zS, reduceAdd, List.append_assoc, gRows_setn, gRows_setn1, gRows_setn2])
      refine rg_nil ?_
      refine ⟨_, _, ?_, sub_keep [3, 4, 5, 8, 20, 21], k + 1, by omega, rfl, ?_⟩
      · omega
      · rw [← setF_set _ _ (by omega), gRows_succ]; rfl
    · (try simp only [zB, reduceCtorEq] at hc8)
      refine awp_exit ?_
      refine hK3 _ ?_; clear hK3; refine awp_keep [3, 4, 5, 8, 20, 21, 22] ?_; simp only [keepEnv, lkp, zE, reduceCtorEq, reduceEqDiff, argEnv, reduceAdd]
      refine awp_seq_k fun K11 hK11 => ?_
      have hkn : k = a.nx.length := by omega
      subst hkn
      rw [setF_all]
      have hg0 := gcs_get (n := a.nx.length) (i := s.toNat) (by omega); have hr0 := gRows_get' (e := 4) (f := fun _ => List.replicate b.nx.length false) (n := a.nx.length) (i := s.toNat) (by omega)
      have hst : (gRows 4 (fun _ => List.replicate b.nx.length false) a.nx.length).set s.toNat (.row .bool 4 0 ((List.replicate b.nx.length false).set t.toNat true)) = gRows 4 (snS [(s, t, [])] b.nx.length) a.nx.length := gRows_seti' (by omega) (by rw [snS_nil b.nx.length s.toNat]; exact snS_set (l := []) hs.1 ht) (fun j hj hne => by rw [snS_nil b.nx.length j]; exact snS_other (l := []) hs.1 hne)
      rw [show (List.range a.nx.length).map (fun i => AC.row (i + 1 + 1 + 1 + 1) 0) = gcs a.nx.length from rfl]
      refine awp_drw hP hN Try.mixed rfl ?_
      iterate 9 (refine rg_step rfl fun K0 hK0 => ?_; simp only [zE, op1, ev, lkp, avOf, acOf, opFieldAddr, opLoad, Nat.mul_one, readAC, isAggK, acs, Ty.dflt, zG, cellsAt, opIndexAddr, Ty.size, ne_eq, not_false_eq_true, Int.natCast_one, Int.mul_one, opStore, cellsAV, writeAC, datOf, reduceCtorEq, reduceEqDiff, reduceAdd, reduceLeDiff, reduceLT, reduceMul, reduceSub, Try.el64, Try.el99, Try.fl88, Try.st88, Try.td1, Try.td3, Try.td4, Try.td64, Try.td88, Try.td99, Mly.av, List.length_map, gRows_len, gRows_nth, gRows_nth1, gRows_nth2, List.length_append, gcs_len, rep_one, List.length_replicate, List.getD_cons_zero, hg0, hr0, List.length_replicate]; (repeat refine And.intro (by first | omega | assumption | exact rfl) ?_); (first | refine hK0 _ ?_ | refine Or.inl (hK0 _ ?_)); clear hK0 K0; simp only [put, app, setAll, trOf, zE, zS, reduceAdd, List.append_assoc, gRows_setn, gRows_setn1, gRows_setn2, hst])
      refine rg_nil ?_
      refine ⟨by kernel_rfl, ?_⟩
      refine hK11 _ ?_; clear hK11; refine awp_keep [3, 4, 5, 8, 20, 21, 22] ?_; simp only [keepEnv, lkp, zE, reduceCtorEq, reduceEqDiff, argEnv, reduceAdd]
      refine awp_seq_k fun K12 hK12 => ?_
      refine awp_reg hP hN rfl ?_
      iterate 2 (refine rg_step rfl fun K0 hK0 => ?_; simp only [zE, op1, ev, lkp, avOf, acOf, opLoad, Nat.mul_one, readAC, isAggK, acs, Ty.dflt, zG, cellsAt, opBuild, fillAC, writeAC, cellsAV, reduceCtorEq, reduceEqDiff, reduceAdd, reduceLeDiff, reduceLT, reduceMul, reduceSub, Try.fl88, Try.st101, Try.st88, Try.td101, Try.td88, Mly.av, List.length_map, gRows_len, gRows_nth, gRows_nth1, gRows_nth2, List.length_append, gcs_len, rep_one, List.length_replicate, List.getD_cons_zero]; (repeat refine And.intro (by first | omega | assumption | exact rfl) ?_); (first | refine hK0 _ ?_ | refine Or.inl (hK0 _ ?_)); clear hK0 K0; simp only [put, app, setAll, trOf, zE, zS, reduceAdd, List.append_assoc, gRows_setn, gRows_setn1, gRows_setn2])
      (refine rg_step rfl fun K0 hK0 => ?_; simp only [zE, op1, ev, lkp, avOf, acOf, opBuildSlice, fillAC, chunk, rep, datOf, writeAC, cellsAV, Ty.size, reduceCtorEq, reduceEqDiff, reduceAdd, reduceLeDiff, reduceLT, reduceMul, reduceSub, Try.el102, Try.td1, Try.td102, Mly.av, List.length_map, gRows_len, gRows_nth, gRows_nth1, gRows_nth2, List.length_append, gcs_len, rep_one, List.length_replicate, List.getD_cons_zero]; (repeat refine And.intro (by first | omega | assumption | exact rfl) ?_); refine Or.inr (Or.inl (hK0 _ ?_)); clear hK0 K0; simp only [put, app, setAll, trOf, zE, zS, reduceAdd, List.append_assoc, gRows_setn, gRows_setn1, gRows_setn2])
      (refine rg_step rfl fun K0 hK0 => ?_; simp only [zE, op1, ev, lkp, avOf, acOf, ev, reduceCtorEq, reduceEqDiff, reduceAdd, reduceLeDiff, reduceLT, reduceMul, reduceSub, Try.el102, Try.td102, Mly.av, List.length_map, gRows_len, gRows_nth, gRows_nth1, gRows_nth2, List.length_append, gcs_len, rep_one, List.length_replicate, List.getD_cons_zero]; (repeat refine And.intro (by first | omega | assumption | exact rfl) ?_); (first | refine hK0 _ ?_ | refine Or.inl (hK0 _ ?_)); clear hK0 K0; simp only [put, app, setAll, trOf, zE, zS, reduceAdd, List.append_assoc, gRows_setn, gRows_setn1, gRows_setn2])
      refine rg_nil ?_
      refine hK12 _ ?_; clear hK12; refine awp_keep [3, 4, 5, 8, 10, 20, 21, 22] ?_; simp only [keepEnv, lkp, zE, reduceCtorEq, reduceEqDiff, argEnv, reduceAdd]
      refine awp_seq_k fun K13 hK13 => ?_
      refine awp_seq_k fun K14 hK14 => ?_
      refine awp_reg hP hN rfl ?_
      (refine rg_step rfl fun K0 hK0 => ?_; simp only [zE, op1, ev, lkp, avOf, acOf, ev, reduceCtorEq, reduceEqDiff, reduceAdd, reduceLeDiff, reduceLT, reduceMul, reduceSub, Try.td3, Mly.av, List.length_map, gRows_len, gRows_nth, gRows_nth1, gRows_nth2, List.length_append, gcs_len, rep_one, List.length_replicate, List.getD_cons_zero]; (repeat refine And.intro (by first | omega | assumption | exact rfl) ?_); (first | refine hK0 _ ?_ | refine Or.inl (hK0 _ ?_)); clear hK0 K0; simp only [put, app, setAll, trOf, zE, zS, reduceAdd, List.append_assoc, gRows_setn, gRows_setn1, gRows_setn2])
      refine rg_nil ?_
      refine hK14 _ ?_; clear hK14; refine awp_keep [3, 4, 5, 8, 10, 11, 20, 21, 22] ?_; simp only [keepEnv, lkp, zE, reduceCtorEq, reduceEqDiff, argEnv, reduceAdd]
      refine awp_block ?_
      refine awp_loop (fun n15 s15 => ∃ (i : Nat) (l : List S3) (v : Nat), (WFS a b l) ∧ (srS a b (fuS a b - i) i l = seS a b s t) ∧ (i ≤ l.length) ∧ n15 = fuS a b - i ∧ s15 = { env := [(3, .one (.ptr 0 0 0 0)), (4, .one (.ptr 1 0 0 0)), (8, .one (.rwc 3 0)), (10, .one (.row (a.nx.length + 1 + 1 + 1 + 1) v)), (11, .one (.int .i64 (i : Int)))], L := .vars 24 [.int .i64 a.inp, .int .i64 a.st, .list (.list (.int .i64)) a.nx, .list (.list (.int .i64)) a.ot] :: .vars 24 [.int .i64 b.inp, .int .i64 b.st, .list (.list (.int .i64)) b.nx, .list (.list (.int .i64)) b.ot] :: .vars 88 [.int .i64 s, .int .i64 t] :: .rowc 64 1 0 (gcs a.nx.length) :: (gRows 4 (snS l b.nx.length) a.nx.length ++ [.row (.pair (.pair (.int .i64) (.pair (.int .i64) (.unit))) (.pair (.list (.int .i64)) (.unit))) 101 v (List.map encP l)]) }) ?_ ?_
      · refine ⟨_, _, sub_keep [3, 4, 8, 10, 11], 0, [(s, t, [])], 0, wfs_one hs ht, rfl, Nat.zero_le _, rfl, rfl⟩
      · rintro n15 s15 ⟨i, l, v, hwf, hsr, hil0, rfl, rfl⟩
        refine awp_seq_k fun K16 hK16 => ?_
        refine awp_seq_k fun K17 hK17 => ?_
        refine awp_reg hP hN rfl ?_
        iterate 4 (refine rg_step rfl fun K0 hK0 => ?_; simp only [zE, op1, ev, lkp, avOf, acOf, opCallAny, opMM, opLen, lenAC, lenOk, fpAC, Nat.div_one, opAppend, srcOf, Ty.size, datOf, dite_true, opBin, arith, inK_i64, eqACs, eqAC, reduceCtorEq, reduceEqDiff, reduceAdd, reduceLeDiff, reduceLT, reduceMul, reduceSub, Try.el102, Try.td102, Try.td3, Try.td4, Mly.av, List.length_map, gRows_len, gRows_nth, gRows_nth1, gRows_nth2, List.length_append, gcs_len, rep_one, List.length_replicate, List.getD_cons_zero]; (repeat refine And.intro (by first | omega | assumption | exact rfl) ?_); (first | refine hK0 _ ?_ | refine Or.inl (hK0 _ ?_)); clear hK0 K0; simp only [put, app, setAll, trOf, zE, zS, reduceAdd, List.append_assoc, gRows_setn, gRows_setn1, gRows_setn2])
        refine rg_nil ?_
        refine hK17 _ ?_; clear hK17; refine awp_keep [3, 4, 8, 10, 11, 46] ?_; simp only [keepEnv, lkp, zE, reduceCtorEq, reduceEqDiff, argEnv, reduceAdd]
        refine awp_cond (by simp only [ev, keepEnv, lkp, zE, reduceCtorEq, reduceEqDiff, argEnv, reduceAdd]; exact rfl) (fun hc18 => ?_) (fun hc18 => ?_)
        · (try simp only [zB, reduceCtorEq] at hc18)
          refine awp_skip ?_
          refine hK16 _ ?_; clear hK16; refine awp_keep [3, 4, 8, 10, 11, 46] ?_; simp only [keepEnv, lkp, zE, reduceCtorEq, reduceEqDiff, argEnv, reduceAdd]
          refine awp_seq_k fun K19 hK19 => ?_
          refine awp_block ?_
          refine awp_seq_k fun K20 hK20 => ?_
          have hil : i < l.length := by omega
          have hgi : ∀ d, (List.map encP l).getD i d = (((l.getD i eS0).1, ((l.getD i eS0).2.1, ())), ((l.getD i eS0).2.2, ())) := fun d => by rw [getD_mapE eS0 d (by omega)]; rfl
          refine awp_reg hP hN rfl ?_
          iterate 7 (refine rg_step rfl fun K0 hK0 => ?_; simp only [zE, op1, ev, lkp, avOf, acOf, opIndexAddr, zG, Ty.dflt, Ty.size, Nat.mul_one, ne_eq, not_false_eq_true, Int.natCast_one, Int.mul_one, opFieldAddr, opLoad, readAC, isAggK, acs, cellsAt, opAlloc, opStore, cellsAV, writeAC, datOf, reduceCtorEq, reduceEqDiff, reduceAdd, reduceLeDiff, reduceLT, reduceMul, reduceSub, Try.el102, Try.fl88, Try.st101, Try.st88, Try.td101, Try.td102, Try.td3, Try.td88, Mly.av, List.length_map, gRows_len, gRows_nth, gRows_nth1, gRows_nth2, List.length_append, gcs_len, rep_one, List.length_replicate, List.getD_cons_zero, hgi]; (repeat refine And.intro (by first | omega | assumption | exact rfl) ?_); (first | refine hK0 _ ?_ | refine Or.inl (hK0 _ ?_)); clear hK0 K0; simp only [put, app, setAll, trOf, zE, zS, reduceAdd, List.append_assoc, gRows_setn, gRows_setn1, gRows_setn2])
          refine rg_nil ?_
          refine hK20 _ ?_; clear hK20; refine awp_keep [3, 4, 8, 10, 11, 12, 46] ?_; simp only [keepEnv, lkp, zE, reduceCtorEq, reduceEqDiff, argEnv, reduceAdd]
          refine awp_seq_k fun K21 hK21 => ?_
          refine awp_reg hP hN rfl ?_
          iterate 3 (refine rg_step rfl fun K0 hK0 => ?_; simp only [zE, op1, ev, lkp, avOf, acOf, opFieldAddr, opLoad, Nat.mul_one, readAC, isAggK, acs, Ty.dflt, zG, cellsAt, reduceCtorEq, reduceEqDiff, reduceAdd, reduceLeDiff, reduceLT, reduceMul, reduceSub, Try.st24, Try.td24, Try.td3, Mly.av, List.length_map, gRows_len, gRows_nth, gRows_nth1, gRows_nth2, List.length_append, gcs_len, rep_one, List.length_replicate, List.getD_cons_zero]; (repeat refine And.intro (by first | omega | assumption | exact rfl) ?_); (first | refine hK0 _ ?_ | refine Or.inl (hK0 _ ?_)); clear hK0 K0; simp only [put, app, setAll, trOf, zE, zS, reduceAdd, List.append_assoc, gRows_setn, gRows_setn1, gRows_setn2])
          refine rg_nil ?_
          refine hK21 _ ?_; clear hK21; refine awp_keep [3, 4, 8, 10, 11, 12, 46, 55, 56] ?_; simp only [keepEnv, lkp, zE, reduceCtorEq, reduceEqDiff, argEnv, reduceAdd]
          refine awp_block ?_
          refine awp_loop (fun n22 s22 => ∃ (x : Nat) (v2 : Nat), ((x : Int) ≤ a.inp) ∧ (∀ y, y < x → difS a b (l.getD i eS0) y = false) ∧ (WFS a b (rowS a b (l.getD i eS0) l x)) ∧ n22 = a.inp.toNat - x ∧ s22 = { env := [(3, .one (.ptr 0 0 0 0)), (4, .one (.ptr 1 0 0 0)), (8, .one (.rwc 3 0)), (10, .one (.row (a.nx.length + 1 + 1 + 1 + 1) v2)), (11, .one (.int .i64 (i : Int))), (12, .one (.ptr (a.nx.length + 1 + 1 + 1 + 1 + 1) 0 0 0)), (55, .one (.int .i64 a.inp)), (56, .one (.int .i64 (x : Int)))], L := .vars 24 [.int .i64 a.inp, .int .i64 a.st, .list (.list (.int .i64)) a.nx, .list (.list (.int .i64)) a.ot] :: .vars 24 [.int .i64 b.inp, .int .i64 b.st, .list (.list (.int .i64)) b.nx, .list (.list (.int .i64)) b.ot] :: .vars 88 [.int .i64 s, .int .i64 t] :: .rowc 64 1 0 (gcs a.nx.length) :: (gRows 4 (snS (rowS a b (l.getD i eS0) l x) b.nx.length) a.nx.length ++ [.row (.pair (.pair (.int .i64) (.pair (.int .i64) (.unit))) (.pair (.list (.int .i64)) (.unit))) 101 v2 (List.map encP (rowS a b (l.getD i eS0) l x)), .vars 88 [.int .i64 (l.getD i eS0).1, .int .i64 (l.getD i eS0).2.1]]) }) ?_ ?_
          · exact ⟨_, _, sub_keep [3, 4, 8, 10, 11, 12, 55, 56], 0, v, by omega, fun y hy => by omega, hwf, rfl, rfl⟩
          · rintro n22 s22 ⟨x, v2, hx, hdf, hwr, rfl, rfl⟩
            refine awp_seq_k fun K23 hK23 => ?_
            refine awp_reg hP hN rfl ?_
            (refine rg_step rfl fun K0 hK0 => ?_; simp only [zE, op1, ev, lkp, avOf, acOf, opBin, arith, inK_i64, eqACs, eqAC, reduceCtorEq, reduceEqDiff, reduceAdd, reduceLeDiff, reduceLT, reduceMul, reduceSub, Try.td3, Try.td4, Mly.av, List.length_map, gRows_len, gRows_nth, gRows_nth1, gRows_nth2, List.length_append, gcs_len, rep_one, List.length_replicate, List.getD_cons_zero]; (repeat refine And.intro (by first | omega | assumption | exact rfl) ?_); (first | refine hK0 _ ?_ | refine Or.inl (hK0 _ ?_)); clear hK0 K0; simp only [put, app, setAll, trOf, zE, zS, reduceAdd, List.append_assoc, gRows_setn, gRows_setn1, gRows_setn2])
            refine rg_nil ?_
            refine hK23 _ ?_; clear hK23; refine awp_keep [3, 4, 8, 10, 11, 12, 55, 56, 57] ?_; simp only [keepEnv, lkp, zE, reduceCtorEq, reduceEqDiff, argEnv, reduceAdd]
            refine awp_seq_k fun K24 hK24 => ?_
            refine awp_cond (by simp only [ev, keepEnv, lkp, zE, reduceCtorEq, reduceEqDiff, argEnv, reduceAdd]; exact rfl) (fun hc25 => ?_) (fun hc25 => ?_)
            · (try simp only [zB, reduceCtorEq] at hc25)
              refine awp_skip ?_
              refine hK24 _ ?_; clear hK24; refine awp_keep [3, 4, 8, 10, 11, 12, 55, 56, 57] ?_; simp only [keepEnv, lkp, zE, reduceCtorEq, reduceEqDiff, argEnv, reduceAdd]
              refine awp_seq_k fun K26 hK26 => ?_
              refine awp_block ?_
              refine awp_seq_k fun K27 hK27 => ?_
              refine awp_reg hP hN rfl ?_
              iterate 2 (refine rg_step rfl fun K0 hK0 => ?_; simp only [zE, op1, ev, lkp, avOf, acOf, ev, reduceCtorEq, reduceEqDiff, reduceAdd, reduceLeDiff, reduceLT, reduceMul, reduceSub, Try.td3, Mly.av, List.length_map, gRows_len, gRows_nth, gRows_nth1, gRows_nth2, List.length_append, gcs_len, rep_one, List.length_replicate, List.getD_cons_zero]; (repeat refine And.intro (by first | omega | assumption | exact rfl) ?_); (first | refine hK0 _ ?_ | refine Or.inl (hK0 _ ?_)); clear hK0 K0; simp only [put, app, setAll, trOf, zE, zS, reduceAdd, List.append_assoc, gRows_setn, gRows_setn1, gRows_setn2])
              refine rg_nil ?_
              refine hK27 _ ?_; clear hK27; refine awp_keep [3, 4, 8, 10, 11, 12, 13, 55, 56, 57] ?_; simp only [keepEnv, lkp, zE, reduceCtorEq, reduceEqDiff, argEnv, reduceAdd]
              refine awp_seq_k fun K28 hK28 => ?_
              refine awp_seq_k fun K29 hK29 => ?_
              have hil : i < l.length := by omega
              have hei := hwf.at_ hil; have hwl := hwf.wl hil; have hbl := hwf.le; have hbg := hwf.big ha hb; have hbr := hwr.big ha hb; have hge := rowS_ge a b (l.getD i eS0) l x; have hat := rowS_at a b (l.getD i eS0) x hil
              have har := ha.rl (l.getD i eS0).1.toNat (by omega); have haq := ha.ql (l.getD i eS0).1.toNat (by omega); have hbr2 := hb.rl (l.getD i eS0).2.1.toNat (by omega); have hbq := hb.ql (l.getD i eS0).2.1.toNat (by omega)
              have hgi : ∀ d, (List.map encP (rowS a b (l.getD i eS0) l x)).getD i d = (((l.getD i eS0).1, ((l.getD i eS0).2.1, ())), ((l.getD i eS0).2.2, ())) := fun d => by rw [getD_mapE eS0 d (by omega), hat]; rfl
              refine awp_drw hP hN Try.mixed rfl ?_
              iterate 19 (refine rg_step rfl fun K0 hK0 => ?_; simp only [zE, op1, ev, lkp, avOf, acOf, opFieldAddr, opLoad, Nat.mul_one, readAC, isAggK, acs, Ty.dflt, zG, cellsAt, opIndexAddr, Ty.size, ne_eq, not_false_eq_true, Int.natCast_one, Int.mul_one, opBin, arith, inK_i64, eqACs, eqAC, reduceCtorEq, reduceEqDiff, reduceAdd, reduceLeDiff, reduceLT, reduceMul, reduceSub, Try.el22, Try.el33, Try.fl88, Try.st24, Try.st88, Try.td1, Try.td22, Try.td24, Try.td3, Try.td33, Try.td4, Try.td88, Mly.av, List.length_map, gRows_len, gRows_nth, gRows_nth1, gRows_nth2, List.length_append, gcs_len, rep_one, List.length_replicate, List.getD_cons_zero]; (repeat refine And.intro (by first | omega | assumption | exact rfl) ?_); (first | refine hK0 _ ?_ | refine Or.inl (hK0 _ ?_)); clear hK0 K0; simp only [put, app, setAll, trOf, zE, zS, reduceAdd, List.append_assoc, gRows_setn, gRows_setn1, gRows_setn2])
              refine rg_nil ?_
              refine ⟨by kernel_rfl, ?_⟩
              refine hK29 _ ?_; clear hK29; refine awp_keep [3, 4, 8, 10, 11, 12, 13, 55, 56, 57, 77] ?_; simp only [keepEnv, lkp, zE, reduceCtorEq, reduceEqDiff, argEnv, reduceAdd]
              refine awp_cond (by simp only [ev, keepEnv, lkp, zE, reduceCtorEq, reduceEqDiff, argEnv, reduceAdd]; exact rfl) (fun hc30 => ?_) (fun hc30 => ?_)
              · (try simp only [zB, reduceCtorEq] at hc30)
                refine awp_seq_k fun K31 hK31 => ?_
                have hdx : difS a b (l.getD i eS0) x = true := by simp only [difS, Mly.out, Int.toNat_natCast]; simp_all
                refine awp_reg hP hN rfl ?_
                iterate 8 (refine rg_step rfl fun K0 hK0 => ?_; simp only [zE, op1, ev, lkp, avOf, acOf, opIndexAddr, zG, Ty.dflt, Ty.size, Nat.mul_one, ne_eq, not_false_eq_true, Int.natCast_one, Int.mul_one, opFieldAddr, opLoad, readAC, isAggK, acs, cellsAt, opBuildSlice, fillAC, chunk, rep, datOf, writeAC, cellsAV, reduceCtorEq, reduceEqDiff, reduceAdd, reduceLeDiff, reduceLT, reduceMul, reduceSub, Try.el102, Try.el22, Try.el33, Try.st101, Try.td1, Try.td101, Try.td102, Try.td2, Try.td22, Try.td3, Try.td33, Mly.av, List.length_map, gRows_len, gRows_nth, gRows_nth1, gRows_nth2, List.length_append, gcs_len, rep_one, List.length_replicate, List.getD_cons_zero, hgi]; (repeat refine And.intro (by first | omega | assumption | exact rfl) ?_); (first | refine hK0 _ ?_ | refine Or.inl (hK0 _ ?_)); clear hK0 K0; simp only [put, app, setAll, trOf, zE, zS, reduceAdd, List.append_assoc, gRows_setn, gRows_setn1, gRows_setn2])
                refine rg_step rfl fun K0 hK0 => ?_
                refine op_call (h := call_of_pure (wjoin_c [(l.getD i eS0).2.2, [(x : Int)]] (by rw [flat2_len]; omega))) rfl rfl (by first | exact rfl | (simp only [ev, keepEnv, lkp, zE, reduceCtorEq, reduceEqDiff, argEnv, reduceAdd]; exact rfl)) (by simp only [zE, zG, op1, ev, lkp, avOf, acOf, cellsAV, acs, capAV, mv1, mvC, Ty.dflt, reduceCtorEq, reduceEqDiff, reduceAdd, reduceLeDiff, reduceLT, reduceMul, reduceSub, Mly.av, List.length_map, gRows_len, gRows_nth, gRows_nth1, gRows_nth2, List.length_append, gcs_len, rep_one, List.length_replicate, List.getD_cons_zero, hgi]) ?_
                refine hK0 _ ?_; clear hK0 K0; simp only [put, app, setAll, trOf, zE, zS, reduceAdd, List.append_assoc, gRows_setn, gRows_setn1, gRows_setn2]
                iterate 2 (refine rg_step rfl fun K0 hK0 => ?_; simp only [zE, op1, ev, lkp, avOf, acOf, ev, reduceCtorEq, reduceEqDiff, reduceAdd, reduceLeDiff, reduceLT, reduceMul, reduceSub, Try.el33, Try.td33, Try.td4, Mly.av, List.length_map, gRows_len, gRows_nth, gRows_nth1, gRows_nth2, List.length_append, gcs_len, rep_one, List.length_replicate, List.getD_cons_zero, hgi]; (repeat refine And.intro (by first | omega | assumption | exact rfl) ?_); (first | refine hK0 _ ?_ | refine Or.inl (hK0 _ ?_)); clear hK0 K0; simp only [put, app, setAll, trOf, zE, zS, reduceAdd, List.append_assoc, gRows_setn, gRows_setn1, gRows_setn2])
                refine rg_nil ?_
                refine hK31 _ ?_; clear hK31; refine awp_keep [3, 4, 6, 7, 8, 10, 11, 12, 13, 55, 56, 57, 77] ?_; simp only [keepEnv, lkp, zE, reduceCtorEq, reduceEqDiff, argEnv, reduceAdd]
                refine awp_ret ?_
                refine ⟨by first | exact .inl rfl | exact .inr rfl, _, rfl, ?_⟩; simp only [fzV, fz1, fzC, List.map_cons, List.map_nil, keepEnv, lkp, zE, reduceCtorEq, reduceEqDiff, argEnv, reduceAdd, Mly.av, List.length_map, gRows_len, gRows_nth, gRows_nth1, gRows_nth2, List.length_append, gcs_len, rep_one, List.length_replicate, List.getD_cons_zero]
                first
                | (have hx2 : x < a.inp.toNat := by omega
                   rw [← hsr, show fuS a b - i = (fuS a b - (i + 1)) + 1 by omega, srS_found hil hx2 hdx hdf]
                   exact VLE.of_eq (by simp))
                | (rw [← hsr, srS_end _ _ _ _ _ (by omega)]; exact vle_tup ⟨vle1_one (cle_nils rfl), vle1_one (.refl _), trivial⟩)
              · (try simp only [zB, reduceCtorEq] at hc30)
                refine awp_skip ?_
                refine hK28 _ ?_; clear hK28; refine awp_keep [3, 4, 8, 10, 11, 12, 13, 55, 56, 57, 77] ?_; simp only [keepEnv, lkp, zE, reduceCtorEq, reduceEqDiff, argEnv, reduceAdd]
                refine awp_seq_k fun K32 hK32 => ?_
                have hdn : difS a b (l.getD i eS0) x = false := by simp only [difS, Mly.out, Int.toNat_natCast]; simp_all
                refine awp_hole ?_; simp only [List.cons_append, List.append_assoc, List.nil_append]
                refine awp_drw hP hN Try.mixed rfl ?_
                iterate 19 (refine rg_step rfl fun K0 hK0 => ?_; simp only [zE, op1, ev, lkp, avOf, acOf, opFieldAddr, opLoad, Nat.mul_one, readAC, isAggK, acs, Ty.dflt, zG, cellsAt, opIndexAddr, Ty.size, ne_eq, not_false_eq_true, Int.natCast_one, Int.mul_one, opBuild, fillAC, writeAC, cellsAV, reduceCtorEq, reduceEqDiff, reduceAdd, reduceLeDiff, reduceLT, reduceMul, reduceSub, Try.el22, Try.el33, Try.fl88, Try.st24, Try.st88, Try.td1, Try.td2, Try.td22, Try.td24, Try.td3, Try.td33, Try.td88, Mly.av, List.length_map, gRows_len, gRows_nth, gRows_nth1, gRows_nth2, List.length_append, gcs_len, rep_one, List.length_replicate, List.getD_cons_zero]; (repeat refine And.intro (by first | omega | assumption | exact rfl) ?_); (first | refine hK0 _ ?_ | refine Or.inl (hK0 _ ?_)); clear hK0 K0; simp only [put, app, setAll, trOf, zE, zS, reduceAdd, List.append_assoc, gRows_setn, gRows_setn1, gRows_setn2])
                (refine rg_step rfl fun K0 hK0 => ?_; simp only [zE, op1, ev, lkp, avOf, acOf, opAlloc, reduceCtorEq, reduceEqDiff, reduceAdd, reduceLeDiff, reduceLT, reduceMul, reduceSub, Try.fl88, Try.st88, Try.td88, Mly.av, List.length_map, gRows_len, gRows_nth, gRows_nth1, gRows_nth2, List.length_append, gcs_len, rep_one, List.length_replicate, List.getD_cons_zero]; refine Or.inr ⟨(a.nx.length + 1 + 1 + 1 + 1 + 1 + 1), ?_, (.pair (.int .i64) (.pair (.int .i64) .unit)), (0, (0, ())), ?_⟩; (simp only [zE, gRows_nth2]); (repeat refine And.intro (by first | rfl | decide) ?_); refine hK0 _ ?_; clear hK0 K0; simp only [put, app, setAll, trOf, zE, zS, reduceAdd, List.append_assoc, gRows_setn, gRows_setn1, gRows_setn2])
                (refine rg_step rfl fun K0 hK0 => ?_; simp only [zE, op1, ev, lkp, avOf, acOf, opStore, Nat.mul_one, cellsAV, writeAC, datOf, acs, Ty.size, Ty.dflt, zG, reduceCtorEq, reduceEqDiff, reduceAdd, reduceLeDiff, reduceLT, reduceMul, reduceSub, Try.fl88, Try.st88, Try.td88, Mly.av, List.length_map, gRows_len, gRows_nth, gRows_nth1, gRows_nth2, List.length_append, gcs_len, rep_one, List.length_replicate, List.getD_cons_zero]; (repeat refine And.intro (by first | omega | assumption | exact rfl) ?_); (first | refine hK0 _ ?_ | refine Or.inl (hK0 _ ?_)); clear hK0 K0; simp only [put, app, setAll, trOf, zE, zS, reduceAdd, List.append_assoc, gRows_setn, gRows_setn1, gRows_setn2])
                refine rg_nil ?_
                refine ⟨by exact ordOk_ren (cdf_inj a.nx.length) [([], [0], 0), ([], [0], 0), ([], [5], 0), ([], [5], 0), ([], [], 0), ([], [], 0), ([], [], 0), ([], [], 0), ([], [], 0), ([], [1], 0), ([], [1], 0), ([], [5], 0), ([], [5], 0), ([], [], 0), ([], [], 0), ([], [], 0), ([], [], 0), ([], [], 0), ([], [], 0), ([6], [6], 0), ([6], [6], 0)] (by kernel_rfl), ?_⟩
                refine hK32 _ ?_; clear hK32; refine awp_keep [3, 4, 8, 10, 11, 12, 13, 14, 55, 56, 57, 77] ?_; simp only [keepEnv, lkp, zE, reduceCtorEq, reduceEqDiff, argEnv, reduceAdd]
                refine awp_seq_k fun K33 hK33 => ?_
                have hpn := ha.nr (l.getD i eS0).1.toNat x (by omega) (by omega); have hqn := hb.nr (l.getD i eS0).2.1.toNat x (by omega) (by omega)
                have hgP := gcs_get (n := a.nx.length) (i := ((a.nx.getD (l.getD i eS0).1.toNat []).getD x 0).toNat) (by omega); have hrP : ∀ X : List AO, (gRows 4 (snS (rowS a b (l.getD i eS0) l x) b.nx.length) a.nx.length ++ X)[((a.nx.getD (l.getD i eS0).1.toNat []).getD x 0).toNat]? = some (.row .bool 4 0 (snS (rowS a b (l.getD i eS0) l x) b.nx.length ((a.nx.getD (l.getD i eS0).1.toNat []).getD x 0).toNat)) := fun X => gRows_get (by omega)
                have hsL := snS_len (rowS a b (l.getD i eS0) l x) b.nx.length ((a.nx.getD (l.getD i eS0).1.toNat []).getD x 0).toNat; have hsA := snS_at (l := (rowS a b (l.getD i eS0) l x)) (m := b.nx.length) (p := ((a.nx.getD (l.getD i eS0).1.toNat []).getD x 0)) (q := ((b.nx.getD (l.getD i eS0).2.1.toNat []).getD x 0)) (by omega) (by omega)
                have hEin : (l.getD i eS0) ∈ (rowS a b (l.getD i eS0) l x) := by
                  have h9 := getD_memS (l := (rowS a b (l.getD i eS0) l x)) (i := i) (by omega)
                  rw [hat] at h9; exact h9
                refine awp_drw hP hN Try.mixed rfl ?_
                iterate 3 (refine rg_step rfl fun K0 hK0 => ?_; simp only [zE, op1, ev, lkp, avOf, acOf, opLoad, Nat.mul_one, readAC, isAggK, acs, Ty.dflt, zG, cellsAt, opBin, arith, inK_i64, eqACs, eqAC, reduceCtorEq, reduceEqDiff, reduceAdd, reduceLeDiff, reduceLT, reduceMul, reduceSub, Try.fl88, Try.st88, Try.td4, Try.td88, Mly.av, List.length_map, gRows_len, gRows_nth, gRows_nth1, gRows_nth2, List.length_append, gcs_len, rep_one, List.length_replicate, List.getD_cons_zero, hgP, hrP, hsL, hsA]; (repeat refine And.intro (by first | omega | assumption | exact rfl) ?_); (first | refine hK0 _ ?_ | refine Or.inl (hK0 _ ?_)); clear hK0 K0; simp only [put, app, setAll, trOf, zE, zS, reduceAdd, List.append_assoc, gRows_setn, gRows_setn1, gRows_setn2])
                (refine rg_step rfl fun K0 hK0 => ?_; simp only [zE, op1, ev, lkp, avOf, acOf, ev, reduceCtorEq, reduceEqDiff, reduceAdd, reduceLeDiff, reduceLT, reduceMul, reduceSub, Try.td4, Mly.av, List.length_map, gRows_len, gRows_nth, gRows_nth1, gRows_nth2, List.length_append, gcs_len, rep_one, List.length_replicate, List.getD_cons_zero, hgP, hrP, hsL, hsA]; (repeat refine And.intro (by first | omega | assumption | exact rfl) ?_); (first | refine hK0 _ ?_ | refine Or.inl (hK0 _ ?_)); clear hK0 K0; simp only [put, app, setAll, trOf, zE, zS, reduceAdd, List.append_assoc, gRows_setn, gRows_setn1, gRows_setn2])
                refine' rg_join_n (want := true) 10 rfl (m := 109) (by simp only [keepEnv, lkp, zE, reduceCtorEq, reduceEqDiff, argEnv, reduceAdd]; exact rfl) (by kernel_rfl) rfl rfl rfl rfl rfl (fun hg34 => ?a34) ?b34 ?c34
                case a34 =>
                  have hq34 := hg34; (try simp only [zB, reduceCtorEq] at hg34); simp only [List.take_succ_cons, List.take_zero, List.cons_append, List.nil_append]
                  (refine rg_do rfl fun K0 hK0 => ?_; simp only [zE, op1, ev, lkp, avOf, acOf, ev, reduceCtorEq, reduceEqDiff, reduceAdd, reduceLeDiff, reduceLT, reduceMul, reduceSub, Try.el99, Try.td99, Mly.av, List.length_map, gRows_len, gRows_nth, gRows_nth1, gRows_nth2, List.length_append, gcs_len, rep_one, List.length_replicate, List.getD_cons_zero, hgP, hrP, hsL, hsA]; (repeat refine And.intro (by first | omega | assumption | exact rfl) ?_); (first | refine hK0 _ ?_ | refine Or.inl (hK0 _ ?_)); clear hK0 K0; simp only [put, app, setAll, trOf, zE, zS, reduceAdd, List.append_assoc, gRows_setn, gRows_setn1, gRows_setn2])
                  (refine rg_do rfl fun K0 hK0 => ?_; simp only [zE, op1, ev, lkp, avOf, acOf, opFieldAddr, reduceCtorEq, reduceEqDiff, reduceAdd, reduceLeDiff, reduceLT, reduceMul, reduceSub, Try.fl88, Try.st88, Try.td88, Mly.av, List.length_map, gRows_len, gRows_nth, gRows_nth1, gRows_nth2, List.length_append, gcs_len, rep_one, List.length_replicate, List.getD_cons_zero, hgP, hrP, hsL, hsA]; (repeat refine And.intro (by first | omega | assumption | exact rfl) ?_); (first | refine hK0 _ ?_ | refine Or.inl (hK0 _ ?_)); clear hK0 K0; simp only [put, app, setAll, trOf, zE, zS, reduceAdd, List.append_assoc, gRows_setn, gRows_setn1, gRows_setn2])
                  (refine rg_do rfl fun K0 hK0 => ?_; simp only [zE, op1, ev, lkp, avOf, acOf, opLoad, Nat.mul_one, readAC, isAggK, acs, Ty.dflt, zG, cellsAt, reduceCtorEq, reduceEqDiff, reduceAdd, reduceLeDiff, reduceLT, reduceMul, reduceSub, Try.td3, Mly.av, List.length_map, gRows_len, gRows_nth, gRows_nth1, gRows_nth2, List.length_append, gcs_len, rep_one, List.length_replicate, List.getD_cons_zero, hgP, hrP, hsL, hsA]; (repeat refine And.intro (by first | omega | assumption | exact rfl) ?_); (first | refine hK0 _ ?_ | refine Or.inl (hK0 _ ?_)); clear hK0 K0; simp only [put, app, setAll, trOf, zE, zS, reduceAdd, List.append_assoc, gRows_setn, gRows_setn1, gRows_setn2])
                  (refine rg_do rfl fun K0 hK0 => ?_; simp only [zE, op1, ev, lkp, avOf, acOf, opIndexAddr, zG, Ty.dflt, Ty.size, Nat.mul_one, ne_eq, not_false_eq_true, Int.natCast_one, Int.mul_one, reduceCtorEq, reduceEqDiff, reduceAdd, reduceLeDiff, reduceLT, reduceMul, reduceSub, Try.el99, Try.td99, Mly.av, List.length_map, gRows_len, gRows_nth, gRows_nth1, gRows_nth2, List.length_append, gcs_len, rep_one, List.length_replicate, List.getD_cons_zero, hgP, hrP, hsL, hsA]; (repeat refine And.intro (by first | omega | assumption | exact rfl) ?_); (first | refine hK0 _ ?_ | refine Or.inl (hK0 _ ?_)); clear hK0 K0; simp only [put, app, setAll, trOf, zE, zS, reduceAdd, List.append_assoc, gRows_setn, gRows_setn1, gRows_setn2])
                  (refine rg_do rfl fun K0 hK0 => ?_; simp only [zE, op1, ev, lkp, avOf, acOf, opLoad, Nat.mul_one, readAC, isAggK, acs, Ty.dflt, zG, cellsAt, reduceCtorEq, reduceEqDiff, reduceAdd, reduceLeDiff, reduceLT, reduceMul, reduceSub, Try.el64, Try.td64, Mly.av, List.length_map, gRows_len, gRows_nth, gRows_nth1, gRows_nth2, List.length_append, gcs_len, rep_one, List.length_replicate, List.getD_cons_zero, hgP, hrP, hsL, hsA]; (repeat refine And.intro (by first | omega | assumption | exact rfl) ?_); (first | refine hK0 _ ?_ | refine Or.inl (hK0 _ ?_)); clear hK0 K0; simp only [put, app, setAll, trOf, zE, zS, reduceAdd, List.append_assoc, gRows_setn, gRows_setn1, gRows_setn2])
                  (refine rg_do rfl fun K0 hK0 => ?_; simp only [zE, op1, ev, lkp, avOf, acOf, opFieldAddr, reduceCtorEq, reduceEqDiff, reduceAdd, reduceLeDiff, reduceLT, reduceMul, reduceSub, Try.fl88, Try.st88, Try.td1, Try.td88, Mly.av, List.length_map, gRows_len, gRows_nth, gRows_nth1, gRows_nth2, List.length_append, gcs_len, rep_one, List.length_replicate, List.getD_cons_zero, hgP, hrP, hsL, hsA]; (repeat refine And.intro (by first | omega | assumption | exact rfl) ?_); (first | refine hK0 _ ?_ | refine Or.inl (hK0 _ ?_)); clear hK0 K0; simp only [put, app, setAll, trOf, zE, zS, reduceAdd, List.append_assoc, gRows_setn, gRows_setn1, gRows_setn2])
                  (refine rg_do rfl fun K0 hK0 => ?_; simp only [zE, op1, ev, lkp, avOf, acOf, opLoad, Nat.mul_one, readAC, isAggK, acs, Ty.dflt, zG, cellsAt, reduceCtorEq, reduceEqDiff, reduceAdd, reduceLeDiff, reduceLT, reduceMul, reduceSub, Try.td3, Mly.av, List.length_map, gRows_len, gRows_nth, gRows_nth1, gRows_nth2, List.length_append, gcs_len, rep_one, List.length_replicate, List.getD_cons_zero, hgP, hrP, hsL, hsA]; (repeat refine And.intro (by first | omega | assumption | exact rfl) ?_); (first | refine hK0 _ ?_ | refine Or.inl (hK0 _ ?_)); clear hK0 K0; simp only [put, app, setAll, trOf, zE, zS, reduceAdd, List.append_assoc, gRows_setn, gRows_setn1, gRows_setn2])
                  (refine rg_do rfl fun K0 hK0 => ?_; simp only [zE, op1, ev, lkp, avOf, acOf, opIndexAddr, zG, Ty.dflt, Ty.size, Nat.mul_one, ne_eq, not_false_eq_true, Int.natCast_one, Int.mul_one, reduceCtorEq, reduceEqDiff, reduceAdd, reduceLeDiff, reduceLT, reduceMul, reduceSub, Try.el64, Try.td64, Mly.av, List.length_map, gRows_len, gRows_nth, gRows_nth1, gRows_nth2, List.length_append, gcs_len, rep_one, List.length_replicate, List.getD_cons_zero, hgP, hrP, hsL, hsA]; (repeat refine And.intro (by first | omega | assumption | exact rfl) ?_); (first | refine hK0 _ ?_ | refine Or.inl (hK0 _ ?_)); clear hK0 K0; simp only [put, app, setAll, trOf, zE, zS, reduceAdd, List.append_assoc, gRows_setn, gRows_setn1, gRows_setn2])
                  (refine rg_do rfl fun K0 hK0 => ?_; simp only [zE, op1, ev, lkp, avOf, acOf, opLoad, Nat.mul_one, readAC, isAggK, acs, Ty.dflt, zG, cellsAt, reduceCtorEq, reduceEqDiff, reduceAdd, reduceLeDiff, reduceLT, reduceMul, reduceSub, Try.td4, Mly.av, List.length_map, gRows_len, gRows_nth, gRows_nth1, gRows_nth2, List.length_append, gcs_len, rep_one, List.length_replicate, List.getD_cons_zero, hgP, hrP, hsL, hsA]; (repeat refine And.intro (by first | omega | assumption | exact rfl) ?_); (first | refine hK0 _ ?_ | refine Or.inl (hK0 _ ?_)); clear hK0 K0; simp only [put, app, setAll, trOf, zE, zS, reduceAdd, List.append_assoc, gRows_setn, gRows_setn1, gRows_setn2])
                  (refine rg_do rfl fun K0 hK0 => ?_; simp only [zE, op1, ev, lkp, avOf, acOf, opUn, reduceCtorEq, reduceEqDiff, reduceAdd, reduceLeDiff, reduceLT, reduceMul, reduceSub, Try.td4, Mly.av, List.length_map, gRows_len, gRows_nth, gRows_nth1, gRows_nth2, List.length_append, gcs_len, rep_one, List.length_replicate, List.getD_cons_zero, hgP, hrP, hsL, hsA]; (repeat refine And.intro (by first | omega | assumption | exact rfl) ?_); (first | refine hK0 _ ?_ | refine Or.inl (hK0 _ ?_)); clear hK0 K0; simp only [put, app, setAll, trOf, zE, zS, reduceAdd, List.append_assoc, gRows_setn, gRows_setn1, gRows_setn2])
                  (refine rg_step rfl fun K0 hK0 => ?_; simp only [zE, op1, ev, lkp, avOf, acOf, opPick, reduceCtorEq, reduceEqDiff, reduceAdd, reduceLeDiff, reduceLT, reduceMul, reduceSub, Try.td4, Mly.av, List.length_map, gRows_len, gRows_nth, gRows_nth1, gRows_nth2, List.length_append, gcs_len, rep_one, List.length_replicate, List.getD_cons_zero, hgP, hrP, hsL, hsA]; (repeat refine And.intro (by first | omega | assumption | exact rfl) ?_); (first | refine hK0 _ ?_ | refine Or.inl (hK0 _ ?_)); clear hK0 K0; simp only [put, app, setAll, trOf, zE, zS, reduceAdd, List.append_assoc, gRows_setn, gRows_setn1, gRows_setn2])
                  refine rg_nil ?_
                  refine ⟨by simp only [keepEnv, lkp, zE, reduceCtorEq, reduceEqDiff, argEnv, reduceAdd]; exact rfl, rfl, ?_, rfl⟩; (repeat refine keep_cons rfl ?_); exact keep_m (by exact rfl) hq34
                case b34 => exact tle_of (by first | rfl | (simp [tleB]; done) | decide)
                simp only [join_or, join_and]
                refine rg_nil ?_
                refine ⟨by kernel_rfl, ?_⟩
                refine hK33 _ ?_; clear hK33; refine awp_keep [3, 4, 8, 10, 11, 12, 13, 14, 55, 56, 57, 77, 120] ?_; simp only [keepEnv, lkp, zE, reduceCtorEq, reduceEqDiff, argEnv, reduceAdd]
                refine awp_cond (by simp only [ev, keepEnv, lkp, zE, reduceCtorEq, reduceEqDiff, argEnv, reduceAdd]; exact rfl) (fun hc35 => ?_) (fun hc35 => ?_)
                · (try simp only [zB, reduceCtorEq] at hc35)
                  have hkn : inS (rowS a b (l.getD i eS0) l x) ((a.nx.getD (l.getD i eS0).1.toNat []).getD x 0) ((b.nx.getD (l.getD i eS0).2.1.toNat []).getD x 0) = false := by simp_all
                  refine awp_seq_k fun K36 hK36 => ?_
                  have hset : ∀ X : List AO, (gRows 4 (snS (rowS a b (l.getD i eS0) l x) b.nx.length) a.nx.length ++ X).set ((a.nx.getD (l.getD i eS0).1.toNat []).getD x 0).toNat (.row .bool 4 0 ((snS (rowS a b (l.getD i eS0) l x) b.nx.length ((a.nx.getD (l.getD i eS0).1.toNat []).getD x 0).toNat).set ((b.nx.getD (l.getD i eS0).2.1.toNat []).getD x 0).toNat true)) = gRows 4 (snS ((rowS a b (l.getD i eS0) l x) ++ [(((a.nx.getD (l.getD i eS0).1.toNat []).getD x 0), ((b.nx.getD (l.getD i eS0).2.1.toNat []).getD x 0), (l.getD i eS0).2.2 ++ [(x : Int)])]) b.nx.length) a.nx.length ++ X := fun X => gRows_seti (by omega) (snS_set (by omega) (by omega)) (fun j hj hne => snS_other (by omega) hne)
                  refine awp_drw hP hN Try.mixed rfl ?_
                  iterate 9 (refine rg_step rfl fun K0 hK0 => ?_; simp only [zE, op1, ev, lkp, avOf, acOf, opFieldAddr, opLoad, Nat.mul_one, readAC, isAggK, acs, Ty.dflt, zG, cellsAt, opIndexAddr, Ty.size, ne_eq, not_false_eq_true, Int.natCast_one, Int.mul_one, opStore, cellsAV, writeAC, datOf, reduceCtorEq, reduceEqDiff, reduceAdd, reduceLeDiff, reduceLT, reduceMul, reduceSub, Try.el64, Try.el99, Try.fl88, Try.st88, Try.td1, Try.td3, Try.td4, Try.td64, Try.td88, Try.td99, Mly.av, List.length_map, gRows_len, gRows_nth, gRows_nth1, gRows_nth2, List.length_append, gcs_len, rep_one, List.length_replicate, List.getD_cons_zero, hgP, hrP, hsL]; (repeat refine And.intro (by first | omega | assumption | exact rfl) ?_); (first | refine hK0 _ ?_ | refine Or.inl (hK0 _ ?_)); clear hK0 K0; simp only [put, app, setAll, trOf, zE, zS, reduceAdd, List.append_assoc, gRows_setn, gRows_setn1, gRows_setn2, hset])
                  refine rg_nil ?_
                  refine ⟨by kernel_rfl, ?_⟩
                  refine hK36 _ ?_; clear hK36; refine awp_keep [3, 4, 8, 10, 11, 12, 13, 14, 55, 56, 57, 77, 120] ?_; simp only [keepEnv, lkp, zE, reduceCtorEq, reduceEqDiff, argEnv, reduceAdd]
                  refine awp_drw hP hN Try.mixed rfl ?_
                  iterate 10 (refine rg_step rfl fun K0 hK0 => ?_; simp only [zE, op1, ev, lkp, avOf, acOf, opLoad, Nat.mul_one, readAC, isAggK, acs, Ty.dflt, zG, cellsAt, opIndexAddr, Ty.size, ne_eq, not_false_eq_true, Int.natCast_one, Int.mul_one, opFieldAddr, opBuildSlice, fillAC, chunk, rep, datOf, writeAC, cellsAV, reduceCtorEq, reduceEqDiff, reduceAdd, reduceLeDiff, reduceLT, reduceMul, reduceSub, Try.el102, Try.el22, Try.el33, Try.fl88, Try.st101, Try.st88, Try.td1, Try.td101, Try.td102, Try.td2, Try.td22, Try.td3, Try.td33, Try.td88, Mly.av, List.length_map, gRows_len, gRows_nth, gRows_nth1, gRows_nth2, List.length_append, gcs_len, rep_one, List.length_replicate, List.getD_cons_zero, hgi]; (repeat refine And.intro (by first | omega | assumption | exact rfl) ?_); (first | refine hK0 _ ?_ | refine Or.inl (hK0 _ ?_)); clear hK0 K0; simp only [put, app, setAll, trOf, zE, zS, reduceAdd, List.append_assoc, gRows_setn, gRows_setn1, gRows_setn2])
                  refine rg_step rfl fun K0 hK0 => ?_
                  refine op_call (h := call_of_pure (wjoin_c [(l.getD i eS0).2.2, [(x : Int)]] (by rw [flat2_len]; omega))) rfl rfl (by first | exact rfl | (simp only [ev, keepEnv, lkp, zE, reduceCtorEq, reduceEqDiff, argEnv, reduceAdd]; exact rfl)) (by simp only [zE, zG, op1, ev, lkp, avOf, acOf, cellsAV, acs, capAV, mv1, mvC, Ty.dflt, reduceCtorEq, reduceEqDiff, reduceAdd, reduceLeDiff, reduceLT, reduceMul, reduceSub, Mly.av, List.length_map, gRows_len, gRows_nth, gRows_nth1, gRows_nth2, List.length_append, gcs_len, rep_one, List.length_replicate, List.getD_cons_zero, hgi]) ?_
                  refine hK0 _ ?_; clear hK0 K0; simp only [put, app, setAll, trOf, zE, zS, reduceAdd, List.append_assoc, gRows_setn, gRows_setn1, gRows_setn2]
                  iterate 4 (refine rg_step rfl fun K0 hK0 => ?_; simp only [zE, op1, ev, lkp, avOf, acOf, opBuild, fillAC, writeAC, cellsAV, opBuildSlice, chunk, rep, datOf, Ty.size, opCallAny, opMM, opLen, lenAC, lenOk, fpAC, Nat.div_one, opAppend, srcOf, dite_true, reduceCtorEq, reduceEqDiff, reduceAdd, reduceLeDiff, reduceLT, reduceMul, reduceSub, Try.el102, Try.st101, Try.td1, Try.td101, Try.td102, Mly.av, List.length_map, gRows_len, gRows_nth, gRows_nth1, gRows_nth2, List.length_append, gcs_len, rep_one, List.length_replicate, List.getD_cons_zero, hgi]; (repeat refine And.intro (by first | omega | assumption | exact rfl) ?_); (first | refine hK0 _ ?_ | refine Or.inl (hK0 _ ?_)); clear hK0 K0; simp only [put, app, setAll, trOf, zE, zS, reduceAdd, List.append_assoc, gRows_setn, gRows_setn1, gRows_setn2])
                  refine rg_nil ?_
                  refine ⟨by kernel_rfl, ?_⟩
                  refine hK26 _ ?_; clear hK26; refine awp_keep [3, 4, 8, 10, 11, 12, 13, 14, 55, 56, 57, 77, 120] ?_; simp only [keepEnv, lkp, zE, reduceCtorEq, reduceEqDiff, argEnv, reduceAdd]
                  refine awp_keep [3, 4, 8, 10, 11, 12, 55, 56] ?_; simp only [keepEnv, lkp, zE, reduceCtorEq, reduceEqDiff]
                  refine awp_pop (L1 := _ :: _ :: _ :: _ :: (_ ++ [_, _])) (by simp only [List.cons_append, List.append_assoc, List.nil_append]; rfl) hB (by simp [freeV, free1, freeC, gRows_len]) (by simp [freeO, freeC, gRows_free, gcs_free, gRows_len]) ?_
                  refine awp_reg hP hN rfl ?_
                  iterate 2 (refine rg_step rfl fun K0 hK0 => ?_; simp only [zE, op1, ev, lkp, avOf, acOf, opBin, arith, inK_i64, eqACs, eqAC, reduceCtorEq, reduceEqDiff, reduceAdd, reduceLeDiff, reduceLT, reduceMul, reduceSub, Try.td3, Mly.av, List.length_map, gRows_len, gRows_nth, gRows_nth1, gRows_nth2, List.length_append, gcs_len, rep_one, List.length_replicate, List.getD_cons_zero]; (repeat refine And.intro (by first | omega | assumption | exact rfl) ?_); (first | refine hK0 _ ?_ | refine Or.inl (hK0 _ ?_)); clear hK0 K0; simp only [put, app, setAll, trOf, zE, zS, reduceAdd, List.append_assoc, gRows_setn, gRows_setn1, gRows_setn2])
                  refine rg_nil ?_
                  first
                  | (have hk : inS (rowS a b (l.getD i eS0) l x) (a.nxt (l.getD i eS0).1 x) (b.nxt (l.getD i eS0).2.1 x) = true := hkk
                     refine ⟨_, _, ?_, sub_keep [3, 4, 8, 10, 11, 12, 55, 56], x + 1, v2, by omega, fun y hy => ?_, hwf.row ha hb hi hil (x + 1) (by omega), rfl, ?_⟩
                     · omega
                     · by_cases e : y = x
                       · rw [e]; exact hdn
                       · exact hdf y (by omega)
                     · rw [rowS_succ, stS, if_pos hk]; first | done | rfl)
                  | (have hk : ¬ inS (rowS a b (l.getD i eS0) l x) (a.nxt (l.getD i eS0).1 x) (b.nxt (l.getD i eS0).2.1 x) = true := fun hh => Bool.noConfusion (hkn.symm.trans hh)
                     refine ⟨_, _, ?_, sub_keep [3, 4, 8, 10, 11, 12, 55, 56], x + 1, v2 + 1, by omega, fun y hy => ?_, hwf.row ha hb hi hil (x + 1) (by omega), rfl, ?_⟩
                     · omega
                     · by_cases e : y = x
                       · rw [e]; exact hdn
                       · exact hdf y (by omega)
                     · rw [rowS_succ, stS, if_neg hk, List.map_append]; simp only [List.flatten_cons, List.flatten_nil, List.append_nil]; rfl)
                · (try simp only [zB, reduceCtorEq] at hc35)
                  have hkk : inS (rowS a b (l.getD i eS0) l x) ((a.nx.getD (l.getD i eS0).1.toNat []).getD x 0) ((b.nx.getD (l.getD i eS0).2.1.toNat []).getD x 0) = true := by
                    by_cases e1 : ((a.nx.getD (l.getD i eS0).1.toNat []).getD x 0) = (l.getD i eS0).1 ∧ ((b.nx.getD (l.getD i eS0).2.1.toNat []).getD x 0) = (l.getD i eS0).2.1
                    · exact inS_iff.2 ⟨(l.getD i eS0), hEin, e1.1.symm, e1.2.symm⟩
                    · cases hX : inS (rowS a b (l.getD i eS0) l x) ((a.nx.getD (l.getD i eS0).1.toNat []).getD x 0) ((b.nx.getD (l.getD i eS0).2.1.toNat []).getD x 0) with
                      | true => rfl
                      | false => exfalso; simp_all
                  refine awp_skip ?_
                  refine hK26 _ ?_; clear hK26; refine awp_keep [3, 4, 8, 10, 11, 12, 13, 14, 55, 56, 57, 77, 120] ?_; simp only [keepEnv, lkp, zE, reduceCtorEq, reduceEqDiff, argEnv, reduceAdd]
                  refine awp_keep [3, 4, 8, 10, 11, 12, 55, 56] ?_; simp only [keepEnv, lkp, zE, reduceCtorEq, reduceEqDiff]
                  refine awp_pop (L1 := _ :: _ :: _ :: _ :: (_ ++ [_, _])) (by simp only [List.cons_append, List.append_assoc, List.nil_append]; rfl) hB (by simp [freeV, free1, freeC, gRows_len]) (by simp [freeO, freeC, gRows_free, gcs_free, gRows_len]) ?_
                  refine awp_reg hP hN rfl ?_
                  iterate 2 (refine rg_step rfl fun K0 hK0 => ?_; simp only [zE, op1, ev, lkp, avOf, acOf, opBin, arith, inK_i64, eqACs, eqAC, reduceCtorEq, reduceEqDiff, reduceAdd, reduceLeDiff, reduceLT, reduceMul, reduceSub, Try.td3, Mly.av, List.length_map, gRows_len, gRows_nth, gRows_nth1, gRows_nth2, List.length_append, gcs_len, rep_one, List.length_replicate, List.getD_cons_zero]; (repeat refine And.intro (by first | omega | assumption | exact rfl) ?_); (first | refine hK0 _ ?_ | refine Or.inl (hK0 _ ?_)); clear hK0 K0; simp only [put, app, setAll, trOf, zE, zS, reduceAdd, List.append_assoc, gRows_setn, gRows_setn1, gRows_setn2])
                  refine rg_nil ?_
                  first
                  | (have hk : inS (rowS a b (l.getD i eS0) l x) (a.nxt (l.getD i eS0).1 x) (b.nxt (l.getD i eS0).2.1 x) = true := hkk
                     refine ⟨_, _, ?_, sub_keep [3, 4, 8, 10, 11, 12, 55, 56], x + 1, v2, by omega, fun y hy => ?_, hwf.row ha hb hi hil (x + 1) (by omega), rfl, ?_⟩
                     · omega
                     · by_cases e : y = x
                       · rw [e]; exact hdn
                       · exact hdf y (by omega)
                     · rw [rowS_succ, stS, if_pos hk]; first | done | rfl)
                  | (have hk : ¬ inS (rowS a b (l.getD i eS0) l x) (a.nxt (l.getD i eS0).1 x) (b.nxt (l.getD i eS0).2.1 x) = true := fun hh => Bool.noConfusion (hkn.symm.trans hh)
                     refine ⟨_, _, ?_, sub_keep [3, 4, 8, 10, 11, 12, 55, 56], x + 1, v2 + 1, by omega, fun y hy => ?_, hwf.row ha hb hi hil (x + 1) (by omega), rfl, ?_⟩
                     · omega
                     · by_cases e : y = x
                       · rw [e]; exact hdn
                       · exact hdf y (by omega)
                     · rw [rowS_succ, stS, if_neg hk, List.map_append]; simp only [List.flatten_cons, List.flatten_nil, List.append_nil]; rfl)
            · (try simp only [zB, reduceCtorEq] at hc25)
              refine awp_exit ?_
              refine hK19 _ ?_; clear hK19; refine awp_keep [3, 4, 8, 10, 11, 12, 55, 56, 57] ?_; simp only [keepEnv, lkp, zE, reduceCtorEq, reduceEqDiff, argEnv, reduceAdd]
              have hbg := hwf.big ha hb
              refine awp_keep [3, 4, 8, 10, 11] ?_; simp only [keepEnv, lkp, zE, reduceCtorEq, reduceEqDiff]
              refine awp_pop (L1 := _ :: _ :: _ :: _ :: (_ ++ [_])) (by simp only [List.cons_append, List.append_assoc, List.nil_append]; rfl) hB (by simp [freeV, free1, freeC, gRows_len]) (by simp [freeO, freeC, gRows_free, gcs_free, gRows_len]) ?_
              refine awp_reg hP hN rfl ?_
              iterate 3 (refine rg_step rfl fun K0 hK0 => ?_; simp only [zE, op1, ev, lkp, avOf, acOf, opBin, arith, inK_i64, eqACs, eqAC, reduceCtorEq, reduceEqDiff, reduceAdd, reduceLeDiff, reduceLT, reduceMul, reduceSub, Try.td3, Mly.av, List.length_map, gRows_len, gRows_nth, gRows_nth1, gRows_nth2, List.length_append, gcs_len, rep_one, List.length_replicate, List.getD_cons_zero]; (repeat refine And.intro (by first | omega | assumption | exact rfl) ?_); (first | refine hK0 _ ?_ | refine Or.inl (hK0 _ ?_)); clear hK0 K0; simp only [put, app, setAll, trOf, zE, zS, reduceAdd, List.append_assoc, gRows_setn, gRows_setn1, gRows_setn2])
              refine rg_nil ?_
              have hil : i < l.length := by omega
              have hbl := hwf.le
              have hge := rowS_ge a b (l.getD i eS0) l x
              have hxe : x = a.inp.toNat := by omega
              subst hxe
              refine ⟨_, _, ?_, sub_keep [3, 4, 8, 10, 11], i + 1, rowS a b (l.getD i eS0) l a.inp.toNat, v2, hwr, ?_, by omega, rfl, rfl⟩
              · omega
              · rw [← hsr, show fuS a b - i = (fuS a b - (i + 1)) + 1 by omega, srS_next hil (fun y hy => hdf y (by omega))]
        · (try simp only [zB, reduceCtorEq] at hc18)
          refine awp_exit ?_
          refine hK13 _ ?_; clear hK13; refine awp_keep [3, 4, 8, 10, 11, 46] ?_; simp only [keepEnv, lkp, zE, reduceCtorEq, reduceEqDiff, argEnv, reduceAdd]
          refine awp_seq_k fun K37 hK37 => ?_
          refine awp_reg hP hN rfl ?_
          iterate 2 (refine rg_step rfl fun K0 hK0 => ?_; simp only [zE, op1, ev, lkp, avOf, acOf, ev, reduceCtorEq, reduceEqDiff, reduceAdd, reduceLeDiff, reduceLT, reduceMul, reduceSub, Try.el33, Try.td33, Try.td4, Mly.av, List.length_map, gRows_len, gRows_nth, gRows_nth1, gRows_nth2, List.length_append, gcs_len, rep_one, List.length_replicate, List.getD_cons_zero]; (repeat refine And.intro (by first | omega | assumption | exact rfl) ?_); (first | refine hK0 _ ?_ | refine Or.inl (hK0 _ ?_)); clear hK0 K0; simp only [put, app, setAll, trOf, zE, zS, reduceAdd, List.append_assoc, gRows_setn, gRows_setn1, gRows_setn2])
          refine rg_nil ?_
          refine hK37 _ ?_; clear hK37; refine awp_keep [3, 4, 6, 7, 8, 10, 11, 46] ?_; simp only [keepEnv, lkp, zE, reduceCtorEq, reduceEqDiff, argEnv, reduceAdd]
          refine awp_ret ?_
          refine ⟨by first | exact .inl rfl | exact .inr rfl, _, rfl, ?_⟩; simp only [fzV, fz1, fzC, List.map_cons, List.map_nil, keepEnv, lkp, zE, reduceCtorEq, reduceEqDiff, argEnv, reduceAdd, Mly.av, List.length_map, gRows_len, gRows_nth, gRows_nth1, gRows_nth2, List.length_append, gcs_len, rep_one, List.length_replicate, List.getD_cons_zero]
          first
          | (have hx2 : x < a.inp.toNat := by omega
             rw [← hsr, show fuS a b - i = (fuS a b - (i + 1)) + 1 by omega, srS_found hil hx2 hdx hdf]
             exact VLE.of_eq (by simp))
          | (rw [← hsr, srS_end _ _ _ _ _ (by omega)]; exact vle_tup ⟨vle1_one (cle_nils rfl), vle1_one (.refl _), trivial⟩)
end Go.Proofs.Ytfbnhgefkdhiaaa
namespace Go.Proofs.Ytfbnhgefkdhiaaa
open Go Go.AV
open Nat (reduceEqDiff reduceAdd reduceLeDiff reduceLT reduceMul reduceSub)
open List (set_cons_zero set_cons_succ)
set_option maxRecDepth 100000 in
theorem dist_c (a b : Mly) : PURE Try.prog 49 [a.av, b.av] (.tup [.one (.list (.int .i64) ((dqW a b).getD [])), .one (.bool (dqW a b).isSome), .one (.int .i64 (chqE a b))]) := by
  refine pure_of_le Try.func49 rfl (by kernel_rfl) (Nat.le_of_ble_eq_true rfl) rfl fun C hP hN hB => ?_
  replace hN : C.N = 29 := hN
  simp only [argEnv, reduceAdd]
  refine awp_seq_k fun K1 hK1 => ?_
  refine awp_reg hP hN rfl ?_
  iterate 5 (refine rg_step rfl fun K0 hK0 => ?_; simp only [zE, op1, ev, lkp, avOf, acOf, opBox, cellsAV, reduceCtorEq, reduceEqDiff, reduceAdd, reduceLeDiff, reduceLT, reduceMul, reduceSub, Try.el33, Try.st24, Try.td24, Try.td27, Try.td33, Try.td4, Mly.av]; (repeat refine And.intro (by first | omega | assumption | exact rfl) ?_); (first | refine hK0 _ ?_ | refine Or.inl (hK0 _ ?_)); clear hK0 K0; simp only [put, app, setAll, trOf, zE, zS, reduceAdd])
  refine rg_nil ?_
  refine hK1 _ ?_; clear hK1; refine awp_keep [0, 1, 2, 3, 4, 5, 6] ?_; simp only [keepEnv, lkp, zE, reduceCtorEq, reduceEqDiff, argEnv, reduceAdd]
  refine awp_seq_k fun K2 hK2 => ?_
  refine awp_seq_k fun K3 hK3 => ?_
  refine awp_reg hP hN rfl ?_
  iterate 2 (refine rg_step rfl fun K0 hK0 => ?_; simp only [zE, op1, ev, lkp, avOf, acOf, opLoad, Nat.mul_one, readAC, isAggK, acs, Ty.dflt, zG, cellsAt, reduceCtorEq, reduceEqDiff, reduceAdd, reduceLeDiff, reduceLT, reduceMul, reduceSub, Try.st24, Try.td24, Mly.av]; (repeat refine And.intro (by first | omega | assumption | exact rfl) ?_); (first | refine hK0 _ ?_ | refine Or.inl (hK0 _ ?_)); clear hK0 K0; simp only [put, app, setAll, trOf, zE, zS, reduceAdd])
  refine rg_step rfl fun K0 hK0 => ?_
  refine op_call (h := call_of_pure (qcheck_c a b)) rfl rfl (by first | exact rfl | (simp only [ev, keepEnv, lkp, zE, reduceCtorEq, reduceEqDiff, argEnv, reduceAdd]; exact rfl)) (by simp only [zE, zG, op1, ev, lkp, avOf, acOf, cellsAV, acs, capAV, mv1, mvC, Ty.dflt, reduceCtorEq, reduceEqDiff, reduceAdd, reduceLeDiff, reduceLT, reduceMul, reduceSub, Mly.av]) ?_
  refine hK0 _ ?_; clear hK0 K0; simp only [put, app, setAll, trOf, zE, zS, reduceAdd]
  (refine rg_step rfl fun K0 hK0 => ?_; simp only [zE, op1, ev, lkp, avOf, acOf, ev, reduceCtorEq, reduceEqDiff, reduceAdd, reduceLeDiff, reduceLT, reduceMul, reduceSub, Try.td27, Mly.av]; (repeat refine And.intro (by first | omega | assumption | exact rfl) ?_); (first | refine hK0 _ ?_ | refine Or.inl (hK0 _ ?_)); clear hK0 K0; simp only [put, app, setAll, trOf, zE, zS, reduceAdd])
  refine rg_nil ?_
  refine hK3 _ ?_; clear hK3; refine awp_keep [0, 1, 2, 3, 4, 5, 6, 7] ?_; simp only [keepEnv, lkp, zE, reduceCtorEq, reduceEqDiff, argEnv, reduceAdd]
  refine awp_seq_k fun K4 hK4 => ?_
  refine awp_reg hP hN rfl ?_
  iterate 2 (refine rg_step rfl fun K0 hK0 => ?_; simp only [zE, op1, ev, lkp, avOf, acOf, opBin, arith, inK_i64, eqACs, eqAC, reduceCtorEq, reduceEqDiff, reduceAdd, reduceLeDiff, reduceLT, reduceMul, reduceSub, Try.td27, Try.td4, Mly.av]; (repeat refine And.intro (by first | omega | assumption | exact rfl) ?_); (first | refine hK0 _ ?_ | refine Or.inl (hK0 _ ?_)); clear hK0 K0; simp only [put, app, setAll, trOf, zE, zS, reduceAdd])
  refine rg_nil ?_
  refine hK4 _ ?_; clear hK4; refine awp_keep [0, 1, 2, 3, 4, 5, 6, 7, 14] ?_; simp only [keepEnv, lkp, zE, reduceCtorEq, reduceEqDiff, argEnv, reduceAdd]
  refine awp_cond (by simp only [ev, keepEnv, lkp, zE, reduceCtorEq, reduceEqDiff, argEnv, reduceAdd]; exact rfl) (fun hc5 => ?_) (fun hc5 => ?_)
  · (try simp only [zB, reduceCtorEq] at hc5)
    refine awp_seq_k fun K6 hK6 => ?_
    refine awp_reg hP hN rfl ?_
    iterate 4 (refine rg_step rfl fun K0 hK0 => ?_; simp only [zE, op1, ev, lkp, avOf, acOf, ev, reduceCtorEq, reduceEqDiff, reduceAdd, reduceLeDiff, reduceLT, reduceMul, reduceSub, Try.el33, Try.td27, Try.td33, Try.td4, Mly.av]; (repeat refine And.intro (by first | omega | assumption | exact rfl) ?_); (first | refine hK0 _ ?_ | refine Or.inl (hK0 _ ?_)); clear hK0 K0; simp only [put, app, setAll, trOf, zE, zS, reduceAdd])
    refine rg_nil ?_
    refine hK6 _ ?_; clear hK6; refine awp_keep [0, 1, 2, 3, 4, 5, 6, 7, 14] ?_; simp only [keepEnv, lkp, zE, reduceCtorEq, reduceEqDiff, argEnv, reduceAdd]
    refine awp_ret ?_
    refine ⟨by first | exact .inl rfl | exact .inr rfl, _, rfl, ?_⟩; simp only [fzV, fz1, fzC, List.map_cons, List.map_nil, keepEnv, lkp, zE, reduceCtorEq, reduceEqDiff, argEnv, reduceAdd, Mly.av]
    first
    | (rw [dqW_bad ‹¬chqE a b = 0›]; exact vle_tup ⟨vle1_one (cle_nils rfl), vle1_one (.refl _), vle1_one (.refl _), trivial⟩)
    | (have h0 : chqE a b = 0 := by omega
       rw [dqW_ok h0, h0]; exact VLE.of_eq rfl)
  · (try simp only [zB, reduceCtorEq] at hc5)
    have hq := chqE_ok (a := a) (b := b) (by omega)
    refine awp_skip ?_
    refine hK2 _ ?_; clear hK2; refine awp_keep [0, 1, 2, 3, 4, 5, 6, 7, 14] ?_; simp only [keepEnv, lkp, zE, reduceCtorEq, reduceEqDiff, argEnv, reduceAdd]
    refine awp_seq_k fun K7 hK7 => ?_
    refine awp_reg hP hN rfl ?_
    iterate 7 (refine rg_step rfl fun K0 hK0 => ?_; simp only [zE, op1, ev, lkp, avOf, acOf, opLoad, Nat.mul_one, readAC, isAggK, acs, Ty.dflt, zG, cellsAt, opFieldAddr, opBuild, fillAC, writeAC, cellsAV, reduceCtorEq, reduceEqDiff, reduceAdd, reduceLeDiff, reduceLT, reduceMul, reduceSub, Try.fl88, Try.st24, Try.st88, Try.td1, Try.td24, Try.td3, Try.td88, Mly.av]; (repeat refine And.intro (by first | omega | assumption | exact rfl) ?_); (first | refine hK0 _ ?_ | refine Or.inl (hK0 _ ?_)); clear hK0 K0; simp only [put, app, setAll, trOf, zE, zS, reduceAdd])
    refine rg_step rfl fun K0 hK0 => ?_
    refine op_call (h := call_of_pure (search_c a b a.st b.st hq.1 hq.2.1 hq.2.2 ⟨hq.1.s1, hq.1.s2⟩ ⟨hq.2.1.s1, hq.2.1.s2⟩)) rfl rfl (by first | exact rfl | (simp only [ev, keepEnv, lkp, zE, reduceCtorEq, reduceEqDiff, argEnv, reduceAdd]; exact rfl)) (by simp only [zE, zG, op1, ev, lkp, avOf, acOf, cellsAV, acs, capAV, mv1, mvC, Ty.dflt, reduceCtorEq, reduceEqDiff, reduceAdd, reduceLeDiff, reduceLT, reduceMul, reduceSub, Mly.av]) ?_
    refine hK0 _ ?_; clear hK0 K0; simp only [put, app, setAll, trOf, zE, zS, reduceAdd]
    iterate 5 (refine rg_step rfl fun K0 hK0 => ?_; simp only [zE, op1, ev, lkp, avOf, acOf, opExtract, reduceCtorEq, reduceEqDiff, reduceAdd, reduceLeDiff, reduceLT, reduceMul, reduceSub, Try.el33, Try.td1, Try.td33, Try.td4, Mly.av]; (repeat refine And.intro (by first | omega | assumption | exact rfl) ?_); (first | refine hK0 _ ?_ | refine Or.inl (hK0 _ ?_)); clear hK0 K0; simp only [put, app, setAll, trOf, zE, zS, reduceAdd])
    refine rg_nil ?_
    refine hK7 _ ?_; clear hK7; refine awp_keep [0, 1, 2, 3, 4, 5, 6, 7, 8, 9, 14] ?_; simp only [keepEnv, lkp, zE, reduceCtorEq, reduceEqDiff, argEnv, reduceAdd]
    refine awp_seq_k fun K8 hK8 => ?_
    refine awp_reg hP hN rfl ?_
    iterate 5 (refine rg_step rfl fun K0 hK0 => ?_; simp only [zE, op1, ev, lkp, avOf, acOf, ev, reduceCtorEq, reduceEqDiff, reduceAdd, reduceLeDiff, reduceLT, reduceMul, reduceSub, Try.el33, Try.td27, Try.td33, Try.td4, Mly.av]; (repeat refine And.intro (by first | omega | assumption | exact rfl) ?_); (first | refine hK0 _ ?_ | refine Or.inl (hK0 _ ?_)); clear hK0 K0; simp only [put, app, setAll, trOf, zE, zS, reduceAdd])
    refine rg_nil ?_
    refine hK8 _ ?_; clear hK8; refine awp_keep [0, 1, 2, 3, 4, 5, 6, 7, 8, 9, 14] ?_; simp only [keepEnv, lkp, zE, reduceCtorEq, reduceEqDiff, argEnv, reduceAdd]
    refine awp_ret ?_
    refine ⟨by first | exact .inl rfl | exact .inr rfl, _, rfl, ?_⟩; simp only [fzV, fz1, fzC, List.map_cons, List.map_nil, keepEnv, lkp, zE, reduceCtorEq, reduceEqDiff, argEnv, reduceAdd, Mly.av]
    first
    | (rw [dqW_bad ‹¬chqE a b = 0›]; exact vle_tup ⟨vle1_one (cle_nils rfl), vle1_one (.refl _), vle1_one (.refl _), trivial⟩)
    | (have h0 : chqE a b = 0 := by omega
       rw [dqW_ok h0, h0]; exact VLE.of_eq rfl)
end Go.Proofs.Ytfbnhgefkdhiaaa
namespace Go.Proofs.Ytfbnhgefkdhiaaa
open Go Go.AV
open Nat (reduceEqDiff reduceAdd reduceLeDiff reduceLT reduceMul reduceSub)
open List (set_cons_zero set_cons_succ)
set_option maxRecDepth 100000 in
theorem equal_c (a b : Mly) : PURE Try.prog 29 [a.av, b.av] (.tup [.one (.bool (eqQ a b)), .one (.int .i64 (chqE a b))]) := by
  refine pure_of_le Try.func29 rfl (by kernel_rfl) (Nat.le_of_ble_eq_true rfl) rfl fun C hP hN hB => ?_
  replace hN : C.N = 23 := hN
  simp only [argEnv, reduceAdd]
  refine awp_seq_k fun K1 hK1 => ?_
  refine awp_reg hP hN rfl ?_
  iterate 4 (refine rg_step rfl fun K0 hK0 => ?_; simp only [zE, op1, ev, lkp, avOf, acOf, opBox, cellsAV, reduceCtorEq, reduceEqDiff, reduceAdd, reduceLeDiff, reduceLT, reduceMul, reduceSub, Try.st24, Try.td24, Try.td27, Try.td4, Mly.av]; (repeat refine And.intro (by first | omega | assumption | exact rfl) ?_); (first | refine hK0 _ ?_ | refine Or.inl (hK0 _ ?_)); clear hK0 K0; simp only [put, app, setAll, trOf, zE, zS, reduceAdd])
  refine rg_nil ?_
  refine hK1 _ ?_; clear hK1; refine awp_keep [0, 1, 2, 3, 4, 5] ?_; simp only [keepEnv, lkp, zE, reduceCtorEq, reduceEqDiff, argEnv, reduceAdd]
  refine awp_seq_k fun K2 hK2 => ?_
  refine awp_reg hP hN rfl ?_
  iterate 2 (refine rg_step rfl fun K0 hK0 => ?_; simp only [zE, op1, ev, lkp, avOf, acOf, opLoad, Nat.mul_one, readAC, isAggK, acs, Ty.dflt, zG, cellsAt, reduceCtorEq, reduceEqDiff, reduceAdd, reduceLeDiff, reduceLT, reduceMul, reduceSub, Try.st24, Try.td24, Mly.av]; (repeat refine And.intro (by first | omega | assumption | exact rfl) ?_); (first | refine hK0 _ ?_ | refine Or.inl (hK0 _ ?_)); clear hK0 K0; simp only [put, app, setAll, trOf, zE, zS, reduceAdd])
  refine rg_step rfl fun K0 hK0 => ?_
  refine op_call (h := call_of_pure (dist_c a b)) rfl rfl (by first | exact rfl | (simp only [ev, keepEnv, lkp, zE, reduceCtorEq, reduceEqDiff, argEnv, reduceAdd]; exact rfl)) (by simp only [zE, zG, op1, ev, lkp, avOf, acOf, cellsAV, acs, capAV, mv1, mvC, Ty.dflt, reduceCtorEq, reduceEqDiff, reduceAdd, reduceLeDiff, reduceLT, reduceMul, reduceSub, Mly.av]) ?_
  refine hK0 _ ?_; clear hK0 K0; simp only [put, app, setAll, trOf, zE, zS, reduceAdd]
  iterate 7 (refine rg_step rfl fun K0 hK0 => ?_; simp only [zE, op1, ev, lkp, avOf, acOf, opExtract, reduceCtorEq, reduceEqDiff, reduceAdd, reduceLeDiff, reduceLT, reduceMul, reduceSub, Try.el33, Try.td1, Try.td2, Try.td27, Try.td33, Try.td4, Mly.av]; (repeat refine And.intro (by first | omega | assumption | exact rfl) ?_); (first | refine hK0 _ ?_ | refine Or.inl (hK0 _ ?_)); clear hK0 K0; simp only [put, app, setAll, trOf, zE, zS, reduceAdd])
  refine rg_nil ?_
  refine hK2 _ ?_; clear hK2; refine awp_keep [0, 1, 2, 3, 4, 5, 7, 8] ?_; simp only [keepEnv, lkp, zE, reduceCtorEq, reduceEqDiff, argEnv, reduceAdd]
  refine awp_seq_k fun K3 hK3 => ?_
  refine awp_reg hP hN rfl ?_
  iterate 2 (refine rg_step rfl fun K0 hK0 => ?_; simp only [zE, op1, ev, lkp, avOf, acOf, opBin, arith, inK_i64, eqACs, eqAC, reduceCtorEq, reduceEqDiff, reduceAdd, reduceLeDiff, reduceLT, reduceMul, reduceSub, Try.td27, Try.td4, Mly.av]; (repeat refine And.intro (by first | omega | assumption | exact rfl) ?_); (first | refine hK0 _ ?_ | refine Or.inl (hK0 _ ?_)); clear hK0 K0; simp only [put, app, setAll, trOf, zE, zS, reduceAdd])
  (refine rg_step rfl fun K0 hK0 => ?_; simp only [zE, op1, ev, lkp, avOf, acOf, ev, reduceCtorEq, reduceEqDiff, reduceAdd, reduceLeDiff, reduceLT, reduceMul, reduceSub, Try.td4, Mly.av]; (repeat refine And.intro (by first | omega | assumption | exact rfl) ?_); (first | refine hK0 _ ?_ | refine Or.inl (hK0 _ ?_)); clear hK0 K0; simp only [put, app, setAll, trOf, zE, zS, reduceAdd])
  refine' rg_join_n (want := true) 2 rfl (m := 18) (by simp only [keepEnv, lkp, zE, reduceCtorEq, reduceEqDiff, argEnv, reduceAdd]; exact rfl) (by kernel_rfl) rfl rfl rfl rfl rfl (fun hg4 => ?a4) ?b4 ?c4
  case a4 =>
    have hq4 := hg4; (try simp only [zB, reduceCtorEq] at hg4); simp only [List.take_succ_cons, List.take_zero, List.cons_append, List.nil_append]
    (refine rg_do rfl fun K0 hK0 => ?_; simp only [zE, op1, ev, lkp, avOf, acOf, ev, reduceCtorEq, reduceEqDiff, reduceAdd, reduceLeDiff, reduceLT, reduceMul, reduceSub, Try.td4, Mly.av]; (repeat refine And.intro (by first | omega | assumption | exact rfl) ?_); (first | refine hK0 _ ?_ | refine Or.inl (hK0 _ ?_)); clear hK0 K0; simp only [put, app, setAll, trOf, zE, zS, reduceAdd])
    (refine rg_do rfl fun K0 hK0 => ?_; simp only [zE, op1, ev, lkp, avOf, acOf, opUn, reduceCtorEq, reduceEqDiff, reduceAdd, reduceLeDiff, reduceLT, reduceMul, reduceSub, Try.td4, Mly.av]; (repeat refine And.intro (by first | omega | assumption | exact rfl) ?_); (first | refine hK0 _ ?_ | refine Or.inl (hK0 _ ?_)); clear hK0 K0; simp only [put, app, setAll, trOf, zE, zS, reduceAdd])
    (refine rg_step rfl fun K0 hK0 => ?_; simp only [zE, op1, ev, lkp, avOf, acOf, opPick, reduceCtorEq, reduceEqDiff, reduceAdd, reduceLeDiff, reduceLT, reduceMul, reduceSub, Try.td4, Mly.av]; (repeat refine And.intro (by first | omega | assumption | exact rfl) ?_); (first | refine hK0 _ ?_ | refine Or.inl (hK0 _ ?_)); clear hK0 K0; simp only [put, app, setAll, trOf, zE, zS, reduceAdd])
    refine rg_nil ?_
    refine ⟨by simp only [keepEnv, lkp, zE, reduceCtorEq, reduceEqDiff, argEnv, reduceAdd]; exact rfl, rfl, ?_, rfl⟩; (repeat refine keep_cons rfl ?_); exact keep_m (by exact rfl) hq4
  case b4 => exact tle_of (by first | rfl | (simp [tleB]; done) | decide)
  simp only [join_or, join_and]
  iterate 3 (refine rg_step rfl fun K0 hK0 => ?_; simp only [zE, op1, ev, lkp, avOf, acOf, ev, reduceCtorEq, reduceEqDiff, reduceAdd, reduceLeDiff, reduceLT, reduceMul, reduceSub, Try.td27, Try.td4, Mly.av]; (repeat refine And.intro (by first | omega | assumption | exact rfl) ?_); (first | refine hK0 _ ?_ | refine Or.inl (hK0 _ ?_)); clear hK0 K0; simp only [put, app, setAll, trOf, zE, zS, reduceAdd])
  refine rg_nil ?_
  refine hK3 _ ?_; clear hK3; refine awp_keep [0, 1, 2, 3, 4, 5, 7, 8] ?_; simp only [keepEnv, lkp, zE, reduceCtorEq, reduceEqDiff, argEnv, reduceAdd]
  refine awp_ret ?_
  refine ⟨by first | exact .inl rfl | exact .inr rfl, _, rfl, ?_⟩; simp only [fzV, fz1, fzC, List.map_cons, List.map_nil, keepEnv, lkp, zE, reduceCtorEq, reduceEqDiff, argEnv, reduceAdd, Mly.av]
  refine VLE.of_eq ?_
  rfl
end Go.Proofs.Ytfbnhgefkdhiaaa
namespace Go.AV
open Nat (reduceEqDiff reduceAdd reduceLeDiff reduceLT reduceMul reduceSub)
open List (set_cons_zero set_cons_succ)
/-plain-/
theorem pats_free {caps : List Cap} (h : caps.all isPat = true) (f : Go.FuncId) (n : Nat) : freeC n (.fn f caps) = true := by
  simp only [freeC]
  rw [List.all_eq_true] at h ⊢
  intro x hx
  have := h x hx
  cases x with
  | ref k => cases this
  | pat t d => rfl
  | pfn f ds => rfl
end Go.AV
namespace Go.Proofs.Ytfbnhgefkdhiaaa
open Go Go.AV
open Nat (reduceEqDiff reduceAdd reduceLeDiff reduceLT reduceMul reduceSub)
open List (set_cons_zero set_cons_succ)
set_option maxRecDepth 100000 in
set_option maxHeartbeats 1500000 in
theorem bbuild_c (n f : Nat) (caps : List Cap) (F : SYS) (p0 : PP) (I : PP → Prop) (N : Int) (hN : N = (n : Int)) (hcap : caps.all isPat = true) (hn : n ≤ 1000) (h0 : I p0) (hKI : ∀ q, I q → ∀ x, x < n → I (F q x).1) (hF : ∀ q x, I q → x < n → PURE Try.prog f (.agg [.int .i64 q.1, .int .i64 q.2] :: .one (.int .i64 (x : Int)) :: caps.map capAV) (.agg [.int .i64 (F q x).1.1, .int .i64 (F q x).1.2, .int .i64 (F q x).2])) : PURE Try.prog 32 [.one (.int .i64 N), .agg [.int .i64 p0.1, .int .i64 p0.2], .one (.fn f caps)] (.tup [(bM F n p0).av, .one (.int .i64 (bE F n p0))]) := by
  subst hN
  refine pure_of_le Try.func32 rfl (by kernel_rfl) (Nat.le_of_ble_eq_true rfl) (by simp only [List.all_cons, List.all_nil, pureV, pure1, pureC, hcap, Bool.and_true]) fun C hP hN hB => ?_
  replace hN : C.N = 93 := hN
  simp only [argEnv, reduceAdd]
  refine awp_seq_k fun K1 hK1 => ?_
  refine awp_reg hP hN rfl ?_
  iterate 3 (refine rg_step rfl fun K0 hK0 => ?_; simp only [zE, op1, ev, lkp, avOf, acOf, opBox, cellsAV, opAlloc, reduceCtorEq, reduceEqDiff, reduceAdd, reduceLeDiff, reduceLT, reduceMul, reduceSub, Try.fl51, Try.st24, Try.st51, Try.td24, Try.td27, Try.td51, Mly.av, List.length_append, List.length_map, List.length_cons, List.length_nil, bN_len, bO_len]; (repeat refine And.intro (by first | omega | assumption | exact rfl) ?_); (first | refine hK0 _ ?_ | refine Or.inl (hK0 _ ?_)); clear hK0 K0; simp only [put, app, setAll, trOf, zE, zS, reduceAdd])
  refine rg_nil ?_
  refine hK1 _ ?_; clear hK1; refine awp_keep [0, 1, 2, 4, 6, 7] ?_; simp only [keepEnv, lkp, zE, reduceCtorEq, reduceEqDiff, argEnv, reduceAdd]
  refine awp_seq_k fun K2 hK2 => ?_
  refine awp_reg hP hN rfl ?_
  iterate 4 (refine rg_step rfl fun K0 hK0 => ?_; simp only [zE, op1, ev, lkp, avOf, acOf, opBuild, fillAC, writeAC, cellsAV, opAlloc, opStore, Nat.mul_one, datOf, acs, Ty.size, Ty.dflt, zG, reduceCtorEq, reduceEqDiff, reduceAdd, reduceLeDiff, reduceLT, reduceMul, reduceSub, Try.st24, Try.td24, Try.td3, Mly.av, List.length_append, List.length_map, List.length_cons, List.length_nil, bN_len, bO_len]; (repeat refine And.intro (by first | omega | assumption | exact rfl) ?_); (first | refine hK0 _ ?_ | refine Or.inl (hK0 _ ?_)); clear hK0 K0; simp only [put, app, setAll, trOf, zE, zS, reduceAdd])
  refine rg_nil ?_
  refine hK2 _ ?_; clear hK2; refine awp_keep [0, 1, 2, 4, 6, 7, 8] ?_; simp only [keepEnv, lkp, zE, reduceCtorEq, reduceEqDiff, argEnv, reduceAdd]
  refine awp_seq_k fun K3 hK3 => ?_
  refine awp_reg hP hN rfl ?_
  (refine rg_step rfl fun K0 hK0 => ?_; simp only [zE, op1, ev, lkp, avOf, acOf, opLoad, Nat.mul_one, readAC, isAggK, acs, Ty.dflt, zG, cellsAt, reduceCtorEq, reduceEqDiff, reduceAdd, reduceLeDiff, reduceLT, reduceMul, reduceSub, Try.fl51, Try.st51, Try.td51, Mly.av, List.length_append, List.length_map, List.length_cons, List.length_nil, bN_len, bO_len]; (repeat refine And.intro (by first | omega | assumption | exact rfl) ?_); (first | refine hK0 _ ?_ | refine Or.inl (hK0 _ ?_)); clear hK0 K0; simp only [put, app, setAll, trOf, zE, zS, reduceAdd])
  (refine rg_step rfl fun K0 hK0 => ?_; simp only [zE, op1, ev, lkp, avOf, acOf, opBuildSlice, fillAC, chunk, rep, datOf, writeAC, cellsAV, Ty.size, reduceCtorEq, reduceEqDiff, reduceAdd, reduceLeDiff, reduceLT, reduceMul, reduceSub, Try.el69, Try.td1, Try.td69, Mly.av, List.length_append, List.length_map, List.length_cons, List.length_nil, bN_len, bO_len]; (repeat refine And.intro (by first | omega | assumption | exact rfl) ?_); refine Or.inr (Or.inl (hK0 _ ?_)); clear hK0 K0; simp only [put, app, setAll, trOf, zE, zS, reduceAdd])
  (refine rg_step rfl fun K0 hK0 => ?_; simp only [zE, op1, ev, lkp, avOf, acOf, ev, reduceCtorEq, reduceEqDiff, reduceAdd, reduceLeDiff, reduceLT, reduceMul, reduceSub, Try.el69, Try.td69, Mly.av, List.length_append, List.length_map, List.length_cons, List.length_nil, bN_len, bO_len]; (repeat refine And.intro (by first | omega | assumption | exact rfl) ?_); (first | refine hK0 _ ?_ | refine Or.inl (hK0 _ ?_)); clear hK0 K0; simp only [put, app, setAll, trOf, zE, zS, reduceAdd])
  refine rg_nil ?_
  refine hK3 _ ?_; clear hK3; refine awp_keep [0, 1, 2, 4, 6, 7, 8, 9] ?_; simp only [keepEnv, lkp, zE, reduceCtorEq, reduceEqDiff, argEnv, reduceAdd]
  refine awp_seq_k fun K4 hK4 => ?_
  refine awp_seq_k fun K5 hK5 => ?_
  refine awp_reg hP hN rfl ?_
  (refine rg_step rfl fun K0 hK0 => ?_; simp only [zE, op1, ev, lkp, avOf, acOf, ev, reduceCtorEq, reduceEqDiff, reduceAdd, reduceLeDiff, reduceLT, reduceMul, reduceSub, Try.td3, Mly.av, List.length_append, List.length_map, List.length_cons, List.length_nil, bN_len, bO_len]; (repeat refine And.intro (by first | omega | assumption | exact rfl) ?_); (first | refine hK0 _ ?_ | refine Or.inl (hK0 _ ?_)); clear hK0 K0; simp only [put, app, setAll, trOf, zE, zS, reduceAdd])
  refine rg_nil ?_
  refine hK5 _ ?_; clear hK5; refine awp_keep [0, 1, 2, 4, 6, 7, 8, 9, 10] ?_; simp only [keepEnv, lkp, zE, reduceCtorEq, reduceEqDiff, argEnv, reduceAdd]
  refine awp_block ?_
  refine awp_own_cell 2 2 (.list (.int .i64)) 33 (by decide) rfl rfl ?_; simp only [zS, List.length_cons, List.length_nil, List.cons_append, List.nil_append, Nat.zero_add, reduceAdd]
  refine awp_own_cell 2 3 (.list (.int .i64)) 33 (by decide) rfl rfl ?_; simp only [zS, List.length_cons, List.length_nil, List.cons_append, List.nil_append, Nat.zero_add, reduceAdd]
  refine awp_loop (fun n6 s6 => ∃ (i : Nat) (s : BST) (v : Nat) (u : Nat), (s.1.length ≤ 128) ∧ (i ≤ s.1.length) ∧ (bF F n (130 - i) i s = bR F n p0) ∧ (∀ q, q ∈ s.1 → I q) ∧ (s.2.1.length = i) ∧ (s.2.2.length = i) ∧ n6 = 130 - i ∧ s6 = { env := [(0, .one (.int .i64 (n : Int))), (2, .one (.fn f caps)), (6, .one (.ptr 1 0 0 0)), (8, .one (.ptr 2 0 0 0)), (9, .one (.row 3 v)), (10, .one (.int .i64 (i : Int)))], L := [.vars 51 [.int .i64 p0.1, .int .i64 p0.2], .vars 24 [.int .i64 0, .int .i64 0, .nils, .nils], .vars 24 [.int .i64 (n : Int), .int .i64 0, .row 4 u, .row 5 u], .row (.pair (.int .i64) (.pair (.int .i64) .unit)) 51 v (List.map encB s.1), .row (.list (.int .i64)) 33 u s.2.1, .row (.list (.int .i64)) 33 u s.2.2] }) ?_ ?_
  · refine ⟨_, _, sub_keep [0, 2, 6, 8, 9, 10], 0, ([p0], [], []), 0, 0, by simp, Nat.zero_le _, rfl, fun q hq => by simp at hq; subst hq; exact h0, rfl, rfl, rfl, rfl⟩
  · rintro n6 s6 ⟨i, s, v, u, hsl, hil0, hbf, hI, hnl, hol, rfl, rfl⟩
    refine awp_seq_k fun K7 hK7 => ?_
    refine awp_seq_k fun K8 hK8 => ?_
    refine awp_reg hP hN rfl ?_
    iterate 4 (refine rg_step rfl fun K0 hK0 => ?_; simp only [zE, op1, ev, lkp, avOf, acOf, opCallAny, opMM, opLen, lenAC, lenOk, fpAC, Nat.div_one, opAppend, srcOf, Ty.size, datOf, dite_true, opBin, arith, inK_i64, eqACs, eqAC, reduceCtorEq, reduceEqDiff, reduceAdd, reduceLeDiff, reduceLT, reduceMul, reduceSub, Try.el69, Try.td3, Try.td4, Try.td69, Mly.av, List.length_append, List.length_map, List.length_cons, List.length_nil, bN_len, bO_len]; (repeat refine And.intro (by first | omega | assumption | exact rfl) ?_); (first | refine hK0 _ ?_ | refine Or.inl (hK0 _ ?_)); clear hK0 K0; simp only [put, app, setAll, trOf, zE, zS, reduceAdd])
    refine rg_nil ?_
    refine hK8 _ ?_; clear hK8; refine awp_keep [0, 2, 6, 8, 9, 10, 23] ?_; simp only [keepEnv, lkp, zE, reduceCtorEq, reduceEqDiff, argEnv, reduceAdd]
    refine awp_cond (by simp only [ev, keepEnv, lkp, zE, reduceCtorEq, reduceEqDiff, argEnv, reduceAdd]; exact rfl) (fun hc9 => ?_) (fun hc9 => ?_)
    · (try simp only [zB, reduceCtorEq] at hc9)
      refine awp_skip ?_
      refine hK7 _ ?_; clear hK7; refine awp_keep [0, 2, 6, 8, 9, 10, 23] ?_; simp only [keepEnv, lkp, zE, reduceCtorEq, reduceEqDiff, argEnv, reduceAdd]
      refine awp_seq_k fun K10 hK10 => ?_
      refine awp_block ?_
      refine awp_seq_k fun K11 hK11 => ?_
      have hil9 : i < s.1.length := by omega
      refine awp_reg hP hN rfl ?_
      iterate 2 (refine rg_step rfl fun K0 hK0 => ?_; simp only [zE, op1, ev, lkp, avOf, acOf, ev, reduceCtorEq, reduceEqDiff, reduceAdd, reduceLeDiff, reduceLT, reduceMul, reduceSub, Try.el33, Try.td33, Mly.av, List.length_append, List.length_map, List.length_cons, List.length_nil, bN_len, bO_len]; (repeat refine And.intro (by first | omega | assumption | exact rfl) ?_); (first | refine hK0 _ ?_ | refine Or.inl (hK0 _ ?_)); clear hK0 K0; simp only [put, app, setAll, trOf, zE, zS, reduceAdd])
      refine rg_nil ?_
      refine hK11 _ ?_; clear hK11; refine awp_keep [0, 2, 6, 8, 9, 10, 11, 12, 23] ?_; simp only [keepEnv, lkp, zE, reduceCtorEq, reduceEqDiff, argEnv, reduceAdd]
      refine awp_seq_k fun K12 hK12 => ?_
      refine awp_seq_k fun K13 hK13 => ?_
      refine awp_reg hP hN rfl ?_
      iterate 2 (refine rg_step rfl fun K0 hK0 => ?_; simp only [zE, op1, ev, lkp, avOf, acOf, ev, reduceCtorEq, reduceEqDiff, reduceAdd, reduceLeDiff, reduceLT, reduceMul, reduceSub, Try.td3, Mly.av, List.length_append, List.length_map, List.length_cons, List.length_nil, bN_len, bO_len]; (repeat refine And.intro (by first | omega | assumption | exact rfl) ?_); (first | refine hK0 _ ?_ | refine Or.inl (hK0 _ ?_)); clear hK0 K0; simp only [put, app, setAll, trOf, zE, zS, reduceAdd])
      refine rg_nil ?_
      refine hK13 _ ?_; clear hK13; refine awp_keep [0, 2, 6, 8, 9, 10, 11, 12, 23, 26, 27] ?_; simp only [keepEnv, lkp, zE, reduceCtorEq, reduceEqDiff, argEnv, reduceAdd]
      refine awp_block ?_
      refine awp_own 11 (.int .i64) 3 (by decide) rfl ?_; simp only [List.length_cons, List.length_nil, List.cons_append, List.nil_append, Nat.zero_add, reduceAdd]
      refine awp_own 12 (.int .i64) 3 (by decide) rfl ?_; simp only [List.length_cons, List.length_nil, List.cons_append, List.nil_append, Nat.zero_add, reduceAdd]
      refine awp_loop (fun n14 s14 => ∃ (x : Nat) (v2 : Nat) (w : Nat), (x ≤ n) ∧ ((bL F (s.1.getD i d0) s.1 x).length ≤ 128) ∧ (∀ y, y < x → bX F (s.1.getD i d0) s.1 y = false) ∧ (∀ q, q ∈ (bL F (s.1.getD i d0) s.1 x) → I q) ∧ n14 = n - x ∧ s14 = { env := [(0, .one (.int .i64 (n : Int))), (2, .one (.fn f caps)), (6, .one (.ptr 1 0 0 0)), (8, .one (.ptr 2 0 0 0)), (9, .one (.row 3 v2)), (10, .one (.int .i64 (i : Int))), (11, .one (.row 6 w)), (12, .one (.row 7 w)), (26, .one (.int .i64 (n : Int))), (27, .one (.int .i64 (x : Int)))], L := [.vars 51 [.int .i64 p0.1, .int .i64 p0.2], .vars 24 [.int .i64 0, .int .i64 0, .nils, .nils], .vars 24 [.int .i64 (n : Int), .int .i64 0, .row 4 u, .row 5 u], .row (.pair (.int .i64) (.pair (.int .i64) .unit)) 51 v2 (List.map encB (bL F (s.1.getD i d0) s.1 x)), .row (.list (.int .i64)) 33 u s.2.1, .row (.list (.int .i64)) 33 u s.2.2, .row (.int .i64) 3 w (bN F (s.1.getD i d0) s.1 x), .row (.int .i64) 3 w (bO F (s.1.getD i d0) x)] }) ?_ ?_
      · refine ⟨_, _, sub_keep [0, 2, 6, 8, 9, 10, 11, 12, 26, 27], 0, v, 0, Nat.zero_le _, hsl, fun y hy => by omega, hI, rfl, rfl⟩
      · rintro n14 s14 ⟨x, v2, w, hx, hxl, hbx, hIx, rfl, rfl⟩
        refine awp_seq_k fun K15 hK15 => ?_
        refine awp_reg hP hN rfl ?_
        (refine rg_step rfl fun K0 hK0 => ?_; simp only [zE, op1, ev, lkp, avOf, acOf, opBin, arith, inK_i64, eqACs, eqAC, reduceCtorEq, reduceEqDiff, reduceAdd, reduceLeDiff, reduceLT, reduceMul, reduceSub, Try.td3, Try.td4, Mly.av, List.length_append, List.length_map, List.length_cons, List.length_nil, bN_len, bO_len]; (repeat refine And.intro (by first | omega | assumption | exact rfl) ?_); (first | refine hK0 _ ?_ | refine Or.inl (hK0 _ ?_)); clear hK0 K0; simp only [put, app, setAll, trOf, zE, zS, reduceAdd])
        refine rg_nil ?_
        refine hK15 _ ?_; clear hK15; refine awp_keep [0, 2, 6, 8, 9, 10, 11, 12, 26, 27, 28] ?_; simp only [keepEnv, lkp, zE, reduceCtorEq, reduceEqDiff, argEnv, reduceAdd]
        refine awp_seq_k fun K16 hK16 => ?_
        refine awp_cond (by simp only [ev, keepEnv, lkp, zE, reduceCtorEq, reduceEqDiff, argEnv, reduceAdd]; exact rfl) (fun hc17 => ?_) (fun hc17 => ?_)
        · (try simp only [zB, reduceCtorEq] at hc17)
          refine awp_skip ?_
          refine hK16 _ ?_; clear hK16; refine awp_keep [0, 2, 6, 8, 9, 10, 11, 12, 26, 27, 28] ?_; simp only [keepEnv, lkp, zE, reduceCtorEq, reduceEqDiff, argEnv, reduceAdd]
          refine awp_seq_k fun K18 hK18 => ?_
          refine awp_block ?_
          refine awp_seq_k fun K19 hK19 => ?_
          refine awp_reg hP hN rfl ?_
          iterate 2 (refine rg_step rfl fun K0 hK0 => ?_; simp only [zE, op1, ev, lkp, avOf, acOf, ev, reduceCtorEq, reduceEqDiff, reduceAdd, reduceLeDiff, reduceLT, reduceMul, reduceSub, Try.td3, Mly.av, List.length_append, List.length_map, List.length_cons, List.length_nil, bN_len, bO_len]; (repeat refine And.intro (by first | omega | assumption | exact rfl) ?_); (first | refine hK0 _ ?_ | refine Or.inl (hK0 _ ?_)); clear hK0 K0; simp only [put, app, setAll, trOf, zE, zS, reduceAdd])
          refine rg_nil ?_
          refine hK19 _ ?_; clear hK19; refine awp_keep [0, 2, 6, 8, 9, 10, 11, 12, 13, 26, 27, 28] ?_; simp only [keepEnv, lkp, zE, reduceCtorEq, reduceEqDiff, argEnv, reduceAdd]
          refine awp_seq_k fun K20 hK20 => ?_
          have hge9 := bL_ge F (s.1.getD i d0) s.1 x; have hgi : ∀ d, (List.map encB (bL F (s.1.getD i d0) s.1 x)).getD i d = ((s.1.getD i d0).1, ((s.1.getD i d0).2, ())) := fun d => by rw [encB_at (by omega), bL_at F _ x hil9]
          refine awp_reg hP hN rfl ?_
          iterate 6 (refine rg_step rfl fun K0 hK0 => ?_; simp only [zE, op1, ev, lkp, avOf, acOf, opIndexAddr, zG, Ty.dflt, Ty.size, Nat.mul_one, ne_eq, not_false_eq_true, Int.natCast_one, Int.mul_one, opLoad, readAC, isAggK, acs, cellsAt, reduceCtorEq, reduceEqDiff, reduceAdd, reduceLeDiff, reduceLT, reduceMul, reduceSub, Try.el69, Try.fl51, Try.st51, Try.td3, Try.td51, Try.td54, Try.td69, Mly.av, List.length_append, List.length_map, List.length_cons, List.length_nil, bN_len, bO_len, hgi]; (repeat refine And.intro (by first | omega | assumption | exact rfl) ?_); (first | refine hK0 _ ?_ | refine Or.inl (hK0 _ ?_)); clear hK0 K0; simp only [put, app, setAll, trOf, zE, zS, reduceAdd])
          refine rg_step rfl fun K0 hK0 => ?_
          refine op_call (h := call_of_pure (hF (s.1.getD i d0) x (hI _ (mem_d0 hil9)) (by omega))) rfl rfl (by first | exact rfl | (simp only [ev, keepEnv, lkp, zE, reduceCtorEq, reduceEqDiff, argEnv, reduceAdd]; exact rfl)) (by simp only [zE, zG, op1, ev, lkp, avOf, acOf, cellsAV, acs, capAV, mv1, mvC, Ty.dflt, reduceCtorEq, reduceEqDiff, reduceAdd, reduceLeDiff, reduceLT, reduceMul, reduceSub, Mly.av, List.length_append, List.length_map, List.length_cons, List.length_nil, bN_len, bO_len, hgi]) ?_
          refine hK0 _ ?_; clear hK0 K0; simp only [put, app, setAll, trOf, zE, zS, reduceAdd]
          iterate 2 (refine rg_step rfl fun K0 hK0 => ?_; simp only [zE, op1, ev, lkp, avOf, acOf, opAlloc, opStore, Nat.mul_one, cellsAV, writeAC, datOf, acs, Ty.size, Ty.dflt, zG, reduceCtorEq, reduceEqDiff, reduceAdd, reduceLeDiff, reduceLT, reduceMul, reduceSub, Try.st53, Try.td53, Mly.av, List.length_append, List.length_map, List.length_cons, List.length_nil, bN_len, bO_len, hgi]; (repeat refine And.intro (by first | omega | assumption | exact rfl) ?_); (first | refine hK0 _ ?_ | refine Or.inl (hK0 _ ?_)); clear hK0 K0; simp only [put, app, setAll, trOf, zE, zS, reduceAdd])
          refine rg_nil ?_
          refine hK20 _ ?_; clear hK20; refine awp_keep [0, 2, 6, 8, 9, 10, 11, 12, 13, 14, 26, 27, 28] ?_; simp only [keepEnv, lkp, zE, reduceCtorEq, reduceEqDiff, argEnv, reduceAdd]
          refine awp_seq_k fun K21 hK21 => ?_
          refine awp_reg hP hN rfl ?_
          (refine rg_step rfl fun K0 hK0 => ?_; simp only [zE, op1, ev, lkp, avOf, acOf, ev, reduceCtorEq, reduceEqDiff, reduceAdd, reduceLeDiff, reduceLT, reduceMul, reduceSub, Try.td3, Mly.av, List.length_append, List.length_map, List.length_cons, List.length_nil, bN_len, bO_len]; (repeat refine And.intro (by first | omega | assumption | exact rfl) ?_); (first | refine hK0 _ ?_ | refine Or.inl (hK0 _ ?_)); clear hK0 K0; simp only [put, app, setAll, trOf, zE, zS, reduceAdd])
          refine rg_nil ?_
          refine hK21 _ ?_; clear hK21; refine awp_keep [0, 2, 6, 8, 9, 10, 11, 12, 13, 14, 15, 26, 27, 28] ?_; simp only [keepEnv, lkp, zE, reduceCtorEq, reduceEqDiff, argEnv, reduceAdd]
          refine awp_seq_k fun K22 hK22 => ?_
          refine awp_block ?_
          refine awp_loop (fun n23 s23 => ∃ (k : Nat), (k ≤ (bL F (s.1.getD i d0) s.1 x).length) ∧ (∀ q, q < k → (bL F (s.1.getD i d0) s.1 x).getD q d0 ≠ (F (s.1.getD i d0) x).1) ∧ n23 = (bL F (s.1.getD i d0) s.1 x).length - k ∧ s23 = { env := [(0, .one (.int .i64 (n : Int))), (2, .one (.fn f caps)), (6, .one (.ptr 1 0 0 0)), (8, .one (.ptr 2 0 0 0)), (9, .one (.row 3 v2)), (10, .one (.int .i64 (i : Int))), (11, .one (.row 6 w)), (12, .one (.row 7 w)), (13, .one (.int .i64 (x : Int))), (14, .one (.ptr 8 0 0 0)), (15, .one (.int .i64 (k : Int))), (26, .one (.int .i64 (n : Int))), (27, .one (.int .i64 (x : Int)))], L := [.vars 51 [.int .i64 p0.1, .int .i64 p0.2], .vars 24 [.int .i64 0, .int .i64 0, .nils, .nils], .vars 24 [.int .i64 (n : Int), .int .i64 0, .row 4 u, .row 5 u], .row (.pair (.int .i64) (.pair (.int .i64) .unit)) 51 v2 (List.map encB (bL F (s.1.getD i d0) s.1 x)), .row (.list (.int .i64)) 33 u s.2.1, .row (.list (.int .i64)) 33 u s.2.2, .row (.int .i64) 3 w (bN F (s.1.getD i d0) s.1 x), .row (.int .i64) 3 w (bO F (s.1.getD i d0) x), .vars 53 [.int .i64 (F (s.1.getD i d0) x).1.1, .int .i64 (F (s.1.getD i d0) x).1.2, .int .i64 (F (s.1.getD i d0) x).2]] }) ?_ ?_
          · refine ⟨_, _, sub_keep [0, 2, 6, 8, 9, 10, 11, 12, 13, 14, 15, 26, 27], 0, Nat.zero_le _, fun q hq => by omega, rfl, rfl⟩
          · rintro n23 s23 ⟨k, hk, hq, rfl, rfl⟩
            refine awp_seq_k fun K24 hK24 => ?_
            refine awp_seq_k fun K25 hK25 => ?_
            obtain ⟨hgk1, hgk2⟩ := encB_df (bL F (s.1.getD i d0) s.1 x) k
            refine awp_drw hP hN Try.mixed rfl ?_
            iterate 4 (refine rg_step rfl fun K0 hK0 => ?_; simp only [zE, op1, ev, lkp, avOf, acOf, opCallAny, opMM, opLen, lenAC, lenOk, fpAC, Nat.div_one, opAppend, srcOf, Ty.size, datOf, dite_true, opBin, arith, inK_i64, eqACs, eqAC, reduceCtorEq, reduceEqDiff, reduceAdd, reduceLeDiff, reduceLT, reduceMul, reduceSub, Try.el69, Try.td3, Try.td4, Try.td69, Mly.av, List.length_append, List.length_map, List.length_cons, List.length_nil, bN_len, bO_len, hgk1, hgk2]; (repeat refine And.intro (by first | omega | assumption | exact rfl) ?_); (first | refine hK0 _ ?_ | refine Or.inl (hK0 _ ?_)); clear hK0 K0; simp only [put, app, setAll, trOf, zE, zS, reduceAdd])
            (refine rg_step rfl fun K0 hK0 => ?_; simp only [zE, op1, ev, lkp, avOf, acOf, ev, reduceCtorEq, reduceEqDiff, reduceAdd, reduceLeDiff, reduceLT, reduceMul, reduceSub, Try.td4, Mly.av, List.length_append, List.length_map, List.length_cons, List.length_nil, bN_len, bO_len, hgk1, hgk2]; (repeat refine And.intro (by first | omega | assumption | exact rfl) ?_); (first | refine hK0 _ ?_ | refine Or.inl (hK0 _ ?_)); clear hK0 K0; simp only [put, app, setAll, trOf, zE, zS, reduceAdd])
            refine' rg_join_n (want := true) 7 rfl (m := 41) (by simp only [keepEnv, lkp, zE, reduceCtorEq, reduceEqDiff, argEnv, reduceAdd]; exact rfl) (by kernel_rfl) rfl rfl rfl rfl rfl (fun hg26 => ?a26) ?b26 ?c26
            case a26 =>
              have hq26 := hg26; (try simp only [zB, reduceCtorEq] at hg26); simp only [List.take_succ_cons, List.take_zero, List.cons_append, List.nil_append]
              (refine rg_do rfl fun K0 hK0 => ?_; simp only [zE, op1, ev, lkp, avOf, acOf, ev, reduceCtorEq, reduceEqDiff, reduceAdd, reduceLeDiff, reduceLT, reduceMul, reduceSub, Try.el69, Try.td69, Mly.av, List.length_append, List.length_map, List.length_cons, List.length_nil, bN_len, bO_len, hgk1, hgk2]; (repeat refine And.intro (by first | omega | assumption | exact rfl) ?_); (first | refine hK0 _ ?_ | refine Or.inl (hK0 _ ?_)); clear hK0 K0; simp only [put, app, setAll, trOf, zE, zS, reduceAdd])
              (refine rg_do rfl fun K0 hK0 => ?_; simp only [zE, op1, ev, lkp, avOf, acOf, ev, reduceCtorEq, reduceEqDiff, reduceAdd, reduceLeDiff, reduceLT, reduceMul, reduceSub, Try.td3, Mly.av, List.length_append, List.length_map, List.length_cons, List.length_nil, bN_len, bO_len, hgk1, hgk2]; (repeat refine And.intro (by first | omega | assumption | exact rfl) ?_); (first | refine hK0 _ ?_ | refine Or.inl (hK0 _ ?_)); clear hK0 K0; simp only [put, app, setAll, trOf, zE, zS, reduceAdd])
              (refine rg_do rfl fun K0 hK0 => ?_; simp only [zE, op1, ev, lkp, avOf, acOf, opIndexAddr, zG, Ty.dflt, Ty.size, Nat.mul_one, ne_eq, not_false_eq_true, Int.natCast_one, Int.mul_one, reduceCtorEq, reduceEqDiff, reduceAdd, reduceLeDiff, reduceLT, reduceMul, reduceSub, Try.el69, Try.td69, Mly.av, List.length_append, List.length_map, List.length_cons, List.length_nil, bN_len, bO_len, hgk1, hgk2]; (repeat refine And.intro (by first | omega | assumption | exact rfl) ?_); (first | refine hK0 _ ?_ | refine Or.inl (hK0 _ ?_)); clear hK0 K0; simp only [put, app, setAll, trOf, zE, zS, reduceAdd])
              (refine rg_do rfl fun K0 hK0 => ?_; simp only [zE, op1, ev, lkp, avOf, acOf, opLoad, Nat.mul_one, readAC, isAggK, acs, Ty.dflt, zG, cellsAt, reduceCtorEq, reduceEqDiff, reduceAdd, reduceLeDiff, reduceLT, reduceMul, reduceSub, Try.fl51, Try.st51, Try.td51, Mly.av, List.length_append, List.length_map, List.length_cons, List.length_nil, bN_len, bO_len, hgk1, hgk2]; (repeat refine And.intro (by first | omega | assumption | exact rfl) ?_); (first | refine hK0 _ ?_ | refine Or.inl (hK0 _ ?_)); clear hK0 K0; simp only [put, app, setAll, trOf, zE, zS, reduceAdd])
              (refine rg_do rfl fun K0 hK0 => ?_; simp only [zE, op1, ev, lkp, avOf, acOf, opFieldAddr, reduceCtorEq, reduceEqDiff, reduceAdd, reduceLeDiff, reduceLT, reduceMul, reduceSub, Try.st53, Try.td53, Mly.av, List.length_append, List.length_map, List.length_cons, List.length_nil, bN_len, bO_len, hgk1, hgk2]; (repeat refine And.intro (by first | omega | assumption | exact rfl) ?_); (first | refine hK0 _ ?_ | refine Or.inl (hK0 _ ?_)); clear hK0 K0; simp only [put, app, setAll, trOf, zE, zS, reduceAdd])
              (refine rg_do rfl fun K0 hK0 => ?_; simp only [zE, op1, ev, lkp, avOf, acOf, opLoad, Nat.mul_one, readAC, isAggK, acs, Ty.dflt, zG, cellsAt, reduceCtorEq, reduceEqDiff, reduceAdd, reduceLeDiff, reduceLT, reduceMul, reduceSub, Try.fl51, Try.st51, Try.td51, Mly.av, List.length_append, List.length_map, List.length_cons, List.length_nil, bN_len, bO_len, hgk1, hgk2]; (repeat refine And.intro (by first | omega | assumption | exact rfl) ?_); (first | refine hK0 _ ?_ | refine Or.inl (hK0 _ ?_)); clear hK0 K0; simp only [put, app, setAll, trOf, zE, zS, reduceAdd])
              (refine rg_do rfl fun K0 hK0 => ?_; simp only [zE, op1, ev, lkp, avOf, acOf, opBin, arith, inK_i64, eqACs, eqAC, reduceCtorEq, reduceEqDiff, reduceAdd, reduceLeDiff, reduceLT, reduceMul, reduceSub, Try.fl51, Try.st51, Try.td4, Try.td51, Mly.av, List.length_append, List.length_map, List.length_cons, List.length_nil, bN_len, bO_len, hgk1, hgk2]; (repeat refine And.intro (by first | omega | assumption | exact rfl) ?_); (first | refine hK0 _ ?_ | refine Or.inl (hK0 _ ?_)); clear hK0 K0; simp only [put, app, setAll, trOf, zE, zS, reduceAdd])
              (refine rg_step rfl fun K0 hK0 => ?_; simp only [zE, op1, ev, lkp, avOf, acOf, opPick, reduceCtorEq, reduceEqDiff, reduceAdd, reduceLeDiff, reduceLT, reduceMul, reduceSub, Try.td4, Mly.av, List.length_append, List.length_map, List.length_cons, List.length_nil, bN_len, bO_len, hgk1, hgk2]; (repeat refine And.intro (by first | omega | assumption | exact rfl) ?_); (first | refine hK0 _ ?_ | refine Or.inl (hK0 _ ?_)); clear hK0 K0; simp only [put, app, setAll, trOf, zE, zS, reduceAdd])
              refine rg_nil ?_
              refine ⟨by simp only [keepEnv, lkp, zE, reduceCtorEq, reduceEqDiff, argEnv, reduceAdd]; exact rfl, rfl, ?_, rfl⟩; (repeat refine keep_cons rfl ?_); exact keep_m (by exact rfl) hq26
            case b26 => exact tle_of (by first | rfl | (simp [tleB]; done) | decide)
            simp only [join_or, join_and]
            refine rg_nil ?_
            refine ⟨by kernel_rfl, ?_⟩
            refine hK25 _ ?_; clear hK25; refine awp_keep [0, 2, 6, 8, 9, 10, 11, 12, 13, 14, 15, 26, 27, 49] ?_; simp only [keepEnv, lkp, zE, reduceCtorEq, reduceEqDiff, argEnv, reduceAdd]
            refine awp_cond (by simp only [ev, keepEnv, lkp, zE, reduceCtorEq, reduceEqDiff, argEnv, reduceAdd]; exact rfl) (fun hc27 => ?_) (fun hc27 => ?_)
            · (try simp only [zB, reduceCtorEq] at hc27)
              have hne : (bL F (s.1.getD i d0) s.1 x).getD k d0 ≠ (F (s.1.getD i d0) x).1 := fun e => by
                have e1 := congrArg Prod.fst e; have e2 := congrArg Prod.snd e; have h9 := hc27; rw [e1, e2] at h9; simp at h9; done
              refine awp_skip ?_
              refine hK24 _ ?_; clear hK24; refine awp_keep [0, 2, 6, 8, 9, 10, 11, 12, 13, 14, 15, 26, 27, 49] ?_; simp only [keepEnv, lkp, zE, reduceCtorEq, reduceEqDiff, argEnv, reduceAdd]
              refine awp_block ?_
              refine awp_reg hP hN rfl ?_
              iterate 3 (refine rg_step rfl fun K0 hK0 => ?_; simp only [zE, op1, ev, lkp, avOf, acOf, opBin, arith, inK_i64, eqACs, eqAC, reduceCtorEq, reduceEqDiff, reduceAdd, reduceLeDiff, reduceLT, reduceMul, reduceSub, Try.td3, Mly.av, List.length_append, List.length_map, List.length_cons, List.length_nil, bN_len, bO_len]; (repeat refine And.intro (by first | omega | assumption | exact rfl) ?_); (first | refine hK0 _ ?_ | refine Or.inl (hK0 _ ?_)); clear hK0 K0; simp only [put, app, setAll, trOf, zE, zS, reduceAdd])
              refine rg_nil ?_
              refine ⟨_, _, ?_, sub_keep [0, 2, 6, 8, 9, 10, 11, 12, 13, 14, 15, 26, 27], k + 1, by omega, fun q hq2 => ?_, rfl, rfl⟩
              · omega
              · by_cases e : q = k
                · rw [e]; exact hne
                · exact hq q (by omega)
            · (try simp only [zB, reduceCtorEq] at hc27)
              obtain ⟨hpk, hin1, hin2⟩ := posP (l := (bL F (s.1.getD i d0) s.1 x)) (q := (F (s.1.getD i d0) x).1) (k := k) hq (by omega) (fun hkl => Prod.ext (by have h9 := hc27; omega) (by have h9 := hc27; omega))
              refine awp_exit ?_
              refine hK22 _ ?_; clear hK22; refine awp_keep [0, 2, 6, 8, 9, 10, 11, 12, 13, 14, 15, 26, 27, 49] ?_; simp only [keepEnv, lkp, zE, reduceCtorEq, reduceEqDiff, argEnv, reduceAdd]
              refine awp_seq_k fun K28 hK28 => ?_
              refine awp_seq_k fun K29 hK29 => ?_
              refine awp_reg hP hN rfl ?_
              iterate 4 (refine rg_step rfl fun K0 hK0 => ?_; simp only [zE, op1, ev, lkp, avOf, acOf, opCallAny, opMM, opLen, lenAC, lenOk, fpAC, Nat.div_one, opAppend, srcOf, Ty.size, datOf, dite_true, opBin, arith, inK_i64, eqACs, eqAC, reduceCtorEq, reduceEqDiff, reduceAdd, reduceLeDiff, reduceLT, reduceMul, reduceSub, Try.el69, Try.td3, Try.td4, Try.td69, Mly.av, List.length_append, List.length_map, List.length_cons, List.length_nil, bN_len, bO_len]; (repeat refine And.intro (by first | omega | assumption | exact rfl) ?_); (first | refine hK0 _ ?_ | refine Or.inl (hK0 _ ?_)); clear hK0 K0; simp only [put, app, setAll, trOf, zE, zS, reduceAdd])
              refine rg_nil ?_
              refine hK29 _ ?_; clear hK29; refine awp_keep [0, 2, 6, 8, 9, 10, 11, 12, 13, 14, 15, 26, 27, 49, 55] ?_; simp only [keepEnv, lkp, zE, reduceCtorEq, reduceEqDiff, argEnv, reduceAdd]
              refine awp_cond (by simp only [ev, keepEnv, lkp, zE, reduceCtorEq, reduceEqDiff, argEnv, reduceAdd]; exact rfl) (fun hc30 => ?_) (fun hc30 => ?_)
              · (try simp only [zB, reduceCtorEq] at hc30)
                have hout : (F (s.1.getD i d0) x).1 ∉ (bL F (s.1.getD i d0) s.1 x) := hin2 (by omega)
                have hl1 : (bL F (s.1.getD i d0) s.1 (x + 1)).length = (bL F (s.1.getD i d0) s.1 x).length + 1 := by rw [bL_succ, addG_out hout]; simp
                refine awp_reg hP hN rfl ?_
                iterate 6 (refine rg_step rfl fun K0 hK0 => ?_; simp only [zE, op1, ev, lkp, avOf, acOf, opFieldAddr, opLoad, Nat.mul_one, readAC, isAggK, acs, Ty.dflt, zG, cellsAt, opBuildSlice, fillAC, chunk, rep, datOf, writeAC, cellsAV, Ty.size, opCallAny, opMM, opLen, lenAC, lenOk, fpAC, Nat.div_one, opAppend, srcOf, dite_true, reduceCtorEq, reduceEqDiff, reduceAdd, reduceLeDiff, reduceLT, reduceMul, reduceSub, Try.el69, Try.fl51, Try.st51, Try.st53, Try.td1, Try.td51, Try.td53, Try.td69, Mly.av, List.length_append, List.length_map, List.length_cons, List.length_nil, bN_len, bO_len]; (repeat refine And.intro (by first | omega | assumption | exact rfl) ?_); (first | refine hK0 _ ?_ | refine Or.inl (hK0 _ ?_)); clear hK0 K0; simp only [put, app, setAll, trOf, zE, zS, reduceAdd])
                refine rg_nil ?_
                refine hK28 _ ?_; clear hK28; refine awp_keep [0, 2, 6, 8, 9, 10, 11, 12, 13, 14, 15, 26, 27, 49, 55] ?_; simp only [keepEnv, lkp, zE, reduceCtorEq, reduceEqDiff, argEnv, reduceAdd]
                refine awp_seq_k fun K31 hK31 => ?_
                refine awp_seq_k fun K32 hK32 => ?_
                refine awp_reg hP hN rfl ?_
                iterate 3 (refine rg_step rfl fun K0 hK0 => ?_; simp only [zE, op1, ev, lkp, avOf, acOf, opCallAny, opMM, opLen, lenAC, lenOk, fpAC, Nat.div_one, opAppend, srcOf, Ty.size, datOf, dite_true, opBin, arith, inK_i64, eqACs, eqAC, reduceCtorEq, reduceEqDiff, reduceAdd, reduceLeDiff, reduceLT, reduceMul, reduceSub, Try.el69, Try.td3, Try.td4, Try.td69, Mly.av, List.length_append, List.length_map, List.length_cons, List.length_nil, bN_len, bO_len]; (repeat refine And.intro (by first | omega | assumption | exact rfl) ?_); (first | refine hK0 _ ?_ | refine Or.inl (hK0 _ ?_)); clear hK0 K0; simp only [put, app, setAll, trOf, zE, zS, reduceAdd])
                (refine rg_step rfl fun K0 hK0 => ?_; simp only [zE, op1, ev, lkp, avOf, acOf, ev, reduceCtorEq, reduceEqDiff, reduceAdd, reduceLeDiff, reduceLT, reduceMul, reduceSub, Try.td4, Mly.av, List.length_append, List.length_map, List.length_cons, List.length_nil, bN_len, bO_len]; (repeat refine And.intro (by first | omega | assumption | exact rfl) ?_); (first | refine hK0 _ ?_ | refine Or.inl (hK0 _ ?_)); clear hK0 K0; simp only [put, app, setAll, trOf, zE, zS, reduceAdd])
                refine' rg_join_n (want := false) 3 rfl (m := 64) (by simp only [keepEnv, lkp, zE, reduceCtorEq, reduceEqDiff, argEnv, reduceAdd]; exact rfl) (by kernel_rfl) rfl rfl rfl rfl rfl (fun hg33 => ?a33) ?b33 ?c33
                case a33 =>
                  have hq33 := hg33; (try simp only [zB, reduceCtorEq] at hg33); simp only [List.take_succ_cons, List.take_zero, List.cons_append, List.nil_append]
                  (refine rg_do rfl fun K0 hK0 => ?_; simp only [zE, op1, ev, lkp, avOf, acOf, opFieldAddr, reduceCtorEq, reduceEqDiff, reduceAdd, reduceLeDiff, reduceLT, reduceMul, reduceSub, Try.st53, Try.td1, Try.td53, Mly.av, List.length_append, List.length_map, List.length_cons, List.length_nil, bN_len, bO_len]; (repeat refine And.intro (by first | omega | assumption | exact rfl) ?_); (first | refine hK0 _ ?_ | refine Or.inl (hK0 _ ?_)); clear hK0 K0; simp only [put, app, setAll, trOf, zE, zS, reduceAdd])
                  (refine rg_do rfl fun K0 hK0 => ?_; simp only [zE, op1, ev, lkp, avOf, acOf, opLoad, Nat.mul_one, readAC, isAggK, acs, Ty.dflt, zG, cellsAt, reduceCtorEq, reduceEqDiff, reduceAdd, reduceLeDiff, reduceLT, reduceMul, reduceSub, Try.td3, Mly.av, List.length_append, List.length_map, List.length_cons, List.length_nil, bN_len, bO_len]; (repeat refine And.intro (by first | omega | assumption | exact rfl) ?_); (first | refine hK0 _ ?_ | refine Or.inl (hK0 _ ?_)); clear hK0 K0; simp only [put, app, setAll, trOf, zE, zS, reduceAdd])
                  (refine rg_do rfl fun K0 hK0 => ?_; simp only [zE, op1, ev, lkp, avOf, acOf, opBin, arith, inK_i64, eqACs, eqAC, reduceCtorEq, reduceEqDiff, reduceAdd, reduceLeDiff, reduceLT, reduceMul, reduceSub, Try.td3, Try.td4, Mly.av, List.length_append, List.length_map, List.length_cons, List.length_nil, bN_len, bO_len]; (repeat refine And.intro (by first | omega | assumption | exact rfl) ?_); (first | refine hK0 _ ?_ | refine Or.inl (hK0 _ ?_)); clear hK0 K0; simp only [put, app, setAll, trOf, zE, zS, reduceAdd])
                  (refine rg_step rfl fun K0 hK0 => ?_; simp only [zE, op1, ev, lkp, avOf, acOf, opPick, reduceCtorEq, reduceEqDiff, reduceAdd, reduceLeDiff, reduceLT, reduceMul, reduceSub, Try.td4, Mly.av, List.length_append, List.length_map, List.length_cons, List.length_nil, bN_len, bO_len]; (repeat refine And.intro (by first | omega | assumption | exact rfl) ?_); (first | refine hK0 _ ?_ | refine Or.inl (hK0 _ ?_)); clear hK0 K0; simp only [put, app, setAll, trOf, zE, zS, reduceAdd])
                  refine rg_nil ?_
                  refine ⟨by simp only [keepEnv, lkp, zE, reduceCtorEq, reduceEqDiff, argEnv, reduceAdd]; exact rfl, rfl, ?_, rfl⟩; (repeat refine keep_cons rfl ?_); exact keep_m (by exact rfl) hq33
                case b33 => exact tle_of (by first | rfl | (simp [tleB]; done) | decide)
                simp only [join_or, join_and]
                refine rg_nil ?_
                refine hK32 _ ?_; clear hK32; refine awp_keep [0, 2, 6, 8, 9, 10, 11, 12, 13, 14, 15, 26, 27, 49, 55, 68] ?_; simp only [keepEnv, lkp, zE, reduceCtorEq, reduceEqDiff, argEnv, reduceAdd]
                refine awp_cond (by simp only [ev, keepEnv, lkp, zE, reduceCtorEq, reduceEqDiff, argEnv, reduceAdd]; exact rfl) (fun hc34 => ?_) (fun hc34 => ?_)
                · (try simp only [zB, reduceCtorEq] at hc34)
                  have hbx0 : bX F (s.1.getD i d0) s.1 x = true := by simp only [bX, Bool.or_eq_true, decide_eq_true_eq]; omega
                  refine awp_seq_k fun K35 hK35 => ?_
                  refine awp_reg hP hN rfl ?_
                  iterate 3 (refine rg_step rfl fun K0 hK0 => ?_; simp only [zE, op1, ev, lkp, avOf, acOf, opBuild, fillAC, writeAC, cellsAV, opStore, Nat.mul_one, datOf, acs, Ty.size, Ty.dflt, zG, reduceCtorEq, reduceEqDiff, reduceAdd, reduceLeDiff, reduceLT, reduceMul, reduceSub, Try.st24, Try.td24, Try.td27, Mly.av, List.length_append, List.length_map, List.length_cons, List.length_nil, bN_len, bO_len]; (repeat refine And.intro (by first | omega | assumption | exact rfl) ?_); (first | refine hK0 _ ?_ | refine Or.inl (hK0 _ ?_)); clear hK0 K0; simp only [put, app, setAll, trOf, zE, zS, reduceAdd])
                  refine rg_nil ?_
                  refine hK35 _ ?_; clear hK35; refine awp_keep [0, 2, 6, 7, 8, 9, 10, 11, 12, 13, 14, 15, 26, 27, 49, 55, 68] ?_; simp only [keepEnv, lkp, zE, reduceCtorEq, reduceEqDiff, argEnv, reduceAdd]
                  refine awp_ret ?_
                  refine ⟨by first | exact .inl rfl | exact .inr rfl, _, rfl, ?_⟩; simp only [fzV, fz1, fzC, List.map_cons, List.map_nil, keepEnv, lkp, zE, reduceCtorEq, reduceEqDiff, argEnv, reduceAdd, Mly.av, List.length_append, List.length_map, List.length_cons, List.length_nil, bN_len, bO_len]
                  first
                  | (have hbad := bF_bad (F := F) (n := n) (f := 130 - i) (s := s) hil9 (y := x) (by omega) hbx0
                     rw [hbf] at hbad; rw [bM_none hbad, bE_none hbad]
                     exact vle_tup ⟨vle1_agg ⟨.refl _, .refl _, cle_nils rfl, cle_nils rfl, trivial⟩, vle1_one (.refl _), trivial⟩)
                  | (have hend := bF_end F n (129 - i) i s (by omega)
                     rw [show 129 - i + 1 = 130 - i by omega, hbf] at hend
                     rw [bM_some hend, bE_some hend]; exact VLE.of_eq (by simp [fzC]; rfl))
                · (try simp only [zB, reduceCtorEq] at hc34)
                  have hbx0 : bX F (s.1.getD i d0) s.1 x = false := by simp only [bX, Bool.or_eq_false_iff, decide_eq_false_iff_not]; omega
                  refine awp_skip ?_
                  refine hK31 _ ?_; clear hK31; refine awp_keep [0, 2, 6, 8, 9, 10, 11, 12, 13, 14, 15, 26, 27, 49, 55, 68] ?_; simp only [keepEnv, lkp, zE, reduceCtorEq, reduceEqDiff, argEnv, reduceAdd]
                  refine awp_seq_k fun K36 hK36 => ?_
                  refine awp_reg hP hN rfl ?_
                  iterate 5 (refine rg_step rfl fun K0 hK0 => ?_; simp only [zE, op1, ev, lkp, avOf, acOf, opBuildSlice, fillAC, chunk, rep, datOf, writeAC, cellsAV, Ty.size, opCallAny, opMM, opLen, lenAC, lenOk, fpAC, Nat.div_one, opAppend, srcOf, dite_true, reduceCtorEq, reduceEqDiff, reduceAdd, reduceLeDiff, reduceLT, reduceMul, reduceSub, Try.el33, Try.td1, Try.td3, Try.td33, Mly.av, List.length_append, List.length_map, List.length_cons, List.length_nil, bN_len, bO_len]; (repeat refine And.intro (by first | omega | assumption | exact rfl) ?_); (first | refine hK0 _ ?_ | refine Or.inl (hK0 _ ?_)); clear hK0 K0; simp only [put, app, setAll, trOf, zE, zS, reduceAdd])
                  refine rg_nil ?_
                  refine hK36 _ ?_; clear hK36; refine awp_keep [0, 2, 6, 8, 9, 10, 11, 12, 13, 14, 15, 26, 27, 49, 55, 68] ?_; simp only [keepEnv, lkp, zE, reduceCtorEq, reduceEqDiff, argEnv, reduceAdd]
                  refine awp_reg hP hN rfl ?_
                  iterate 6 (refine rg_step rfl fun K0 hK0 => ?_; simp only [zE, op1, ev, lkp, avOf, acOf, opFieldAddr, opLoad, Nat.mul_one, readAC, isAggK, acs, Ty.dflt, zG, cellsAt, opBuildSlice, fillAC, chunk, rep, datOf, writeAC, cellsAV, Ty.size, opCallAny, opMM, opLen, lenAC, lenOk, fpAC, Nat.div_one, opAppend, srcOf, dite_true, reduceCtorEq, reduceEqDiff, reduceAdd, reduceLeDiff, reduceLT, reduceMul, reduceSub, Try.el33, Try.st53, Try.td1, Try.td3, Try.td33, Try.td53, Mly.av, List.length_append, List.length_map, List.length_cons, List.length_nil, bN_len, bO_len]; (repeat refine And.intro (by first | omega | assumption | exact rfl) ?_); (first | refine hK0 _ ?_ | refine Or.inl (hK0 _ ?_)); clear hK0 K0; simp only [put, app, setAll, trOf, zE, zS, reduceAdd])
                  refine rg_nil ?_
                  refine hK18 _ ?_; clear hK18; refine awp_keep [0, 2, 6, 8, 9, 10, 11, 12, 13, 14, 15, 26, 27, 49, 55, 68] ?_; simp only [keepEnv, lkp, zE, reduceCtorEq, reduceEqDiff, argEnv, reduceAdd]
                  refine awp_keep [0, 2, 6, 8, 9, 10, 11, 12, 26, 27] ?_; simp only [keepEnv, lkp, zE, reduceCtorEq, reduceEqDiff]
                  refine awp_pop (L1 := [_, _, _, _, _, _, _, _]) rfl hB (by simp only [List.all_cons, List.all_nil, freeV, free1, pats_free hcap]; rfl) rfl ?_
                  refine awp_reg hP hN rfl ?_
                  iterate 2 (refine rg_step rfl fun K0 hK0 => ?_; simp only [zE, op1, ev, lkp, avOf, acOf, opBin, arith, inK_i64, eqACs, eqAC, reduceCtorEq, reduceEqDiff, reduceAdd, reduceLeDiff, reduceLT, reduceMul, reduceSub, Try.td3, Mly.av, List.length_append, List.length_map, List.length_cons, List.length_nil, bN_len, bO_len]; (repeat refine And.intro (by first | omega | assumption | exact rfl) ?_); (first | refine hK0 _ ?_ | refine Or.inl (hK0 _ ?_)); clear hK0 K0; simp only [put, app, setAll, trOf, zE, zS, reduceAdd])
                  refine rg_nil ?_
                  have hle3 : (bL F (s.1.getD i d0) s.1 (x + 1)).length ≤ 128 := by
                    have h9 := hbx0
                    simp only [bX, Bool.or_eq_false_iff, decide_eq_false_iff_not] at h9
                    omega
                  have hI3 : ∀ q, q ∈ bL F (s.1.getD i d0) s.1 (x + 1) → I q := fun q hq9 => by
                    rw [bL_succ, addG_mem] at hq9
                    rcases hq9 with h9 | h9
                    · exact hIx q h9
                    · rw [h9]; exact hKI _ (hI _ (mem_d0 (by omega))) x (by omega)
                  have hb3 : ∀ y, y < x + 1 → bX F (s.1.getD i d0) s.1 y = false := fun y hy => by
                    by_cases e : y = x
                    · rw [e]; exact hbx0
                    · exact hbx y (by omega)
                  first
                  | (have hnin : (F (s.1.getD i d0) x).1 ∉ (bL F (s.1.getD i d0) s.1 x) := hout
                     refine ⟨_, _, ?_, sub_keep [0, 2, 6, 8, 9, 10, 11, 12, 26, 27], x + 1, v2 + 1, w + 1, by omega, hle3, hb3, hI3, rfl, ?_⟩
                     · omega
                     · rw [bL_succ, addG_out hnin, List.map_append, bN_succ, bO_succ, ← hpk]; rfl)
                  | (have hnin : (F (s.1.getD i d0) x).1 ∈ (bL F (s.1.getD i d0) s.1 x) := hin
                     refine ⟨_, _, ?_, sub_keep [0, 2, 6, 8, 9, 10, 11, 12, 26, 27], x + 1, v2, w + 1, by omega, hle3, hb3, hI3, rfl, ?_⟩
                     · omega
                     · rw [bL_succ, addG_in hnin, bN_succ, bO_succ, ← hpk]; rfl)
              · (try simp only [zB, reduceCtorEq] at hc30)
                have hin : (F (s.1.getD i d0) x).1 ∈ (bL F (s.1.getD i d0) s.1 x) := hin1 (by omega)
                have hl1 : (bL F (s.1.getD i d0) s.1 (x + 1)).length = (bL F (s.1.getD i d0) s.1 x).length := by rw [bL_succ, addG_in hin]
                refine awp_skip ?_
                refine hK28 _ ?_; clear hK28; refine awp_keep [0, 2, 6, 8, 9, 10, 11, 12, 13, 14, 15, 26, 27, 49, 55] ?_; simp only [keepEnv, lkp, zE, reduceCtorEq, reduceEqDiff, argEnv, reduceAdd]
                refine awp_seq_k fun K37 hK37 => ?_
                refine awp_seq_k fun K38 hK38 => ?_
                refine awp_reg hP hN rfl ?_
                iterate 3 (refine rg_step rfl fun K0 hK0 => ?_; simp only [zE, op1, ev, lkp, avOf, acOf, opCallAny, opMM, opLen, lenAC, lenOk, fpAC, Nat.div_one, opAppend, srcOf, Ty.size, datOf, dite_true, opBin, arith, inK_i64, eqACs, eqAC, reduceCtorEq, reduceEqDiff, reduceAdd, reduceLeDiff, reduceLT, reduceMul, reduceSub, Try.el69, Try.td3, Try.td4, Try.td69, Mly.av, List.length_append, List.length_map, List.length_cons, List.length_nil, bN_len, bO_len]; (repeat refine And.intro (by first | omega | assumption | exact rfl) ?_); (first | refine hK0 _ ?_ | refine Or.inl (hK0 _ ?_)); clear hK0 K0; simp only [put, app, setAll, trOf, zE, zS, reduceAdd])
                (refine rg_step rfl fun K0 hK0 => ?_; simp only [zE, op1, ev, lkp, avOf, acOf, ev, reduceCtorEq, reduceEqDiff, reduceAdd, reduceLeDiff, reduceLT, reduceMul, reduceSub, Try.td4, Mly.av, List.length_append, List.length_map, List.length_cons, List.length_nil, bN_len, bO_len]; (repeat refine And.intro (by first | omega | assumption | exact rfl) ?_); (first | refine hK0 _ ?_ | refine Or.inl (hK0 _ ?_)); clear hK0 K0; simp only [put, app, setAll, trOf, zE, zS, reduceAdd])
                refine' rg_join_n (want := false) 3 rfl (m := 64) (by simp only [keepEnv, lkp, zE, reduceCtorEq, reduceEqDiff, argEnv, reduceAdd]; exact rfl) (by kernel_rfl) rfl rfl rfl rfl rfl (fun hg39 => ?a39) ?b39 ?c39
                case a39 =>
                  have hq39 := hg39; (try simp only [zB, reduceCtorEq] at hg39); simp only [List.take_succ_cons, List.take_zero, List.cons_append, List.nil_append]
                  (refine rg_do rfl fun K0 hK0 => ?_; simp only [zE, op1, ev, lkp, avOf, acOf, opFieldAddr, reduceCtorEq, reduceEqDiff, reduceAdd, reduceLeDiff, reduceLT, reduceMul, reduceSub, Try.st53, Try.td1, Try.td53, Mly.av, List.length_append, List.length_map, List.length_cons, List.length_nil, bN_len, bO_len]; (repeat refine And.intro (by first | omega | assumption | exact rfl) ?_); (first | refine hK0 _ ?_ | refine Or.inl (hK0 _ ?_)); clear hK0 K0; simp only [put, app, setAll, trOf, zE, zS, reduceAdd])
                  (refine rg_do rfl fun K0 hK0 => ?_; simp only [zE, op1, ev, lkp, avOf, acOf, opLoad, Nat.mul_one, readAC, isAggK, acs, Ty.dflt, zG, cellsAt, reduceCtorEq, reduceEqDiff, reduceAdd, reduceLeDiff, reduceLT, reduceMul, reduceSub, Try.td3, Mly.av, List.length_append, List.length_map, List.length_cons, List.length_nil, bN_len, bO_len]; (repeat refine And.intro (by first | omega | assumption | exact rfl) ?_); (first | refine hK0 _ ?_ | refine Or.inl (hK0 _ ?_)); clear hK0 K0; simp only [put, app, setAll, trOf, zE, zS, reduceAdd])
                  (refine rg_do rfl fun K0 hK0 => ?_; simp only [zE, op1, ev, lkp, avOf, acOf, opBin, arith, inK_i64, eqACs, eqAC, reduceCtorEq, reduceEqDiff, reduceAdd, reduceLeDiff, reduceLT, reduceMul, reduceSub, Try.td3, Try.td4, Mly.av, List.length_append, List.length_map, List.length_cons, List.length_nil, bN_len, bO_len]; (repeat refine And.intro (by first | omega | assumption | exact rfl) ?_); (first | refine hK0 _ ?_ | refine Or.inl (hK0 _ ?_)); clear hK0 K0; simp only [put, app, setAll, trOf, zE, zS, reduceAdd])
                  (refine rg_step rfl fun K0 hK0 => ?_; simp only [zE, op1, ev, lkp, avOf, acOf, opPick, reduceCtorEq, reduceEqDiff, reduceAdd, reduceLeDiff, reduceLT, reduceMul, reduceSub, Try.td4, Mly.av, List.length_append, List.length_map, List.length_cons, List.length_nil, bN_len, bO_len]; (repeat refine And.intro (by first | omega | assumption | exact rfl) ?_); (first | refine hK0 _ ?_ | refine Or.inl (hK0 _ ?_)); clear hK0 K0; simp only [put, app, setAll, trOf, zE, zS, reduceAdd])
                  refine rg_nil ?_
                  refine ⟨by simp only [keepEnv, lkp, zE, reduceCtorEq, reduceEqDiff, argEnv, reduceAdd]; exact rfl, rfl, ?_, rfl⟩; (repeat refine keep_cons rfl ?_); exact keep_m (by exact rfl) hq39
                case b39 => exact tle_of (by first | rfl | (simp [tleB]; done) | decide)
                simp only [join_or, join_and]
                refine rg_nil ?_
                refine hK38 _ ?_; clear hK38; refine awp_keep [0, 2, 6, 8, 9, 10, 11, 12, 13, 14, 15, 26, 27, 49, 55, 68] ?_; simp only [keepEnv, lkp, zE, reduceCtorEq, reduceEqDiff, argEnv, reduceAdd]
                refine awp_cond (by simp only [ev, keepEnv, lkp, zE, reduceCtorEq, reduceEqDiff, argEnv, reduceAdd]; exact rfl) (fun hc40 => ?_) (fun hc40 => ?_)
                · (try simp only [zB, reduceCtorEq] at hc40)
                  have hbx0 : bX F (s.1.getD i d0) s.1 x = true := by simp only [bX, Bool.or_eq_true, decide_eq_true_eq]; omega
                  refine awp_seq_k fun K41 hK41 => ?_
                  refine awp_reg hP hN rfl ?_
                  iterate 3 (refine rg_step rfl fun K0 hK0 => ?_; simp only [zE, op1, ev, lkp, avOf, acOf, opBuild, fillAC, writeAC, cellsAV, opStore, Nat.mul_one, datOf, acs, Ty.size, Ty.dflt, zG, reduceCtorEq, reduceEqDiff, reduceAdd, reduceLeDiff, reduceLT, reduceMul, reduceSub, Try.st24, Try.td24, Try.td27, Mly.av, List.length_append, List.length_map, List.length_cons, List.length_nil, bN_len, bO_len]; (repeat refine And.intro (by first | omega | assumption | exact rfl) ?_); (first | refine hK0 _ ?_ | refine Or.inl (hK0 _ ?_)); clear hK0 K0; simp only [put, app, setAll, trOf, zE, zS, reduceAdd])
                  refine rg_nil ?_
                  refine hK41 _ ?_; clear hK41; refine awp_keep [0, 2, 6, 7, 8, 9, 10, 11, 12, 13, 14, 15, 26, 27, 49, 55, 68] ?_; simp only [keepEnv, lkp, zE, reduceCtorEq, reduceEqDiff, argEnv, reduceAdd]
                  refine awp_ret ?_
                  refine ⟨by first | exact .inl rfl | exact .inr rfl, _, rfl, ?_⟩; simp only [fzV, fz1, fzC, List.map_cons, List.map_nil, keepEnv, lkp, zE, reduceCtorEq, reduceEqDiff, argEnv, reduceAdd, Mly.av, List.length_append, List.length_map, List.length_cons, List.length_nil, bN_len, bO_len]
                  first
                  | (have hbad := bF_bad (F := F) (n := n) (f := 130 - i) (s := s) hil9 (y := x) (by omega) hbx0
                     rw [hbf] at hbad; rw [bM_none hbad, bE_none hbad]
                     exact vle_tup ⟨vle1_agg ⟨.refl _, .refl _, cle_nils rfl, cle_nils rfl, trivial⟩, vle1_one (.refl _), trivial⟩)
                  | (have hend := bF_end F n (129 - i) i s (by omega)
                     rw [show 129 - i + 1 = 130 - i by omega, hbf] at hend
                     rw [bM_some hend, bE_some hend]; exact VLE.of_eq (by simp [fzC]; rfl))
                · (try simp only [zB, reduceCtorEq] at hc40)
                  have hbx0 : bX F (s.1.getD i d0) s.1 x = false := by simp only [bX, Bool.or_eq_false_iff, decide_eq_false_iff_not]; omega
                  refine awp_skip ?_
                  refine hK37 _ ?_; clear hK37; refine awp_keep [0, 2, 6, 8, 9, 10, 11, 12, 13, 14, 15, 26, 27, 49, 55, 68] ?_; simp only [keepEnv, lkp, zE, reduceCtorEq, reduceEqDiff, argEnv, reduceAdd]
                  refine awp_seq_k fun K42 hK42 => ?_
                  refine awp_reg hP hN rfl ?_
                  iterate 5 (refine rg_step rfl fun K0 hK0 => ?_; simp only [zE, op1, ev, lkp, avOf, acOf, opBuildSlice, fillAC, chunk, rep, datOf, writeAC, cellsAV, Ty.size, opCallAny, opMM, opLen, lenAC, lenOk, fpAC, Nat.div_one, opAppend, srcOf, dite_true, reduceCtorEq, reduceEqDiff, reduceAdd, reduceLeDiff, reduceLT, reduceMul, reduceSub, Try.el33, Try.td1, Try.td3, Try.td33, Mly.av, List.length_append, List.length_map, List.length_cons, List.length_nil, bN_len, bO_len]; (repeat refine And.intro (by first | omega | assumption | exact rfl) ?_); (first | refine hK0 _ ?_ | refine Or.inl (hK0 _ ?_)); clear hK0 K0; simp only [put, app, setAll, trOf, zE, zS, reduceAdd])
                  refine rg_nil ?_
                  refine hK42 _ ?_; clear hK42; refine awp_keep [0, 2, 6, 8, 9, 10, 11, 12, 13, 14, 15, 26, 27, 49, 55, 68] ?_; simp only [keepEnv, lkp, zE, reduceCtorEq, reduceEqDiff, argEnv, reduceAdd]
                  refine awp_reg hP hN rfl ?_
                  iterate 6 (refine rg_step rfl fun K0 hK0 => ?_; simp only [zE, op1, ev, lkp, avOf, acOf, opFieldAddr, opLoad, Nat.mul_one, readAC, isAggK, acs, Ty.dflt, zG, cellsAt, opBuildSlice, fillAC, chunk, rep, datOf, writeAC, cellsAV, Ty.size, opCallAny, opMM, opLen, lenAC, lenOk, fpAC, Nat.div_one, opAppend, srcOf, dite_true, reduceCtorEq, reduceEqDiff, reduceAdd, reduceLeDiff, reduceLT, reduceMul, reduceSub, Try.el33, Try.st53, Try.td1, Try.td3, Try.td33, Try.td53, Mly.av, List.length_append, List.length_map, List.length_cons, List.length_nil, bN_len, bO_len]; (repeat refine And.intro (by first | omega | assumption | exact rfl) ?_); (first | refine hK0 _ ?_ | refine Or.inl (hK0 _ ?_)); clear hK0 K0; simp only [put, app, setAll, trOf, zE, zS, reduceAdd])
                  refine rg_nil ?_
                  refine hK18 _ ?_; clear hK18; refine awp_keep [0, 2, 6, 8, 9, 10, 11, 12, 13, 14, 15, 26, 27, 49, 55, 68] ?_; simp only [keepEnv, lkp, zE, reduceCtorEq, reduceEqDiff, argEnv, reduceAdd]
                  refine awp_keep [0, 2, 6, 8, 9, 10, 11, 12, 26, 27] ?_; simp only [keepEnv, lkp, zE, reduceCtorEq, reduceEqDiff]
                  refine awp_pop (L1 := [_, _, _, _, _, _, _, _]) rfl hB (by simp only [List.all_cons, List.all_nil, freeV, free1, pats_free hcap]; rfl) rfl ?_
                  refine awp_reg hP hN rfl ?_
                  iterate 2 (refine rg_step rfl fun K0 hK0 => ?_; simp only [zE, op1, ev, lkp, avOf, acOf, opBin, arith, inK_i64, eqACs, eqAC, reduceCtorEq, reduceEqDiff, reduceAdd, reduceLeDiff, reduceLT, reduceMul, reduceSub, Try.td3, Mly.av, List.length_append, List.length_map, List.length_cons, List.length_nil, bN_len, bO_len]; (repeat refine And.intro (by first | omega | assumption | exact rfl) ?_); (first | refine hK0 _ ?_ | refine Or.inl (hK0 _ ?_)); clear hK0 K0; simp only [put, app, setAll, trOf, zE, zS, reduceAdd])
                  refine rg_nil ?_
                  have hle3 : (bL F (s.1.getD i d0) s.1 (x + 1)).length ≤ 128 := by
                    have h9 := hbx0
                    simp only [bX, Bool.or_eq_false_iff, decide_eq_false_iff_not] at h9
                    omega
                  have hI3 : ∀ q, q ∈ bL F (s.1.getD i d0) s.1 (x + 1) → I q := fun q hq9 => by
                    rw [bL_succ, addG_mem] at hq9
                    rcases hq9 with h9 | h9
                    · exact hIx q h9
                    · rw [h9]; exact hKI _ (hI _ (mem_d0 (by omega))) x (by omega)
                  have hb3 : ∀ y, y < x + 1 → bX F (s.1.getD i d0) s.1 y = false := fun y hy => by
                    by_cases e : y = x
                    · rw [e]; exact hbx0
                    · exact hbx y (by omega)
                  first
                  | (have hnin : (F (s.1.getD i d0) x).1 ∉ (bL F (s.1.getD i d0) s.1 x) := hout
                     refine ⟨_, _, ?_, sub_keep [0, 2, 6, 8, 9, 10, 11, 12, 26, 27], x + 1, v2 + 1, w + 1, by omega, hle3, hb3, hI3, rfl, ?_⟩
                     · omega
                     · rw [bL_succ, addG_out hnin, List.map_append, bN_succ, bO_succ, ← hpk]; rfl)
                  | (have hnin : (F (s.1.getD i d0) x).1 ∈ (bL F (s.1.getD i d0) s.1 x) := hin
                     refine ⟨_, _, ?_, sub_keep [0, 2, 6, 8, 9, 10, 11, 12, 26, 27], x + 1, v2, w + 1, by omega, hle3, hb3, hI3, rfl, ?_⟩
                     · omega
                     · rw [bL_succ, addG_in hnin, bN_succ, bO_succ, ← hpk]; rfl)
        · (try simp only [zB, reduceCtorEq] at hc17)
          refine awp_exit ?_
          refine hK12 _ ?_; clear hK12; refine awp_keep [0, 2, 6, 8, 9, 10, 11, 12, 26, 27, 28] ?_; simp only [keepEnv, lkp, zE, reduceCtorEq, reduceEqDiff, argEnv, reduceAdd]
          refine awp_seq_k fun K43 hK43 => ?_
          refine awp_freeze 6 rfl ?_; simp only [List.map_cons, List.map_nil, zS, reduceEqDiff, and_self, and_true, true_and, and_false, false_and, if_true, if_false, eq_self, reduceCtorEq, Nat.one_ne_zero, Nat.zero_ne_one]
          refine awp_freeze 7 rfl ?_; simp only [List.map_cons, List.map_nil, zS, reduceEqDiff, and_self, and_true, true_and, and_false, false_and, if_true, if_false, eq_self, reduceCtorEq, Nat.one_ne_zero, Nat.zero_ne_one]
          refine awp_reg hP hN rfl ?_
          iterate 7 (refine rg_step rfl fun K0 hK0 => ?_; simp only [zE, op1, ev, lkp, avOf, acOf, opFieldAddr, opLoad, Nat.mul_one, readAC, isAggK, acs, Ty.dflt, zG, cellsAt, opBuildSlice, fillAC, chunk, rep, datOf, writeAC, cellsAV, Ty.size, opCallAny, opMM, opLen, lenAC, lenOk, fpAC, Nat.div_one, opAppend, srcOf, dite_true, opStore, reduceCtorEq, reduceEqDiff, reduceAdd, reduceLeDiff, reduceLT, reduceMul, reduceSub, Try.el22, Try.el33, Try.st24, Try.td1, Try.td2, Try.td22, Try.td24, Try.td33, Mly.av, List.length_append, List.length_map, List.length_cons, List.length_nil, bN_len, bO_len]; (repeat refine And.intro (by first | omega | assumption | exact rfl) ?_); (first | refine hK0 _ ?_ | refine Or.inl (hK0 _ ?_)); clear hK0 K0; simp only [put, app, setAll, trOf, zE, zS, reduceAdd])
          refine rg_nil ?_
          refine hK43 _ ?_; clear hK43; refine awp_keep [0, 2, 6, 8, 9, 10, 11, 12, 26, 27, 28] ?_; simp only [keepEnv, lkp, zE, reduceCtorEq, reduceEqDiff, argEnv, reduceAdd]
          refine awp_reg hP hN rfl ?_
          iterate 7 (refine rg_step rfl fun K0 hK0 => ?_; simp only [zE, op1, ev, lkp, avOf, acOf, opFieldAddr, opLoad, Nat.mul_one, readAC, isAggK, acs, Ty.dflt, zG, cellsAt, opBuildSlice, fillAC, chunk, rep, datOf, writeAC, cellsAV, Ty.size, opCallAny, opMM, opLen, lenAC, lenOk, fpAC, Nat.div_one, opAppend, srcOf, dite_true, opStore, reduceCtorEq, reduceEqDiff, reduceAdd, reduceLeDiff, reduceLT, reduceMul, reduceSub, Try.el22, Try.el33, Try.st24, Try.td1, Try.td22, Try.td24, Try.td3, Try.td33, Mly.av, List.length_append, List.length_map, List.length_cons, List.length_nil, bN_len, bO_len]; (repeat refine And.intro (by first | omega | assumption | exact rfl) ?_); (first | refine hK0 _ ?_ | refine Or.inl (hK0 _ ?_)); clear hK0 K0; simp only [put, app, setAll, trOf, zE, zS, reduceAdd])
          refine rg_nil ?_
          refine hK10 _ ?_; clear hK10; refine awp_keep [0, 2, 6, 8, 9, 10, 11, 12, 26, 27, 28] ?_; simp only [keepEnv, lkp, zE, reduceCtorEq, reduceEqDiff, argEnv, reduceAdd]
          refine awp_keep [0, 2, 6, 8, 9, 10] ?_; simp only [keepEnv, lkp, zE, reduceCtorEq, reduceEqDiff]
          refine awp_drop (n := 7) (L1 := [_, _, _, _, _, _, _]) rfl rfl (by rw [hB]; decide) (by simp only [List.all_cons, List.all_nil, freeV, free1, pats_free hcap]; rfl) rfl ?_; refine awp_drop (n := 6) (L1 := [_, _, _, _, _, _]) rfl rfl (by rw [hB]; decide) (by simp only [List.all_cons, List.all_nil, freeV, free1, pats_free hcap]; rfl) rfl ?_
          refine awp_reg hP hN rfl ?_
          iterate 3 (refine rg_step rfl fun K0 hK0 => ?_; simp only [zE, op1, ev, lkp, avOf, acOf, opBin, arith, inK_i64, eqACs, eqAC, reduceCtorEq, reduceEqDiff, reduceAdd, reduceLeDiff, reduceLT, reduceMul, reduceSub, Try.td3, Mly.av, List.length_append, List.length_map, List.length_cons, List.length_nil, bN_len, bO_len]; (repeat refine And.intro (by first | omega | assumption | exact rfl) ?_); (first | refine hK0 _ ?_ | refine Or.inl (hK0 _ ?_)); clear hK0 K0; simp only [put, app, setAll, trOf, zE, zS, reduceAdd])
          refine rg_nil ?_
          have hil : i < s.1.length := by omega
          have hIp : I (s.1.getD i d0) := hI _ (mem_d0 hil)
          have hxn : n = x := by omega
          subst hxn
          have hgeB := bL_ge F (s.1.getD i d0) s.1 n
          refine ⟨_, _, ?_, sub_keep [0, 2, 6, 8, 9, 10], i + 1, bA F n i s, v2, u + 1, hxl, by show i + 1 ≤ (bL F (s.1.getD i d0) s.1 n).length; omega, ?_, hIx, by show (s.2.1 ++ [_]).length = i + 1; rw [List.length_append, hnl]; rfl, by show (s.2.2 ++ [_]).length = i + 1; rw [List.length_append, hol]; rfl, rfl, rfl⟩
          · omega
          · rw [← hbf, show 130 - i = (130 - (i + 1)) + 1 by omega, bF_step hil hbx]
    · (try simp only [zB, reduceCtorEq] at hc9)
      refine awp_exit ?_
      refine hK4 _ ?_; clear hK4; refine awp_keep [0, 2, 6, 8, 9, 10, 23] ?_; simp only [keepEnv, lkp, zE, reduceCtorEq, reduceEqDiff, argEnv, reduceAdd]
      refine awp_seq_k fun K44 hK44 => ?_
      refine awp_reg hP hN rfl ?_
      iterate 3 (refine rg_step rfl fun K0 hK0 => ?_; simp only [zE, op1, ev, lkp, avOf, acOf, opLoad, Nat.mul_one, readAC, isAggK, acs, Ty.dflt, zG, cellsAt, opStore, cellsAV, writeAC, datOf, Ty.size, reduceCtorEq, reduceEqDiff, reduceAdd, reduceLeDiff, reduceLT, reduceMul, reduceSub, Try.st24, Try.td24, Try.td27, Mly.av, List.length_append, List.length_map, List.length_cons, List.length_nil, bN_len, bO_len]; (repeat refine And.intro (by first | omega | assumption | exact rfl) ?_); (first | refine hK0 _ ?_ | refine Or.inl (hK0 _ ?_)); clear hK0 K0; simp only [put, app, setAll, trOf, zE, zS, reduceAdd])
      refine rg_nil ?_
      refine hK44 _ ?_; clear hK44; refine awp_keep [0, 2, 6, 7, 8, 9, 10, 23] ?_; simp only [keepEnv, lkp, zE, reduceCtorEq, reduceEqDiff, argEnv, reduceAdd]
      refine awp_ret ?_
      refine ⟨by first | exact .inl rfl | exact .inr rfl, _, rfl, ?_⟩; simp only [fzV, fz1, fzC, List.map_cons, List.map_nil, keepEnv, lkp, zE, reduceCtorEq, reduceEqDiff, argEnv, reduceAdd, Mly.av, List.length_append, List.length_map, List.length_cons, List.length_nil, bN_len, bO_len]
      first
      | (have hbad := bF_bad (F := F) (n := n) (f := 130 - i) (s := s) hil9 (y := x) (by omega) hbx0
         rw [hbf] at hbad; rw [bM_none hbad, bE_none hbad]
         exact vle_tup ⟨vle1_agg ⟨.refl _, .refl _, cle_nils rfl, cle_nils rfl, trivial⟩, vle1_one (.refl _), trivial⟩)
      | (have hend := bF_end F n (129 - i) i s (by omega)
         rw [show 129 - i + 1 = 130 - i by omega, hbf] at hend
         rw [bM_some hend, bE_some hend]; exact VLE.of_eq (by simp [fzC]; rfl))
end Go.Proofs.Ytfbnhgefkdhiaaa
namespace Go.Proofs.Ytfbnhgefkdhiaaa
open Go Go.AV
open Nat (reduceEqDiff reduceAdd reduceLeDiff reduceLT reduceMul reduceSub)
open List (set_cons_zero set_cons_succ)
set_option maxRecDepth 100000 in
theorem both_c (a b : Mly) : PURE Try.prog 30 [a.av, b.av] (.one (.int .i64 (twoE a b))) := by
  refine pure_of_le Try.func30 rfl (by kernel_rfl) (Nat.le_of_ble_eq_true rfl) rfl fun C hP hN hB => ?_
  replace hN : C.N = 13 := hN
  simp only [argEnv, reduceAdd]
  refine awp_seq_k fun K1 hK1 => ?_
  refine awp_reg hP hN rfl ?_
  iterate 3 (refine rg_step rfl fun K0 hK0 => ?_; simp only [zE, op1, ev, lkp, avOf, acOf, opBox, cellsAV, reduceCtorEq, reduceEqDiff, reduceAdd, reduceLeDiff, reduceLT, reduceMul, reduceSub, Try.st24, Try.td24, Try.td27, Mly.av]; (repeat refine And.intro (by first | omega | assumption | exact rfl) ?_); (first | refine hK0 _ ?_ | refine Or.inl (hK0 _ ?_)); clear hK0 K0; simp only [put, app, setAll, trOf, zE, zS, reduceAdd])
  refine rg_nil ?_
  refine hK1 _ ?_; clear hK1; refine awp_keep [0, 1, 2, 3, 4] ?_; simp only [keepEnv, lkp, zE, reduceCtorEq, reduceEqDiff, argEnv, reduceAdd]
  refine awp_seq_k fun K2 hK2 => ?_
  refine awp_seq_k fun K3 hK3 => ?_
  refine awp_reg hP hN rfl ?_
  (refine rg_step rfl fun K0 hK0 => ?_; simp only [zE, op1, ev, lkp, avOf, acOf, opLoad, Nat.mul_one, readAC, isAggK, acs, Ty.dflt, zG, cellsAt, reduceCtorEq, reduceEqDiff, reduceAdd, reduceLeDiff, reduceLT, reduceMul, reduceSub, Try.st24, Try.td24, Mly.av]; (repeat refine And.intro (by first | omega | assumption | exact rfl) ?_); (first | refine hK0 _ ?_ | refine Or.inl (hK0 _ ?_)); clear hK0 K0; simp only [put, app, setAll, trOf, zE, zS, reduceAdd])
  refine rg_step rfl fun K0 hK0 => ?_
  refine op_call (h := call_of_pure (valid_c a)) rfl rfl (by first | exact rfl | (simp only [ev, keepEnv, lkp, zE, reduceCtorEq, reduceEqDiff, argEnv, reduceAdd]; exact rfl)) (by simp only [zE, zG, op1, ev, lkp, avOf, acOf, cellsAV, acs, capAV, mv1, mvC, Ty.dflt, reduceCtorEq, reduceEqDiff, reduceAdd, reduceLeDiff, reduceLT, reduceMul, reduceSub, Mly.av]) ?_
  refine hK0 _ ?_; clear hK0 K0; simp only [put, app, setAll, trOf, zE, zS, reduceAdd]
  (refine rg_step rfl fun K0 hK0 => ?_; simp only [zE, op1, ev, lkp, avOf, acOf, ev, reduceCtorEq, reduceEqDiff, reduceAdd, reduceLeDiff, reduceLT, reduceMul, reduceSub, Try.td27, Mly.av]; (repeat refine And.intro (by first | omega | assumption | exact rfl) ?_); (first | refine hK0 _ ?_ | refine Or.inl (hK0 _ ?_)); clear hK0 K0; simp only [put, app, setAll, trOf, zE, zS, reduceAdd])
  refine rg_nil ?_
  refine hK3 _ ?_; clear hK3; refine awp_keep [0, 1, 2, 3, 4, 5] ?_; simp only [keepEnv, lkp, zE, reduceCtorEq, reduceEqDiff, argEnv, reduceAdd]
  refine awp_seq_k fun K4 hK4 => ?_
  refine awp_reg hP hN rfl ?_
  iterate 2 (refine rg_step rfl fun K0 hK0 => ?_; simp only [zE, op1, ev, lkp, avOf, acOf, opBin, arith, inK_i64, eqACs, eqAC, reduceCtorEq, reduceEqDiff, reduceAdd, reduceLeDiff, reduceLT, reduceMul, reduceSub, Try.td27, Try.td4, Mly.av]; (repeat refine And.intro (by first | omega | assumption | exact rfl) ?_); (first | refine hK0 _ ?_ | refine Or.inl (hK0 _ ?_)); clear hK0 K0; simp only [put, app, setAll, trOf, zE, zS, reduceAdd])
  refine rg_nil ?_
  refine hK4 _ ?_; clear hK4; refine awp_keep [0, 1, 2, 3, 4, 5, 9] ?_; simp only [keepEnv, lkp, zE, reduceCtorEq, reduceEqDiff, argEnv, reduceAdd]
  refine awp_cond (by simp only [ev, keepEnv, lkp, zE, reduceCtorEq, reduceEqDiff, argEnv, reduceAdd]; exact rfl) (fun hc5 => ?_) (fun hc5 => ?_)
  · (try simp only [zB, reduceCtorEq] at hc5)
    refine awp_seq_k fun K6 hK6 => ?_
    refine awp_reg hP hN rfl ?_
    iterate 2 (refine rg_step rfl fun K0 hK0 => ?_; simp only [zE, op1, ev, lkp, avOf, acOf, ev, reduceCtorEq, reduceEqDiff, reduceAdd, reduceLeDiff, reduceLT, reduceMul, reduceSub, Try.td27, Mly.av]; (repeat refine And.intro (by first | omega | assumption | exact rfl) ?_); (first | refine hK0 _ ?_ | refine Or.inl (hK0 _ ?_)); clear hK0 K0; simp only [put, app, setAll, trOf, zE, zS, reduceAdd])
    refine rg_nil ?_
    refine hK6 _ ?_; clear hK6; refine awp_keep [0, 1, 2, 3, 4, 5, 9] ?_; simp only [keepEnv, lkp, zE, reduceCtorEq, reduceEqDiff, argEnv, reduceAdd]
    refine awp_ret ?_
    refine ⟨by first | exact .inl rfl | exact .inr rfl, _, rfl, ?_⟩; simp only [fzV, fz1, fzC, List.map_cons, List.map_nil, keepEnv, lkp, zE, reduceCtorEq, reduceEqDiff, argEnv, reduceAdd, Mly.av]
    refine VLE.of_eq ?_
    refine congrArg (fun n => AV.one (AC.int IntKind.i64 n)) ?_
    symm
    unfold twoE
    first | (rw [if_neg (by omega)]; done) | (rw [if_pos (by omega)]; done)
  · (try simp only [zB, reduceCtorEq] at hc5)
    refine awp_skip ?_
    refine hK2 _ ?_; clear hK2; refine awp_keep [0, 1, 2, 3, 4, 5, 9] ?_; simp only [keepEnv, lkp, zE, reduceCtorEq, reduceEqDiff, argEnv, reduceAdd]
    refine awp_seq_k fun K7 hK7 => ?_
    refine awp_reg hP hN rfl ?_
    (refine rg_step rfl fun K0 hK0 => ?_; simp only [zE, op1, ev, lkp, avOf, acOf, opLoad, Nat.mul_one, readAC, isAggK, acs, Ty.dflt, zG, cellsAt, reduceCtorEq, reduceEqDiff, reduceAdd, reduceLeDiff, reduceLT, reduceMul, reduceSub, Try.st24, Try.td24, Mly.av]; (repeat refine And.intro (by first | omega | assumption | exact rfl) ?_); (first | refine hK0 _ ?_ | refine Or.inl (hK0 _ ?_)); clear hK0 K0; simp only [put, app, setAll, trOf, zE, zS, reduceAdd])
    refine rg_step rfl fun K0 hK0 => ?_
    refine op_call (h := call_of_pure (valid_c b)) rfl rfl (by first | exact rfl | (simp only [ev, keepEnv, lkp, zE, reduceCtorEq, reduceEqDiff, argEnv, reduceAdd]; exact rfl)) (by simp only [zE, zG, op1, ev, lkp, avOf, acOf, cellsAV, acs, capAV, mv1, mvC, Ty.dflt, reduceCtorEq, reduceEqDiff, reduceAdd, reduceLeDiff, reduceLT, reduceMul, reduceSub, Mly.av]) ?_
    refine hK0 _ ?_; clear hK0 K0; simp only [put, app, setAll, trOf, zE, zS, reduceAdd]
    (refine rg_step rfl fun K0 hK0 => ?_; simp only [zE, op1, ev, lkp, avOf, acOf, ev, reduceCtorEq, reduceEqDiff, reduceAdd, reduceLeDiff, reduceLT, reduceMul, reduceSub, Try.td27, Mly.av]; (repeat refine And.intro (by first | omega | assumption | exact rfl) ?_); (first | refine hK0 _ ?_ | refine Or.inl (hK0 _ ?_)); clear hK0 K0; simp only [put, app, setAll, trOf, zE, zS, reduceAdd])
    refine rg_nil ?_
    refine hK7 _ ?_; clear hK7; refine awp_keep [0, 1, 2, 3, 4, 5, 9] ?_; simp only [keepEnv, lkp, zE, reduceCtorEq, reduceEqDiff, argEnv, reduceAdd]
    refine awp_ret ?_
    refine ⟨by first | exact .inl rfl | exact .inr rfl, _, rfl, ?_⟩; simp only [fzV, fz1, fzC, List.map_cons, List.map_nil, keepEnv, lkp, zE, reduceCtorEq, reduceEqDiff, argEnv, reduceAdd, Mly.av]
    refine VLE.of_eq ?_
    refine congrArg (fun n => AV.one (AC.int IntKind.i64 n)) ?_
    symm
    unfold twoE
    first | (rw [if_neg (by omega)]; done) | (rw [if_pos (by omega)]; done)
end Go.Proofs.Ytfbnhgefkdhiaaa
namespace Go.Proofs.Ytfbnhgefkdhiaaa
open Go Go.AV
open Nat (reduceEqDiff reduceAdd reduceLeDiff reduceLT reduceMul reduceSub)
open List (set_cons_zero set_cons_succ)
set_option maxRecDepth 100000 in
theorem fc_c (a b : Mly) (q : PP) (x : Nat) (ha : MOK a) (hb : MOK b) (hq : IP a b q) (hg : gr a < b.inp) (hx : x < a.inp.toNat) : PURE Try.prog 37 [.agg [.int .i64 q.1, .int .i64 q.2], .one (.int .i64 (x : Int)), .one (.pat (.pair (.int .i64) (.pair (.int .i64) (.pair (.list (.list (.int .i64))) (.pair (.list (.list (.int .i64))) .unit)))) (a.inp, (a.st, (a.nx, (a.ot, ())))) 0), .one (.pat (.pair (.int .i64) (.pair (.int .i64) (.pair (.list (.list (.int .i64))) (.pair (.list (.list (.int .i64))) .unit)))) (b.inp, (b.st, (b.nx, (b.ot, ())))) 0)] (.agg [.int .i64 (FC a b q x).1.1, .int .i64 (FC a b q x).1.2, .int .i64 (FC a b q x).2]) := by
  obtain ⟨⟨hq1, hq2⟩, hq3, hq4⟩ := id hq; have hao := ha.ol; have hbo := hb.ol; have hai := ha.i2; have hbi := hb.i2; have hai1 := ha.i1; have hbi1 := hb.i1; have h1 := ha.rl q.1.toNat (by omega); have h2 := ha.ql q.1.toNat (by omega); have h3 := hb.rl q.2.toNat (by omega); have h4 := hb.ql q.2.toNat (by omega)
  have hoc := out_gr ha ⟨hq1, hq2⟩ (a := (x : Int)) ⟨by omega, by omega⟩; have hoc2 : 0 ≤ (a.ot.getD q.1.toNat []).getD x 0 ∧ (a.ot.getD q.1.toNat []).getD x 0 ≤ gr a := hoc
  refine pure_of_le Try.func37 rfl (by kernel_rfl) (Nat.le_of_ble_eq_true rfl) rfl fun C hP hN hB => ?_
  replace hN : C.N = 46 := hN
  simp only [argEnv, reduceAdd]
  refine awp_seq_k fun K1 hK1 => ?_
  refine awp_reg hP hN rfl ?_
  iterate 2 (refine rg_step rfl fun K0 hK0 => ?_; simp only [zE, op1, ev, lkp, avOf, acOf, opBox, cellsAV, opAlloc, reduceCtorEq, reduceEqDiff, reduceAdd, reduceLeDiff, reduceLT, reduceMul, reduceSub, Try.fl51, Try.st51, Try.st53, Try.td51, Try.td53]; (repeat refine And.intro (by first | omega | assumption | exact rfl) ?_); (first | refine hK0 _ ?_ | refine Or.inl (hK0 _ ?_)); clear hK0 K0; simp only [put, app, setAll, trOf, zE, zS, reduceAdd])
  refine rg_nil ?_
  refine hK1 _ ?_; clear hK1; refine awp_keep [0, 1, 2, 3, 4, 6] ?_; simp only [keepEnv, lkp, zE, reduceCtorEq, reduceEqDiff, argEnv, reduceAdd]
  refine awp_seq_k fun K2 hK2 => ?_
  refine awp_reg hP hN rfl ?_
  iterate 10 (refine rg_step rfl fun K0 hK0 => ?_; simp only [zE, op1, ev, lkp, avOf, acOf, opFieldAddr, opLoad, Nat.mul_one, readAC, isAggK, acs, Ty.dflt, zG, cellsAt, opIndexAddr, Ty.size, ne_eq, not_false_eq_true, Int.natCast_one, Int.mul_one, reduceCtorEq, reduceEqDiff, reduceAdd, reduceLeDiff, reduceLT, reduceMul, reduceSub, Try.el22, Try.el33, Try.fl51, Try.st24, Try.st51, Try.td22, Try.td24, Try.td3, Try.td33, Try.td51]; (repeat refine And.intro (by first | omega | assumption | exact rfl) ?_); (first | refine hK0 _ ?_ | refine Or.inl (hK0 _ ?_)); clear hK0 K0; simp only [put, app, setAll, trOf, zE, zS, reduceAdd])
  refine rg_nil ?_
  refine hK2 _ ?_; clear hK2; refine awp_keep [0, 1, 2, 3, 4, 6, 7] ?_; simp only [keepEnv, lkp, zE, reduceCtorEq, reduceEqDiff, argEnv, reduceAdd]
  refine awp_seq_k fun K3 hK3 => ?_
  refine awp_drw hP hN Try.mixed rfl ?_
  iterate 30 (refine rg_step rfl fun K0 hK0 => ?_; simp only [zE, op1, ev, lkp, avOf, acOf, opFieldAddr, opLoad, Nat.mul_one, readAC, isAggK, acs, Ty.dflt, zG, cellsAt, opIndexAddr, Ty.size, ne_eq, not_false_eq_true, Int.natCast_one, Int.mul_one, opBuild, fillAC, writeAC, cellsAV, opStore, datOf, reduceCtorEq, reduceEqDiff, reduceAdd, reduceLeDiff, reduceLT, reduceMul, reduceSub, Try.el22, Try.el33, Try.fl51, Try.st24, Try.st51, Try.st53, Try.td1, Try.td2, Try.td22, Try.td24, Try.td3, Try.td33, Try.td51, Try.td53]; (repeat refine And.intro (by first | omega | assumption | exact rfl) ?_); (first | refine hK0 _ ?_ | refine Or.inl (hK0 _ ?_)); clear hK0 K0; simp only [put, app, setAll, trOf, zE, zS, reduceAdd])
  refine rg_nil ?_
  refine ⟨by kernel_rfl, ?_⟩
  refine hK3 _ ?_; clear hK3; refine awp_keep [0, 1, 2, 3, 4, 6, 7] ?_; simp only [keepEnv, lkp, zE, reduceCtorEq, reduceEqDiff, argEnv, reduceAdd]
  refine awp_ret ?_
  refine ⟨by first | exact .inl rfl | exact .inr rfl, _, rfl, ?_⟩; simp only [fzV, fz1, fzC, List.map_cons, List.map_nil, keepEnv, lkp, zE, reduceCtorEq, reduceEqDiff, argEnv, reduceAdd]
  refine VLE.of_eq ?_
  rfl
end Go.Proofs.Ytfbnhgefkdhiaaa
namespace Go.Proofs.Ytfbnhgefkdhiaaa
open Go Go.AV
open Nat (reduceEqDiff reduceAdd reduceLeDiff reduceLT reduceMul reduceSub)
open List (set_cons_zero set_cons_succ)
set_option maxRecDepth 100000 in
theorem gmax_c (xs : List Int) (h0 : 0 < xs.length) : PURE Try.prog 50 [.one (.list (.int .i64) xs)] (.one (.int .i64 (mxL xs))) := by
  refine pure_of_le Try.func50 rfl (by kernel_rfl) (Nat.le_of_ble_eq_true rfl) rfl fun C hP hN hB => ?_
  replace hN : C.N = 25 := hN
  simp only [argEnv, reduceAdd]
  refine awp_fit 0 rfl fun hf0 => ?_; simp only [lkp, if_true, if_false, reduceCtorEq, reduceEqDiff, eq_self, Nat.one_ne_zero, Nat.zero_ne_one, fitV, fitC, fitL, Fit, and_true, implies_true, true_and] at hf0
  refine awp_seq_k fun K1 hK1 => ?_
  refine awp_reg hP hN rfl ?_
  (refine rg_step rfl fun K0 hK0 => ?_; simp only [zE, op1, ev, lkp, avOf, acOf, ev, reduceCtorEq, reduceEqDiff, reduceAdd, reduceLeDiff, reduceLT, reduceMul, reduceSub, Try.td3]; (repeat refine And.intro (by first | omega | assumption | exact rfl) ?_); (first | refine hK0 _ ?_ | refine Or.inl (hK0 _ ?_)); clear hK0 K0; simp only [put, app, setAll, trOf, zE, zS, reduceAdd])
  refine rg_nil ?_
  refine hK1 _ ?_; clear hK1; refine awp_keep [0, 2] ?_; simp only [keepEnv, lkp, zE, reduceCtorEq, reduceEqDiff, argEnv, reduceAdd]
  refine awp_seq_k fun K2 hK2 => ?_
  refine awp_seq_k fun K3 hK3 => ?_
  refine awp_reg hP hN rfl ?_
  iterate 3 (refine rg_step rfl fun K0 hK0 => ?_; simp only [zE, op1, ev, lkp, avOf, acOf, opCallAny, opMM, opLen, lenAC, lenOk, fpAC, Nat.div_one, opAppend, srcOf, Ty.size, datOf, dite_true, opBin, arith, inK_i64, eqACs, eqAC, reduceCtorEq, reduceEqDiff, reduceAdd, reduceLeDiff, reduceLT, reduceMul, reduceSub, Try.el33, Try.td3, Try.td33, Try.td4]; (repeat refine And.intro (by first | omega | assumption | exact rfl) ?_); (first | refine hK0 _ ?_ | refine Or.inl (hK0 _ ?_)); clear hK0 K0; simp only [put, app, setAll, trOf, zE, zS, reduceAdd])
  refine rg_nil ?_
  refine hK3 _ ?_; clear hK3; refine awp_keep [0, 2, 7] ?_; simp only [keepEnv, lkp, zE, reduceCtorEq, reduceEqDiff, argEnv, reduceAdd]
  refine awp_cond (by simp only [ev, keepEnv, lkp, zE, reduceCtorEq, reduceEqDiff, argEnv, reduceAdd]; exact rfl) (fun hc4 => ?_) (fun hc4 => ?_)
  · exfalso; (try simp only [zB, reduceCtorEq] at hc4); all_goals (first | (cases hc4; done) | omega | (simp at hc4; done) | (simp_all; done))
  · (try simp only [zB, reduceCtorEq] at hc4)
    refine awp_skip ?_
    refine hK2 _ ?_; clear hK2; refine awp_keep [0, 2, 7] ?_; simp only [keepEnv, lkp, zE, reduceCtorEq, reduceEqDiff, argEnv, reduceAdd]
    refine awp_seq_k fun K5 hK5 => ?_
    refine awp_reg hP hN rfl ?_
    iterate 4 (refine rg_step rfl fun K0 hK0 => ?_; simp only [zE, op1, ev, lkp, avOf, acOf, opIndexAddr, zG, Ty.dflt, Ty.size, Nat.mul_one, ne_eq, not_false_eq_true, Int.natCast_one, Int.mul_one, opLoad, readAC, isAggK, acs, cellsAt, reduceCtorEq, reduceEqDiff, reduceAdd, reduceLeDiff, reduceLT, reduceMul, reduceSub, Try.el33, Try.td3, Try.td33]; (repeat refine And.intro (by first | omega | assumption | exact rfl) ?_); (first | refine hK0 _ ?_ | refine Or.inl (hK0 _ ?_)); clear hK0 K0; simp only [put, app, setAll, trOf, zE, zS, reduceAdd])
    refine rg_nil ?_
    refine hK5 _ ?_; clear hK5; refine awp_keep [0, 2, 3, 7] ?_; simp only [keepEnv, lkp, zE, reduceCtorEq, reduceEqDiff, argEnv, reduceAdd]
    refine awp_seq_k fun K6 hK6 => ?_
    refine awp_seq_k fun K7 hK7 => ?_
    refine awp_reg hP hN rfl ?_
    (refine rg_step rfl fun K0 hK0 => ?_; simp only [zE, op1, ev, lkp, avOf, acOf, ev, reduceCtorEq, reduceEqDiff, reduceAdd, reduceLeDiff, reduceLT, reduceMul, reduceSub, Try.td3]; (repeat refine And.intro (by first | omega | assumption | exact rfl) ?_); (first | refine hK0 _ ?_ | refine Or.inl (hK0 _ ?_)); clear hK0 K0; simp only [put, app, setAll, trOf, zE, zS, reduceAdd])
    refine rg_nil ?_
    refine hK7 _ ?_; clear hK7; refine awp_keep [0, 2, 3, 4, 7] ?_; simp only [keepEnv, lkp, zE, reduceCtorEq, reduceEqDiff, argEnv, reduceAdd]
    refine awp_block ?_
    refine awp_loop (fun n8 s8 => ∃ (k : Nat), (1 ≤ k) ∧ (k ≤ xs.length) ∧ n8 = xs.length - k ∧ s8 = { env := [(0, .one (.list (.int .i64) xs)), (3, .one (.int .i64 ((xs.take k).foldl max (xs.getD 0 0)))), (4, .one (.int .i64 (k : Int)))], L := [] }) ?_ ?_
    · refine ⟨_, _, sub_keep [0, 3, 4], 1, Nat.le_refl _, h0, rfl, ?_⟩
      rw [mx_one h0]; rfl
    · rintro n8 s8 ⟨k, hk1, hk, rfl, rfl⟩
      refine awp_seq_k fun K9 hK9 => ?_
      refine awp_seq_k fun K10 hK10 => ?_
      refine awp_reg hP hN rfl ?_
      iterate 4 (refine rg_step rfl fun K0 hK0 => ?_; simp only [zE, op1, ev, lkp, avOf, acOf, opCallAny, opMM, opLen, lenAC, lenOk, fpAC, Nat.div_one, opAppend, srcOf, Ty.size, datOf, dite_true, opBin, arith, inK_i64, eqACs, eqAC, reduceCtorEq, reduceEqDiff, reduceAdd, reduceLeDiff, reduceLT, reduceMul, reduceSub, Try.el33, Try.td3, Try.td33, Try.td4]; (repeat refine And.intro (by first | omega | assumption | exact rfl) ?_); (first | refine hK0 _ ?_ | refine Or.inl (hK0 _ ?_)); clear hK0 K0; simp only [put, app, setAll, trOf, zE, zS, reduceAdd])
      refine rg_nil ?_
      refine hK10 _ ?_; clear hK10; refine awp_keep [0, 3, 4, 15] ?_; simp only [keepEnv, lkp, zE, reduceCtorEq, reduceEqDiff, argEnv, reduceAdd]
      refine awp_cond (by simp only [ev, keepEnv, lkp, zE, reduceCtorEq, reduceEqDiff, argEnv, reduceAdd]; exact rfl) (fun hc11 => ?_) (fun hc11 => ?_)
      · (try simp only [zB, reduceCtorEq] at hc11)
        refine awp_skip ?_
        refine hK9 _ ?_; clear hK9; refine awp_keep [0, 3, 4, 15] ?_; simp only [keepEnv, lkp, zE, reduceCtorEq, reduceEqDiff, argEnv, reduceAdd]
        refine awp_seq_k fun K12 hK12 => ?_
        refine awp_block ?_
        refine awp_reg hP hN rfl ?_
        iterate 7 (refine rg_step rfl fun K0 hK0 => ?_; simp only [zE, op1, ev, lkp, avOf, acOf, opIndexAddr, zG, Ty.dflt, Ty.size, Nat.mul_one, ne_eq, not_false_eq_true, Int.natCast_one, Int.mul_one, opLoad, readAC, isAggK, acs, cellsAt, opCallAny, opMM, opLen, lenAC, lenOk, fpAC, Nat.div_one, opAppend, srcOf, datOf, dite_true, reduceCtorEq, reduceEqDiff, reduceAdd, reduceLeDiff, reduceLT, reduceMul, reduceSub, Try.el33, Try.td3, Try.td33]; (repeat refine And.intro (by first | omega | assumption | exact rfl) ?_); (first | refine hK0 _ ?_ | refine Or.inl (hK0 _ ?_)); clear hK0 K0; simp only [put, app, setAll, trOf, zE, zS, reduceAdd])
        refine rg_nil ?_
        refine hK12 _ ?_; clear hK12; refine awp_keep [0, 3, 4, 15] ?_; simp only [keepEnv, lkp, zE, reduceCtorEq, reduceEqDiff, argEnv, reduceAdd]
        refine awp_reg hP hN rfl ?_
        iterate 3 (refine rg_step rfl fun K0 hK0 => ?_; simp only [zE, op1, ev, lkp, avOf, acOf, opBin, arith, inK_i64, eqACs, eqAC, reduceCtorEq, reduceEqDiff, reduceAdd, reduceLeDiff, reduceLT, reduceMul, reduceSub, Try.td3]; (repeat refine And.intro (by first | omega | assumption | exact rfl) ?_); (first | refine hK0 _ ?_ | refine Or.inl (hK0 _ ?_)); clear hK0 K0; simp only [put, app, setAll, trOf, zE, zS, reduceAdd])
        refine rg_nil ?_
        refine ⟨_, _, ?_, sub_keep [0, 3, 4], k + 1, by omega, by omega, rfl, ?_⟩
        · omega
        · rw [take_succ_D (by omega), List.foldl_append]; rfl
      · (try simp only [zB, reduceCtorEq] at hc11)
        refine awp_exit ?_
        refine hK6 _ ?_; clear hK6; refine awp_keep [0, 3, 4, 15] ?_; simp only [keepEnv, lkp, zE, reduceCtorEq, reduceEqDiff, argEnv, reduceAdd]
        refine awp_seq_k fun K13 hK13 => ?_
        refine awp_reg hP hN rfl ?_
        iterate 2 (refine rg_step rfl fun K0 hK0 => ?_; simp only [zE, op1, ev, lkp, avOf, acOf, ev, reduceCtorEq, reduceEqDiff, reduceAdd, reduceLeDiff, reduceLT, reduceMul, reduceSub, Try.td3]; (repeat refine And.intro (by first | omega | assumption | exact rfl) ?_); (first | refine hK0 _ ?_ | refine Or.inl (hK0 _ ?_)); clear hK0 K0; simp only [put, app, setAll, trOf, zE, zS, reduceAdd])
        refine rg_nil ?_
        refine hK13 _ ?_; clear hK13; refine awp_keep [0, 2, 3, 4, 15] ?_; simp only [keepEnv, lkp, zE, reduceCtorEq, reduceEqDiff, argEnv, reduceAdd]
        refine awp_ret ?_
        refine ⟨by first | exact .inl rfl | exact .inr rfl, _, rfl, ?_⟩; simp only [fzV, fz1, fzC, List.map_cons, List.map_nil, keepEnv, lkp, zE, reduceCtorEq, reduceEqDiff, argEnv, reduceAdd]
        refine VLE.of_eq ?_
        refine congrArg (fun n => AV.one (AC.int IntKind.i64 n)) ?_
        rw [show k = xs.length by omega, List.take_length]; rfl
end Go.Proofs.Ytfbnhgefkdhiaaa
namespace Go.Proofs.Ytfbnhgefkdhiaaa
open Go Go.AV
open Nat (reduceEqDiff reduceAdd reduceLeDiff reduceLT reduceMul reduceSub)
open List (set_cons_zero set_cons_succ)
set_option maxRecDepth 100000 in
theorem great1_c (m : Mly) (hm : MOK m) : PURE Try.prog 31 [m.av] (.one (.int .i64 (gr m))) := by
  have hol := hm.ol; have hi1 := hm.i1; have hn2 := hm.n2
  refine pure_of_le Try.func31 rfl (by kernel_rfl) (Nat.le_of_ble_eq_true rfl) rfl fun C hP hN hB => ?_
  replace hN : C.N = 19 := hN
  simp only [argEnv, reduceAdd]
  refine awp_seq_k fun K1 hK1 => ?_
  refine awp_reg hP hN rfl ?_
  iterate 2 (refine rg_step rfl fun K0 hK0 => ?_; simp only [zE, op1, ev, lkp, avOf, acOf, opBox, cellsAV, reduceCtorEq, reduceEqDiff, reduceAdd, reduceLeDiff, reduceLT, reduceMul, reduceSub, Try.st24, Try.td24, Try.td3, Mly.av]; (repeat refine And.intro (by first | omega | assumption | exact rfl) ?_); (first | refine hK0 _ ?_ | refine Or.inl (hK0 _ ?_)); clear hK0 K0; simp only [put, app, setAll, trOf, zE, zS, reduceAdd])
  refine rg_nil ?_
  refine hK1 _ ?_; clear hK1; refine awp_keep [0, 1, 2] ?_; simp only [keepEnv, lkp, zE, reduceCtorEq, reduceEqDiff, argEnv, reduceAdd]
  refine awp_seq_k fun K2 hK2 => ?_
  refine awp_reg hP hN rfl ?_
  (refine rg_step rfl fun K0 hK0 => ?_; simp only [zE, op1, ev, lkp, avOf, acOf, ev, reduceCtorEq, reduceEqDiff, reduceAdd, reduceLeDiff, reduceLT, reduceMul, reduceSub, Try.td3, Mly.av]; (repeat refine And.intro (by first | omega | assumption | exact rfl) ?_); (first | refine hK0 _ ?_ | refine Or.inl (hK0 _ ?_)); clear hK0 K0; simp only [put, app, setAll, trOf, zE, zS, reduceAdd])
  refine rg_nil ?_
  refine hK2 _ ?_; clear hK2; refine awp_keep [0, 1, 2, 3] ?_; simp only [keepEnv, lkp, zE, reduceCtorEq, reduceEqDiff, argEnv, reduceAdd]
  refine awp_seq_k fun K3 hK3 => ?_
  refine awp_seq_k fun K4 hK4 => ?_
  refine awp_reg hP hN rfl ?_
  iterate 4 (refine rg_step rfl fun K0 hK0 => ?_; simp only [zE, op1, ev, lkp, avOf, acOf, opFieldAddr, opLoad, Nat.mul_one, readAC, isAggK, acs, Ty.dflt, zG, cellsAt, opCallAny, opMM, opLen, lenAC, lenOk, fpAC, Nat.div_one, opAppend, srcOf, Ty.size, datOf, dite_true, reduceCtorEq, reduceEqDiff, reduceAdd, reduceLeDiff, reduceLT, reduceMul, reduceSub, Try.el22, Try.st24, Try.td22, Try.td24, Try.td3, Mly.av]; (repeat refine And.intro (by first | omega | assumption | exact rfl) ?_); (first | refine hK0 _ ?_ | refine Or.inl (hK0 _ ?_)); clear hK0 K0; simp only [put, app, setAll, trOf, zE, zS, reduceAdd])
  refine rg_nil ?_
  refine hK4 _ ?_; clear hK4; refine awp_keep [0, 1, 2, 3, 7, 8, 9] ?_; simp only [keepEnv, lkp, zE, reduceCtorEq, reduceEqDiff, argEnv, reduceAdd]
  refine awp_block ?_
  refine awp_loop (fun n5 s5 => ∃ (k : Nat), (k ≤ m.ot.length) ∧ n5 = m.ot.length - k ∧ s5 = { env := [(3, .one (.int .i64 ((m.ot.take k).flatten.foldl max 0))), (7, .one (.list (.list (.int .i64)) m.ot)), (8, .one (.int .i64 (m.ot.length : Int))), (9, .one (.int .i64 (k : Int)))], L := [.vars 24 [.int .i64 m.inp, .int .i64 m.st, .list (.list (.int .i64)) m.nx, .list (.list (.int .i64)) m.ot]] }) ?_ ?_
  · refine ⟨_, _, sub_keep [3, 7, 8, 9], 0, Nat.zero_le _, rfl, rfl⟩
  · rintro n5 s5 ⟨k, hk, rfl, rfl⟩
    refine awp_seq_k fun K6 hK6 => ?_
    refine awp_reg hP hN rfl ?_
    (refine rg_step rfl fun K0 hK0 => ?_; simp only [zE, op1, ev, lkp, avOf, acOf, opBin, arith, inK_i64, eqACs, eqAC, reduceCtorEq, reduceEqDiff, reduceAdd, reduceLeDiff, reduceLT, reduceMul, reduceSub, Try.td3, Mly.av]; (repeat refine And.intro (by first | omega | assumption | exact rfl) ?_); (first | refine hK0 _ ?_ | refine Or.inl (hK0 _ ?_)); clear hK0 K0; simp only [put, app, setAll, trOf, zE, zS, reduceAdd])
    refine rg_nil ?_
    refine hK6 _ ?_; clear hK6; refine awp_keep [3, 7, 8, 9, 10] ?_; simp only [keepEnv, lkp, zE, reduceCtorEq, reduceEqDiff, argEnv, reduceAdd]
    refine awp_seq_k fun K7 hK7 => ?_
    refine awp_cond (by simp only [ev, keepEnv, lkp, zE, reduceCtorEq, reduceEqDiff, argEnv, reduceAdd]; exact rfl) (fun hc8 => ?_) (fun hc8 => ?_)
    · (try simp only [zB, reduceCtorEq] at hc8)
      refine awp_skip ?_
      refine hK7 _ ?_; clear hK7; refine awp_keep [3, 7, 8, 9, 10] ?_; simp only [keepEnv, lkp, zE, reduceCtorEq, reduceEqDiff, argEnv, reduceAdd]
      refine awp_seq_k fun K9 hK9 => ?_
      refine awp_block ?_
      refine awp_seq_k fun K10 hK10 => ?_
      refine awp_reg hP hN rfl ?_
      iterate 3 (refine rg_step rfl fun K0 hK0 => ?_; simp only [zE, op1, ev, lkp, avOf, acOf, opIndexAddr, zG, Ty.dflt, Ty.size, Nat.mul_one, ne_eq, not_false_eq_true, Int.natCast_one, Int.mul_one, opLoad, readAC, isAggK, acs, cellsAt, reduceCtorEq, reduceEqDiff, reduceAdd, reduceLeDiff, reduceLT, reduceMul, reduceSub, Try.el22, Try.el33, Try.td22, Try.td33, Mly.av]; (repeat refine And.intro (by first | omega | assumption | exact rfl) ?_); (first | refine hK0 _ ?_ | refine Or.inl (hK0 _ ?_)); clear hK0 K0; simp only [put, app, setAll, trOf, zE, zS, reduceAdd])
      refine rg_nil ?_
      refine hK10 _ ?_; clear hK10; refine awp_keep [3, 5, 7, 8, 9, 10] ?_; simp only [keepEnv, lkp, zE, reduceCtorEq, reduceEqDiff, argEnv, reduceAdd]
      have hql := hm.ql k (by omega); have hpos : 0 < (m.ot.getD k []).length := by omega
      refine awp_reg hP hN rfl ?_
      iterate 2 (refine rg_step rfl fun K0 hK0 => ?_; simp only [zE, op1, ev, lkp, avOf, acOf, ev, reduceCtorEq, reduceEqDiff, reduceAdd, reduceLeDiff, reduceLT, reduceMul, reduceSub, Try.el33, Try.td3, Try.td33, Mly.av]; (repeat refine And.intro (by first | omega | assumption | exact rfl) ?_); (first | refine hK0 _ ?_ | refine Or.inl (hK0 _ ?_)); clear hK0 K0; simp only [put, app, setAll, trOf, zE, zS, reduceAdd])
      refine rg_step rfl fun K0 hK0 => ?_
      refine op_call (h := call_of_pure (gmax_c (m.ot.getD k []) hpos)) rfl rfl (by first | exact rfl | (simp only [ev, keepEnv, lkp, zE, reduceCtorEq, reduceEqDiff, argEnv, reduceAdd]; exact rfl)) (by simp only [zE, zG, op1, ev, lkp, avOf, acOf, cellsAV, acs, capAV, mv1, mvC, Ty.dflt, reduceCtorEq, reduceEqDiff, reduceAdd, reduceLeDiff, reduceLT, reduceMul, reduceSub, Mly.av]) ?_
      refine hK0 _ ?_; clear hK0 K0; simp only [put, app, setAll, trOf, zE, zS, reduceAdd]
      iterate 2 (refine rg_step rfl fun K0 hK0 => ?_; simp only [zE, op1, ev, lkp, avOf, acOf, opCallAny, opMM, opLen, lenAC, lenOk, fpAC, Nat.div_one, opAppend, srcOf, Ty.size, datOf, dite_true, reduceCtorEq, reduceEqDiff, reduceAdd, reduceLeDiff, reduceLT, reduceMul, reduceSub, Try.td3, Mly.av]; (repeat refine And.intro (by first | omega | assumption | exact rfl) ?_); (first | refine hK0 _ ?_ | refine Or.inl (hK0 _ ?_)); clear hK0 K0; simp only [put, app, setAll, trOf, zE, zS, reduceAdd])
      refine rg_nil ?_
      refine hK9 _ ?_; clear hK9; refine awp_keep [3, 5, 7, 8, 9, 10] ?_; simp only [keepEnv, lkp, zE, reduceCtorEq, reduceEqDiff, argEnv, reduceAdd]
      refine awp_reg hP hN rfl ?_
      iterate 2 (refine rg_step rfl fun K0 hK0 => ?_; simp only [zE, op1, ev, lkp, avOf, acOf, opBin, arith, inK_i64, eqACs, eqAC, reduceCtorEq, reduceEqDiff, reduceAdd, reduceLeDiff, reduceLT, reduceMul, reduceSub, Try.td3, Mly.av]; (repeat refine And.intro (by first | omega | assumption | exact rfl) ?_); (first | refine hK0 _ ?_ | refine Or.inl (hK0 _ ?_)); clear hK0 K0; simp only [put, app, setAll, trOf, zE, zS, reduceAdd])
      refine rg_nil ?_
      refine ⟨_, _, ?_, sub_keep [3, 7, 8, 9], k + 1, by omega, rfl, ?_⟩
      · omega
      · rw [gr_take_succ (by omega), ← mxL_max hpos]; rfl
    · (try simp only [zB, reduceCtorEq] at hc8)
      refine awp_exit ?_
      refine hK3 _ ?_; clear hK3; refine awp_keep [3, 7, 8, 9, 10] ?_; simp only [keepEnv, lkp, zE, reduceCtorEq, reduceEqDiff, argEnv, reduceAdd]
      refine awp_seq_k fun K11 hK11 => ?_
      refine awp_reg hP hN rfl ?_
      iterate 2 (refine rg_step rfl fun K0 hK0 => ?_; simp only [zE, op1, ev, lkp, avOf, acOf, ev, reduceCtorEq, reduceEqDiff, reduceAdd, reduceLeDiff, reduceLT, reduceMul, reduceSub, Try.td3, Mly.av]; (repeat refine And.intro (by first | omega | assumption | exact rfl) ?_); (first | refine hK0 _ ?_ | refine Or.inl (hK0 _ ?_)); clear hK0 K0; simp only [put, app, setAll, trOf, zE, zS, reduceAdd])
      refine rg_nil ?_
      refine hK11 _ ?_; clear hK11; refine awp_keep [2, 3, 7, 8, 9, 10] ?_; simp only [keepEnv, lkp, zE, reduceCtorEq, reduceEqDiff, argEnv, reduceAdd]
      refine awp_ret ?_
      refine ⟨by first | exact .inl rfl | exact .inr rfl, _, rfl, ?_⟩; simp only [fzV, fz1, fzC, List.map_cons, List.map_nil, keepEnv, lkp, zE, reduceCtorEq, reduceEqDiff, argEnv, reduceAdd, Mly.av]
      refine VLE.of_eq ?_
      refine congrArg (fun n => AV.one (AC.int IntKind.i64 n)) ?_
      rw [show k = m.ot.length by omega, List.take_length]; rfl
end Go.Proofs.Ytfbnhgefkdhiaaa
namespace Go.Proofs.Ytfbnhgefkdhiaaa
open Go Go.AV
open Nat (reduceEqDiff reduceAdd reduceLeDiff reduceLT reduceMul reduceSub)
open List (set_cons_zero set_cons_succ)
set_option maxRecDepth 100000 in
theorem casc_c (a b : Mly) : PURE Try.prog 16 [a.av, b.av] (.tup [(caM a b).av, .one (.int .i64 (caE a b))]) := by
  refine pure_of_le Try.func16 rfl (by kernel_rfl) (Nat.le_of_ble_eq_true rfl) rfl fun C hP hN hB => ?_
  replace hN : C.N = 31 := hN
  simp only [argEnv, reduceAdd]
  refine awp_seq_k fun K1 hK1 => ?_
  refine awp_reg hP hN rfl ?_
  iterate 4 (refine rg_step rfl fun K0 hK0 => ?_; simp only [zE, op1, ev, lkp, avOf, acOf, opBox, cellsAV, opAlloc, reduceCtorEq, reduceEqDiff, reduceAdd, reduceLeDiff, reduceLT, reduceMul, reduceSub, Try.st24, Try.td24, Try.td27, Mly.av]; (repeat refine And.intro (by first | omega | assumption | exact rfl) ?_); (first | refine hK0 _ ?_ | refine Or.inl (hK0 _ ?_)); clear hK0 K0; simp only [put, app, setAll, trOf, zE, zS, reduceAdd])
  refine rg_nil ?_
  refine hK1 _ ?_; clear hK1; refine awp_keep [0, 1, 2, 3, 4, 5] ?_; simp only [keepEnv, lkp, zE, reduceCtorEq, reduceEqDiff, argEnv, reduceAdd]
  refine awp_seq_k fun K2 hK2 => ?_
  refine awp_seq_k fun K3 hK3 => ?_
  refine awp_reg hP hN rfl ?_
  iterate 2 (refine rg_step rfl fun K0 hK0 => ?_; simp only [zE, op1, ev, lkp, avOf, acOf, opLoad, Nat.mul_one, readAC, isAggK, acs, Ty.dflt, zG, cellsAt, reduceCtorEq, reduceEqDiff, reduceAdd, reduceLeDiff, reduceLT, reduceMul, reduceSub, Try.st24, Try.td24, Mly.av]; (repeat refine And.intro (by first | omega | assumption | exact rfl) ?_); (first | refine hK0 _ ?_ | refine Or.inl (hK0 _ ?_)); clear hK0 K0; simp only [put, app, setAll, trOf, zE, zS, reduceAdd])
  refine rg_step rfl fun K0 hK0 => ?_
  refine op_call (h := call_of_pure (both_c a b)) rfl rfl (by first | exact rfl | (simp only [ev, keepEnv, lkp, zE, reduceCtorEq, reduceEqDiff, argEnv, reduceAdd]; exact rfl)) (by simp only [zE, zG, op1, ev, lkp, avOf, acOf, cellsAV, acs, capAV, mv1, mvC, Ty.dflt, reduceCtorEq, reduceEqDiff, reduceAdd, reduceLeDiff, reduceLT, reduceMul, reduceSub, Mly.av]) ?_
  refine hK0 _ ?_; clear hK0 K0; simp only [put, app, setAll, trOf, zE, zS, reduceAdd]
  (refine rg_step rfl fun K0 hK0 => ?_; simp only [zE, op1, ev, lkp, avOf, acOf, ev, reduceCtorEq, reduceEqDiff, reduceAdd, reduceLeDiff, reduceLT, reduceMul, reduceSub, Try.td27, Mly.av]; (repeat refine And.intro (by first | omega | assumption | exact rfl) ?_); (first | refine hK0 _ ?_ | refine Or.inl (hK0 _ ?_)); clear hK0 K0; simp only [put, app, setAll, trOf, zE, zS, reduceAdd])
  refine rg_nil ?_
  refine hK3 _ ?_; clear hK3; refine awp_keep [0, 1, 2, 3, 4, 5, 6] ?_; simp only [keepEnv, lkp, zE, reduceCtorEq, reduceEqDiff, argEnv, reduceAdd]
  refine awp_seq_k fun K4 hK4 => ?_
  refine awp_reg hP hN rfl ?_
  iterate 2 (refine rg_step rfl fun K0 hK0 => ?_; simp only [zE, op1, ev, lkp, avOf, acOf, opBin, arith, inK_i64, eqACs, eqAC, reduceCtorEq, reduceEqDiff, reduceAdd, reduceLeDiff, reduceLT, reduceMul, reduceSub, Try.td27, Try.td4, Mly.av]; (repeat refine And.intro (by first | omega | assumption | exact rfl) ?_); (first | refine hK0 _ ?_ | refine Or.inl (hK0 _ ?_)); clear hK0 K0; simp only [put, app, setAll, trOf, zE, zS, reduceAdd])
  refine rg_nil ?_
  refine hK4 _ ?_; clear hK4; refine awp_keep [0, 1, 2, 3, 4, 5, 6, 11] ?_; simp only [keepEnv, lkp, zE, reduceCtorEq, reduceEqDiff, argEnv, reduceAdd]
  refine awp_cond (by simp only [ev, keepEnv, lkp, zE, reduceCtorEq, reduceEqDiff, argEnv, reduceAdd]; exact rfl) (fun hc5 => ?_) (fun hc5 => ?_)
  · (try simp only [zB, reduceCtorEq] at hc5)
    refine awp_seq_k fun K6 hK6 => ?_
    refine awp_reg hP hN rfl ?_
    iterate 4 (refine rg_step rfl fun K0 hK0 => ?_; simp only [zE, op1, ev, lkp, avOf, acOf, opBuild, fillAC, writeAC, cellsAV, opStore, Nat.mul_one, datOf, acs, Ty.size, Ty.dflt, zG, reduceCtorEq, reduceEqDiff, reduceAdd, reduceLeDiff, reduceLT, reduceMul, reduceSub, Try.st24, Try.td24, Try.td27, Mly.av]; (repeat refine And.intro (by first | omega | assumption | exact rfl) ?_); (first | refine hK0 _ ?_ | refine Or.inl (hK0 _ ?_)); clear hK0 K0; simp only [put, app, setAll, trOf, zE, zS, reduceAdd])
    refine rg_nil ?_
    refine hK6 _ ?_; clear hK6; refine awp_keep [0, 1, 2, 3, 4, 5, 6, 11] ?_; simp only [keepEnv, lkp, zE, reduceCtorEq, reduceEqDiff, argEnv, reduceAdd]
    refine awp_ret ?_
    refine ⟨by first | exact .inl rfl | exact .inr rfl, _, rfl, ?_⟩; simp only [fzV, fz1, fzC, List.map_cons, List.map_nil, keepEnv, lkp, zE, reduceCtorEq, reduceEqDiff, argEnv, reduceAdd, Mly.av]
    first
    | (obtain ⟨e1, e2⟩ := ca_bad (a := a) (b := b) (by assumption); rw [e1, e2]; exact vle_tup ⟨vle1_agg ⟨.refl _, .refl _, cle_nils rfl, cle_nils rfl, trivial⟩, vle1_one (.refl _), trivial⟩)
    | (obtain ⟨e1, e2⟩ := ca_big h20 (by omega); rw [e1, e2]; exact vle_tup ⟨vle1_agg ⟨.refl _, .refl _, cle_nils rfl, cle_nils rfl, trivial⟩, vle1_one (.refl _), trivial⟩)
    | (obtain ⟨e1, e2⟩ := ca_good h20 (by omega); rw [e1, e2]; exact VLE.of_eq rfl)
  · (try simp only [zB, reduceCtorEq] at hc5)
    have h20 : twoE a b = 0 := by omega
    obtain ⟨ha, hb⟩ := twoE_ok h20
    have hga := gr_nn a; have hgb := gr_nn b; have hga2 := gr_le ha; have hgb2 := gr_le hb; have hai := ha.i2; have hbi := hb.i2; have hai1 := ha.i1; have hbi1 := hb.i1
    refine awp_skip ?_
    refine hK2 _ ?_; clear hK2; refine awp_keep [0, 1, 2, 3, 4, 5, 6, 11] ?_; simp only [keepEnv, lkp, zE, reduceCtorEq, reduceEqDiff, argEnv, reduceAdd]
    refine awp_seq_k fun K7 hK7 => ?_
    refine awp_seq_k fun K8 hK8 => ?_
    refine awp_drw hP hN Try.mixed rfl ?_
    (refine rg_step rfl fun K0 hK0 => ?_; simp only [zE, op1, ev, lkp, avOf, acOf, opLoad, Nat.mul_one, readAC, isAggK, acs, Ty.dflt, zG, cellsAt, reduceCtorEq, reduceEqDiff, reduceAdd, reduceLeDiff, reduceLT, reduceMul, reduceSub, Try.st24, Try.td24, Mly.av]; (repeat refine And.intro (by first | omega | assumption | exact rfl) ?_); (first | refine hK0 _ ?_ | refine Or.inl (hK0 _ ?_)); clear hK0 K0; simp only [put, app, setAll, trOf, zE, zS, reduceAdd])
    refine rg_step rfl fun K0 hK0 => ?_
    refine op_call (h := call_of_pure (great1_c a ha)) rfl rfl (by first | exact rfl | (simp only [ev, keepEnv, lkp, zE, reduceCtorEq, reduceEqDiff, argEnv, reduceAdd]; exact rfl)) (by simp only [zE, zG, op1, ev, lkp, avOf, acOf, cellsAV, acs, capAV, mv1, mvC, Ty.dflt, reduceCtorEq, reduceEqDiff, reduceAdd, reduceLeDiff, reduceLT, reduceMul, reduceSub, Mly.av]) ?_
    refine hK0 _ ?_; clear hK0 K0; simp only [put, app, setAll, trOf, zE, zS, reduceAdd]
    iterate 3 (refine rg_step rfl fun K0 hK0 => ?_; simp only [zE, op1, ev, lkp, avOf, acOf, opFieldAddr, opLoad, Nat.mul_one, readAC, isAggK, acs, Ty.dflt, zG, cellsAt, opBin, arith, inK_i64, eqACs, eqAC, reduceCtorEq, reduceEqDiff, reduceAdd, reduceLeDiff, reduceLT, reduceMul, reduceSub, Try.st24, Try.td24, Try.td3, Try.td4, Mly.av]; (repeat refine And.intro (by first | omega | assumption | exact rfl) ?_); (first | refine hK0 _ ?_ | refine Or.inl (hK0 _ ?_)); clear hK0 K0; simp only [put, app, setAll, trOf, zE, zS, reduceAdd])
    refine rg_nil ?_
    refine ⟨by kernel_rfl, ?_⟩
    refine hK8 _ ?_; clear hK8; refine awp_keep [0, 1, 2, 3, 4, 5, 6, 11, 18] ?_; simp only [keepEnv, lkp, zE, reduceCtorEq, reduceEqDiff, argEnv, reduceAdd]
    refine awp_cond (by simp only [ev, keepEnv, lkp, zE, reduceCtorEq, reduceEqDiff, argEnv, reduceAdd]; exact rfl) (fun hc9 => ?_) (fun hc9 => ?_)
    · (try simp only [zB, reduceCtorEq] at hc9)
      refine awp_seq_k fun K10 hK10 => ?_
      refine awp_reg hP hN rfl ?_
      iterate 3 (refine rg_step rfl fun K0 hK0 => ?_; simp only [zE, op1, ev, lkp, avOf, acOf, opBuild, fillAC, writeAC, cellsAV, opStore, Nat.mul_one, datOf, acs, Ty.size, Ty.dflt, zG, reduceCtorEq, reduceEqDiff, reduceAdd, reduceLeDiff, reduceLT, reduceMul, reduceSub, Try.st24, Try.td24, Try.td27, Mly.av]; (repeat refine And.intro (by first | omega | assumption | exact rfl) ?_); (first | refine hK0 _ ?_ | refine Or.inl (hK0 _ ?_)); clear hK0 K0; simp only [put, app, setAll, trOf, zE, zS, reduceAdd])
      refine rg_nil ?_
      refine hK10 _ ?_; clear hK10; refine awp_keep [0, 1, 2, 3, 4, 5, 6, 11, 18] ?_; simp only [keepEnv, lkp, zE, reduceCtorEq, reduceEqDiff, argEnv, reduceAdd]
      refine awp_ret ?_
      refine ⟨by first | exact .inl rfl | exact .inr rfl, _, rfl, ?_⟩; simp only [fzV, fz1, fzC, List.map_cons, List.map_nil, keepEnv, lkp, zE, reduceCtorEq, reduceEqDiff, argEnv, reduceAdd, Mly.av]
      first
      | (obtain ⟨e1, e2⟩ := ca_bad (a := a) (b := b) (by assumption); rw [e1, e2]; exact vle_tup ⟨vle1_agg ⟨.refl _, .refl _, cle_nils rfl, cle_nils rfl, trivial⟩, vle1_one (.refl _), trivial⟩)
      | (obtain ⟨e1, e2⟩ := ca_big h20 (by omega); rw [e1, e2]; exact vle_tup ⟨vle1_agg ⟨.refl _, .refl _, cle_nils rfl, cle_nils rfl, trivial⟩, vle1_one (.refl _), trivial⟩)
      | (obtain ⟨e1, e2⟩ := ca_good h20 (by omega); rw [e1, e2]; exact VLE.of_eq rfl)
    · (try simp only [zB, reduceCtorEq] at hc9)
      have hg : gr a < b.inp := by omega
      refine awp_skip ?_
      refine hK7 _ ?_; clear hK7; refine awp_keep [0, 1, 2, 3, 4, 5, 6, 11, 18] ?_; simp only [keepEnv, lkp, zE, reduceCtorEq, reduceEqDiff, argEnv, reduceAdd]
      refine awp_seq_k fun K11 hK11 => ?_
      refine awp_share 0 (.pair (.int .i64) (.pair (.int .i64) (.pair (.list (.list (.int .i64))) (.pair (.list (.list (.int .i64))) .unit)))) rfl rfl ?_; simp only [List.map_cons, List.map_nil, shV, if_true, zS, if_false, eq_self, reduceEqDiff, reduceCtorEq, Nat.one_ne_zero, Nat.zero_ne_one]
      refine awp_share 1 (.pair (.int .i64) (.pair (.int .i64) (.pair (.list (.list (.int .i64))) (.pair (.list (.list (.int .i64))) .unit)))) rfl rfl ?_; simp only [List.map_cons, List.map_nil, shV, if_true, zS, if_false, eq_self, reduceEqDiff, reduceCtorEq, Nat.one_ne_zero, Nat.zero_ne_one]
      refine awp_reg hP hN rfl ?_
      iterate 8 (refine rg_step rfl fun K0 hK0 => ?_; simp only [zE, op1, ev, lkp, avOf, acOf, opFieldAddr, opLoad, Nat.mul_one, readAC, isAggK, acs, Ty.dflt, zG, cellsAt, opBuild, fillAC, writeAC, cellsAV, opMakeFunc, ptrsOf, capOf, reduceCtorEq, reduceEqDiff, reduceAdd, reduceLeDiff, reduceLT, reduceMul, reduceSub, Try.fl51, Try.st24, Try.st51, Try.td1, Try.td24, Try.td3, Try.td51, Try.td54, Mly.av]; (repeat refine And.intro (by first | omega | assumption | exact rfl) ?_); (first | refine hK0 _ ?_ | refine Or.inl (hK0 _ ?_)); clear hK0 K0; simp only [put, app, setAll, trOf, zE, zS, reduceAdd])
      refine rg_step rfl fun K0 hK0 => ?_
      refine op_call (h := call_of_pure (bbuild_c a.inp.toNat 37 [.pat (.pair (.int .i64) (.pair (.int .i64) (.pair (.list (.list (.int .i64))) (.pair (.list (.list (.int .i64))) .unit)))) (a.inp, (a.st, (a.nx, (a.ot, ())))), .pat (.pair (.int .i64) (.pair (.int .i64) (.pair (.list (.list (.int .i64))) (.pair (.list (.list (.int .i64))) .unit)))) (b.inp, (b.st, (b.nx, (b.ot, ()))))] (FC a b) (a.st, b.st) (IP a b) a.inp (by omega) rfl (by omega) (IP.st ha hb) (FC.keep ha hb hg) (fun q x hq hx => fc_c a b q x ha hb hq hg hx))) rfl rfl (by first | exact rfl | (simp only [ev, keepEnv, lkp, zE, reduceCtorEq, reduceEqDiff, argEnv, reduceAdd]; exact rfl)) (by simp only [zE, zG, op1, ev, lkp, avOf, acOf, cellsAV, acs, capAV, mv1, mvC, Ty.dflt, reduceCtorEq, reduceEqDiff, reduceAdd, reduceLeDiff, reduceLT, reduceMul, reduceSub, Mly.av]) ?_
      refine hK0 _ ?_; clear hK0 K0; simp only [put, app, setAll, trOf, zE, zS, reduceAdd]
      iterate 4 (refine rg_step rfl fun K0 hK0 => ?_; simp only [zE, op1, ev, lkp, avOf, acOf, opExtract, opStore, Nat.mul_one, cellsAV, writeAC, datOf, acs, Ty.size, Ty.dflt, zG, reduceCtorEq, reduceEqDiff, reduceAdd, reduceLeDiff, reduceLT, reduceMul, reduceSub, Try.st24, Try.td1, Try.td24, Try.td27, Mly.av]; (repeat refine And.intro (by first | omega | assumption | exact rfl) ?_); (first | refine hK0 _ ?_ | refine Or.inl (hK0 _ ?_)); clear hK0 K0; simp only [put, app, setAll, trOf, zE, zS, reduceAdd])
      refine rg_nil ?_
      refine hK11 _ ?_; clear hK11; refine awp_keep [0, 1, 2, 3, 4, 5, 6, 11, 18] ?_; simp only [keepEnv, lkp, zE, reduceCtorEq, reduceEqDiff, argEnv, reduceAdd]
      refine awp_ret ?_
      refine ⟨by first | exact .inl rfl | exact .inr rfl, _, rfl, ?_⟩; simp only [fzV, fz1, fzC, List.map_cons, List.map_nil, keepEnv, lkp, zE, reduceCtorEq, reduceEqDiff, argEnv, reduceAdd, Mly.av]
      first
      | (obtain ⟨e1, e2⟩ := ca_bad (a := a) (b := b) (by assumption); rw [e1, e2]; exact vle_tup ⟨vle1_agg ⟨.refl _, .refl _, cle_nils rfl, cle_nils rfl, trivial⟩, vle1_one (.refl _), trivial⟩)
      | (obtain ⟨e1, e2⟩ := ca_big h20 (by omega); rw [e1, e2]; exact vle_tup ⟨vle1_agg ⟨.refl _, .refl _, cle_nils rfl, cle_nils rfl, trivial⟩, vle1_one (.refl _), trivial⟩)
      | (obtain ⟨e1, e2⟩ := ca_good h20 (by omega); rw [e1, e2]; exact VLE.of_eq rfl)
end Go.Proofs.Ytfbnhgefkdhiaaa
namespace Go.Proofs.Ytfbnhgefkdhiaaa
open Go Go.AV
open Nat (reduceEqDiff reduceAdd reduceLeDiff reduceLT reduceMul reduceSub)
open List (set_cons_zero set_cons_succ)
set_option maxRecDepth 100000 in
theorem fm_c (m : Mly) (os : List Int) (q : PP) (x : Nat) (hm : MOK m) (hq : IS m q) (hos : ∀ o, o ∈ m.ot.flatten → 0 ≤ o ∧ o < os.length) (hx : x < m.inp.toNat) : PURE Try.prog 44 [.agg [.int .i64 q.1, .int .i64 q.2], .one (.int .i64 (x : Int)), .one (.pat (.pair (.int .i64) (.pair (.int .i64) (.pair (.list (.list (.int .i64))) (.pair (.list (.list (.int .i64))) .unit)))) (m.inp, (m.st, (m.nx, (m.ot, ())))) 0), .one (.pat (.list (.int .i64)) os 0)] (.agg [.int .i64 (FM m os q x).1.1, .int .i64 (FM m os q x).1.2, .int .i64 (FM m os q x).2]) := by
  obtain ⟨⟨hq1, hq2⟩, hq3⟩ := id hq; have hmo := hm.ol; have hmi := hm.i2; have h1 := hm.rl q.1.toNat (by omega); have h2 := hm.ql q.1.toNat (by omega); have hox0 := hos _ (out_mem hm ⟨hq1, hq2⟩ (a := (x : Int)) ⟨by omega, by omega⟩); have hox : 0 ≤ (m.ot.getD q.1.toNat []).getD x 0 ∧ (m.ot.getD q.1.toNat []).getD x 0 < os.length := hox0
  refine pure_of_le Try.func44 rfl (by kernel_rfl) (Nat.le_of_ble_eq_true rfl) rfl fun C hP hN hB => ?_
  replace hN : C.N = 30 := hN
  simp only [argEnv, reduceAdd]
  refine awp_seq_k fun K1 hK1 => ?_
  refine awp_reg hP hN rfl ?_
  iterate 2 (refine rg_step rfl fun K0 hK0 => ?_; simp only [zE, op1, ev, lkp, avOf, acOf, opBox, cellsAV, opAlloc, reduceCtorEq, reduceEqDiff, reduceAdd, reduceLeDiff, reduceLT, reduceMul, reduceSub, Try.fl51, Try.st51, Try.st53, Try.td51, Try.td53]; (repeat refine And.intro (by first | omega | assumption | exact rfl) ?_); (first | refine hK0 _ ?_ | refine Or.inl (hK0 _ ?_)); clear hK0 K0; simp only [put, app, setAll, trOf, zE, zS, reduceAdd])
  refine rg_nil ?_
  refine hK1 _ ?_; clear hK1; refine awp_keep [0, 1, 2, 3, 4, 6] ?_; simp only [keepEnv, lkp, zE, reduceCtorEq, reduceEqDiff, argEnv, reduceAdd]
  refine awp_seq_k fun K2 hK2 => ?_
  refine awp_drw hP hN Try.mixed rfl ?_
  iterate 24 (refine rg_step rfl fun K0 hK0 => ?_; simp only [zE, op1, ev, lkp, avOf, acOf, opFieldAddr, opLoad, Nat.mul_one, readAC, isAggK, acs, Ty.dflt, zG, cellsAt, opIndexAddr, Ty.size, ne_eq, not_false_eq_true, Int.natCast_one, Int.mul_one, opBuild, fillAC, writeAC, cellsAV, opStore, datOf, reduceCtorEq, reduceEqDiff, reduceAdd, reduceLeDiff, reduceLT, reduceMul, reduceSub, Try.el22, Try.el33, Try.fl51, Try.st24, Try.st51, Try.st53, Try.td2, Try.td22, Try.td24, Try.td3, Try.td33, Try.td51, Try.td53]; (repeat refine And.intro (by first | omega | assumption | exact rfl) ?_); (first | refine hK0 _ ?_ | refine Or.inl (hK0 _ ?_)); clear hK0 K0; simp only [put, app, setAll, trOf, zE, zS, reduceAdd])
  refine rg_nil ?_
  refine ⟨by kernel_rfl, ?_⟩
  refine hK2 _ ?_; clear hK2; refine awp_keep [0, 1, 2, 3, 4, 6] ?_; simp only [keepEnv, lkp, zE, reduceCtorEq, reduceEqDiff, argEnv, reduceAdd]
  refine awp_ret ?_
  refine ⟨by first | exact .inl rfl | exact .inr rfl, _, rfl, ?_⟩; simp only [fzV, fz1, fzC, List.map_cons, List.map_nil, keepEnv, lkp, zE, reduceCtorEq, reduceEqDiff, argEnv, reduceAdd]
  refine VLE.of_eq ?_
  rfl
end Go.Proofs.Ytfbnhgefkdhiaaa
namespace Go.Proofs.Ytfbnhgefkdhiaaa
open Go Go.AV
open Nat (reduceEqDiff reduceAdd reduceLeDiff reduceLT reduceMul reduceSub)
open List (set_cons_zero set_cons_succ)
open Go.Shelf in
def Try.laysNm220_ren : Go.Shelf.Ren := ⟨fun | 20 => 57 | n => n, fun | 22 => 33 | 3 => 3 | 4 => 4 | 0 => 0 | n => n, fun | n => n⟩
theorem Try.laysNm220 : Go.Proofs.Lays2.n20 Try.prog Try.laysNm220_ren := {
  mixed := by kernel_rfl,
  f20 := Try.func57.trans (congrArg some (by kernel_rfl)),
  t0 := Try.underlying0,
  a0 := Try.isAgg0,
  z0 := Try.sizeOf0,
  v0 := Try.zeroValue0,
  t3 := Try.underlying3,
  a3 := Try.isAgg3,
  z3 := Try.sizeOf3,
  v3 := Try.zeroValue3,
  t4 := Try.underlying4,
  a4 := Try.isAgg4,
  z4 := Try.sizeOf4,
  v4 := Try.zeroValue4,
  t22 := Try.underlying33,
  a22 := Try.isAgg33,
  z22 := Try.sizeOf33,
  v22 := Try.zeroValue33,
  i3 := by kernel_rfl }
theorem compacts_c : COMPACTS Try.prog 57 := ⟨⟨Try.f57, Try.func57, by kernel_rfl, by kernel_rfl⟩, fun blk off cap zs w hH hb hz => Any.slices_Compact_int Try.laysNm220 blk off cap zs w hH hb hz⟩
end Go.Proofs.Ytfbnhgefkdhiaaa
namespace Go.Proofs.Ytfbnhgefkdhiaaa
open Go Go.AV
open Nat (reduceEqDiff reduceAdd reduceLeDiff reduceLT reduceMul reduceSub)
open List (set_cons_zero set_cons_succ)
open Go.Shelf in
def Try.lays189_ren : Go.Shelf.Ren := ⟨fun | 189 => 56 | 125 => 67 | 257 => 66 | 128 => 83 | 129 => 84 | 294 => 74 | 295 => 75 | 296 => 76 | 297 => 77 | 298 => 78 | 299 => 79 | 216 => 80 | 300 => 81 | 301 => 82 | 328 => 88 | 329 => 89 | 330 => 90 | 331 => 91 | 332 => 92 | 215 => 93 | 343 => 95 | n => n, fun | 28 => 33 | 3 => 3 | 46 => 91 | 0 => 0 | 51 => 114 | 53 => 116 | 4 => 4 | 183 => 106 | 182 => 105 | 131 => 111 | 5 => 5 | 9 => 9 | 218 => 119 | 222 => 123 | 228 => 129 | 229 => 94 | n => n, fun | n => n⟩
theorem Try.lays189 : Go.Proofs.Lays.n189 Try.prog Try.lays189_ren := {
  mixed := by kernel_rfl,
  f125 := Try.func67.trans (congrArg some (by kernel_rfl)),
  f128 := Try.func83.trans (congrArg some (by kernel_rfl)),
  f129 := Try.func84.trans (congrArg some (by kernel_rfl)),
  f189 := Try.func56.trans (congrArg some (by kernel_rfl)),
  f215 := Try.func93.trans (congrArg some (by kernel_rfl)),
  f216 := Try.func80.trans (congrArg some (by kernel_rfl)),
  f257 := Try.func66.trans (congrArg some (by kernel_rfl)),
  f294 := Try.func74.trans (congrArg some (by kernel_rfl)),
  f295 := Try.func75.trans (congrArg some (by kernel_rfl)),
  f296 := Try.func76.trans (congrArg some (by kernel_rfl)),
  f297 := Try.func77.trans (congrArg some (by kernel_rfl)),
  f298 := Try.func78.trans (congrArg some (by kernel_rfl)),
  f299 := Try.func79.trans (congrArg some (by kernel_rfl)),
  f300 := Try.func81.trans (congrArg some (by kernel_rfl)),
  f301 := Try.func82.trans (congrArg some (by kernel_rfl)),
  f328 := Try.func88.trans (congrArg some (by kernel_rfl)),
  f329 := Try.func89.trans (congrArg some (by kernel_rfl)),
  f330 := Try.func90.trans (congrArg some (by kernel_rfl)),
  f331 := Try.func91.trans (congrArg some (by kernel_rfl)),
  f332 := Try.func92.trans (congrArg some (by kernel_rfl)),
  f343 := Try.func95.trans (congrArg some (by kernel_rfl)),
  t0 := Try.underlying0,
  a0 := Try.isAgg0,
  z0 := Try.sizeOf0,
  v0 := Try.zeroValue0,
  t3 := Try.underlying3,
  a3 := Try.isAgg3,
  z3 := Try.sizeOf3,
  v3 := Try.zeroValue3,
  t4 := Try.underlying4,
  a4 := Try.isAgg4,
  z4 := Try.sizeOf4,
  v4 := Try.zeroValue4,
  t5 := Try.underlying5,
  a5 := Try.isAgg5,
  z5 := Try.sizeOf5,
  v5 := Try.zeroValue5,
  t9 := Try.underlying9,
  a9 := Try.isAgg9,
  z9 := Try.sizeOf9,
  v9 := Try.zeroValue9,
  t28 := Try.underlying33,
  a28 := Try.isAgg33,
  z28 := Try.sizeOf33,
  v28 := Try.zeroValue33,
  t46 := Try.underlying91,
  a46 := Try.isAgg91,
  z46 := Try.sizeOf91,
  v46 := Try.zeroValue91,
  t51 := Try.underlying114,
  a51 := Try.isAgg114,
  z51 := Try.sizeOf114,
  v51 := Try.zeroValue114,
  t53 := Try.underlying116,
  a53 := Try.isAgg116,
  z53 := Try.sizeOf116,
  v53 := Try.zeroValue116,
  t131 := Try.underlying111,
  a131 := Try.isAgg111,
  z131 := Try.sizeOf111,
  v131 := Try.zeroValue111,
  t182 := Try.underlying105,
  a182 := Try.isAgg105,
  z182 := Try.sizeOf105,
  v182 := Try.zeroValue105,
  t183 := Try.underlying106,
  a183 := Try.isAgg106,
  z183 := Try.sizeOf106,
  v183 := Try.zeroValue106,
  t218 := Try.underlying119,
  a218 := Try.isAgg119,
  z218 := Try.sizeOf119,
  v218 := Try.zeroValue119,
  t222 := Try.underlying123,
  a222 := Try.isAgg123,
  z222 := Try.sizeOf123,
  v222 := Try.zeroValue123,
  t228 := Try.underlying129,
  a228 := Try.isAgg129,
  z228 := Try.sizeOf129,
  v228 := Try.zeroValue129,
  t229 := Try.underlying94,
  a229 := Try.isAgg94,
  z229 := Try.sizeOf94,
  v229 := Try.zeroValue94 }
theorem sorts_c : SORTS Try.prog 56 := ⟨⟨Try.f56, Try.func56, by kernel_rfl, by kernel_rfl⟩, fun blk off cap zs w hH hb hz => Any.slices_Sort_int Try.lays189 blk off cap zs w hH hb hz⟩
end Go.Proofs.Ytfbnhgefkdhiaaa
