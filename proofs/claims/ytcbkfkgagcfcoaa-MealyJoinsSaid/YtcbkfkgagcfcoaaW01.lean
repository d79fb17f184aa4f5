/- Contracts of functions of this seat, each out of a walk through its code, and plain facts on what they compute. Conditions: those that each theorem names. -/
import Derived.Test.YtcbkfkgagcfcoaaW00
set_option linter.unusedSimpArgs false
set_option linter.unusedVariables false
namespace Go.Proofs.Ytcbkfkgagcfcoaa
open Go Go.AV
set_option maxRecDepth 100000 in
theorem seq_c (xs ys : List Int) : PURE Try.prog 53 [.one (.list (.int .i64) xs), .one (.list (.int .i64) ys)] (.one (.bool (decide (xs = ys)))) := by
  refine pure_of_le Try.func53 rfl (by kernel_rfl) (Nat.le_of_ble_eq_true rfl) rfl fun C hP hN hB => ?_
  replace hN : C.N = 26 := hN
  simp only [argEnv, Nat.reduceAdd]
  refine awp_fit 0 rfl fun hf0 => ?_; simp only [lkp, if_true, if_false, reduceCtorEq, Nat.reduceEqDiff, eq_self, Nat.one_ne_zero, Nat.zero_ne_one, fitV, fitC, fitL, Fit, and_true, implies_true, true_and] at hf0
  refine awp_seq_k fun K1 hK1 => ?_
  refine awp_reg hP hN rfl ?_
  (refine rg_step rfl fun K0 hK0 => ?_; simp only [zE, op1, ev, lkp, avOf, acOf, ev, reduceCtorEq, Nat.reduceEqDiff, Nat.reduceAdd, Nat.reduceLeDiff, Nat.reduceLT, Nat.reduceMul, Nat.reduceSub, Try.td4]; (repeat refine And.intro (by omega) ?_); (first | refine hK0 _ ?_ | refine Or.inl (hK0 _ ?_)); clear hK0 K0; simp only [put, app, setAll, trOf, zE, List.set_cons_zero, List.set_cons_succ, Nat.reduceAdd])
  refine rg_nil ?_
  refine hK1 _ ?_; clear hK1; refine awp_keep [0, 1, 4] ?_; simp only [keepEnv, lkp, zE, reduceCtorEq, Nat.reduceEqDiff, argEnv, Nat.reduceAdd]
  refine awp_seq_k fun K2 hK2 => ?_
  refine awp_seq_k fun K3 hK3 => ?_
  refine awp_reg hP hN rfl ?_
  iterate 5 (refine rg_step rfl fun K0 hK0 => ?_; simp only [zE, op1, ev, lkp, avOf, acOf, opCallAny, opLen, lenAC, lenOk, fpAC, opAppend, srcOf, Ty.size, datOf, dite_true, opBin, arith, inK_i64, reduceCtorEq, Nat.reduceEqDiff, Nat.reduceAdd, Nat.reduceLeDiff, Nat.reduceLT, Nat.reduceMul, Nat.reduceSub, Try.el30, Try.td3, Try.td30, Try.td4]; (repeat refine And.intro (by omega) ?_); (first | refine hK0 _ ?_ | refine Or.inl (hK0 _ ?_)); clear hK0 K0; simp only [put, app, setAll, trOf, zE, List.set_cons_zero, List.set_cons_succ, Nat.reduceAdd])
  refine rg_nil ?_
  refine hK3 _ ?_; clear hK3; refine awp_keep [0, 1, 4, 10] ?_; simp only [keepEnv, lkp, zE, reduceCtorEq, Nat.reduceEqDiff, argEnv, Nat.reduceAdd]
  refine awp_cond (by simp only [ev, keepEnv, lkp, zE, reduceCtorEq, Nat.reduceEqDiff, argEnv, Nat.reduceAdd]; exact rfl) (fun hc4 => ?_) (fun hc4 => ?_)
  · (try simp only [decide_eq_true_eq, decide_eq_false_iff_not, Bool.not_true, Bool.not_false, Bool.not_eq_true, Bool.not_eq_false, Bool.not_eq_eq_eq_not, Int.not_lt, Int.not_le, reduceCtorEq, Bool.true_eq_false, Bool.false_eq_true, ne_eq, Decidable.not_not, Bool.not_eq_true', bne_iff_ne, Bool.or_eq_true, Bool.and_eq_true, Bool.or_eq_false_iff, Bool.and_eq_false_iff] at hc4)
    refine awp_seq_k fun K5 hK5 => ?_
    refine awp_reg hP hN rfl ?_
    (refine rg_step rfl fun K0 hK0 => ?_; simp only [zE, op1, ev, lkp, avOf, acOf, ev, reduceCtorEq, Nat.reduceEqDiff, Nat.reduceAdd, Nat.reduceLeDiff, Nat.reduceLT, Nat.reduceMul, Nat.reduceSub, Try.td4]; (repeat refine And.intro (by omega) ?_); (first | refine hK0 _ ?_ | refine Or.inl (hK0 _ ?_)); clear hK0 K0; simp only [put, app, setAll, trOf, zE, List.set_cons_zero, List.set_cons_succ, Nat.reduceAdd])
    refine rg_nil ?_
    refine hK5 _ ?_; clear hK5; refine awp_keep [0, 1, 4, 10] ?_; simp only [keepEnv, lkp, zE, reduceCtorEq, Nat.reduceEqDiff, argEnv, Nat.reduceAdd]
    refine awp_ret ?_
    refine ⟨by first | exact .inl rfl | exact .inr rfl, _, rfl, ?_⟩; simp only [fzV, fz1, fzC, List.map_cons, List.map_nil, keepEnv, lkp, zE, reduceCtorEq, Nat.reduceEqDiff, argEnv, Nat.reduceAdd]
    refine VLE.of_eq ?_
    first
    | (refine bool_false ?_; rintro rfl; first | exact absurd rfl ‹¬ _› | omega)
    | (refine bool_true ?_; have hk1 : k = xs.length := by omega
       have hk2 : k = ys.length := by omega
       rw [hk1, List.take_length, ← hk1, hk2, List.take_length] at hT; exact hT)
  · (try simp only [decide_eq_true_eq, decide_eq_false_iff_not, Bool.not_true, Bool.not_false, Bool.not_eq_true, Bool.not_eq_false, Bool.not_eq_eq_eq_not, Int.not_lt, Int.not_le, reduceCtorEq, Bool.true_eq_false, Bool.false_eq_true, ne_eq, Decidable.not_not, Bool.not_eq_true', bne_iff_ne, Bool.or_eq_true, Bool.and_eq_true, Bool.or_eq_false_iff, Bool.and_eq_false_iff] at hc4)
    refine awp_skip ?_
    refine hK2 _ ?_; clear hK2; refine awp_keep [0, 1, 4, 10] ?_; simp only [keepEnv, lkp, zE, reduceCtorEq, Nat.reduceEqDiff, argEnv, Nat.reduceAdd]
    refine awp_seq_k fun K6 hK6 => ?_
    refine awp_seq_k fun K7 hK7 => ?_
    refine awp_reg hP hN rfl ?_
    iterate 3 (refine rg_step rfl fun K0 hK0 => ?_; simp only [zE, op1, ev, lkp, avOf, acOf, opCallAny, opLen, lenAC, lenOk, fpAC, opAppend, srcOf, Ty.size, datOf, dite_true, reduceCtorEq, Nat.reduceEqDiff, Nat.reduceAdd, Nat.reduceLeDiff, Nat.reduceLT, Nat.reduceMul, Nat.reduceSub, Try.el30, Try.td3, Try.td30]; (repeat refine And.intro (by omega) ?_); (first | refine hK0 _ ?_ | refine Or.inl (hK0 _ ?_)); clear hK0 K0; simp only [put, app, setAll, trOf, zE, List.set_cons_zero, List.set_cons_succ, Nat.reduceAdd])
    refine rg_nil ?_
    refine hK7 _ ?_; clear hK7; refine awp_keep [0, 1, 4, 10, 12, 13] ?_; simp only [keepEnv, lkp, zE, reduceCtorEq, Nat.reduceEqDiff, argEnv, Nat.reduceAdd]
    refine awp_block ?_
    refine awp_loop (fun n8 s8 => ∃ (k : Nat), (k ≤ xs.length) ∧ (xs.take k = ys.take k) ∧ n8 = xs.length - k ∧ s8 = { env := [(0, .one (.list (.int .i64) xs)), (1, .one (.list (.int .i64) ys)), (12, .one (.int .i64 (xs.length : Int))), (13, .one (.int .i64 (k : Int)))], L := [] }) ?_ ?_
    · exact ⟨_, _, sub_keep [0, 1, 12, 13], 0, Nat.zero_le _, rfl, rfl, rfl⟩
    · rintro n8 s8 ⟨k, hk, hT, rfl, rfl⟩
      refine awp_seq_k fun K9 hK9 => ?_
      refine awp_reg hP hN rfl ?_
      (refine rg_step rfl fun K0 hK0 => ?_; simp only [zE, op1, ev, lkp, avOf, acOf, opBin, arith, inK_i64, reduceCtorEq, Nat.reduceEqDiff, Nat.reduceAdd, Nat.reduceLeDiff, Nat.reduceLT, Nat.reduceMul, Nat.reduceSub, Try.td3]; (repeat refine And.intro (by omega) ?_); (first | refine hK0 _ ?_ | refine Or.inl (hK0 _ ?_)); clear hK0 K0; simp only [put, app, setAll, trOf, zE, List.set_cons_zero, List.set_cons_succ, Nat.reduceAdd])
      refine rg_nil ?_
      refine hK9 _ ?_; clear hK9; refine awp_keep [0, 1, 12, 13, 14] ?_; simp only [keepEnv, lkp, zE, reduceCtorEq, Nat.reduceEqDiff, argEnv, Nat.reduceAdd]
      refine awp_seq_k fun K10 hK10 => ?_
      refine awp_cond (by simp only [ev, keepEnv, lkp, zE, reduceCtorEq, Nat.reduceEqDiff, argEnv, Nat.reduceAdd]; exact rfl) (fun hc11 => ?_) (fun hc11 => ?_)
      · (try simp only [decide_eq_true_eq, decide_eq_false_iff_not, Bool.not_true, Bool.not_false, Bool.not_eq_true, Bool.not_eq_false, Bool.not_eq_eq_eq_not, Int.not_lt, Int.not_le, reduceCtorEq, Bool.true_eq_false, Bool.false_eq_true, ne_eq, Decidable.not_not, Bool.not_eq_true', bne_iff_ne, Bool.or_eq_true, Bool.and_eq_true, Bool.or_eq_false_iff, Bool.and_eq_false_iff] at hc11)
        refine awp_skip ?_
        refine hK10 _ ?_; clear hK10; refine awp_keep [0, 1, 12, 13, 14] ?_; simp only [keepEnv, lkp, zE, reduceCtorEq, Nat.reduceEqDiff, argEnv, Nat.reduceAdd]
        refine awp_seq_k fun K12 hK12 => ?_
        refine awp_block ?_
        refine awp_seq_k fun K13 hK13 => ?_
        refine awp_reg hP hN rfl ?_
        iterate 2 (refine rg_step rfl fun K0 hK0 => ?_; simp only [zE, op1, ev, lkp, avOf, acOf, ev, reduceCtorEq, Nat.reduceEqDiff, Nat.reduceAdd, Nat.reduceLeDiff, Nat.reduceLT, Nat.reduceMul, Nat.reduceSub, Try.td3]; (repeat refine And.intro (by omega) ?_); (first | refine hK0 _ ?_ | refine Or.inl (hK0 _ ?_)); clear hK0 K0; simp only [put, app, setAll, trOf, zE, List.set_cons_zero, List.set_cons_succ, Nat.reduceAdd])
        refine rg_nil ?_
        refine hK13 _ ?_; clear hK13; refine awp_keep [0, 1, 5, 12, 13, 14] ?_; simp only [keepEnv, lkp, zE, reduceCtorEq, Nat.reduceEqDiff, argEnv, Nat.reduceAdd]
        refine awp_seq_k fun K14 hK14 => ?_
        refine awp_drw hP hN Try.mixed rfl ?_
        iterate 9 (refine rg_step rfl fun K0 hK0 => ?_; simp only [zE, op1, ev, lkp, avOf, acOf, opIndexAddr, zG, Ty.dflt, Ty.size, opLoad, readAC, isAggK, acs, cellsAt, opBin, arith, inK_i64, reduceCtorEq, Nat.reduceEqDiff, Nat.reduceAdd, Nat.reduceLeDiff, Nat.reduceLT, Nat.reduceMul, Nat.reduceSub, Try.el30, Try.td3, Try.td30, Try.td4]; (repeat refine And.intro (by omega) ?_); (first | refine hK0 _ ?_ | refine Or.inl (hK0 _ ?_)); clear hK0 K0; simp only [put, app, setAll, trOf, zE, List.set_cons_zero, List.set_cons_succ, Nat.reduceAdd])
        refine rg_nil ?_
        refine ⟨by kernel_rfl, ?_⟩
        refine hK14 _ ?_; clear hK14; refine awp_keep [0, 1, 5, 12, 13, 14, 24] ?_; simp only [keepEnv, lkp, zE, reduceCtorEq, Nat.reduceEqDiff, argEnv, Nat.reduceAdd]
        refine awp_cond (by simp only [ev, keepEnv, lkp, zE, reduceCtorEq, Nat.reduceEqDiff, argEnv, Nat.reduceAdd]; exact rfl) (fun hc15 => ?_) (fun hc15 => ?_)
        · (try simp only [decide_eq_true_eq, decide_eq_false_iff_not, Bool.not_true, Bool.not_false, Bool.not_eq_true, Bool.not_eq_false, Bool.not_eq_eq_eq_not, Int.not_lt, Int.not_le, reduceCtorEq, Bool.true_eq_false, Bool.false_eq_true, ne_eq, Decidable.not_not, Bool.not_eq_true', bne_iff_ne, Bool.or_eq_true, Bool.and_eq_true, Bool.or_eq_false_iff, Bool.and_eq_false_iff] at hc15)
          refine awp_seq_k fun K16 hK16 => ?_
          refine awp_reg hP hN rfl ?_
          (refine rg_step rfl fun K0 hK0 => ?_; simp only [zE, op1, ev, lkp, avOf, acOf, ev, reduceCtorEq, Nat.reduceEqDiff, Nat.reduceAdd, Nat.reduceLeDiff, Nat.reduceLT, Nat.reduceMul, Nat.reduceSub, Try.td4]; (repeat refine And.intro (by omega) ?_); (first | refine hK0 _ ?_ | refine Or.inl (hK0 _ ?_)); clear hK0 K0; simp only [put, app, setAll, trOf, zE, List.set_cons_zero, List.set_cons_succ, Nat.reduceAdd])
          refine rg_nil ?_
          refine hK16 _ ?_; clear hK16; refine awp_keep [0, 1, 4, 5, 12, 13, 14, 24] ?_; simp only [keepEnv, lkp, zE, reduceCtorEq, Nat.reduceEqDiff, argEnv, Nat.reduceAdd]
          refine awp_ret ?_
          refine ⟨by first | exact .inl rfl | exact .inr rfl, _, rfl, ?_⟩; simp only [fzV, fz1, fzC, List.map_cons, List.map_nil, keepEnv, lkp, zE, reduceCtorEq, Nat.reduceEqDiff, argEnv, Nat.reduceAdd]
          refine VLE.of_eq ?_
          first
          | (refine bool_false ?_; rintro rfl; first | exact absurd rfl ‹¬ _› | omega)
          | (refine bool_true ?_; have hk1 : k = xs.length := by omega
             have hk2 : k = ys.length := by omega
             rw [hk1, List.take_length, ← hk1, hk2, List.take_length] at hT; exact hT)
        · (try simp only [decide_eq_true_eq, decide_eq_false_iff_not, Bool.not_true, Bool.not_false, Bool.not_eq_true, Bool.not_eq_false, Bool.not_eq_eq_eq_not, Int.not_lt, Int.not_le, reduceCtorEq, Bool.true_eq_false, Bool.false_eq_true, ne_eq, Decidable.not_not, Bool.not_eq_true', bne_iff_ne, Bool.or_eq_true, Bool.and_eq_true, Bool.or_eq_false_iff, Bool.and_eq_false_iff] at hc15)
          refine awp_skip ?_
          refine hK12 _ ?_; clear hK12; refine awp_keep [0, 1, 5, 12, 13, 14, 24] ?_; simp only [keepEnv, lkp, zE, reduceCtorEq, Nat.reduceEqDiff, argEnv, Nat.reduceAdd]
          refine awp_reg hP hN rfl ?_
          iterate 2 (refine rg_step rfl fun K0 hK0 => ?_; simp only [zE, op1, ev, lkp, avOf, acOf, opBin, arith, inK_i64, reduceCtorEq, Nat.reduceEqDiff, Nat.reduceAdd, Nat.reduceLeDiff, Nat.reduceLT, Nat.reduceMul, Nat.reduceSub, Try.td3]; (repeat refine And.intro (by omega) ?_); (first | refine hK0 _ ?_ | refine Or.inl (hK0 _ ?_)); clear hK0 K0; simp only [put, app, setAll, trOf, zE, List.set_cons_zero, List.set_cons_succ, Nat.reduceAdd])
          refine rg_nil ?_
          refine ⟨_, _, ?_, sub_keep [0, 1, 12, 13], k + 1, by omega, take_eq_succ (d := 0) hT (by omega) (by omega) ?_, rfl, rfl⟩
          · omega
          · first | assumption | omega
      · (try simp only [decide_eq_true_eq, decide_eq_false_iff_not, Bool.not_true, Bool.not_false, Bool.not_eq_true, Bool.not_eq_false, Bool.not_eq_eq_eq_not, Int.not_lt, Int.not_le, reduceCtorEq, Bool.true_eq_false, Bool.false_eq_true, ne_eq, Decidable.not_not, Bool.not_eq_true', bne_iff_ne, Bool.or_eq_true, Bool.and_eq_true, Bool.or_eq_false_iff, Bool.and_eq_false_iff] at hc11)
        refine awp_exit ?_
        refine hK6 _ ?_; clear hK6; refine awp_keep [0, 1, 12, 13, 14] ?_; simp only [keepEnv, lkp, zE, reduceCtorEq, Nat.reduceEqDiff, argEnv, Nat.reduceAdd]
        refine awp_seq_k fun K17 hK17 => ?_
        refine awp_reg hP hN rfl ?_
        (refine rg_step rfl fun K0 hK0 => ?_; simp only [zE, op1, ev, lkp, avOf, acOf, ev, reduceCtorEq, Nat.reduceEqDiff, Nat.reduceAdd, Nat.reduceLeDiff, Nat.reduceLT, Nat.reduceMul, Nat.reduceSub, Try.td4]; (repeat refine And.intro (by omega) ?_); (first | refine hK0 _ ?_ | refine Or.inl (hK0 _ ?_)); clear hK0 K0; simp only [put, app, setAll, trOf, zE, List.set_cons_zero, List.set_cons_succ, Nat.reduceAdd])
        refine rg_nil ?_
        refine hK17 _ ?_; clear hK17; refine awp_keep [0, 1, 4, 12, 13, 14] ?_; simp only [keepEnv, lkp, zE, reduceCtorEq, Nat.reduceEqDiff, argEnv, Nat.reduceAdd]
        refine awp_ret ?_
        refine ⟨by first | exact .inl rfl | exact .inr rfl, _, rfl, ?_⟩; simp only [fzV, fz1, fzC, List.map_cons, List.map_nil, keepEnv, lkp, zE, reduceCtorEq, Nat.reduceEqDiff, argEnv, Nat.reduceAdd]
        refine VLE.of_eq ?_
        first
        | (refine bool_false ?_; rintro rfl; first | exact absurd rfl ‹¬ _› | omega)
        | (refine bool_true ?_; have hk1 : k = xs.length := by omega
           have hk2 : k = ys.length := by omega
           rw [hk1, List.take_length, ← hk1, hk2, List.take_length] at hT; exact hT)
end Go.Proofs.Ytcbkfkgagcfcoaa
namespace Go.Proofs.Ytcbkfkgagcfcoaa
open Go Go.AV
set_option maxRecDepth 100000 in
theorem rows1_c (xs ys : List Int) : PURE Try.prog 52 [.one (.list (.int .i64) xs), .one (.list (.int .i64) ys)] (.one (.bool (decide (xs = ys)))) := by
  refine pure_of_le Try.func52 rfl (by kernel_rfl) (Nat.le_of_ble_eq_true rfl) rfl fun C hP hN hB => ?_
  replace hN : C.N = 8 := hN
  simp only [argEnv, Nat.reduceAdd]
  refine awp_seq_k fun K1 hK1 => ?_
  refine awp_reg hP hN rfl ?_
  (refine rg_step rfl fun K0 hK0 => ?_; simp only [zE, op1, ev, lkp, avOf, acOf, ev, reduceCtorEq, Nat.reduceEqDiff, Nat.reduceAdd, Nat.reduceLeDiff, Nat.reduceLT, Nat.reduceMul, Nat.reduceSub, Try.td4]; (repeat refine And.intro (by omega) ?_); (first | refine hK0 _ ?_ | refine Or.inl (hK0 _ ?_)); clear hK0 K0; simp only [put, app, setAll, trOf, zE, List.set_cons_zero, List.set_cons_succ, Nat.reduceAdd])
  refine rg_nil ?_
  refine hK1 _ ?_; clear hK1; refine awp_keep [0, 1, 4] ?_; simp only [keepEnv, lkp, zE, reduceCtorEq, Nat.reduceEqDiff, argEnv, Nat.reduceAdd]
  refine awp_seq_k fun K2 hK2 => ?_
  refine awp_reg hP hN rfl ?_
  iterate 2 (refine rg_step rfl fun K0 hK0 => ?_; simp only [zE, op1, ev, lkp, avOf, acOf, ev, reduceCtorEq, Nat.reduceEqDiff, Nat.reduceAdd, Nat.reduceLeDiff, Nat.reduceLT, Nat.reduceMul, Nat.reduceSub, Try.el30, Try.td30]; (repeat refine And.intro (by omega) ?_); (first | refine hK0 _ ?_ | refine Or.inl (hK0 _ ?_)); clear hK0 K0; simp only [put, app, setAll, trOf, zE, List.set_cons_zero, List.set_cons_succ, Nat.reduceAdd])
  refine rg_step rfl fun K0 hK0 => ?_
  refine op_call (h := call_of_pure (seq_c xs ys)) rfl rfl (by first | exact rfl | (simp only [ev, keepEnv, lkp, zE, reduceCtorEq, Nat.reduceEqDiff, argEnv, Nat.reduceAdd]; exact rfl)) (by simp only [zE, zG, op1, ev, lkp, avOf, acOf, cellsAV, acs, capAV, mv1, mvC, Ty.dflt, reduceCtorEq, Nat.reduceEqDiff, Nat.reduceAdd, Nat.reduceLeDiff, Nat.reduceLT, Nat.reduceMul, Nat.reduceSub]) ?_
  refine hK0 _ ?_; clear hK0 K0; simp only [put, app, setAll, trOf, zE, List.set_cons_zero, List.set_cons_succ, Nat.reduceAdd]
  (refine rg_step rfl fun K0 hK0 => ?_; simp only [zE, op1, ev, lkp, avOf, acOf, ev, reduceCtorEq, Nat.reduceEqDiff, Nat.reduceAdd, Nat.reduceLeDiff, Nat.reduceLT, Nat.reduceMul, Nat.reduceSub, Try.td4]; (repeat refine And.intro (by omega) ?_); (first | refine hK0 _ ?_ | refine Or.inl (hK0 _ ?_)); clear hK0 K0; simp only [put, app, setAll, trOf, zE, List.set_cons_zero, List.set_cons_succ, Nat.reduceAdd])
  refine rg_nil ?_
  refine hK2 _ ?_; clear hK2; refine awp_keep [0, 1, 4] ?_; simp only [keepEnv, lkp, zE, reduceCtorEq, Nat.reduceEqDiff, argEnv, Nat.reduceAdd]
  refine awp_ret ?_
  refine ⟨by first | exact .inl rfl | exact .inr rfl, _, rfl, ?_⟩; simp only [fzV, fz1, fzC, List.map_cons, List.map_nil, keepEnv, lkp, zE, reduceCtorEq, Nat.reduceEqDiff, argEnv, Nat.reduceAdd]
  refine VLE.of_eq ?_
  rfl
end Go.Proofs.Ytcbkfkgagcfcoaa
namespace Go.Proofs.Ytcbkfkgagcfcoaa
open Go Go.AV
set_option maxRecDepth 100000 in
theorem eqf_c (xs ys : List (List Int)) : PURE Try.prog 51 [.one (.list (.list (.int .i64)) xs), .one (.list (.list (.int .i64)) ys), .one (.fn 52 [])] (.one (.bool (decide (xs = ys)))) := by
  refine pure_of_le Try.func51 rfl (by kernel_rfl) (Nat.le_of_ble_eq_true rfl) rfl fun C hP hN hB => ?_
  replace hN : C.N = 32 := hN
  simp only [argEnv, Nat.reduceAdd]
  refine awp_fit 0 rfl fun hf0 => ?_; simp only [lkp, if_true, if_false, reduceCtorEq, Nat.reduceEqDiff, eq_self, Nat.one_ne_zero, Nat.zero_ne_one, fitV, fitC, fitL, Fit, and_true, implies_true, true_and] at hf0
  refine awp_seq_k fun K1 hK1 => ?_
  refine awp_reg hP hN rfl ?_
  (refine rg_step rfl fun K0 hK0 => ?_; simp only [zE, op1, ev, lkp, avOf, acOf, ev, reduceCtorEq, Nat.reduceEqDiff, Nat.reduceAdd, Nat.reduceLeDiff, Nat.reduceLT, Nat.reduceMul, Nat.reduceSub, Try.td4]; (repeat refine And.intro (by omega) ?_); (first | refine hK0 _ ?_ | refine Or.inl (hK0 _ ?_)); clear hK0 K0; simp only [put, app, setAll, trOf, zE, List.set_cons_zero, List.set_cons_succ, Nat.reduceAdd])
  refine rg_nil ?_
  refine hK1 _ ?_; clear hK1; refine awp_keep [0, 1, 2, 6] ?_; simp only [keepEnv, lkp, zE, reduceCtorEq, Nat.reduceEqDiff, argEnv, Nat.reduceAdd]
  refine awp_seq_k fun K2 hK2 => ?_
  refine awp_seq_k fun K3 hK3 => ?_
  refine awp_reg hP hN rfl ?_
  iterate 5 (refine rg_step rfl fun K0 hK0 => ?_; simp only [zE, op1, ev, lkp, avOf, acOf, opCallAny, opLen, lenAC, lenOk, fpAC, opAppend, srcOf, Ty.size, datOf, dite_true, opBin, arith, inK_i64, reduceCtorEq, Nat.reduceEqDiff, Nat.reduceAdd, Nat.reduceLeDiff, Nat.reduceLT, Nat.reduceMul, Nat.reduceSub, Try.el22, Try.td22, Try.td3, Try.td4]; (repeat refine And.intro (by omega) ?_); (first | refine hK0 _ ?_ | refine Or.inl (hK0 _ ?_)); clear hK0 K0; simp only [put, app, setAll, trOf, zE, List.set_cons_zero, List.set_cons_succ, Nat.reduceAdd])
  refine rg_nil ?_
  refine hK3 _ ?_; clear hK3; refine awp_keep [0, 1, 2, 6, 14] ?_; simp only [keepEnv, lkp, zE, reduceCtorEq, Nat.reduceEqDiff, argEnv, Nat.reduceAdd]
  refine awp_cond (by simp only [ev, keepEnv, lkp, zE, reduceCtorEq, Nat.reduceEqDiff, argEnv, Nat.reduceAdd]; exact rfl) (fun hc4 => ?_) (fun hc4 => ?_)
  · (try simp only [decide_eq_true_eq, decide_eq_false_iff_not, Bool.not_true, Bool.not_false, Bool.not_eq_true, Bool.not_eq_false, Bool.not_eq_eq_eq_not, Int.not_lt, Int.not_le, reduceCtorEq, Bool.true_eq_false, Bool.false_eq_true, ne_eq, Decidable.not_not, Bool.not_eq_true', bne_iff_ne, Bool.or_eq_true, Bool.and_eq_true, Bool.or_eq_false_iff, Bool.and_eq_false_iff] at hc4)
    refine awp_seq_k fun K5 hK5 => ?_
    refine awp_reg hP hN rfl ?_
    (refine rg_step rfl fun K0 hK0 => ?_; simp only [zE, op1, ev, lkp, avOf, acOf, ev, reduceCtorEq, Nat.reduceEqDiff, Nat.reduceAdd, Nat.reduceLeDiff, Nat.reduceLT, Nat.reduceMul, Nat.reduceSub, Try.td4]; (repeat refine And.intro (by omega) ?_); (first | refine hK0 _ ?_ | refine Or.inl (hK0 _ ?_)); clear hK0 K0; simp only [put, app, setAll, trOf, zE, List.set_cons_zero, List.set_cons_succ, Nat.reduceAdd])
    refine rg_nil ?_
    refine hK5 _ ?_; clear hK5; refine awp_keep [0, 1, 2, 6, 14] ?_; simp only [keepEnv, lkp, zE, reduceCtorEq, Nat.reduceEqDiff, argEnv, Nat.reduceAdd]
    refine awp_ret ?_
    refine ⟨by first | exact .inl rfl | exact .inr rfl, _, rfl, ?_⟩; simp only [fzV, fz1, fzC, List.map_cons, List.map_nil, keepEnv, lkp, zE, reduceCtorEq, Nat.reduceEqDiff, argEnv, Nat.reduceAdd]
    refine VLE.of_eq ?_
    first
    | (refine bool_false ?_; rintro rfl; first | exact absurd rfl ‹¬ _› | omega)
    | (refine bool_true ?_; have hk1 : k = xs.length := by omega
       have hk2 : k = ys.length := by omega
       rw [hk1, List.take_length, ← hk1, hk2, List.take_length] at hT; exact hT)
  · (try simp only [decide_eq_true_eq, decide_eq_false_iff_not, Bool.not_true, Bool.not_false, Bool.not_eq_true, Bool.not_eq_false, Bool.not_eq_eq_eq_not, Int.not_lt, Int.not_le, reduceCtorEq, Bool.true_eq_false, Bool.false_eq_true, ne_eq, Decidable.not_not, Bool.not_eq_true', bne_iff_ne, Bool.or_eq_true, Bool.and_eq_true, Bool.or_eq_false_iff, Bool.and_eq_false_iff] at hc4)
    refine awp_skip ?_
    refine hK2 _ ?_; clear hK2; refine awp_keep [0, 1, 2, 6, 14] ?_; simp only [keepEnv, lkp, zE, reduceCtorEq, Nat.reduceEqDiff, argEnv, Nat.reduceAdd]
    refine awp_seq_k fun K6 hK6 => ?_
    refine awp_seq_k fun K7 hK7 => ?_
    refine awp_reg hP hN rfl ?_
    iterate 3 (refine rg_step rfl fun K0 hK0 => ?_; simp only [zE, op1, ev, lkp, avOf, acOf, opCallAny, opLen, lenAC, lenOk, fpAC, opAppend, srcOf, Ty.size, datOf, dite_true, reduceCtorEq, Nat.reduceEqDiff, Nat.reduceAdd, Nat.reduceLeDiff, Nat.reduceLT, Nat.reduceMul, Nat.reduceSub, Try.el22, Try.td22, Try.td3]; (repeat refine And.intro (by omega) ?_); (first | refine hK0 _ ?_ | refine Or.inl (hK0 _ ?_)); clear hK0 K0; simp only [put, app, setAll, trOf, zE, List.set_cons_zero, List.set_cons_succ, Nat.reduceAdd])
    refine rg_nil ?_
    refine hK7 _ ?_; clear hK7; refine awp_keep [0, 1, 2, 6, 14, 15, 16, 17] ?_; simp only [keepEnv, lkp, zE, reduceCtorEq, Nat.reduceEqDiff, argEnv, Nat.reduceAdd]
    refine awp_block ?_
    refine awp_loop (fun n8 s8 => ∃ (k : Nat), (k ≤ xs.length) ∧ (xs.take k = ys.take k) ∧ n8 = xs.length - k ∧ s8 = { env := [(1, .one (.list (.list (.int .i64)) ys)), (2, .one (.fn 52 [])), (15, .one (.list (.list (.int .i64)) xs)), (16, .one (.int .i64 (xs.length : Int))), (17, .one (.int .i64 (k : Int)))], L := [] }) ?_ ?_
    · exact ⟨_, _, sub_keep [1, 2, 15, 16, 17], 0, Nat.zero_le _, rfl, rfl, rfl⟩
    · rintro n8 s8 ⟨k, hk, hT, rfl, rfl⟩
      refine awp_seq_k fun K9 hK9 => ?_
      refine awp_reg hP hN rfl ?_
      (refine rg_step rfl fun K0 hK0 => ?_; simp only [zE, op1, ev, lkp, avOf, acOf, opBin, arith, inK_i64, reduceCtorEq, Nat.reduceEqDiff, Nat.reduceAdd, Nat.reduceLeDiff, Nat.reduceLT, Nat.reduceMul, Nat.reduceSub, Try.td3]; (repeat refine And.intro (by omega) ?_); (first | refine hK0 _ ?_ | refine Or.inl (hK0 _ ?_)); clear hK0 K0; simp only [put, app, setAll, trOf, zE, List.set_cons_zero, List.set_cons_succ, Nat.reduceAdd])
      refine rg_nil ?_
      refine hK9 _ ?_; clear hK9; refine awp_keep [1, 2, 15, 16, 17, 18] ?_; simp only [keepEnv, lkp, zE, reduceCtorEq, Nat.reduceEqDiff, argEnv, Nat.reduceAdd]
      refine awp_seq_k fun K10 hK10 => ?_
      refine awp_cond (by simp only [ev, keepEnv, lkp, zE, reduceCtorEq, Nat.reduceEqDiff, argEnv, Nat.reduceAdd]; exact rfl) (fun hc11 => ?_) (fun hc11 => ?_)
      · (try simp only [decide_eq_true_eq, decide_eq_false_iff_not, Bool.not_true, Bool.not_false, Bool.not_eq_true, Bool.not_eq_false, Bool.not_eq_eq_eq_not, Int.not_lt, Int.not_le, reduceCtorEq, Bool.true_eq_false, Bool.false_eq_true, ne_eq, Decidable.not_not, Bool.not_eq_true', bne_iff_ne, Bool.or_eq_true, Bool.and_eq_true, Bool.or_eq_false_iff, Bool.and_eq_false_iff] at hc11)
        refine awp_skip ?_
        refine hK10 _ ?_; clear hK10; refine awp_keep [1, 2, 15, 16, 17, 18] ?_; simp only [keepEnv, lkp, zE, reduceCtorEq, Nat.reduceEqDiff, argEnv, Nat.reduceAdd]
        refine awp_seq_k fun K12 hK12 => ?_
        refine awp_block ?_
        refine awp_seq_k fun K13 hK13 => ?_
        refine awp_reg hP hN rfl ?_
        iterate 5 (refine rg_step rfl fun K0 hK0 => ?_; simp only [zE, op1, ev, lkp, avOf, acOf, opIndexAddr, zG, Ty.dflt, Ty.size, opLoad, readAC, isAggK, acs, cellsAt, reduceCtorEq, Nat.reduceEqDiff, Nat.reduceAdd, Nat.reduceLeDiff, Nat.reduceLT, Nat.reduceMul, Nat.reduceSub, Try.el22, Try.el30, Try.td22, Try.td3, Try.td30]; (repeat refine And.intro (by omega) ?_); (first | refine hK0 _ ?_ | refine Or.inl (hK0 _ ?_)); clear hK0 K0; simp only [put, app, setAll, trOf, zE, List.set_cons_zero, List.set_cons_succ, Nat.reduceAdd])
        refine rg_nil ?_
        refine hK13 _ ?_; clear hK13; refine awp_keep [1, 2, 7, 8, 15, 16, 17, 18] ?_; simp only [keepEnv, lkp, zE, reduceCtorEq, Nat.reduceEqDiff, argEnv, Nat.reduceAdd]
        refine awp_seq_k fun K14 hK14 => ?_
        refine awp_reg hP hN rfl ?_
        iterate 5 (refine rg_step rfl fun K0 hK0 => ?_; simp only [zE, op1, ev, lkp, avOf, acOf, opIndexAddr, zG, Ty.dflt, Ty.size, opLoad, readAC, isAggK, acs, cellsAt, reduceCtorEq, Nat.reduceEqDiff, Nat.reduceAdd, Nat.reduceLeDiff, Nat.reduceLT, Nat.reduceMul, Nat.reduceSub, Try.el22, Try.el30, Try.td22, Try.td3, Try.td30]; (repeat refine And.intro (by omega) ?_); (first | refine hK0 _ ?_ | refine Or.inl (hK0 _ ?_)); clear hK0 K0; simp only [put, app, setAll, trOf, zE, List.set_cons_zero, List.set_cons_succ, Nat.reduceAdd])
        refine rg_nil ?_
        refine hK14 _ ?_; clear hK14; refine awp_keep [1, 2, 7, 8, 9, 15, 16, 17, 18] ?_; simp only [keepEnv, lkp, zE, reduceCtorEq, Nat.reduceEqDiff, argEnv, Nat.reduceAdd]
        refine awp_seq_k fun K15 hK15 => ?_
        refine awp_reg hP hN rfl ?_
        iterate 3 (refine rg_step rfl fun K0 hK0 => ?_; simp only [zE, op1, ev, lkp, avOf, acOf, ev, reduceCtorEq, Nat.reduceEqDiff, Nat.reduceAdd, Nat.reduceLeDiff, Nat.reduceLT, Nat.reduceMul, Nat.reduceSub, Try.el30, Try.td30]; (repeat refine And.intro (by omega) ?_); (first | refine hK0 _ ?_ | refine Or.inl (hK0 _ ?_)); clear hK0 K0; simp only [put, app, setAll, trOf, zE, List.set_cons_zero, List.set_cons_succ, Nat.reduceAdd])
        refine rg_step rfl fun K0 hK0 => ?_
        refine op_call (h := call_of_pure (rows1_c (xs.getD k []) (ys.getD k []))) rfl rfl (by first | exact rfl | (simp only [ev, keepEnv, lkp, zE, reduceCtorEq, Nat.reduceEqDiff, argEnv, Nat.reduceAdd]; exact rfl)) (by simp only [zE, zG, op1, ev, lkp, avOf, acOf, cellsAV, acs, capAV, mv1, mvC, Ty.dflt, reduceCtorEq, Nat.reduceEqDiff, Nat.reduceAdd, Nat.reduceLeDiff, Nat.reduceLT, Nat.reduceMul, Nat.reduceSub]) ?_
        refine hK0 _ ?_; clear hK0 K0; simp only [put, app, setAll, trOf, zE, List.set_cons_zero, List.set_cons_succ, Nat.reduceAdd]
        (refine rg_step rfl fun K0 hK0 => ?_; simp only [zE, op1, ev, lkp, avOf, acOf, opUn, reduceCtorEq, Nat.reduceEqDiff, Nat.reduceAdd, Nat.reduceLeDiff, Nat.reduceLT, Nat.reduceMul, Nat.reduceSub, Try.td4]; (repeat refine And.intro (by omega) ?_); (first | refine hK0 _ ?_ | refine Or.inl (hK0 _ ?_)); clear hK0 K0; simp only [put, app, setAll, trOf, zE, List.set_cons_zero, List.set_cons_succ, Nat.reduceAdd])
        refine rg_nil ?_
        refine hK15 _ ?_; clear hK15; refine awp_keep [1, 2, 7, 8, 9, 15, 16, 17, 18, 30] ?_; simp only [keepEnv, lkp, zE, reduceCtorEq, Nat.reduceEqDiff, argEnv, Nat.reduceAdd]
        refine awp_cond (by simp only [ev, keepEnv, lkp, zE, reduceCtorEq, Nat.reduceEqDiff, argEnv, Nat.reduceAdd]; exact rfl) (fun hc16 => ?_) (fun hc16 => ?_)
        · (try simp only [decide_eq_true_eq, decide_eq_false_iff_not, Bool.not_true, Bool.not_false, Bool.not_eq_true, Bool.not_eq_false, Bool.not_eq_eq_eq_not, Int.not_lt, Int.not_le, reduceCtorEq, Bool.true_eq_false, Bool.false_eq_true, ne_eq, Decidable.not_not, Bool.not_eq_true', bne_iff_ne, Bool.or_eq_true, Bool.and_eq_true, Bool.or_eq_false_iff, Bool.and_eq_false_iff] at hc16)
          refine awp_seq_k fun K17 hK17 => ?_
          refine awp_reg hP hN rfl ?_
          (refine rg_step rfl fun K0 hK0 => ?_; simp only [zE, op1, ev, lkp, avOf, acOf, ev, reduceCtorEq, Nat.reduceEqDiff, Nat.reduceAdd, Nat.reduceLeDiff, Nat.reduceLT, Nat.reduceMul, Nat.reduceSub, Try.td4]; (repeat refine And.intro (by omega) ?_); (first | refine hK0 _ ?_ | refine Or.inl (hK0 _ ?_)); clear hK0 K0; simp only [put, app, setAll, trOf, zE, List.set_cons_zero, List.set_cons_succ, Nat.reduceAdd])
          refine rg_nil ?_
          refine hK17 _ ?_; clear hK17; refine awp_keep [1, 2, 6, 7, 8, 9, 15, 16, 17, 18, 30] ?_; simp only [keepEnv, lkp, zE, reduceCtorEq, Nat.reduceEqDiff, argEnv, Nat.reduceAdd]
          refine awp_ret ?_
          refine ⟨by first | exact .inl rfl | exact .inr rfl, _, rfl, ?_⟩; simp only [fzV, fz1, fzC, List.map_cons, List.map_nil, keepEnv, lkp, zE, reduceCtorEq, Nat.reduceEqDiff, argEnv, Nat.reduceAdd]
          refine VLE.of_eq ?_
          first
          | (refine bool_false ?_; rintro rfl; first | exact absurd rfl ‹¬ _› | omega)
          | (refine bool_true ?_; have hk1 : k = xs.length := by omega
             have hk2 : k = ys.length := by omega
             rw [hk1, List.take_length, ← hk1, hk2, List.take_length] at hT; exact hT)
        · (try simp only [decide_eq_true_eq, decide_eq_false_iff_not, Bool.not_true, Bool.not_false, Bool.not_eq_true, Bool.not_eq_false, Bool.not_eq_eq_eq_not, Int.not_lt, Int.not_le, reduceCtorEq, Bool.true_eq_false, Bool.false_eq_true, ne_eq, Decidable.not_not, Bool.not_eq_true', bne_iff_ne, Bool.or_eq_true, Bool.and_eq_true, Bool.or_eq_false_iff, Bool.and_eq_false_iff] at hc16)
          refine awp_skip ?_
          refine hK12 _ ?_; clear hK12; refine awp_keep [1, 2, 7, 8, 9, 15, 16, 17, 18, 30] ?_; simp only [keepEnv, lkp, zE, reduceCtorEq, Nat.reduceEqDiff, argEnv, Nat.reduceAdd]
          refine awp_reg hP hN rfl ?_
          iterate 2 (refine rg_step rfl fun K0 hK0 => ?_; simp only [zE, op1, ev, lkp, avOf, acOf, opBin, arith, inK_i64, reduceCtorEq, Nat.reduceEqDiff, Nat.reduceAdd, Nat.reduceLeDiff, Nat.reduceLT, Nat.reduceMul, Nat.reduceSub, Try.td3]; (repeat refine And.intro (by omega) ?_); (first | refine hK0 _ ?_ | refine Or.inl (hK0 _ ?_)); clear hK0 K0; simp only [put, app, setAll, trOf, zE, List.set_cons_zero, List.set_cons_succ, Nat.reduceAdd])
          refine rg_nil ?_
          refine ⟨_, _, ?_, sub_keep [1, 2, 15, 16, 17], k + 1, by omega, take_eq_succ (d := []) hT (by omega) (by omega) ?_, rfl, rfl⟩
          · omega
          · first | assumption | omega
      · (try simp only [decide_eq_true_eq, decide_eq_false_iff_not, Bool.not_true, Bool.not_false, Bool.not_eq_true, Bool.not_eq_false, Bool.not_eq_eq_eq_not, Int.not_lt, Int.not_le, reduceCtorEq, Bool.true_eq_false, Bool.false_eq_true, ne_eq, Decidable.not_not, Bool.not_eq_true', bne_iff_ne, Bool.or_eq_true, Bool.and_eq_true, Bool.or_eq_false_iff, Bool.and_eq_false_iff] at hc11)
        refine awp_exit ?_
        refine hK6 _ ?_; clear hK6; refine awp_keep [1, 2, 15, 16, 17, 18] ?_; simp only [keepEnv, lkp, zE, reduceCtorEq, Nat.reduceEqDiff, argEnv, Nat.reduceAdd]
        refine awp_seq_k fun K18 hK18 => ?_
        refine awp_reg hP hN rfl ?_
        (refine rg_step rfl fun K0 hK0 => ?_; simp only [zE, op1, ev, lkp, avOf, acOf, ev, reduceCtorEq, Nat.reduceEqDiff, Nat.reduceAdd, Nat.reduceLeDiff, Nat.reduceLT, Nat.reduceMul, Nat.reduceSub, Try.td4]; (repeat refine And.intro (by omega) ?_); (first | refine hK0 _ ?_ | refine Or.inl (hK0 _ ?_)); clear hK0 K0; simp only [put, app, setAll, trOf, zE, List.set_cons_zero, List.set_cons_succ, Nat.reduceAdd])
        refine rg_nil ?_
        refine hK18 _ ?_; clear hK18; refine awp_keep [1, 2, 6, 15, 16, 17, 18] ?_; simp only [keepEnv, lkp, zE, reduceCtorEq, Nat.reduceEqDiff, argEnv, Nat.reduceAdd]
        refine awp_ret ?_
        refine ⟨by first | exact .inl rfl | exact .inr rfl, _, rfl, ?_⟩; simp only [fzV, fz1, fzC, List.map_cons, List.map_nil, keepEnv, lkp, zE, reduceCtorEq, Nat.reduceEqDiff, argEnv, Nat.reduceAdd]
        refine VLE.of_eq ?_
        first
        | (refine bool_false ?_; rintro rfl; first | exact absurd rfl ‹¬ _› | omega)
        | (refine bool_true ?_; have hk1 : k = xs.length := by omega
           have hk2 : k = ys.length := by omega
           rw [hk1, List.take_length, ← hk1, hk2, List.take_length] at hT; exact hT)
end Go.Proofs.Ytcbkfkgagcfcoaa
namespace Go.Proofs.Ytcbkfkgagcfcoaa
open Go Go.AV
set_option maxRecDepth 100000 in
theorem rows_c (xs ys : List (List Int)) : PURE Try.prog 38 [.one (.list (.list (.int .i64)) xs), .one (.list (.list (.int .i64)) ys)] (.one (.bool (decide (xs = ys)))) := by
  refine pure_of_le Try.func38 rfl (by kernel_rfl) (Nat.le_of_ble_eq_true rfl) rfl fun C hP hN hB => ?_
  replace hN : C.N = 8 := hN
  simp only [argEnv, Nat.reduceAdd]
  refine awp_seq_k fun K1 hK1 => ?_
  refine awp_reg hP hN rfl ?_
  (refine rg_step rfl fun K0 hK0 => ?_; simp only [zE, op1, ev, lkp, avOf, acOf, ev, reduceCtorEq, Nat.reduceEqDiff, Nat.reduceAdd, Nat.reduceLeDiff, Nat.reduceLT, Nat.reduceMul, Nat.reduceSub, Try.td4]; (repeat refine And.intro (by omega) ?_); (first | refine hK0 _ ?_ | refine Or.inl (hK0 _ ?_)); clear hK0 K0; simp only [put, app, setAll, trOf, zE, List.set_cons_zero, List.set_cons_succ, Nat.reduceAdd])
  refine rg_nil ?_
  refine hK1 _ ?_; clear hK1; refine awp_keep [0, 1, 4] ?_; simp only [keepEnv, lkp, zE, reduceCtorEq, Nat.reduceEqDiff, argEnv, Nat.reduceAdd]
  refine awp_seq_k fun K2 hK2 => ?_
  refine awp_reg hP hN rfl ?_
  iterate 2 (refine rg_step rfl fun K0 hK0 => ?_; simp only [zE, op1, ev, lkp, avOf, acOf, ev, reduceCtorEq, Nat.reduceEqDiff, Nat.reduceAdd, Nat.reduceLeDiff, Nat.reduceLT, Nat.reduceMul, Nat.reduceSub, Try.el22, Try.td22]; (repeat refine And.intro (by omega) ?_); (first | refine hK0 _ ?_ | refine Or.inl (hK0 _ ?_)); clear hK0 K0; simp only [put, app, setAll, trOf, zE, List.set_cons_zero, List.set_cons_succ, Nat.reduceAdd])
  refine rg_step rfl fun K0 hK0 => ?_
  refine op_call (h := call_of_pure (eqf_c xs ys)) rfl rfl (by first | exact rfl | (simp only [ev, keepEnv, lkp, zE, reduceCtorEq, Nat.reduceEqDiff, argEnv, Nat.reduceAdd]; exact rfl)) (by simp only [zE, zG, op1, ev, lkp, avOf, acOf, cellsAV, acs, capAV, mv1, mvC, Ty.dflt, reduceCtorEq, Nat.reduceEqDiff, Nat.reduceAdd, Nat.reduceLeDiff, Nat.reduceLT, Nat.reduceMul, Nat.reduceSub]) ?_
  refine hK0 _ ?_; clear hK0 K0; simp only [put, app, setAll, trOf, zE, List.set_cons_zero, List.set_cons_succ, Nat.reduceAdd]
  (refine rg_step rfl fun K0 hK0 => ?_; simp only [zE, op1, ev, lkp, avOf, acOf, ev, reduceCtorEq, Nat.reduceEqDiff, Nat.reduceAdd, Nat.reduceLeDiff, Nat.reduceLT, Nat.reduceMul, Nat.reduceSub, Try.td4]; (repeat refine And.intro (by omega) ?_); (first | refine hK0 _ ?_ | refine Or.inl (hK0 _ ?_)); clear hK0 K0; simp only [put, app, setAll, trOf, zE, List.set_cons_zero, List.set_cons_succ, Nat.reduceAdd])
  refine rg_nil ?_
  refine hK2 _ ?_; clear hK2; refine awp_keep [0, 1, 4] ?_; simp only [keepEnv, lkp, zE, reduceCtorEq, Nat.reduceEqDiff, argEnv, Nat.reduceAdd]
  refine awp_ret ?_
  refine ⟨by first | exact .inl rfl | exact .inr rfl, _, rfl, ?_⟩; simp only [fzV, fz1, fzC, List.map_cons, List.map_nil, keepEnv, lkp, zE, reduceCtorEq, Nat.reduceEqDiff, argEnv, Nat.reduceAdd]
  refine VLE.of_eq ?_
  rfl
end Go.Proofs.Ytcbkfkgagcfcoaa
namespace Go.Proofs.Ytcbkfkgagcfcoaa
open Go Go.AV
set_option maxRecDepth 100000 in
theorem same_c (m n : Mly) : PURE Try.prog 18 [m.av, n.av] (.one (.bool (mlySame m n))) := by
  refine pure_of_le Try.func18 rfl (by kernel_rfl) (Nat.le_of_ble_eq_true rfl) rfl fun C hP hN hB => ?_
  replace hN : C.N = 31 := hN
  simp only [argEnv, Nat.reduceAdd]
  refine awp_seq_k fun K1 hK1 => ?_
  refine awp_reg hP hN rfl ?_
  iterate 3 (refine rg_step rfl fun K0 hK0 => ?_; simp only [zE, op1, ev, lkp, avOf, acOf, opBox, cellsAV, reduceCtorEq, Nat.reduceEqDiff, Nat.reduceAdd, Nat.reduceLeDiff, Nat.reduceLT, Nat.reduceMul, Nat.reduceSub, Try.st24, Try.td24, Try.td4, Mly.av]; (repeat refine And.intro (by omega) ?_); (first | refine hK0 _ ?_ | refine Or.inl (hK0 _ ?_)); clear hK0 K0; simp only [put, app, setAll, trOf, zE, List.set_cons_zero, List.set_cons_succ, Nat.reduceAdd])
  refine rg_nil ?_
  refine hK1 _ ?_; clear hK1; refine awp_keep [0, 1, 2, 3, 4] ?_; simp only [keepEnv, lkp, zE, reduceCtorEq, Nat.reduceEqDiff, argEnv, Nat.reduceAdd]
  refine awp_seq_k fun K2 hK2 => ?_
  refine awp_reg hP hN rfl ?_
  iterate 5 (refine rg_step rfl fun K0 hK0 => ?_; simp only [zE, op1, ev, lkp, avOf, acOf, opFieldAddr, opLoad, readAC, isAggK, acs, Ty.dflt, zG, cellsAt, opBin, arith, inK_i64, reduceCtorEq, Nat.reduceEqDiff, Nat.reduceAdd, Nat.reduceLeDiff, Nat.reduceLT, Nat.reduceMul, Nat.reduceSub, Try.st24, Try.td24, Try.td3, Try.td4, Mly.av]; (repeat refine And.intro (by omega) ?_); (first | refine hK0 _ ?_ | refine Or.inl (hK0 _ ?_)); clear hK0 K0; simp only [put, app, setAll, trOf, zE, List.set_cons_zero, List.set_cons_succ, Nat.reduceAdd])
  (refine rg_step rfl fun K0 hK0 => ?_; simp only [zE, op1, ev, lkp, avOf, acOf, ev, reduceCtorEq, Nat.reduceEqDiff, Nat.reduceAdd, Nat.reduceLeDiff, Nat.reduceLT, Nat.reduceMul, Nat.reduceSub, Try.td4, Mly.av]; (repeat refine And.intro (by omega) ?_); (first | refine hK0 _ ?_ | refine Or.inl (hK0 _ ?_)); clear hK0 K0; simp only [put, app, setAll, trOf, zE, List.set_cons_zero, List.set_cons_succ, Nat.reduceAdd])
  refine' rg_join_n (want := true) 5 rfl (m := 10) (by simp only [keepEnv, lkp, zE, reduceCtorEq, Nat.reduceEqDiff, argEnv, Nat.reduceAdd]; exact rfl) (by kernel_rfl) rfl rfl rfl rfl rfl (fun hg3 => ?a3) ?b3 ?c3
  case a3 =>
    have hq3 := hg3; (try simp only [decide_eq_true_eq, decide_eq_false_iff_not, Bool.not_true, Bool.not_false, Bool.not_eq_true, Bool.not_eq_false, Bool.not_eq_eq_eq_not, Int.not_lt, Int.not_le, reduceCtorEq, Bool.true_eq_false, Bool.false_eq_true, ne_eq, Decidable.not_not, Bool.not_eq_true', bne_iff_ne, Bool.or_eq_true, Bool.and_eq_true, Bool.or_eq_false_iff, Bool.and_eq_false_iff] at hg3); simp only [List.take_succ_cons, List.take_zero, List.cons_append, List.nil_append]
    (refine rg_do rfl fun K0 hK0 => ?_; simp only [zE, op1, ev, lkp, avOf, acOf, opFieldAddr, reduceCtorEq, Nat.reduceEqDiff, Nat.reduceAdd, Nat.reduceLeDiff, Nat.reduceLT, Nat.reduceMul, Nat.reduceSub, Try.st24, Try.td24, Mly.av]; (repeat refine And.intro (by omega) ?_); (first | refine hK0 _ ?_ | refine Or.inl (hK0 _ ?_)); clear hK0 K0; simp only [put, app, setAll, trOf, zE, List.set_cons_zero, List.set_cons_succ, Nat.reduceAdd])
    (refine rg_do rfl fun K0 hK0 => ?_; simp only [zE, op1, ev, lkp, avOf, acOf, opLoad, readAC, isAggK, acs, Ty.dflt, zG, cellsAt, reduceCtorEq, Nat.reduceEqDiff, Nat.reduceAdd, Nat.reduceLeDiff, Nat.reduceLT, Nat.reduceMul, Nat.reduceSub, Try.td3, Mly.av]; (repeat refine And.intro (by omega) ?_); (first | refine hK0 _ ?_ | refine Or.inl (hK0 _ ?_)); clear hK0 K0; simp only [put, app, setAll, trOf, zE, List.set_cons_zero, List.set_cons_succ, Nat.reduceAdd])
    (refine rg_do rfl fun K0 hK0 => ?_; simp only [zE, op1, ev, lkp, avOf, acOf, opFieldAddr, reduceCtorEq, Nat.reduceEqDiff, Nat.reduceAdd, Nat.reduceLeDiff, Nat.reduceLT, Nat.reduceMul, Nat.reduceSub, Try.st24, Try.td24, Mly.av]; (repeat refine And.intro (by omega) ?_); (first | refine hK0 _ ?_ | refine Or.inl (hK0 _ ?_)); clear hK0 K0; simp only [put, app, setAll, trOf, zE, List.set_cons_zero, List.set_cons_succ, Nat.reduceAdd])
    (refine rg_do rfl fun K0 hK0 => ?_; simp only [zE, op1, ev, lkp, avOf, acOf, opLoad, readAC, isAggK, acs, Ty.dflt, zG, cellsAt, reduceCtorEq, Nat.reduceEqDiff, Nat.reduceAdd, Nat.reduceLeDiff, Nat.reduceLT, Nat.reduceMul, Nat.reduceSub, Try.td3, Mly.av]; (repeat refine And.intro (by omega) ?_); (first | refine hK0 _ ?_ | refine Or.inl (hK0 _ ?_)); clear hK0 K0; simp only [put, app, setAll, trOf, zE, List.set_cons_zero, List.set_cons_succ, Nat.reduceAdd])
    (refine rg_do rfl fun K0 hK0 => ?_; simp only [zE, op1, ev, lkp, avOf, acOf, opBin, arith, inK_i64, reduceCtorEq, Nat.reduceEqDiff, Nat.reduceAdd, Nat.reduceLeDiff, Nat.reduceLT, Nat.reduceMul, Nat.reduceSub, Try.td3, Try.td4, Mly.av]; (repeat refine And.intro (by omega) ?_); (first | refine hK0 _ ?_ | refine Or.inl (hK0 _ ?_)); clear hK0 K0; simp only [put, app, setAll, trOf, zE, List.set_cons_zero, List.set_cons_succ, Nat.reduceAdd])
    (refine rg_step rfl fun K0 hK0 => ?_; simp only [zE, op1, ev, lkp, avOf, acOf, opPick, reduceCtorEq, Nat.reduceEqDiff, Nat.reduceAdd, Nat.reduceLeDiff, Nat.reduceLT, Nat.reduceMul, Nat.reduceSub, Try.td4, Mly.av]; (repeat refine And.intro (by omega) ?_); (first | refine hK0 _ ?_ | refine Or.inl (hK0 _ ?_)); clear hK0 K0; simp only [put, app, setAll, trOf, zE, List.set_cons_zero, List.set_cons_succ, Nat.reduceAdd])
    refine rg_nil ?_
    refine ⟨by simp only [keepEnv, lkp, zE, reduceCtorEq, Nat.reduceEqDiff, argEnv, Nat.reduceAdd]; exact rfl, rfl, ?_, rfl⟩; (repeat refine keep_cons rfl ?_); exact keep_m (by exact rfl) hq3
  case b3 => exact tle_of (by rfl)
  simp only [join_or, join_and]
  (refine rg_step rfl fun K0 hK0 => ?_; simp only [zE, op1, ev, lkp, avOf, acOf, ev, reduceCtorEq, Nat.reduceEqDiff, Nat.reduceAdd, Nat.reduceLeDiff, Nat.reduceLT, Nat.reduceMul, Nat.reduceSub, Try.td4, Mly.av]; (repeat refine And.intro (by omega) ?_); (first | refine hK0 _ ?_ | refine Or.inl (hK0 _ ?_)); clear hK0 K0; simp only [put, app, setAll, trOf, zE, List.set_cons_zero, List.set_cons_succ, Nat.reduceAdd])
  refine' rg_join_n (want := true) 5 rfl (m := 17) (by simp only [keepEnv, lkp, zE, reduceCtorEq, Nat.reduceEqDiff, argEnv, Nat.reduceAdd]; exact rfl) (by kernel_rfl) rfl rfl rfl rfl rfl (fun hg4 => ?a4) ?b4 ?c4
  case a4 =>
    have hq4 := hg4; (try simp only [decide_eq_true_eq, decide_eq_false_iff_not, Bool.not_true, Bool.not_false, Bool.not_eq_true, Bool.not_eq_false, Bool.not_eq_eq_eq_not, Int.not_lt, Int.not_le, reduceCtorEq, Bool.true_eq_false, Bool.false_eq_true, ne_eq, Decidable.not_not, Bool.not_eq_true', bne_iff_ne, Bool.or_eq_true, Bool.and_eq_true, Bool.or_eq_false_iff, Bool.and_eq_false_iff] at hg4); simp only [List.take_succ_cons, List.take_zero, List.cons_append, List.nil_append]
    (refine rg_do rfl fun K0 hK0 => ?_; simp only [zE, op1, ev, lkp, avOf, acOf, opFieldAddr, reduceCtorEq, Nat.reduceEqDiff, Nat.reduceAdd, Nat.reduceLeDiff, Nat.reduceLT, Nat.reduceMul, Nat.reduceSub, Try.st24, Try.td2, Try.td24, Mly.av]; (repeat refine And.intro (by omega) ?_); (first | refine hK0 _ ?_ | refine Or.inl (hK0 _ ?_)); clear hK0 K0; simp only [put, app, setAll, trOf, zE, List.set_cons_zero, List.set_cons_succ, Nat.reduceAdd])
    (refine rg_do rfl fun K0 hK0 => ?_; simp only [zE, op1, ev, lkp, avOf, acOf, opLoad, readAC, isAggK, acs, Ty.dflt, zG, cellsAt, reduceCtorEq, Nat.reduceEqDiff, Nat.reduceAdd, Nat.reduceLeDiff, Nat.reduceLT, Nat.reduceMul, Nat.reduceSub, Try.el22, Try.td22, Mly.av]; (repeat refine And.intro (by omega) ?_); (first | refine hK0 _ ?_ | refine Or.inl (hK0 _ ?_)); clear hK0 K0; simp only [put, app, setAll, trOf, zE, List.set_cons_zero, List.set_cons_succ, Nat.reduceAdd])
    (refine rg_do rfl fun K0 hK0 => ?_; simp only [zE, op1, ev, lkp, avOf, acOf, opFieldAddr, reduceCtorEq, Nat.reduceEqDiff, Nat.reduceAdd, Nat.reduceLeDiff, Nat.reduceLT, Nat.reduceMul, Nat.reduceSub, Try.st24, Try.td2, Try.td24, Mly.av]; (repeat refine And.intro (by omega) ?_); (first | refine hK0 _ ?_ | refine Or.inl (hK0 _ ?_)); clear hK0 K0; simp only [put, app, setAll, trOf, zE, List.set_cons_zero, List.set_cons_succ, Nat.reduceAdd])
    (refine rg_do rfl fun K0 hK0 => ?_; simp only [zE, op1, ev, lkp, avOf, acOf, opLoad, readAC, isAggK, acs, Ty.dflt, zG, cellsAt, reduceCtorEq, Nat.reduceEqDiff, Nat.reduceAdd, Nat.reduceLeDiff, Nat.reduceLT, Nat.reduceMul, Nat.reduceSub, Try.el22, Try.td22, Mly.av]; (repeat refine And.intro (by omega) ?_); (first | refine hK0 _ ?_ | refine Or.inl (hK0 _ ?_)); clear hK0 K0; simp only [put, app, setAll, trOf, zE, List.set_cons_zero, List.set_cons_succ, Nat.reduceAdd])
    refine rg_do rfl fun K0 hK0 => ?_
    refine op_call (h := call_of_pure (rows_c m.nx n.nx)) rfl rfl (by first | exact rfl | (simp only [ev, keepEnv, lkp, zE, reduceCtorEq, Nat.reduceEqDiff, argEnv, Nat.reduceAdd]; exact rfl)) (by simp only [zE, zG, op1, ev, lkp, avOf, acOf, cellsAV, acs, capAV, mv1, mvC, Ty.dflt, reduceCtorEq, Nat.reduceEqDiff, Nat.reduceAdd, Nat.reduceLeDiff, Nat.reduceLT, Nat.reduceMul, Nat.reduceSub, Mly.av]) ?_
    refine hK0 _ ?_; clear hK0 K0; simp only [put, app, setAll, trOf, zE, List.set_cons_zero, List.set_cons_succ, Nat.reduceAdd]
    (refine rg_step rfl fun K0 hK0 => ?_; simp only [zE, op1, ev, lkp, avOf, acOf, opPick, reduceCtorEq, Nat.reduceEqDiff, Nat.reduceAdd, Nat.reduceLeDiff, Nat.reduceLT, Nat.reduceMul, Nat.reduceSub, Try.td4, Mly.av]; (repeat refine And.intro (by omega) ?_); (first | refine hK0 _ ?_ | refine Or.inl (hK0 _ ?_)); clear hK0 K0; simp only [put, app, setAll, trOf, zE, List.set_cons_zero, List.set_cons_succ, Nat.reduceAdd])
    refine rg_nil ?_
    refine ⟨by simp only [keepEnv, lkp, zE, reduceCtorEq, Nat.reduceEqDiff, argEnv, Nat.reduceAdd]; exact rfl, rfl, ?_, rfl⟩; (repeat refine keep_cons rfl ?_); exact keep_m (by exact rfl) hq4
  case b4 => exact tle_of (by rfl)
  simp only [join_or, join_and]
  (refine rg_step rfl fun K0 hK0 => ?_; simp only [zE, op1, ev, lkp, avOf, acOf, ev, reduceCtorEq, Nat.reduceEqDiff, Nat.reduceAdd, Nat.reduceLeDiff, Nat.reduceLT, Nat.reduceMul, Nat.reduceSub, Try.td4, Mly.av]; (repeat refine And.intro (by omega) ?_); (first | refine hK0 _ ?_ | refine Or.inl (hK0 _ ?_)); clear hK0 K0; simp only [put, app, setAll, trOf, zE, List.set_cons_zero, List.set_cons_succ, Nat.reduceAdd])
  refine' rg_join_n (want := true) 5 rfl (m := 24) (by simp only [keepEnv, lkp, zE, reduceCtorEq, Nat.reduceEqDiff, argEnv, Nat.reduceAdd]; exact rfl) (by kernel_rfl) rfl rfl rfl rfl rfl (fun hg5 => ?a5) ?b5 ?c5
  case a5 =>
    have hq5 := hg5; (try simp only [decide_eq_true_eq, decide_eq_false_iff_not, Bool.not_true, Bool.not_false, Bool.not_eq_true, Bool.not_eq_false, Bool.not_eq_eq_eq_not, Int.not_lt, Int.not_le, reduceCtorEq, Bool.true_eq_false, Bool.false_eq_true, ne_eq, Decidable.not_not, Bool.not_eq_true', bne_iff_ne, Bool.or_eq_true, Bool.and_eq_true, Bool.or_eq_false_iff, Bool.and_eq_false_iff] at hg5); simp only [List.take_succ_cons, List.take_zero, List.cons_append, List.nil_append]
    (refine rg_do rfl fun K0 hK0 => ?_; simp only [zE, op1, ev, lkp, avOf, acOf, opFieldAddr, reduceCtorEq, Nat.reduceEqDiff, Nat.reduceAdd, Nat.reduceLeDiff, Nat.reduceLT, Nat.reduceMul, Nat.reduceSub, Try.st24, Try.td24, Try.td3, Mly.av]; (repeat refine And.intro (by omega) ?_); (first | refine hK0 _ ?_ | refine Or.inl (hK0 _ ?_)); clear hK0 K0; simp only [put, app, setAll, trOf, zE, List.set_cons_zero, List.set_cons_succ, Nat.reduceAdd])
    (refine rg_do rfl fun K0 hK0 => ?_; simp only [zE, op1, ev, lkp, avOf, acOf, opLoad, readAC, isAggK, acs, Ty.dflt, zG, cellsAt, reduceCtorEq, Nat.reduceEqDiff, Nat.reduceAdd, Nat.reduceLeDiff, Nat.reduceLT, Nat.reduceMul, Nat.reduceSub, Try.el22, Try.td22, Mly.av]; (repeat refine And.intro (by omega) ?_); (first | refine hK0 _ ?_ | refine Or.inl (hK0 _ ?_)); clear hK0 K0; simp only [put, app, setAll, trOf, zE, List.set_cons_zero, List.set_cons_succ, Nat.reduceAdd])
    (refine rg_do rfl fun K0 hK0 => ?_; simp only [zE, op1, ev, lkp, avOf, acOf, opFieldAddr, reduceCtorEq, Nat.reduceEqDiff, Nat.reduceAdd, Nat.reduceLeDiff, Nat.reduceLT, Nat.reduceMul, Nat.reduceSub, Try.st24, Try.td24, Try.td3, Mly.av]; (repeat refine And.intro (by omega) ?_); (first | refine hK0 _ ?_ | refine Or.inl (hK0 _ ?_)); clear hK0 K0; simp only [put, app, setAll, trOf, zE, List.set_cons_zero, List.set_cons_succ, Nat.reduceAdd])
    (refine rg_do rfl fun K0 hK0 => ?_; simp only [zE, op1, ev, lkp, avOf, acOf, opLoad, readAC, isAggK, acs, Ty.dflt, zG, cellsAt, reduceCtorEq, Nat.reduceEqDiff, Nat.reduceAdd, Nat.reduceLeDiff, Nat.reduceLT, Nat.reduceMul, Nat.reduceSub, Try.el22, Try.td22, Mly.av]; (repeat refine And.intro (by omega) ?_); (first | refine hK0 _ ?_ | refine Or.inl (hK0 _ ?_)); clear hK0 K0; simp only [put, app, setAll, trOf, zE, List.set_cons_zero, List.set_cons_succ, Nat.reduceAdd])
    refine rg_do rfl fun K0 hK0 => ?_
    refine op_call (h := call_of_pure (rows_c m.ot n.ot)) rfl rfl (by first | exact rfl | (simp only [ev, keepEnv, lkp, zE, reduceCtorEq, Nat.reduceEqDiff, argEnv, Nat.reduceAdd]; exact rfl)) (by simp only [zE, zG, op1, ev, lkp, avOf, acOf, cellsAV, acs, capAV, mv1, mvC, Ty.dflt, reduceCtorEq, Nat.reduceEqDiff, Nat.reduceAdd, Nat.reduceLeDiff, Nat.reduceLT, Nat.reduceMul, Nat.reduceSub, Mly.av]) ?_
    refine hK0 _ ?_; clear hK0 K0; simp only [put, app, setAll, trOf, zE, List.set_cons_zero, List.set_cons_succ, Nat.reduceAdd]
    (refine rg_step rfl fun K0 hK0 => ?_; simp only [zE, op1, ev, lkp, avOf, acOf, opPick, reduceCtorEq, Nat.reduceEqDiff, Nat.reduceAdd, Nat.reduceLeDiff, Nat.reduceLT, Nat.reduceMul, Nat.reduceSub, Try.td4, Mly.av]; (repeat refine And.intro (by omega) ?_); (first | refine hK0 _ ?_ | refine Or.inl (hK0 _ ?_)); clear hK0 K0; simp only [put, app, setAll, trOf, zE, List.set_cons_zero, List.set_cons_succ, Nat.reduceAdd])
    refine rg_nil ?_
    refine ⟨by simp only [keepEnv, lkp, zE, reduceCtorEq, Nat.reduceEqDiff, argEnv, Nat.reduceAdd]; exact rfl, rfl, ?_, rfl⟩; (repeat refine keep_cons rfl ?_); exact keep_m (by exact rfl) hq5
  case b5 => exact tle_of (by rfl)
  simp only [join_or, join_and]
  (refine rg_step rfl fun K0 hK0 => ?_; simp only [zE, op1, ev, lkp, avOf, acOf, ev, reduceCtorEq, Nat.reduceEqDiff, Nat.reduceAdd, Nat.reduceLeDiff, Nat.reduceLT, Nat.reduceMul, Nat.reduceSub, Try.td4, Mly.av]; (repeat refine And.intro (by omega) ?_); (first | refine hK0 _ ?_ | refine Or.inl (hK0 _ ?_)); clear hK0 K0; simp only [put, app, setAll, trOf, zE, List.set_cons_zero, List.set_cons_succ, Nat.reduceAdd])
  refine rg_nil ?_
  refine hK2 _ ?_; clear hK2; refine awp_keep [0, 1, 2, 3, 4] ?_; simp only [keepEnv, lkp, zE, reduceCtorEq, Nat.reduceEqDiff, argEnv, Nat.reduceAdd]
  refine awp_ret ?_
  refine ⟨by first | exact .inl rfl | exact .inr rfl, _, rfl, ?_⟩; simp only [fzV, fz1, fzC, List.map_cons, List.map_nil, keepEnv, lkp, zE, reduceCtorEq, Nat.reduceEqDiff, argEnv, Nat.reduceAdd, Mly.av]
  refine VLE.of_eq ?_
  rfl
end Go.Proofs.Ytcbkfkgagcfcoaa
namespace Go.Proofs.Ytcbkfkgagcfcoaa
open Go Go.AV
set_option maxRecDepth 100000 in
theorem clone0  : PURE Try.prog 37 [.one .nils] (.one .nils) := by
  refine pure_of_le Try.func37 rfl (by kernel_rfl) (Nat.le_of_ble_eq_true rfl) rfl fun C hP hN hB => ?_
  replace hN : C.N = 8 := hN
  simp only [argEnv, Nat.reduceAdd]
  refine awp_seq_k fun K1 hK1 => ?_
  refine awp_reg hP hN rfl ?_
  (refine rg_step rfl fun K0 hK0 => ?_; simp only [zE, op1, ev, lkp, avOf, acOf, ev, reduceCtorEq, Nat.reduceEqDiff, Nat.reduceAdd, Nat.reduceLeDiff, Nat.reduceLT, Nat.reduceMul, Nat.reduceSub, Try.el30, Try.td30]; (repeat refine And.intro (by omega) ?_); (first | refine hK0 _ ?_ | refine Or.inl (hK0 _ ?_)); clear hK0 K0; simp only [put, app, setAll, trOf, zE, List.set_cons_zero, List.set_cons_succ, Nat.reduceAdd])
  refine rg_nil ?_
  refine hK1 _ ?_; clear hK1; refine awp_keep [0, 2] ?_; simp only [keepEnv, lkp, zE, reduceCtorEq, Nat.reduceEqDiff, argEnv, Nat.reduceAdd]
  refine awp_seq_k fun K2 hK2 => ?_
  refine awp_seq_k fun K3 hK3 => ?_
  refine awp_reg hP hN rfl ?_
  iterate 2 (refine rg_step rfl fun K0 hK0 => ?_; simp only [zE, op1, ev, lkp, avOf, acOf, opBin, arith, inK_i64, reduceCtorEq, Nat.reduceEqDiff, Nat.reduceAdd, Nat.reduceLeDiff, Nat.reduceLT, Nat.reduceMul, Nat.reduceSub, Try.el30, Try.td30, Try.td4]; (repeat refine And.intro (by omega) ?_); (first | refine hK0 _ ?_ | refine Or.inl (hK0 _ ?_)); clear hK0 K0; simp only [put, app, setAll, trOf, zE, List.set_cons_zero, List.set_cons_succ, Nat.reduceAdd])
  refine rg_nil ?_
  refine hK3 _ ?_; clear hK3; refine awp_keep [0, 2, 4] ?_; simp only [keepEnv, lkp, zE, reduceCtorEq, Nat.reduceEqDiff, argEnv, Nat.reduceAdd]
  refine awp_cond (by simp only [ev, keepEnv, lkp, zE, reduceCtorEq, Nat.reduceEqDiff, argEnv, Nat.reduceAdd]; exact rfl) (fun hc4 => ?_) (fun hc4 => ?_)
  · (try simp only [decide_eq_true_eq, decide_eq_false_iff_not, Bool.not_true, Bool.not_false, Bool.not_eq_true, Bool.not_eq_false, Bool.not_eq_eq_eq_not, Int.not_lt, Int.not_le, reduceCtorEq, Bool.true_eq_false, Bool.false_eq_true, ne_eq, Decidable.not_not, Bool.not_eq_true', bne_iff_ne, Bool.or_eq_true, Bool.and_eq_true, Bool.or_eq_false_iff, Bool.and_eq_false_iff] at hc4)
    refine awp_seq_k fun K5 hK5 => ?_
    refine awp_reg hP hN rfl ?_
    (refine rg_step rfl fun K0 hK0 => ?_; simp only [zE, op1, ev, lkp, avOf, acOf, ev, reduceCtorEq, Nat.reduceEqDiff, Nat.reduceAdd, Nat.reduceLeDiff, Nat.reduceLT, Nat.reduceMul, Nat.reduceSub, Try.el30, Try.td30]; (repeat refine And.intro (by omega) ?_); (first | refine hK0 _ ?_ | refine Or.inl (hK0 _ ?_)); clear hK0 K0; simp only [put, app, setAll, trOf, zE, List.set_cons_zero, List.set_cons_succ, Nat.reduceAdd])
    refine rg_nil ?_
    refine hK5 _ ?_; clear hK5; refine awp_keep [0, 2, 4] ?_; simp only [keepEnv, lkp, zE, reduceCtorEq, Nat.reduceEqDiff, argEnv, Nat.reduceAdd]
    refine awp_ret ?_
    refine ⟨by first | exact .inl rfl | exact .inr rfl, _, rfl, ?_⟩; simp only [fzV, fz1, fzC, List.map_cons, List.map_nil, keepEnv, lkp, zE, reduceCtorEq, Nat.reduceEqDiff, argEnv, Nat.reduceAdd]
    refine VLE.of_eq ?_
    rfl
  · exfalso; first | (cases hc4; done) | (simp at hc4; done) | (simp_all; done)
end Go.Proofs.Ytcbkfkgagcfcoaa
namespace Go.Proofs.Ytcbkfkgagcfcoaa
open Go Go.AV
set_option maxRecDepth 100000 in
theorem clone1  : PURE Try.prog 37 [.one .emp] (.one (.list (.int .i64) [])) := by
  refine pure_of_le Try.func37 rfl (by kernel_rfl) (Nat.le_of_ble_eq_true rfl) rfl fun C hP hN hB => ?_
  replace hN : C.N = 8 := hN
  simp only [argEnv, Nat.reduceAdd]
  refine awp_seq_k fun K1 hK1 => ?_
  refine awp_reg hP hN rfl ?_
  (refine rg_step rfl fun K0 hK0 => ?_; simp only [zE, op1, ev, lkp, avOf, acOf, ev, reduceCtorEq, Nat.reduceEqDiff, Nat.reduceAdd, Nat.reduceLeDiff, Nat.reduceLT, Nat.reduceMul, Nat.reduceSub, Try.el30, Try.td30]; (repeat refine And.intro (by omega) ?_); (first | refine hK0 _ ?_ | refine Or.inl (hK0 _ ?_)); clear hK0 K0; simp only [put, app, setAll, trOf, zE, List.set_cons_zero, List.set_cons_succ, Nat.reduceAdd])
  refine rg_nil ?_
  refine hK1 _ ?_; clear hK1; refine awp_keep [0, 2] ?_; simp only [keepEnv, lkp, zE, reduceCtorEq, Nat.reduceEqDiff, argEnv, Nat.reduceAdd]
  refine awp_seq_k fun K2 hK2 => ?_
  refine awp_seq_k fun K3 hK3 => ?_
  refine awp_reg hP hN rfl ?_
  iterate 2 (refine rg_step rfl fun K0 hK0 => ?_; simp only [zE, op1, ev, lkp, avOf, acOf, opBin, arith, inK_i64, reduceCtorEq, Nat.reduceEqDiff, Nat.reduceAdd, Nat.reduceLeDiff, Nat.reduceLT, Nat.reduceMul, Nat.reduceSub, Try.el30, Try.td30, Try.td4]; (repeat refine And.intro (by omega) ?_); (first | refine hK0 _ ?_ | refine Or.inl (hK0 _ ?_)); clear hK0 K0; simp only [put, app, setAll, trOf, zE, List.set_cons_zero, List.set_cons_succ, Nat.reduceAdd])
  refine rg_nil ?_
  refine hK3 _ ?_; clear hK3; refine awp_keep [0, 2, 4] ?_; simp only [keepEnv, lkp, zE, reduceCtorEq, Nat.reduceEqDiff, argEnv, Nat.reduceAdd]
  refine awp_cond (by simp only [ev, keepEnv, lkp, zE, reduceCtorEq, Nat.reduceEqDiff, argEnv, Nat.reduceAdd]; exact rfl) (fun hc4 => ?_) (fun hc4 => ?_)
  · exfalso; first | (cases hc4; done) | (simp at hc4; done) | (simp_all; done)
  · (try simp only [decide_eq_true_eq, decide_eq_false_iff_not, Bool.not_true, Bool.not_false, Bool.not_eq_true, Bool.not_eq_false, Bool.not_eq_eq_eq_not, Int.not_lt, Int.not_le, reduceCtorEq, Bool.true_eq_false, Bool.false_eq_true, ne_eq, Decidable.not_not, Bool.not_eq_true', bne_iff_ne, Bool.or_eq_true, Bool.and_eq_true, Bool.or_eq_false_iff, Bool.and_eq_false_iff] at hc4)
    refine awp_skip ?_
    refine hK2 _ ?_; clear hK2; refine awp_keep [0, 2, 4] ?_; simp only [keepEnv, lkp, zE, reduceCtorEq, Nat.reduceEqDiff, argEnv, Nat.reduceAdd]
    refine awp_seq_k fun K5 hK5 => ?_
    refine awp_reg hP hN rfl ?_
    (refine rg_step rfl fun K0 hK0 => ?_; simp only [zE, op1, ev, lkp, avOf, acOf, opBuildSlice, fillAC, chunk, rep, datOf, writeAC, cellsAV, Ty.size, reduceCtorEq, Nat.reduceEqDiff, Nat.reduceAdd, Nat.reduceLeDiff, Nat.reduceLT, Nat.reduceMul, Nat.reduceSub, Try.el30, Try.td30]; (repeat refine And.intro (by omega) ?_); refine Or.inr (hK0 _ ?_); clear hK0 K0; simp only [put, app, setAll, trOf, zE, List.set_cons_zero, List.set_cons_succ, Nat.reduceAdd])
    iterate 3 (refine rg_step rfl fun K0 hK0 => ?_; simp only [zE, op1, ev, lkp, avOf, acOf, opCallAny, opLen, lenAC, lenOk, fpAC, opAppend, srcOf, Ty.size, datOf, dite_true, reduceCtorEq, Nat.reduceEqDiff, Nat.reduceAdd, Nat.reduceLeDiff, Nat.reduceLT, Nat.reduceMul, Nat.reduceSub, Try.el30, Try.td30]; (repeat refine And.intro (by omega) ?_); (first | refine hK0 _ ?_ | refine Or.inl (hK0 _ ?_)); clear hK0 K0; simp only [put, app, setAll, trOf, zE, List.set_cons_zero, List.set_cons_succ, Nat.reduceAdd])
    refine rg_nil ?_
    refine hK5 _ ?_; clear hK5; refine awp_keep [0, 2, 4] ?_; simp only [keepEnv, lkp, zE, reduceCtorEq, Nat.reduceEqDiff, argEnv, Nat.reduceAdd]
    refine awp_ret ?_
    refine ⟨by first | exact .inl rfl | exact .inr rfl, _, rfl, ?_⟩; simp only [fzV, fz1, fzC, List.map_cons, List.map_nil, keepEnv, lkp, zE, reduceCtorEq, Nat.reduceEqDiff, argEnv, Nat.reduceAdd]
    refine VLE.of_eq ?_
    rfl
end Go.Proofs.Ytcbkfkgagcfcoaa
namespace Go.Proofs.Ytcbkfkgagcfcoaa
open Go Go.AV
set_option maxRecDepth 100000 in
theorem clone2 (xs : List Int) (h0 : 0 < xs.length) (h1 : xs.length ≤ 10000000000000) : PURE Try.prog 37 [.one (.list (.int .i64) xs)] (.one (.list (.int .i64) xs)) := by
  refine pure_of_le Try.func37 rfl (by kernel_rfl) (Nat.le_of_ble_eq_true rfl) rfl fun C hP hN hB => ?_
  replace hN : C.N = 8 := hN
  simp only [argEnv, Nat.reduceAdd]
  refine awp_seq_k fun K1 hK1 => ?_
  refine awp_reg hP hN rfl ?_
  (refine rg_step rfl fun K0 hK0 => ?_; simp only [zE, op1, ev, lkp, avOf, acOf, ev, reduceCtorEq, Nat.reduceEqDiff, Nat.reduceAdd, Nat.reduceLeDiff, Nat.reduceLT, Nat.reduceMul, Nat.reduceSub, Try.el30, Try.td30]; (repeat refine And.intro (by omega) ?_); (first | refine hK0 _ ?_ | refine Or.inl (hK0 _ ?_)); clear hK0 K0; simp only [put, app, setAll, trOf, zE, List.set_cons_zero, List.set_cons_succ, Nat.reduceAdd])
  refine rg_nil ?_
  refine hK1 _ ?_; clear hK1; refine awp_keep [0, 2] ?_; simp only [keepEnv, lkp, zE, reduceCtorEq, Nat.reduceEqDiff, argEnv, Nat.reduceAdd]
  refine awp_seq_k fun K2 hK2 => ?_
  refine awp_seq_k fun K3 hK3 => ?_
  refine awp_reg hP hN rfl ?_
  iterate 2 (refine rg_step rfl fun K0 hK0 => ?_; simp only [zE, op1, ev, lkp, avOf, acOf, opBin, arith, inK_i64, reduceCtorEq, Nat.reduceEqDiff, Nat.reduceAdd, Nat.reduceLeDiff, Nat.reduceLT, Nat.reduceMul, Nat.reduceSub, Try.el30, Try.td30, Try.td4]; (repeat refine And.intro (by omega) ?_); (first | refine hK0 _ ?_ | refine Or.inl (hK0 _ ?_)); clear hK0 K0; simp only [put, app, setAll, trOf, zE, List.set_cons_zero, List.set_cons_succ, Nat.reduceAdd])
  refine rg_nil ?_
  refine hK3 _ ?_; clear hK3; refine awp_keep [0, 2, 4] ?_; simp only [keepEnv, lkp, zE, reduceCtorEq, Nat.reduceEqDiff, argEnv, Nat.reduceAdd]
  refine awp_cond (by simp only [ev, keepEnv, lkp, zE, reduceCtorEq, Nat.reduceEqDiff, argEnv, Nat.reduceAdd]; exact rfl) (fun hc4 => ?_) (fun hc4 => ?_)
  · exfalso; first | (cases hc4; done) | (simp at hc4; done) | (simp_all; done)
  · (try simp only [decide_eq_true_eq, decide_eq_false_iff_not, Bool.not_true, Bool.not_false, Bool.not_eq_true, Bool.not_eq_false, Bool.not_eq_eq_eq_not, Int.not_lt, Int.not_le, reduceCtorEq, Bool.true_eq_false, Bool.false_eq_true, ne_eq, Decidable.not_not, Bool.not_eq_true', bne_iff_ne, Bool.or_eq_true, Bool.and_eq_true, Bool.or_eq_false_iff, Bool.and_eq_false_iff] at hc4)
    refine awp_skip ?_
    refine hK2 _ ?_; clear hK2; refine awp_keep [0, 2, 4] ?_; simp only [keepEnv, lkp, zE, reduceCtorEq, Nat.reduceEqDiff, argEnv, Nat.reduceAdd]
    refine awp_seq_k fun K5 hK5 => ?_
    refine awp_reg hP hN rfl ?_
    (refine rg_step rfl fun K0 hK0 => ?_; simp only [zE, op1, ev, lkp, avOf, acOf, opBuildSlice, fillAC, chunk, rep, datOf, writeAC, cellsAV, Ty.size, reduceCtorEq, Nat.reduceEqDiff, Nat.reduceAdd, Nat.reduceLeDiff, Nat.reduceLT, Nat.reduceMul, Nat.reduceSub, Try.el30, Try.td30]; (repeat refine And.intro (by omega) ?_); refine Or.inr (hK0 _ ?_); clear hK0 K0; simp only [put, app, setAll, trOf, zE, List.set_cons_zero, List.set_cons_succ, Nat.reduceAdd])
    iterate 3 (refine rg_step rfl fun K0 hK0 => ?_; simp only [zE, op1, ev, lkp, avOf, acOf, opCallAny, opLen, lenAC, lenOk, fpAC, opAppend, srcOf, Ty.size, datOf, dite_true, reduceCtorEq, Nat.reduceEqDiff, Nat.reduceAdd, Nat.reduceLeDiff, Nat.reduceLT, Nat.reduceMul, Nat.reduceSub, Try.el30, Try.td30]; (repeat refine And.intro (by omega) ?_); (first | refine hK0 _ ?_ | refine Or.inl (hK0 _ ?_)); clear hK0 K0; simp only [put, app, setAll, trOf, zE, List.set_cons_zero, List.set_cons_succ, Nat.reduceAdd])
    refine rg_nil ?_
    refine hK5 _ ?_; clear hK5; refine awp_keep [0, 2, 4] ?_; simp only [keepEnv, lkp, zE, reduceCtorEq, Nat.reduceEqDiff, argEnv, Nat.reduceAdd]
    refine awp_ret ?_
    refine ⟨by first | exact .inl rfl | exact .inr rfl, _, rfl, ?_⟩; simp only [fzV, fz1, fzC, List.map_cons, List.map_nil, keepEnv, lkp, zE, reduceCtorEq, Nat.reduceEqDiff, argEnv, Nat.reduceAdd]
    refine VLE.of_eq ?_
    rfl
end Go.Proofs.Ytcbkfkgagcfcoaa
namespace Go.Proofs.Ytcbkfkgagcfcoaa
open Go Go.AV
theorem clone_c (xs : List Int) (h : xs.length ≤ 10000000000000) : PURE Try.prog 37 [.one (.list (.int .i64) xs)] (.one (.list (.int .i64) xs)) :=
  pure_slice (t := .int .i64) (fun e => pure_weak clone0 (vle_one (cle_nils e))) (fun e => by subst e; exact clone1) (fun h0 => clone2 xs h0 h) clone0.1

end Go.Proofs.Ytcbkfkgagcfcoaa
namespace Go.Proofs.Ytcbkfkgagcfcoaa
open Go Go.AV
set_option maxRecDepth 100000 in
theorem trim_c (m : Mly) : PURE Try.prog 15 [m.av] (.tup [m.trim.av, .one (.int .i64 (validE m))]) := by
  refine pure_of_le Try.func15 rfl (by kernel_rfl) (Nat.le_of_ble_eq_true rfl) rfl fun C hP hN hB => ?_
  replace hN : C.N = 89 := hN
  simp only [argEnv, Nat.reduceAdd]
  refine awp_seq_k fun K1 hK1 => ?_
  refine awp_reg hP hN rfl ?_
  iterate 3 (refine rg_step rfl fun K0 hK0 => ?_; simp only [zE, op1, ev, lkp, avOf, acOf, opBox, cellsAV, opAlloc, reduceCtorEq, Nat.reduceEqDiff, Nat.reduceAdd, Nat.reduceLeDiff, Nat.reduceLT, Nat.reduceMul, Nat.reduceSub, Try.st24, Try.td24, Try.td25, Mly.av]; (repeat refine And.intro (by omega) ?_); (first | refine hK0 _ ?_ | refine Or.inl (hK0 _ ?_)); clear hK0 K0; simp only [put, app, setAll, trOf, zE, List.set_cons_zero, List.set_cons_succ, Nat.reduceAdd])
  refine rg_nil ?_
  refine hK1 _ ?_; clear hK1; refine awp_keep [0, 1, 2, 3] ?_; simp only [keepEnv, lkp, zE, reduceCtorEq, Nat.reduceEqDiff, argEnv, Nat.reduceAdd]
  refine awp_seq_k fun K2 hK2 => ?_
  refine awp_seq_k fun K3 hK3 => ?_
  refine awp_reg hP hN rfl ?_
  (refine rg_step rfl fun K0 hK0 => ?_; simp only [zE, op1, ev, lkp, avOf, acOf, opLoad, readAC, isAggK, acs, Ty.dflt, zG, cellsAt, reduceCtorEq, Nat.reduceEqDiff, Nat.reduceAdd, Nat.reduceLeDiff, Nat.reduceLT, Nat.reduceMul, Nat.reduceSub, Try.st24, Try.td24, Mly.av]; (repeat refine And.intro (by omega) ?_); (first | refine hK0 _ ?_ | refine Or.inl (hK0 _ ?_)); clear hK0 K0; simp only [put, app, setAll, trOf, zE, List.set_cons_zero, List.set_cons_succ, Nat.reduceAdd])
  refine rg_step rfl fun K0 hK0 => ?_
  refine op_call (h := call_of_pure (valid_c m)) rfl rfl (by first | exact rfl | (simp only [ev, keepEnv, lkp, zE, reduceCtorEq, Nat.reduceEqDiff, argEnv, Nat.reduceAdd]; exact rfl)) (by simp only [zE, zG, op1, ev, lkp, avOf, acOf, cellsAV, acs, capAV, mv1, mvC, Ty.dflt, reduceCtorEq, Nat.reduceEqDiff, Nat.reduceAdd, Nat.reduceLeDiff, Nat.reduceLT, Nat.reduceMul, Nat.reduceSub, Mly.av]) ?_
  refine hK0 _ ?_; clear hK0 K0; simp only [put, app, setAll, trOf, zE, List.set_cons_zero, List.set_cons_succ, Nat.reduceAdd]
  (refine rg_step rfl fun K0 hK0 => ?_; simp only [zE, op1, ev, lkp, avOf, acOf, ev, reduceCtorEq, Nat.reduceEqDiff, Nat.reduceAdd, Nat.reduceLeDiff, Nat.reduceLT, Nat.reduceMul, Nat.reduceSub, Try.td25, Mly.av]; (repeat refine And.intro (by omega) ?_); (first | refine hK0 _ ?_ | refine Or.inl (hK0 _ ?_)); clear hK0 K0; simp only [put, app, setAll, trOf, zE, List.set_cons_zero, List.set_cons_succ, Nat.reduceAdd])
  refine rg_nil ?_
  refine hK3 _ ?_; clear hK3; refine awp_keep [0, 1, 2, 3, 4] ?_; simp only [keepEnv, lkp, zE, reduceCtorEq, Nat.reduceEqDiff, argEnv, Nat.reduceAdd]
  refine awp_seq_k fun K4 hK4 => ?_
  refine awp_reg hP hN rfl ?_
  iterate 2 (refine rg_step rfl fun K0 hK0 => ?_; simp only [zE, op1, ev, lkp, avOf, acOf, opBin, arith, inK_i64, reduceCtorEq, Nat.reduceEqDiff, Nat.reduceAdd, Nat.reduceLeDiff, Nat.reduceLT, Nat.reduceMul, Nat.reduceSub, Try.td25, Try.td4, Mly.av]; (repeat refine And.intro (by omega) ?_); (first | refine hK0 _ ?_ | refine Or.inl (hK0 _ ?_)); clear hK0 K0; simp only [put, app, setAll, trOf, zE, List.set_cons_zero, List.set_cons_succ, Nat.reduceAdd])
  refine rg_nil ?_
  refine hK4 _ ?_; clear hK4; refine awp_keep [0, 1, 2, 3, 4, 18] ?_; simp only [keepEnv, lkp, zE, reduceCtorEq, Nat.reduceEqDiff, argEnv, Nat.reduceAdd]
  refine awp_cond (by simp only [ev, keepEnv, lkp, zE, reduceCtorEq, Nat.reduceEqDiff, argEnv, Nat.reduceAdd]; exact rfl) (fun hc5 => ?_) (fun hc5 => ?_)
  · (try simp only [decide_eq_true_eq, decide_eq_false_iff_not, Bool.not_true, Bool.not_false, Bool.not_eq_true, Bool.not_eq_false, Bool.not_eq_eq_eq_not, Int.not_lt, Int.not_le, reduceCtorEq, Bool.true_eq_false, Bool.false_eq_true, ne_eq, Decidable.not_not, Bool.not_eq_true', bne_iff_ne, Bool.or_eq_true, Bool.and_eq_true, Bool.or_eq_false_iff, Bool.and_eq_false_iff] at hc5)
    refine awp_seq_k fun K6 hK6 => ?_
    refine awp_reg hP hN rfl ?_
    iterate 4 (refine rg_step rfl fun K0 hK0 => ?_; simp only [zE, op1, ev, lkp, avOf, acOf, opBuild, fillAC, writeAC, cellsAV, opStore, datOf, acs, Ty.size, Ty.dflt, zG, reduceCtorEq, Nat.reduceEqDiff, Nat.reduceAdd, Nat.reduceLeDiff, Nat.reduceLT, Nat.reduceMul, Nat.reduceSub, Try.st24, Try.td24, Try.td25, Mly.av]; (repeat refine And.intro (by omega) ?_); (first | refine hK0 _ ?_ | refine Or.inl (hK0 _ ?_)); clear hK0 K0; simp only [put, app, setAll, trOf, zE, List.set_cons_zero, List.set_cons_succ, Nat.reduceAdd])
    refine rg_nil ?_
    refine hK6 _ ?_; clear hK6; refine awp_keep [0, 1, 2, 3, 4, 18] ?_; simp only [keepEnv, lkp, zE, reduceCtorEq, Nat.reduceEqDiff, argEnv, Nat.reduceAdd]
    refine awp_ret ?_
    refine ⟨by first | exact .inl rfl | exact .inr rfl, _, rfl, ?_⟩; simp only [fzV, fz1, fzC, List.map_cons, List.map_nil, keepEnv, lkp, zE, reduceCtorEq, Nat.reduceEqDiff, argEnv, Nat.reduceAdd, Mly.av]
    first
    | (rw [trim_bad ‹¬validE m = 0›]
       exact vle_tup ⟨vle1_agg ⟨.refl _, .refl _, cle_nils rfl, cle_nils rfl, trivial⟩, vle1_one (.refl _), trivial⟩)
    | (rw [trim_ok hv, hv]
       have hk3 : k = m.reach.length := by omega
       have e1 : m.tnx.take k = m.tnx := List.take_of_length_le (by simp [Mly.tnx]; omega)
       have e2 : m.tot.take k = m.tot := List.take_of_length_le (by simp [Mly.tot]; omega)
       rw [e1, e2]
       exact VLE.of_eq (by simp [fzC]; rfl))
  · (try simp only [decide_eq_true_eq, decide_eq_false_iff_not, Bool.not_true, Bool.not_false, Bool.not_eq_true, Bool.not_eq_false, Bool.not_eq_eq_eq_not, Int.not_lt, Int.not_le, reduceCtorEq, Bool.true_eq_false, Bool.false_eq_true, ne_eq, Decidable.not_not, Bool.not_eq_true', bne_iff_ne, Bool.or_eq_true, Bool.and_eq_true, Bool.or_eq_false_iff, Bool.and_eq_false_iff] at hc5)
    refine awp_skip ?_
    refine hK2 _ ?_; clear hK2; refine awp_keep [0, 1, 2, 3, 4, 18] ?_; simp only [keepEnv, lkp, zE, reduceCtorEq, Nat.reduceEqDiff, argEnv, Nat.reduceAdd]
    refine awp_seq_k fun K7 hK7 => ?_
    refine awp_reg hP hN rfl ?_
    (refine rg_step rfl fun K0 hK0 => ?_; simp only [zE, op1, ev, lkp, avOf, acOf, opLoad, readAC, isAggK, acs, Ty.dflt, zG, cellsAt, reduceCtorEq, Nat.reduceEqDiff, Nat.reduceAdd, Nat.reduceLeDiff, Nat.reduceLT, Nat.reduceMul, Nat.reduceSub, Try.st24, Try.td24, Mly.av]; (repeat refine And.intro (by omega) ?_); (first | refine hK0 _ ?_ | refine Or.inl (hK0 _ ?_)); clear hK0 K0; simp only [put, app, setAll, trOf, zE, List.set_cons_zero, List.set_cons_succ, Nat.reduceAdd])
    refine rg_step rfl fun K0 hK0 => ?_
    refine op_call (h := call_of_pure (reach_c m)) rfl rfl (by first | exact rfl | (simp only [ev, keepEnv, lkp, zE, reduceCtorEq, Nat.reduceEqDiff, argEnv, Nat.reduceAdd]; exact rfl)) (by simp only [zE, zG, op1, ev, lkp, avOf, acOf, cellsAV, acs, capAV, mv1, mvC, Ty.dflt, reduceCtorEq, Nat.reduceEqDiff, Nat.reduceAdd, Nat.reduceLeDiff, Nat.reduceLT, Nat.reduceMul, Nat.reduceSub, Mly.av]) ?_
    refine hK0 _ ?_; clear hK0 K0; simp only [put, app, setAll, trOf, zE, List.set_cons_zero, List.set_cons_succ, Nat.reduceAdd]
    (refine rg_step rfl fun K0 hK0 => ?_; simp only [zE, op1, ev, lkp, avOf, acOf, ev, reduceCtorEq, Nat.reduceEqDiff, Nat.reduceAdd, Nat.reduceLeDiff, Nat.reduceLT, Nat.reduceMul, Nat.reduceSub, Try.el30, Try.td30, Mly.av]; (repeat refine And.intro (by omega) ?_); (first | refine hK0 _ ?_ | refine Or.inl (hK0 _ ?_)); clear hK0 K0; simp only [put, app, setAll, trOf, zE, List.set_cons_zero, List.set_cons_succ, Nat.reduceAdd])
    refine rg_nil ?_
    refine hK7 _ ?_; clear hK7; refine awp_keep [0, 1, 2, 3, 4, 5, 18] ?_; simp only [keepEnv, lkp, zE, reduceCtorEq, Nat.reduceEqDiff, argEnv, Nat.reduceAdd]
    refine awp_seq_k fun K8 hK8 => ?_
    have hv : validE m = 0 := by assumption
    have hm := mok_of hv; have h3 := hm.n2; have hR := rset_reach hm; have hRl := hR.len; have hi1 := hm.i1; have hi2 := hm.i2; have hol := hm.ol
    refine awp_reg hP hN rfl ?_
    iterate 5 (refine rg_step rfl fun K0 hK0 => ?_; simp only [zE, op1, ev, lkp, avOf, acOf, opFieldAddr, opLoad, readAC, isAggK, acs, Ty.dflt, zG, cellsAt, opCallAny, opLen, lenAC, lenOk, fpAC, opAppend, srcOf, Ty.size, datOf, dite_true, opMakeSlice, reduceCtorEq, Nat.reduceEqDiff, Nat.reduceAdd, Nat.reduceLeDiff, Nat.reduceLT, Nat.reduceMul, Nat.reduceSub, Try.el22, Try.el30, Try.st24, Try.td2, Try.td22, Try.td24, Try.td3, Try.td30, Mly.av]; (repeat refine And.intro (by omega) ?_); (first | refine hK0 _ ?_ | refine Or.inl (hK0 _ ?_)); clear hK0 K0; simp only [put, app, setAll, trOf, zE, List.set_cons_zero, List.set_cons_succ, Nat.reduceAdd])
    refine rg_nil ?_
    refine hK8 _ ?_; clear hK8; refine awp_keep [0, 1, 2, 3, 4, 5, 6, 18] ?_; simp only [keepEnv, lkp, zE, reduceCtorEq, Nat.reduceEqDiff, argEnv, Nat.reduceAdd]
    refine awp_seq_k fun K9 hK9 => ?_
    refine awp_seq_k fun K10 hK10 => ?_
    refine awp_reg hP hN rfl ?_
    iterate 3 (refine rg_step rfl fun K0 hK0 => ?_; simp only [zE, op1, ev, lkp, avOf, acOf, opCallAny, opLen, lenAC, lenOk, fpAC, opAppend, srcOf, Ty.size, datOf, dite_true, reduceCtorEq, Nat.reduceEqDiff, Nat.reduceAdd, Nat.reduceLeDiff, Nat.reduceLT, Nat.reduceMul, Nat.reduceSub, Try.el30, Try.td3, Try.td30, Mly.av]; (repeat refine And.intro (by omega) ?_); (first | refine hK0 _ ?_ | refine Or.inl (hK0 _ ?_)); clear hK0 K0; simp only [put, app, setAll, trOf, zE, List.set_cons_zero, List.set_cons_succ, Nat.reduceAdd])
    refine rg_nil ?_
    refine hK10 _ ?_; clear hK10; refine awp_keep [0, 1, 2, 3, 4, 5, 6, 18, 27, 28, 29] ?_; simp only [keepEnv, lkp, zE, reduceCtorEq, Nat.reduceEqDiff, argEnv, Nat.reduceAdd]
    refine awp_block ?_
    refine awp_loop (fun n11 s11 => ∃ (k : Nat), (k ≤ m.reach.length) ∧ n11 = m.reach.length - k ∧ s11 = { env := [(1, .one (.ptr 0 0 0 0)), (2, .one (.ptr 1 0 0 0)), (5, .one (.list (.int .i64) m.reach)), (6, .one (.row 2 0)), (27, .one (.list (.int .i64) m.reach)), (28, .one (.int .i64 (m.reach.length : Int))), (29, .one (.int .i64 (k : Int)))], L := [.vars 24 [.int .i64 m.inp, .int .i64 m.st, .list (.list (.int .i64)) m.nx, .list (.list (.int .i64)) m.ot], .vars 24 [.int .i64 0, .int .i64 0, .nils, .nils], .row (.int .i64) 3 0 (numF m.nx.length m.reach k)] }) ?_ ?_
    · exact ⟨_, _, sub_keep [1, 2, 5, 6, 27, 28, 29], 0, Nat.zero_le _, rfl, rfl⟩
    · rintro n11 s11 ⟨k, hk, rfl, rfl⟩
      refine awp_seq_k fun K12 hK12 => ?_
      refine awp_reg hP hN rfl ?_
      (refine rg_step rfl fun K0 hK0 => ?_; simp only [zE, op1, ev, lkp, avOf, acOf, opBin, arith, inK_i64, reduceCtorEq, Nat.reduceEqDiff, Nat.reduceAdd, Nat.reduceLeDiff, Nat.reduceLT, Nat.reduceMul, Nat.reduceSub, Try.td3, Mly.av]; (repeat refine And.intro (by omega) ?_); (first | refine hK0 _ ?_ | refine Or.inl (hK0 _ ?_)); clear hK0 K0; simp only [put, app, setAll, trOf, zE, List.set_cons_zero, List.set_cons_succ, Nat.reduceAdd])
      refine rg_nil ?_
      refine hK12 _ ?_; clear hK12; refine awp_keep [1, 2, 5, 6, 27, 28, 29, 30] ?_; simp only [keepEnv, lkp, zE, reduceCtorEq, Nat.reduceEqDiff, argEnv, Nat.reduceAdd]
      refine awp_seq_k fun K13 hK13 => ?_
      refine awp_cond (by simp only [ev, keepEnv, lkp, zE, reduceCtorEq, Nat.reduceEqDiff, argEnv, Nat.reduceAdd]; exact rfl) (fun hc14 => ?_) (fun hc14 => ?_)
      · (try simp only [decide_eq_true_eq, decide_eq_false_iff_not, Bool.not_true, Bool.not_false, Bool.not_eq_true, Bool.not_eq_false, Bool.not_eq_eq_eq_not, Int.not_lt, Int.not_le, reduceCtorEq, Bool.true_eq_false, Bool.false_eq_true, ne_eq, Decidable.not_not, Bool.not_eq_true', bne_iff_ne, Bool.or_eq_true, Bool.and_eq_true, Bool.or_eq_false_iff, Bool.and_eq_false_iff] at hc14)
        refine awp_skip ?_
        refine hK13 _ ?_; clear hK13; refine awp_keep [1, 2, 5, 6, 27, 28, 29, 30] ?_; simp only [keepEnv, lkp, zE, reduceCtorEq, Nat.reduceEqDiff, argEnv, Nat.reduceAdd]
        refine awp_seq_k fun K15 hK15 => ?_
        refine awp_block ?_
        refine awp_seq_k fun K16 hK16 => ?_
        refine awp_reg hP hN rfl ?_
        iterate 5 (refine rg_step rfl fun K0 hK0 => ?_; simp only [zE, op1, ev, lkp, avOf, acOf, opIndexAddr, zG, Ty.dflt, Ty.size, opLoad, readAC, isAggK, acs, cellsAt, reduceCtorEq, Nat.reduceEqDiff, Nat.reduceAdd, Nat.reduceLeDiff, Nat.reduceLT, Nat.reduceMul, Nat.reduceSub, Try.el30, Try.td3, Try.td30, Mly.av]; (repeat refine And.intro (by omega) ?_); (first | refine hK0 _ ?_ | refine Or.inl (hK0 _ ?_)); clear hK0 K0; simp only [put, app, setAll, trOf, zE, List.set_cons_zero, List.set_cons_succ, Nat.reduceAdd])
        refine rg_nil ?_
        refine hK16 _ ?_; clear hK16; refine awp_keep [1, 2, 5, 6, 7, 8, 27, 28, 29, 30] ?_; simp only [keepEnv, lkp, zE, reduceCtorEq, Nat.reduceEqDiff, argEnv, Nat.reduceAdd]
        have hx := hR.at_ (i := k) (by omega); have hnl := numF_len m.nx.length m.reach k
        refine awp_reg hP hN rfl ?_
        iterate 5 (refine rg_step rfl fun K0 hK0 => ?_; simp only [zE, op1, ev, lkp, avOf, acOf, opIndexAddr, zG, Ty.dflt, Ty.size, opStore, cellsAV, writeAC, datOf, acs, reduceCtorEq, Nat.reduceEqDiff, Nat.reduceAdd, Nat.reduceLeDiff, Nat.reduceLT, Nat.reduceMul, Nat.reduceSub, Try.el30, Try.td3, Try.td30, Mly.av]; (repeat refine And.intro (by omega) ?_); (first | refine hK0 _ ?_ | refine Or.inl (hK0 _ ?_)); clear hK0 K0; simp only [put, app, setAll, trOf, zE, List.set_cons_zero, List.set_cons_succ, Nat.reduceAdd])
        refine rg_nil ?_
        refine hK15 _ ?_; clear hK15; refine awp_keep [1, 2, 5, 6, 7, 8, 27, 28, 29, 30] ?_; simp only [keepEnv, lkp, zE, reduceCtorEq, Nat.reduceEqDiff, argEnv, Nat.reduceAdd]
        refine awp_reg hP hN rfl ?_
        iterate 2 (refine rg_step rfl fun K0 hK0 => ?_; simp only [zE, op1, ev, lkp, avOf, acOf, opBin, arith, inK_i64, reduceCtorEq, Nat.reduceEqDiff, Nat.reduceAdd, Nat.reduceLeDiff, Nat.reduceLT, Nat.reduceMul, Nat.reduceSub, Try.td3, Mly.av]; (repeat refine And.intro (by omega) ?_); (first | refine hK0 _ ?_ | refine Or.inl (hK0 _ ?_)); clear hK0 K0; simp only [put, app, setAll, trOf, zE, List.set_cons_zero, List.set_cons_succ, Nat.reduceAdd])
        refine rg_nil ?_
        refine ⟨_, _, ?_, sub_keep [1, 2, 5, 6, 27, 28, 29], k + 1, by omega, rfl, rfl⟩
        · omega
      · (try simp only [decide_eq_true_eq, decide_eq_false_iff_not, Bool.not_true, Bool.not_false, Bool.not_eq_true, Bool.not_eq_false, Bool.not_eq_eq_eq_not, Int.not_lt, Int.not_le, reduceCtorEq, Bool.true_eq_false, Bool.false_eq_true, ne_eq, Decidable.not_not, Bool.not_eq_true', bne_iff_ne, Bool.or_eq_true, Bool.and_eq_true, Bool.or_eq_false_iff, Bool.and_eq_false_iff] at hc14)
        refine awp_exit ?_
        refine hK9 _ ?_; clear hK9; refine awp_keep [1, 2, 5, 6, 27, 28, 29, 30] ?_; simp only [keepEnv, lkp, zE, reduceCtorEq, Nat.reduceEqDiff, argEnv, Nat.reduceAdd]
        refine awp_seq_k fun K17 hK17 => ?_
        refine awp_reg hP hN rfl ?_
        iterate 5 (refine rg_step rfl fun K0 hK0 => ?_; simp only [zE, op1, ev, lkp, avOf, acOf, opFieldAddr, opLoad, readAC, isAggK, acs, Ty.dflt, zG, cellsAt, opBuild, fillAC, writeAC, cellsAV, opAlloc, opStore, datOf, Ty.size, reduceCtorEq, Nat.reduceEqDiff, Nat.reduceAdd, Nat.reduceLeDiff, Nat.reduceLT, Nat.reduceMul, Nat.reduceSub, Try.st24, Try.td24, Try.td3, Mly.av]; (repeat refine And.intro (by omega) ?_); (first | refine hK0 _ ?_ | refine Or.inl (hK0 _ ?_)); clear hK0 K0; simp only [put, app, setAll, trOf, zE, List.set_cons_zero, List.set_cons_succ, Nat.reduceAdd])
        refine rg_nil ?_
        refine hK17 _ ?_; clear hK17; refine awp_keep [1, 2, 5, 6, 9, 27, 28, 29, 30] ?_; simp only [keepEnv, lkp, zE, reduceCtorEq, Nat.reduceEqDiff, argEnv, Nat.reduceAdd]
        refine awp_seq_k fun K18 hK18 => ?_
        refine awp_seq_k fun K19 hK19 => ?_
        refine awp_reg hP hN rfl ?_
        iterate 3 (refine rg_step rfl fun K0 hK0 => ?_; simp only [zE, op1, ev, lkp, avOf, acOf, opCallAny, opLen, lenAC, lenOk, fpAC, opAppend, srcOf, Ty.size, datOf, dite_true, reduceCtorEq, Nat.reduceEqDiff, Nat.reduceAdd, Nat.reduceLeDiff, Nat.reduceLT, Nat.reduceMul, Nat.reduceSub, Try.el30, Try.td3, Try.td30, Mly.av]; (repeat refine And.intro (by omega) ?_); (first | refine hK0 _ ?_ | refine Or.inl (hK0 _ ?_)); clear hK0 K0; simp only [put, app, setAll, trOf, zE, List.set_cons_zero, List.set_cons_succ, Nat.reduceAdd])
        refine rg_nil ?_
        refine hK19 _ ?_; clear hK19; refine awp_keep [1, 2, 5, 6, 9, 27, 28, 29, 30, 42, 43, 44] ?_; simp only [keepEnv, lkp, zE, reduceCtorEq, Nat.reduceEqDiff, argEnv, Nat.reduceAdd]
        refine awp_block ?_
        refine awp_own_cell 3 2 (.list (.int .i64)) 30 (by decide) rfl rfl ?_; simp only [List.set_cons_zero, List.set_cons_succ, List.length_cons, List.length_nil, List.cons_append, List.nil_append, Nat.zero_add, Nat.reduceAdd]
        refine awp_own_cell 3 3 (.list (.int .i64)) 30 (by decide) rfl rfl ?_; simp only [List.set_cons_zero, List.set_cons_succ, List.length_cons, List.length_nil, List.cons_append, List.nil_append, Nat.zero_add, Nat.reduceAdd]
        have hkl : k = m.reach.length := by omega
        refine awp_loop (fun n20 s20 => ∃ (k : Nat) (v : Nat), (k ≤ m.reach.length) ∧ n20 = m.reach.length - k ∧ s20 = { env := [(1, .one (.ptr 0 0 0 0)), (2, .one (.ptr 1 0 0 0)), (6, .one (.row 2 0)), (9, .one (.ptr 3 0 0 0)), (42, .one (.list (.int .i64) m.reach)), (43, .one (.int .i64 (m.reach.length : Int))), (44, .one (.int .i64 (k : Int)))], L := [.vars 24 [.int .i64 m.inp, .int .i64 m.st, .list (.list (.int .i64)) m.nx, .list (.list (.int .i64)) m.ot], .vars 24 [.int .i64 0, .int .i64 0, .nils, .nils], .row (.int .i64) 3 0 m.num, .vars 24 [.int .i64 m.inp, .int .i64 0, .row 4 v, .row 5 v], .row (.list (.int .i64)) 30 v (m.tnx.take k), .row (.list (.int .i64)) 30 v (m.tot.take k)] }) ?_ ?_
        · refine ⟨_, _, sub_keep [1, 2, 6, 9, 42, 43, 44], 0, 0, Nat.zero_le _, rfl, ?_⟩
          rw [hkl]; rfl
        · rintro n20 s20 ⟨k, v, hk2, rfl, rfl⟩
          refine awp_seq_k fun K21 hK21 => ?_
          refine awp_reg hP hN rfl ?_
          (refine rg_step rfl fun K0 hK0 => ?_; simp only [zE, op1, ev, lkp, avOf, acOf, opBin, arith, inK_i64, reduceCtorEq, Nat.reduceEqDiff, Nat.reduceAdd, Nat.reduceLeDiff, Nat.reduceLT, Nat.reduceMul, Nat.reduceSub, Try.td3, Mly.av]; (repeat refine And.intro (by omega) ?_); (first | refine hK0 _ ?_ | refine Or.inl (hK0 _ ?_)); clear hK0 K0; simp only [put, app, setAll, trOf, zE, List.set_cons_zero, List.set_cons_succ, Nat.reduceAdd])
          refine rg_nil ?_
          refine hK21 _ ?_; clear hK21; refine awp_keep [1, 2, 6, 9, 42, 43, 44, 45] ?_; simp only [keepEnv, lkp, zE, reduceCtorEq, Nat.reduceEqDiff, argEnv, Nat.reduceAdd]
          refine awp_seq_k fun K22 hK22 => ?_
          refine awp_cond (by simp only [ev, keepEnv, lkp, zE, reduceCtorEq, Nat.reduceEqDiff, argEnv, Nat.reduceAdd]; exact rfl) (fun hc23 => ?_) (fun hc23 => ?_)
          · (try simp only [decide_eq_true_eq, decide_eq_false_iff_not, Bool.not_true, Bool.not_false, Bool.not_eq_true, Bool.not_eq_false, Bool.not_eq_eq_eq_not, Int.not_lt, Int.not_le, reduceCtorEq, Bool.true_eq_false, Bool.false_eq_true, ne_eq, Decidable.not_not, Bool.not_eq_true', bne_iff_ne, Bool.or_eq_true, Bool.and_eq_true, Bool.or_eq_false_iff, Bool.and_eq_false_iff] at hc23)
            refine awp_skip ?_
            refine hK22 _ ?_; clear hK22; refine awp_keep [1, 2, 6, 9, 42, 43, 44, 45] ?_; simp only [keepEnv, lkp, zE, reduceCtorEq, Nat.reduceEqDiff, argEnv, Nat.reduceAdd]
            refine awp_seq_k fun K24 hK24 => ?_
            refine awp_block ?_
            refine awp_seq_k fun K25 hK25 => ?_
            have hx := hR.at_ (i := k) (by omega)
            refine awp_reg hP hN rfl ?_
            iterate 3 (refine rg_step rfl fun K0 hK0 => ?_; simp only [zE, op1, ev, lkp, avOf, acOf, opIndexAddr, zG, Ty.dflt, Ty.size, opLoad, readAC, isAggK, acs, cellsAt, reduceCtorEq, Nat.reduceEqDiff, Nat.reduceAdd, Nat.reduceLeDiff, Nat.reduceLT, Nat.reduceMul, Nat.reduceSub, Try.el30, Try.td3, Try.td30, Mly.av]; (repeat refine And.intro (by omega) ?_); (first | refine hK0 _ ?_ | refine Or.inl (hK0 _ ?_)); clear hK0 K0; simp only [put, app, setAll, trOf, zE, List.set_cons_zero, List.set_cons_succ, Nat.reduceAdd])
            refine rg_nil ?_
            refine hK25 _ ?_; clear hK25; refine awp_keep [1, 2, 6, 9, 11, 42, 43, 44, 45] ?_; simp only [keepEnv, lkp, zE, reduceCtorEq, Nat.reduceEqDiff, argEnv, Nat.reduceAdd]
            refine awp_seq_k fun K26 hK26 => ?_
            have hrow : ((m.row (m.reach.getD k 0)).length : Int) = m.inp := hm.rl (m.reach.getD k 0).toNat (by omega); have hrot := hm.ql (m.reach.getD k 0).toNat (by omega)
            refine awp_reg hP hN rfl ?_
            iterate 4 (refine rg_step rfl fun K0 hK0 => ?_; simp only [zE, op1, ev, lkp, avOf, acOf, opFieldAddr, opLoad, readAC, isAggK, acs, Ty.dflt, zG, cellsAt, opMakeSlice, datOf, Ty.size, reduceCtorEq, Nat.reduceEqDiff, Nat.reduceAdd, Nat.reduceLeDiff, Nat.reduceLT, Nat.reduceMul, Nat.reduceSub, Try.el30, Try.st24, Try.td24, Try.td3, Try.td30, Mly.av]; (repeat refine And.intro (by omega) ?_); (first | refine hK0 _ ?_ | refine Or.inl (hK0 _ ?_)); clear hK0 K0; simp only [put, app, setAll, trOf, zE, List.set_cons_zero, List.set_cons_succ, Nat.reduceAdd])
            refine rg_nil ?_
            refine hK26 _ ?_; clear hK26; refine awp_keep [1, 2, 6, 9, 11, 12, 42, 43, 44, 45] ?_; simp only [keepEnv, lkp, zE, reduceCtorEq, Nat.reduceEqDiff, argEnv, Nat.reduceAdd]
            refine awp_seq_k fun K27 hK27 => ?_
            refine awp_seq_k fun K28 hK28 => ?_
            refine awp_reg hP hN rfl ?_
            iterate 7 (refine rg_step rfl fun K0 hK0 => ?_; simp only [zE, op1, ev, lkp, avOf, acOf, opFieldAddr, opLoad, readAC, isAggK, acs, Ty.dflt, zG, cellsAt, opIndexAddr, Ty.size, opCallAny, opLen, lenAC, lenOk, fpAC, opAppend, srcOf, datOf, dite_true, reduceCtorEq, Nat.reduceEqDiff, Nat.reduceAdd, Nat.reduceLeDiff, Nat.reduceLT, Nat.reduceMul, Nat.reduceSub, Try.el22, Try.el30, Try.st24, Try.td2, Try.td22, Try.td24, Try.td3, Try.td30, Mly.av]; (repeat refine And.intro (by omega) ?_); (first | refine hK0 _ ?_ | refine Or.inl (hK0 _ ?_)); clear hK0 K0; simp only [put, app, setAll, trOf, zE, List.set_cons_zero, List.set_cons_succ, Nat.reduceAdd])
            refine rg_nil ?_
            refine hK28 _ ?_; clear hK28; refine awp_keep [1, 2, 6, 9, 11, 12, 42, 43, 44, 45, 55, 56, 57] ?_; simp only [keepEnv, lkp, zE, reduceCtorEq, Nat.reduceEqDiff, argEnv, Nat.reduceAdd]
            refine awp_block ?_
            refine awp_loop (fun n29 s29 => ∃ (j : Nat), (j ≤ (m.row (m.reach.getD k 0)).length) ∧ n29 = (m.row (m.reach.getD k 0)).length - j ∧ s29 = { env := [(1, .one (.ptr 0 0 0 0)), (2, .one (.ptr 1 0 0 0)), (6, .one (.row 2 0)), (9, .one (.ptr 3 0 0 0)), (11, .one (.int .i64 (m.reach.getD k 0))), (12, .one (.row 6 0)), (42, .one (.list (.int .i64) m.reach)), (43, .one (.int .i64 (m.reach.length : Int))), (44, .one (.int .i64 (k : Int))), (55, .one (.list (.int .i64) (m.row (m.reach.getD k 0)))), (56, .one (.int .i64 ((m.row (m.reach.getD k 0)).length : Int))), (57, .one (.int .i64 (j : Int)))], L := [.vars 24 [.int .i64 m.inp, .int .i64 m.st, .list (.list (.int .i64)) m.nx, .list (.list (.int .i64)) m.ot], .vars 24 [.int .i64 0, .int .i64 0, .nils, .nils], .row (.int .i64) 3 0 m.num, .vars 24 [.int .i64 m.inp, .int .i64 0, .row 4 v, .row 5 v], .row (.list (.int .i64)) 30 v (m.tnx.take k), .row (.list (.int .i64)) 30 v (m.tot.take k), .row (.int .i64) 3 0 (nextF m.num (m.row (m.reach.getD k 0)) j)] }) ?_ ?_
            · refine ⟨_, _, sub_keep [1, 2, 6, 9, 11, 12, 42, 43, 44, 55, 56, 57], 0, Nat.zero_le _, rfl, ?_⟩
              rw [nextF_zero, show (m.row (m.reach.getD k 0)).length = m.inp.toNat by omega]; rfl
            · rintro n29 s29 ⟨j, hj, rfl, rfl⟩
              refine awp_seq_k fun K30 hK30 => ?_
              refine awp_reg hP hN rfl ?_
              (refine rg_step rfl fun K0 hK0 => ?_; simp only [zE, op1, ev, lkp, avOf, acOf, opBin, arith, inK_i64, reduceCtorEq, Nat.reduceEqDiff, Nat.reduceAdd, Nat.reduceLeDiff, Nat.reduceLT, Nat.reduceMul, Nat.reduceSub, Try.td3, Mly.av]; (repeat refine And.intro (by omega) ?_); (first | refine hK0 _ ?_ | refine Or.inl (hK0 _ ?_)); clear hK0 K0; simp only [put, app, setAll, trOf, zE, List.set_cons_zero, List.set_cons_succ, Nat.reduceAdd])
              refine rg_nil ?_
              refine hK30 _ ?_; clear hK30; refine awp_keep [1, 2, 6, 9, 11, 12, 42, 43, 44, 55, 56, 57, 58] ?_; simp only [keepEnv, lkp, zE, reduceCtorEq, Nat.reduceEqDiff, argEnv, Nat.reduceAdd]
              refine awp_seq_k fun K31 hK31 => ?_
              refine awp_cond (by simp only [ev, keepEnv, lkp, zE, reduceCtorEq, Nat.reduceEqDiff, argEnv, Nat.reduceAdd]; exact rfl) (fun hc32 => ?_) (fun hc32 => ?_)
              · (try simp only [decide_eq_true_eq, decide_eq_false_iff_not, Bool.not_true, Bool.not_false, Bool.not_eq_true, Bool.not_eq_false, Bool.not_eq_eq_eq_not, Int.not_lt, Int.not_le, reduceCtorEq, Bool.true_eq_false, Bool.false_eq_true, ne_eq, Decidable.not_not, Bool.not_eq_true', bne_iff_ne, Bool.or_eq_true, Bool.and_eq_true, Bool.or_eq_false_iff, Bool.and_eq_false_iff] at hc32)
                refine awp_skip ?_
                refine hK31 _ ?_; clear hK31; refine awp_keep [1, 2, 6, 9, 11, 12, 42, 43, 44, 55, 56, 57, 58] ?_; simp only [keepEnv, lkp, zE, reduceCtorEq, Nat.reduceEqDiff, argEnv, Nat.reduceAdd]
                refine awp_seq_k fun K33 hK33 => ?_
                refine awp_block ?_
                refine awp_seq_k fun K34 hK34 => ?_
                refine awp_reg hP hN rfl ?_
                iterate 5 (refine rg_step rfl fun K0 hK0 => ?_; simp only [zE, op1, ev, lkp, avOf, acOf, opIndexAddr, zG, Ty.dflt, Ty.size, opLoad, readAC, isAggK, acs, cellsAt, reduceCtorEq, Nat.reduceEqDiff, Nat.reduceAdd, Nat.reduceLeDiff, Nat.reduceLT, Nat.reduceMul, Nat.reduceSub, Try.el30, Try.td3, Try.td30, Mly.av]; (repeat refine And.intro (by omega) ?_); (first | refine hK0 _ ?_ | refine Or.inl (hK0 _ ?_)); clear hK0 K0; simp only [put, app, setAll, trOf, zE, List.set_cons_zero, List.set_cons_succ, Nat.reduceAdd])
                refine rg_nil ?_
                refine hK34 _ ?_; clear hK34; refine awp_keep [1, 2, 6, 9, 11, 12, 13, 14, 42, 43, 44, 55, 56, 57, 58] ?_; simp only [keepEnv, lkp, zE, reduceCtorEq, Nat.reduceEqDiff, argEnv, Nat.reduceAdd]
                have ht := row_rng hm hx.1 hx.2 ((m.row (m.reach.getD k 0)).getD j 0) (getD_mem (by omega)); have hnl : m.num.length = m.nx.length := numF_len _ _ _; have hnf := nextF_len m.num (m.row (m.reach.getD k 0)) hj
                refine awp_reg hP hN rfl ?_
                iterate 8 (refine rg_step rfl fun K0 hK0 => ?_; simp only [zE, op1, ev, lkp, avOf, acOf, opIndexAddr, zG, Ty.dflt, Ty.size, opLoad, readAC, isAggK, acs, cellsAt, opStore, cellsAV, writeAC, datOf, reduceCtorEq, Nat.reduceEqDiff, Nat.reduceAdd, Nat.reduceLeDiff, Nat.reduceLT, Nat.reduceMul, Nat.reduceSub, Try.el30, Try.td3, Try.td30, Mly.av]; (repeat refine And.intro (by omega) ?_); (first | refine hK0 _ ?_ | refine Or.inl (hK0 _ ?_)); clear hK0 K0; simp only [put, app, setAll, trOf, zE, List.set_cons_zero, List.set_cons_succ, Nat.reduceAdd])
                refine rg_nil ?_
                refine hK33 _ ?_; clear hK33; refine awp_keep [1, 2, 6, 9, 11, 12, 13, 14, 42, 43, 44, 55, 56, 57, 58] ?_; simp only [keepEnv, lkp, zE, reduceCtorEq, Nat.reduceEqDiff, argEnv, Nat.reduceAdd]
                refine awp_reg hP hN rfl ?_
                iterate 2 (refine rg_step rfl fun K0 hK0 => ?_; simp only [zE, op1, ev, lkp, avOf, acOf, opBin, arith, inK_i64, reduceCtorEq, Nat.reduceEqDiff, Nat.reduceAdd, Nat.reduceLeDiff, Nat.reduceLT, Nat.reduceMul, Nat.reduceSub, Try.td3, Mly.av]; (repeat refine And.intro (by omega) ?_); (first | refine hK0 _ ?_ | refine Or.inl (hK0 _ ?_)); clear hK0 K0; simp only [put, app, setAll, trOf, zE, List.set_cons_zero, List.set_cons_succ, Nat.reduceAdd])
                refine rg_nil ?_
                refine ⟨_, _, ?_, sub_keep [1, 2, 6, 9, 11, 12, 42, 43, 44, 55, 56, 57], j + 1, by omega, rfl, ?_⟩
                · omega
                · rw [← nextF_set _ _ (by omega)]; rfl
              · (try simp only [decide_eq_true_eq, decide_eq_false_iff_not, Bool.not_true, Bool.not_false, Bool.not_eq_true, Bool.not_eq_false, Bool.not_eq_eq_eq_not, Int.not_lt, Int.not_le, reduceCtorEq, Bool.true_eq_false, Bool.false_eq_true, ne_eq, Decidable.not_not, Bool.not_eq_true', bne_iff_ne, Bool.or_eq_true, Bool.and_eq_true, Bool.or_eq_false_iff, Bool.and_eq_false_iff] at hc32)
                refine awp_exit ?_
                refine hK27 _ ?_; clear hK27; refine awp_keep [1, 2, 6, 9, 11, 12, 42, 43, 44, 55, 56, 57, 58] ?_; simp only [keepEnv, lkp, zE, reduceCtorEq, Nat.reduceEqDiff, argEnv, Nat.reduceAdd]
                refine awp_seq_k fun K35 hK35 => ?_
                refine awp_freeze 6 rfl ?_; simp only [List.map_cons, List.map_nil, List.set_cons_zero, List.set_cons_succ, Nat.reduceEqDiff, and_self, and_true, true_and, and_false, false_and, if_true, if_false, eq_self, reduceCtorEq, Nat.one_ne_zero, Nat.zero_ne_one]
                have htl : (m.tnx.take k).length = k := by simp [Mly.tnx]; omega
                have hol2 : (m.tot.take k).length = k := by simp [Mly.tot]; omega
                refine awp_reg hP hN rfl ?_
                iterate 7 (refine rg_step rfl fun K0 hK0 => ?_; simp only [zE, op1, ev, lkp, avOf, acOf, opFieldAddr, opLoad, readAC, isAggK, acs, Ty.dflt, zG, cellsAt, opBuildSlice, fillAC, chunk, rep, datOf, writeAC, cellsAV, Ty.size, opCallAny, opLen, lenAC, lenOk, fpAC, opAppend, srcOf, dite_true, opStore, reduceCtorEq, Nat.reduceEqDiff, Nat.reduceAdd, Nat.reduceLeDiff, Nat.reduceLT, Nat.reduceMul, Nat.reduceSub, Try.el22, Try.el30, Try.st24, Try.td2, Try.td22, Try.td24, Try.td30, Mly.av]; (repeat refine And.intro (by omega) ?_); (first | refine hK0 _ ?_ | refine Or.inl (hK0 _ ?_)); clear hK0 K0; simp only [put, app, setAll, trOf, zE, List.set_cons_zero, List.set_cons_succ, Nat.reduceAdd])
                refine rg_nil ?_
                refine hK35 _ ?_; clear hK35; refine awp_keep [1, 2, 6, 9, 11, 12, 42, 43, 44, 55, 56, 57, 58] ?_; simp only [keepEnv, lkp, zE, reduceCtorEq, Nat.reduceEqDiff, argEnv, Nat.reduceAdd]
                refine awp_drw hP hN Try.mixed rfl ?_
                iterate 7 (refine rg_step rfl fun K0 hK0 => ?_; simp only [zE, op1, ev, lkp, avOf, acOf, opFieldAddr, opLoad, readAC, isAggK, acs, Ty.dflt, zG, cellsAt, opIndexAddr, Ty.size, reduceCtorEq, Nat.reduceEqDiff, Nat.reduceAdd, Nat.reduceLeDiff, Nat.reduceLT, Nat.reduceMul, Nat.reduceSub, Try.el22, Try.el30, Try.st24, Try.td22, Try.td24, Try.td3, Try.td30, Mly.av]; (repeat refine And.intro (by omega) ?_); (first | refine hK0 _ ?_ | refine Or.inl (hK0 _ ?_)); clear hK0 K0; simp only [put, app, setAll, trOf, zE, List.set_cons_zero, List.set_cons_succ, Nat.reduceAdd])
                refine rg_step rfl fun K0 hK0 => ?_
                refine op_call (h := call_of_pure (clone_c (m.ot.getD (m.reach.getD k 0).toNat []) (by omega))) rfl rfl (by first | exact rfl | (simp only [ev, keepEnv, lkp, zE, reduceCtorEq, Nat.reduceEqDiff, argEnv, Nat.reduceAdd]; exact rfl)) (by simp only [zE, zG, op1, ev, lkp, avOf, acOf, cellsAV, acs, capAV, mv1, mvC, Ty.dflt, reduceCtorEq, Nat.reduceEqDiff, Nat.reduceAdd, Nat.reduceLeDiff, Nat.reduceLT, Nat.reduceMul, Nat.reduceSub, Mly.av]) ?_
                refine hK0 _ ?_; clear hK0 K0; simp only [put, app, setAll, trOf, zE, List.set_cons_zero, List.set_cons_succ, Nat.reduceAdd]
                iterate 4 (refine rg_step rfl fun K0 hK0 => ?_; simp only [zE, op1, ev, lkp, avOf, acOf, opBuildSlice, fillAC, chunk, rep, datOf, writeAC, cellsAV, Ty.size, opCallAny, opLen, lenAC, lenOk, fpAC, opAppend, srcOf, dite_true, opFieldAddr, opStore, acs, Ty.dflt, zG, reduceCtorEq, Nat.reduceEqDiff, Nat.reduceAdd, Nat.reduceLeDiff, Nat.reduceLT, Nat.reduceMul, Nat.reduceSub, Try.el22, Try.st24, Try.td22, Try.td24, Try.td3, Mly.av]; (repeat refine And.intro (by omega) ?_); (first | refine hK0 _ ?_ | refine Or.inl (hK0 _ ?_)); clear hK0 K0; simp only [put, app, setAll, trOf, zE, List.set_cons_zero, List.set_cons_succ, Nat.reduceAdd])
                refine rg_nil ?_
                refine ⟨by kernel_rfl, ?_⟩
                refine hK24 _ ?_; clear hK24; refine awp_keep [1, 2, 6, 9, 11, 12, 42, 43, 44, 55, 56, 57, 58] ?_; simp only [keepEnv, lkp, zE, reduceCtorEq, Nat.reduceEqDiff, argEnv, Nat.reduceAdd]
                refine awp_drop (n := 6) (L1 := [_, _, _, _, _, _]) rfl rfl (by rw [hB]; decide) rfl rfl ?_
                refine awp_reg hP hN rfl ?_
                iterate 2 (refine rg_step rfl fun K0 hK0 => ?_; simp only [zE, op1, ev, lkp, avOf, acOf, opBin, arith, inK_i64, reduceCtorEq, Nat.reduceEqDiff, Nat.reduceAdd, Nat.reduceLeDiff, Nat.reduceLT, Nat.reduceMul, Nat.reduceSub, Try.td3, Mly.av]; (repeat refine And.intro (by omega) ?_); (first | refine hK0 _ ?_ | refine Or.inl (hK0 _ ?_)); clear hK0 K0; simp only [put, app, setAll, trOf, zE, List.set_cons_zero, List.set_cons_succ, Nat.reduceAdd])
                refine rg_nil ?_
                have hjr : j = (m.row (m.reach.getD k 0)).length := by omega
                refine ⟨_, _, ?_, sub_keep [1, 2, 6, 9, 42, 43, 44], k + 1, v + 1, by omega, rfl, ?_⟩
                · omega
                · rw [show m.tnx.take (k + 1) = m.tnx.take k ++ [nextF m.num (m.row (m.reach.getD k 0)) j] by rw [hjr, nextF_all]; exact take_map_succ _ 0 (by omega), show m.tot.take (k + 1) = m.tot.take k ++ [m.ot.getD (m.reach.getD k 0).toNat []] from take_map_succ _ 0 (by omega)]; rfl
          · (try simp only [decide_eq_true_eq, decide_eq_false_iff_not, Bool.not_true, Bool.not_false, Bool.not_eq_true, Bool.not_eq_false, Bool.not_eq_eq_eq_not, Int.not_lt, Int.not_le, reduceCtorEq, Bool.true_eq_false, Bool.false_eq_true, ne_eq, Decidable.not_not, Bool.not_eq_true', bne_iff_ne, Bool.or_eq_true, Bool.and_eq_true, Bool.or_eq_false_iff, Bool.and_eq_false_iff] at hc23)
            refine awp_exit ?_
            refine hK18 _ ?_; clear hK18; refine awp_keep [1, 2, 6, 9, 42, 43, 44, 45] ?_; simp only [keepEnv, lkp, zE, reduceCtorEq, Nat.reduceEqDiff, argEnv, Nat.reduceAdd]
            refine awp_seq_k fun K36 hK36 => ?_
            refine awp_reg hP hN rfl ?_
            iterate 3 (refine rg_step rfl fun K0 hK0 => ?_; simp only [zE, op1, ev, lkp, avOf, acOf, opLoad, readAC, isAggK, acs, Ty.dflt, zG, cellsAt, opStore, cellsAV, writeAC, datOf, Ty.size, reduceCtorEq, Nat.reduceEqDiff, Nat.reduceAdd, Nat.reduceLeDiff, Nat.reduceLT, Nat.reduceMul, Nat.reduceSub, Try.st24, Try.td24, Try.td25, Mly.av]; (repeat refine And.intro (by omega) ?_); (first | refine hK0 _ ?_ | refine Or.inl (hK0 _ ?_)); clear hK0 K0; simp only [put, app, setAll, trOf, zE, List.set_cons_zero, List.set_cons_succ, Nat.reduceAdd])
            refine rg_nil ?_
            refine hK36 _ ?_; clear hK36; refine awp_keep [1, 2, 3, 6, 9, 42, 43, 44, 45] ?_; simp only [keepEnv, lkp, zE, reduceCtorEq, Nat.reduceEqDiff, argEnv, Nat.reduceAdd]
            refine awp_ret ?_
            refine ⟨by first | exact .inl rfl | exact .inr rfl, _, rfl, ?_⟩; simp only [fzV, fz1, fzC, List.map_cons, List.map_nil, keepEnv, lkp, zE, reduceCtorEq, Nat.reduceEqDiff, argEnv, Nat.reduceAdd, Mly.av]
            first
            | (rw [trim_bad ‹¬validE m = 0›]
               exact vle_tup ⟨vle1_agg ⟨.refl _, .refl _, cle_nils rfl, cle_nils rfl, trivial⟩, vle1_one (.refl _), trivial⟩)
            | (rw [trim_ok hv, hv]
               have hk3 : k = m.reach.length := by omega
               have e1 : m.tnx.take k = m.tnx := List.take_of_length_le (by simp [Mly.tnx]; omega)
               have e2 : m.tot.take k = m.tot := List.take_of_length_le (by simp [Mly.tot]; omega)
               rw [e1, e2]
               exact VLE.of_eq (by simp [fzC]; rfl))
end Go.Proofs.Ytcbkfkgagcfcoaa
namespace Go.Proofs.Ytcbkfkgagcfcoaa
open Go Go.AV
set_option maxRecDepth 100000 in
theorem awake_c  : PURE Try.prog 10 [] (.one (.bool true)) := by
  refine pure_of_le Try.func10 rfl (by kernel_rfl) (Nat.le_of_ble_eq_true rfl) rfl fun C hP hN hB => ?_
  replace hN : C.N = 78 := hN
  simp only [argEnv, Nat.reduceAdd]
  refine awp_seq_k fun K1 hK1 => ?_
  refine awp_reg hP hN rfl ?_
  (refine rg_step rfl fun K0 hK0 => ?_; simp only [zE, op1, ev, lkp, avOf, acOf, ev, reduceCtorEq, Nat.reduceEqDiff, Nat.reduceAdd, Nat.reduceLeDiff, Nat.reduceLT, Nat.reduceMul, Nat.reduceSub, Try.td4, Mly.av]; (repeat refine And.intro (by omega) ?_); (first | refine hK0 _ ?_ | refine Or.inl (hK0 _ ?_)); clear hK0 K0; simp only [put, app, setAll, trOf, zE, List.set_cons_zero, List.set_cons_succ, Nat.reduceAdd])
  refine rg_nil ?_
  refine hK1 _ ?_; clear hK1; refine awp_keep [0] ?_; simp only [keepEnv, lkp, zE, reduceCtorEq, Nat.reduceEqDiff, argEnv, Nat.reduceAdd]
  refine awp_seq_k fun K2 hK2 => ?_
  refine awp_reg hP hN rfl ?_
  refine rg_step rfl fun K0 hK0 => ?_
  refine op_call (h := call_of_pure gate_c) rfl rfl (by first | exact rfl | (simp only [ev, keepEnv, lkp, zE, reduceCtorEq, Nat.reduceEqDiff, argEnv, Nat.reduceAdd]; exact rfl)) (by simp only [zE, zG, op1, ev, lkp, avOf, acOf, cellsAV, acs, capAV, mv1, mvC, Ty.dflt, reduceCtorEq, Nat.reduceEqDiff, Nat.reduceAdd, Nat.reduceLeDiff, Nat.reduceLT, Nat.reduceMul, Nat.reduceSub, Mly.av]) ?_
  refine hK0 _ ?_; clear hK0 K0; simp only [put, app, setAll, trOf, zE, List.set_cons_zero, List.set_cons_succ, Nat.reduceAdd]
  (refine rg_step rfl fun K0 hK0 => ?_; simp only [zE, op1, ev, lkp, avOf, acOf, opBuildSlice, fillAC, chunk, rep, datOf, writeAC, cellsAV, Ty.size, reduceCtorEq, Nat.reduceEqDiff, Nat.reduceAdd, Nat.reduceLeDiff, Nat.reduceLT, Nat.reduceMul, Nat.reduceSub, Try.el30, Try.td3, Try.td30, Mly.av]; (repeat refine And.intro (by omega) ?_); (first | refine hK0 _ ?_ | refine Or.inl (hK0 _ ?_)); clear hK0 K0; simp only [put, app, setAll, trOf, zE, List.set_cons_zero, List.set_cons_succ, Nat.reduceAdd])
  refine rg_step rfl fun K0 hK0 => ?_
  refine op_call (h := call_of_pure (mrun_c gateM [1, 0, 1])) rfl rfl (by first | exact rfl | (simp only [ev, keepEnv, lkp, zE, reduceCtorEq, Nat.reduceEqDiff, argEnv, Nat.reduceAdd]; exact rfl)) (by simp only [zE, zG, op1, ev, lkp, avOf, acOf, cellsAV, acs, capAV, mv1, mvC, Ty.dflt, reduceCtorEq, Nat.reduceEqDiff, Nat.reduceAdd, Nat.reduceLeDiff, Nat.reduceLT, Nat.reduceMul, Nat.reduceSub, Mly.av]) ?_
  refine hK0 _ ?_; clear hK0 K0; simp only [put, app, setAll, trOf, zE, List.set_cons_zero, List.set_cons_succ, Nat.reduceAdd]
  iterate 5 (refine rg_step rfl fun K0 hK0 => ?_; simp only [zE, op1, ev, lkp, avOf, acOf, opExtract, reduceCtorEq, Nat.reduceEqDiff, Nat.reduceAdd, Nat.reduceLeDiff, Nat.reduceLT, Nat.reduceMul, Nat.reduceSub, Try.el30, Try.td25, Try.td30, Mly.av]; (repeat refine And.intro (by omega) ?_); (first | refine hK0 _ ?_ | refine Or.inl (hK0 _ ?_)); clear hK0 K0; simp only [put, app, setAll, trOf, zE, List.set_cons_zero, List.set_cons_succ, Nat.reduceAdd])
  refine rg_nil ?_
  refine hK2 _ ?_; clear hK2; refine awp_keep [0, 1, 2] ?_; simp only [keepEnv, lkp, zE, reduceCtorEq, Nat.reduceEqDiff, argEnv, Nat.reduceAdd]
  refine awp_seq_k fun K3 hK3 => ?_
  refine awp_reg hP hN rfl ?_
  refine rg_step rfl fun K0 hK0 => ?_
  refine op_call (h := call_of_pure gate_c) rfl rfl (by first | exact rfl | (simp only [ev, keepEnv, lkp, zE, reduceCtorEq, Nat.reduceEqDiff, argEnv, Nat.reduceAdd]; exact rfl)) (by simp only [zE, zG, op1, ev, lkp, avOf, acOf, cellsAV, acs, capAV, mv1, mvC, Ty.dflt, reduceCtorEq, Nat.reduceEqDiff, Nat.reduceAdd, Nat.reduceLeDiff, Nat.reduceLT, Nat.reduceMul, Nat.reduceSub, Mly.av]) ?_
  refine hK0 _ ?_; clear hK0 K0; simp only [put, app, setAll, trOf, zE, List.set_cons_zero, List.set_cons_succ, Nat.reduceAdd]
  (refine rg_step rfl fun K0 hK0 => ?_; simp only [zE, op1, ev, lkp, avOf, acOf, opBuildSlice, fillAC, chunk, rep, datOf, writeAC, cellsAV, Ty.size, reduceCtorEq, Nat.reduceEqDiff, Nat.reduceAdd, Nat.reduceLeDiff, Nat.reduceLT, Nat.reduceMul, Nat.reduceSub, Try.el30, Try.td30, Mly.av]; (repeat refine And.intro (by omega) ?_); (first | refine hK0 _ ?_ | refine Or.inl (hK0 _ ?_)); clear hK0 K0; simp only [put, app, setAll, trOf, zE, List.set_cons_zero, List.set_cons_succ, Nat.reduceAdd])
  refine rg_step rfl fun K0 hK0 => ?_
  refine op_call (h := call_of_pure (from_c gateM 1 [1])) rfl rfl (by first | exact rfl | (simp only [ev, keepEnv, lkp, zE, reduceCtorEq, Nat.reduceEqDiff, argEnv, Nat.reduceAdd]; exact rfl)) (by simp only [zE, zG, op1, ev, lkp, avOf, acOf, cellsAV, acs, capAV, mv1, mvC, Ty.dflt, reduceCtorEq, Nat.reduceEqDiff, Nat.reduceAdd, Nat.reduceLeDiff, Nat.reduceLT, Nat.reduceMul, Nat.reduceSub, Mly.av]) ?_
  refine hK0 _ ?_; clear hK0 K0; simp only [put, app, setAll, trOf, zE, List.set_cons_zero, List.set_cons_succ, Nat.reduceAdd]
  iterate 7 (refine rg_step rfl fun K0 hK0 => ?_; simp only [zE, op1, ev, lkp, avOf, acOf, opExtract, reduceCtorEq, Nat.reduceEqDiff, Nat.reduceAdd, Nat.reduceLeDiff, Nat.reduceLT, Nat.reduceMul, Nat.reduceSub, Try.el30, Try.td2, Try.td25, Try.td3, Try.td30, Mly.av]; (repeat refine And.intro (by omega) ?_); (first | refine hK0 _ ?_ | refine Or.inl (hK0 _ ?_)); clear hK0 K0; simp only [put, app, setAll, trOf, zE, List.set_cons_zero, List.set_cons_succ, Nat.reduceAdd])
  refine rg_nil ?_
  refine hK3 _ ?_; clear hK3; refine awp_keep [0, 1, 2, 3, 4, 5] ?_; simp only [keepEnv, lkp, zE, reduceCtorEq, Nat.reduceEqDiff, argEnv, Nat.reduceAdd]
  refine awp_seq_k fun K4 hK4 => ?_
  refine awp_reg hP hN rfl ?_
  refine rg_step rfl fun K0 hK0 => ?_
  refine op_call (h := call_of_pure gate_c) rfl rfl (by first | exact rfl | (simp only [ev, keepEnv, lkp, zE, reduceCtorEq, Nat.reduceEqDiff, argEnv, Nat.reduceAdd]; exact rfl)) (by simp only [zE, zG, op1, ev, lkp, avOf, acOf, cellsAV, acs, capAV, mv1, mvC, Ty.dflt, reduceCtorEq, Nat.reduceEqDiff, Nat.reduceAdd, Nat.reduceLeDiff, Nat.reduceLT, Nat.reduceMul, Nat.reduceSub, Mly.av]) ?_
  refine hK0 _ ?_; clear hK0 K0; simp only [put, app, setAll, trOf, zE, List.set_cons_zero, List.set_cons_succ, Nat.reduceAdd]
  iterate 2 (refine rg_step rfl fun K0 hK0 => ?_; simp only [zE, op1, ev, lkp, avOf, acOf, opAlloc, opStore, cellsAV, writeAC, datOf, acs, Ty.size, Ty.dflt, zG, reduceCtorEq, Nat.reduceEqDiff, Nat.reduceAdd, Nat.reduceLeDiff, Nat.reduceLT, Nat.reduceMul, Nat.reduceSub, Try.st24, Try.td24, Mly.av]; (repeat refine And.intro (by omega) ?_); (first | refine hK0 _ ?_ | refine Or.inl (hK0 _ ?_)); clear hK0 K0; simp only [put, app, setAll, trOf, zE, List.set_cons_zero, List.set_cons_succ, Nat.reduceAdd])
  refine rg_nil ?_
  refine hK4 _ ?_; clear hK4; refine awp_keep [0, 1, 2, 3, 4, 5, 6] ?_; simp only [keepEnv, lkp, zE, reduceCtorEq, Nat.reduceEqDiff, argEnv, Nat.reduceAdd]
  refine awp_seq_k fun K5 hK5 => ?_
  refine awp_reg hP hN rfl ?_
  iterate 2 (refine rg_step rfl fun K0 hK0 => ?_; simp only [zE, op1, ev, lkp, avOf, acOf, opFieldAddr, opStore, cellsAV, writeAC, datOf, acs, Ty.size, Ty.dflt, zG, reduceCtorEq, Nat.reduceEqDiff, Nat.reduceAdd, Nat.reduceLeDiff, Nat.reduceLT, Nat.reduceMul, Nat.reduceSub, Try.st24, Try.td24, Try.td3, Mly.av]; (repeat refine And.intro (by omega) ?_); (first | refine hK0 _ ?_ | refine Or.inl (hK0 _ ?_)); clear hK0 K0; simp only [put, app, setAll, trOf, zE, List.set_cons_zero, List.set_cons_succ, Nat.reduceAdd])
  refine rg_nil ?_
  refine hK5 _ ?_; clear hK5; refine awp_keep [0, 1, 2, 3, 4, 5, 6] ?_; simp only [keepEnv, lkp, zE, reduceCtorEq, Nat.reduceEqDiff, argEnv, Nat.reduceAdd]
  refine awp_seq_k fun K6 hK6 => ?_
  refine awp_reg hP hN rfl ?_
  (refine rg_step rfl fun K0 hK0 => ?_; simp only [zE, op1, ev, lkp, avOf, acOf, opLoad, readAC, isAggK, acs, Ty.dflt, zG, cellsAt, reduceCtorEq, Nat.reduceEqDiff, Nat.reduceAdd, Nat.reduceLeDiff, Nat.reduceLT, Nat.reduceMul, Nat.reduceSub, Try.st24, Try.td24, Mly.av]; (repeat refine And.intro (by omega) ?_); (first | refine hK0 _ ?_ | refine Or.inl (hK0 _ ?_)); clear hK0 K0; simp only [put, app, setAll, trOf, zE, List.set_cons_zero, List.set_cons_succ, Nat.reduceAdd])
  refine rg_step rfl fun K0 hK0 => ?_
  refine op_call (h := call_of_pure (trim_c (⟨gateM.inp, 1, gateM.nx, gateM.ot⟩ : Mly))) rfl rfl (by first | exact rfl | (simp only [ev, keepEnv, lkp, zE, reduceCtorEq, Nat.reduceEqDiff, argEnv, Nat.reduceAdd]; exact rfl)) (by simp only [zE, zG, op1, ev, lkp, avOf, acOf, cellsAV, acs, capAV, mv1, mvC, Ty.dflt, reduceCtorEq, Nat.reduceEqDiff, Nat.reduceAdd, Nat.reduceLeDiff, Nat.reduceLT, Nat.reduceMul, Nat.reduceSub, Mly.av]) ?_
  refine hK0 _ ?_; clear hK0 K0; simp only [put, app, setAll, trOf, zE, List.set_cons_zero, List.set_cons_succ, Nat.reduceAdd]
  iterate 6 (refine rg_step rfl fun K0 hK0 => ?_; simp only [zE, op1, ev, lkp, avOf, acOf, opExtract, opAlloc, opStore, cellsAV, writeAC, datOf, acs, Ty.size, Ty.dflt, zG, reduceCtorEq, Nat.reduceEqDiff, Nat.reduceAdd, Nat.reduceLeDiff, Nat.reduceLT, Nat.reduceMul, Nat.reduceSub, Try.st24, Try.td24, Try.td25, Mly.av]; (repeat refine And.intro (by omega) ?_); (first | refine hK0 _ ?_ | refine Or.inl (hK0 _ ?_)); clear hK0 K0; simp only [put, app, setAll, trOf, zE, List.set_cons_zero, List.set_cons_succ, Nat.reduceAdd])
  refine rg_nil ?_
  refine hK6 _ ?_; clear hK6; refine awp_keep [0, 1, 2, 3, 4, 5, 6, 7, 8] ?_; simp only [keepEnv, lkp, zE, reduceCtorEq, Nat.reduceEqDiff, argEnv, Nat.reduceAdd]
  refine awp_seq_k fun K7 hK7 => ?_
  refine awp_reg hP hN rfl ?_
  iterate 2 (refine rg_step rfl fun K0 hK0 => ?_; simp only [zE, op1, ev, lkp, avOf, acOf, opBin, arith, inK_i64, reduceCtorEq, Nat.reduceEqDiff, Nat.reduceAdd, Nat.reduceLeDiff, Nat.reduceLT, Nat.reduceMul, Nat.reduceSub, Try.td25, Try.td4, Mly.av]; (repeat refine And.intro (by omega) ?_); (first | refine hK0 _ ?_ | refine Or.inl (hK0 _ ?_)); clear hK0 K0; simp only [put, app, setAll, trOf, zE, List.set_cons_zero, List.set_cons_succ, Nat.reduceAdd])
  (refine rg_step rfl fun K0 hK0 => ?_; simp only [zE, op1, ev, lkp, avOf, acOf, ev, reduceCtorEq, Nat.reduceEqDiff, Nat.reduceAdd, Nat.reduceLeDiff, Nat.reduceLT, Nat.reduceMul, Nat.reduceSub, Try.td4, Mly.av]; (repeat refine And.intro (by omega) ?_); (first | refine hK0 _ ?_ | refine Or.inl (hK0 _ ?_)); clear hK0 K0; simp only [put, app, setAll, trOf, zE, List.set_cons_zero, List.set_cons_succ, Nat.reduceAdd])
  refine' rg_join_n (want := true) 3 rfl (m := 31) (by simp only [keepEnv, lkp, zE, reduceCtorEq, Nat.reduceEqDiff, argEnv, Nat.reduceAdd]; exact rfl) (by kernel_rfl) rfl rfl rfl rfl rfl (fun hg8 => ?a8) ?b8 ?c8
  case a8 =>
    have hq8 := hg8; (try simp only [decide_eq_true_eq, decide_eq_false_iff_not, Bool.not_true, Bool.not_false, Bool.not_eq_true, Bool.not_eq_false, Bool.not_eq_eq_eq_not, Int.not_lt, Int.not_le, reduceCtorEq, Bool.true_eq_false, Bool.false_eq_true, ne_eq, Decidable.not_not, Bool.not_eq_true', bne_iff_ne, Bool.or_eq_true, Bool.and_eq_true, Bool.or_eq_false_iff, Bool.and_eq_false_iff] at hg8); simp only [List.take_succ_cons, List.take_zero, List.cons_append, List.nil_append]
    (refine rg_do rfl fun K0 hK0 => ?_; simp only [zE, op1, ev, lkp, avOf, acOf, ev, reduceCtorEq, Nat.reduceEqDiff, Nat.reduceAdd, Nat.reduceLeDiff, Nat.reduceLT, Nat.reduceMul, Nat.reduceSub, Try.el30, Try.td30, Mly.av]; (repeat refine And.intro (by omega) ?_); (first | refine hK0 _ ?_ | refine Or.inl (hK0 _ ?_)); clear hK0 K0; simp only [put, app, setAll, trOf, zE, List.set_cons_zero, List.set_cons_succ, Nat.reduceAdd])
    (refine rg_do rfl fun K0 hK0 => ?_; simp only [zE, op1, ev, lkp, avOf, acOf, opBuildSlice, fillAC, chunk, rep, datOf, writeAC, cellsAV, Ty.size, reduceCtorEq, Nat.reduceEqDiff, Nat.reduceAdd, Nat.reduceLeDiff, Nat.reduceLT, Nat.reduceMul, Nat.reduceSub, Try.el30, Try.td3, Try.td30, Mly.av]; (repeat refine And.intro (by omega) ?_); (first | refine hK0 _ ?_ | refine Or.inl (hK0 _ ?_)); clear hK0 K0; simp only [put, app, setAll, trOf, zE, List.set_cons_zero, List.set_cons_succ, Nat.reduceAdd])
    refine rg_do rfl fun K0 hK0 => ?_
    refine op_call (h := call_of_pure (ints_c (fromV gateM gateM.st [1, 0, 1]) [0, 1, 2])) rfl rfl (by first | exact rfl | (simp only [ev, keepEnv, lkp, zE, reduceCtorEq, Nat.reduceEqDiff, argEnv, Nat.reduceAdd]; exact rfl)) (by simp only [zE, zG, op1, ev, lkp, avOf, acOf, cellsAV, acs, capAV, mv1, mvC, Ty.dflt, reduceCtorEq, Nat.reduceEqDiff, Nat.reduceAdd, Nat.reduceLeDiff, Nat.reduceLT, Nat.reduceMul, Nat.reduceSub, Mly.av]) ?_
    refine hK0 _ ?_; clear hK0 K0; simp only [put, app, setAll, trOf, zE, List.set_cons_zero, List.set_cons_succ, Nat.reduceAdd]
    (refine rg_step rfl fun K0 hK0 => ?_; simp only [zE, op1, ev, lkp, avOf, acOf, opPick, reduceCtorEq, Nat.reduceEqDiff, Nat.reduceAdd, Nat.reduceLeDiff, Nat.reduceLT, Nat.reduceMul, Nat.reduceSub, Try.td4, Mly.av]; (repeat refine And.intro (by omega) ?_); (first | refine hK0 _ ?_ | refine Or.inl (hK0 _ ?_)); clear hK0 K0; simp only [put, app, setAll, trOf, zE, List.set_cons_zero, List.set_cons_succ, Nat.reduceAdd])
    refine rg_nil ?_
    refine ⟨by simp only [keepEnv, lkp, zE, reduceCtorEq, Nat.reduceEqDiff, argEnv, Nat.reduceAdd]; exact rfl, rfl, ?_, rfl⟩; (repeat refine keep_cons rfl ?_); exact keep_m (by exact rfl) hq8
  case b8 => exact tle_of (by rfl)
  simp only [join_or, join_and]
  (refine rg_step rfl fun K0 hK0 => ?_; simp only [zE, op1, ev, lkp, avOf, acOf, ev, reduceCtorEq, Nat.reduceEqDiff, Nat.reduceAdd, Nat.reduceLeDiff, Nat.reduceLT, Nat.reduceMul, Nat.reduceSub, Try.td4, Mly.av]; (repeat refine And.intro (by omega) ?_); (first | refine hK0 _ ?_ | refine Or.inl (hK0 _ ?_)); clear hK0 K0; simp only [put, app, setAll, trOf, zE, List.set_cons_zero, List.set_cons_succ, Nat.reduceAdd])
  refine' rg_join_n (want := true) 2 rfl (m := 36) (by simp only [keepEnv, lkp, zE, reduceCtorEq, Nat.reduceEqDiff, argEnv, Nat.reduceAdd]; exact rfl) (by kernel_rfl) rfl rfl rfl rfl rfl (fun hg9 => ?a9) ?b9 ?c9
  case a9 =>
    have hq9 := hg9; (try simp only [decide_eq_true_eq, decide_eq_false_iff_not, Bool.not_true, Bool.not_false, Bool.not_eq_true, Bool.not_eq_false, Bool.not_eq_eq_eq_not, Int.not_lt, Int.not_le, reduceCtorEq, Bool.true_eq_false, Bool.false_eq_true, ne_eq, Decidable.not_not, Bool.not_eq_true', bne_iff_ne, Bool.or_eq_true, Bool.and_eq_true, Bool.or_eq_false_iff, Bool.and_eq_false_iff] at hg9); simp only [List.take_succ_cons, List.take_zero, List.cons_append, List.nil_append]
    (refine rg_do rfl fun K0 hK0 => ?_; simp only [zE, op1, ev, lkp, avOf, acOf, ev, reduceCtorEq, Nat.reduceEqDiff, Nat.reduceAdd, Nat.reduceLeDiff, Nat.reduceLT, Nat.reduceMul, Nat.reduceSub, Try.td25, Mly.av]; (repeat refine And.intro (by omega) ?_); (first | refine hK0 _ ?_ | refine Or.inl (hK0 _ ?_)); clear hK0 K0; simp only [put, app, setAll, trOf, zE, List.set_cons_zero, List.set_cons_succ, Nat.reduceAdd])
    (refine rg_do rfl fun K0 hK0 => ?_; simp only [zE, op1, ev, lkp, avOf, acOf, opBin, arith, inK_i64, reduceCtorEq, Nat.reduceEqDiff, Nat.reduceAdd, Nat.reduceLeDiff, Nat.reduceLT, Nat.reduceMul, Nat.reduceSub, Try.td25, Try.td4, Mly.av]; (repeat refine And.intro (by omega) ?_); (first | refine hK0 _ ?_ | refine Or.inl (hK0 _ ?_)); clear hK0 K0; simp only [put, app, setAll, trOf, zE, List.set_cons_zero, List.set_cons_succ, Nat.reduceAdd])
    (refine rg_step rfl fun K0 hK0 => ?_; simp only [zE, op1, ev, lkp, avOf, acOf, opPick, reduceCtorEq, Nat.reduceEqDiff, Nat.reduceAdd, Nat.reduceLeDiff, Nat.reduceLT, Nat.reduceMul, Nat.reduceSub, Try.td4, Mly.av]; (repeat refine And.intro (by omega) ?_); (first | refine hK0 _ ?_ | refine Or.inl (hK0 _ ?_)); clear hK0 K0; simp only [put, app, setAll, trOf, zE, List.set_cons_zero, List.set_cons_succ, Nat.reduceAdd])
    refine rg_nil ?_
    refine ⟨by simp only [keepEnv, lkp, zE, reduceCtorEq, Nat.reduceEqDiff, argEnv, Nat.reduceAdd]; exact rfl, rfl, ?_, rfl⟩; (repeat refine keep_cons rfl ?_); exact keep_m (by exact rfl) hq9
  case b9 => exact tle_of (by rfl)
  simp only [join_or, join_and]
  (refine rg_step rfl fun K0 hK0 => ?_; simp only [zE, op1, ev, lkp, avOf, acOf, ev, reduceCtorEq, Nat.reduceEqDiff, Nat.reduceAdd, Nat.reduceLeDiff, Nat.reduceLT, Nat.reduceMul, Nat.reduceSub, Try.td4, Mly.av]; (repeat refine And.intro (by omega) ?_); (first | refine hK0 _ ?_ | refine Or.inl (hK0 _ ?_)); clear hK0 K0; simp only [put, app, setAll, trOf, zE, List.set_cons_zero, List.set_cons_succ, Nat.reduceAdd])
  refine' rg_join_n (want := true) 3 rfl (m := 40) (by simp only [keepEnv, lkp, zE, reduceCtorEq, Nat.reduceEqDiff, argEnv, Nat.reduceAdd]; exact rfl) (by kernel_rfl) rfl rfl rfl rfl rfl (fun hg10 => ?a10) ?b10 ?c10
  case a10 =>
    have hq10 := hg10; (try simp only [decide_eq_true_eq, decide_eq_false_iff_not, Bool.not_true, Bool.not_false, Bool.not_eq_true, Bool.not_eq_false, Bool.not_eq_eq_eq_not, Int.not_lt, Int.not_le, reduceCtorEq, Bool.true_eq_false, Bool.false_eq_true, ne_eq, Decidable.not_not, Bool.not_eq_true', bne_iff_ne, Bool.or_eq_true, Bool.and_eq_true, Bool.or_eq_false_iff, Bool.and_eq_false_iff] at hg10); simp only [List.take_succ_cons, List.take_zero, List.cons_append, List.nil_append]
    (refine rg_do rfl fun K0 hK0 => ?_; simp only [zE, op1, ev, lkp, avOf, acOf, ev, reduceCtorEq, Nat.reduceEqDiff, Nat.reduceAdd, Nat.reduceLeDiff, Nat.reduceLT, Nat.reduceMul, Nat.reduceSub, Try.el30, Try.td30, Mly.av]; (repeat refine And.intro (by omega) ?_); (first | refine hK0 _ ?_ | refine Or.inl (hK0 _ ?_)); clear hK0 K0; simp only [put, app, setAll, trOf, zE, List.set_cons_zero, List.set_cons_succ, Nat.reduceAdd])
    (refine rg_do rfl fun K0 hK0 => ?_; simp only [zE, op1, ev, lkp, avOf, acOf, opBuildSlice, fillAC, chunk, rep, datOf, writeAC, cellsAV, Ty.size, reduceCtorEq, Nat.reduceEqDiff, Nat.reduceAdd, Nat.reduceLeDiff, Nat.reduceLT, Nat.reduceMul, Nat.reduceSub, Try.el30, Try.td30, Mly.av]; (repeat refine And.intro (by omega) ?_); (first | refine hK0 _ ?_ | refine Or.inl (hK0 _ ?_)); clear hK0 K0; simp only [put, app, setAll, trOf, zE, List.set_cons_zero, List.set_cons_succ, Nat.reduceAdd])
    refine rg_do rfl fun K0 hK0 => ?_
    refine op_call (h := call_of_pure (ints_c (fromV gateM 1 [1]) [2])) rfl rfl (by first | exact rfl | (simp only [ev, keepEnv, lkp, zE, reduceCtorEq, Nat.reduceEqDiff, argEnv, Nat.reduceAdd]; exact rfl)) (by simp only [zE, zG, op1, ev, lkp, avOf, acOf, cellsAV, acs, capAV, mv1, mvC, Ty.dflt, reduceCtorEq, Nat.reduceEqDiff, Nat.reduceAdd, Nat.reduceLeDiff, Nat.reduceLT, Nat.reduceMul, Nat.reduceSub, Mly.av]) ?_
    refine hK0 _ ?_; clear hK0 K0; simp only [put, app, setAll, trOf, zE, List.set_cons_zero, List.set_cons_succ, Nat.reduceAdd]
    (refine rg_step rfl fun K0 hK0 => ?_; simp only [zE, op1, ev, lkp, avOf, acOf, opPick, reduceCtorEq, Nat.reduceEqDiff, Nat.reduceAdd, Nat.reduceLeDiff, Nat.reduceLT, Nat.reduceMul, Nat.reduceSub, Try.td4, Mly.av]; (repeat refine And.intro (by omega) ?_); (first | refine hK0 _ ?_ | refine Or.inl (hK0 _ ?_)); clear hK0 K0; simp only [put, app, setAll, trOf, zE, List.set_cons_zero, List.set_cons_succ, Nat.reduceAdd])
    refine rg_nil ?_
    refine ⟨by simp only [keepEnv, lkp, zE, reduceCtorEq, Nat.reduceEqDiff, argEnv, Nat.reduceAdd]; exact rfl, rfl, ?_, rfl⟩; (repeat refine keep_cons rfl ?_); exact keep_m (by exact rfl) hq10
  case b10 => exact tle_of (by rfl)
  simp only [join_or, join_and]
  (refine rg_step rfl fun K0 hK0 => ?_; simp only [zE, op1, ev, lkp, avOf, acOf, ev, reduceCtorEq, Nat.reduceEqDiff, Nat.reduceAdd, Nat.reduceLeDiff, Nat.reduceLT, Nat.reduceMul, Nat.reduceSub, Try.td4, Mly.av]; (repeat refine And.intro (by omega) ?_); (first | refine hK0 _ ?_ | refine Or.inl (hK0 _ ?_)); clear hK0 K0; simp only [put, app, setAll, trOf, zE, List.set_cons_zero, List.set_cons_succ, Nat.reduceAdd])
  refine' rg_join_n (want := true) 2 rfl (m := 45) (by simp only [keepEnv, lkp, zE, reduceCtorEq, Nat.reduceEqDiff, argEnv, Nat.reduceAdd]; exact rfl) (by kernel_rfl) rfl rfl rfl rfl rfl (fun hg11 => ?a11) ?b11 ?c11
  case a11 =>
    have hq11 := hg11; (try simp only [decide_eq_true_eq, decide_eq_false_iff_not, Bool.not_true, Bool.not_false, Bool.not_eq_true, Bool.not_eq_false, Bool.not_eq_eq_eq_not, Int.not_lt, Int.not_le, reduceCtorEq, Bool.true_eq_false, Bool.false_eq_true, ne_eq, Decidable.not_not, Bool.not_eq_true', bne_iff_ne, Bool.or_eq_true, Bool.and_eq_true, Bool.or_eq_false_iff, Bool.and_eq_false_iff] at hg11); simp only [List.take_succ_cons, List.take_zero, List.cons_append, List.nil_append]
    (refine rg_do rfl fun K0 hK0 => ?_; simp only [zE, op1, ev, lkp, avOf, acOf, ev, reduceCtorEq, Nat.reduceEqDiff, Nat.reduceAdd, Nat.reduceLeDiff, Nat.reduceLT, Nat.reduceMul, Nat.reduceSub, Try.td3, Mly.av]; (repeat refine And.intro (by omega) ?_); (first | refine hK0 _ ?_ | refine Or.inl (hK0 _ ?_)); clear hK0 K0; simp only [put, app, setAll, trOf, zE, List.set_cons_zero, List.set_cons_succ, Nat.reduceAdd])
    (refine rg_do rfl fun K0 hK0 => ?_; simp only [zE, op1, ev, lkp, avOf, acOf, opBin, arith, inK_i64, reduceCtorEq, Nat.reduceEqDiff, Nat.reduceAdd, Nat.reduceLeDiff, Nat.reduceLT, Nat.reduceMul, Nat.reduceSub, Try.td3, Try.td4, Mly.av]; (repeat refine And.intro (by omega) ?_); (first | refine hK0 _ ?_ | refine Or.inl (hK0 _ ?_)); clear hK0 K0; simp only [put, app, setAll, trOf, zE, List.set_cons_zero, List.set_cons_succ, Nat.reduceAdd])
    (refine rg_step rfl fun K0 hK0 => ?_; simp only [zE, op1, ev, lkp, avOf, acOf, opPick, reduceCtorEq, Nat.reduceEqDiff, Nat.reduceAdd, Nat.reduceLeDiff, Nat.reduceLT, Nat.reduceMul, Nat.reduceSub, Try.td4, Mly.av]; (repeat refine And.intro (by omega) ?_); (first | refine hK0 _ ?_ | refine Or.inl (hK0 _ ?_)); clear hK0 K0; simp only [put, app, setAll, trOf, zE, List.set_cons_zero, List.set_cons_succ, Nat.reduceAdd])
    refine rg_nil ?_
    refine ⟨by simp only [keepEnv, lkp, zE, reduceCtorEq, Nat.reduceEqDiff, argEnv, Nat.reduceAdd]; exact rfl, rfl, ?_, rfl⟩; (repeat refine keep_cons rfl ?_); exact keep_m (by exact rfl) hq11
  case b11 => exact tle_of (by rfl)
  simp only [join_or, join_and]
  (refine rg_step rfl fun K0 hK0 => ?_; simp only [zE, op1, ev, lkp, avOf, acOf, ev, reduceCtorEq, Nat.reduceEqDiff, Nat.reduceAdd, Nat.reduceLeDiff, Nat.reduceLT, Nat.reduceMul, Nat.reduceSub, Try.td4, Mly.av]; (repeat refine And.intro (by omega) ?_); (first | refine hK0 _ ?_ | refine Or.inl (hK0 _ ?_)); clear hK0 K0; simp only [put, app, setAll, trOf, zE, List.set_cons_zero, List.set_cons_succ, Nat.reduceAdd])
  refine' rg_join_n (want := true) 2 rfl (m := 49) (by simp only [keepEnv, lkp, zE, reduceCtorEq, Nat.reduceEqDiff, argEnv, Nat.reduceAdd]; exact rfl) (by kernel_rfl) rfl rfl rfl rfl rfl (fun hg12 => ?a12) ?b12 ?c12
  case a12 =>
    have hq12 := hg12; (try simp only [decide_eq_true_eq, decide_eq_false_iff_not, Bool.not_true, Bool.not_false, Bool.not_eq_true, Bool.not_eq_false, Bool.not_eq_eq_eq_not, Int.not_lt, Int.not_le, reduceCtorEq, Bool.true_eq_false, Bool.false_eq_true, ne_eq, Decidable.not_not, Bool.not_eq_true', bne_iff_ne, Bool.or_eq_true, Bool.and_eq_true, Bool.or_eq_false_iff, Bool.and_eq_false_iff] at hg12); simp only [List.take_succ_cons, List.take_zero, List.cons_append, List.nil_append]
    (refine rg_do rfl fun K0 hK0 => ?_; simp only [zE, op1, ev, lkp, avOf, acOf, ev, reduceCtorEq, Nat.reduceEqDiff, Nat.reduceAdd, Nat.reduceLeDiff, Nat.reduceLT, Nat.reduceMul, Nat.reduceSub, Try.td25, Mly.av]; (repeat refine And.intro (by omega) ?_); (first | refine hK0 _ ?_ | refine Or.inl (hK0 _ ?_)); clear hK0 K0; simp only [put, app, setAll, trOf, zE, List.set_cons_zero, List.set_cons_succ, Nat.reduceAdd])
    (refine rg_do rfl fun K0 hK0 => ?_; simp only [zE, op1, ev, lkp, avOf, acOf, opBin, arith, inK_i64, reduceCtorEq, Nat.reduceEqDiff, Nat.reduceAdd, Nat.reduceLeDiff, Nat.reduceLT, Nat.reduceMul, Nat.reduceSub, Try.td25, Try.td4, Mly.av]; (repeat refine And.intro (by omega) ?_); (first | refine hK0 _ ?_ | refine Or.inl (hK0 _ ?_)); clear hK0 K0; simp only [put, app, setAll, trOf, zE, List.set_cons_zero, List.set_cons_succ, Nat.reduceAdd])
    (refine rg_step rfl fun K0 hK0 => ?_; simp only [zE, op1, ev, lkp, avOf, acOf, opPick, reduceCtorEq, Nat.reduceEqDiff, Nat.reduceAdd, Nat.reduceLeDiff, Nat.reduceLT, Nat.reduceMul, Nat.reduceSub, Try.td4, Mly.av]; (repeat refine And.intro (by omega) ?_); (first | refine hK0 _ ?_ | refine Or.inl (hK0 _ ?_)); clear hK0 K0; simp only [put, app, setAll, trOf, zE, List.set_cons_zero, List.set_cons_succ, Nat.reduceAdd])
    refine rg_nil ?_
    refine ⟨by simp only [keepEnv, lkp, zE, reduceCtorEq, Nat.reduceEqDiff, argEnv, Nat.reduceAdd]; exact rfl, rfl, ?_, rfl⟩; (repeat refine keep_cons rfl ?_); exact keep_m (by exact rfl) hq12
  case b12 => exact tle_of (by rfl)
  simp only [join_or, join_and]
  (refine rg_step rfl fun K0 hK0 => ?_; simp only [zE, op1, ev, lkp, avOf, acOf, ev, reduceCtorEq, Nat.reduceEqDiff, Nat.reduceAdd, Nat.reduceLeDiff, Nat.reduceLT, Nat.reduceMul, Nat.reduceSub, Try.td4, Mly.av]; (repeat refine And.intro (by omega) ?_); (first | refine hK0 _ ?_ | refine Or.inl (hK0 _ ?_)); clear hK0 K0; simp only [put, app, setAll, trOf, zE, List.set_cons_zero, List.set_cons_succ, Nat.reduceAdd])
  refine' rg_join_n (want := true) 4 rfl (m := 53) (by simp only [keepEnv, lkp, zE, reduceCtorEq, Nat.reduceEqDiff, argEnv, Nat.reduceAdd]; exact rfl) (by kernel_rfl) rfl rfl rfl rfl rfl (fun hg13 => ?a13) ?b13 ?c13
  case a13 =>
    have hq13 := hg13; (try simp only [decide_eq_true_eq, decide_eq_false_iff_not, Bool.not_true, Bool.not_false, Bool.not_eq_true, Bool.not_eq_false, Bool.not_eq_eq_eq_not, Int.not_lt, Int.not_le, reduceCtorEq, Bool.true_eq_false, Bool.false_eq_true, ne_eq, Decidable.not_not, Bool.not_eq_true', bne_iff_ne, Bool.or_eq_true, Bool.and_eq_true, Bool.or_eq_false_iff, Bool.and_eq_false_iff] at hg13); simp only [List.take_succ_cons, List.take_zero, List.cons_append, List.nil_append]
    (refine rg_do rfl fun K0 hK0 => ?_; simp only [zE, op1, ev, lkp, avOf, acOf, opLoad, readAC, isAggK, acs, Ty.dflt, zG, cellsAt, reduceCtorEq, Nat.reduceEqDiff, Nat.reduceAdd, Nat.reduceLeDiff, Nat.reduceLT, Nat.reduceMul, Nat.reduceSub, Try.st24, Try.td24, Mly.av]; (repeat refine And.intro (by omega) ?_); (first | refine hK0 _ ?_ | refine Or.inl (hK0 _ ?_)); clear hK0 K0; simp only [put, app, setAll, trOf, zE, List.set_cons_zero, List.set_cons_succ, Nat.reduceAdd])
    refine rg_do rfl fun K0 hK0 => ?_
    refine op_call (h := call_of_pure (reach_c (⟨gateM.inp, 1, gateM.nx, gateM.ot⟩ : Mly))) rfl rfl (by first | exact rfl | (simp only [ev, keepEnv, lkp, zE, reduceCtorEq, Nat.reduceEqDiff, argEnv, Nat.reduceAdd]; exact rfl)) (by simp only [zE, zG, op1, ev, lkp, avOf, acOf, cellsAV, acs, capAV, mv1, mvC, Ty.dflt, reduceCtorEq, Nat.reduceEqDiff, Nat.reduceAdd, Nat.reduceLeDiff, Nat.reduceLT, Nat.reduceMul, Nat.reduceSub, Mly.av]) ?_
    refine hK0 _ ?_; clear hK0 K0; simp only [put, app, setAll, trOf, zE, List.set_cons_zero, List.set_cons_succ, Nat.reduceAdd]
    (refine rg_do rfl fun K0 hK0 => ?_; simp only [zE, op1, ev, lkp, avOf, acOf, opBuildSlice, fillAC, chunk, rep, datOf, writeAC, cellsAV, Ty.size, reduceCtorEq, Nat.reduceEqDiff, Nat.reduceAdd, Nat.reduceLeDiff, Nat.reduceLT, Nat.reduceMul, Nat.reduceSub, Try.el30, Try.td2, Try.td30, Mly.av]; (repeat refine And.intro (by omega) ?_); (first | refine hK0 _ ?_ | refine Or.inl (hK0 _ ?_)); clear hK0 K0; simp only [put, app, setAll, trOf, zE, List.set_cons_zero, List.set_cons_succ, Nat.reduceAdd])
    refine rg_do rfl fun K0 hK0 => ?_
    refine op_call (h := call_of_pure (ints_c (⟨gateM.inp, 1, gateM.nx, gateM.ot⟩ : Mly).reach [1, 0])) rfl rfl (by first | exact rfl | (simp only [ev, keepEnv, lkp, zE, reduceCtorEq, Nat.reduceEqDiff, argEnv, Nat.reduceAdd]; exact rfl)) (by simp only [zE, zG, op1, ev, lkp, avOf, acOf, cellsAV, acs, capAV, mv1, mvC, Ty.dflt, reduceCtorEq, Nat.reduceEqDiff, Nat.reduceAdd, Nat.reduceLeDiff, Nat.reduceLT, Nat.reduceMul, Nat.reduceSub, Mly.av]) ?_
    refine hK0 _ ?_; clear hK0 K0; simp only [put, app, setAll, trOf, zE, List.set_cons_zero, List.set_cons_succ, Nat.reduceAdd]
    (refine rg_step rfl fun K0 hK0 => ?_; simp only [zE, op1, ev, lkp, avOf, acOf, opPick, reduceCtorEq, Nat.reduceEqDiff, Nat.reduceAdd, Nat.reduceLeDiff, Nat.reduceLT, Nat.reduceMul, Nat.reduceSub, Try.td4, Mly.av]; (repeat refine And.intro (by omega) ?_); (first | refine hK0 _ ?_ | refine Or.inl (hK0 _ ?_)); clear hK0 K0; simp only [put, app, setAll, trOf, zE, List.set_cons_zero, List.set_cons_succ, Nat.reduceAdd])
    refine rg_nil ?_
    refine ⟨by simp only [keepEnv, lkp, zE, reduceCtorEq, Nat.reduceEqDiff, argEnv, Nat.reduceAdd]; exact rfl, rfl, ?_, rfl⟩; (repeat refine keep_cons rfl ?_); exact keep_m (by exact rfl) hq13
  case b13 => exact tle_of (by rfl)
  simp only [join_or, join_and]
  (refine rg_step rfl fun K0 hK0 => ?_; simp only [zE, op1, ev, lkp, avOf, acOf, ev, reduceCtorEq, Nat.reduceEqDiff, Nat.reduceAdd, Nat.reduceLeDiff, Nat.reduceLT, Nat.reduceMul, Nat.reduceSub, Try.td4, Mly.av]; (repeat refine And.intro (by omega) ?_); (first | refine hK0 _ ?_ | refine Or.inl (hK0 _ ?_)); clear hK0 K0; simp only [put, app, setAll, trOf, zE, List.set_cons_zero, List.set_cons_succ, Nat.reduceAdd])
  refine' rg_join_n (want := true) 4 rfl (m := 59) (by simp only [keepEnv, lkp, zE, reduceCtorEq, Nat.reduceEqDiff, argEnv, Nat.reduceAdd]; exact rfl) (by kernel_rfl) rfl rfl rfl rfl rfl (fun hg14 => ?a14) ?b14 ?c14
  case a14 =>
    have hq14 := hg14; (try simp only [decide_eq_true_eq, decide_eq_false_iff_not, Bool.not_true, Bool.not_false, Bool.not_eq_true, Bool.not_eq_false, Bool.not_eq_eq_eq_not, Int.not_lt, Int.not_le, reduceCtorEq, Bool.true_eq_false, Bool.false_eq_true, ne_eq, Decidable.not_not, Bool.not_eq_true', bne_iff_ne, Bool.or_eq_true, Bool.and_eq_true, Bool.or_eq_false_iff, Bool.and_eq_false_iff] at hg14); simp only [List.take_succ_cons, List.take_zero, List.cons_append, List.nil_append]
    (refine rg_do rfl fun K0 hK0 => ?_; simp only [zE, op1, ev, lkp, avOf, acOf, opFieldAddr, reduceCtorEq, Nat.reduceEqDiff, Nat.reduceAdd, Nat.reduceLeDiff, Nat.reduceLT, Nat.reduceMul, Nat.reduceSub, Try.st24, Try.td24, Try.td3, Mly.av]; (repeat refine And.intro (by omega) ?_); (first | refine hK0 _ ?_ | refine Or.inl (hK0 _ ?_)); clear hK0 K0; simp only [put, app, setAll, trOf, zE, List.set_cons_zero, List.set_cons_succ, Nat.reduceAdd])
    (refine rg_do rfl fun K0 hK0 => ?_; simp only [zE, op1, ev, lkp, avOf, acOf, opLoad, readAC, isAggK, acs, Ty.dflt, zG, cellsAt, reduceCtorEq, Nat.reduceEqDiff, Nat.reduceAdd, Nat.reduceLeDiff, Nat.reduceLT, Nat.reduceMul, Nat.reduceSub, Try.el22, Try.td22, Mly.av]; (repeat refine And.intro (by omega) ?_); (first | refine hK0 _ ?_ | refine Or.inl (hK0 _ ?_)); clear hK0 K0; simp only [put, app, setAll, trOf, zE, List.set_cons_zero, List.set_cons_succ, Nat.reduceAdd])
    (refine rg_do rfl fun K0 hK0 => ?_; simp only [zE, op1, ev, lkp, avOf, acOf, opCallAny, opLen, lenAC, lenOk, fpAC, opAppend, srcOf, Ty.size, datOf, dite_true, reduceCtorEq, Nat.reduceEqDiff, Nat.reduceAdd, Nat.reduceLeDiff, Nat.reduceLT, Nat.reduceMul, Nat.reduceSub, Try.el22, Try.td22, Try.td3, Mly.av]; (repeat refine And.intro (by omega) ?_); (first | refine hK0 _ ?_ | refine Or.inl (hK0 _ ?_)); clear hK0 K0; simp only [put, app, setAll, trOf, zE, List.set_cons_zero, List.set_cons_succ, Nat.reduceAdd])
    (refine rg_do rfl fun K0 hK0 => ?_; simp only [zE, op1, ev, lkp, avOf, acOf, opBin, arith, inK_i64, reduceCtorEq, Nat.reduceEqDiff, Nat.reduceAdd, Nat.reduceLeDiff, Nat.reduceLT, Nat.reduceMul, Nat.reduceSub, Try.td3, Try.td4, Mly.av]; (repeat refine And.intro (by omega) ?_); (first | refine hK0 _ ?_ | refine Or.inl (hK0 _ ?_)); clear hK0 K0; simp only [put, app, setAll, trOf, zE, List.set_cons_zero, List.set_cons_succ, Nat.reduceAdd])
    (refine rg_step rfl fun K0 hK0 => ?_; simp only [zE, op1, ev, lkp, avOf, acOf, opPick, reduceCtorEq, Nat.reduceEqDiff, Nat.reduceAdd, Nat.reduceLeDiff, Nat.reduceLT, Nat.reduceMul, Nat.reduceSub, Try.td4, Mly.av]; (repeat refine And.intro (by omega) ?_); (first | refine hK0 _ ?_ | refine Or.inl (hK0 _ ?_)); clear hK0 K0; simp only [put, app, setAll, trOf, zE, List.set_cons_zero, List.set_cons_succ, Nat.reduceAdd])
    refine rg_nil ?_
    refine ⟨by simp only [keepEnv, lkp, zE, reduceCtorEq, Nat.reduceEqDiff, argEnv, Nat.reduceAdd]; exact rfl, rfl, ?_, rfl⟩; (repeat refine keep_cons rfl ?_); exact keep_m (by exact rfl) hq14
  case b14 => exact tle_of (by rfl)
  simp only [join_or, join_and]
  (refine rg_step rfl fun K0 hK0 => ?_; simp only [zE, op1, ev, lkp, avOf, acOf, ev, reduceCtorEq, Nat.reduceEqDiff, Nat.reduceAdd, Nat.reduceLeDiff, Nat.reduceLT, Nat.reduceMul, Nat.reduceSub, Try.td4, Mly.av]; (repeat refine And.intro (by omega) ?_); (first | refine hK0 _ ?_ | refine Or.inl (hK0 _ ?_)); clear hK0 K0; simp only [put, app, setAll, trOf, zE, List.set_cons_zero, List.set_cons_succ, Nat.reduceAdd])
  refine' rg_join_n (want := true) 6 rfl (m := 65) (by simp only [keepEnv, lkp, zE, reduceCtorEq, Nat.reduceEqDiff, argEnv, Nat.reduceAdd]; exact rfl) (by kernel_rfl) rfl rfl rfl rfl rfl (fun hg15 => ?a15) ?b15 ?c15
  case a15 =>
    have hq15 := hg15; (try simp only [decide_eq_true_eq, decide_eq_false_iff_not, Bool.not_true, Bool.not_false, Bool.not_eq_true, Bool.not_eq_false, Bool.not_eq_eq_eq_not, Int.not_lt, Int.not_le, reduceCtorEq, Bool.true_eq_false, Bool.false_eq_true, ne_eq, Decidable.not_not, Bool.not_eq_true', bne_iff_ne, Bool.or_eq_true, Bool.and_eq_true, Bool.or_eq_false_iff, Bool.and_eq_false_iff] at hg15); simp only [List.take_succ_cons, List.take_zero, List.cons_append, List.nil_append]
    (refine rg_do rfl fun K0 hK0 => ?_; simp only [zE, op1, ev, lkp, avOf, acOf, opFieldAddr, reduceCtorEq, Nat.reduceEqDiff, Nat.reduceAdd, Nat.reduceLeDiff, Nat.reduceLT, Nat.reduceMul, Nat.reduceSub, Try.st24, Try.td24, Try.td3, Mly.av]; (repeat refine And.intro (by omega) ?_); (first | refine hK0 _ ?_ | refine Or.inl (hK0 _ ?_)); clear hK0 K0; simp only [put, app, setAll, trOf, zE, List.set_cons_zero, List.set_cons_succ, Nat.reduceAdd])
    (refine rg_do rfl fun K0 hK0 => ?_; simp only [zE, op1, ev, lkp, avOf, acOf, opLoad, readAC, isAggK, acs, Ty.dflt, zG, cellsAt, reduceCtorEq, Nat.reduceEqDiff, Nat.reduceAdd, Nat.reduceLeDiff, Nat.reduceLT, Nat.reduceMul, Nat.reduceSub, Try.el22, Try.td22, Mly.av]; (repeat refine And.intro (by omega) ?_); (first | refine hK0 _ ?_ | refine Or.inl (hK0 _ ?_)); clear hK0 K0; simp only [put, app, setAll, trOf, zE, List.set_cons_zero, List.set_cons_succ, Nat.reduceAdd])
    (refine rg_do rfl fun K0 hK0 => ?_; simp only [zE, op1, ev, lkp, avOf, acOf, opIndexAddr, zG, Ty.dflt, Ty.size, reduceCtorEq, Nat.reduceEqDiff, Nat.reduceAdd, Nat.reduceLeDiff, Nat.reduceLT, Nat.reduceMul, Nat.reduceSub, Try.el22, Try.td22, Mly.av]; (repeat refine And.intro (by omega) ?_); (first | refine hK0 _ ?_ | refine Or.inl (hK0 _ ?_)); clear hK0 K0; simp only [put, app, setAll, trOf, zE, List.set_cons_zero, List.set_cons_succ, Nat.reduceAdd])
    (refine rg_do rfl fun K0 hK0 => ?_; simp only [zE, op1, ev, lkp, avOf, acOf, opLoad, readAC, isAggK, acs, Ty.dflt, zG, cellsAt, reduceCtorEq, Nat.reduceEqDiff, Nat.reduceAdd, Nat.reduceLeDiff, Nat.reduceLT, Nat.reduceMul, Nat.reduceSub, Try.el30, Try.td30, Mly.av]; (repeat refine And.intro (by omega) ?_); (first | refine hK0 _ ?_ | refine Or.inl (hK0 _ ?_)); clear hK0 K0; simp only [put, app, setAll, trOf, zE, List.set_cons_zero, List.set_cons_succ, Nat.reduceAdd])
    (refine rg_do rfl fun K0 hK0 => ?_; simp only [zE, op1, ev, lkp, avOf, acOf, opBuildSlice, fillAC, chunk, rep, datOf, writeAC, cellsAV, Ty.size, reduceCtorEq, Nat.reduceEqDiff, Nat.reduceAdd, Nat.reduceLeDiff, Nat.reduceLT, Nat.reduceMul, Nat.reduceSub, Try.el30, Try.td2, Try.td30, Mly.av]; (repeat refine And.intro (by omega) ?_); (first | refine hK0 _ ?_ | refine Or.inl (hK0 _ ?_)); clear hK0 K0; simp only [put, app, setAll, trOf, zE, List.set_cons_zero, List.set_cons_succ, Nat.reduceAdd])
    refine rg_do rfl fun K0 hK0 => ?_
    refine op_call (h := call_of_pure (ints_c ((⟨gateM.inp, 1, gateM.nx, gateM.ot⟩ : Mly).trim.ot.getD 0 []) [1, 2])) rfl rfl (by first | exact rfl | (simp only [ev, keepEnv, lkp, zE, reduceCtorEq, Nat.reduceEqDiff, argEnv, Nat.reduceAdd]; exact rfl)) (by simp only [zE, zG, op1, ev, lkp, avOf, acOf, cellsAV, acs, capAV, mv1, mvC, Ty.dflt, reduceCtorEq, Nat.reduceEqDiff, Nat.reduceAdd, Nat.reduceLeDiff, Nat.reduceLT, Nat.reduceMul, Nat.reduceSub, Mly.av]) ?_
    refine hK0 _ ?_; clear hK0 K0; simp only [put, app, setAll, trOf, zE, List.set_cons_zero, List.set_cons_succ, Nat.reduceAdd]
    (refine rg_step rfl fun K0 hK0 => ?_; simp only [zE, op1, ev, lkp, avOf, acOf, opPick, reduceCtorEq, Nat.reduceEqDiff, Nat.reduceAdd, Nat.reduceLeDiff, Nat.reduceLT, Nat.reduceMul, Nat.reduceSub, Try.td4, Mly.av]; (repeat refine And.intro (by omega) ?_); (first | refine hK0 _ ?_ | refine Or.inl (hK0 _ ?_)); clear hK0 K0; simp only [put, app, setAll, trOf, zE, List.set_cons_zero, List.set_cons_succ, Nat.reduceAdd])
    refine rg_nil ?_
    refine ⟨by simp only [keepEnv, lkp, zE, reduceCtorEq, Nat.reduceEqDiff, argEnv, Nat.reduceAdd]; exact rfl, rfl, ?_, rfl⟩; (repeat refine keep_cons rfl ?_); exact keep_m (by exact rfl) hq15
  case b15 => exact tle_of (by rfl)
  simp only [join_or, join_and]
  (refine rg_step rfl fun K0 hK0 => ?_; simp only [zE, op1, ev, lkp, avOf, acOf, ev, reduceCtorEq, Nat.reduceEqDiff, Nat.reduceAdd, Nat.reduceLeDiff, Nat.reduceLT, Nat.reduceMul, Nat.reduceSub, Try.td4, Mly.av]; (repeat refine And.intro (by omega) ?_); (first | refine hK0 _ ?_ | refine Or.inl (hK0 _ ?_)); clear hK0 K0; simp only [put, app, setAll, trOf, zE, List.set_cons_zero, List.set_cons_succ, Nat.reduceAdd])
  refine' rg_join_n (want := true) 3 rfl (m := 73) (by simp only [keepEnv, lkp, zE, reduceCtorEq, Nat.reduceEqDiff, argEnv, Nat.reduceAdd]; exact rfl) (by kernel_rfl) rfl rfl rfl rfl rfl (fun hg16 => ?a16) ?b16 ?c16
  case a16 =>
    have hq16 := hg16; (try simp only [decide_eq_true_eq, decide_eq_false_iff_not, Bool.not_true, Bool.not_false, Bool.not_eq_true, Bool.not_eq_false, Bool.not_eq_eq_eq_not, Int.not_lt, Int.not_le, reduceCtorEq, Bool.true_eq_false, Bool.false_eq_true, ne_eq, Decidable.not_not, Bool.not_eq_true', bne_iff_ne, Bool.or_eq_true, Bool.and_eq_true, Bool.or_eq_false_iff, Bool.and_eq_false_iff] at hg16); simp only [List.take_succ_cons, List.take_zero, List.cons_append, List.nil_append]
    (refine rg_do rfl fun K0 hK0 => ?_; simp only [zE, op1, ev, lkp, avOf, acOf, opLoad, readAC, isAggK, acs, Ty.dflt, zG, cellsAt, reduceCtorEq, Nat.reduceEqDiff, Nat.reduceAdd, Nat.reduceLeDiff, Nat.reduceLT, Nat.reduceMul, Nat.reduceSub, Try.st24, Try.td24, Mly.av]; (repeat refine And.intro (by omega) ?_); (first | refine hK0 _ ?_ | refine Or.inl (hK0 _ ?_)); clear hK0 K0; simp only [put, app, setAll, trOf, zE, List.set_cons_zero, List.set_cons_succ, Nat.reduceAdd])
    (refine rg_do rfl fun K0 hK0 => ?_; simp only [zE, op1, ev, lkp, avOf, acOf, opLoad, readAC, isAggK, acs, Ty.dflt, zG, cellsAt, reduceCtorEq, Nat.reduceEqDiff, Nat.reduceAdd, Nat.reduceLeDiff, Nat.reduceLT, Nat.reduceMul, Nat.reduceSub, Try.st24, Try.td24, Mly.av]; (repeat refine And.intro (by omega) ?_); (first | refine hK0 _ ?_ | refine Or.inl (hK0 _ ?_)); clear hK0 K0; simp only [put, app, setAll, trOf, zE, List.set_cons_zero, List.set_cons_succ, Nat.reduceAdd])
    refine rg_do rfl fun K0 hK0 => ?_
    refine op_call (h := call_of_pure (same_c (⟨gateM.inp, 1, gateM.nx, gateM.ot⟩ : Mly).trim (⟨gateM.inp, 1, gateM.nx, gateM.ot⟩ : Mly).trim)) rfl rfl (by first | exact rfl | (simp only [ev, keepEnv, lkp, zE, reduceCtorEq, Nat.reduceEqDiff, argEnv, Nat.reduceAdd]; exact rfl)) (by simp only [zE, zG, op1, ev, lkp, avOf, acOf, cellsAV, acs, capAV, mv1, mvC, Ty.dflt, reduceCtorEq, Nat.reduceEqDiff, Nat.reduceAdd, Nat.reduceLeDiff, Nat.reduceLT, Nat.reduceMul, Nat.reduceSub, Mly.av]) ?_
    refine hK0 _ ?_; clear hK0 K0; simp only [put, app, setAll, trOf, zE, List.set_cons_zero, List.set_cons_succ, Nat.reduceAdd]
    (refine rg_step rfl fun K0 hK0 => ?_; simp only [zE, op1, ev, lkp, avOf, acOf, opPick, reduceCtorEq, Nat.reduceEqDiff, Nat.reduceAdd, Nat.reduceLeDiff, Nat.reduceLT, Nat.reduceMul, Nat.reduceSub, Try.td4, Mly.av]; (repeat refine And.intro (by omega) ?_); (first | refine hK0 _ ?_ | refine Or.inl (hK0 _ ?_)); clear hK0 K0; simp only [put, app, setAll, trOf, zE, List.set_cons_zero, List.set_cons_succ, Nat.reduceAdd])
    refine rg_nil ?_
    refine ⟨by simp only [keepEnv, lkp, zE, reduceCtorEq, Nat.reduceEqDiff, argEnv, Nat.reduceAdd]; exact rfl, rfl, ?_, rfl⟩; (repeat refine keep_cons rfl ?_); exact keep_m (by exact rfl) hq16
  case b16 => exact tle_of (by rfl)
  simp only [join_or, join_and]
  (refine rg_step rfl fun K0 hK0 => ?_; simp only [zE, op1, ev, lkp, avOf, acOf, ev, reduceCtorEq, Nat.reduceEqDiff, Nat.reduceAdd, Nat.reduceLeDiff, Nat.reduceLT, Nat.reduceMul, Nat.reduceSub, Try.td4, Mly.av]; (repeat refine And.intro (by omega) ?_); (first | refine hK0 _ ?_ | refine Or.inl (hK0 _ ?_)); clear hK0 K0; simp only [put, app, setAll, trOf, zE, List.set_cons_zero, List.set_cons_succ, Nat.reduceAdd])
  refine rg_nil ?_
  refine hK7 _ ?_; clear hK7; refine awp_keep [0, 1, 2, 3, 4, 5, 6, 7, 8] ?_; simp only [keepEnv, lkp, zE, reduceCtorEq, Nat.reduceEqDiff, argEnv, Nat.reduceAdd]
  refine awp_ret ?_
  refine ⟨by first | exact .inl rfl | exact .inr rfl, _, rfl, ?_⟩; simp only [fzV, fz1, fzC, List.map_cons, List.map_nil, keepEnv, lkp, zE, reduceCtorEq, Nat.reduceEqDiff, argEnv, Nat.reduceAdd, Mly.av]
  refine VLE.of_eq ?_
  refine congrArg (fun b => AV.one (AC.bool b)) ?_; decide
end Go.Proofs.Ytcbkfkgagcfcoaa
namespace Go.Proofs.Ytcbkfkgagcfcoaa
open Go Go.AV
set_option maxRecDepth 100000 in
theorem join_c (ls : List (List Int)) (hb : ls.flatten.length ≤ 1000000) : PURE Try.prog 12 [.one (.list (.list (.int .i64)) ls)] (.one (.list (.int .i64) ls.flatten)) := by
  refine pure_of_le Try.func12 rfl (by kernel_rfl) (Nat.le_of_ble_eq_true rfl) rfl fun C hP hN hB => ?_
  replace hN : C.N = 18 := hN
  simp only [argEnv, Nat.reduceAdd]
  refine awp_fit 0 rfl fun hf0 => ?_; simp only [lkp, if_true, if_false, reduceCtorEq, Nat.reduceEqDiff, eq_self, Nat.one_ne_zero, Nat.zero_ne_one, fitV, fitC, fitL, Fit, and_true, implies_true, true_and] at hf0
  refine awp_seq_k fun K1 hK1 => ?_
  refine awp_reg hP hN rfl ?_
  (refine rg_step rfl fun K0 hK0 => ?_; simp only [zE, op1, ev, lkp, avOf, acOf, ev, reduceCtorEq, Nat.reduceEqDiff, Nat.reduceAdd, Nat.reduceLeDiff, Nat.reduceLT, Nat.reduceMul, Nat.reduceSub, Try.el30, Try.td30]; (repeat refine And.intro (by omega) ?_); (first | refine hK0 _ ?_ | refine Or.inl (hK0 _ ?_)); clear hK0 K0; simp only [put, app, setAll, trOf, zE, List.set_cons_zero, List.set_cons_succ, Nat.reduceAdd])
  refine rg_nil ?_
  refine hK1 _ ?_; clear hK1; refine awp_keep [0, 2] ?_; simp only [keepEnv, lkp, zE, reduceCtorEq, Nat.reduceEqDiff, argEnv, Nat.reduceAdd]
  refine awp_seq_k fun K2 hK2 => ?_
  refine awp_reg hP hN rfl ?_
  (refine rg_step rfl fun K0 hK0 => ?_; simp only [zE, op1, ev, lkp, avOf, acOf, ev, reduceCtorEq, Nat.reduceEqDiff, Nat.reduceAdd, Nat.reduceLeDiff, Nat.reduceLT, Nat.reduceMul, Nat.reduceSub, Try.el30, Try.td30]; (repeat refine And.intro (by omega) ?_); (first | refine hK0 _ ?_ | refine Or.inl (hK0 _ ?_)); clear hK0 K0; simp only [put, app, setAll, trOf, zE, List.set_cons_zero, List.set_cons_succ, Nat.reduceAdd])
  refine rg_nil ?_
  refine hK2 _ ?_; clear hK2; refine awp_keep [0, 2, 3] ?_; simp only [keepEnv, lkp, zE, reduceCtorEq, Nat.reduceEqDiff, argEnv, Nat.reduceAdd]
  refine awp_seq_k fun K3 hK3 => ?_
  refine awp_seq_k fun K4 hK4 => ?_
  refine awp_reg hP hN rfl ?_
  (refine rg_step rfl fun K0 hK0 => ?_; simp only [zE, op1, ev, lkp, avOf, acOf, ev, reduceCtorEq, Nat.reduceEqDiff, Nat.reduceAdd, Nat.reduceLeDiff, Nat.reduceLT, Nat.reduceMul, Nat.reduceSub, Try.td3]; (repeat refine And.intro (by omega) ?_); (first | refine hK0 _ ?_ | refine Or.inl (hK0 _ ?_)); clear hK0 K0; simp only [put, app, setAll, trOf, zE, List.set_cons_zero, List.set_cons_succ, Nat.reduceAdd])
  refine rg_nil ?_
  refine hK4 _ ?_; clear hK4; refine awp_keep [0, 2, 3, 4] ?_; simp only [keepEnv, lkp, zE, reduceCtorEq, Nat.reduceEqDiff, argEnv, Nat.reduceAdd]
  refine awp_block ?_
  refine awp_own 3 (.int .i64) 3 (by decide) rfl ?_; simp only [List.length_cons, List.length_nil, List.cons_append, List.nil_append, Nat.zero_add, Nat.reduceAdd]
  refine awp_loop (fun n5 s5 => ∃ (k : Nat) (v : Nat), (k ≤ ls.length) ∧ n5 = ls.length - k ∧ s5 = { env := [(0, .one (.list (.list (.int .i64)) ls)), (3, .one (.row 0 v)), (4, .one (.int .i64 (k : Int)))], L := [.row (.int .i64) 3 v (ls.take k).flatten] }) ?_ ?_
  · exact ⟨_, _, sub_keep [0, 3, 4], 0, 0, Nat.zero_le _, rfl, rfl⟩
  · rintro n5 s5 ⟨k, v, hk, rfl, rfl⟩
    refine awp_seq_k fun K6 hK6 => ?_
    refine awp_seq_k fun K7 hK7 => ?_
    refine awp_reg hP hN rfl ?_
    iterate 4 (refine rg_step rfl fun K0 hK0 => ?_; simp only [zE, op1, ev, lkp, avOf, acOf, opCallAny, opLen, lenAC, lenOk, fpAC, opAppend, srcOf, Ty.size, datOf, dite_true, opBin, arith, inK_i64, reduceCtorEq, Nat.reduceEqDiff, Nat.reduceAdd, Nat.reduceLeDiff, Nat.reduceLT, Nat.reduceMul, Nat.reduceSub, Try.el22, Try.td22, Try.td3, Try.td4]; (repeat refine And.intro (by omega) ?_); (first | refine hK0 _ ?_ | refine Or.inl (hK0 _ ?_)); clear hK0 K0; simp only [put, app, setAll, trOf, zE, List.set_cons_zero, List.set_cons_succ, Nat.reduceAdd])
    refine rg_nil ?_
    refine hK7 _ ?_; clear hK7; refine awp_keep [0, 3, 4, 8] ?_; simp only [keepEnv, lkp, zE, reduceCtorEq, Nat.reduceEqDiff, argEnv, Nat.reduceAdd]
    refine awp_cond (by simp only [ev, keepEnv, lkp, zE, reduceCtorEq, Nat.reduceEqDiff, argEnv, Nat.reduceAdd]; exact rfl) (fun hc8 => ?_) (fun hc8 => ?_)
    · (try simp only [decide_eq_true_eq, decide_eq_false_iff_not, Bool.not_true, Bool.not_false, Bool.not_eq_true, Bool.not_eq_false, Bool.not_eq_eq_eq_not, Int.not_lt, Int.not_le, reduceCtorEq, Bool.true_eq_false, Bool.false_eq_true, ne_eq, Decidable.not_not, Bool.not_eq_true', bne_iff_ne, Bool.or_eq_true, Bool.and_eq_true, Bool.or_eq_false_iff, Bool.and_eq_false_iff] at hc8)
      refine awp_skip ?_
      refine hK6 _ ?_; clear hK6; refine awp_keep [0, 3, 4, 8] ?_; simp only [keepEnv, lkp, zE, reduceCtorEq, Nat.reduceEqDiff, argEnv, Nat.reduceAdd]
      refine awp_seq_k fun K9 hK9 => ?_
      refine awp_block ?_
      have hfl := flat_take_le ls (k + 1); rw [flat_take_succ ls (by omega), List.length_append] at hfl
      refine awp_reg hP hN rfl ?_
      iterate 7 (refine rg_step rfl fun K0 hK0 => ?_; simp only [zE, op1, ev, lkp, avOf, acOf, opIndexAddr, zG, Ty.dflt, Ty.size, opLoad, readAC, isAggK, acs, cellsAt, opCallAny, opLen, lenAC, lenOk, fpAC, opAppend, srcOf, datOf, dite_true, reduceCtorEq, Nat.reduceEqDiff, Nat.reduceAdd, Nat.reduceLeDiff, Nat.reduceLT, Nat.reduceMul, Nat.reduceSub, Try.el22, Try.el30, Try.td22, Try.td3, Try.td30]; (repeat refine And.intro (by omega) ?_); (first | refine hK0 _ ?_ | refine Or.inl (hK0 _ ?_)); clear hK0 K0; simp only [put, app, setAll, trOf, zE, List.set_cons_zero, List.set_cons_succ, Nat.reduceAdd])
      refine rg_nil ?_
      refine hK9 _ ?_; clear hK9; refine awp_keep [0, 3, 4, 8] ?_; simp only [keepEnv, lkp, zE, reduceCtorEq, Nat.reduceEqDiff, argEnv, Nat.reduceAdd]
      refine awp_reg hP hN rfl ?_
      iterate 3 (refine rg_step rfl fun K0 hK0 => ?_; simp only [zE, op1, ev, lkp, avOf, acOf, opBin, arith, inK_i64, reduceCtorEq, Nat.reduceEqDiff, Nat.reduceAdd, Nat.reduceLeDiff, Nat.reduceLT, Nat.reduceMul, Nat.reduceSub, Try.td3]; (repeat refine And.intro (by omega) ?_); (first | refine hK0 _ ?_ | refine Or.inl (hK0 _ ?_)); clear hK0 K0; simp only [put, app, setAll, trOf, zE, List.set_cons_zero, List.set_cons_succ, Nat.reduceAdd])
      refine rg_nil ?_
      refine ⟨_, _, ?_, sub_keep [0, 3, 4], k + 1, v + 1, by omega, rfl, ?_⟩
      · omega
      · rw [flat_take_succ ls (by omega)]; rfl
    · (try simp only [decide_eq_true_eq, decide_eq_false_iff_not, Bool.not_true, Bool.not_false, Bool.not_eq_true, Bool.not_eq_false, Bool.not_eq_eq_eq_not, Int.not_lt, Int.not_le, reduceCtorEq, Bool.true_eq_false, Bool.false_eq_true, ne_eq, Decidable.not_not, Bool.not_eq_true', bne_iff_ne, Bool.or_eq_true, Bool.and_eq_true, Bool.or_eq_false_iff, Bool.and_eq_false_iff] at hc8)
      refine awp_exit ?_
      refine hK3 _ ?_; clear hK3; refine awp_keep [0, 3, 4, 8] ?_; simp only [keepEnv, lkp, zE, reduceCtorEq, Nat.reduceEqDiff, argEnv, Nat.reduceAdd]
      refine awp_seq_k fun K10 hK10 => ?_
      refine awp_reg hP hN rfl ?_
      iterate 2 (refine rg_step rfl fun K0 hK0 => ?_; simp only [zE, op1, ev, lkp, avOf, acOf, ev, reduceCtorEq, Nat.reduceEqDiff, Nat.reduceAdd, Nat.reduceLeDiff, Nat.reduceLT, Nat.reduceMul, Nat.reduceSub, Try.el30, Try.td30]; (repeat refine And.intro (by omega) ?_); (first | refine hK0 _ ?_ | refine Or.inl (hK0 _ ?_)); clear hK0 K0; simp only [put, app, setAll, trOf, zE, List.set_cons_zero, List.set_cons_succ, Nat.reduceAdd])
      refine rg_nil ?_
      refine hK10 _ ?_; clear hK10; refine awp_keep [0, 2, 3, 4, 8] ?_; simp only [keepEnv, lkp, zE, reduceCtorEq, Nat.reduceEqDiff, argEnv, Nat.reduceAdd]
      refine awp_ret ?_
      refine ⟨by first | exact .inl rfl | exact .inr rfl, _, rfl, ?_⟩; simp only [fzV, fz1, fzC, List.map_cons, List.map_nil, keepEnv, lkp, zE, reduceCtorEq, Nat.reduceEqDiff, argEnv, Nat.reduceAdd]
      refine VLE.of_eq ?_
      have htk : ls.take k = ls := by rw [show k = ls.length by omega, List.take_length]
      rw [htk]; try simp
end Go.Proofs.Ytcbkfkgagcfcoaa
namespace Go.Proofs.Ytcbkfkgagcfcoaa
open Go Go.AV
set_option maxRecDepth 100000 in
set_option maxHeartbeats 1000000 in
theorem law4 (m : Mly) (u v : List Int) (hu : u.length ≤ 140737488355328) (hv : v.length ≤ 140737488355328) : PURE Try.prog 4 [m.av, .one (.list (.int .i64) u), .one (.list (.int .i64) v)] (.one (.bool true)) := by
  refine pure_of_le Try.func4 rfl (by kernel_rfl) (Nat.le_of_ble_eq_true rfl) rfl fun C hP hN hB => ?_
  replace hN : C.N = 100 := hN
  simp only [argEnv, Nat.reduceAdd]
  refine awp_fit 1 rfl fun hf1 => ?_; simp only [lkp, if_true, if_false, reduceCtorEq, Nat.reduceEqDiff, eq_self, Nat.one_ne_zero, Nat.zero_ne_one, fitV, fitC, fitL, Fit, and_true, implies_true, true_and] at hf1; refine awp_fit 2 rfl fun hf2 => ?_; simp only [lkp, if_true, if_false, reduceCtorEq, Nat.reduceEqDiff, eq_self, Nat.one_ne_zero, Nat.zero_ne_one, fitV, fitC, fitL, Fit, and_true, implies_true, true_and] at hf2
  refine awp_seq_k fun K1 hK1 => ?_
  refine awp_reg hP hN rfl ?_
  iterate 2 (refine rg_step rfl fun K0 hK0 => ?_; simp only [zE, op1, ev, lkp, avOf, acOf, opBox, cellsAV, reduceCtorEq, Nat.reduceEqDiff, Nat.reduceAdd, Nat.reduceLeDiff, Nat.reduceLT, Nat.reduceMul, Nat.reduceSub, Try.st24, Try.td24, Try.td4, Mly.av]; (repeat refine And.intro (by omega) ?_); (first | refine hK0 _ ?_ | refine Or.inl (hK0 _ ?_)); clear hK0 K0; simp only [put, app, setAll, trOf, zE, List.set_cons_zero, List.set_cons_succ, Nat.reduceAdd])
  refine rg_nil ?_
  refine hK1 _ ?_; clear hK1; refine awp_keep [0, 1, 2, 3, 6] ?_; simp only [keepEnv, lkp, zE, reduceCtorEq, Nat.reduceEqDiff, argEnv, Nat.reduceAdd]
  refine awp_seq_k fun K2 hK2 => ?_
  refine awp_seq_k fun K3 hK3 => ?_
  refine awp_reg hP hN rfl ?_
  iterate 6 (refine rg_step rfl fun K0 hK0 => ?_; simp only [zE, op1, ev, lkp, avOf, acOf, opCallAny, opLen, lenAC, lenOk, fpAC, opAppend, srcOf, Ty.size, datOf, dite_true, opBin, arith, inK_i64, reduceCtorEq, Nat.reduceEqDiff, Nat.reduceAdd, Nat.reduceLeDiff, Nat.reduceLT, Nat.reduceMul, Nat.reduceSub, Try.el30, Try.td3, Try.td30, Try.td4, Mly.av]; (repeat refine And.intro (by omega) ?_); (first | refine hK0 _ ?_ | refine Or.inl (hK0 _ ?_)); clear hK0 K0; simp only [put, app, setAll, trOf, zE, List.set_cons_zero, List.set_cons_succ, Nat.reduceAdd])
  refine rg_nil ?_
  refine hK3 _ ?_; clear hK3; refine awp_keep [0, 1, 2, 3, 6, 21] ?_; simp only [keepEnv, lkp, zE, reduceCtorEq, Nat.reduceEqDiff, argEnv, Nat.reduceAdd]
  refine awp_cond (by simp only [ev, keepEnv, lkp, zE, reduceCtorEq, Nat.reduceEqDiff, argEnv, Nat.reduceAdd]; exact rfl) (fun hc4 => ?_) (fun hc4 => ?_)
  · (try simp only [decide_eq_true_eq, decide_eq_false_iff_not, Bool.not_true, Bool.not_false, Bool.not_eq_true, Bool.not_eq_false, Bool.not_eq_eq_eq_not, Int.not_lt, Int.not_le, reduceCtorEq, Bool.true_eq_false, Bool.false_eq_true, ne_eq, Decidable.not_not, Bool.not_eq_true', bne_iff_ne, Bool.or_eq_true, Bool.and_eq_true, Bool.or_eq_false_iff, Bool.and_eq_false_iff] at hc4)
    refine awp_seq_k fun K5 hK5 => ?_
    refine awp_reg hP hN rfl ?_
    refine rg_step rfl fun K0 hK0 => ?_
    refine op_call (h := call_of_pure awake_c) rfl rfl (by first | exact rfl | (simp only [ev, keepEnv, lkp, zE, reduceCtorEq, Nat.reduceEqDiff, argEnv, Nat.reduceAdd]; exact rfl)) (by simp only [zE, zG, op1, ev, lkp, avOf, acOf, cellsAV, acs, capAV, mv1, mvC, Ty.dflt, reduceCtorEq, Nat.reduceEqDiff, Nat.reduceAdd, Nat.reduceLeDiff, Nat.reduceLT, Nat.reduceMul, Nat.reduceSub, Mly.av]) ?_
    refine hK0 _ ?_; clear hK0 K0; simp only [put, app, setAll, trOf, zE, List.set_cons_zero, List.set_cons_succ, Nat.reduceAdd]
    (refine rg_step rfl fun K0 hK0 => ?_; simp only [zE, op1, ev, lkp, avOf, acOf, ev, reduceCtorEq, Nat.reduceEqDiff, Nat.reduceAdd, Nat.reduceLeDiff, Nat.reduceLT, Nat.reduceMul, Nat.reduceSub, Try.td4, Mly.av]; (repeat refine And.intro (by omega) ?_); (first | refine hK0 _ ?_ | refine Or.inl (hK0 _ ?_)); clear hK0 K0; simp only [put, app, setAll, trOf, zE, List.set_cons_zero, List.set_cons_succ, Nat.reduceAdd])
    refine rg_nil ?_
    refine hK5 _ ?_; clear hK5; refine awp_keep [0, 1, 2, 3, 6, 21] ?_; simp only [keepEnv, lkp, zE, reduceCtorEq, Nat.reduceEqDiff, argEnv, Nat.reduceAdd]
    refine awp_ret ?_
    refine ⟨by first | exact .inl rfl | exact .inr rfl, _, rfl, ?_⟩; simp only [fzV, fz1, fzC, List.map_cons, List.map_nil, keepEnv, lkp, zE, reduceCtorEq, Nat.reduceEqDiff, argEnv, Nat.reduceAdd, Mly.av]
    refine VLE.of_eq ?_
    first | rfl | (refine congrArg (fun b => AV.one (AC.bool b)) ?_; rw [List.take_length, j3, List.take_left, List.drop_left, j4]; simp)
  · (try simp only [decide_eq_true_eq, decide_eq_false_iff_not, Bool.not_true, Bool.not_false, Bool.not_eq_true, Bool.not_eq_false, Bool.not_eq_eq_eq_not, Int.not_lt, Int.not_le, reduceCtorEq, Bool.true_eq_false, Bool.false_eq_true, ne_eq, Decidable.not_not, Bool.not_eq_true', bne_iff_ne, Bool.or_eq_true, Bool.and_eq_true, Bool.or_eq_false_iff, Bool.and_eq_false_iff] at hc4)
    refine awp_skip ?_
    refine hK2 _ ?_; clear hK2; refine awp_keep [0, 1, 2, 3, 6, 21] ?_; simp only [keepEnv, lkp, zE, reduceCtorEq, Nat.reduceEqDiff, argEnv, Nat.reduceAdd]
    refine awp_seq_k fun K6 hK6 => ?_
    refine awp_reg hP hN rfl ?_
    iterate 4 (refine rg_step rfl fun K0 hK0 => ?_; simp only [zE, op1, ev, lkp, avOf, acOf, opLoad, readAC, isAggK, acs, Ty.dflt, zG, cellsAt, opFieldAddr, reduceCtorEq, Nat.reduceEqDiff, Nat.reduceAdd, Nat.reduceLeDiff, Nat.reduceLT, Nat.reduceMul, Nat.reduceSub, Try.el30, Try.st24, Try.td24, Try.td3, Try.td30, Mly.av]; (repeat refine And.intro (by omega) ?_); (first | refine hK0 _ ?_ | refine Or.inl (hK0 _ ?_)); clear hK0 K0; simp only [put, app, setAll, trOf, zE, List.set_cons_zero, List.set_cons_succ, Nat.reduceAdd])
    refine rg_step rfl fun K0 hK0 => ?_
    refine op_call (h := call_of_pure (from_c m m.st u)) rfl rfl (by first | exact rfl | (simp only [ev, keepEnv, lkp, zE, reduceCtorEq, Nat.reduceEqDiff, argEnv, Nat.reduceAdd]; exact rfl)) (by simp only [zE, zG, op1, ev, lkp, avOf, acOf, cellsAV, acs, capAV, mv1, mvC, Ty.dflt, reduceCtorEq, Nat.reduceEqDiff, Nat.reduceAdd, Nat.reduceLeDiff, Nat.reduceLT, Nat.reduceMul, Nat.reduceSub, Mly.av]) ?_
    refine hK0 _ ?_; clear hK0 K0; simp only [put, app, setAll, trOf, zE, List.set_cons_zero, List.set_cons_succ, Nat.reduceAdd]
    iterate 7 (refine rg_step rfl fun K0 hK0 => ?_; simp only [zE, op1, ev, lkp, avOf, acOf, opExtract, reduceCtorEq, Nat.reduceEqDiff, Nat.reduceAdd, Nat.reduceLeDiff, Nat.reduceLT, Nat.reduceMul, Nat.reduceSub, Try.el30, Try.td2, Try.td25, Try.td3, Try.td30, Mly.av]; (repeat refine And.intro (by omega) ?_); (first | refine hK0 _ ?_ | refine Or.inl (hK0 _ ?_)); clear hK0 K0; simp only [put, app, setAll, trOf, zE, List.set_cons_zero, List.set_cons_succ, Nat.reduceAdd])
    refine rg_nil ?_
    refine hK6 _ ?_; clear hK6; refine awp_keep [0, 1, 2, 3, 6, 7, 8, 9, 21] ?_; simp only [keepEnv, lkp, zE, reduceCtorEq, Nat.reduceEqDiff, argEnv, Nat.reduceAdd]
    refine awp_seq_k fun K7 hK7 => ?_
    refine awp_reg hP hN rfl ?_
    iterate 3 (refine rg_step rfl fun K0 hK0 => ?_; simp only [zE, op1, ev, lkp, avOf, acOf, opLoad, readAC, isAggK, acs, Ty.dflt, zG, cellsAt, reduceCtorEq, Nat.reduceEqDiff, Nat.reduceAdd, Nat.reduceLeDiff, Nat.reduceLT, Nat.reduceMul, Nat.reduceSub, Try.el30, Try.st24, Try.td24, Try.td3, Try.td30, Mly.av]; (repeat refine And.intro (by omega) ?_); (first | refine hK0 _ ?_ | refine Or.inl (hK0 _ ?_)); clear hK0 K0; simp only [put, app, setAll, trOf, zE, List.set_cons_zero, List.set_cons_succ, Nat.reduceAdd])
    refine rg_step rfl fun K0 hK0 => ?_
    refine op_call (h := call_of_pure (from_c m (fromS m m.st u) v)) rfl rfl (by first | exact rfl | (simp only [ev, keepEnv, lkp, zE, reduceCtorEq, Nat.reduceEqDiff, argEnv, Nat.reduceAdd]; exact rfl)) (by simp only [zE, zG, op1, ev, lkp, avOf, acOf, cellsAV, acs, capAV, mv1, mvC, Ty.dflt, reduceCtorEq, Nat.reduceEqDiff, Nat.reduceAdd, Nat.reduceLeDiff, Nat.reduceLT, Nat.reduceMul, Nat.reduceSub, Mly.av]) ?_
    refine hK0 _ ?_; clear hK0 K0; simp only [put, app, setAll, trOf, zE, List.set_cons_zero, List.set_cons_succ, Nat.reduceAdd]
    iterate 7 (refine rg_step rfl fun K0 hK0 => ?_; simp only [zE, op1, ev, lkp, avOf, acOf, opExtract, reduceCtorEq, Nat.reduceEqDiff, Nat.reduceAdd, Nat.reduceLeDiff, Nat.reduceLT, Nat.reduceMul, Nat.reduceSub, Try.el30, Try.td2, Try.td25, Try.td3, Try.td30, Mly.av]; (repeat refine And.intro (by omega) ?_); (first | refine hK0 _ ?_ | refine Or.inl (hK0 _ ?_)); clear hK0 K0; simp only [put, app, setAll, trOf, zE, List.set_cons_zero, List.set_cons_succ, Nat.reduceAdd])
    refine rg_nil ?_
    refine hK7 _ ?_; clear hK7; refine awp_keep [0, 1, 2, 3, 6, 7, 8, 9, 10, 11, 12, 21] ?_; simp only [keepEnv, lkp, zE, reduceCtorEq, Nat.reduceEqDiff, argEnv, Nat.reduceAdd]
    refine awp_seq_k fun K8 hK8 => ?_
    refine awp_seq_k fun K9 hK9 => ?_
    refine awp_reg hP hN rfl ?_
    iterate 2 (refine rg_step rfl fun K0 hK0 => ?_; simp only [zE, op1, ev, lkp, avOf, acOf, opBin, arith, inK_i64, reduceCtorEq, Nat.reduceEqDiff, Nat.reduceAdd, Nat.reduceLeDiff, Nat.reduceLT, Nat.reduceMul, Nat.reduceSub, Try.td25, Try.td4, Mly.av]; (repeat refine And.intro (by omega) ?_); (first | refine hK0 _ ?_ | refine Or.inl (hK0 _ ?_)); clear hK0 K0; simp only [put, app, setAll, trOf, zE, List.set_cons_zero, List.set_cons_succ, Nat.reduceAdd])
    (refine rg_step rfl fun K0 hK0 => ?_; simp only [zE, op1, ev, lkp, avOf, acOf, ev, reduceCtorEq, Nat.reduceEqDiff, Nat.reduceAdd, Nat.reduceLeDiff, Nat.reduceLT, Nat.reduceMul, Nat.reduceSub, Try.td4, Mly.av]; (repeat refine And.intro (by omega) ?_); (first | refine hK0 _ ?_ | refine Or.inl (hK0 _ ?_)); clear hK0 K0; simp only [put, app, setAll, trOf, zE, List.set_cons_zero, List.set_cons_succ, Nat.reduceAdd])
    refine' rg_join_n (want := false) 2 rfl (m := 42) (by simp only [keepEnv, lkp, zE, reduceCtorEq, Nat.reduceEqDiff, argEnv, Nat.reduceAdd]; exact rfl) (by kernel_rfl) rfl rfl rfl rfl rfl (fun hg10 => ?a10) ?b10 ?c10
    case a10 =>
      have hq10 := hg10; (try simp only [decide_eq_true_eq, decide_eq_false_iff_not, Bool.not_true, Bool.not_false, Bool.not_eq_true, Bool.not_eq_false, Bool.not_eq_eq_eq_not, Int.not_lt, Int.not_le, reduceCtorEq, Bool.true_eq_false, Bool.false_eq_true, ne_eq, Decidable.not_not, Bool.not_eq_true', bne_iff_ne, Bool.or_eq_true, Bool.and_eq_true, Bool.or_eq_false_iff, Bool.and_eq_false_iff] at hg10); simp only [List.take_succ_cons, List.take_zero, List.cons_append, List.nil_append]
      (refine rg_do rfl fun K0 hK0 => ?_; simp only [zE, op1, ev, lkp, avOf, acOf, ev, reduceCtorEq, Nat.reduceEqDiff, Nat.reduceAdd, Nat.reduceLeDiff, Nat.reduceLT, Nat.reduceMul, Nat.reduceSub, Try.td25, Mly.av]; (repeat refine And.intro (by omega) ?_); (first | refine hK0 _ ?_ | refine Or.inl (hK0 _ ?_)); clear hK0 K0; simp only [put, app, setAll, trOf, zE, List.set_cons_zero, List.set_cons_succ, Nat.reduceAdd])
      (refine rg_do rfl fun K0 hK0 => ?_; simp only [zE, op1, ev, lkp, avOf, acOf, opBin, arith, inK_i64, reduceCtorEq, Nat.reduceEqDiff, Nat.reduceAdd, Nat.reduceLeDiff, Nat.reduceLT, Nat.reduceMul, Nat.reduceSub, Try.td25, Try.td4, Mly.av]; (repeat refine And.intro (by omega) ?_); (first | refine hK0 _ ?_ | refine Or.inl (hK0 _ ?_)); clear hK0 K0; simp only [put, app, setAll, trOf, zE, List.set_cons_zero, List.set_cons_succ, Nat.reduceAdd])
      (refine rg_step rfl fun K0 hK0 => ?_; simp only [zE, op1, ev, lkp, avOf, acOf, opPick, reduceCtorEq, Nat.reduceEqDiff, Nat.reduceAdd, Nat.reduceLeDiff, Nat.reduceLT, Nat.reduceMul, Nat.reduceSub, Try.td4, Mly.av]; (repeat refine And.intro (by omega) ?_); (first | refine hK0 _ ?_ | refine Or.inl (hK0 _ ?_)); clear hK0 K0; simp only [put, app, setAll, trOf, zE, List.set_cons_zero, List.set_cons_succ, Nat.reduceAdd])
      refine rg_nil ?_
      refine ⟨by simp only [keepEnv, lkp, zE, reduceCtorEq, Nat.reduceEqDiff, argEnv, Nat.reduceAdd]; exact rfl, rfl, ?_, rfl⟩; (repeat refine keep_cons rfl ?_); exact keep_m (by exact rfl) hq10
    case b10 => exact tle_of (by rfl)
    simp only [join_or, join_and]
    refine rg_nil ?_
    refine hK9 _ ?_; clear hK9; refine awp_keep [0, 1, 2, 3, 6, 7, 8, 9, 10, 11, 12, 21, 45] ?_; simp only [keepEnv, lkp, zE, reduceCtorEq, Nat.reduceEqDiff, argEnv, Nat.reduceAdd]
    refine awp_cond (by simp only [ev, keepEnv, lkp, zE, reduceCtorEq, Nat.reduceEqDiff, argEnv, Nat.reduceAdd]; exact rfl) (fun hc11 => ?_) (fun hc11 => ?_)
    · (try simp only [decide_eq_true_eq, decide_eq_false_iff_not, Bool.not_true, Bool.not_false, Bool.not_eq_true, Bool.not_eq_false, Bool.not_eq_eq_eq_not, Int.not_lt, Int.not_le, reduceCtorEq, Bool.true_eq_false, Bool.false_eq_true, ne_eq, Decidable.not_not, Bool.not_eq_true', bne_iff_ne, Bool.or_eq_true, Bool.and_eq_true, Bool.or_eq_false_iff, Bool.and_eq_false_iff] at hc11)
      refine awp_seq_k fun K12 hK12 => ?_
      refine awp_reg hP hN rfl ?_
      refine rg_step rfl fun K0 hK0 => ?_
      refine op_call (h := call_of_pure awake_c) rfl rfl (by first | exact rfl | (simp only [ev, keepEnv, lkp, zE, reduceCtorEq, Nat.reduceEqDiff, argEnv, Nat.reduceAdd]; exact rfl)) (by simp only [zE, zG, op1, ev, lkp, avOf, acOf, cellsAV, acs, capAV, mv1, mvC, Ty.dflt, reduceCtorEq, Nat.reduceEqDiff, Nat.reduceAdd, Nat.reduceLeDiff, Nat.reduceLT, Nat.reduceMul, Nat.reduceSub, Mly.av]) ?_
      refine hK0 _ ?_; clear hK0 K0; simp only [put, app, setAll, trOf, zE, List.set_cons_zero, List.set_cons_succ, Nat.reduceAdd]
      (refine rg_step rfl fun K0 hK0 => ?_; simp only [zE, op1, ev, lkp, avOf, acOf, ev, reduceCtorEq, Nat.reduceEqDiff, Nat.reduceAdd, Nat.reduceLeDiff, Nat.reduceLT, Nat.reduceMul, Nat.reduceSub, Try.td4, Mly.av]; (repeat refine And.intro (by omega) ?_); (first | refine hK0 _ ?_ | refine Or.inl (hK0 _ ?_)); clear hK0 K0; simp only [put, app, setAll, trOf, zE, List.set_cons_zero, List.set_cons_succ, Nat.reduceAdd])
      refine rg_nil ?_
      refine hK12 _ ?_; clear hK12; refine awp_keep [0, 1, 2, 3, 6, 7, 8, 9, 10, 11, 12, 21, 45] ?_; simp only [keepEnv, lkp, zE, reduceCtorEq, Nat.reduceEqDiff, argEnv, Nat.reduceAdd]
      refine awp_ret ?_
      refine ⟨by first | exact .inl rfl | exact .inr rfl, _, rfl, ?_⟩; simp only [fzV, fz1, fzC, List.map_cons, List.map_nil, keepEnv, lkp, zE, reduceCtorEq, Nat.reduceEqDiff, argEnv, Nat.reduceAdd, Mly.av]
      refine VLE.of_eq ?_
      first | rfl | (refine congrArg (fun b => AV.one (AC.bool b)) ?_; rw [List.take_length, j3, List.take_left, List.drop_left, j4]; simp)
    · (try simp only [decide_eq_true_eq, decide_eq_false_iff_not, Bool.not_true, Bool.not_false, Bool.not_eq_true, Bool.not_eq_false, Bool.not_eq_eq_eq_not, Int.not_lt, Int.not_le, reduceCtorEq, Bool.true_eq_false, Bool.false_eq_true, ne_eq, Decidable.not_not, Bool.not_eq_true', bne_iff_ne, Bool.or_eq_true, Bool.and_eq_true, Bool.or_eq_false_iff, Bool.and_eq_false_iff] at hc11)
      refine awp_skip ?_
      refine hK8 _ ?_; clear hK8; refine awp_keep [0, 1, 2, 3, 6, 7, 8, 9, 10, 11, 12, 21, 45] ?_; simp only [keepEnv, lkp, zE, reduceCtorEq, Nat.reduceEqDiff, argEnv, Nat.reduceAdd]
      refine awp_seq_k fun K13 hK13 => ?_
      obtain ⟨j1, j2, j3, j4, j5⟩ := from_join (m := m) (u := u) (v := v) (by omega) (by omega) (by omega)
      refine awp_drw hP hN Try.mixed rfl ?_
      iterate 6 (refine rg_step rfl fun K0 hK0 => ?_; simp only [zE, op1, ev, lkp, avOf, acOf, opLoad, readAC, isAggK, acs, Ty.dflt, zG, cellsAt, opFieldAddr, opBuildSlice, fillAC, chunk, rep, datOf, writeAC, cellsAV, Ty.size, reduceCtorEq, Nat.reduceEqDiff, Nat.reduceAdd, Nat.reduceLeDiff, Nat.reduceLT, Nat.reduceMul, Nat.reduceSub, Try.el22, Try.el30, Try.st24, Try.td2, Try.td22, Try.td24, Try.td3, Try.td30, Mly.av]; (repeat refine And.intro (by omega) ?_); (first | refine hK0 _ ?_ | refine Or.inl (hK0 _ ?_)); clear hK0 K0; simp only [put, app, setAll, trOf, zE, List.set_cons_zero, List.set_cons_succ, Nat.reduceAdd])
      refine rg_step rfl fun K0 hK0 => ?_
      refine op_call (h := call_of_pure (join_c [u, v] (by simp; omega))) rfl rfl (by first | exact rfl | (simp only [ev, keepEnv, lkp, zE, reduceCtorEq, Nat.reduceEqDiff, argEnv, Nat.reduceAdd]; exact rfl)) (by simp only [zE, zG, op1, ev, lkp, avOf, acOf, cellsAV, acs, capAV, mv1, mvC, Ty.dflt, reduceCtorEq, Nat.reduceEqDiff, Nat.reduceAdd, Nat.reduceLeDiff, Nat.reduceLT, Nat.reduceMul, Nat.reduceSub, Mly.av]) ?_
      refine hK0 _ ?_; clear hK0 K0; simp only [put, app, setAll, trOf, zE, List.set_cons_zero, List.set_cons_succ, Nat.reduceAdd]
      refine rg_step rfl fun K0 hK0 => ?_
      refine op_call (h := call_of_pure (from_c m m.st [u, v].flatten)) rfl rfl (by first | exact rfl | (simp only [ev, keepEnv, lkp, zE, reduceCtorEq, Nat.reduceEqDiff, argEnv, Nat.reduceAdd]; exact rfl)) (by simp only [zE, zG, op1, ev, lkp, avOf, acOf, cellsAV, acs, capAV, mv1, mvC, Ty.dflt, reduceCtorEq, Nat.reduceEqDiff, Nat.reduceAdd, Nat.reduceLeDiff, Nat.reduceLT, Nat.reduceMul, Nat.reduceSub, Mly.av]) ?_
      refine hK0 _ ?_; clear hK0 K0; simp only [put, app, setAll, trOf, zE, List.set_cons_zero, List.set_cons_succ, Nat.reduceAdd]
      iterate 7 (refine rg_step rfl fun K0 hK0 => ?_; simp only [zE, op1, ev, lkp, avOf, acOf, opExtract, reduceCtorEq, Nat.reduceEqDiff, Nat.reduceAdd, Nat.reduceLeDiff, Nat.reduceLT, Nat.reduceMul, Nat.reduceSub, Try.el30, Try.td2, Try.td25, Try.td3, Try.td30, Mly.av]; (repeat refine And.intro (by omega) ?_); (first | refine hK0 _ ?_ | refine Or.inl (hK0 _ ?_)); clear hK0 K0; simp only [put, app, setAll, trOf, zE, List.set_cons_zero, List.set_cons_succ, Nat.reduceAdd])
      refine rg_nil ?_
      refine ⟨by kernel_rfl, ?_⟩
      refine hK13 _ ?_; clear hK13; refine awp_keep [0, 1, 2, 3, 6, 7, 8, 9, 10, 11, 12, 13, 14, 15, 21, 45] ?_; simp only [keepEnv, lkp, zE, reduceCtorEq, Nat.reduceEqDiff, argEnv, Nat.reduceAdd]
      refine awp_seq_k fun K14 hK14 => ?_
      refine awp_seq_k fun K15 hK15 => ?_
      refine awp_reg hP hN rfl ?_
      iterate 2 (refine rg_step rfl fun K0 hK0 => ?_; simp only [zE, op1, ev, lkp, avOf, acOf, opBin, arith, inK_i64, reduceCtorEq, Nat.reduceEqDiff, Nat.reduceAdd, Nat.reduceLeDiff, Nat.reduceLT, Nat.reduceMul, Nat.reduceSub, Try.td25, Try.td4, Mly.av]; (repeat refine And.intro (by omega) ?_); (first | refine hK0 _ ?_ | refine Or.inl (hK0 _ ?_)); clear hK0 K0; simp only [put, app, setAll, trOf, zE, List.set_cons_zero, List.set_cons_succ, Nat.reduceAdd])
      (refine rg_step rfl fun K0 hK0 => ?_; simp only [zE, op1, ev, lkp, avOf, acOf, ev, reduceCtorEq, Nat.reduceEqDiff, Nat.reduceAdd, Nat.reduceLeDiff, Nat.reduceLT, Nat.reduceMul, Nat.reduceSub, Try.td4, Mly.av]; (repeat refine And.intro (by omega) ?_); (first | refine hK0 _ ?_ | refine Or.inl (hK0 _ ?_)); clear hK0 K0; simp only [put, app, setAll, trOf, zE, List.set_cons_zero, List.set_cons_succ, Nat.reduceAdd])
      refine' rg_join_n (want := false) 3 rfl (m := 61) (by simp only [keepEnv, lkp, zE, reduceCtorEq, Nat.reduceEqDiff, argEnv, Nat.reduceAdd]; exact rfl) (by kernel_rfl) rfl rfl rfl rfl rfl (fun hg16 => ?a16) ?b16 ?c16
      case a16 =>
        have hq16 := hg16; (try simp only [decide_eq_true_eq, decide_eq_false_iff_not, Bool.not_true, Bool.not_false, Bool.not_eq_true, Bool.not_eq_false, Bool.not_eq_eq_eq_not, Int.not_lt, Int.not_le, reduceCtorEq, Bool.true_eq_false, Bool.false_eq_true, ne_eq, Decidable.not_not, Bool.not_eq_true', bne_iff_ne, Bool.or_eq_true, Bool.and_eq_true, Bool.or_eq_false_iff, Bool.and_eq_false_iff] at hg16); simp only [List.take_succ_cons, List.take_zero, List.cons_append, List.nil_append]
        (refine rg_do rfl fun K0 hK0 => ?_; simp only [zE, op1, ev, lkp, avOf, acOf, ev, reduceCtorEq, Nat.reduceEqDiff, Nat.reduceAdd, Nat.reduceLeDiff, Nat.reduceLT, Nat.reduceMul, Nat.reduceSub, Try.td3, Mly.av]; (repeat refine And.intro (by omega) ?_); (first | refine hK0 _ ?_ | refine Or.inl (hK0 _ ?_)); clear hK0 K0; simp only [put, app, setAll, trOf, zE, List.set_cons_zero, List.set_cons_succ, Nat.reduceAdd])
        (refine rg_do rfl fun K0 hK0 => ?_; simp only [zE, op1, ev, lkp, avOf, acOf, ev, reduceCtorEq, Nat.reduceEqDiff, Nat.reduceAdd, Nat.reduceLeDiff, Nat.reduceLT, Nat.reduceMul, Nat.reduceSub, Try.td3, Mly.av]; (repeat refine And.intro (by omega) ?_); (first | refine hK0 _ ?_ | refine Or.inl (hK0 _ ?_)); clear hK0 K0; simp only [put, app, setAll, trOf, zE, List.set_cons_zero, List.set_cons_succ, Nat.reduceAdd])
        (refine rg_do rfl fun K0 hK0 => ?_; simp only [zE, op1, ev, lkp, avOf, acOf, opBin, arith, inK_i64, reduceCtorEq, Nat.reduceEqDiff, Nat.reduceAdd, Nat.reduceLeDiff, Nat.reduceLT, Nat.reduceMul, Nat.reduceSub, Try.td3, Try.td4, Mly.av]; (repeat refine And.intro (by omega) ?_); (first | refine hK0 _ ?_ | refine Or.inl (hK0 _ ?_)); clear hK0 K0; simp only [put, app, setAll, trOf, zE, List.set_cons_zero, List.set_cons_succ, Nat.reduceAdd])
        (refine rg_step rfl fun K0 hK0 => ?_; simp only [zE, op1, ev, lkp, avOf, acOf, opPick, reduceCtorEq, Nat.reduceEqDiff, Nat.reduceAdd, Nat.reduceLeDiff, Nat.reduceLT, Nat.reduceMul, Nat.reduceSub, Try.td4, Mly.av]; (repeat refine And.intro (by omega) ?_); (first | refine hK0 _ ?_ | refine Or.inl (hK0 _ ?_)); clear hK0 K0; simp only [put, app, setAll, trOf, zE, List.set_cons_zero, List.set_cons_succ, Nat.reduceAdd])
        refine rg_nil ?_
        refine ⟨by simp only [keepEnv, lkp, zE, reduceCtorEq, Nat.reduceEqDiff, argEnv, Nat.reduceAdd]; exact rfl, rfl, ?_, rfl⟩; (repeat refine keep_cons rfl ?_); exact keep_m (by exact rfl) hq16
      case b16 => exact tle_of (by rfl)
      simp only [join_or, join_and]
      (refine rg_step rfl fun K0 hK0 => ?_; simp only [zE, op1, ev, lkp, avOf, acOf, ev, reduceCtorEq, Nat.reduceEqDiff, Nat.reduceAdd, Nat.reduceLeDiff, Nat.reduceLT, Nat.reduceMul, Nat.reduceSub, Try.td4, Mly.av]; (repeat refine And.intro (by omega) ?_); (first | refine hK0 _ ?_ | refine Or.inl (hK0 _ ?_)); clear hK0 K0; simp only [put, app, setAll, trOf, zE, List.set_cons_zero, List.set_cons_succ, Nat.reduceAdd])
      refine' rg_join_n (want := false) 8 rfl (m := 66) (by simp only [keepEnv, lkp, zE, reduceCtorEq, Nat.reduceEqDiff, argEnv, Nat.reduceAdd]; exact rfl) (by kernel_rfl) rfl rfl rfl rfl rfl (fun hg17 => ?a17) ?b17 ?c17
      case a17 =>
        have hq17 := hg17; (try simp only [decide_eq_true_eq, decide_eq_false_iff_not, Bool.not_true, Bool.not_false, Bool.not_eq_true, Bool.not_eq_false, Bool.not_eq_eq_eq_not, Int.not_lt, Int.not_le, reduceCtorEq, Bool.true_eq_false, Bool.false_eq_true, ne_eq, Decidable.not_not, Bool.not_eq_true', bne_iff_ne, Bool.or_eq_true, Bool.and_eq_true, Bool.or_eq_false_iff, Bool.and_eq_false_iff] at hg17); simp only [List.take_succ_cons, List.take_zero, List.cons_append, List.nil_append]
        (refine rg_do rfl fun K0 hK0 => ?_; simp only [zE, op1, ev, lkp, avOf, acOf, ev, reduceCtorEq, Nat.reduceEqDiff, Nat.reduceAdd, Nat.reduceLeDiff, Nat.reduceLT, Nat.reduceMul, Nat.reduceSub, Try.el30, Try.td30, Mly.av]; (repeat refine And.intro (by omega) ?_); (first | refine hK0 _ ?_ | refine Or.inl (hK0 _ ?_)); clear hK0 K0; simp only [put, app, setAll, trOf, zE, List.set_cons_zero, List.set_cons_succ, Nat.reduceAdd])
        (refine rg_do rfl fun K0 hK0 => ?_; simp only [zE, op1, ev, lkp, avOf, acOf, opCallAny, opLen, lenAC, lenOk, fpAC, opAppend, srcOf, Ty.size, datOf, dite_true, reduceCtorEq, Nat.reduceEqDiff, Nat.reduceAdd, Nat.reduceLeDiff, Nat.reduceLT, Nat.reduceMul, Nat.reduceSub, Try.el30, Try.td3, Try.td30, Mly.av]; (repeat refine And.intro (by omega) ?_); (first | refine hK0 _ ?_ | refine Or.inl (hK0 _ ?_)); clear hK0 K0; simp only [put, app, setAll, trOf, zE, List.set_cons_zero, List.set_cons_succ, Nat.reduceAdd])
        (refine rg_do rfl fun K0 hK0 => ?_; simp only [zE, op1, ev, lkp, avOf, acOf, ev, reduceCtorEq, Nat.reduceEqDiff, Nat.reduceAdd, Nat.reduceLeDiff, Nat.reduceLT, Nat.reduceMul, Nat.reduceSub, Try.el30, Try.td30, Mly.av]; (repeat refine And.intro (by omega) ?_); (first | refine hK0 _ ?_ | refine Or.inl (hK0 _ ?_)); clear hK0 K0; simp only [put, app, setAll, trOf, zE, List.set_cons_zero, List.set_cons_succ, Nat.reduceAdd])
        (refine rg_do rfl fun K0 hK0 => ?_; simp only [zE, op1, ev, lkp, avOf, acOf, opCallAny, opLen, lenAC, lenOk, fpAC, opAppend, srcOf, Ty.size, datOf, dite_true, reduceCtorEq, Nat.reduceEqDiff, Nat.reduceAdd, Nat.reduceLeDiff, Nat.reduceLT, Nat.reduceMul, Nat.reduceSub, Try.el30, Try.td3, Try.td30, Mly.av]; (repeat refine And.intro (by omega) ?_); (first | refine hK0 _ ?_ | refine Or.inl (hK0 _ ?_)); clear hK0 K0; simp only [put, app, setAll, trOf, zE, List.set_cons_zero, List.set_cons_succ, Nat.reduceAdd])
        (refine rg_do rfl fun K0 hK0 => ?_; simp only [zE, op1, ev, lkp, avOf, acOf, ev, reduceCtorEq, Nat.reduceEqDiff, Nat.reduceAdd, Nat.reduceLeDiff, Nat.reduceLT, Nat.reduceMul, Nat.reduceSub, Try.el30, Try.td30, Mly.av]; (repeat refine And.intro (by omega) ?_); (first | refine hK0 _ ?_ | refine Or.inl (hK0 _ ?_)); clear hK0 K0; simp only [put, app, setAll, trOf, zE, List.set_cons_zero, List.set_cons_succ, Nat.reduceAdd])
        (refine rg_do rfl fun K0 hK0 => ?_; simp only [zE, op1, ev, lkp, avOf, acOf, opCallAny, opLen, lenAC, lenOk, fpAC, opAppend, srcOf, Ty.size, datOf, dite_true, reduceCtorEq, Nat.reduceEqDiff, Nat.reduceAdd, Nat.reduceLeDiff, Nat.reduceLT, Nat.reduceMul, Nat.reduceSub, Try.el30, Try.td3, Try.td30, Mly.av]; (repeat refine And.intro (by omega) ?_); (first | refine hK0 _ ?_ | refine Or.inl (hK0 _ ?_)); clear hK0 K0; simp only [put, app, setAll, trOf, zE, List.set_cons_zero, List.set_cons_succ, Nat.reduceAdd])
        (refine rg_do rfl fun K0 hK0 => ?_; simp only [zE, op1, ev, lkp, avOf, acOf, opBin, arith, inK_i64, reduceCtorEq, Nat.reduceEqDiff, Nat.reduceAdd, Nat.reduceLeDiff, Nat.reduceLT, Nat.reduceMul, Nat.reduceSub, Try.td3, Mly.av]; (repeat refine And.intro (by omega) ?_); (first | refine hK0 _ ?_ | refine Or.inl (hK0 _ ?_)); clear hK0 K0; simp only [put, app, setAll, trOf, zE, List.set_cons_zero, List.set_cons_succ, Nat.reduceAdd])
        (refine rg_do rfl fun K0 hK0 => ?_; simp only [zE, op1, ev, lkp, avOf, acOf, opBin, arith, inK_i64, reduceCtorEq, Nat.reduceEqDiff, Nat.reduceAdd, Nat.reduceLeDiff, Nat.reduceLT, Nat.reduceMul, Nat.reduceSub, Try.td3, Try.td4, Mly.av]; (repeat refine And.intro (by omega) ?_); (first | refine hK0 _ ?_ | refine Or.inl (hK0 _ ?_)); clear hK0 K0; simp only [put, app, setAll, trOf, zE, List.set_cons_zero, List.set_cons_succ, Nat.reduceAdd])
        (refine rg_step rfl fun K0 hK0 => ?_; simp only [zE, op1, ev, lkp, avOf, acOf, opPick, reduceCtorEq, Nat.reduceEqDiff, Nat.reduceAdd, Nat.reduceLeDiff, Nat.reduceLT, Nat.reduceMul, Nat.reduceSub, Try.td4, Mly.av]; (repeat refine And.intro (by omega) ?_); (first | refine hK0 _ ?_ | refine Or.inl (hK0 _ ?_)); clear hK0 K0; simp only [put, app, setAll, trOf, zE, List.set_cons_zero, List.set_cons_succ, Nat.reduceAdd])
        refine rg_nil ?_
        refine ⟨by simp only [keepEnv, lkp, zE, reduceCtorEq, Nat.reduceEqDiff, argEnv, Nat.reduceAdd]; exact rfl, rfl, ?_, rfl⟩; (repeat refine keep_cons rfl ?_); exact keep_m (by exact rfl) hq17
      case b17 => exact tle_of (by rfl)
      simp only [join_or, join_and]
      refine rg_nil ?_
      refine hK15 _ ?_; clear hK15; refine awp_keep [0, 1, 2, 3, 6, 7, 8, 9, 10, 11, 12, 13, 14, 15, 21, 45, 75] ?_; simp only [keepEnv, lkp, zE, reduceCtorEq, Nat.reduceEqDiff, argEnv, Nat.reduceAdd]
      refine awp_cond (by simp only [ev, keepEnv, lkp, zE, reduceCtorEq, Nat.reduceEqDiff, argEnv, Nat.reduceAdd]; exact rfl) (fun hc18 => ?_) (fun hc18 => ?_)
      · exfalso; first | (cases hc18; done) | (simp at hc18; done) | (simp_all; done)
      · (try simp only [decide_eq_true_eq, decide_eq_false_iff_not, Bool.not_true, Bool.not_false, Bool.not_eq_true, Bool.not_eq_false, Bool.not_eq_eq_eq_not, Int.not_lt, Int.not_le, reduceCtorEq, Bool.true_eq_false, Bool.false_eq_true, ne_eq, Decidable.not_not, Bool.not_eq_true', bne_iff_ne, Bool.or_eq_true, Bool.and_eq_true, Bool.or_eq_false_iff, Bool.and_eq_false_iff] at hc18)
        refine awp_skip ?_
        refine hK14 _ ?_; clear hK14; refine awp_keep [0, 1, 2, 3, 6, 7, 8, 9, 10, 11, 12, 13, 14, 15, 21, 45, 75] ?_; simp only [keepEnv, lkp, zE, reduceCtorEq, Nat.reduceEqDiff, argEnv, Nat.reduceAdd]
        refine awp_seq_k fun K19 hK19 => ?_
        refine awp_reg hP hN rfl ?_
        iterate 5 (refine rg_step rfl fun K0 hK0 => ?_; simp only [zE, op1, ev, lkp, avOf, acOf, opCallAny, opLen, lenAC, lenOk, fpAC, opAppend, srcOf, Ty.size, datOf, dite_true, opSlice, bnd, reduceCtorEq, Nat.reduceEqDiff, Nat.reduceAdd, Nat.reduceLeDiff, Nat.reduceLT, Nat.reduceMul, Nat.reduceSub, Try.el30, Try.td3, Try.td30, Mly.av]; (repeat refine And.intro (by omega) ?_); (first | refine hK0 _ ?_ | refine Or.inl (hK0 _ ?_)); clear hK0 K0; simp only [put, app, setAll, trOf, zE, List.set_cons_zero, List.set_cons_succ, Nat.reduceAdd])
        refine rg_step rfl fun K0 hK0 => ?_
        refine op_call (h := call_of_pure (ints_c ((fromV m m.st [u, v].flatten).take (fromV m m.st u).length) (fromV m m.st u))) rfl rfl (by first | exact rfl | (simp only [ev, keepEnv, lkp, zE, reduceCtorEq, Nat.reduceEqDiff, argEnv, Nat.reduceAdd]; exact rfl)) (by simp only [zE, zG, op1, ev, lkp, avOf, acOf, cellsAV, acs, capAV, mv1, mvC, Ty.dflt, reduceCtorEq, Nat.reduceEqDiff, Nat.reduceAdd, Nat.reduceLeDiff, Nat.reduceLT, Nat.reduceMul, Nat.reduceSub, Mly.av]) ?_
        refine hK0 _ ?_; clear hK0 K0; simp only [put, app, setAll, trOf, zE, List.set_cons_zero, List.set_cons_succ, Nat.reduceAdd]
        (refine rg_step rfl fun K0 hK0 => ?_; simp only [zE, op1, ev, lkp, avOf, acOf, ev, reduceCtorEq, Nat.reduceEqDiff, Nat.reduceAdd, Nat.reduceLeDiff, Nat.reduceLT, Nat.reduceMul, Nat.reduceSub, Try.td4, Mly.av]; (repeat refine And.intro (by omega) ?_); (first | refine hK0 _ ?_ | refine Or.inl (hK0 _ ?_)); clear hK0 K0; simp only [put, app, setAll, trOf, zE, List.set_cons_zero, List.set_cons_succ, Nat.reduceAdd])
        refine' rg_join_n (want := true) 6 rfl (m := 82) (by simp only [keepEnv, lkp, zE, reduceCtorEq, Nat.reduceEqDiff, argEnv, Nat.reduceAdd]; exact rfl) (by kernel_rfl) rfl rfl rfl rfl rfl (fun hg20 => ?a20) ?b20 ?c20
        case a20 =>
          have hq20 := hg20; (try simp only [decide_eq_true_eq, decide_eq_false_iff_not, Bool.not_true, Bool.not_false, Bool.not_eq_true, Bool.not_eq_false, Bool.not_eq_eq_eq_not, Int.not_lt, Int.not_le, reduceCtorEq, Bool.true_eq_false, Bool.false_eq_true, ne_eq, Decidable.not_not, Bool.not_eq_true', bne_iff_ne, Bool.or_eq_true, Bool.and_eq_true, Bool.or_eq_false_iff, Bool.and_eq_false_iff] at hg20); simp only [List.take_succ_cons, List.take_zero, List.cons_append, List.nil_append]
          (refine rg_do rfl fun K0 hK0 => ?_; simp only [zE, op1, ev, lkp, avOf, acOf, ev, reduceCtorEq, Nat.reduceEqDiff, Nat.reduceAdd, Nat.reduceLeDiff, Nat.reduceLT, Nat.reduceMul, Nat.reduceSub, Try.el30, Try.td30, Mly.av]; (repeat refine And.intro (by omega) ?_); (first | refine hK0 _ ?_ | refine Or.inl (hK0 _ ?_)); clear hK0 K0; simp only [put, app, setAll, trOf, zE, List.set_cons_zero, List.set_cons_succ, Nat.reduceAdd])
          (refine rg_do rfl fun K0 hK0 => ?_; simp only [zE, op1, ev, lkp, avOf, acOf, ev, reduceCtorEq, Nat.reduceEqDiff, Nat.reduceAdd, Nat.reduceLeDiff, Nat.reduceLT, Nat.reduceMul, Nat.reduceSub, Try.el30, Try.td30, Mly.av]; (repeat refine And.intro (by omega) ?_); (first | refine hK0 _ ?_ | refine Or.inl (hK0 _ ?_)); clear hK0 K0; simp only [put, app, setAll, trOf, zE, List.set_cons_zero, List.set_cons_succ, Nat.reduceAdd])
          (refine rg_do rfl fun K0 hK0 => ?_; simp only [zE, op1, ev, lkp, avOf, acOf, opCallAny, opLen, lenAC, lenOk, fpAC, opAppend, srcOf, Ty.size, datOf, dite_true, reduceCtorEq, Nat.reduceEqDiff, Nat.reduceAdd, Nat.reduceLeDiff, Nat.reduceLT, Nat.reduceMul, Nat.reduceSub, Try.el30, Try.td3, Try.td30, Mly.av]; (repeat refine And.intro (by omega) ?_); (first | refine hK0 _ ?_ | refine Or.inl (hK0 _ ?_)); clear hK0 K0; simp only [put, app, setAll, trOf, zE, List.set_cons_zero, List.set_cons_succ, Nat.reduceAdd])
          (refine rg_do rfl fun K0 hK0 => ?_; simp only [zE, op1, ev, lkp, avOf, acOf, opSlice, bnd, Ty.size, reduceCtorEq, Nat.reduceEqDiff, Nat.reduceAdd, Nat.reduceLeDiff, Nat.reduceLT, Nat.reduceMul, Nat.reduceSub, Try.el30, Try.td30, Mly.av]; (repeat refine And.intro (by omega) ?_); (first | refine hK0 _ ?_ | refine Or.inl (hK0 _ ?_)); clear hK0 K0; simp only [put, app, setAll, trOf, zE, List.set_cons_zero, List.set_cons_succ, Nat.reduceAdd])
          (refine rg_do rfl fun K0 hK0 => ?_; simp only [zE, op1, ev, lkp, avOf, acOf, ev, reduceCtorEq, Nat.reduceEqDiff, Nat.reduceAdd, Nat.reduceLeDiff, Nat.reduceLT, Nat.reduceMul, Nat.reduceSub, Try.el30, Try.td30, Mly.av]; (repeat refine And.intro (by omega) ?_); (first | refine hK0 _ ?_ | refine Or.inl (hK0 _ ?_)); clear hK0 K0; simp only [put, app, setAll, trOf, zE, List.set_cons_zero, List.set_cons_succ, Nat.reduceAdd])
          refine rg_do rfl fun K0 hK0 => ?_
          refine op_call (h := call_of_pure (ints_c (((fromV m m.st [u, v].flatten).take (fromV m m.st [u, v].flatten).length).drop (fromV m m.st u).length) (fromV m (fromS m m.st u) v))) rfl rfl (by first | exact rfl | (simp only [ev, keepEnv, lkp, zE, reduceCtorEq, Nat.reduceEqDiff, argEnv, Nat.reduceAdd]; exact rfl)) (by simp only [zE, zG, op1, ev, lkp, avOf, acOf, cellsAV, acs, capAV, mv1, mvC, Ty.dflt, reduceCtorEq, Nat.reduceEqDiff, Nat.reduceAdd, Nat.reduceLeDiff, Nat.reduceLT, Nat.reduceMul, Nat.reduceSub, Mly.av]) ?_
          refine hK0 _ ?_; clear hK0 K0; simp only [put, app, setAll, trOf, zE, List.set_cons_zero, List.set_cons_succ, Nat.reduceAdd]
          (refine rg_step rfl fun K0 hK0 => ?_; simp only [zE, op1, ev, lkp, avOf, acOf, opPick, reduceCtorEq, Nat.reduceEqDiff, Nat.reduceAdd, Nat.reduceLeDiff, Nat.reduceLT, Nat.reduceMul, Nat.reduceSub, Try.td4, Mly.av]; (repeat refine And.intro (by omega) ?_); (first | refine hK0 _ ?_ | refine Or.inl (hK0 _ ?_)); clear hK0 K0; simp only [put, app, setAll, trOf, zE, List.set_cons_zero, List.set_cons_succ, Nat.reduceAdd])
          refine rg_nil ?_
          refine ⟨by simp only [keepEnv, lkp, zE, reduceCtorEq, Nat.reduceEqDiff, argEnv, Nat.reduceAdd]; exact rfl, rfl, ?_, rfl⟩; (repeat refine keep_cons rfl ?_); exact keep_m (by exact rfl) hq20
        case b20 => exact tle_of (by rfl)
        simp only [join_or, join_and]
        (refine rg_step rfl fun K0 hK0 => ?_; simp only [zE, op1, ev, lkp, avOf, acOf, ev, reduceCtorEq, Nat.reduceEqDiff, Nat.reduceAdd, Nat.reduceLeDiff, Nat.reduceLT, Nat.reduceMul, Nat.reduceSub, Try.td4, Mly.av]; (repeat refine And.intro (by omega) ?_); (first | refine hK0 _ ?_ | refine Or.inl (hK0 _ ?_)); clear hK0 K0; simp only [put, app, setAll, trOf, zE, List.set_cons_zero, List.set_cons_succ, Nat.reduceAdd])
        refine' rg_join_n (want := true) 5 rfl (m := 90) (by simp only [keepEnv, lkp, zE, reduceCtorEq, Nat.reduceEqDiff, argEnv, Nat.reduceAdd]; exact rfl) (by kernel_rfl) rfl rfl rfl rfl rfl (fun hg21 => ?a21) ?b21 ?c21
        case a21 =>
          have hq21 := hg21; (try simp only [decide_eq_true_eq, decide_eq_false_iff_not, Bool.not_true, Bool.not_false, Bool.not_eq_true, Bool.not_eq_false, Bool.not_eq_eq_eq_not, Int.not_lt, Int.not_le, reduceCtorEq, Bool.true_eq_false, Bool.false_eq_true, ne_eq, Decidable.not_not, Bool.not_eq_true', bne_iff_ne, Bool.or_eq_true, Bool.and_eq_true, Bool.or_eq_false_iff, Bool.and_eq_false_iff] at hg21); simp only [List.take_succ_cons, List.take_zero, List.cons_append, List.nil_append]
          (refine rg_do rfl fun K0 hK0 => ?_; simp only [zE, op1, ev, lkp, avOf, acOf, ev, reduceCtorEq, Nat.reduceEqDiff, Nat.reduceAdd, Nat.reduceLeDiff, Nat.reduceLT, Nat.reduceMul, Nat.reduceSub, Try.el30, Try.td30, Mly.av]; (repeat refine And.intro (by omega) ?_); (first | refine hK0 _ ?_ | refine Or.inl (hK0 _ ?_)); clear hK0 K0; simp only [put, app, setAll, trOf, zE, List.set_cons_zero, List.set_cons_succ, Nat.reduceAdd])
          (refine rg_do rfl fun K0 hK0 => ?_; simp only [zE, op1, ev, lkp, avOf, acOf, opCallAny, opLen, lenAC, lenOk, fpAC, opAppend, srcOf, Ty.size, datOf, dite_true, reduceCtorEq, Nat.reduceEqDiff, Nat.reduceAdd, Nat.reduceLeDiff, Nat.reduceLT, Nat.reduceMul, Nat.reduceSub, Try.el30, Try.td3, Try.td30, Mly.av]; (repeat refine And.intro (by omega) ?_); (first | refine hK0 _ ?_ | refine Or.inl (hK0 _ ?_)); clear hK0 K0; simp only [put, app, setAll, trOf, zE, List.set_cons_zero, List.set_cons_succ, Nat.reduceAdd])
          (refine rg_do rfl fun K0 hK0 => ?_; simp only [zE, op1, ev, lkp, avOf, acOf, ev, reduceCtorEq, Nat.reduceEqDiff, Nat.reduceAdd, Nat.reduceLeDiff, Nat.reduceLT, Nat.reduceMul, Nat.reduceSub, Try.el30, Try.td30, Mly.av]; (repeat refine And.intro (by omega) ?_); (first | refine hK0 _ ?_ | refine Or.inl (hK0 _ ?_)); clear hK0 K0; simp only [put, app, setAll, trOf, zE, List.set_cons_zero, List.set_cons_succ, Nat.reduceAdd])
          (refine rg_do rfl fun K0 hK0 => ?_; simp only [zE, op1, ev, lkp, avOf, acOf, opCallAny, opLen, lenAC, lenOk, fpAC, opAppend, srcOf, Ty.size, datOf, dite_true, reduceCtorEq, Nat.reduceEqDiff, Nat.reduceAdd, Nat.reduceLeDiff, Nat.reduceLT, Nat.reduceMul, Nat.reduceSub, Try.el30, Try.td3, Try.td30, Mly.av]; (repeat refine And.intro (by omega) ?_); (first | refine hK0 _ ?_ | refine Or.inl (hK0 _ ?_)); clear hK0 K0; simp only [put, app, setAll, trOf, zE, List.set_cons_zero, List.set_cons_succ, Nat.reduceAdd])
          (refine rg_do rfl fun K0 hK0 => ?_; simp only [zE, op1, ev, lkp, avOf, acOf, opBin, arith, inK_i64, reduceCtorEq, Nat.reduceEqDiff, Nat.reduceAdd, Nat.reduceLeDiff, Nat.reduceLT, Nat.reduceMul, Nat.reduceSub, Try.td3, Try.td4, Mly.av]; (repeat refine And.intro (by omega) ?_); (first | refine hK0 _ ?_ | refine Or.inl (hK0 _ ?_)); clear hK0 K0; simp only [put, app, setAll, trOf, zE, List.set_cons_zero, List.set_cons_succ, Nat.reduceAdd])
          (refine rg_step rfl fun K0 hK0 => ?_; simp only [zE, op1, ev, lkp, avOf, acOf, opPick, reduceCtorEq, Nat.reduceEqDiff, Nat.reduceAdd, Nat.reduceLeDiff, Nat.reduceLT, Nat.reduceMul, Nat.reduceSub, Try.td4, Mly.av]; (repeat refine And.intro (by omega) ?_); (first | refine hK0 _ ?_ | refine Or.inl (hK0 _ ?_)); clear hK0 K0; simp only [put, app, setAll, trOf, zE, List.set_cons_zero, List.set_cons_succ, Nat.reduceAdd])
          refine rg_nil ?_
          refine ⟨by simp only [keepEnv, lkp, zE, reduceCtorEq, Nat.reduceEqDiff, argEnv, Nat.reduceAdd]; exact rfl, rfl, ?_, rfl⟩; (repeat refine keep_cons rfl ?_); exact keep_m (by exact rfl) hq21
        case b21 => exact tle_of (by rfl)
        simp only [join_or, join_and]
        (refine rg_step rfl fun K0 hK0 => ?_; simp only [zE, op1, ev, lkp, avOf, acOf, ev, reduceCtorEq, Nat.reduceEqDiff, Nat.reduceAdd, Nat.reduceLeDiff, Nat.reduceLT, Nat.reduceMul, Nat.reduceSub, Try.td4, Mly.av]; (repeat refine And.intro (by omega) ?_); (first | refine hK0 _ ?_ | refine Or.inl (hK0 _ ?_)); clear hK0 K0; simp only [put, app, setAll, trOf, zE, List.set_cons_zero, List.set_cons_succ, Nat.reduceAdd])
        refine' rg_join_n (want := true) 1 rfl (m := 97) (by simp only [keepEnv, lkp, zE, reduceCtorEq, Nat.reduceEqDiff, argEnv, Nat.reduceAdd]; exact rfl) (by kernel_rfl) rfl rfl rfl rfl rfl (fun hg22 => ?a22) ?b22 ?c22
        case a22 =>
          have hq22 := hg22; (try simp only [decide_eq_true_eq, decide_eq_false_iff_not, Bool.not_true, Bool.not_false, Bool.not_eq_true, Bool.not_eq_false, Bool.not_eq_eq_eq_not, Int.not_lt, Int.not_le, reduceCtorEq, Bool.true_eq_false, Bool.false_eq_true, ne_eq, Decidable.not_not, Bool.not_eq_true', bne_iff_ne, Bool.or_eq_true, Bool.and_eq_true, Bool.or_eq_false_iff, Bool.and_eq_false_iff] at hg22); simp only [List.take_succ_cons, List.take_zero, List.cons_append, List.nil_append]
          refine rg_do rfl fun K0 hK0 => ?_
          refine op_call (h := call_of_pure awake_c) rfl rfl (by first | exact rfl | (simp only [ev, keepEnv, lkp, zE, reduceCtorEq, Nat.reduceEqDiff, argEnv, Nat.reduceAdd]; exact rfl)) (by simp only [zE, zG, op1, ev, lkp, avOf, acOf, cellsAV, acs, capAV, mv1, mvC, Ty.dflt, reduceCtorEq, Nat.reduceEqDiff, Nat.reduceAdd, Nat.reduceLeDiff, Nat.reduceLT, Nat.reduceMul, Nat.reduceSub, Mly.av]) ?_
          refine hK0 _ ?_; clear hK0 K0; simp only [put, app, setAll, trOf, zE, List.set_cons_zero, List.set_cons_succ, Nat.reduceAdd]
          (refine rg_step rfl fun K0 hK0 => ?_; simp only [zE, op1, ev, lkp, avOf, acOf, opPick, reduceCtorEq, Nat.reduceEqDiff, Nat.reduceAdd, Nat.reduceLeDiff, Nat.reduceLT, Nat.reduceMul, Nat.reduceSub, Try.td4, Mly.av]; (repeat refine And.intro (by omega) ?_); (first | refine hK0 _ ?_ | refine Or.inl (hK0 _ ?_)); clear hK0 K0; simp only [put, app, setAll, trOf, zE, List.set_cons_zero, List.set_cons_succ, Nat.reduceAdd])
          refine rg_nil ?_
          refine ⟨by simp only [keepEnv, lkp, zE, reduceCtorEq, Nat.reduceEqDiff, argEnv, Nat.reduceAdd]; exact rfl, rfl, ?_, rfl⟩; (repeat refine keep_cons rfl ?_); exact keep_m (by exact rfl) hq22
        case b22 => exact tle_of (by rfl)
        simp only [join_or, join_and]
        (refine rg_step rfl fun K0 hK0 => ?_; simp only [zE, op1, ev, lkp, avOf, acOf, ev, reduceCtorEq, Nat.reduceEqDiff, Nat.reduceAdd, Nat.reduceLeDiff, Nat.reduceLT, Nat.reduceMul, Nat.reduceSub, Try.td4, Mly.av]; (repeat refine And.intro (by omega) ?_); (first | refine hK0 _ ?_ | refine Or.inl (hK0 _ ?_)); clear hK0 K0; simp only [put, app, setAll, trOf, zE, List.set_cons_zero, List.set_cons_succ, Nat.reduceAdd])
        refine rg_nil ?_
        refine hK19 _ ?_; clear hK19; refine awp_keep [0, 1, 2, 3, 6, 7, 8, 9, 10, 11, 12, 13, 14, 15, 21, 45, 75] ?_; simp only [keepEnv, lkp, zE, reduceCtorEq, Nat.reduceEqDiff, argEnv, Nat.reduceAdd]
        refine awp_ret ?_
        refine ⟨by first | exact .inl rfl | exact .inr rfl, _, rfl, ?_⟩; simp only [fzV, fz1, fzC, List.map_cons, List.map_nil, keepEnv, lkp, zE, reduceCtorEq, Nat.reduceEqDiff, argEnv, Nat.reduceAdd, Mly.av]
        refine VLE.of_eq ?_
        first | rfl | (refine congrArg (fun b => AV.one (AC.bool b)) ?_; rw [List.take_length, j3, List.take_left, List.drop_left, j4]; simp)
end Go.Proofs.Ytcbkfkgagcfcoaa
