/- Contracts of functions of this package, each out of a walk through its code. Conditions: those that each theorem names. -/
import Derived.Test.YtcbkfkgagcfcoaaWf
set_option linter.unusedSimpArgs false
set_option linter.unusedVariables false
namespace Go.Proofs.Ytcbkfkgagcfcoaa
open Go Go.AV
set_option maxRecDepth 100000 in
theorem rcheck_c (w : List Int) (n : Int) : PURE Try.prog 40 [.one (.list (.int .i64) w), .one (.int .i64 n)] (.one (.int .i64 (wordE w n))) := by
  refine pure_of_le Try.func40 rfl (by kernel_rfl) (Nat.le_of_ble_eq_true rfl) rfl fun C hP hN hB => ?_
  replace hN : C.N = 31 := hN
  simp only [argEnv, Nat.reduceAdd]
  refine awp_seq_k fun K1 hK1 => ?_
  refine awp_reg hP hN rfl ?_
  (refine rg_step rfl fun K0 hK0 => ?_; simp only [zE, op1, ev, lkp, avOf, acOf, ev, reduceCtorEq, Nat.reduceEqDiff, Nat.reduceAdd, Nat.reduceLeDiff, Nat.reduceLT, Nat.reduceMul, Nat.reduceSub, Try.td3]; (repeat refine And.intro (by omega) ?_); (first | refine hK0 _ ?_ | refine Or.inl (hK0 _ ?_)); clear hK0 K0; simp only [put, app, setAll, trOf, zE, List.set_cons_zero, List.set_cons_succ, Nat.reduceAdd])
  refine rg_nil ?_
  refine hK1 _ ?_; clear hK1; refine awp_keep [0, 1, 4] ?_; simp only [keepEnv, lkp, zE, reduceCtorEq, Nat.reduceEqDiff, argEnv, Nat.reduceAdd]
  refine awp_seq_k fun K2 hK2 => ?_
  refine awp_seq_k fun K3 hK3 => ?_
  refine awp_reg hP hN rfl ?_
  (refine rg_step rfl fun K0 hK0 => ?_; simp only [zE, op1, ev, lkp, avOf, acOf, ev, reduceCtorEq, Nat.reduceEqDiff, Nat.reduceAdd, Nat.reduceLeDiff, Nat.reduceLT, Nat.reduceMul, Nat.reduceSub, Try.td3]; (repeat refine And.intro (by omega) ?_); (first | refine hK0 _ ?_ | refine Or.inl (hK0 _ ?_)); clear hK0 K0; simp only [put, app, setAll, trOf, zE, List.set_cons_zero, List.set_cons_succ, Nat.reduceAdd])
  refine rg_step rfl fun K0 hK0 => ?_
  refine op_call (h := call_of_pure (size_c n)) rfl rfl (by first | exact rfl | (simp only [ev, keepEnv, lkp, zE, reduceCtorEq, Nat.reduceEqDiff, argEnv, Nat.reduceAdd]; exact rfl)) (by simp only [zE, zG, op1, ev, lkp, avOf, acOf, cellsAV, acs, capAV, mv1, mvC, Ty.dflt, reduceCtorEq, Nat.reduceEqDiff, Nat.reduceAdd, Nat.reduceLeDiff, Nat.reduceLT, Nat.reduceMul, Nat.reduceSub]) ?_
  refine hK0 _ ?_; clear hK0 K0; simp only [put, app, setAll, trOf, zE, List.set_cons_zero, List.set_cons_succ, Nat.reduceAdd]
  (refine rg_step rfl fun K0 hK0 => ?_; simp only [zE, op1, ev, lkp, avOf, acOf, opUn, reduceCtorEq, Nat.reduceEqDiff, Nat.reduceAdd, Nat.reduceLeDiff, Nat.reduceLT, Nat.reduceMul, Nat.reduceSub, Try.td4]; (repeat refine And.intro (by omega) ?_); (first | refine hK0 _ ?_ | refine Or.inl (hK0 _ ?_)); clear hK0 K0; simp only [put, app, setAll, trOf, zE, List.set_cons_zero, List.set_cons_succ, Nat.reduceAdd])
  refine rg_nil ?_
  refine hK3 _ ?_; clear hK3; refine awp_keep [0, 1, 4, 8] ?_; simp only [keepEnv, lkp, zE, reduceCtorEq, Nat.reduceEqDiff, argEnv, Nat.reduceAdd]
  refine awp_cond (by simp only [ev, keepEnv, lkp, zE, reduceCtorEq, Nat.reduceEqDiff, argEnv, Nat.reduceAdd]; exact rfl) (fun hc4 => ?_) (fun hc4 => ?_)
  · (try simp only [decide_eq_true_eq, decide_eq_false_iff_not, Bool.not_true, Bool.not_false, Bool.not_eq_true, Bool.not_eq_false, Bool.not_eq_eq_eq_not, Int.not_lt, Int.not_le, reduceCtorEq, Bool.true_eq_false, Bool.false_eq_true, ne_eq, Decidable.not_not, Bool.not_eq_true', bne_iff_ne, Bool.or_eq_true, Bool.and_eq_true, Bool.or_eq_false_iff, Bool.and_eq_false_iff] at hc4)
    refine awp_seq_k fun K5 hK5 => ?_
    refine awp_reg hP hN rfl ?_
    (refine rg_step rfl fun K0 hK0 => ?_; simp only [zE, op1, ev, lkp, avOf, acOf, ev, reduceCtorEq, Nat.reduceEqDiff, Nat.reduceAdd, Nat.reduceLeDiff, Nat.reduceLT, Nat.reduceMul, Nat.reduceSub, Try.td3]; (repeat refine And.intro (by omega) ?_); (first | refine hK0 _ ?_ | refine Or.inl (hK0 _ ?_)); clear hK0 K0; simp only [put, app, setAll, trOf, zE, List.set_cons_zero, List.set_cons_succ, Nat.reduceAdd])
    refine rg_nil ?_
    refine hK5 _ ?_; clear hK5; refine awp_keep [0, 1, 4, 8] ?_; simp only [keepEnv, lkp, zE, reduceCtorEq, Nat.reduceEqDiff, argEnv, Nat.reduceAdd]
    refine awp_ret ?_
    refine ⟨by first | exact .inl rfl | exact .inr rfl, _, rfl, ?_⟩; simp only [fzV, fz1, fzC, List.map_cons, List.map_nil, keepEnv, lkp, zE, reduceCtorEq, Nat.reduceEqDiff, argEnv, Nat.reduceAdd]
    refine VLE.of_eq ?_
    refine congrArg (fun n => AV.one (AC.int IntKind.i64 n)) ?_
    symm
    first
    | (unfold wordE; rw [if_pos (by omega)]; done)
    | (unfold wordE; rw [if_neg (by omega), if_pos (by omega)]; done)
    | exact wordE_bad (by omega) (by omega) (by omega) (i := k) (by omega) (by omega)
    | exact wordE_ok (by omega) (by omega) ⟨by omega, fun i hi => hI i (by omega)⟩
  · (try simp only [decide_eq_true_eq, decide_eq_false_iff_not, Bool.not_true, Bool.not_false, Bool.not_eq_true, Bool.not_eq_false, Bool.not_eq_eq_eq_not, Int.not_lt, Int.not_le, reduceCtorEq, Bool.true_eq_false, Bool.false_eq_true, ne_eq, Decidable.not_not, Bool.not_eq_true', bne_iff_ne, Bool.or_eq_true, Bool.and_eq_true, Bool.or_eq_false_iff, Bool.and_eq_false_iff] at hc4)
    refine awp_skip ?_
    refine hK2 _ ?_; clear hK2; refine awp_keep [0, 1, 4, 8] ?_; simp only [keepEnv, lkp, zE, reduceCtorEq, Nat.reduceEqDiff, argEnv, Nat.reduceAdd]
    refine awp_seq_k fun K6 hK6 => ?_
    refine awp_seq_k fun K7 hK7 => ?_
    refine awp_reg hP hN rfl ?_
    iterate 3 (refine rg_step rfl fun K0 hK0 => ?_; simp only [zE, op1, ev, lkp, avOf, acOf, opCallAny, opLen, lenAC, lenOk, fpAC, opAppend, srcOf, Ty.size, datOf, dite_true, opBin, arith, inK_i64, reduceCtorEq, Nat.reduceEqDiff, Nat.reduceAdd, Nat.reduceLeDiff, Nat.reduceLT, Nat.reduceMul, Nat.reduceSub, Try.el30, Try.td3, Try.td30, Try.td4]; (repeat refine And.intro (by omega) ?_); (first | refine hK0 _ ?_ | refine Or.inl (hK0 _ ?_)); clear hK0 K0; simp only [put, app, setAll, trOf, zE, List.set_cons_zero, List.set_cons_succ, Nat.reduceAdd])
    refine rg_nil ?_
    refine hK7 _ ?_; clear hK7; refine awp_keep [0, 1, 4, 8, 11] ?_; simp only [keepEnv, lkp, zE, reduceCtorEq, Nat.reduceEqDiff, argEnv, Nat.reduceAdd]
    refine awp_cond (by simp only [ev, keepEnv, lkp, zE, reduceCtorEq, Nat.reduceEqDiff, argEnv, Nat.reduceAdd]; exact rfl) (fun hc8 => ?_) (fun hc8 => ?_)
    · (try simp only [decide_eq_true_eq, decide_eq_false_iff_not, Bool.not_true, Bool.not_false, Bool.not_eq_true, Bool.not_eq_false, Bool.not_eq_eq_eq_not, Int.not_lt, Int.not_le, reduceCtorEq, Bool.true_eq_false, Bool.false_eq_true, ne_eq, Decidable.not_not, Bool.not_eq_true', bne_iff_ne, Bool.or_eq_true, Bool.and_eq_true, Bool.or_eq_false_iff, Bool.and_eq_false_iff] at hc8)
      refine awp_seq_k fun K9 hK9 => ?_
      refine awp_reg hP hN rfl ?_
      (refine rg_step rfl fun K0 hK0 => ?_; simp only [zE, op1, ev, lkp, avOf, acOf, ev, reduceCtorEq, Nat.reduceEqDiff, Nat.reduceAdd, Nat.reduceLeDiff, Nat.reduceLT, Nat.reduceMul, Nat.reduceSub, Try.td3]; (repeat refine And.intro (by omega) ?_); (first | refine hK0 _ ?_ | refine Or.inl (hK0 _ ?_)); clear hK0 K0; simp only [put, app, setAll, trOf, zE, List.set_cons_zero, List.set_cons_succ, Nat.reduceAdd])
      refine rg_nil ?_
      refine hK9 _ ?_; clear hK9; refine awp_keep [0, 1, 4, 8, 11] ?_; simp only [keepEnv, lkp, zE, reduceCtorEq, Nat.reduceEqDiff, argEnv, Nat.reduceAdd]
      refine awp_ret ?_
      refine ⟨by first | exact .inl rfl | exact .inr rfl, _, rfl, ?_⟩; simp only [fzV, fz1, fzC, List.map_cons, List.map_nil, keepEnv, lkp, zE, reduceCtorEq, Nat.reduceEqDiff, argEnv, Nat.reduceAdd]
      refine VLE.of_eq ?_
      refine congrArg (fun n => AV.one (AC.int IntKind.i64 n)) ?_
      symm
      first
      | (unfold wordE; rw [if_pos (by omega)]; done)
      | (unfold wordE; rw [if_neg (by omega), if_pos (by omega)]; done)
      | exact wordE_bad (by omega) (by omega) (by omega) (i := k) (by omega) (by omega)
      | exact wordE_ok (by omega) (by omega) ⟨by omega, fun i hi => hI i (by omega)⟩
    · (try simp only [decide_eq_true_eq, decide_eq_false_iff_not, Bool.not_true, Bool.not_false, Bool.not_eq_true, Bool.not_eq_false, Bool.not_eq_eq_eq_not, Int.not_lt, Int.not_le, reduceCtorEq, Bool.true_eq_false, Bool.false_eq_true, ne_eq, Decidable.not_not, Bool.not_eq_true', bne_iff_ne, Bool.or_eq_true, Bool.and_eq_true, Bool.or_eq_false_iff, Bool.and_eq_false_iff] at hc8)
      refine awp_skip ?_
      refine hK6 _ ?_; clear hK6; refine awp_keep [0, 1, 4, 8, 11] ?_; simp only [keepEnv, lkp, zE, reduceCtorEq, Nat.reduceEqDiff, argEnv, Nat.reduceAdd]
      refine awp_seq_k fun K10 hK10 => ?_
      refine awp_seq_k fun K11 hK11 => ?_
      refine awp_reg hP hN rfl ?_
      (refine rg_step rfl fun K0 hK0 => ?_; simp only [zE, op1, ev, lkp, avOf, acOf, ev, reduceCtorEq, Nat.reduceEqDiff, Nat.reduceAdd, Nat.reduceLeDiff, Nat.reduceLT, Nat.reduceMul, Nat.reduceSub, Try.td3]; (repeat refine And.intro (by omega) ?_); (first | refine hK0 _ ?_ | refine Or.inl (hK0 _ ?_)); clear hK0 K0; simp only [put, app, setAll, trOf, zE, List.set_cons_zero, List.set_cons_succ, Nat.reduceAdd])
      refine rg_nil ?_
      refine hK11 _ ?_; clear hK11; refine awp_keep [0, 1, 4, 5, 8, 11] ?_; simp only [keepEnv, lkp, zE, reduceCtorEq, Nat.reduceEqDiff, argEnv, Nat.reduceAdd]
      refine awp_block ?_
      refine awp_loop (fun n12 s12 => ∃ (k : Nat), (k ≤ w.length) ∧ (∀ i, i < k → 0 ≤ w.getD i 0 ∧ w.getD i 0 < n) ∧ n12 = w.length - k ∧ s12 = { env := [(0, .one (.list (.int .i64) w)), (1, .one (.int .i64 n)), (5, .one (.int .i64 (k : Int)))], L := [] }) ?_ ?_
      · exact ⟨_, _, sub_keep [0, 1, 5], 0, Nat.zero_le _, fun i hi => by omega, rfl, rfl⟩
      · rintro n12 s12 ⟨k, hk, hI, rfl, rfl⟩
        refine awp_seq_k fun K13 hK13 => ?_
        refine awp_seq_k fun K14 hK14 => ?_
        refine awp_reg hP hN rfl ?_
        iterate 4 (refine rg_step rfl fun K0 hK0 => ?_; simp only [zE, op1, ev, lkp, avOf, acOf, opCallAny, opLen, lenAC, lenOk, fpAC, opAppend, srcOf, Ty.size, datOf, dite_true, opBin, arith, inK_i64, reduceCtorEq, Nat.reduceEqDiff, Nat.reduceAdd, Nat.reduceLeDiff, Nat.reduceLT, Nat.reduceMul, Nat.reduceSub, Try.el30, Try.td3, Try.td30, Try.td4]; (repeat refine And.intro (by omega) ?_); (first | refine hK0 _ ?_ | refine Or.inl (hK0 _ ?_)); clear hK0 K0; simp only [put, app, setAll, trOf, zE, List.set_cons_zero, List.set_cons_succ, Nat.reduceAdd])
        refine rg_nil ?_
        refine hK14 _ ?_; clear hK14; refine awp_keep [0, 1, 5, 15] ?_; simp only [keepEnv, lkp, zE, reduceCtorEq, Nat.reduceEqDiff, argEnv, Nat.reduceAdd]
        refine awp_cond (by simp only [ev, keepEnv, lkp, zE, reduceCtorEq, Nat.reduceEqDiff, argEnv, Nat.reduceAdd]; exact rfl) (fun hc15 => ?_) (fun hc15 => ?_)
        · (try simp only [decide_eq_true_eq, decide_eq_false_iff_not, Bool.not_true, Bool.not_false, Bool.not_eq_true, Bool.not_eq_false, Bool.not_eq_eq_eq_not, Int.not_lt, Int.not_le, reduceCtorEq, Bool.true_eq_false, Bool.false_eq_true, ne_eq, Decidable.not_not, Bool.not_eq_true', bne_iff_ne, Bool.or_eq_true, Bool.and_eq_true, Bool.or_eq_false_iff, Bool.and_eq_false_iff] at hc15)
          refine awp_skip ?_
          refine hK13 _ ?_; clear hK13; refine awp_keep [0, 1, 5, 15] ?_; simp only [keepEnv, lkp, zE, reduceCtorEq, Nat.reduceEqDiff, argEnv, Nat.reduceAdd]
          refine awp_seq_k fun K16 hK16 => ?_
          refine awp_block ?_
          refine awp_seq_k fun K17 hK17 => ?_
          refine awp_reg hP hN rfl ?_
          iterate 5 (refine rg_step rfl fun K0 hK0 => ?_; simp only [zE, op1, ev, lkp, avOf, acOf, opIndexAddr, zG, Ty.dflt, Ty.size, opLoad, readAC, isAggK, acs, cellsAt, opBin, arith, inK_i64, reduceCtorEq, Nat.reduceEqDiff, Nat.reduceAdd, Nat.reduceLeDiff, Nat.reduceLT, Nat.reduceMul, Nat.reduceSub, Try.el30, Try.td3, Try.td30, Try.td4]; (repeat refine And.intro (by omega) ?_); (first | refine hK0 _ ?_ | refine Or.inl (hK0 _ ?_)); clear hK0 K0; simp only [put, app, setAll, trOf, zE, List.set_cons_zero, List.set_cons_succ, Nat.reduceAdd])
          (refine rg_step rfl fun K0 hK0 => ?_; simp only [zE, op1, ev, lkp, avOf, acOf, ev, reduceCtorEq, Nat.reduceEqDiff, Nat.reduceAdd, Nat.reduceLeDiff, Nat.reduceLT, Nat.reduceMul, Nat.reduceSub, Try.td4]; (repeat refine And.intro (by omega) ?_); (first | refine hK0 _ ?_ | refine Or.inl (hK0 _ ?_)); clear hK0 K0; simp only [put, app, setAll, trOf, zE, List.set_cons_zero, List.set_cons_succ, Nat.reduceAdd])
          refine' rg_join_n (want := false) 6 rfl (m := 23) (by simp only [keepEnv, lkp, zE, reduceCtorEq, Nat.reduceEqDiff, argEnv, Nat.reduceAdd]; exact rfl) (by kernel_rfl) rfl rfl rfl rfl rfl (fun hg18 => ?a18) ?b18 ?c18
          case a18 =>
            have hq18 := hg18; (try simp only [decide_eq_true_eq, decide_eq_false_iff_not, Bool.not_true, Bool.not_false, Bool.not_eq_true, Bool.not_eq_false, Bool.not_eq_eq_eq_not, Int.not_lt, Int.not_le, reduceCtorEq, Bool.true_eq_false, Bool.false_eq_true, ne_eq, Decidable.not_not, Bool.not_eq_true', bne_iff_ne, Bool.or_eq_true, Bool.and_eq_true, Bool.or_eq_false_iff, Bool.and_eq_false_iff] at hg18); simp only [List.take_succ_cons, List.take_zero, List.cons_append, List.nil_append]
            (refine rg_do rfl fun K0 hK0 => ?_; simp only [zE, op1, ev, lkp, avOf, acOf, ev, reduceCtorEq, Nat.reduceEqDiff, Nat.reduceAdd, Nat.reduceLeDiff, Nat.reduceLT, Nat.reduceMul, Nat.reduceSub, Try.el30, Try.td30]; (repeat refine And.intro (by omega) ?_); (first | refine hK0 _ ?_ | refine Or.inl (hK0 _ ?_)); clear hK0 K0; simp only [put, app, setAll, trOf, zE, List.set_cons_zero, List.set_cons_succ, Nat.reduceAdd])
            (refine rg_do rfl fun K0 hK0 => ?_; simp only [zE, op1, ev, lkp, avOf, acOf, ev, reduceCtorEq, Nat.reduceEqDiff, Nat.reduceAdd, Nat.reduceLeDiff, Nat.reduceLT, Nat.reduceMul, Nat.reduceSub, Try.td3]; (repeat refine And.intro (by omega) ?_); (first | refine hK0 _ ?_ | refine Or.inl (hK0 _ ?_)); clear hK0 K0; simp only [put, app, setAll, trOf, zE, List.set_cons_zero, List.set_cons_succ, Nat.reduceAdd])
            (refine rg_do rfl fun K0 hK0 => ?_; simp only [zE, op1, ev, lkp, avOf, acOf, opIndexAddr, zG, Ty.dflt, Ty.size, reduceCtorEq, Nat.reduceEqDiff, Nat.reduceAdd, Nat.reduceLeDiff, Nat.reduceLT, Nat.reduceMul, Nat.reduceSub, Try.el30, Try.td30]; (repeat refine And.intro (by omega) ?_); (first | refine hK0 _ ?_ | refine Or.inl (hK0 _ ?_)); clear hK0 K0; simp only [put, app, setAll, trOf, zE, List.set_cons_zero, List.set_cons_succ, Nat.reduceAdd])
            (refine rg_do rfl fun K0 hK0 => ?_; simp only [zE, op1, ev, lkp, avOf, acOf, opLoad, readAC, isAggK, acs, Ty.dflt, zG, cellsAt, reduceCtorEq, Nat.reduceEqDiff, Nat.reduceAdd, Nat.reduceLeDiff, Nat.reduceLT, Nat.reduceMul, Nat.reduceSub, Try.td3]; (repeat refine And.intro (by omega) ?_); (first | refine hK0 _ ?_ | refine Or.inl (hK0 _ ?_)); clear hK0 K0; simp only [put, app, setAll, trOf, zE, List.set_cons_zero, List.set_cons_succ, Nat.reduceAdd])
            (refine rg_do rfl fun K0 hK0 => ?_; simp only [zE, op1, ev, lkp, avOf, acOf, ev, reduceCtorEq, Nat.reduceEqDiff, Nat.reduceAdd, Nat.reduceLeDiff, Nat.reduceLT, Nat.reduceMul, Nat.reduceSub, Try.td3]; (repeat refine And.intro (by omega) ?_); (first | refine hK0 _ ?_ | refine Or.inl (hK0 _ ?_)); clear hK0 K0; simp only [put, app, setAll, trOf, zE, List.set_cons_zero, List.set_cons_succ, Nat.reduceAdd])
            (refine rg_do rfl fun K0 hK0 => ?_; simp only [zE, op1, ev, lkp, avOf, acOf, opBin, arith, inK_i64, reduceCtorEq, Nat.reduceEqDiff, Nat.reduceAdd, Nat.reduceLeDiff, Nat.reduceLT, Nat.reduceMul, Nat.reduceSub, Try.td3, Try.td4]; (repeat refine And.intro (by omega) ?_); (first | refine hK0 _ ?_ | refine Or.inl (hK0 _ ?_)); clear hK0 K0; simp only [put, app, setAll, trOf, zE, List.set_cons_zero, List.set_cons_succ, Nat.reduceAdd])
            (refine rg_step rfl fun K0 hK0 => ?_; simp only [zE, op1, ev, lkp, avOf, acOf, opPick, reduceCtorEq, Nat.reduceEqDiff, Nat.reduceAdd, Nat.reduceLeDiff, Nat.reduceLT, Nat.reduceMul, Nat.reduceSub, Try.td4]; (repeat refine And.intro (by omega) ?_); (first | refine hK0 _ ?_ | refine Or.inl (hK0 _ ?_)); clear hK0 K0; simp only [put, app, setAll, trOf, zE, List.set_cons_zero, List.set_cons_succ, Nat.reduceAdd])
            refine rg_nil ?_
            refine ⟨by simp only [keepEnv, lkp, zE, reduceCtorEq, Nat.reduceEqDiff, argEnv, Nat.reduceAdd]; exact rfl, rfl, ?_, rfl⟩; (repeat refine keep_cons rfl ?_); exact keep_m (by exact rfl) hq18
          case b18 => exact tle_of (by rfl)
          simp only [join_or, join_and]
          refine rg_nil ?_
          refine hK17 _ ?_; clear hK17; refine awp_keep [0, 1, 5, 15, 30] ?_; simp only [keepEnv, lkp, zE, reduceCtorEq, Nat.reduceEqDiff, argEnv, Nat.reduceAdd]
          refine awp_cond (by simp only [ev, keepEnv, lkp, zE, reduceCtorEq, Nat.reduceEqDiff, argEnv, Nat.reduceAdd]; exact rfl) (fun hc19 => ?_) (fun hc19 => ?_)
          · (try simp only [decide_eq_true_eq, decide_eq_false_iff_not, Bool.not_true, Bool.not_false, Bool.not_eq_true, Bool.not_eq_false, Bool.not_eq_eq_eq_not, Int.not_lt, Int.not_le, reduceCtorEq, Bool.true_eq_false, Bool.false_eq_true, ne_eq, Decidable.not_not, Bool.not_eq_true', bne_iff_ne, Bool.or_eq_true, Bool.and_eq_true, Bool.or_eq_false_iff, Bool.and_eq_false_iff] at hc19)
            refine awp_seq_k fun K20 hK20 => ?_
            refine awp_reg hP hN rfl ?_
            (refine rg_step rfl fun K0 hK0 => ?_; simp only [zE, op1, ev, lkp, avOf, acOf, ev, reduceCtorEq, Nat.reduceEqDiff, Nat.reduceAdd, Nat.reduceLeDiff, Nat.reduceLT, Nat.reduceMul, Nat.reduceSub, Try.td3]; (repeat refine And.intro (by omega) ?_); (first | refine hK0 _ ?_ | refine Or.inl (hK0 _ ?_)); clear hK0 K0; simp only [put, app, setAll, trOf, zE, List.set_cons_zero, List.set_cons_succ, Nat.reduceAdd])
            refine rg_nil ?_
            refine hK20 _ ?_; clear hK20; refine awp_keep [0, 1, 4, 5, 15, 30] ?_; simp only [keepEnv, lkp, zE, reduceCtorEq, Nat.reduceEqDiff, argEnv, Nat.reduceAdd]
            refine awp_ret ?_
            refine ⟨by first | exact .inl rfl | exact .inr rfl, _, rfl, ?_⟩; simp only [fzV, fz1, fzC, List.map_cons, List.map_nil, keepEnv, lkp, zE, reduceCtorEq, Nat.reduceEqDiff, argEnv, Nat.reduceAdd]
            refine VLE.of_eq ?_
            refine congrArg (fun n => AV.one (AC.int IntKind.i64 n)) ?_
            symm
            first
            | (unfold wordE; rw [if_pos (by omega)]; done)
            | (unfold wordE; rw [if_neg (by omega), if_pos (by omega)]; done)
            | exact wordE_bad (by omega) (by omega) (by omega) (i := k) (by omega) (by omega)
            | exact wordE_ok (by omega) (by omega) ⟨by omega, fun i hi => hI i (by omega)⟩
          · (try simp only [decide_eq_true_eq, decide_eq_false_iff_not, Bool.not_true, Bool.not_false, Bool.not_eq_true, Bool.not_eq_false, Bool.not_eq_eq_eq_not, Int.not_lt, Int.not_le, reduceCtorEq, Bool.true_eq_false, Bool.false_eq_true, ne_eq, Decidable.not_not, Bool.not_eq_true', bne_iff_ne, Bool.or_eq_true, Bool.and_eq_true, Bool.or_eq_false_iff, Bool.and_eq_false_iff] at hc19)
            refine awp_skip ?_
            refine hK16 _ ?_; clear hK16; refine awp_keep [0, 1, 5, 15, 30] ?_; simp only [keepEnv, lkp, zE, reduceCtorEq, Nat.reduceEqDiff, argEnv, Nat.reduceAdd]
            refine awp_reg hP hN rfl ?_
            iterate 3 (refine rg_step rfl fun K0 hK0 => ?_; simp only [zE, op1, ev, lkp, avOf, acOf, opBin, arith, inK_i64, reduceCtorEq, Nat.reduceEqDiff, Nat.reduceAdd, Nat.reduceLeDiff, Nat.reduceLT, Nat.reduceMul, Nat.reduceSub, Try.td3]; (repeat refine And.intro (by omega) ?_); (first | refine hK0 _ ?_ | refine Or.inl (hK0 _ ?_)); clear hK0 K0; simp only [put, app, setAll, trOf, zE, List.set_cons_zero, List.set_cons_succ, Nat.reduceAdd])
            refine rg_nil ?_
            refine ⟨_, _, ?_, sub_keep [0, 1, 5], k + 1, by omega, fun i hi => ?_, rfl, rfl⟩
            · omega
            · by_cases e : i = k
              · rw [e]; omega
              · exact hI i (by omega)
        · (try simp only [decide_eq_true_eq, decide_eq_false_iff_not, Bool.not_true, Bool.not_false, Bool.not_eq_true, Bool.not_eq_false, Bool.not_eq_eq_eq_not, Int.not_lt, Int.not_le, reduceCtorEq, Bool.true_eq_false, Bool.false_eq_true, ne_eq, Decidable.not_not, Bool.not_eq_true', bne_iff_ne, Bool.or_eq_true, Bool.and_eq_true, Bool.or_eq_false_iff, Bool.and_eq_false_iff] at hc15)
          refine awp_exit ?_
          refine hK10 _ ?_; clear hK10; refine awp_keep [0, 1, 5, 15] ?_; simp only [keepEnv, lkp, zE, reduceCtorEq, Nat.reduceEqDiff, argEnv, Nat.reduceAdd]
          refine awp_seq_k fun K21 hK21 => ?_
          refine awp_reg hP hN rfl ?_
          (refine rg_step rfl fun K0 hK0 => ?_; simp only [zE, op1, ev, lkp, avOf, acOf, ev, reduceCtorEq, Nat.reduceEqDiff, Nat.reduceAdd, Nat.reduceLeDiff, Nat.reduceLT, Nat.reduceMul, Nat.reduceSub, Try.td3]; (repeat refine And.intro (by omega) ?_); (first | refine hK0 _ ?_ | refine Or.inl (hK0 _ ?_)); clear hK0 K0; simp only [put, app, setAll, trOf, zE, List.set_cons_zero, List.set_cons_succ, Nat.reduceAdd])
          refine rg_nil ?_
          refine hK21 _ ?_; clear hK21; refine awp_keep [0, 1, 4, 5, 15] ?_; simp only [keepEnv, lkp, zE, reduceCtorEq, Nat.reduceEqDiff, argEnv, Nat.reduceAdd]
          refine awp_ret ?_
          refine ⟨by first | exact .inl rfl | exact .inr rfl, _, rfl, ?_⟩; simp only [fzV, fz1, fzC, List.map_cons, List.map_nil, keepEnv, lkp, zE, reduceCtorEq, Nat.reduceEqDiff, argEnv, Nat.reduceAdd]
          refine VLE.of_eq ?_
          refine congrArg (fun n => AV.one (AC.int IntKind.i64 n)) ?_
          symm
          first
          | (unfold wordE; rw [if_pos (by omega)]; done)
          | (unfold wordE; rw [if_neg (by omega), if_pos (by omega)]; done)
          | exact wordE_bad (by omega) (by omega) (by omega) (i := k) (by omega) (by omega)
          | exact wordE_ok (by omega) (by omega) ⟨by omega, fun i hi => hI i (by omega)⟩

set_option maxRecDepth 100000 in
theorem outs_c (m : Mly) (s : Int) (w : List Int) (hs : SOK m s) (hw : WOK w m.inp) : PURE Try.prog 41 [m.av, .one (.int .i64 s), .one (.list (.int .i64) w)] (.tup [.one (.list (.int .i64) (m.go s w).2), .one (.int .i64 (m.go s w).1)]) := by
  refine pure_of_le Try.func41 rfl (by kernel_rfl) (Nat.le_of_ble_eq_true rfl) rfl fun C hP hN hB => ?_
  replace hN : C.N = 43 := hN
  simp only [argEnv, Nat.reduceAdd]
  refine awp_seq_k fun K1 hK1 => ?_
  refine awp_reg hP hN rfl ?_
  iterate 3 (refine rg_step rfl fun K0 hK0 => ?_; simp only [zE, op1, ev, lkp, avOf, acOf, opBox, cellsAV, reduceCtorEq, Nat.reduceEqDiff, Nat.reduceAdd, Nat.reduceLeDiff, Nat.reduceLT, Nat.reduceMul, Nat.reduceSub, Try.el30, Try.st24, Try.td24, Try.td3, Try.td30, Mly.av]; (repeat refine And.intro (by omega) ?_); (first | refine hK0 _ ?_ | refine Or.inl (hK0 _ ?_)); clear hK0 K0; simp only [put, app, setAll, trOf, zE, List.set_cons_zero, List.set_cons_succ, Nat.reduceAdd])
  refine rg_nil ?_
  refine hK1 _ ?_; clear hK1; refine awp_keep [0, 1, 2, 3, 6, 7] ?_; simp only [keepEnv, lkp, zE, reduceCtorEq, Nat.reduceEqDiff, argEnv, Nat.reduceAdd]
  refine awp_seq_k fun K2 hK2 => ?_
  refine awp_reg hP hN rfl ?_
  (refine rg_step rfl fun K0 hK0 => ?_; simp only [zE, op1, ev, lkp, avOf, acOf, ev, reduceCtorEq, Nat.reduceEqDiff, Nat.reduceAdd, Nat.reduceLeDiff, Nat.reduceLT, Nat.reduceMul, Nat.reduceSub, Try.el30, Try.td30, Mly.av]; (repeat refine And.intro (by omega) ?_); (first | refine hK0 _ ?_ | refine Or.inl (hK0 _ ?_)); clear hK0 K0; simp only [put, app, setAll, trOf, zE, List.set_cons_zero, List.set_cons_succ, Nat.reduceAdd])
  refine rg_nil ?_
  refine hK2 _ ?_; clear hK2; refine awp_keep [0, 1, 2, 3, 6, 7, 8] ?_; simp only [keepEnv, lkp, zE, reduceCtorEq, Nat.reduceEqDiff, argEnv, Nat.reduceAdd]
  refine awp_seq_k fun K3 hK3 => ?_
  refine awp_seq_k fun K4 hK4 => ?_
  refine awp_reg hP hN rfl ?_
  (refine rg_step rfl fun K0 hK0 => ?_; simp only [zE, op1, ev, lkp, avOf, acOf, ev, reduceCtorEq, Nat.reduceEqDiff, Nat.reduceAdd, Nat.reduceLeDiff, Nat.reduceLT, Nat.reduceMul, Nat.reduceSub, Try.td3, Mly.av]; (repeat refine And.intro (by omega) ?_); (first | refine hK0 _ ?_ | refine Or.inl (hK0 _ ?_)); clear hK0 K0; simp only [put, app, setAll, trOf, zE, List.set_cons_zero, List.set_cons_succ, Nat.reduceAdd])
  refine rg_nil ?_
  refine hK4 _ ?_; clear hK4; refine awp_keep [0, 1, 2, 3, 6, 7, 8, 9] ?_; simp only [keepEnv, lkp, zE, reduceCtorEq, Nat.reduceEqDiff, argEnv, Nat.reduceAdd]
  refine awp_block ?_
  refine awp_own 8 (.int .i64) 3 (by decide) rfl ?_; simp only [List.length_cons, List.length_nil, List.cons_append, List.nil_append, Nat.zero_add, Nat.reduceAdd]
  refine awp_loop (fun n5 s5 => ∃ (k : Nat) (v : Nat), (k ≤ w.length) ∧ n5 = w.length - k ∧ s5 = { env := [(1, .one (.int .i64 (m.go s (w.take k)).1)), (2, .one (.list (.int .i64) w)), (3, .one (.ptr 0 0 0 0)), (8, .one (.row 1 v)), (9, .one (.int .i64 (k : Int)))], L := [.vars 24 [.int .i64 m.inp, .int .i64 m.st, .list (.list (.int .i64)) m.nx, .list (.list (.int .i64)) m.ot], .row (.int .i64) 3 v (m.go s (w.take k)).2] }) ?_ ?_
  · exact ⟨_, _, sub_keep [1, 2, 3, 8, 9], 0, 0, Nat.zero_le _, rfl, rfl⟩
  · rintro n5 s5 ⟨k, v, hk, rfl, rfl⟩
    have hgo := go_ok hs.ok hs.s0 hs.s1 hw k hk; have hlen := hw.len; have hgl := go_len m s (w.take k); rw [List.length_take] at hgl; have h1 := hs.ok.rl (m.go s (w.take k)).1.toNat (by omega); have h2 := hs.ok.ql (m.go s (w.take k)).1.toNat (by omega); have h3 := hs.ok.ol; have hsy := hw.sym k
    refine awp_seq_k fun K6 hK6 => ?_
    refine awp_seq_k fun K7 hK7 => ?_
    refine awp_reg hP hN rfl ?_
    iterate 4 (refine rg_step rfl fun K0 hK0 => ?_; simp only [zE, op1, ev, lkp, avOf, acOf, opCallAny, opLen, lenAC, lenOk, fpAC, opAppend, srcOf, Ty.size, datOf, dite_true, opBin, arith, inK_i64, reduceCtorEq, Nat.reduceEqDiff, Nat.reduceAdd, Nat.reduceLeDiff, Nat.reduceLT, Nat.reduceMul, Nat.reduceSub, Try.el30, Try.td3, Try.td30, Try.td4, Mly.av]; (repeat refine And.intro (by omega) ?_); (first | refine hK0 _ ?_ | refine Or.inl (hK0 _ ?_)); clear hK0 K0; simp only [put, app, setAll, trOf, zE, List.set_cons_zero, List.set_cons_succ, Nat.reduceAdd])
    refine rg_nil ?_
    refine hK7 _ ?_; clear hK7; refine awp_keep [1, 2, 3, 8, 9, 13] ?_; simp only [keepEnv, lkp, zE, reduceCtorEq, Nat.reduceEqDiff, argEnv, Nat.reduceAdd]
    refine awp_cond (by simp only [ev, keepEnv, lkp, zE, reduceCtorEq, Nat.reduceEqDiff, argEnv, Nat.reduceAdd]; exact rfl) (fun hc8 => ?_) (fun hc8 => ?_)
    · (try simp only [decide_eq_true_eq, decide_eq_false_iff_not, Bool.not_true, Bool.not_false, Bool.not_eq_true, Bool.not_eq_false, Bool.not_eq_eq_eq_not, Int.not_lt, Int.not_le, reduceCtorEq, Bool.true_eq_false, Bool.false_eq_true, ne_eq, Decidable.not_not, Bool.not_eq_true', bne_iff_ne, Bool.or_eq_true, Bool.and_eq_true, Bool.or_eq_false_iff, Bool.and_eq_false_iff] at hc8)
      refine awp_skip ?_
      refine hK6 _ ?_; clear hK6; refine awp_keep [1, 2, 3, 8, 9, 13] ?_; simp only [keepEnv, lkp, zE, reduceCtorEq, Nat.reduceEqDiff, argEnv, Nat.reduceAdd]
      refine awp_seq_k fun K9 hK9 => ?_
      refine awp_block ?_
      refine awp_seq_k fun K10 hK10 => ?_
      refine awp_drw hP hN Try.mixed rfl ?_
      iterate 15 (refine rg_step rfl fun K0 hK0 => ?_; simp only [zE, op1, ev, lkp, avOf, acOf, opFieldAddr, opLoad, readAC, isAggK, acs, Ty.dflt, zG, cellsAt, opIndexAddr, Ty.size, opBuildSlice, fillAC, chunk, rep, datOf, writeAC, cellsAV, opCallAny, opLen, lenAC, lenOk, fpAC, opAppend, srcOf, dite_true, reduceCtorEq, Nat.reduceEqDiff, Nat.reduceAdd, Nat.reduceLeDiff, Nat.reduceLT, Nat.reduceMul, Nat.reduceSub, Try.el22, Try.el30, Try.st24, Try.td22, Try.td24, Try.td3, Try.td30, Mly.av]; (repeat refine And.intro (by omega) ?_); (first | refine hK0 _ ?_ | refine Or.inl (hK0 _ ?_)); clear hK0 K0; simp only [put, app, setAll, trOf, zE, List.set_cons_zero, List.set_cons_succ, Nat.reduceAdd])
      refine rg_nil ?_
      refine ⟨by kernel_rfl, ?_⟩
      refine hK10 _ ?_; clear hK10; refine awp_keep [1, 2, 3, 8, 9, 13] ?_; simp only [keepEnv, lkp, zE, reduceCtorEq, Nat.reduceEqDiff, argEnv, Nat.reduceAdd]
      refine awp_drw hP hN Try.mixed rfl ?_
      iterate 12 (refine rg_step rfl fun K0 hK0 => ?_; simp only [zE, op1, ev, lkp, avOf, acOf, opFieldAddr, opLoad, readAC, isAggK, acs, Ty.dflt, zG, cellsAt, opIndexAddr, Ty.size, reduceCtorEq, Nat.reduceEqDiff, Nat.reduceAdd, Nat.reduceLeDiff, Nat.reduceLT, Nat.reduceMul, Nat.reduceSub, Try.el22, Try.el30, Try.st24, Try.td2, Try.td22, Try.td24, Try.td3, Try.td30, Mly.av]; (repeat refine And.intro (by omega) ?_); (first | refine hK0 _ ?_ | refine Or.inl (hK0 _ ?_)); clear hK0 K0; simp only [put, app, setAll, trOf, zE, List.set_cons_zero, List.set_cons_succ, Nat.reduceAdd])
      refine rg_nil ?_
      refine ⟨by kernel_rfl, ?_⟩
      refine hK9 _ ?_; clear hK9; refine awp_keep [1, 2, 3, 8, 9, 13] ?_; simp only [keepEnv, lkp, zE, reduceCtorEq, Nat.reduceEqDiff, argEnv, Nat.reduceAdd]
      refine awp_reg hP hN rfl ?_
      iterate 3 (refine rg_step rfl fun K0 hK0 => ?_; simp only [zE, op1, ev, lkp, avOf, acOf, opBin, arith, inK_i64, reduceCtorEq, Nat.reduceEqDiff, Nat.reduceAdd, Nat.reduceLeDiff, Nat.reduceLT, Nat.reduceMul, Nat.reduceSub, Try.td3, Mly.av]; (repeat refine And.intro (by omega) ?_); (first | refine hK0 _ ?_ | refine Or.inl (hK0 _ ?_)); clear hK0 K0; simp only [put, app, setAll, trOf, zE, List.set_cons_zero, List.set_cons_succ, Nat.reduceAdd])
      refine rg_nil ?_
      refine ⟨_, _, ?_, sub_keep [1, 2, 3, 8, 9], k + 1, v + 1, by omega, rfl, ?_⟩
      · omega
      · rw [go_succ m s (by omega)]; rfl
    · (try simp only [decide_eq_true_eq, decide_eq_false_iff_not, Bool.not_true, Bool.not_false, Bool.not_eq_true, Bool.not_eq_false, Bool.not_eq_eq_eq_not, Int.not_lt, Int.not_le, reduceCtorEq, Bool.true_eq_false, Bool.false_eq_true, ne_eq, Decidable.not_not, Bool.not_eq_true', bne_iff_ne, Bool.or_eq_true, Bool.and_eq_true, Bool.or_eq_false_iff, Bool.and_eq_false_iff] at hc8)
      refine awp_exit ?_
      refine hK3 _ ?_; clear hK3; refine awp_keep [1, 2, 3, 8, 9, 13] ?_; simp only [keepEnv, lkp, zE, reduceCtorEq, Nat.reduceEqDiff, argEnv, Nat.reduceAdd]
      refine awp_seq_k fun K11 hK11 => ?_
      refine awp_reg hP hN rfl ?_
      iterate 4 (refine rg_step rfl fun K0 hK0 => ?_; simp only [zE, op1, ev, lkp, avOf, acOf, ev, reduceCtorEq, Nat.reduceEqDiff, Nat.reduceAdd, Nat.reduceLeDiff, Nat.reduceLT, Nat.reduceMul, Nat.reduceSub, Try.el30, Try.td3, Try.td30, Mly.av]; (repeat refine And.intro (by omega) ?_); (first | refine hK0 _ ?_ | refine Or.inl (hK0 _ ?_)); clear hK0 K0; simp only [put, app, setAll, trOf, zE, List.set_cons_zero, List.set_cons_succ, Nat.reduceAdd])
      refine rg_nil ?_
      refine hK11 _ ?_; clear hK11; refine awp_keep [1, 2, 3, 6, 7, 8, 9, 13] ?_; simp only [keepEnv, lkp, zE, reduceCtorEq, Nat.reduceEqDiff, argEnv, Nat.reduceAdd]
      refine awp_ret ?_
      refine ⟨by first | exact .inl rfl | exact .inr rfl, _, rfl, ?_⟩; simp only [fzV, fz1, fzC, List.map_cons, List.map_nil, keepEnv, lkp, zE, reduceCtorEq, Nat.reduceEqDiff, argEnv, Nat.reduceAdd, Mly.av]
      refine VLE.of_eq ?_
      have htk : w.take k = w := by rw [show k = w.length by omega, List.take_length]
      rw [htk]; try simp

set_option maxRecDepth 100000 in
theorem rfrom_c (m : Mly) (s : Int) (w : List Int) : PURE Try.prog 21 [m.av, .one (.int .i64 s), .one (.list (.int .i64) w)] (.tup [.one (.list (.int .i64) (fromV m s w)), .one (.int .i64 (fromS m s w)), .one (.int .i64 (fromE m s w))]) := by
  refine pure_of_le Try.func21 rfl (by kernel_rfl) (Nat.le_of_ble_eq_true rfl) rfl fun C hP hN hB => ?_
  replace hN : C.N = 43 := hN
  simp only [argEnv, Nat.reduceAdd]
  refine awp_seq_k fun K1 hK1 => ?_
  refine awp_reg hP hN rfl ?_
  iterate 4 (refine rg_step rfl fun K0 hK0 => ?_; simp only [zE, op1, ev, lkp, avOf, acOf, opBox, cellsAV, reduceCtorEq, Nat.reduceEqDiff, Nat.reduceAdd, Nat.reduceLeDiff, Nat.reduceLT, Nat.reduceMul, Nat.reduceSub, Try.el30, Try.st24, Try.td24, Try.td3, Try.td30, Mly.av]; (repeat refine And.intro (by omega) ?_); (first | refine hK0 _ ?_ | refine Or.inl (hK0 _ ?_)); clear hK0 K0; simp only [put, app, setAll, trOf, zE, List.set_cons_zero, List.set_cons_succ, Nat.reduceAdd])
  refine rg_nil ?_
  refine hK1 _ ?_; clear hK1; refine awp_keep [0, 1, 2, 3, 6, 7, 8] ?_; simp only [keepEnv, lkp, zE, reduceCtorEq, Nat.reduceEqDiff, argEnv, Nat.reduceAdd]
  refine awp_seq_k fun K2 hK2 => ?_
  refine awp_seq_k fun K3 hK3 => ?_
  refine awp_reg hP hN rfl ?_
  (refine rg_step rfl fun K0 hK0 => ?_; simp only [zE, op1, ev, lkp, avOf, acOf, opLoad, readAC, isAggK, acs, Ty.dflt, zG, cellsAt, reduceCtorEq, Nat.reduceEqDiff, Nat.reduceAdd, Nat.reduceLeDiff, Nat.reduceLT, Nat.reduceMul, Nat.reduceSub, Try.st24, Try.td24, Mly.av]; (repeat refine And.intro (by omega) ?_); (first | refine hK0 _ ?_ | refine Or.inl (hK0 _ ?_)); clear hK0 K0; simp only [put, app, setAll, trOf, zE, List.set_cons_zero, List.set_cons_succ, Nat.reduceAdd])
  refine rg_step rfl fun K0 hK0 => ?_
  refine op_call (h := call_of_pure (rvalid_c m)) rfl rfl (by first | exact rfl | (simp only [ev, keepEnv, lkp, zE, reduceCtorEq, Nat.reduceEqDiff, argEnv, Nat.reduceAdd]; exact rfl)) (by simp only [zE, zG, op1, ev, lkp, avOf, acOf, cellsAV, acs, capAV, mv1, mvC, Ty.dflt, reduceCtorEq, Nat.reduceEqDiff, Nat.reduceAdd, Nat.reduceLeDiff, Nat.reduceLT, Nat.reduceMul, Nat.reduceSub, Mly.av]) ?_
  refine hK0 _ ?_; clear hK0 K0; simp only [put, app, setAll, trOf, zE, List.set_cons_zero, List.set_cons_succ, Nat.reduceAdd]
  (refine rg_step rfl fun K0 hK0 => ?_; simp only [zE, op1, ev, lkp, avOf, acOf, ev, reduceCtorEq, Nat.reduceEqDiff, Nat.reduceAdd, Nat.reduceLeDiff, Nat.reduceLT, Nat.reduceMul, Nat.reduceSub, Try.td3, Mly.av]; (repeat refine And.intro (by omega) ?_); (first | refine hK0 _ ?_ | refine Or.inl (hK0 _ ?_)); clear hK0 K0; simp only [put, app, setAll, trOf, zE, List.set_cons_zero, List.set_cons_succ, Nat.reduceAdd])
  refine rg_nil ?_
  refine hK3 _ ?_; clear hK3; refine awp_keep [0, 1, 2, 3, 6, 7, 8, 9] ?_; simp only [keepEnv, lkp, zE, reduceCtorEq, Nat.reduceEqDiff, argEnv, Nat.reduceAdd]
  refine awp_seq_k fun K4 hK4 => ?_
  refine awp_reg hP hN rfl ?_
  iterate 2 (refine rg_step rfl fun K0 hK0 => ?_; simp only [zE, op1, ev, lkp, avOf, acOf, opBin, arith, inK_i64, reduceCtorEq, Nat.reduceEqDiff, Nat.reduceAdd, Nat.reduceLeDiff, Nat.reduceLT, Nat.reduceMul, Nat.reduceSub, Try.td3, Try.td4, Mly.av]; (repeat refine And.intro (by omega) ?_); (first | refine hK0 _ ?_ | refine Or.inl (hK0 _ ?_)); clear hK0 K0; simp only [put, app, setAll, trOf, zE, List.set_cons_zero, List.set_cons_succ, Nat.reduceAdd])
  refine rg_nil ?_
  refine hK4 _ ?_; clear hK4; refine awp_keep [0, 1, 2, 3, 6, 7, 8, 9, 16] ?_; simp only [keepEnv, lkp, zE, reduceCtorEq, Nat.reduceEqDiff, argEnv, Nat.reduceAdd]
  refine awp_cond (by simp only [ev, keepEnv, lkp, zE, reduceCtorEq, Nat.reduceEqDiff, argEnv, Nat.reduceAdd]; exact rfl) (fun hc5 => ?_) (fun hc5 => ?_)
  · (try simp only [decide_eq_true_eq, decide_eq_false_iff_not, Bool.not_true, Bool.not_false, Bool.not_eq_true, Bool.not_eq_false, Bool.not_eq_eq_eq_not, Int.not_lt, Int.not_le, reduceCtorEq, Bool.true_eq_false, Bool.false_eq_true, ne_eq, Decidable.not_not, Bool.not_eq_true', bne_iff_ne, Bool.or_eq_true, Bool.and_eq_true, Bool.or_eq_false_iff, Bool.and_eq_false_iff] at hc5)
    refine awp_seq_k fun K6 hK6 => ?_
    refine awp_reg hP hN rfl ?_
    iterate 4 (refine rg_step rfl fun K0 hK0 => ?_; simp only [zE, op1, ev, lkp, avOf, acOf, ev, reduceCtorEq, Nat.reduceEqDiff, Nat.reduceAdd, Nat.reduceLeDiff, Nat.reduceLT, Nat.reduceMul, Nat.reduceSub, Try.el30, Try.td3, Try.td30, Mly.av]; (repeat refine And.intro (by omega) ?_); (first | refine hK0 _ ?_ | refine Or.inl (hK0 _ ?_)); clear hK0 K0; simp only [put, app, setAll, trOf, zE, List.set_cons_zero, List.set_cons_succ, Nat.reduceAdd])
    refine rg_nil ?_
    refine hK6 _ ?_; clear hK6; refine awp_keep [0, 1, 2, 3, 6, 7, 8, 9, 16] ?_; simp only [keepEnv, lkp, zE, reduceCtorEq, Nat.reduceEqDiff, argEnv, Nat.reduceAdd]
    refine awp_ret ?_
    refine ⟨by first | exact .inl rfl | exact .inr rfl, _, rfl, ?_⟩; simp only [fzV, fz1, fzC, List.map_cons, List.map_nil, keepEnv, lkp, zE, reduceCtorEq, Nat.reduceEqDiff, argEnv, Nat.reduceAdd, Mly.av]
    first
    | (have hE := fromE_v (s := s) (w := w) ‹¬validE m = 0›
       unfold fromV fromS; rw [hE, if_neg ‹¬validE m = 0›, if_neg ‹¬validE m = 0›]
       exact vle_tup ⟨vle1_one (cle_nils rfl), vle1_one (.refl _), vle1_one (.refl _), trivial⟩)
    | (have hE := fromE_s (w := w) ‹validE m = 0› (show s < 0 ∨ (m.nx.length : Int) ≤ s by omega)
       unfold fromV fromS; rw [hE, if_neg (by omega), if_neg (by omega)]
       exact vle_tup ⟨vle1_one (cle_nils rfl), vle1_one (.refl _), vle1_one (.refl _), trivial⟩)
    | (have hE := fromE_w (w := w) ‹validE m = 0› (show ¬ (s < 0 ∨ (m.nx.length : Int) ≤ s) by omega)
       unfold fromV fromS; rw [hE]
       first
       | (rw [if_neg ‹¬wordE w m.inp = 0›, if_neg ‹¬wordE w m.inp = 0›]
          exact vle_tup ⟨vle1_one (cle_nils rfl), vle1_one (.refl _), vle1_one (.refl _), trivial⟩)
       | (rw [‹wordE w m.inp = 0›, if_pos rfl, if_pos rfl]
          exact vle_tup ⟨vle1_one (.refl _), vle1_one (.refl _), vle1_one (.refl _), trivial⟩))
  · (try simp only [decide_eq_true_eq, decide_eq_false_iff_not, Bool.not_true, Bool.not_false, Bool.not_eq_true, Bool.not_eq_false, Bool.not_eq_eq_eq_not, Int.not_lt, Int.not_le, reduceCtorEq, Bool.true_eq_false, Bool.false_eq_true, ne_eq, Decidable.not_not, Bool.not_eq_true', bne_iff_ne, Bool.or_eq_true, Bool.and_eq_true, Bool.or_eq_false_iff, Bool.and_eq_false_iff] at hc5)
    refine awp_skip ?_
    refine hK2 _ ?_; clear hK2; refine awp_keep [0, 1, 2, 3, 6, 7, 8, 9, 16] ?_; simp only [keepEnv, lkp, zE, reduceCtorEq, Nat.reduceEqDiff, argEnv, Nat.reduceAdd]
    refine awp_seq_k fun K7 hK7 => ?_
    refine awp_seq_k fun K8 hK8 => ?_
    refine awp_reg hP hN rfl ?_
    iterate 2 (refine rg_step rfl fun K0 hK0 => ?_; simp only [zE, op1, ev, lkp, avOf, acOf, opBin, arith, inK_i64, reduceCtorEq, Nat.reduceEqDiff, Nat.reduceAdd, Nat.reduceLeDiff, Nat.reduceLT, Nat.reduceMul, Nat.reduceSub, Try.td3, Try.td4, Mly.av]; (repeat refine And.intro (by omega) ?_); (first | refine hK0 _ ?_ | refine Or.inl (hK0 _ ?_)); clear hK0 K0; simp only [put, app, setAll, trOf, zE, List.set_cons_zero, List.set_cons_succ, Nat.reduceAdd])
    (refine rg_step rfl fun K0 hK0 => ?_; simp only [zE, op1, ev, lkp, avOf, acOf, ev, reduceCtorEq, Nat.reduceEqDiff, Nat.reduceAdd, Nat.reduceLeDiff, Nat.reduceLT, Nat.reduceMul, Nat.reduceSub, Try.td4, Mly.av]; (repeat refine And.intro (by omega) ?_); (first | refine hK0 _ ?_ | refine Or.inl (hK0 _ ?_)); clear hK0 K0; simp only [put, app, setAll, trOf, zE, List.set_cons_zero, List.set_cons_succ, Nat.reduceAdd])
    refine' rg_join_n (want := false) 5 rfl (m := 20) (by simp only [keepEnv, lkp, zE, reduceCtorEq, Nat.reduceEqDiff, argEnv, Nat.reduceAdd]; exact rfl) (by kernel_rfl) rfl rfl rfl rfl rfl (fun hg9 => ?a9) ?b9 ?c9
    case a9 =>
      have hq9 := hg9; (try simp only [decide_eq_true_eq, decide_eq_false_iff_not, Bool.not_true, Bool.not_false, Bool.not_eq_true, Bool.not_eq_false, Bool.not_eq_eq_eq_not, Int.not_lt, Int.not_le, reduceCtorEq, Bool.true_eq_false, Bool.false_eq_true, ne_eq, Decidable.not_not, Bool.not_eq_true', bne_iff_ne, Bool.or_eq_true, Bool.and_eq_true, Bool.or_eq_false_iff, Bool.and_eq_false_iff] at hg9); simp only [List.take_succ_cons, List.take_zero, List.cons_append, List.nil_append]
      (refine rg_do rfl fun K0 hK0 => ?_; simp only [zE, op1, ev, lkp, avOf, acOf, ev, reduceCtorEq, Nat.reduceEqDiff, Nat.reduceAdd, Nat.reduceLeDiff, Nat.reduceLT, Nat.reduceMul, Nat.reduceSub, Try.td3, Mly.av]; (repeat refine And.intro (by omega) ?_); (first | refine hK0 _ ?_ | refine Or.inl (hK0 _ ?_)); clear hK0 K0; simp only [put, app, setAll, trOf, zE, List.set_cons_zero, List.set_cons_succ, Nat.reduceAdd])
      (refine rg_do rfl fun K0 hK0 => ?_; simp only [zE, op1, ev, lkp, avOf, acOf, opFieldAddr, reduceCtorEq, Nat.reduceEqDiff, Nat.reduceAdd, Nat.reduceLeDiff, Nat.reduceLT, Nat.reduceMul, Nat.reduceSub, Try.st24, Try.td2, Try.td24, Mly.av]; (repeat refine And.intro (by omega) ?_); (first | refine hK0 _ ?_ | refine Or.inl (hK0 _ ?_)); clear hK0 K0; simp only [put, app, setAll, trOf, zE, List.set_cons_zero, List.set_cons_succ, Nat.reduceAdd])
      (refine rg_do rfl fun K0 hK0 => ?_; simp only [zE, op1, ev, lkp, avOf, acOf, opLoad, readAC, isAggK, acs, Ty.dflt, zG, cellsAt, reduceCtorEq, Nat.reduceEqDiff, Nat.reduceAdd, Nat.reduceLeDiff, Nat.reduceLT, Nat.reduceMul, Nat.reduceSub, Try.el22, Try.td22, Mly.av]; (repeat refine And.intro (by omega) ?_); (first | refine hK0 _ ?_ | refine Or.inl (hK0 _ ?_)); clear hK0 K0; simp only [put, app, setAll, trOf, zE, List.set_cons_zero, List.set_cons_succ, Nat.reduceAdd])
      (refine rg_do rfl fun K0 hK0 => ?_; simp only [zE, op1, ev, lkp, avOf, acOf, opCallAny, opLen, lenAC, lenOk, fpAC, opAppend, srcOf, Ty.size, datOf, dite_true, reduceCtorEq, Nat.reduceEqDiff, Nat.reduceAdd, Nat.reduceLeDiff, Nat.reduceLT, Nat.reduceMul, Nat.reduceSub, Try.el22, Try.td22, Try.td3, Mly.av]; (repeat refine And.intro (by omega) ?_); (first | refine hK0 _ ?_ | refine Or.inl (hK0 _ ?_)); clear hK0 K0; simp only [put, app, setAll, trOf, zE, List.set_cons_zero, List.set_cons_succ, Nat.reduceAdd])
      (refine rg_do rfl fun K0 hK0 => ?_; simp only [zE, op1, ev, lkp, avOf, acOf, opBin, arith, inK_i64, reduceCtorEq, Nat.reduceEqDiff, Nat.reduceAdd, Nat.reduceLeDiff, Nat.reduceLT, Nat.reduceMul, Nat.reduceSub, Try.td3, Try.td4, Mly.av]; (repeat refine And.intro (by omega) ?_); (first | refine hK0 _ ?_ | refine Or.inl (hK0 _ ?_)); clear hK0 K0; simp only [put, app, setAll, trOf, zE, List.set_cons_zero, List.set_cons_succ, Nat.reduceAdd])
      (refine rg_step rfl fun K0 hK0 => ?_; simp only [zE, op1, ev, lkp, avOf, acOf, opPick, reduceCtorEq, Nat.reduceEqDiff, Nat.reduceAdd, Nat.reduceLeDiff, Nat.reduceLT, Nat.reduceMul, Nat.reduceSub, Try.td4, Mly.av]; (repeat refine And.intro (by omega) ?_); (first | refine hK0 _ ?_ | refine Or.inl (hK0 _ ?_)); clear hK0 K0; simp only [put, app, setAll, trOf, zE, List.set_cons_zero, List.set_cons_succ, Nat.reduceAdd])
      refine rg_nil ?_
      refine ⟨by simp only [keepEnv, lkp, zE, reduceCtorEq, Nat.reduceEqDiff, argEnv, Nat.reduceAdd]; exact rfl, rfl, ?_, rfl⟩; (repeat refine keep_cons rfl ?_); exact keep_m (by exact rfl) hq9
    case b9 => exact tle_of (by rfl)
    simp only [join_or, join_and]
    refine rg_nil ?_
    refine hK8 _ ?_; clear hK8; refine awp_keep [0, 1, 2, 3, 6, 7, 8, 9, 16, 26] ?_; simp only [keepEnv, lkp, zE, reduceCtorEq, Nat.reduceEqDiff, argEnv, Nat.reduceAdd]
    refine awp_cond (by simp only [ev, keepEnv, lkp, zE, reduceCtorEq, Nat.reduceEqDiff, argEnv, Nat.reduceAdd]; exact rfl) (fun hc10 => ?_) (fun hc10 => ?_)
    · (try simp only [decide_eq_true_eq, decide_eq_false_iff_not, Bool.not_true, Bool.not_false, Bool.not_eq_true, Bool.not_eq_false, Bool.not_eq_eq_eq_not, Int.not_lt, Int.not_le, reduceCtorEq, Bool.true_eq_false, Bool.false_eq_true, ne_eq, Decidable.not_not, Bool.not_eq_true', bne_iff_ne, Bool.or_eq_true, Bool.and_eq_true, Bool.or_eq_false_iff, Bool.and_eq_false_iff] at hc10)
      refine awp_seq_k fun K11 hK11 => ?_
      refine awp_reg hP hN rfl ?_
      iterate 3 (refine rg_step rfl fun K0 hK0 => ?_; simp only [zE, op1, ev, lkp, avOf, acOf, ev, reduceCtorEq, Nat.reduceEqDiff, Nat.reduceAdd, Nat.reduceLeDiff, Nat.reduceLT, Nat.reduceMul, Nat.reduceSub, Try.el30, Try.td3, Try.td30, Mly.av]; (repeat refine And.intro (by omega) ?_); (first | refine hK0 _ ?_ | refine Or.inl (hK0 _ ?_)); clear hK0 K0; simp only [put, app, setAll, trOf, zE, List.set_cons_zero, List.set_cons_succ, Nat.reduceAdd])
      refine rg_nil ?_
      refine hK11 _ ?_; clear hK11; refine awp_keep [0, 1, 2, 3, 6, 7, 8, 9, 16, 26] ?_; simp only [keepEnv, lkp, zE, reduceCtorEq, Nat.reduceEqDiff, argEnv, Nat.reduceAdd]
      refine awp_ret ?_
      refine ⟨by first | exact .inl rfl | exact .inr rfl, _, rfl, ?_⟩; simp only [fzV, fz1, fzC, List.map_cons, List.map_nil, keepEnv, lkp, zE, reduceCtorEq, Nat.reduceEqDiff, argEnv, Nat.reduceAdd, Mly.av]
      first
      | (have hE := fromE_v (s := s) (w := w) ‹¬validE m = 0›
         unfold fromV fromS; rw [hE, if_neg ‹¬validE m = 0›, if_neg ‹¬validE m = 0›]
         exact vle_tup ⟨vle1_one (cle_nils rfl), vle1_one (.refl _), vle1_one (.refl _), trivial⟩)
      | (have hE := fromE_s (w := w) ‹validE m = 0› (show s < 0 ∨ (m.nx.length : Int) ≤ s by omega)
         unfold fromV fromS; rw [hE, if_neg (by omega), if_neg (by omega)]
         exact vle_tup ⟨vle1_one (cle_nils rfl), vle1_one (.refl _), vle1_one (.refl _), trivial⟩)
      | (have hE := fromE_w (w := w) ‹validE m = 0› (show ¬ (s < 0 ∨ (m.nx.length : Int) ≤ s) by omega)
         unfold fromV fromS; rw [hE]
         first
         | (rw [if_neg ‹¬wordE w m.inp = 0›, if_neg ‹¬wordE w m.inp = 0›]
            exact vle_tup ⟨vle1_one (cle_nils rfl), vle1_one (.refl _), vle1_one (.refl _), trivial⟩)
         | (rw [‹wordE w m.inp = 0›, if_pos rfl, if_pos rfl]
            exact vle_tup ⟨vle1_one (.refl _), vle1_one (.refl _), vle1_one (.refl _), trivial⟩))
    · (try simp only [decide_eq_true_eq, decide_eq_false_iff_not, Bool.not_true, Bool.not_false, Bool.not_eq_true, Bool.not_eq_false, Bool.not_eq_eq_eq_not, Int.not_lt, Int.not_le, reduceCtorEq, Bool.true_eq_false, Bool.false_eq_true, ne_eq, Decidable.not_not, Bool.not_eq_true', bne_iff_ne, Bool.or_eq_true, Bool.and_eq_true, Bool.or_eq_false_iff, Bool.and_eq_false_iff] at hc10)
      refine awp_skip ?_
      refine hK7 _ ?_; clear hK7; refine awp_keep [0, 1, 2, 3, 6, 7, 8, 9, 16, 26] ?_; simp only [keepEnv, lkp, zE, reduceCtorEq, Nat.reduceEqDiff, argEnv, Nat.reduceAdd]
      refine awp_seq_k fun K12 hK12 => ?_
      refine awp_seq_k fun K13 hK13 => ?_
      refine awp_reg hP hN rfl ?_
      iterate 3 (refine rg_step rfl fun K0 hK0 => ?_; simp only [zE, op1, ev, lkp, avOf, acOf, opFieldAddr, opLoad, readAC, isAggK, acs, Ty.dflt, zG, cellsAt, reduceCtorEq, Nat.reduceEqDiff, Nat.reduceAdd, Nat.reduceLeDiff, Nat.reduceLT, Nat.reduceMul, Nat.reduceSub, Try.el30, Try.st24, Try.td24, Try.td3, Try.td30, Mly.av]; (repeat refine And.intro (by omega) ?_); (first | refine hK0 _ ?_ | refine Or.inl (hK0 _ ?_)); clear hK0 K0; simp only [put, app, setAll, trOf, zE, List.set_cons_zero, List.set_cons_succ, Nat.reduceAdd])
      refine rg_step rfl fun K0 hK0 => ?_
      refine op_call (h := call_of_pure (rcheck_c w m.inp)) rfl rfl (by first | exact rfl | (simp only [ev, keepEnv, lkp, zE, reduceCtorEq, Nat.reduceEqDiff, argEnv, Nat.reduceAdd]; exact rfl)) (by simp only [zE, zG, op1, ev, lkp, avOf, acOf, cellsAV, acs, capAV, mv1, mvC, Ty.dflt, reduceCtorEq, Nat.reduceEqDiff, Nat.reduceAdd, Nat.reduceLeDiff, Nat.reduceLT, Nat.reduceMul, Nat.reduceSub, Mly.av]) ?_
      refine hK0 _ ?_; clear hK0 K0; simp only [put, app, setAll, trOf, zE, List.set_cons_zero, List.set_cons_succ, Nat.reduceAdd]
      (refine rg_step rfl fun K0 hK0 => ?_; simp only [zE, op1, ev, lkp, avOf, acOf, ev, reduceCtorEq, Nat.reduceEqDiff, Nat.reduceAdd, Nat.reduceLeDiff, Nat.reduceLT, Nat.reduceMul, Nat.reduceSub, Try.td3, Mly.av]; (repeat refine And.intro (by omega) ?_); (first | refine hK0 _ ?_ | refine Or.inl (hK0 _ ?_)); clear hK0 K0; simp only [put, app, setAll, trOf, zE, List.set_cons_zero, List.set_cons_succ, Nat.reduceAdd])
      refine rg_nil ?_
      refine hK13 _ ?_; clear hK13; refine awp_keep [0, 1, 2, 3, 6, 7, 8, 9, 10, 16, 26] ?_; simp only [keepEnv, lkp, zE, reduceCtorEq, Nat.reduceEqDiff, argEnv, Nat.reduceAdd]
      refine awp_seq_k fun K14 hK14 => ?_
      refine awp_reg hP hN rfl ?_
      iterate 2 (refine rg_step rfl fun K0 hK0 => ?_; simp only [zE, op1, ev, lkp, avOf, acOf, opBin, arith, inK_i64, reduceCtorEq, Nat.reduceEqDiff, Nat.reduceAdd, Nat.reduceLeDiff, Nat.reduceLT, Nat.reduceMul, Nat.reduceSub, Try.td3, Try.td4, Mly.av]; (repeat refine And.intro (by omega) ?_); (first | refine hK0 _ ?_ | refine Or.inl (hK0 _ ?_)); clear hK0 K0; simp only [put, app, setAll, trOf, zE, List.set_cons_zero, List.set_cons_succ, Nat.reduceAdd])
      refine rg_nil ?_
      refine hK14 _ ?_; clear hK14; refine awp_keep [0, 1, 2, 3, 6, 7, 8, 9, 10, 16, 26, 32] ?_; simp only [keepEnv, lkp, zE, reduceCtorEq, Nat.reduceEqDiff, argEnv, Nat.reduceAdd]
      refine awp_cond (by simp only [ev, keepEnv, lkp, zE, reduceCtorEq, Nat.reduceEqDiff, argEnv, Nat.reduceAdd]; exact rfl) (fun hc15 => ?_) (fun hc15 => ?_)
      · (try simp only [decide_eq_true_eq, decide_eq_false_iff_not, Bool.not_true, Bool.not_false, Bool.not_eq_true, Bool.not_eq_false, Bool.not_eq_eq_eq_not, Int.not_lt, Int.not_le, reduceCtorEq, Bool.true_eq_false, Bool.false_eq_true, ne_eq, Decidable.not_not, Bool.not_eq_true', bne_iff_ne, Bool.or_eq_true, Bool.and_eq_true, Bool.or_eq_false_iff, Bool.and_eq_false_iff] at hc15)
        refine awp_seq_k fun K16 hK16 => ?_
        refine awp_reg hP hN rfl ?_
        iterate 4 (refine rg_step rfl fun K0 hK0 => ?_; simp only [zE, op1, ev, lkp, avOf, acOf, ev, reduceCtorEq, Nat.reduceEqDiff, Nat.reduceAdd, Nat.reduceLeDiff, Nat.reduceLT, Nat.reduceMul, Nat.reduceSub, Try.el30, Try.td3, Try.td30, Mly.av]; (repeat refine And.intro (by omega) ?_); (first | refine hK0 _ ?_ | refine Or.inl (hK0 _ ?_)); clear hK0 K0; simp only [put, app, setAll, trOf, zE, List.set_cons_zero, List.set_cons_succ, Nat.reduceAdd])
        refine rg_nil ?_
        refine hK16 _ ?_; clear hK16; refine awp_keep [0, 1, 2, 3, 6, 7, 8, 9, 10, 16, 26, 32] ?_; simp only [keepEnv, lkp, zE, reduceCtorEq, Nat.reduceEqDiff, argEnv, Nat.reduceAdd]
        refine awp_ret ?_
        refine ⟨by first | exact .inl rfl | exact .inr rfl, _, rfl, ?_⟩; simp only [fzV, fz1, fzC, List.map_cons, List.map_nil, keepEnv, lkp, zE, reduceCtorEq, Nat.reduceEqDiff, argEnv, Nat.reduceAdd, Mly.av]
        first
        | (have hE := fromE_v (s := s) (w := w) ‹¬validE m = 0›
           unfold fromV fromS; rw [hE, if_neg ‹¬validE m = 0›, if_neg ‹¬validE m = 0›]
           exact vle_tup ⟨vle1_one (cle_nils rfl), vle1_one (.refl _), vle1_one (.refl _), trivial⟩)
        | (have hE := fromE_s (w := w) ‹validE m = 0› (show s < 0 ∨ (m.nx.length : Int) ≤ s by omega)
           unfold fromV fromS; rw [hE, if_neg (by omega), if_neg (by omega)]
           exact vle_tup ⟨vle1_one (cle_nils rfl), vle1_one (.refl _), vle1_one (.refl _), trivial⟩)
        | (have hE := fromE_w (w := w) ‹validE m = 0› (show ¬ (s < 0 ∨ (m.nx.length : Int) ≤ s) by omega)
           unfold fromV fromS; rw [hE]
           first
           | (rw [if_neg ‹¬wordE w m.inp = 0›, if_neg ‹¬wordE w m.inp = 0›]
              exact vle_tup ⟨vle1_one (cle_nils rfl), vle1_one (.refl _), vle1_one (.refl _), trivial⟩)
           | (rw [‹wordE w m.inp = 0›, if_pos rfl, if_pos rfl]
              exact vle_tup ⟨vle1_one (.refl _), vle1_one (.refl _), vle1_one (.refl _), trivial⟩))
      · (try simp only [decide_eq_true_eq, decide_eq_false_iff_not, Bool.not_true, Bool.not_false, Bool.not_eq_true, Bool.not_eq_false, Bool.not_eq_eq_eq_not, Int.not_lt, Int.not_le, reduceCtorEq, Bool.true_eq_false, Bool.false_eq_true, ne_eq, Decidable.not_not, Bool.not_eq_true', bne_iff_ne, Bool.or_eq_true, Bool.and_eq_true, Bool.or_eq_false_iff, Bool.and_eq_false_iff] at hc15)
        refine awp_skip ?_
        refine hK12 _ ?_; clear hK12; refine awp_keep [0, 1, 2, 3, 6, 7, 8, 9, 10, 16, 26, 32] ?_; simp only [keepEnv, lkp, zE, reduceCtorEq, Nat.reduceEqDiff, argEnv, Nat.reduceAdd]
        refine awp_seq_k fun K17 hK17 => ?_
        refine awp_reg hP hN rfl ?_
        iterate 3 (refine rg_step rfl fun K0 hK0 => ?_; simp only [zE, op1, ev, lkp, avOf, acOf, opLoad, readAC, isAggK, acs, Ty.dflt, zG, cellsAt, reduceCtorEq, Nat.reduceEqDiff, Nat.reduceAdd, Nat.reduceLeDiff, Nat.reduceLT, Nat.reduceMul, Nat.reduceSub, Try.el30, Try.st24, Try.td24, Try.td3, Try.td30, Mly.av]; (repeat refine And.intro (by omega) ?_); (first | refine hK0 _ ?_ | refine Or.inl (hK0 _ ?_)); clear hK0 K0; simp only [put, app, setAll, trOf, zE, List.set_cons_zero, List.set_cons_succ, Nat.reduceAdd])
        refine rg_step rfl fun K0 hK0 => ?_
        refine op_call (h := call_of_pure (outs_c m s w ⟨mok_of (by assumption), by omega, by omega⟩ (wok_of (by assumption)))) rfl rfl (by first | exact rfl | (simp only [ev, keepEnv, lkp, zE, reduceCtorEq, Nat.reduceEqDiff, argEnv, Nat.reduceAdd]; exact rfl)) (by simp only [zE, zG, op1, ev, lkp, avOf, acOf, cellsAV, acs, capAV, mv1, mvC, Ty.dflt, reduceCtorEq, Nat.reduceEqDiff, Nat.reduceAdd, Nat.reduceLeDiff, Nat.reduceLT, Nat.reduceMul, Nat.reduceSub, Mly.av]) ?_
        refine hK0 _ ?_; clear hK0 K0; simp only [put, app, setAll, trOf, zE, List.set_cons_zero, List.set_cons_succ, Nat.reduceAdd]
        iterate 5 (refine rg_step rfl fun K0 hK0 => ?_; simp only [zE, op1, ev, lkp, avOf, acOf, opExtract, reduceCtorEq, Nat.reduceEqDiff, Nat.reduceAdd, Nat.reduceLeDiff, Nat.reduceLT, Nat.reduceMul, Nat.reduceSub, Try.el30, Try.td3, Try.td30, Mly.av]; (repeat refine And.intro (by omega) ?_); (first | refine hK0 _ ?_ | refine Or.inl (hK0 _ ?_)); clear hK0 K0; simp only [put, app, setAll, trOf, zE, List.set_cons_zero, List.set_cons_succ, Nat.reduceAdd])
        refine rg_nil ?_
        refine hK17 _ ?_; clear hK17; refine awp_keep [0, 1, 2, 3, 6, 7, 8, 9, 10, 11, 12, 16, 26, 32] ?_; simp only [keepEnv, lkp, zE, reduceCtorEq, Nat.reduceEqDiff, argEnv, Nat.reduceAdd]
        refine awp_seq_k fun K18 hK18 => ?_
        refine awp_reg hP hN rfl ?_
        iterate 5 (refine rg_step rfl fun K0 hK0 => ?_; simp only [zE, op1, ev, lkp, avOf, acOf, ev, reduceCtorEq, Nat.reduceEqDiff, Nat.reduceAdd, Nat.reduceLeDiff, Nat.reduceLT, Nat.reduceMul, Nat.reduceSub, Try.el30, Try.td3, Try.td30, Mly.av]; (repeat refine And.intro (by omega) ?_); (first | refine hK0 _ ?_ | refine Or.inl (hK0 _ ?_)); clear hK0 K0; simp only [put, app, setAll, trOf, zE, List.set_cons_zero, List.set_cons_succ, Nat.reduceAdd])
        refine rg_nil ?_
        refine hK18 _ ?_; clear hK18; refine awp_keep [0, 1, 2, 3, 6, 7, 8, 9, 10, 11, 12, 16, 26, 32] ?_; simp only [keepEnv, lkp, zE, reduceCtorEq, Nat.reduceEqDiff, argEnv, Nat.reduceAdd]
        refine awp_ret ?_
        refine ⟨by first | exact .inl rfl | exact .inr rfl, _, rfl, ?_⟩; simp only [fzV, fz1, fzC, List.map_cons, List.map_nil, keepEnv, lkp, zE, reduceCtorEq, Nat.reduceEqDiff, argEnv, Nat.reduceAdd, Mly.av]
        first
        | (have hE := fromE_v (s := s) (w := w) ‹¬validE m = 0›
           unfold fromV fromS; rw [hE, if_neg ‹¬validE m = 0›, if_neg ‹¬validE m = 0›]
           exact vle_tup ⟨vle1_one (cle_nils rfl), vle1_one (.refl _), vle1_one (.refl _), trivial⟩)
        | (have hE := fromE_s (w := w) ‹validE m = 0› (show s < 0 ∨ (m.nx.length : Int) ≤ s by omega)
           unfold fromV fromS; rw [hE, if_neg (by omega), if_neg (by omega)]
           exact vle_tup ⟨vle1_one (cle_nils rfl), vle1_one (.refl _), vle1_one (.refl _), trivial⟩)
        | (have hE := fromE_w (w := w) ‹validE m = 0› (show ¬ (s < 0 ∨ (m.nx.length : Int) ≤ s) by omega)
           unfold fromV fromS; rw [hE]
           first
           | (rw [if_neg ‹¬wordE w m.inp = 0›, if_neg ‹¬wordE w m.inp = 0›]
              exact vle_tup ⟨vle1_one (cle_nils rfl), vle1_one (.refl _), vle1_one (.refl _), trivial⟩)
           | (rw [‹wordE w m.inp = 0›, if_pos rfl, if_pos rfl]
              exact vle_tup ⟨vle1_one (.refl _), vle1_one (.refl _), vle1_one (.refl _), trivial⟩))

set_option maxRecDepth 100000 in
theorem rrun_c (m : Mly) (w : List Int) : PURE Try.prog 22 [m.av, .one (.list (.int .i64) w)] (.tup [.one (.list (.int .i64) (fromV m m.st w)), .one (.int .i64 (fromE m m.st w))]) := by
  refine pure_of_le Try.func22 rfl (by kernel_rfl) (Nat.le_of_ble_eq_true rfl) rfl fun C hP hN hB => ?_
  replace hN : C.N = 20 := hN
  simp only [argEnv, Nat.reduceAdd]
  refine awp_seq_k fun K1 hK1 => ?_
  refine awp_reg hP hN rfl ?_
  iterate 3 (refine rg_step rfl fun K0 hK0 => ?_; simp only [zE, op1, ev, lkp, avOf, acOf, opBox, cellsAV, reduceCtorEq, Nat.reduceEqDiff, Nat.reduceAdd, Nat.reduceLeDiff, Nat.reduceLT, Nat.reduceMul, Nat.reduceSub, Try.el30, Try.st24, Try.td24, Try.td3, Try.td30, Mly.av]; (repeat refine And.intro (by omega) ?_); (first | refine hK0 _ ?_ | refine Or.inl (hK0 _ ?_)); clear hK0 K0; simp only [put, app, setAll, trOf, zE, List.set_cons_zero, List.set_cons_succ, Nat.reduceAdd])
  refine rg_nil ?_
  refine hK1 _ ?_; clear hK1; refine awp_keep [0, 1, 2, 4, 5] ?_; simp only [keepEnv, lkp, zE, reduceCtorEq, Nat.reduceEqDiff, argEnv, Nat.reduceAdd]
  refine awp_seq_k fun K2 hK2 => ?_
  refine awp_reg hP hN rfl ?_
  iterate 4 (refine rg_step rfl fun K0 hK0 => ?_; simp only [zE, op1, ev, lkp, avOf, acOf, opLoad, readAC, isAggK, acs, Ty.dflt, zG, cellsAt, opFieldAddr, reduceCtorEq, Nat.reduceEqDiff, Nat.reduceAdd, Nat.reduceLeDiff, Nat.reduceLT, Nat.reduceMul, Nat.reduceSub, Try.el30, Try.st24, Try.td24, Try.td3, Try.td30, Mly.av]; (repeat refine And.intro (by omega) ?_); (first | refine hK0 _ ?_ | refine Or.inl (hK0 _ ?_)); clear hK0 K0; simp only [put, app, setAll, trOf, zE, List.set_cons_zero, List.set_cons_succ, Nat.reduceAdd])
  refine rg_step rfl fun K0 hK0 => ?_
  refine op_call (h := call_of_pure (rfrom_c m m.st w)) rfl rfl (by first | exact rfl | (simp only [ev, keepEnv, lkp, zE, reduceCtorEq, Nat.reduceEqDiff, argEnv, Nat.reduceAdd]; exact rfl)) (by simp only [zE, zG, op1, ev, lkp, avOf, acOf, cellsAV, acs, capAV, mv1, mvC, Ty.dflt, reduceCtorEq, Nat.reduceEqDiff, Nat.reduceAdd, Nat.reduceLeDiff, Nat.reduceLT, Nat.reduceMul, Nat.reduceSub, Mly.av]) ?_
  refine hK0 _ ?_; clear hK0 K0; simp only [put, app, setAll, trOf, zE, List.set_cons_zero, List.set_cons_succ, Nat.reduceAdd]
  iterate 7 (refine rg_step rfl fun K0 hK0 => ?_; simp only [zE, op1, ev, lkp, avOf, acOf, opExtract, reduceCtorEq, Nat.reduceEqDiff, Nat.reduceAdd, Nat.reduceLeDiff, Nat.reduceLT, Nat.reduceMul, Nat.reduceSub, Try.el30, Try.td2, Try.td3, Try.td30, Mly.av]; (repeat refine And.intro (by omega) ?_); (first | refine hK0 _ ?_ | refine Or.inl (hK0 _ ?_)); clear hK0 K0; simp only [put, app, setAll, trOf, zE, List.set_cons_zero, List.set_cons_succ, Nat.reduceAdd])
  refine rg_nil ?_
  refine hK2 _ ?_; clear hK2; refine awp_keep [0, 1, 2, 4, 5, 6, 8] ?_; simp only [keepEnv, lkp, zE, reduceCtorEq, Nat.reduceEqDiff, argEnv, Nat.reduceAdd]
  refine awp_seq_k fun K3 hK3 => ?_
  refine awp_reg hP hN rfl ?_
  iterate 4 (refine rg_step rfl fun K0 hK0 => ?_; simp only [zE, op1, ev, lkp, avOf, acOf, ev, reduceCtorEq, Nat.reduceEqDiff, Nat.reduceAdd, Nat.reduceLeDiff, Nat.reduceLT, Nat.reduceMul, Nat.reduceSub, Try.el30, Try.td3, Try.td30, Mly.av]; (repeat refine And.intro (by omega) ?_); (first | refine hK0 _ ?_ | refine Or.inl (hK0 _ ?_)); clear hK0 K0; simp only [put, app, setAll, trOf, zE, List.set_cons_zero, List.set_cons_succ, Nat.reduceAdd])
  refine rg_nil ?_
  refine hK3 _ ?_; clear hK3; refine awp_keep [0, 1, 2, 4, 5, 6, 8] ?_; simp only [keepEnv, lkp, zE, reduceCtorEq, Nat.reduceEqDiff, argEnv, Nat.reduceAdd]
  refine awp_ret ?_
  refine ⟨by first | exact .inl rfl | exact .inr rfl, _, rfl, ?_⟩; simp only [fzV, fz1, fzC, List.map_cons, List.map_nil, keepEnv, lkp, zE, reduceCtorEq, Nat.reduceEqDiff, argEnv, Nat.reduceAdd, Mly.av]
  refine VLE.of_eq ?_
  rfl

set_option maxRecDepth 100000 in
theorem step_c (m : Mly) (s a : Int) : PURE Try.prog 19 [m.av, .one (.int .i64 s), .one (.int .i64 a)] (.tup [.one (.int .i64 (stepS m s a)), .one (.int .i64 (stepO m s a)), .one (.int .i64 (stepE m s a))]) := by
  refine pure_of_le Try.func19 rfl (by kernel_rfl) (Nat.le_of_ble_eq_true rfl) rfl fun C hP hN hB => ?_
  replace hN : C.N = 36 := hN
  simp only [argEnv, Nat.reduceAdd]
  refine awp_seq_k fun K1 hK1 => ?_
  refine awp_reg hP hN rfl ?_
  iterate 4 (refine rg_step rfl fun K0 hK0 => ?_; simp only [zE, op1, ev, lkp, avOf, acOf, opBox, cellsAV, reduceCtorEq, Nat.reduceEqDiff, Nat.reduceAdd, Nat.reduceLeDiff, Nat.reduceLT, Nat.reduceMul, Nat.reduceSub, Try.st24, Try.td24, Try.td25, Try.td3, Mly.av]; (repeat refine And.intro (by omega) ?_); (first | refine hK0 _ ?_ | refine Or.inl (hK0 _ ?_)); clear hK0 K0; simp only [put, app, setAll, trOf, zE, List.set_cons_zero, List.set_cons_succ, Nat.reduceAdd])
  refine rg_nil ?_
  refine hK1 _ ?_; clear hK1; refine awp_keep [0, 1, 2, 3, 6, 7, 8] ?_; simp only [keepEnv, lkp, zE, reduceCtorEq, Nat.reduceEqDiff, argEnv, Nat.reduceAdd]
  refine awp_seq_k fun K2 hK2 => ?_
  refine awp_seq_k fun K3 hK3 => ?_
  refine awp_reg hP hN rfl ?_
  iterate 2 (refine rg_step rfl fun K0 hK0 => ?_; simp only [zE, op1, ev, lkp, avOf, acOf, opLoad, readAC, isAggK, acs, Ty.dflt, zG, cellsAt, reduceCtorEq, Nat.reduceEqDiff, Nat.reduceAdd, Nat.reduceLeDiff, Nat.reduceLT, Nat.reduceMul, Nat.reduceSub, Try.st24, Try.td24, Try.td3, Mly.av]; (repeat refine And.intro (by omega) ?_); (first | refine hK0 _ ?_ | refine Or.inl (hK0 _ ?_)); clear hK0 K0; simp only [put, app, setAll, trOf, zE, List.set_cons_zero, List.set_cons_succ, Nat.reduceAdd])
  refine rg_step rfl fun K0 hK0 => ?_
  refine op_call (h := call_of_pure (state_c m s)) rfl rfl (by first | exact rfl | (simp only [ev, keepEnv, lkp, zE, reduceCtorEq, Nat.reduceEqDiff, argEnv, Nat.reduceAdd]; exact rfl)) (by simp only [zE, zG, op1, ev, lkp, avOf, acOf, cellsAV, acs, capAV, mv1, mvC, Ty.dflt, reduceCtorEq, Nat.reduceEqDiff, Nat.reduceAdd, Nat.reduceLeDiff, Nat.reduceLT, Nat.reduceMul, Nat.reduceSub, Mly.av]) ?_
  refine hK0 _ ?_; clear hK0 K0; simp only [put, app, setAll, trOf, zE, List.set_cons_zero, List.set_cons_succ, Nat.reduceAdd]
  (refine rg_step rfl fun K0 hK0 => ?_; simp only [zE, op1, ev, lkp, avOf, acOf, ev, reduceCtorEq, Nat.reduceEqDiff, Nat.reduceAdd, Nat.reduceLeDiff, Nat.reduceLT, Nat.reduceMul, Nat.reduceSub, Try.td25, Mly.av]; (repeat refine And.intro (by omega) ?_); (first | refine hK0 _ ?_ | refine Or.inl (hK0 _ ?_)); clear hK0 K0; simp only [put, app, setAll, trOf, zE, List.set_cons_zero, List.set_cons_succ, Nat.reduceAdd])
  refine rg_nil ?_
  refine hK3 _ ?_; clear hK3; refine awp_keep [0, 1, 2, 3, 6, 7, 8, 9] ?_; simp only [keepEnv, lkp, zE, reduceCtorEq, Nat.reduceEqDiff, argEnv, Nat.reduceAdd]
  refine awp_seq_k fun K4 hK4 => ?_
  refine awp_reg hP hN rfl ?_
  iterate 2 (refine rg_step rfl fun K0 hK0 => ?_; simp only [zE, op1, ev, lkp, avOf, acOf, opBin, arith, inK_i64, reduceCtorEq, Nat.reduceEqDiff, Nat.reduceAdd, Nat.reduceLeDiff, Nat.reduceLT, Nat.reduceMul, Nat.reduceSub, Try.td25, Try.td4, Mly.av]; (repeat refine And.intro (by omega) ?_); (first | refine hK0 _ ?_ | refine Or.inl (hK0 _ ?_)); clear hK0 K0; simp only [put, app, setAll, trOf, zE, List.set_cons_zero, List.set_cons_succ, Nat.reduceAdd])
  refine rg_nil ?_
  refine hK4 _ ?_; clear hK4; refine awp_keep [0, 1, 2, 3, 6, 7, 8, 9, 16] ?_; simp only [keepEnv, lkp, zE, reduceCtorEq, Nat.reduceEqDiff, argEnv, Nat.reduceAdd]
  refine awp_cond (by simp only [ev, keepEnv, lkp, zE, reduceCtorEq, Nat.reduceEqDiff, argEnv, Nat.reduceAdd]; exact rfl) (fun hc5 => ?_) (fun hc5 => ?_)
  · (try simp only [decide_eq_true_eq, decide_eq_false_iff_not, Bool.not_true, Bool.not_false, Bool.not_eq_true, Bool.not_eq_false, Bool.not_eq_eq_eq_not, Int.not_lt, Int.not_le, reduceCtorEq, Bool.true_eq_false, Bool.false_eq_true, ne_eq, Decidable.not_not, Bool.not_eq_true', bne_iff_ne, Bool.or_eq_true, Bool.and_eq_true, Bool.or_eq_false_iff, Bool.and_eq_false_iff] at hc5)
    refine awp_seq_k fun K6 hK6 => ?_
    refine awp_reg hP hN rfl ?_
    iterate 4 (refine rg_step rfl fun K0 hK0 => ?_; simp only [zE, op1, ev, lkp, avOf, acOf, ev, reduceCtorEq, Nat.reduceEqDiff, Nat.reduceAdd, Nat.reduceLeDiff, Nat.reduceLT, Nat.reduceMul, Nat.reduceSub, Try.td25, Try.td3, Mly.av]; (repeat refine And.intro (by omega) ?_); (first | refine hK0 _ ?_ | refine Or.inl (hK0 _ ?_)); clear hK0 K0; simp only [put, app, setAll, trOf, zE, List.set_cons_zero, List.set_cons_succ, Nat.reduceAdd])
    refine rg_nil ?_
    refine hK6 _ ?_; clear hK6; refine awp_keep [0, 1, 2, 3, 6, 7, 8, 9, 16] ?_; simp only [keepEnv, lkp, zE, reduceCtorEq, Nat.reduceEqDiff, argEnv, Nat.reduceAdd]
    refine awp_ret ?_
    refine ⟨by first | exact .inl rfl | exact .inr rfl, _, rfl, ?_⟩; simp only [fzV, fz1, fzC, List.map_cons, List.map_nil, keepEnv, lkp, zE, reduceCtorEq, Nat.reduceEqDiff, argEnv, Nat.reduceAdd, Mly.av]
    refine VLE.of_eq ?_
    first
    | (have hE := stepE_state (a := a) ‹¬stateE m s = 0›
       unfold stepS stepO; rw [hE, if_neg ‹¬stateE m s = 0›, if_neg ‹¬stateE m s = 0›])
    | (have hE := stepE_bad ‹stateE m s = 0› (show a < 0 ∨ m.inp ≤ a by omega)
       unfold stepS stepO; rw [hE]; rfl)
    | (have hE := stepE_ok ‹stateE m s = 0› (show ¬ (a < 0 ∨ m.inp ≤ a) by omega)
       unfold stepS stepO; rw [hE]; rfl)
  · (try simp only [decide_eq_true_eq, decide_eq_false_iff_not, Bool.not_true, Bool.not_false, Bool.not_eq_true, Bool.not_eq_false, Bool.not_eq_eq_eq_not, Int.not_lt, Int.not_le, reduceCtorEq, Bool.true_eq_false, Bool.false_eq_true, ne_eq, Decidable.not_not, Bool.not_eq_true', bne_iff_ne, Bool.or_eq_true, Bool.and_eq_true, Bool.or_eq_false_iff, Bool.and_eq_false_iff] at hc5)
    refine awp_skip ?_
    refine hK2 _ ?_; clear hK2; refine awp_keep [0, 1, 2, 3, 6, 7, 8, 9, 16] ?_; simp only [keepEnv, lkp, zE, reduceCtorEq, Nat.reduceEqDiff, argEnv, Nat.reduceAdd]
    refine awp_seq_k fun K7 hK7 => ?_
    refine awp_seq_k fun K8 hK8 => ?_
    refine awp_reg hP hN rfl ?_
    iterate 2 (refine rg_step rfl fun K0 hK0 => ?_; simp only [zE, op1, ev, lkp, avOf, acOf, opBin, arith, inK_i64, reduceCtorEq, Nat.reduceEqDiff, Nat.reduceAdd, Nat.reduceLeDiff, Nat.reduceLT, Nat.reduceMul, Nat.reduceSub, Try.td3, Try.td4, Mly.av]; (repeat refine And.intro (by omega) ?_); (first | refine hK0 _ ?_ | refine Or.inl (hK0 _ ?_)); clear hK0 K0; simp only [put, app, setAll, trOf, zE, List.set_cons_zero, List.set_cons_succ, Nat.reduceAdd])
    (refine rg_step rfl fun K0 hK0 => ?_; simp only [zE, op1, ev, lkp, avOf, acOf, ev, reduceCtorEq, Nat.reduceEqDiff, Nat.reduceAdd, Nat.reduceLeDiff, Nat.reduceLT, Nat.reduceMul, Nat.reduceSub, Try.td4, Mly.av]; (repeat refine And.intro (by omega) ?_); (first | refine hK0 _ ?_ | refine Or.inl (hK0 _ ?_)); clear hK0 K0; simp only [put, app, setAll, trOf, zE, List.set_cons_zero, List.set_cons_succ, Nat.reduceAdd])
    refine' rg_join_n (want := false) 4 rfl (m := 20) (by simp only [keepEnv, lkp, zE, reduceCtorEq, Nat.reduceEqDiff, argEnv, Nat.reduceAdd]; exact rfl) (by kernel_rfl) rfl rfl rfl rfl rfl (fun hg9 => ?a9) ?b9 ?c9
    case a9 =>
      have hq9 := hg9; (try simp only [decide_eq_true_eq, decide_eq_false_iff_not, Bool.not_true, Bool.not_false, Bool.not_eq_true, Bool.not_eq_false, Bool.not_eq_eq_eq_not, Int.not_lt, Int.not_le, reduceCtorEq, Bool.true_eq_false, Bool.false_eq_true, ne_eq, Decidable.not_not, Bool.not_eq_true', bne_iff_ne, Bool.or_eq_true, Bool.and_eq_true, Bool.or_eq_false_iff, Bool.and_eq_false_iff] at hg9); simp only [List.take_succ_cons, List.take_zero, List.cons_append, List.nil_append]
      (refine rg_do rfl fun K0 hK0 => ?_; simp only [zE, op1, ev, lkp, avOf, acOf, ev, reduceCtorEq, Nat.reduceEqDiff, Nat.reduceAdd, Nat.reduceLeDiff, Nat.reduceLT, Nat.reduceMul, Nat.reduceSub, Try.td3, Mly.av]; (repeat refine And.intro (by omega) ?_); (first | refine hK0 _ ?_ | refine Or.inl (hK0 _ ?_)); clear hK0 K0; simp only [put, app, setAll, trOf, zE, List.set_cons_zero, List.set_cons_succ, Nat.reduceAdd])
      (refine rg_do rfl fun K0 hK0 => ?_; simp only [zE, op1, ev, lkp, avOf, acOf, opFieldAddr, reduceCtorEq, Nat.reduceEqDiff, Nat.reduceAdd, Nat.reduceLeDiff, Nat.reduceLT, Nat.reduceMul, Nat.reduceSub, Try.st24, Try.td24, Mly.av]; (repeat refine And.intro (by omega) ?_); (first | refine hK0 _ ?_ | refine Or.inl (hK0 _ ?_)); clear hK0 K0; simp only [put, app, setAll, trOf, zE, List.set_cons_zero, List.set_cons_succ, Nat.reduceAdd])
      (refine rg_do rfl fun K0 hK0 => ?_; simp only [zE, op1, ev, lkp, avOf, acOf, opLoad, readAC, isAggK, acs, Ty.dflt, zG, cellsAt, reduceCtorEq, Nat.reduceEqDiff, Nat.reduceAdd, Nat.reduceLeDiff, Nat.reduceLT, Nat.reduceMul, Nat.reduceSub, Try.td3, Mly.av]; (repeat refine And.intro (by omega) ?_); (first | refine hK0 _ ?_ | refine Or.inl (hK0 _ ?_)); clear hK0 K0; simp only [put, app, setAll, trOf, zE, List.set_cons_zero, List.set_cons_succ, Nat.reduceAdd])
      (refine rg_do rfl fun K0 hK0 => ?_; simp only [zE, op1, ev, lkp, avOf, acOf, opBin, arith, inK_i64, reduceCtorEq, Nat.reduceEqDiff, Nat.reduceAdd, Nat.reduceLeDiff, Nat.reduceLT, Nat.reduceMul, Nat.reduceSub, Try.td3, Try.td4, Mly.av]; (repeat refine And.intro (by omega) ?_); (first | refine hK0 _ ?_ | refine Or.inl (hK0 _ ?_)); clear hK0 K0; simp only [put, app, setAll, trOf, zE, List.set_cons_zero, List.set_cons_succ, Nat.reduceAdd])
      (refine rg_step rfl fun K0 hK0 => ?_; simp only [zE, op1, ev, lkp, avOf, acOf, opPick, reduceCtorEq, Nat.reduceEqDiff, Nat.reduceAdd, Nat.reduceLeDiff, Nat.reduceLT, Nat.reduceMul, Nat.reduceSub, Try.td4, Mly.av]; (repeat refine And.intro (by omega) ?_); (first | refine hK0 _ ?_ | refine Or.inl (hK0 _ ?_)); clear hK0 K0; simp only [put, app, setAll, trOf, zE, List.set_cons_zero, List.set_cons_succ, Nat.reduceAdd])
      refine rg_nil ?_
      refine ⟨by simp only [keepEnv, lkp, zE, reduceCtorEq, Nat.reduceEqDiff, argEnv, Nat.reduceAdd]; exact rfl, rfl, ?_, rfl⟩; (repeat refine keep_cons rfl ?_); exact keep_m (by exact rfl) hq9
    case b9 => exact tle_of (by rfl)
    simp only [join_or, join_and]
    refine rg_nil ?_
    refine hK8 _ ?_; clear hK8; refine awp_keep [0, 1, 2, 3, 6, 7, 8, 9, 16, 25] ?_; simp only [keepEnv, lkp, zE, reduceCtorEq, Nat.reduceEqDiff, argEnv, Nat.reduceAdd]
    refine awp_cond (by simp only [ev, keepEnv, lkp, zE, reduceCtorEq, Nat.reduceEqDiff, argEnv, Nat.reduceAdd]; exact rfl) (fun hc10 => ?_) (fun hc10 => ?_)
    · (try simp only [decide_eq_true_eq, decide_eq_false_iff_not, Bool.not_true, Bool.not_false, Bool.not_eq_true, Bool.not_eq_false, Bool.not_eq_eq_eq_not, Int.not_lt, Int.not_le, reduceCtorEq, Bool.true_eq_false, Bool.false_eq_true, ne_eq, Decidable.not_not, Bool.not_eq_true', bne_iff_ne, Bool.or_eq_true, Bool.and_eq_true, Bool.or_eq_false_iff, Bool.and_eq_false_iff] at hc10)
      refine awp_seq_k fun K11 hK11 => ?_
      refine awp_reg hP hN rfl ?_
      iterate 3 (refine rg_step rfl fun K0 hK0 => ?_; simp only [zE, op1, ev, lkp, avOf, acOf, ev, reduceCtorEq, Nat.reduceEqDiff, Nat.reduceAdd, Nat.reduceLeDiff, Nat.reduceLT, Nat.reduceMul, Nat.reduceSub, Try.td25, Try.td3, Mly.av]; (repeat refine And.intro (by omega) ?_); (first | refine hK0 _ ?_ | refine Or.inl (hK0 _ ?_)); clear hK0 K0; simp only [put, app, setAll, trOf, zE, List.set_cons_zero, List.set_cons_succ, Nat.reduceAdd])
      refine rg_nil ?_
      refine hK11 _ ?_; clear hK11; refine awp_keep [0, 1, 2, 3, 6, 7, 8, 9, 16, 25] ?_; simp only [keepEnv, lkp, zE, reduceCtorEq, Nat.reduceEqDiff, argEnv, Nat.reduceAdd]
      refine awp_ret ?_
      refine ⟨by first | exact .inl rfl | exact .inr rfl, _, rfl, ?_⟩; simp only [fzV, fz1, fzC, List.map_cons, List.map_nil, keepEnv, lkp, zE, reduceCtorEq, Nat.reduceEqDiff, argEnv, Nat.reduceAdd, Mly.av]
      refine VLE.of_eq ?_
      first
      | (have hE := stepE_state (a := a) ‹¬stateE m s = 0›
         unfold stepS stepO; rw [hE, if_neg ‹¬stateE m s = 0›, if_neg ‹¬stateE m s = 0›])
      | (have hE := stepE_bad ‹stateE m s = 0› (show a < 0 ∨ m.inp ≤ a by omega)
         unfold stepS stepO; rw [hE]; rfl)
      | (have hE := stepE_ok ‹stateE m s = 0› (show ¬ (a < 0 ∨ m.inp ≤ a) by omega)
         unfold stepS stepO; rw [hE]; rfl)
    · (try simp only [decide_eq_true_eq, decide_eq_false_iff_not, Bool.not_true, Bool.not_false, Bool.not_eq_true, Bool.not_eq_false, Bool.not_eq_eq_eq_not, Int.not_lt, Int.not_le, reduceCtorEq, Bool.true_eq_false, Bool.false_eq_true, ne_eq, Decidable.not_not, Bool.not_eq_true', bne_iff_ne, Bool.or_eq_true, Bool.and_eq_true, Bool.or_eq_false_iff, Bool.and_eq_false_iff] at hc10)
      refine awp_skip ?_
      refine hK7 _ ?_; clear hK7; refine awp_keep [0, 1, 2, 3, 6, 7, 8, 9, 16, 25] ?_; simp only [keepEnv, lkp, zE, reduceCtorEq, Nat.reduceEqDiff, argEnv, Nat.reduceAdd]
      refine awp_seq_k fun K12 hK12 => ?_
      refine awp_reg hP hN rfl ?_
      iterate 4 (refine rg_step rfl fun K0 hK0 => ?_; simp only [zE, op1, ev, lkp, avOf, acOf, opLoad, readAC, isAggK, acs, Ty.dflt, zG, cellsAt, opBuild, fillAC, writeAC, cellsAV, reduceCtorEq, Nat.reduceEqDiff, Nat.reduceAdd, Nat.reduceLeDiff, Nat.reduceLT, Nat.reduceMul, Nat.reduceSub, Try.st24, Try.st68, Try.td24, Try.td3, Try.td68, Mly.av]; (repeat refine And.intro (by omega) ?_); (first | refine hK0 _ ?_ | refine Or.inl (hK0 _ ?_)); clear hK0 K0; simp only [put, app, setAll, trOf, zE, List.set_cons_zero, List.set_cons_succ, Nat.reduceAdd])
      refine rg_step rfl fun K0 hK0 => ?_
      refine op_call (h := call_of_pure (move_c m s a (sok_of (by assumption)).ok (sok_of (by assumption)).s0 (sok_of (by assumption)).s1 (by omega) (by omega))) rfl rfl (by first | exact rfl | (simp only [ev, keepEnv, lkp, zE, reduceCtorEq, Nat.reduceEqDiff, argEnv, Nat.reduceAdd]; exact rfl)) (by simp only [zE, zG, op1, ev, lkp, avOf, acOf, cellsAV, acs, capAV, mv1, mvC, Ty.dflt, reduceCtorEq, Nat.reduceEqDiff, Nat.reduceAdd, Nat.reduceLeDiff, Nat.reduceLT, Nat.reduceMul, Nat.reduceSub, Mly.av]) ?_
      refine hK0 _ ?_; clear hK0 K0; simp only [put, app, setAll, trOf, zE, List.set_cons_zero, List.set_cons_succ, Nat.reduceAdd]
      iterate 5 (refine rg_step rfl fun K0 hK0 => ?_; simp only [zE, op1, ev, lkp, avOf, acOf, opExtract, reduceCtorEq, Nat.reduceEqDiff, Nat.reduceAdd, Nat.reduceLeDiff, Nat.reduceLT, Nat.reduceMul, Nat.reduceSub, Try.td3, Mly.av]; (repeat refine And.intro (by omega) ?_); (first | refine hK0 _ ?_ | refine Or.inl (hK0 _ ?_)); clear hK0 K0; simp only [put, app, setAll, trOf, zE, List.set_cons_zero, List.set_cons_succ, Nat.reduceAdd])
      refine rg_nil ?_
      refine hK12 _ ?_; clear hK12; refine awp_keep [0, 1, 2, 3, 6, 7, 8, 9, 10, 11, 16, 25] ?_; simp only [keepEnv, lkp, zE, reduceCtorEq, Nat.reduceEqDiff, argEnv, Nat.reduceAdd]
      refine awp_seq_k fun K13 hK13 => ?_
      refine awp_reg hP hN rfl ?_
      iterate 5 (refine rg_step rfl fun K0 hK0 => ?_; simp only [zE, op1, ev, lkp, avOf, acOf, ev, reduceCtorEq, Nat.reduceEqDiff, Nat.reduceAdd, Nat.reduceLeDiff, Nat.reduceLT, Nat.reduceMul, Nat.reduceSub, Try.td25, Try.td3, Mly.av]; (repeat refine And.intro (by omega) ?_); (first | refine hK0 _ ?_ | refine Or.inl (hK0 _ ?_)); clear hK0 K0; simp only [put, app, setAll, trOf, zE, List.set_cons_zero, List.set_cons_succ, Nat.reduceAdd])
      refine rg_nil ?_
      refine hK13 _ ?_; clear hK13; refine awp_keep [0, 1, 2, 3, 6, 7, 8, 9, 10, 11, 16, 25] ?_; simp only [keepEnv, lkp, zE, reduceCtorEq, Nat.reduceEqDiff, argEnv, Nat.reduceAdd]
      refine awp_ret ?_
      refine ⟨by first | exact .inl rfl | exact .inr rfl, _, rfl, ?_⟩; simp only [fzV, fz1, fzC, List.map_cons, List.map_nil, keepEnv, lkp, zE, reduceCtorEq, Nat.reduceEqDiff, argEnv, Nat.reduceAdd, Mly.av]
      refine VLE.of_eq ?_
      first
      | (have hE := stepE_state (a := a) ‹¬stateE m s = 0›
         unfold stepS stepO; rw [hE, if_neg ‹¬stateE m s = 0›, if_neg ‹¬stateE m s = 0›])
      | (have hE := stepE_bad ‹stateE m s = 0› (show a < 0 ∨ m.inp ≤ a by omega)
         unfold stepS stepO; rw [hE]; rfl)
      | (have hE := stepE_ok ‹stateE m s = 0› (show ¬ (a < 0 ∨ m.inp ≤ a) by omega)
         unfold stepS stepO; rw [hE]; rfl)

set_option maxRecDepth 100000 in
theorem rstep_c (m : Mly) (s a : Int) : PURE Try.prog 20 [m.av, .one (.int .i64 s), .one (.int .i64 a)] (.tup [.one (.int .i64 (stepS m s a)), .one (.int .i64 (stepO m s a)), .one (.int .i64 (stepE m s a))]) := by
  refine pure_of_le Try.func20 rfl (by kernel_rfl) (Nat.le_of_ble_eq_true rfl) rfl fun C hP hN hB => ?_
  replace hN : C.N = 50 := hN
  simp only [argEnv, Nat.reduceAdd]
  refine awp_seq_k fun K1 hK1 => ?_
  refine awp_reg hP hN rfl ?_
  iterate 4 (refine rg_step rfl fun K0 hK0 => ?_; simp only [zE, op1, ev, lkp, avOf, acOf, opBox, cellsAV, reduceCtorEq, Nat.reduceEqDiff, Nat.reduceAdd, Nat.reduceLeDiff, Nat.reduceLT, Nat.reduceMul, Nat.reduceSub, Try.st24, Try.td24, Try.td3, Mly.av]; (repeat refine And.intro (by omega) ?_); (first | refine hK0 _ ?_ | refine Or.inl (hK0 _ ?_)); clear hK0 K0; simp only [put, app, setAll, trOf, zE, List.set_cons_zero, List.set_cons_succ, Nat.reduceAdd])
  refine rg_nil ?_
  refine hK1 _ ?_; clear hK1; refine awp_keep [0, 1, 2, 3, 6, 7, 8] ?_; simp only [keepEnv, lkp, zE, reduceCtorEq, Nat.reduceEqDiff, argEnv, Nat.reduceAdd]
  refine awp_seq_k fun K2 hK2 => ?_
  refine awp_seq_k fun K3 hK3 => ?_
  refine awp_reg hP hN rfl ?_
  (refine rg_step rfl fun K0 hK0 => ?_; simp only [zE, op1, ev, lkp, avOf, acOf, opLoad, readAC, isAggK, acs, Ty.dflt, zG, cellsAt, reduceCtorEq, Nat.reduceEqDiff, Nat.reduceAdd, Nat.reduceLeDiff, Nat.reduceLT, Nat.reduceMul, Nat.reduceSub, Try.st24, Try.td24, Mly.av]; (repeat refine And.intro (by omega) ?_); (first | refine hK0 _ ?_ | refine Or.inl (hK0 _ ?_)); clear hK0 K0; simp only [put, app, setAll, trOf, zE, List.set_cons_zero, List.set_cons_succ, Nat.reduceAdd])
  refine rg_step rfl fun K0 hK0 => ?_
  refine op_call (h := call_of_pure (rvalid_c m)) rfl rfl (by first | exact rfl | (simp only [ev, keepEnv, lkp, zE, reduceCtorEq, Nat.reduceEqDiff, argEnv, Nat.reduceAdd]; exact rfl)) (by simp only [zE, zG, op1, ev, lkp, avOf, acOf, cellsAV, acs, capAV, mv1, mvC, Ty.dflt, reduceCtorEq, Nat.reduceEqDiff, Nat.reduceAdd, Nat.reduceLeDiff, Nat.reduceLT, Nat.reduceMul, Nat.reduceSub, Mly.av]) ?_
  refine hK0 _ ?_; clear hK0 K0; simp only [put, app, setAll, trOf, zE, List.set_cons_zero, List.set_cons_succ, Nat.reduceAdd]
  (refine rg_step rfl fun K0 hK0 => ?_; simp only [zE, op1, ev, lkp, avOf, acOf, ev, reduceCtorEq, Nat.reduceEqDiff, Nat.reduceAdd, Nat.reduceLeDiff, Nat.reduceLT, Nat.reduceMul, Nat.reduceSub, Try.td3, Mly.av]; (repeat refine And.intro (by omega) ?_); (first | refine hK0 _ ?_ | refine Or.inl (hK0 _ ?_)); clear hK0 K0; simp only [put, app, setAll, trOf, zE, List.set_cons_zero, List.set_cons_succ, Nat.reduceAdd])
  refine rg_nil ?_
  refine hK3 _ ?_; clear hK3; refine awp_keep [0, 1, 2, 3, 6, 7, 8, 9] ?_; simp only [keepEnv, lkp, zE, reduceCtorEq, Nat.reduceEqDiff, argEnv, Nat.reduceAdd]
  refine awp_seq_k fun K4 hK4 => ?_
  refine awp_reg hP hN rfl ?_
  iterate 2 (refine rg_step rfl fun K0 hK0 => ?_; simp only [zE, op1, ev, lkp, avOf, acOf, opBin, arith, inK_i64, reduceCtorEq, Nat.reduceEqDiff, Nat.reduceAdd, Nat.reduceLeDiff, Nat.reduceLT, Nat.reduceMul, Nat.reduceSub, Try.td3, Try.td4, Mly.av]; (repeat refine And.intro (by omega) ?_); (first | refine hK0 _ ?_ | refine Or.inl (hK0 _ ?_)); clear hK0 K0; simp only [put, app, setAll, trOf, zE, List.set_cons_zero, List.set_cons_succ, Nat.reduceAdd])
  refine rg_nil ?_
  refine hK4 _ ?_; clear hK4; refine awp_keep [0, 1, 2, 3, 6, 7, 8, 9, 13] ?_; simp only [keepEnv, lkp, zE, reduceCtorEq, Nat.reduceEqDiff, argEnv, Nat.reduceAdd]
  refine awp_cond (by simp only [ev, keepEnv, lkp, zE, reduceCtorEq, Nat.reduceEqDiff, argEnv, Nat.reduceAdd]; exact rfl) (fun hc5 => ?_) (fun hc5 => ?_)
  · (try simp only [decide_eq_true_eq, decide_eq_false_iff_not, Bool.not_true, Bool.not_false, Bool.not_eq_true, Bool.not_eq_false, Bool.not_eq_eq_eq_not, Int.not_lt, Int.not_le, reduceCtorEq, Bool.true_eq_false, Bool.false_eq_true, ne_eq, Decidable.not_not, Bool.not_eq_true', bne_iff_ne, Bool.or_eq_true, Bool.and_eq_true, Bool.or_eq_false_iff, Bool.and_eq_false_iff] at hc5)
    refine awp_seq_k fun K6 hK6 => ?_
    refine awp_reg hP hN rfl ?_
    iterate 4 (refine rg_step rfl fun K0 hK0 => ?_; simp only [zE, op1, ev, lkp, avOf, acOf, ev, reduceCtorEq, Nat.reduceEqDiff, Nat.reduceAdd, Nat.reduceLeDiff, Nat.reduceLT, Nat.reduceMul, Nat.reduceSub, Try.td3, Mly.av]; (repeat refine And.intro (by omega) ?_); (first | refine hK0 _ ?_ | refine Or.inl (hK0 _ ?_)); clear hK0 K0; simp only [put, app, setAll, trOf, zE, List.set_cons_zero, List.set_cons_succ, Nat.reduceAdd])
    refine rg_nil ?_
    refine hK6 _ ?_; clear hK6; refine awp_keep [0, 1, 2, 3, 6, 7, 8, 9, 13] ?_; simp only [keepEnv, lkp, zE, reduceCtorEq, Nat.reduceEqDiff, argEnv, Nat.reduceAdd]
    refine awp_ret ?_
    refine ⟨by first | exact .inl rfl | exact .inr rfl, _, rfl, ?_⟩; simp only [fzV, fz1, fzC, List.map_cons, List.map_nil, keepEnv, lkp, zE, reduceCtorEq, Nat.reduceEqDiff, argEnv, Nat.reduceAdd, Mly.av]
    refine VLE.of_eq ?_
    first
    | (have hE := stepE_v (s := s) (a := a) ‹¬validE m = 0›
       unfold stepS stepO; rw [hE, if_neg ‹¬validE m = 0›, if_neg ‹¬validE m = 0›])
    | (have hE := stepE_b ‹validE m = 0› (show s < 0 ∨ (m.nx.length : Int) ≤ s ∨ a < 0 ∨ m.inp ≤ a by omega)
       unfold stepS stepO; rw [hE]; rfl)
    | (have hE := stepE_k ‹validE m = 0› (show ¬ (s < 0 ∨ (m.nx.length : Int) ≤ s ∨ a < 0 ∨ m.inp ≤ a) by omega)
       unfold stepS stepO; rw [hE]; rfl)
  · (try simp only [decide_eq_true_eq, decide_eq_false_iff_not, Bool.not_true, Bool.not_false, Bool.not_eq_true, Bool.not_eq_false, Bool.not_eq_eq_eq_not, Int.not_lt, Int.not_le, reduceCtorEq, Bool.true_eq_false, Bool.false_eq_true, ne_eq, Decidable.not_not, Bool.not_eq_true', bne_iff_ne, Bool.or_eq_true, Bool.and_eq_true, Bool.or_eq_false_iff, Bool.and_eq_false_iff] at hc5)
    refine awp_skip ?_
    refine hK2 _ ?_; clear hK2; refine awp_keep [0, 1, 2, 3, 6, 7, 8, 9, 13] ?_; simp only [keepEnv, lkp, zE, reduceCtorEq, Nat.reduceEqDiff, argEnv, Nat.reduceAdd]
    refine awp_seq_k fun K7 hK7 => ?_
    refine awp_seq_k fun K8 hK8 => ?_
    refine awp_reg hP hN rfl ?_
    iterate 2 (refine rg_step rfl fun K0 hK0 => ?_; simp only [zE, op1, ev, lkp, avOf, acOf, opBin, arith, inK_i64, reduceCtorEq, Nat.reduceEqDiff, Nat.reduceAdd, Nat.reduceLeDiff, Nat.reduceLT, Nat.reduceMul, Nat.reduceSub, Try.td3, Try.td4, Mly.av]; (repeat refine And.intro (by omega) ?_); (first | refine hK0 _ ?_ | refine Or.inl (hK0 _ ?_)); clear hK0 K0; simp only [put, app, setAll, trOf, zE, List.set_cons_zero, List.set_cons_succ, Nat.reduceAdd])
    (refine rg_step rfl fun K0 hK0 => ?_; simp only [zE, op1, ev, lkp, avOf, acOf, ev, reduceCtorEq, Nat.reduceEqDiff, Nat.reduceAdd, Nat.reduceLeDiff, Nat.reduceLT, Nat.reduceMul, Nat.reduceSub, Try.td4, Mly.av]; (repeat refine And.intro (by omega) ?_); (first | refine hK0 _ ?_ | refine Or.inl (hK0 _ ?_)); clear hK0 K0; simp only [put, app, setAll, trOf, zE, List.set_cons_zero, List.set_cons_succ, Nat.reduceAdd])
    refine' rg_join_n (want := false) 5 rfl (m := 17) (by simp only [keepEnv, lkp, zE, reduceCtorEq, Nat.reduceEqDiff, argEnv, Nat.reduceAdd]; exact rfl) (by kernel_rfl) rfl rfl rfl rfl rfl (fun hg9 => ?a9) ?b9 ?c9
    case a9 =>
      have hq9 := hg9; (try simp only [decide_eq_true_eq, decide_eq_false_iff_not, Bool.not_true, Bool.not_false, Bool.not_eq_true, Bool.not_eq_false, Bool.not_eq_eq_eq_not, Int.not_lt, Int.not_le, reduceCtorEq, Bool.true_eq_false, Bool.false_eq_true, ne_eq, Decidable.not_not, Bool.not_eq_true', bne_iff_ne, Bool.or_eq_true, Bool.and_eq_true, Bool.or_eq_false_iff, Bool.and_eq_false_iff] at hg9); simp only [List.take_succ_cons, List.take_zero, List.cons_append, List.nil_append]
      (refine rg_do rfl fun K0 hK0 => ?_; simp only [zE, op1, ev, lkp, avOf, acOf, ev, reduceCtorEq, Nat.reduceEqDiff, Nat.reduceAdd, Nat.reduceLeDiff, Nat.reduceLT, Nat.reduceMul, Nat.reduceSub, Try.td3, Mly.av]; (repeat refine And.intro (by omega) ?_); (first | refine hK0 _ ?_ | refine Or.inl (hK0 _ ?_)); clear hK0 K0; simp only [put, app, setAll, trOf, zE, List.set_cons_zero, List.set_cons_succ, Nat.reduceAdd])
      (refine rg_do rfl fun K0 hK0 => ?_; simp only [zE, op1, ev, lkp, avOf, acOf, opFieldAddr, reduceCtorEq, Nat.reduceEqDiff, Nat.reduceAdd, Nat.reduceLeDiff, Nat.reduceLT, Nat.reduceMul, Nat.reduceSub, Try.st24, Try.td2, Try.td24, Mly.av]; (repeat refine And.intro (by omega) ?_); (first | refine hK0 _ ?_ | refine Or.inl (hK0 _ ?_)); clear hK0 K0; simp only [put, app, setAll, trOf, zE, List.set_cons_zero, List.set_cons_succ, Nat.reduceAdd])
      (refine rg_do rfl fun K0 hK0 => ?_; simp only [zE, op1, ev, lkp, avOf, acOf, opLoad, readAC, isAggK, acs, Ty.dflt, zG, cellsAt, reduceCtorEq, Nat.reduceEqDiff, Nat.reduceAdd, Nat.reduceLeDiff, Nat.reduceLT, Nat.reduceMul, Nat.reduceSub, Try.el22, Try.td22, Mly.av]; (repeat refine And.intro (by omega) ?_); (first | refine hK0 _ ?_ | refine Or.inl (hK0 _ ?_)); clear hK0 K0; simp only [put, app, setAll, trOf, zE, List.set_cons_zero, List.set_cons_succ, Nat.reduceAdd])
      (refine rg_do rfl fun K0 hK0 => ?_; simp only [zE, op1, ev, lkp, avOf, acOf, opCallAny, opLen, lenAC, lenOk, fpAC, opAppend, srcOf, Ty.size, datOf, dite_true, reduceCtorEq, Nat.reduceEqDiff, Nat.reduceAdd, Nat.reduceLeDiff, Nat.reduceLT, Nat.reduceMul, Nat.reduceSub, Try.el22, Try.td22, Try.td3, Mly.av]; (repeat refine And.intro (by omega) ?_); (first | refine hK0 _ ?_ | refine Or.inl (hK0 _ ?_)); clear hK0 K0; simp only [put, app, setAll, trOf, zE, List.set_cons_zero, List.set_cons_succ, Nat.reduceAdd])
      (refine rg_do rfl fun K0 hK0 => ?_; simp only [zE, op1, ev, lkp, avOf, acOf, opBin, arith, inK_i64, reduceCtorEq, Nat.reduceEqDiff, Nat.reduceAdd, Nat.reduceLeDiff, Nat.reduceLT, Nat.reduceMul, Nat.reduceSub, Try.td3, Try.td4, Mly.av]; (repeat refine And.intro (by omega) ?_); (first | refine hK0 _ ?_ | refine Or.inl (hK0 _ ?_)); clear hK0 K0; simp only [put, app, setAll, trOf, zE, List.set_cons_zero, List.set_cons_succ, Nat.reduceAdd])
      (refine rg_step rfl fun K0 hK0 => ?_; simp only [zE, op1, ev, lkp, avOf, acOf, opPick, reduceCtorEq, Nat.reduceEqDiff, Nat.reduceAdd, Nat.reduceLeDiff, Nat.reduceLT, Nat.reduceMul, Nat.reduceSub, Try.td4, Mly.av]; (repeat refine And.intro (by omega) ?_); (first | refine hK0 _ ?_ | refine Or.inl (hK0 _ ?_)); clear hK0 K0; simp only [put, app, setAll, trOf, zE, List.set_cons_zero, List.set_cons_succ, Nat.reduceAdd])
      refine rg_nil ?_
      refine ⟨by simp only [keepEnv, lkp, zE, reduceCtorEq, Nat.reduceEqDiff, argEnv, Nat.reduceAdd]; exact rfl, rfl, ?_, rfl⟩; (repeat refine keep_cons rfl ?_); exact keep_m (by exact rfl) hq9
    case b9 => exact tle_of (by rfl)
    simp only [join_or, join_and]
    (refine rg_step rfl fun K0 hK0 => ?_; simp only [zE, op1, ev, lkp, avOf, acOf, ev, reduceCtorEq, Nat.reduceEqDiff, Nat.reduceAdd, Nat.reduceLeDiff, Nat.reduceLT, Nat.reduceMul, Nat.reduceSub, Try.td4, Mly.av]; (repeat refine And.intro (by omega) ?_); (first | refine hK0 _ ?_ | refine Or.inl (hK0 _ ?_)); clear hK0 K0; simp only [put, app, setAll, trOf, zE, List.set_cons_zero, List.set_cons_succ, Nat.reduceAdd])
    refine' rg_join_n (want := false) 2 rfl (m := 24) (by simp only [keepEnv, lkp, zE, reduceCtorEq, Nat.reduceEqDiff, argEnv, Nat.reduceAdd]; exact rfl) (by kernel_rfl) rfl rfl rfl rfl rfl (fun hg10 => ?a10) ?b10 ?c10
    case a10 =>
      have hq10 := hg10; (try simp only [decide_eq_true_eq, decide_eq_false_iff_not, Bool.not_true, Bool.not_false, Bool.not_eq_true, Bool.not_eq_false, Bool.not_eq_eq_eq_not, Int.not_lt, Int.not_le, reduceCtorEq, Bool.true_eq_false, Bool.false_eq_true, ne_eq, Decidable.not_not, Bool.not_eq_true', bne_iff_ne, Bool.or_eq_true, Bool.and_eq_true, Bool.or_eq_false_iff, Bool.and_eq_false_iff] at hg10); simp only [List.take_succ_cons, List.take_zero, List.cons_append, List.nil_append]
      (refine rg_do rfl fun K0 hK0 => ?_; simp only [zE, op1, ev, lkp, avOf, acOf, ev, reduceCtorEq, Nat.reduceEqDiff, Nat.reduceAdd, Nat.reduceLeDiff, Nat.reduceLT, Nat.reduceMul, Nat.reduceSub, Try.td3, Mly.av]; (repeat refine And.intro (by omega) ?_); (first | refine hK0 _ ?_ | refine Or.inl (hK0 _ ?_)); clear hK0 K0; simp only [put, app, setAll, trOf, zE, List.set_cons_zero, List.set_cons_succ, Nat.reduceAdd])
      (refine rg_do rfl fun K0 hK0 => ?_; simp only [zE, op1, ev, lkp, avOf, acOf, opBin, arith, inK_i64, reduceCtorEq, Nat.reduceEqDiff, Nat.reduceAdd, Nat.reduceLeDiff, Nat.reduceLT, Nat.reduceMul, Nat.reduceSub, Try.td3, Try.td4, Mly.av]; (repeat refine And.intro (by omega) ?_); (first | refine hK0 _ ?_ | refine Or.inl (hK0 _ ?_)); clear hK0 K0; simp only [put, app, setAll, trOf, zE, List.set_cons_zero, List.set_cons_succ, Nat.reduceAdd])
      (refine rg_step rfl fun K0 hK0 => ?_; simp only [zE, op1, ev, lkp, avOf, acOf, opPick, reduceCtorEq, Nat.reduceEqDiff, Nat.reduceAdd, Nat.reduceLeDiff, Nat.reduceLT, Nat.reduceMul, Nat.reduceSub, Try.td4, Mly.av]; (repeat refine And.intro (by omega) ?_); (first | refine hK0 _ ?_ | refine Or.inl (hK0 _ ?_)); clear hK0 K0; simp only [put, app, setAll, trOf, zE, List.set_cons_zero, List.set_cons_succ, Nat.reduceAdd])
      refine rg_nil ?_
      refine ⟨by simp only [keepEnv, lkp, zE, reduceCtorEq, Nat.reduceEqDiff, argEnv, Nat.reduceAdd]; exact rfl, rfl, ?_, rfl⟩; (repeat refine keep_cons rfl ?_); exact keep_m (by exact rfl) hq10
    case b10 => exact tle_of (by rfl)
    simp only [join_or, join_and]
    (refine rg_step rfl fun K0 hK0 => ?_; simp only [zE, op1, ev, lkp, avOf, acOf, ev, reduceCtorEq, Nat.reduceEqDiff, Nat.reduceAdd, Nat.reduceLeDiff, Nat.reduceLT, Nat.reduceMul, Nat.reduceSub, Try.td4, Mly.av]; (repeat refine And.intro (by omega) ?_); (first | refine hK0 _ ?_ | refine Or.inl (hK0 _ ?_)); clear hK0 K0; simp only [put, app, setAll, trOf, zE, List.set_cons_zero, List.set_cons_succ, Nat.reduceAdd])
    refine' rg_join_n (want := false) 4 rfl (m := 28) (by simp only [keepEnv, lkp, zE, reduceCtorEq, Nat.reduceEqDiff, argEnv, Nat.reduceAdd]; exact rfl) (by kernel_rfl) rfl rfl rfl rfl rfl (fun hg11 => ?a11) ?b11 ?c11
    case a11 =>
      have hq11 := hg11; (try simp only [decide_eq_true_eq, decide_eq_false_iff_not, Bool.not_true, Bool.not_false, Bool.not_eq_true, Bool.not_eq_false, Bool.not_eq_eq_eq_not, Int.not_lt, Int.not_le, reduceCtorEq, Bool.true_eq_false, Bool.false_eq_true, ne_eq, Decidable.not_not, Bool.not_eq_true', bne_iff_ne, Bool.or_eq_true, Bool.and_eq_true, Bool.or_eq_false_iff, Bool.and_eq_false_iff] at hg11); simp only [List.take_succ_cons, List.take_zero, List.cons_append, List.nil_append]
      (refine rg_do rfl fun K0 hK0 => ?_; simp only [zE, op1, ev, lkp, avOf, acOf, ev, reduceCtorEq, Nat.reduceEqDiff, Nat.reduceAdd, Nat.reduceLeDiff, Nat.reduceLT, Nat.reduceMul, Nat.reduceSub, Try.td3, Mly.av]; (repeat refine And.intro (by omega) ?_); (first | refine hK0 _ ?_ | refine Or.inl (hK0 _ ?_)); clear hK0 K0; simp only [put, app, setAll, trOf, zE, List.set_cons_zero, List.set_cons_succ, Nat.reduceAdd])
      (refine rg_do rfl fun K0 hK0 => ?_; simp only [zE, op1, ev, lkp, avOf, acOf, opFieldAddr, reduceCtorEq, Nat.reduceEqDiff, Nat.reduceAdd, Nat.reduceLeDiff, Nat.reduceLT, Nat.reduceMul, Nat.reduceSub, Try.st24, Try.td24, Mly.av]; (repeat refine And.intro (by omega) ?_); (first | refine hK0 _ ?_ | refine Or.inl (hK0 _ ?_)); clear hK0 K0; simp only [put, app, setAll, trOf, zE, List.set_cons_zero, List.set_cons_succ, Nat.reduceAdd])
      (refine rg_do rfl fun K0 hK0 => ?_; simp only [zE, op1, ev, lkp, avOf, acOf, opLoad, readAC, isAggK, acs, Ty.dflt, zG, cellsAt, reduceCtorEq, Nat.reduceEqDiff, Nat.reduceAdd, Nat.reduceLeDiff, Nat.reduceLT, Nat.reduceMul, Nat.reduceSub, Try.td3, Mly.av]; (repeat refine And.intro (by omega) ?_); (first | refine hK0 _ ?_ | refine Or.inl (hK0 _ ?_)); clear hK0 K0; simp only [put, app, setAll, trOf, zE, List.set_cons_zero, List.set_cons_succ, Nat.reduceAdd])
      (refine rg_do rfl fun K0 hK0 => ?_; simp only [zE, op1, ev, lkp, avOf, acOf, opBin, arith, inK_i64, reduceCtorEq, Nat.reduceEqDiff, Nat.reduceAdd, Nat.reduceLeDiff, Nat.reduceLT, Nat.reduceMul, Nat.reduceSub, Try.td3, Try.td4, Mly.av]; (repeat refine And.intro (by omega) ?_); (first | refine hK0 _ ?_ | refine Or.inl (hK0 _ ?_)); clear hK0 K0; simp only [put, app, setAll, trOf, zE, List.set_cons_zero, List.set_cons_succ, Nat.reduceAdd])
      (refine rg_step rfl fun K0 hK0 => ?_; simp only [zE, op1, ev, lkp, avOf, acOf, opPick, reduceCtorEq, Nat.reduceEqDiff, Nat.reduceAdd, Nat.reduceLeDiff, Nat.reduceLT, Nat.reduceMul, Nat.reduceSub, Try.td4, Mly.av]; (repeat refine And.intro (by omega) ?_); (first | refine hK0 _ ?_ | refine Or.inl (hK0 _ ?_)); clear hK0 K0; simp only [put, app, setAll, trOf, zE, List.set_cons_zero, List.set_cons_succ, Nat.reduceAdd])
      refine rg_nil ?_
      refine ⟨by simp only [keepEnv, lkp, zE, reduceCtorEq, Nat.reduceEqDiff, argEnv, Nat.reduceAdd]; exact rfl, rfl, ?_, rfl⟩; (repeat refine keep_cons rfl ?_); exact keep_m (by exact rfl) hq11
    case b11 => exact tle_of (by rfl)
    simp only [join_or, join_and]
    refine rg_nil ?_
    refine hK8 _ ?_; clear hK8; refine awp_keep [0, 1, 2, 3, 6, 7, 8, 9, 13, 33] ?_; simp only [keepEnv, lkp, zE, reduceCtorEq, Nat.reduceEqDiff, argEnv, Nat.reduceAdd]
    refine awp_cond (by simp only [ev, keepEnv, lkp, zE, reduceCtorEq, Nat.reduceEqDiff, argEnv, Nat.reduceAdd]; exact rfl) (fun hc12 => ?_) (fun hc12 => ?_)
    · (try simp only [decide_eq_true_eq, decide_eq_false_iff_not, Bool.not_true, Bool.not_false, Bool.not_eq_true, Bool.not_eq_false, Bool.not_eq_eq_eq_not, Int.not_lt, Int.not_le, reduceCtorEq, Bool.true_eq_false, Bool.false_eq_true, ne_eq, Decidable.not_not, Bool.not_eq_true', bne_iff_ne, Bool.or_eq_true, Bool.and_eq_true, Bool.or_eq_false_iff, Bool.and_eq_false_iff] at hc12)
      refine awp_seq_k fun K13 hK13 => ?_
      refine awp_reg hP hN rfl ?_
      iterate 3 (refine rg_step rfl fun K0 hK0 => ?_; simp only [zE, op1, ev, lkp, avOf, acOf, ev, reduceCtorEq, Nat.reduceEqDiff, Nat.reduceAdd, Nat.reduceLeDiff, Nat.reduceLT, Nat.reduceMul, Nat.reduceSub, Try.td3, Mly.av]; (repeat refine And.intro (by omega) ?_); (first | refine hK0 _ ?_ | refine Or.inl (hK0 _ ?_)); clear hK0 K0; simp only [put, app, setAll, trOf, zE, List.set_cons_zero, List.set_cons_succ, Nat.reduceAdd])
      refine rg_nil ?_
      refine hK13 _ ?_; clear hK13; refine awp_keep [0, 1, 2, 3, 6, 7, 8, 9, 13, 33] ?_; simp only [keepEnv, lkp, zE, reduceCtorEq, Nat.reduceEqDiff, argEnv, Nat.reduceAdd]
      refine awp_ret ?_
      refine ⟨by first | exact .inl rfl | exact .inr rfl, _, rfl, ?_⟩; simp only [fzV, fz1, fzC, List.map_cons, List.map_nil, keepEnv, lkp, zE, reduceCtorEq, Nat.reduceEqDiff, argEnv, Nat.reduceAdd, Mly.av]
      refine VLE.of_eq ?_
      first
      | (have hE := stepE_v (s := s) (a := a) ‹¬validE m = 0›
         unfold stepS stepO; rw [hE, if_neg ‹¬validE m = 0›, if_neg ‹¬validE m = 0›])
      | (have hE := stepE_b ‹validE m = 0› (show s < 0 ∨ (m.nx.length : Int) ≤ s ∨ a < 0 ∨ m.inp ≤ a by omega)
         unfold stepS stepO; rw [hE]; rfl)
      | (have hE := stepE_k ‹validE m = 0› (show ¬ (s < 0 ∨ (m.nx.length : Int) ≤ s ∨ a < 0 ∨ m.inp ≤ a) by omega)
         unfold stepS stepO; rw [hE]; rfl)
    · (try simp only [decide_eq_true_eq, decide_eq_false_iff_not, Bool.not_true, Bool.not_false, Bool.not_eq_true, Bool.not_eq_false, Bool.not_eq_eq_eq_not, Int.not_lt, Int.not_le, reduceCtorEq, Bool.true_eq_false, Bool.false_eq_true, ne_eq, Decidable.not_not, Bool.not_eq_true', bne_iff_ne, Bool.or_eq_true, Bool.and_eq_true, Bool.or_eq_false_iff, Bool.and_eq_false_iff] at hc12)
      refine awp_skip ?_
      refine hK7 _ ?_; clear hK7; refine awp_keep [0, 1, 2, 3, 6, 7, 8, 9, 13, 33] ?_; simp only [keepEnv, lkp, zE, reduceCtorEq, Nat.reduceEqDiff, argEnv, Nat.reduceAdd]
      refine awp_seq_k fun K14 hK14 => ?_
      have hok := mok_of (by assumption); have h1 := hok.rl s.toNat (by omega); have h2 := hok.ql s.toNat (by omega); have h3 := hok.ol
      refine awp_drw hP hN Try.mixed rfl ?_
      iterate 19 (refine rg_step rfl fun K0 hK0 => ?_; simp only [zE, op1, ev, lkp, avOf, acOf, opFieldAddr, opLoad, readAC, isAggK, acs, Ty.dflt, zG, cellsAt, opIndexAddr, Ty.size, reduceCtorEq, Nat.reduceEqDiff, Nat.reduceAdd, Nat.reduceLeDiff, Nat.reduceLT, Nat.reduceMul, Nat.reduceSub, Try.el22, Try.el30, Try.st24, Try.td2, Try.td22, Try.td24, Try.td3, Try.td30, Mly.av]; (repeat refine And.intro (by omega) ?_); (first | refine hK0 _ ?_ | refine Or.inl (hK0 _ ?_)); clear hK0 K0; simp only [put, app, setAll, trOf, zE, List.set_cons_zero, List.set_cons_succ, Nat.reduceAdd])
      refine rg_nil ?_
      refine ⟨by kernel_rfl, ?_⟩
      refine hK14 _ ?_; clear hK14; refine awp_keep [0, 1, 2, 3, 6, 7, 8, 9, 13, 33] ?_; simp only [keepEnv, lkp, zE, reduceCtorEq, Nat.reduceEqDiff, argEnv, Nat.reduceAdd]
      refine awp_ret ?_
      refine ⟨by first | exact .inl rfl | exact .inr rfl, _, rfl, ?_⟩; simp only [fzV, fz1, fzC, List.map_cons, List.map_nil, keepEnv, lkp, zE, reduceCtorEq, Nat.reduceEqDiff, argEnv, Nat.reduceAdd, Mly.av]
      refine VLE.of_eq ?_
      first
      | (have hE := stepE_v (s := s) (a := a) ‹¬validE m = 0›
         unfold stepS stepO; rw [hE, if_neg ‹¬validE m = 0›, if_neg ‹¬validE m = 0›])
      | (have hE := stepE_b ‹validE m = 0› (show s < 0 ∨ (m.nx.length : Int) ≤ s ∨ a < 0 ∨ m.inp ≤ a by omega)
         unfold stepS stepO; rw [hE]; rfl)
      | (have hE := stepE_k ‹validE m = 0› (show ¬ (s < 0 ∨ (m.nx.length : Int) ≤ s ∨ a < 0 ∨ m.inp ≤ a) by omega)
         unfold stepS stepO; rw [hE]; rfl)

end Go.Proofs.Ytcbkfkgagcfcoaa
