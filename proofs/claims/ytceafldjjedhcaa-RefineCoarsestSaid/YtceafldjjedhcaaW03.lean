/- Contracts of functions of this seat, each out of a walk through its code, and plain facts on what they compute. Conditions: those that each theorem names. -/
import Derived.Test.YtceafldjjedhcaaW02
set_option linter.unusedSimpArgs false
set_option linter.unusedVariables false
namespace Go.Proofs.Ytceafldjjedhcaa
open Go Go.AV
open Nat (reduceEqDiff reduceAdd reduceLeDiff reduceLT reduceMul reduceSub)
open List (set_cons_zero set_cons_succ)
set_option maxRecDepth 100000 in
theorem gate38_c  : PURE Try.prog 24 [] (gateM.av) := by
  refine pure_of_le Try.func24 rfl (by kernel_rfl) (Nat.le_of_ble_eq_true rfl) rfl fun C hP hN hB => ?_
  replace hN : C.N = 8 := hN
  simp only [argEnv, reduceAdd]
  refine awp_seq_k fun K1 hK1 => ?_
  refine awp_reg hP hN rfl ?_
  (refine rg_step rfl fun K0 hK0 => ?_; simp only [zE, op1, ev, lkp, avOf, acOf, opAlloc, reduceCtorEq, reduceEqDiff, reduceAdd, reduceLeDiff, reduceLT, reduceMul, reduceSub, Try.st24, Try.td24, Mly.av, gateM]; (repeat refine And.intro (by first | omega | assumption | exact rfl) ?_); (first | refine hK0 _ ?_ | refine Or.inl (hK0 _ ?_)); clear hK0 K0; simp only [put, app, setAll, trOf, zE, set_cons_zero, set_cons_succ, reduceAdd])
  refine rg_nil ?_
  refine hK1 _ ?_; clear hK1; refine awp_keep [0] ?_; simp only [keepEnv, lkp, zE, reduceCtorEq, reduceEqDiff, argEnv, reduceAdd]
  refine awp_seq_k fun K2 hK2 => ?_
  refine awp_reg hP hN rfl ?_
  iterate 8 (refine rg_step rfl fun K0 hK0 => ?_; simp only [zE, op1, ev, lkp, avOf, acOf, opBuildSlice, fillAC, chunk, rep, datOf, writeAC, cellsAV, Ty.size, opBuild, opStore, Nat.mul_one, acs, Ty.dflt, zG, reduceCtorEq, reduceEqDiff, reduceAdd, reduceLeDiff, reduceLT, reduceMul, reduceSub, Try.el22, Try.el25, Try.st24, Try.td2, Try.td22, Try.td24, Try.td25, Mly.av, gateM]; (repeat refine And.intro (by first | omega | assumption | exact rfl) ?_); (first | refine hK0 _ ?_ | refine Or.inl (hK0 _ ?_)); clear hK0 K0; simp only [put, app, setAll, trOf, zE, set_cons_zero, set_cons_succ, reduceAdd])
  refine rg_nil ?_
  refine hK2 _ ?_; clear hK2; refine awp_keep [0] ?_; simp only [keepEnv, lkp, zE, reduceCtorEq, reduceEqDiff, argEnv, reduceAdd]
  refine awp_ret ?_
  refine ⟨by first | exact .inl rfl | exact .inr rfl, _, rfl, ?_⟩; simp only [fzV, fz1, fzC, List.map_cons, List.map_nil, keepEnv, lkp, zE, reduceCtorEq, reduceEqDiff, argEnv, reduceAdd, Mly.av, gateM]
  refine VLE.of_eq ?_
  rfl
end Go.Proofs.Ytceafldjjedhcaa
namespace Go.Proofs.Ytceafldjjedhcaa
open Go Go.AV
open Nat (reduceEqDiff reduceAdd reduceLeDiff reduceLT reduceMul reduceSub)
open List (set_cons_zero set_cons_succ)
set_option maxRecDepth 100000 in
theorem ints_c (xs ys : List Int) : PURE Try.prog 13 [.one (.list (.int .i64) xs), .one (.list (.int .i64) ys)] (.one (.bool (decide (xs = ys)))) := by
  refine pure_of_le Try.func13 rfl (by kernel_rfl) (Nat.le_of_ble_eq_true rfl) rfl fun C hP hN hB => ?_
  replace hN : C.N = 26 := hN
  simp only [argEnv, reduceAdd]
  refine awp_fit 0 rfl fun hf0 => ?_; simp only [lkp, if_true, if_false, reduceCtorEq, reduceEqDiff, eq_self, Nat.one_ne_zero, Nat.zero_ne_one, fitV, fitC, fitL, Fit, and_true, implies_true, true_and] at hf0
  refine awp_seq_k fun K1 hK1 => ?_
  refine awp_reg hP hN rfl ?_
  (refine rg_step rfl fun K0 hK0 => ?_; simp only [zE, op1, ev, lkp, avOf, acOf, ev, reduceCtorEq, reduceEqDiff, reduceAdd, reduceLeDiff, reduceLT, reduceMul, reduceSub, Try.td4]; (repeat refine And.intro (by first | omega | assumption | exact rfl) ?_); (first | refine hK0 _ ?_ | refine Or.inl (hK0 _ ?_)); clear hK0 K0; simp only [put, app, setAll, trOf, zE, set_cons_zero, set_cons_succ, reduceAdd])
  refine rg_nil ?_
  refine hK1 _ ?_; clear hK1; refine awp_keep [0, 1, 4] ?_; simp only [keepEnv, lkp, zE, reduceCtorEq, reduceEqDiff, argEnv, reduceAdd]
  refine awp_seq_k fun K2 hK2 => ?_
  refine awp_seq_k fun K3 hK3 => ?_
  refine awp_reg hP hN rfl ?_
  iterate 5 (refine rg_step rfl fun K0 hK0 => ?_; simp only [zE, op1, ev, lkp, avOf, acOf, opCallAny, opMM, opLen, lenAC, lenOk, fpAC, Nat.div_one, opAppend, srcOf, Ty.size, datOf, dite_true, opBin, arith, inK_i64, eqACs, eqAC, reduceCtorEq, reduceEqDiff, reduceAdd, reduceLeDiff, reduceLT, reduceMul, reduceSub, Try.el25, Try.td25, Try.td3, Try.td4]; (repeat refine And.intro (by first | omega | assumption | exact rfl) ?_); (first | refine hK0 _ ?_ | refine Or.inl (hK0 _ ?_)); clear hK0 K0; simp only [put, app, setAll, trOf, zE, set_cons_zero, set_cons_succ, reduceAdd])
  refine rg_nil ?_
  refine hK3 _ ?_; clear hK3; refine awp_keep [0, 1, 4, 10] ?_; simp only [keepEnv, lkp, zE, reduceCtorEq, reduceEqDiff, argEnv, reduceAdd]
  refine awp_cond (by simp only [ev, keepEnv, lkp, zE, reduceCtorEq, reduceEqDiff, argEnv, reduceAdd]; exact rfl) (fun hc4 => ?_) (fun hc4 => ?_)
  · (try simp only [decide_eq_true_eq, decide_eq_false_iff_not, Bool.not_true, Bool.not_false, Bool.not_eq_true, Bool.not_eq_false, Bool.not_eq_eq_eq_not, Int.not_lt, Int.not_le, reduceCtorEq, Bool.true_eq_false, Bool.false_eq_true, ne_eq, Decidable.not_not, Bool.not_eq_true', bne_iff_ne, Bool.or_eq_true, Bool.and_eq_true, Bool.or_eq_false_iff, Bool.and_eq_false_iff] at hc4)
    refine awp_seq_k fun K5 hK5 => ?_
    refine awp_reg hP hN rfl ?_
    (refine rg_step rfl fun K0 hK0 => ?_; simp only [zE, op1, ev, lkp, avOf, acOf, ev, reduceCtorEq, reduceEqDiff, reduceAdd, reduceLeDiff, reduceLT, reduceMul, reduceSub, Try.td4]; (repeat refine And.intro (by first | omega | assumption | exact rfl) ?_); (first | refine hK0 _ ?_ | refine Or.inl (hK0 _ ?_)); clear hK0 K0; simp only [put, app, setAll, trOf, zE, set_cons_zero, set_cons_succ, reduceAdd])
    refine rg_nil ?_
    refine hK5 _ ?_; clear hK5; refine awp_keep [0, 1, 4, 10] ?_; simp only [keepEnv, lkp, zE, reduceCtorEq, reduceEqDiff, argEnv, reduceAdd]
    refine awp_ret ?_
    refine ⟨by first | exact .inl rfl | exact .inr rfl, _, rfl, ?_⟩; simp only [fzV, fz1, fzC, List.map_cons, List.map_nil, keepEnv, lkp, zE, reduceCtorEq, reduceEqDiff, argEnv, reduceAdd]
    refine VLE.of_eq ?_
    first
    | (refine bool_false ?_; rintro rfl; first | exact absurd rfl ‹¬ _› | omega)
    | (refine bool_true ?_; have hk1 : k = xs.length := by omega
       have hk2 : k = ys.length := by omega
       rw [hk1, List.take_length, ← hk1, hk2, List.take_length] at hT; exact hT)
  · (try simp only [decide_eq_true_eq, decide_eq_false_iff_not, Bool.not_true, Bool.not_false, Bool.not_eq_true, Bool.not_eq_false, Bool.not_eq_eq_eq_not, Int.not_lt, Int.not_le, reduceCtorEq, Bool.true_eq_false, Bool.false_eq_true, ne_eq, Decidable.not_not, Bool.not_eq_true', bne_iff_ne, Bool.or_eq_true, Bool.and_eq_true, Bool.or_eq_false_iff, Bool.and_eq_false_iff] at hc4)
    refine awp_skip ?_
    refine hK2 _ ?_; clear hK2; refine awp_keep [0, 1, 4, 10] ?_; simp only [keepEnv, lkp, zE, reduceCtorEq, reduceEqDiff, argEnv, reduceAdd]
    refine awp_seq_k fun K6 hK6 => ?_
    refine awp_seq_k fun K7 hK7 => ?_
    refine awp_reg hP hN rfl ?_
    (refine rg_step rfl fun K0 hK0 => ?_; simp only [zE, op1, ev, lkp, avOf, acOf, ev, reduceCtorEq, reduceEqDiff, reduceAdd, reduceLeDiff, reduceLT, reduceMul, reduceSub, Try.td3]; (repeat refine And.intro (by first | omega | assumption | exact rfl) ?_); (first | refine hK0 _ ?_ | refine Or.inl (hK0 _ ?_)); clear hK0 K0; simp only [put, app, setAll, trOf, zE, set_cons_zero, set_cons_succ, reduceAdd])
    refine rg_nil ?_
    refine hK7 _ ?_; clear hK7; refine awp_keep [0, 1, 4, 5, 10] ?_; simp only [keepEnv, lkp, zE, reduceCtorEq, reduceEqDiff, argEnv, reduceAdd]
    refine awp_block ?_
    refine awp_loop (fun n8 s8 => ∃ (k : Nat), (k ≤ xs.length) ∧ (xs.take k = ys.take k) ∧ n8 = xs.length - k ∧ s8 = { env := [(0, .one (.list (.int .i64) xs)), (1, .one (.list (.int .i64) ys)), (5, .one (.int .i64 (k : Int)))], L := [] }) ?_ ?_
    · exact ⟨_, _, sub_keep [0, 1, 5], 0, Nat.zero_le _, rfl, rfl, rfl⟩
    · rintro n8 s8 ⟨k, hk, hT, rfl, rfl⟩
      refine awp_seq_k fun K9 hK9 => ?_
      refine awp_seq_k fun K10 hK10 => ?_
      refine awp_reg hP hN rfl ?_
      iterate 4 (refine rg_step rfl fun K0 hK0 => ?_; simp only [zE, op1, ev, lkp, avOf, acOf, opCallAny, opMM, opLen, lenAC, lenOk, fpAC, Nat.div_one, opAppend, srcOf, Ty.size, datOf, dite_true, opBin, arith, inK_i64, eqACs, eqAC, reduceCtorEq, reduceEqDiff, reduceAdd, reduceLeDiff, reduceLT, reduceMul, reduceSub, Try.el25, Try.td25, Try.td3, Try.td4]; (repeat refine And.intro (by first | omega | assumption | exact rfl) ?_); (first | refine hK0 _ ?_ | refine Or.inl (hK0 _ ?_)); clear hK0 K0; simp only [put, app, setAll, trOf, zE, set_cons_zero, set_cons_succ, reduceAdd])
      refine rg_nil ?_
      refine hK10 _ ?_; clear hK10; refine awp_keep [0, 1, 5, 14] ?_; simp only [keepEnv, lkp, zE, reduceCtorEq, reduceEqDiff, argEnv, reduceAdd]
      refine awp_cond (by simp only [ev, keepEnv, lkp, zE, reduceCtorEq, reduceEqDiff, argEnv, reduceAdd]; exact rfl) (fun hc11 => ?_) (fun hc11 => ?_)
      · (try simp only [decide_eq_true_eq, decide_eq_false_iff_not, Bool.not_true, Bool.not_false, Bool.not_eq_true, Bool.not_eq_false, Bool.not_eq_eq_eq_not, Int.not_lt, Int.not_le, reduceCtorEq, Bool.true_eq_false, Bool.false_eq_true, ne_eq, Decidable.not_not, Bool.not_eq_true', bne_iff_ne, Bool.or_eq_true, Bool.and_eq_true, Bool.or_eq_false_iff, Bool.and_eq_false_iff] at hc11)
        refine awp_skip ?_
        refine hK9 _ ?_; clear hK9; refine awp_keep [0, 1, 5, 14] ?_; simp only [keepEnv, lkp, zE, reduceCtorEq, reduceEqDiff, argEnv, reduceAdd]
        refine awp_seq_k fun K12 hK12 => ?_
        refine awp_block ?_
        refine awp_seq_k fun K13 hK13 => ?_
        refine awp_drw hP hN Try.mixed rfl ?_
        iterate 9 (refine rg_step rfl fun K0 hK0 => ?_; simp only [zE, op1, ev, lkp, avOf, acOf, opIndexAddr, zG, Ty.dflt, Ty.size, Nat.mul_one, ne_eq, not_false_eq_true, Int.natCast_one, Int.mul_one, opLoad, readAC, isAggK, acs, cellsAt, opBin, arith, inK_i64, eqACs, eqAC, reduceCtorEq, reduceEqDiff, reduceAdd, reduceLeDiff, reduceLT, reduceMul, reduceSub, Try.el25, Try.td25, Try.td3, Try.td4]; (repeat refine And.intro (by first | omega | assumption | exact rfl) ?_); (first | refine hK0 _ ?_ | refine Or.inl (hK0 _ ?_)); clear hK0 K0; simp only [put, app, setAll, trOf, zE, set_cons_zero, set_cons_succ, reduceAdd])
        refine rg_nil ?_
        refine ⟨by kernel_rfl, ?_⟩
        refine hK13 _ ?_; clear hK13; refine awp_keep [0, 1, 5, 14, 25] ?_; simp only [keepEnv, lkp, zE, reduceCtorEq, reduceEqDiff, argEnv, reduceAdd]
        refine awp_cond (by simp only [ev, keepEnv, lkp, zE, reduceCtorEq, reduceEqDiff, argEnv, reduceAdd]; exact rfl) (fun hc14 => ?_) (fun hc14 => ?_)
        · (try simp only [decide_eq_true_eq, decide_eq_false_iff_not, Bool.not_true, Bool.not_false, Bool.not_eq_true, Bool.not_eq_false, Bool.not_eq_eq_eq_not, Int.not_lt, Int.not_le, reduceCtorEq, Bool.true_eq_false, Bool.false_eq_true, ne_eq, Decidable.not_not, Bool.not_eq_true', bne_iff_ne, Bool.or_eq_true, Bool.and_eq_true, Bool.or_eq_false_iff, Bool.and_eq_false_iff] at hc14)
          refine awp_seq_k fun K15 hK15 => ?_
          refine awp_reg hP hN rfl ?_
          (refine rg_step rfl fun K0 hK0 => ?_; simp only [zE, op1, ev, lkp, avOf, acOf, ev, reduceCtorEq, reduceEqDiff, reduceAdd, reduceLeDiff, reduceLT, reduceMul, reduceSub, Try.td4]; (repeat refine And.intro (by first | omega | assumption | exact rfl) ?_); (first | refine hK0 _ ?_ | refine Or.inl (hK0 _ ?_)); clear hK0 K0; simp only [put, app, setAll, trOf, zE, set_cons_zero, set_cons_succ, reduceAdd])
          refine rg_nil ?_
          refine hK15 _ ?_; clear hK15; refine awp_keep [0, 1, 4, 5, 14, 25] ?_; simp only [keepEnv, lkp, zE, reduceCtorEq, reduceEqDiff, argEnv, reduceAdd]
          refine awp_ret ?_
          refine ⟨by first | exact .inl rfl | exact .inr rfl, _, rfl, ?_⟩; simp only [fzV, fz1, fzC, List.map_cons, List.map_nil, keepEnv, lkp, zE, reduceCtorEq, reduceEqDiff, argEnv, reduceAdd]
          refine VLE.of_eq ?_
          first
          | (refine bool_false ?_; rintro rfl; first | exact absurd rfl ‹¬ _› | omega)
          | (refine bool_true ?_; have hk1 : k = xs.length := by omega
             have hk2 : k = ys.length := by omega
             rw [hk1, List.take_length, ← hk1, hk2, List.take_length] at hT; exact hT)
        · (try simp only [decide_eq_true_eq, decide_eq_false_iff_not, Bool.not_true, Bool.not_false, Bool.not_eq_true, Bool.not_eq_false, Bool.not_eq_eq_eq_not, Int.not_lt, Int.not_le, reduceCtorEq, Bool.true_eq_false, Bool.false_eq_true, ne_eq, Decidable.not_not, Bool.not_eq_true', bne_iff_ne, Bool.or_eq_true, Bool.and_eq_true, Bool.or_eq_false_iff, Bool.and_eq_false_iff] at hc14)
          refine awp_skip ?_
          refine hK12 _ ?_; clear hK12; refine awp_keep [0, 1, 5, 14, 25] ?_; simp only [keepEnv, lkp, zE, reduceCtorEq, reduceEqDiff, argEnv, reduceAdd]
          refine awp_reg hP hN rfl ?_
          iterate 3 (refine rg_step rfl fun K0 hK0 => ?_; simp only [zE, op1, ev, lkp, avOf, acOf, opBin, arith, inK_i64, eqACs, eqAC, reduceCtorEq, reduceEqDiff, reduceAdd, reduceLeDiff, reduceLT, reduceMul, reduceSub, Try.td3]; (repeat refine And.intro (by first | omega | assumption | exact rfl) ?_); (first | refine hK0 _ ?_ | refine Or.inl (hK0 _ ?_)); clear hK0 K0; simp only [put, app, setAll, trOf, zE, set_cons_zero, set_cons_succ, reduceAdd])
          refine rg_nil ?_
          refine ⟨_, _, ?_, sub_keep [0, 1, 5], k + 1, by omega, take_eq_succ (d := 0) hT (by omega) (by omega) ?_, rfl, rfl⟩
          · omega
          · first | assumption | omega
      · (try simp only [decide_eq_true_eq, decide_eq_false_iff_not, Bool.not_true, Bool.not_false, Bool.not_eq_true, Bool.not_eq_false, Bool.not_eq_eq_eq_not, Int.not_lt, Int.not_le, reduceCtorEq, Bool.true_eq_false, Bool.false_eq_true, ne_eq, Decidable.not_not, Bool.not_eq_true', bne_iff_ne, Bool.or_eq_true, Bool.and_eq_true, Bool.or_eq_false_iff, Bool.and_eq_false_iff] at hc11)
        refine awp_exit ?_
        refine hK6 _ ?_; clear hK6; refine awp_keep [0, 1, 5, 14] ?_; simp only [keepEnv, lkp, zE, reduceCtorEq, reduceEqDiff, argEnv, reduceAdd]
        refine awp_seq_k fun K16 hK16 => ?_
        refine awp_reg hP hN rfl ?_
        (refine rg_step rfl fun K0 hK0 => ?_; simp only [zE, op1, ev, lkp, avOf, acOf, ev, reduceCtorEq, reduceEqDiff, reduceAdd, reduceLeDiff, reduceLT, reduceMul, reduceSub, Try.td4]; (repeat refine And.intro (by first | omega | assumption | exact rfl) ?_); (first | refine hK0 _ ?_ | refine Or.inl (hK0 _ ?_)); clear hK0 K0; simp only [put, app, setAll, trOf, zE, set_cons_zero, set_cons_succ, reduceAdd])
        refine rg_nil ?_
        refine hK16 _ ?_; clear hK16; refine awp_keep [0, 1, 4, 5, 14] ?_; simp only [keepEnv, lkp, zE, reduceCtorEq, reduceEqDiff, argEnv, reduceAdd]
        refine awp_ret ?_
        refine ⟨by first | exact .inl rfl | exact .inr rfl, _, rfl, ?_⟩; simp only [fzV, fz1, fzC, List.map_cons, List.map_nil, keepEnv, lkp, zE, reduceCtorEq, reduceEqDiff, argEnv, reduceAdd]
        refine VLE.of_eq ?_
        first
        | (refine bool_false ?_; rintro rfl; first | exact absurd rfl ‹¬ _› | omega)
        | (refine bool_true ?_; have hk1 : k = xs.length := by omega
           have hk2 : k = ys.length := by omega
           rw [hk1, List.take_length, ← hk1, hk2, List.take_length] at hT; exact hT)
end Go.Proofs.Ytceafldjjedhcaa
namespace Go.Proofs.Ytceafldjjedhcaa
open Go Go.AV
open Nat (reduceEqDiff reduceAdd reduceLeDiff reduceLT reduceMul reduceSub)
open List (set_cons_zero set_cons_succ)
set_option maxRecDepth 100000 in
theorem awake38_c  : PURE Try.prog 10 [] (.one (.bool true)) := by
  refine pure_of_le Try.func10 rfl (by kernel_rfl) (Nat.le_of_ble_eq_true rfl) rfl fun C hP hN hB => ?_
  replace hN : C.N = 132 := hN
  simp only [argEnv, reduceAdd]
  refine awp_seq_k fun K1 hK1 => ?_
  refine awp_reg hP hN rfl ?_
  (refine rg_step rfl fun K0 hK0 => ?_; simp only [zE, op1, ev, lkp, avOf, acOf, ev, reduceCtorEq, reduceEqDiff, reduceAdd, reduceLeDiff, reduceLT, reduceMul, reduceSub, Try.td4, Mly.av]; (repeat refine And.intro (by first | omega | assumption | exact rfl) ?_); (first | refine hK0 _ ?_ | refine Or.inl (hK0 _ ?_)); clear hK0 K0; simp only [put, app, setAll, trOf, zE, set_cons_zero, set_cons_succ, reduceAdd])
  refine rg_nil ?_
  refine hK1 _ ?_; clear hK1; refine awp_keep [0] ?_; simp only [keepEnv, lkp, zE, reduceCtorEq, reduceEqDiff, argEnv, reduceAdd]
  refine awp_seq_k fun K2 hK2 => ?_
  refine awp_reg hP hN rfl ?_
  refine rg_step rfl fun K0 hK0 => ?_
  refine op_call (h := call_of_pure gate38_c) rfl rfl (by first | exact rfl | (simp only [ev, keepEnv, lkp, zE, reduceCtorEq, reduceEqDiff, argEnv, reduceAdd]; exact rfl)) (by simp only [zE, zG, op1, ev, lkp, avOf, acOf, cellsAV, acs, capAV, mv1, mvC, Ty.dflt, reduceCtorEq, reduceEqDiff, reduceAdd, reduceLeDiff, reduceLT, reduceMul, reduceSub, Mly.av]) ?_
  refine hK0 _ ?_; clear hK0 K0; simp only [put, app, setAll, trOf, zE, set_cons_zero, set_cons_succ, reduceAdd]
  (refine rg_step rfl fun K0 hK0 => ?_; simp only [zE, op1, ev, lkp, avOf, acOf, opBuildSlice, fillAC, chunk, rep, datOf, writeAC, cellsAV, Ty.size, reduceCtorEq, reduceEqDiff, reduceAdd, reduceLeDiff, reduceLT, reduceMul, reduceSub, Try.el25, Try.td2, Try.td25, Mly.av]; (repeat refine And.intro (by first | omega | assumption | exact rfl) ?_); (first | refine hK0 _ ?_ | refine Or.inl (hK0 _ ?_)); clear hK0 K0; simp only [put, app, setAll, trOf, zE, set_cons_zero, set_cons_succ, reduceAdd])
  refine rg_step rfl fun K0 hK0 => ?_
  refine op_call (h := call_of_pure evW1) rfl rfl (by first | exact rfl | (simp only [ev, keepEnv, lkp, zE, reduceCtorEq, reduceEqDiff, argEnv, reduceAdd]; exact rfl)) (by simp only [zE, zG, op1, ev, lkp, avOf, acOf, cellsAV, acs, capAV, mv1, mvC, Ty.dflt, reduceCtorEq, reduceEqDiff, reduceAdd, reduceLeDiff, reduceLT, reduceMul, reduceSub, Mly.av]) ?_
  refine hK0 _ ?_; clear hK0 K0; simp only [put, app, setAll, trOf, zE, set_cons_zero, set_cons_succ, reduceAdd]
  iterate 9 (refine rg_step rfl fun K0 hK0 => ?_; simp only [zE, op1, ev, lkp, avOf, acOf, opExtract, reduceCtorEq, reduceEqDiff, reduceAdd, reduceLeDiff, reduceLT, reduceMul, reduceSub, Try.el25, Try.td1, Try.td2, Try.td25, Try.td28, Try.td3, Try.td4, Mly.av]; (repeat refine And.intro (by first | omega | assumption | exact rfl) ?_); (first | refine hK0 _ ?_ | refine Or.inl (hK0 _ ?_)); clear hK0 K0; simp only [put, app, setAll, trOf, zE, set_cons_zero, set_cons_succ, reduceAdd])
  refine rg_nil ?_
  refine hK2 _ ?_; clear hK2; refine awp_keep [0, 1, 2, 3, 4] ?_; simp only [keepEnv, lkp, zE, reduceCtorEq, reduceEqDiff, argEnv, reduceAdd]
  refine awp_seq_k fun K3 hK3 => ?_
  refine awp_reg hP hN rfl ?_
  refine rg_step rfl fun K0 hK0 => ?_
  refine op_call (h := call_of_pure gate38_c) rfl rfl (by first | exact rfl | (simp only [ev, keepEnv, lkp, zE, reduceCtorEq, reduceEqDiff, argEnv, reduceAdd]; exact rfl)) (by simp only [zE, zG, op1, ev, lkp, avOf, acOf, cellsAV, acs, capAV, mv1, mvC, Ty.dflt, reduceCtorEq, reduceEqDiff, reduceAdd, reduceLeDiff, reduceLT, reduceMul, reduceSub, Mly.av]) ?_
  refine hK0 _ ?_; clear hK0 K0; simp only [put, app, setAll, trOf, zE, set_cons_zero, set_cons_succ, reduceAdd]
  (refine rg_step rfl fun K0 hK0 => ?_; simp only [zE, op1, ev, lkp, avOf, acOf, opBuildSlice, fillAC, chunk, rep, datOf, writeAC, cellsAV, Ty.size, reduceCtorEq, reduceEqDiff, reduceAdd, reduceLeDiff, reduceLT, reduceMul, reduceSub, Try.el25, Try.td2, Try.td25, Mly.av]; (repeat refine And.intro (by first | omega | assumption | exact rfl) ?_); (first | refine hK0 _ ?_ | refine Or.inl (hK0 _ ?_)); clear hK0 K0; simp only [put, app, setAll, trOf, zE, set_cons_zero, set_cons_succ, reduceAdd])
  refine rg_step rfl fun K0 hK0 => ?_
  refine op_call (h := call_of_pure evS1) rfl rfl (by first | exact rfl | (simp only [ev, keepEnv, lkp, zE, reduceCtorEq, reduceEqDiff, argEnv, reduceAdd]; exact rfl)) (by simp only [zE, zG, op1, ev, lkp, avOf, acOf, cellsAV, acs, capAV, mv1, mvC, Ty.dflt, reduceCtorEq, reduceEqDiff, reduceAdd, reduceLeDiff, reduceLT, reduceMul, reduceSub, Mly.av]) ?_
  refine hK0 _ ?_; clear hK0 K0; simp only [put, app, setAll, trOf, zE, set_cons_zero, set_cons_succ, reduceAdd]
  iterate 7 (refine rg_step rfl fun K0 hK0 => ?_; simp only [zE, op1, ev, lkp, avOf, acOf, opExtract, reduceCtorEq, reduceEqDiff, reduceAdd, reduceLeDiff, reduceLT, reduceMul, reduceSub, Try.el25, Try.td1, Try.td2, Try.td25, Try.td28, Try.td4, Mly.av]; (repeat refine And.intro (by first | omega | assumption | exact rfl) ?_); (first | refine hK0 _ ?_ | refine Or.inl (hK0 _ ?_)); clear hK0 K0; simp only [put, app, setAll, trOf, zE, set_cons_zero, set_cons_succ, reduceAdd])
  refine rg_nil ?_
  refine hK3 _ ?_; clear hK3; refine awp_keep [0, 1, 2, 3, 4, 5, 6, 7] ?_; simp only [keepEnv, lkp, zE, reduceCtorEq, reduceEqDiff, argEnv, reduceAdd]
  refine awp_seq_k fun K4 hK4 => ?_
  refine awp_reg hP hN rfl ?_
  refine rg_step rfl fun K0 hK0 => ?_
  refine op_call (h := call_of_pure gate38_c) rfl rfl (by first | exact rfl | (simp only [ev, keepEnv, lkp, zE, reduceCtorEq, reduceEqDiff, argEnv, reduceAdd]; exact rfl)) (by simp only [zE, zG, op1, ev, lkp, avOf, acOf, cellsAV, acs, capAV, mv1, mvC, Ty.dflt, reduceCtorEq, reduceEqDiff, reduceAdd, reduceLeDiff, reduceLT, reduceMul, reduceSub, Mly.av]) ?_
  refine hK0 _ ?_; clear hK0 K0; simp only [put, app, setAll, trOf, zE, set_cons_zero, set_cons_succ, reduceAdd]
  (refine rg_step rfl fun K0 hK0 => ?_; simp only [zE, op1, ev, lkp, avOf, acOf, opBuildSlice, fillAC, chunk, rep, datOf, writeAC, cellsAV, Ty.size, reduceCtorEq, reduceEqDiff, reduceAdd, reduceLeDiff, reduceLT, reduceMul, reduceSub, Try.el25, Try.td2, Try.td25, Mly.av]; (repeat refine And.intro (by first | omega | assumption | exact rfl) ?_); (first | refine hK0 _ ?_ | refine Or.inl (hK0 _ ?_)); clear hK0 K0; simp only [put, app, setAll, trOf, zE, set_cons_zero, set_cons_succ, reduceAdd])
  refine rg_step rfl fun K0 hK0 => ?_
  refine op_call (h := call_of_pure evS2) rfl rfl (by first | exact rfl | (simp only [ev, keepEnv, lkp, zE, reduceCtorEq, reduceEqDiff, argEnv, reduceAdd]; exact rfl)) (by simp only [zE, zG, op1, ev, lkp, avOf, acOf, cellsAV, acs, capAV, mv1, mvC, Ty.dflt, reduceCtorEq, reduceEqDiff, reduceAdd, reduceLeDiff, reduceLT, reduceMul, reduceSub, Mly.av]) ?_
  refine hK0 _ ?_; clear hK0 K0; simp only [put, app, setAll, trOf, zE, set_cons_zero, set_cons_succ, reduceAdd]
  iterate 7 (refine rg_step rfl fun K0 hK0 => ?_; simp only [zE, op1, ev, lkp, avOf, acOf, opExtract, reduceCtorEq, reduceEqDiff, reduceAdd, reduceLeDiff, reduceLT, reduceMul, reduceSub, Try.el25, Try.td1, Try.td2, Try.td25, Try.td28, Try.td4, Mly.av]; (repeat refine And.intro (by first | omega | assumption | exact rfl) ?_); (first | refine hK0 _ ?_ | refine Or.inl (hK0 _ ?_)); clear hK0 K0; simp only [put, app, setAll, trOf, zE, set_cons_zero, set_cons_succ, reduceAdd])
  refine rg_nil ?_
  refine hK4 _ ?_; clear hK4; refine awp_keep [0, 1, 2, 3, 4, 5, 6, 7, 8, 9, 10] ?_; simp only [keepEnv, lkp, zE, reduceCtorEq, reduceEqDiff, argEnv, reduceAdd]
  refine awp_seq_k fun K5 hK5 => ?_
  refine awp_reg hP hN rfl ?_
  refine rg_step rfl fun K0 hK0 => ?_
  refine op_call (h := call_of_pure gate38_c) rfl rfl (by first | exact rfl | (simp only [ev, keepEnv, lkp, zE, reduceCtorEq, reduceEqDiff, argEnv, reduceAdd]; exact rfl)) (by simp only [zE, zG, op1, ev, lkp, avOf, acOf, cellsAV, acs, capAV, mv1, mvC, Ty.dflt, reduceCtorEq, reduceEqDiff, reduceAdd, reduceLeDiff, reduceLT, reduceMul, reduceSub, Mly.av]) ?_
  refine hK0 _ ?_; clear hK0 K0; simp only [put, app, setAll, trOf, zE, set_cons_zero, set_cons_succ, reduceAdd]
  refine rg_step rfl fun K0 hK0 => ?_
  refine op_call (h := call_of_pure evR1) rfl rfl (by first | exact rfl | (simp only [ev, keepEnv, lkp, zE, reduceCtorEq, reduceEqDiff, argEnv, reduceAdd]; exact rfl)) (by simp only [zE, zG, op1, ev, lkp, avOf, acOf, cellsAV, acs, capAV, mv1, mvC, Ty.dflt, reduceCtorEq, reduceEqDiff, reduceAdd, reduceLeDiff, reduceLT, reduceMul, reduceSub, Mly.av]) ?_
  refine hK0 _ ?_; clear hK0 K0; simp only [put, app, setAll, trOf, zE, set_cons_zero, set_cons_succ, reduceAdd]
  iterate 7 (refine rg_step rfl fun K0 hK0 => ?_; simp only [zE, op1, ev, lkp, avOf, acOf, opExtract, reduceCtorEq, reduceEqDiff, reduceAdd, reduceLeDiff, reduceLT, reduceMul, reduceSub, Try.el25, Try.td1, Try.td2, Try.td25, Try.td28, Try.td3, Mly.av]; (repeat refine And.intro (by first | omega | assumption | exact rfl) ?_); (first | refine hK0 _ ?_ | refine Or.inl (hK0 _ ?_)); clear hK0 K0; simp only [put, app, setAll, trOf, zE, set_cons_zero, set_cons_succ, reduceAdd])
  refine rg_nil ?_
  refine hK5 _ ?_; clear hK5; refine awp_keep [0, 1, 2, 3, 4, 5, 6, 7, 8, 9, 10, 11, 12, 13] ?_; simp only [keepEnv, lkp, zE, reduceCtorEq, reduceEqDiff, argEnv, reduceAdd]
  refine awp_seq_k fun K6 hK6 => ?_
  refine awp_reg hP hN rfl ?_
  iterate 9 (refine rg_step rfl fun K0 hK0 => ?_; simp only [zE, op1, ev, lkp, avOf, acOf, opBuildSlice, fillAC, chunk, rep, datOf, writeAC, cellsAV, Ty.size, opBuild, opAlloc, opStore, Nat.mul_one, acs, Ty.dflt, zG, reduceCtorEq, reduceEqDiff, reduceAdd, reduceLeDiff, reduceLT, reduceMul, reduceSub, Try.el22, Try.el25, Try.st24, Try.td2, Try.td22, Try.td24, Try.td25, Try.td3, Mly.av]; (repeat refine And.intro (by first | omega | assumption | exact rfl) ?_); (first | refine hK0 _ ?_ | refine Or.inl (hK0 _ ?_)); clear hK0 K0; simp only [put, app, setAll, trOf, zE, set_cons_zero, set_cons_succ, reduceAdd])
  refine rg_nil ?_
  refine hK6 _ ?_; clear hK6; refine awp_keep [0, 1, 2, 3, 4, 5, 6, 7, 8, 9, 10, 11, 12, 13, 14] ?_; simp only [keepEnv, lkp, zE, reduceCtorEq, reduceEqDiff, argEnv, reduceAdd]
  refine awp_seq_k fun K7 hK7 => ?_
  refine awp_reg hP hN rfl ?_
  iterate 2 (refine rg_step rfl fun K0 hK0 => ?_; simp only [zE, op1, ev, lkp, avOf, acOf, opLoad, Nat.mul_one, readAC, isAggK, acs, Ty.dflt, zG, cellsAt, opBuildSlice, fillAC, chunk, rep, datOf, writeAC, cellsAV, Ty.size, reduceCtorEq, reduceEqDiff, reduceAdd, reduceLeDiff, reduceLT, reduceMul, reduceSub, Try.el25, Try.st24, Try.td24, Try.td25, Try.td3, Mly.av]; (repeat refine And.intro (by first | omega | assumption | exact rfl) ?_); (first | refine hK0 _ ?_ | refine Or.inl (hK0 _ ?_)); clear hK0 K0; simp only [put, app, setAll, trOf, zE, set_cons_zero, set_cons_succ, reduceAdd])
  refine rg_step rfl fun K0 hK0 => ?_
  refine op_call (h := call_of_pure evW2) rfl rfl (by first | exact rfl | (simp only [ev, keepEnv, lkp, zE, reduceCtorEq, reduceEqDiff, argEnv, reduceAdd]; exact rfl)) (by simp only [zE, zG, op1, ev, lkp, avOf, acOf, cellsAV, acs, capAV, mv1, mvC, Ty.dflt, reduceCtorEq, reduceEqDiff, reduceAdd, reduceLeDiff, reduceLT, reduceMul, reduceSub, Mly.av]) ?_
  refine hK0 _ ?_; clear hK0 K0; simp only [put, app, setAll, trOf, zE, set_cons_zero, set_cons_succ, reduceAdd]
  iterate 9 (refine rg_step rfl fun K0 hK0 => ?_; simp only [zE, op1, ev, lkp, avOf, acOf, opExtract, reduceCtorEq, reduceEqDiff, reduceAdd, reduceLeDiff, reduceLT, reduceMul, reduceSub, Try.el25, Try.td1, Try.td2, Try.td25, Try.td28, Try.td3, Try.td4, Mly.av]; (repeat refine And.intro (by first | omega | assumption | exact rfl) ?_); (first | refine hK0 _ ?_ | refine Or.inl (hK0 _ ?_)); clear hK0 K0; simp only [put, app, setAll, trOf, zE, set_cons_zero, set_cons_succ, reduceAdd])
  refine rg_nil ?_
  refine hK7 _ ?_; clear hK7; refine awp_keep [0, 1, 2, 3, 4, 5, 6, 7, 8, 9, 10, 11, 12, 13, 14, 15, 16, 17, 18] ?_; simp only [keepEnv, lkp, zE, reduceCtorEq, reduceEqDiff, argEnv, reduceAdd]
  refine awp_seq_k fun K8 hK8 => ?_
  refine awp_seq_k fun K9 hK9 => ?_
  refine awp_reg hP hN rfl ?_
  iterate 2 (refine rg_step rfl fun K0 hK0 => ?_; simp only [zE, op1, ev, lkp, avOf, acOf, opBin, arith, inK_i64, eqACs, eqAC, reduceCtorEq, reduceEqDiff, reduceAdd, reduceLeDiff, reduceLT, reduceMul, reduceSub, Try.td28, Try.td4, Mly.av]; (repeat refine And.intro (by first | omega | assumption | exact rfl) ?_); (first | refine hK0 _ ?_ | refine Or.inl (hK0 _ ?_)); clear hK0 K0; simp only [put, app, setAll, trOf, zE, set_cons_zero, set_cons_succ, reduceAdd])
  (refine rg_step rfl fun K0 hK0 => ?_; simp only [zE, op1, ev, lkp, avOf, acOf, ev, reduceCtorEq, reduceEqDiff, reduceAdd, reduceLeDiff, reduceLT, reduceMul, reduceSub, Try.td4, Mly.av]; (repeat refine And.intro (by first | omega | assumption | exact rfl) ?_); (first | refine hK0 _ ?_ | refine Or.inl (hK0 _ ?_)); clear hK0 K0; simp only [put, app, setAll, trOf, zE, set_cons_zero, set_cons_succ, reduceAdd])
  refine' rg_join_n (want := false) 2 rfl (m := 64) (by simp only [keepEnv, lkp, zE, reduceCtorEq, reduceEqDiff, argEnv, reduceAdd]; exact rfl) (by kernel_rfl) rfl rfl rfl rfl rfl (fun hg10 => ?a10) ?b10 ?c10
  case a10 =>
    have hq10 := hg10; (try simp only [decide_eq_true_eq, decide_eq_false_iff_not, Bool.not_true, Bool.not_false, Bool.not_eq_true, Bool.not_eq_false, Bool.not_eq_eq_eq_not, Int.not_lt, Int.not_le, reduceCtorEq, Bool.true_eq_false, Bool.false_eq_true, ne_eq, Decidable.not_not, Bool.not_eq_true', bne_iff_ne, Bool.or_eq_true, Bool.and_eq_true, Bool.or_eq_false_iff, Bool.and_eq_false_iff] at hg10); simp only [List.take_succ_cons, List.take_zero, List.cons_append, List.nil_append]
    (refine rg_do rfl fun K0 hK0 => ?_; simp only [zE, op1, ev, lkp, avOf, acOf, ev, reduceCtorEq, reduceEqDiff, reduceAdd, reduceLeDiff, reduceLT, reduceMul, reduceSub, Try.td28, Mly.av]; (repeat refine And.intro (by first | omega | assumption | exact rfl) ?_); (first | refine hK0 _ ?_ | refine Or.inl (hK0 _ ?_)); clear hK0 K0; simp only [put, app, setAll, trOf, zE, set_cons_zero, set_cons_succ, reduceAdd])
    (refine rg_do rfl fun K0 hK0 => ?_; simp only [zE, op1, ev, lkp, avOf, acOf, opBin, arith, inK_i64, eqACs, eqAC, reduceCtorEq, reduceEqDiff, reduceAdd, reduceLeDiff, reduceLT, reduceMul, reduceSub, Try.td28, Try.td4, Mly.av]; (repeat refine And.intro (by first | omega | assumption | exact rfl) ?_); (first | refine hK0 _ ?_ | refine Or.inl (hK0 _ ?_)); clear hK0 K0; simp only [put, app, setAll, trOf, zE, set_cons_zero, set_cons_succ, reduceAdd])
    (refine rg_step rfl fun K0 hK0 => ?_; simp only [zE, op1, ev, lkp, avOf, acOf, opPick, reduceCtorEq, reduceEqDiff, reduceAdd, reduceLeDiff, reduceLT, reduceMul, reduceSub, Try.td4, Mly.av]; (repeat refine And.intro (by first | omega | assumption | exact rfl) ?_); (first | refine hK0 _ ?_ | refine Or.inl (hK0 _ ?_)); clear hK0 K0; simp only [put, app, setAll, trOf, zE, set_cons_zero, set_cons_succ, reduceAdd])
    refine rg_nil ?_
    refine ⟨by simp only [keepEnv, lkp, zE, reduceCtorEq, reduceEqDiff, argEnv, reduceAdd]; exact rfl, rfl, ?_, rfl⟩; (repeat refine keep_cons rfl ?_); exact keep_m (by exact rfl) hq10
  case b10 => exact tle_of (by first | rfl | (simp [tleB]; done) | decide)
  simp only [join_or, join_and]
  (refine rg_step rfl fun K0 hK0 => ?_; simp only [zE, op1, ev, lkp, avOf, acOf, ev, reduceCtorEq, reduceEqDiff, reduceAdd, reduceLeDiff, reduceLT, reduceMul, reduceSub, Try.td4, Mly.av]; (repeat refine And.intro (by first | omega | assumption | exact rfl) ?_); (first | refine hK0 _ ?_ | refine Or.inl (hK0 _ ?_)); clear hK0 K0; simp only [put, app, setAll, trOf, zE, set_cons_zero, set_cons_succ, reduceAdd])
  refine' rg_join_n (want := false) 2 rfl (m := 68) (by simp only [keepEnv, lkp, zE, reduceCtorEq, reduceEqDiff, argEnv, reduceAdd]; exact rfl) (by kernel_rfl) rfl rfl rfl rfl rfl (fun hg11 => ?a11) ?b11 ?c11
  case a11 =>
    have hq11 := hg11; (try simp only [decide_eq_true_eq, decide_eq_false_iff_not, Bool.not_true, Bool.not_false, Bool.not_eq_true, Bool.not_eq_false, Bool.not_eq_eq_eq_not, Int.not_lt, Int.not_le, reduceCtorEq, Bool.true_eq_false, Bool.false_eq_true, ne_eq, Decidable.not_not, Bool.not_eq_true', bne_iff_ne, Bool.or_eq_true, Bool.and_eq_true, Bool.or_eq_false_iff, Bool.and_eq_false_iff] at hg11); simp only [List.take_succ_cons, List.take_zero, List.cons_append, List.nil_append]
    (refine rg_do rfl fun K0 hK0 => ?_; simp only [zE, op1, ev, lkp, avOf, acOf, ev, reduceCtorEq, reduceEqDiff, reduceAdd, reduceLeDiff, reduceLT, reduceMul, reduceSub, Try.td28, Mly.av]; (repeat refine And.intro (by first | omega | assumption | exact rfl) ?_); (first | refine hK0 _ ?_ | refine Or.inl (hK0 _ ?_)); clear hK0 K0; simp only [put, app, setAll, trOf, zE, set_cons_zero, set_cons_succ, reduceAdd])
    (refine rg_do rfl fun K0 hK0 => ?_; simp only [zE, op1, ev, lkp, avOf, acOf, opBin, arith, inK_i64, eqACs, eqAC, reduceCtorEq, reduceEqDiff, reduceAdd, reduceLeDiff, reduceLT, reduceMul, reduceSub, Try.td28, Try.td4, Mly.av]; (repeat refine And.intro (by first | omega | assumption | exact rfl) ?_); (first | refine hK0 _ ?_ | refine Or.inl (hK0 _ ?_)); clear hK0 K0; simp only [put, app, setAll, trOf, zE, set_cons_zero, set_cons_succ, reduceAdd])
    (refine rg_step rfl fun K0 hK0 => ?_; simp only [zE, op1, ev, lkp, avOf, acOf, opPick, reduceCtorEq, reduceEqDiff, reduceAdd, reduceLeDiff, reduceLT, reduceMul, reduceSub, Try.td4, Mly.av]; (repeat refine And.intro (by first | omega | assumption | exact rfl) ?_); (first | refine hK0 _ ?_ | refine Or.inl (hK0 _ ?_)); clear hK0 K0; simp only [put, app, setAll, trOf, zE, set_cons_zero, set_cons_succ, reduceAdd])
    refine rg_nil ?_
    refine ⟨by simp only [keepEnv, lkp, zE, reduceCtorEq, reduceEqDiff, argEnv, reduceAdd]; exact rfl, rfl, ?_, rfl⟩; (repeat refine keep_cons rfl ?_); exact keep_m (by exact rfl) hq11
  case b11 => exact tle_of (by first | rfl | (simp [tleB]; done) | decide)
  simp only [join_or, join_and]
  (refine rg_step rfl fun K0 hK0 => ?_; simp only [zE, op1, ev, lkp, avOf, acOf, ev, reduceCtorEq, reduceEqDiff, reduceAdd, reduceLeDiff, reduceLT, reduceMul, reduceSub, Try.td4, Mly.av]; (repeat refine And.intro (by first | omega | assumption | exact rfl) ?_); (first | refine hK0 _ ?_ | refine Or.inl (hK0 _ ?_)); clear hK0 K0; simp only [put, app, setAll, trOf, zE, set_cons_zero, set_cons_succ, reduceAdd])
  refine' rg_join_n (want := false) 2 rfl (m := 72) (by simp only [keepEnv, lkp, zE, reduceCtorEq, reduceEqDiff, argEnv, reduceAdd]; exact rfl) (by kernel_rfl) rfl rfl rfl rfl rfl (fun hg12 => ?a12) ?b12 ?c12
  case a12 =>
    have hq12 := hg12; (try simp only [decide_eq_true_eq, decide_eq_false_iff_not, Bool.not_true, Bool.not_false, Bool.not_eq_true, Bool.not_eq_false, Bool.not_eq_eq_eq_not, Int.not_lt, Int.not_le, reduceCtorEq, Bool.true_eq_false, Bool.false_eq_true, ne_eq, Decidable.not_not, Bool.not_eq_true', bne_iff_ne, Bool.or_eq_true, Bool.and_eq_true, Bool.or_eq_false_iff, Bool.and_eq_false_iff] at hg12); simp only [List.take_succ_cons, List.take_zero, List.cons_append, List.nil_append]
    (refine rg_do rfl fun K0 hK0 => ?_; simp only [zE, op1, ev, lkp, avOf, acOf, ev, reduceCtorEq, reduceEqDiff, reduceAdd, reduceLeDiff, reduceLT, reduceMul, reduceSub, Try.td28, Mly.av]; (repeat refine And.intro (by first | omega | assumption | exact rfl) ?_); (first | refine hK0 _ ?_ | refine Or.inl (hK0 _ ?_)); clear hK0 K0; simp only [put, app, setAll, trOf, zE, set_cons_zero, set_cons_succ, reduceAdd])
    (refine rg_do rfl fun K0 hK0 => ?_; simp only [zE, op1, ev, lkp, avOf, acOf, opBin, arith, inK_i64, eqACs, eqAC, reduceCtorEq, reduceEqDiff, reduceAdd, reduceLeDiff, reduceLT, reduceMul, reduceSub, Try.td28, Try.td4, Mly.av]; (repeat refine And.intro (by first | omega | assumption | exact rfl) ?_); (first | refine hK0 _ ?_ | refine Or.inl (hK0 _ ?_)); clear hK0 K0; simp only [put, app, setAll, trOf, zE, set_cons_zero, set_cons_succ, reduceAdd])
    (refine rg_step rfl fun K0 hK0 => ?_; simp only [zE, op1, ev, lkp, avOf, acOf, opPick, reduceCtorEq, reduceEqDiff, reduceAdd, reduceLeDiff, reduceLT, reduceMul, reduceSub, Try.td4, Mly.av]; (repeat refine And.intro (by first | omega | assumption | exact rfl) ?_); (first | refine hK0 _ ?_ | refine Or.inl (hK0 _ ?_)); clear hK0 K0; simp only [put, app, setAll, trOf, zE, set_cons_zero, set_cons_succ, reduceAdd])
    refine rg_nil ?_
    refine ⟨by simp only [keepEnv, lkp, zE, reduceCtorEq, reduceEqDiff, argEnv, reduceAdd]; exact rfl, rfl, ?_, rfl⟩; (repeat refine keep_cons rfl ?_); exact keep_m (by exact rfl) hq12
  case b12 => exact tle_of (by first | rfl | (simp [tleB]; done) | decide)
  simp only [join_or, join_and]
  (refine rg_step rfl fun K0 hK0 => ?_; simp only [zE, op1, ev, lkp, avOf, acOf, ev, reduceCtorEq, reduceEqDiff, reduceAdd, reduceLeDiff, reduceLT, reduceMul, reduceSub, Try.td4, Mly.av]; (repeat refine And.intro (by first | omega | assumption | exact rfl) ?_); (first | refine hK0 _ ?_ | refine Or.inl (hK0 _ ?_)); clear hK0 K0; simp only [put, app, setAll, trOf, zE, set_cons_zero, set_cons_succ, reduceAdd])
  refine' rg_join_n (want := false) 2 rfl (m := 76) (by simp only [keepEnv, lkp, zE, reduceCtorEq, reduceEqDiff, argEnv, reduceAdd]; exact rfl) (by kernel_rfl) rfl rfl rfl rfl rfl (fun hg13 => ?a13) ?b13 ?c13
  case a13 =>
    have hq13 := hg13; (try simp only [decide_eq_true_eq, decide_eq_false_iff_not, Bool.not_true, Bool.not_false, Bool.not_eq_true, Bool.not_eq_false, Bool.not_eq_eq_eq_not, Int.not_lt, Int.not_le, reduceCtorEq, Bool.true_eq_false, Bool.false_eq_true, ne_eq, Decidable.not_not, Bool.not_eq_true', bne_iff_ne, Bool.or_eq_true, Bool.and_eq_true, Bool.or_eq_false_iff, Bool.and_eq_false_iff] at hg13); simp only [List.take_succ_cons, List.take_zero, List.cons_append, List.nil_append]
    (refine rg_do rfl fun K0 hK0 => ?_; simp only [zE, op1, ev, lkp, avOf, acOf, ev, reduceCtorEq, reduceEqDiff, reduceAdd, reduceLeDiff, reduceLT, reduceMul, reduceSub, Try.td28, Mly.av]; (repeat refine And.intro (by first | omega | assumption | exact rfl) ?_); (first | refine hK0 _ ?_ | refine Or.inl (hK0 _ ?_)); clear hK0 K0; simp only [put, app, setAll, trOf, zE, set_cons_zero, set_cons_succ, reduceAdd])
    (refine rg_do rfl fun K0 hK0 => ?_; simp only [zE, op1, ev, lkp, avOf, acOf, opBin, arith, inK_i64, eqACs, eqAC, reduceCtorEq, reduceEqDiff, reduceAdd, reduceLeDiff, reduceLT, reduceMul, reduceSub, Try.td28, Try.td4, Mly.av]; (repeat refine And.intro (by first | omega | assumption | exact rfl) ?_); (first | refine hK0 _ ?_ | refine Or.inl (hK0 _ ?_)); clear hK0 K0; simp only [put, app, setAll, trOf, zE, set_cons_zero, set_cons_succ, reduceAdd])
    (refine rg_step rfl fun K0 hK0 => ?_; simp only [zE, op1, ev, lkp, avOf, acOf, opPick, reduceCtorEq, reduceEqDiff, reduceAdd, reduceLeDiff, reduceLT, reduceMul, reduceSub, Try.td4, Mly.av]; (repeat refine And.intro (by first | omega | assumption | exact rfl) ?_); (first | refine hK0 _ ?_ | refine Or.inl (hK0 _ ?_)); clear hK0 K0; simp only [put, app, setAll, trOf, zE, set_cons_zero, set_cons_succ, reduceAdd])
    refine rg_nil ?_
    refine ⟨by simp only [keepEnv, lkp, zE, reduceCtorEq, reduceEqDiff, argEnv, reduceAdd]; exact rfl, rfl, ?_, rfl⟩; (repeat refine keep_cons rfl ?_); exact keep_m (by exact rfl) hq13
  case b13 => exact tle_of (by first | rfl | (simp [tleB]; done) | decide)
  simp only [join_or, join_and]
  (refine rg_step rfl fun K0 hK0 => ?_; simp only [zE, op1, ev, lkp, avOf, acOf, ev, reduceCtorEq, reduceEqDiff, reduceAdd, reduceLeDiff, reduceLT, reduceMul, reduceSub, Try.td4, Mly.av]; (repeat refine And.intro (by first | omega | assumption | exact rfl) ?_); (first | refine hK0 _ ?_ | refine Or.inl (hK0 _ ?_)); clear hK0 K0; simp only [put, app, setAll, trOf, zE, set_cons_zero, set_cons_succ, reduceAdd])
  refine' rg_join_n (want := false) 2 rfl (m := 80) (by simp only [keepEnv, lkp, zE, reduceCtorEq, reduceEqDiff, argEnv, reduceAdd]; exact rfl) (by kernel_rfl) rfl rfl rfl rfl rfl (fun hg14 => ?a14) ?b14 ?c14
  case a14 =>
    have hq14 := hg14; (try simp only [decide_eq_true_eq, decide_eq_false_iff_not, Bool.not_true, Bool.not_false, Bool.not_eq_true, Bool.not_eq_false, Bool.not_eq_eq_eq_not, Int.not_lt, Int.not_le, reduceCtorEq, Bool.true_eq_false, Bool.false_eq_true, ne_eq, Decidable.not_not, Bool.not_eq_true', bne_iff_ne, Bool.or_eq_true, Bool.and_eq_true, Bool.or_eq_false_iff, Bool.and_eq_false_iff] at hg14); simp only [List.take_succ_cons, List.take_zero, List.cons_append, List.nil_append]
    (refine rg_do rfl fun K0 hK0 => ?_; simp only [zE, op1, ev, lkp, avOf, acOf, ev, reduceCtorEq, reduceEqDiff, reduceAdd, reduceLeDiff, reduceLT, reduceMul, reduceSub, Try.td4, Mly.av]; (repeat refine And.intro (by first | omega | assumption | exact rfl) ?_); (first | refine hK0 _ ?_ | refine Or.inl (hK0 _ ?_)); clear hK0 K0; simp only [put, app, setAll, trOf, zE, set_cons_zero, set_cons_succ, reduceAdd])
    (refine rg_do rfl fun K0 hK0 => ?_; simp only [zE, op1, ev, lkp, avOf, acOf, opUn, reduceCtorEq, reduceEqDiff, reduceAdd, reduceLeDiff, reduceLT, reduceMul, reduceSub, Try.td4, Mly.av]; (repeat refine And.intro (by first | omega | assumption | exact rfl) ?_); (first | refine hK0 _ ?_ | refine Or.inl (hK0 _ ?_)); clear hK0 K0; simp only [put, app, setAll, trOf, zE, set_cons_zero, set_cons_succ, reduceAdd])
    (refine rg_step rfl fun K0 hK0 => ?_; simp only [zE, op1, ev, lkp, avOf, acOf, opPick, reduceCtorEq, reduceEqDiff, reduceAdd, reduceLeDiff, reduceLT, reduceMul, reduceSub, Try.td4, Mly.av]; (repeat refine And.intro (by first | omega | assumption | exact rfl) ?_); (first | refine hK0 _ ?_ | refine Or.inl (hK0 _ ?_)); clear hK0 K0; simp only [put, app, setAll, trOf, zE, set_cons_zero, set_cons_succ, reduceAdd])
    refine rg_nil ?_
    refine ⟨by simp only [keepEnv, lkp, zE, reduceCtorEq, reduceEqDiff, argEnv, reduceAdd]; exact rfl, rfl, ?_, rfl⟩; (repeat refine keep_cons rfl ?_); exact keep_m (by exact rfl) hq14
  case b14 => exact tle_of (by first | rfl | (simp [tleB]; done) | decide)
  simp only [join_or, join_and]
  (refine rg_step rfl fun K0 hK0 => ?_; simp only [zE, op1, ev, lkp, avOf, acOf, ev, reduceCtorEq, reduceEqDiff, reduceAdd, reduceLeDiff, reduceLT, reduceMul, reduceSub, Try.td4, Mly.av]; (repeat refine And.intro (by first | omega | assumption | exact rfl) ?_); (first | refine hK0 _ ?_ | refine Or.inl (hK0 _ ?_)); clear hK0 K0; simp only [put, app, setAll, trOf, zE, set_cons_zero, set_cons_succ, reduceAdd])
  refine' rg_join_n (want := false) 2 rfl (m := 84) (by simp only [keepEnv, lkp, zE, reduceCtorEq, reduceEqDiff, argEnv, reduceAdd]; exact rfl) (by kernel_rfl) rfl rfl rfl rfl rfl (fun hg15 => ?a15) ?b15 ?c15
  case a15 =>
    have hq15 := hg15; (try simp only [decide_eq_true_eq, decide_eq_false_iff_not, Bool.not_true, Bool.not_false, Bool.not_eq_true, Bool.not_eq_false, Bool.not_eq_eq_eq_not, Int.not_lt, Int.not_le, reduceCtorEq, Bool.true_eq_false, Bool.false_eq_true, ne_eq, Decidable.not_not, Bool.not_eq_true', bne_iff_ne, Bool.or_eq_true, Bool.and_eq_true, Bool.or_eq_false_iff, Bool.and_eq_false_iff] at hg15); simp only [List.take_succ_cons, List.take_zero, List.cons_append, List.nil_append]
    (refine rg_do rfl fun K0 hK0 => ?_; simp only [zE, op1, ev, lkp, avOf, acOf, ev, reduceCtorEq, reduceEqDiff, reduceAdd, reduceLeDiff, reduceLT, reduceMul, reduceSub, Try.td4, Mly.av]; (repeat refine And.intro (by first | omega | assumption | exact rfl) ?_); (first | refine hK0 _ ?_ | refine Or.inl (hK0 _ ?_)); clear hK0 K0; simp only [put, app, setAll, trOf, zE, set_cons_zero, set_cons_succ, reduceAdd])
    (refine rg_do rfl fun K0 hK0 => ?_; simp only [zE, op1, ev, lkp, avOf, acOf, opUn, reduceCtorEq, reduceEqDiff, reduceAdd, reduceLeDiff, reduceLT, reduceMul, reduceSub, Try.td4, Mly.av]; (repeat refine And.intro (by first | omega | assumption | exact rfl) ?_); (first | refine hK0 _ ?_ | refine Or.inl (hK0 _ ?_)); clear hK0 K0; simp only [put, app, setAll, trOf, zE, set_cons_zero, set_cons_succ, reduceAdd])
    (refine rg_step rfl fun K0 hK0 => ?_; simp only [zE, op1, ev, lkp, avOf, acOf, opPick, reduceCtorEq, reduceEqDiff, reduceAdd, reduceLeDiff, reduceLT, reduceMul, reduceSub, Try.td4, Mly.av]; (repeat refine And.intro (by first | omega | assumption | exact rfl) ?_); (first | refine hK0 _ ?_ | refine Or.inl (hK0 _ ?_)); clear hK0 K0; simp only [put, app, setAll, trOf, zE, set_cons_zero, set_cons_succ, reduceAdd])
    refine rg_nil ?_
    refine ⟨by simp only [keepEnv, lkp, zE, reduceCtorEq, reduceEqDiff, argEnv, reduceAdd]; exact rfl, rfl, ?_, rfl⟩; (repeat refine keep_cons rfl ?_); exact keep_m (by exact rfl) hq15
  case b15 => exact tle_of (by first | rfl | (simp [tleB]; done) | decide)
  simp only [join_or, join_and]
  (refine rg_step rfl fun K0 hK0 => ?_; simp only [zE, op1, ev, lkp, avOf, acOf, ev, reduceCtorEq, reduceEqDiff, reduceAdd, reduceLeDiff, reduceLT, reduceMul, reduceSub, Try.td4, Mly.av]; (repeat refine And.intro (by first | omega | assumption | exact rfl) ?_); (first | refine hK0 _ ?_ | refine Or.inl (hK0 _ ?_)); clear hK0 K0; simp only [put, app, setAll, trOf, zE, set_cons_zero, set_cons_succ, reduceAdd])
  refine' rg_join_n (want := false) 1 rfl (m := 88) (by simp only [keepEnv, lkp, zE, reduceCtorEq, reduceEqDiff, argEnv, reduceAdd]; exact rfl) (by kernel_rfl) rfl rfl rfl rfl rfl (fun hg16 => ?a16) ?b16 ?c16
  case a16 =>
    have hq16 := hg16; (try simp only [decide_eq_true_eq, decide_eq_false_iff_not, Bool.not_true, Bool.not_false, Bool.not_eq_true, Bool.not_eq_false, Bool.not_eq_eq_eq_not, Int.not_lt, Int.not_le, reduceCtorEq, Bool.true_eq_false, Bool.false_eq_true, ne_eq, Decidable.not_not, Bool.not_eq_true', bne_iff_ne, Bool.or_eq_true, Bool.and_eq_true, Bool.or_eq_false_iff, Bool.and_eq_false_iff] at hg16); simp only [List.take_succ_cons, List.take_zero, List.cons_append, List.nil_append]
    (refine rg_do rfl fun K0 hK0 => ?_; simp only [zE, op1, ev, lkp, avOf, acOf, ev, reduceCtorEq, reduceEqDiff, reduceAdd, reduceLeDiff, reduceLT, reduceMul, reduceSub, Try.td4, Mly.av]; (repeat refine And.intro (by first | omega | assumption | exact rfl) ?_); (first | refine hK0 _ ?_ | refine Or.inl (hK0 _ ?_)); clear hK0 K0; simp only [put, app, setAll, trOf, zE, set_cons_zero, set_cons_succ, reduceAdd])
    (refine rg_step rfl fun K0 hK0 => ?_; simp only [zE, op1, ev, lkp, avOf, acOf, opPick, reduceCtorEq, reduceEqDiff, reduceAdd, reduceLeDiff, reduceLT, reduceMul, reduceSub, Try.td4, Mly.av]; (repeat refine And.intro (by first | omega | assumption | exact rfl) ?_); (first | refine hK0 _ ?_ | refine Or.inl (hK0 _ ?_)); clear hK0 K0; simp only [put, app, setAll, trOf, zE, set_cons_zero, set_cons_succ, reduceAdd])
    refine rg_nil ?_
    refine ⟨by simp only [keepEnv, lkp, zE, reduceCtorEq, reduceEqDiff, argEnv, reduceAdd]; exact rfl, rfl, ?_, rfl⟩; (repeat refine keep_cons rfl ?_); exact keep_m (by exact rfl) hq16
  case b16 => exact tle_of (by first | rfl | (simp [tleB]; done) | decide)
  simp only [join_or, join_and]
  (refine rg_step rfl fun K0 hK0 => ?_; simp only [zE, op1, ev, lkp, avOf, acOf, ev, reduceCtorEq, reduceEqDiff, reduceAdd, reduceLeDiff, reduceLT, reduceMul, reduceSub, Try.td4, Mly.av]; (repeat refine And.intro (by first | omega | assumption | exact rfl) ?_); (first | refine hK0 _ ?_ | refine Or.inl (hK0 _ ?_)); clear hK0 K0; simp only [put, app, setAll, trOf, zE, set_cons_zero, set_cons_succ, reduceAdd])
  refine' rg_join_n (want := false) 2 rfl (m := 91) (by simp only [keepEnv, lkp, zE, reduceCtorEq, reduceEqDiff, argEnv, reduceAdd]; exact rfl) (by kernel_rfl) rfl rfl rfl rfl rfl (fun hg17 => ?a17) ?b17 ?c17
  case a17 =>
    have hq17 := hg17; (try simp only [decide_eq_true_eq, decide_eq_false_iff_not, Bool.not_true, Bool.not_false, Bool.not_eq_true, Bool.not_eq_false, Bool.not_eq_eq_eq_not, Int.not_lt, Int.not_le, reduceCtorEq, Bool.true_eq_false, Bool.false_eq_true, ne_eq, Decidable.not_not, Bool.not_eq_true', bne_iff_ne, Bool.or_eq_true, Bool.and_eq_true, Bool.or_eq_false_iff, Bool.and_eq_false_iff] at hg17); simp only [List.take_succ_cons, List.take_zero, List.cons_append, List.nil_append]
    (refine rg_do rfl fun K0 hK0 => ?_; simp only [zE, op1, ev, lkp, avOf, acOf, ev, reduceCtorEq, reduceEqDiff, reduceAdd, reduceLeDiff, reduceLT, reduceMul, reduceSub, Try.td4, Mly.av]; (repeat refine And.intro (by first | omega | assumption | exact rfl) ?_); (first | refine hK0 _ ?_ | refine Or.inl (hK0 _ ?_)); clear hK0 K0; simp only [put, app, setAll, trOf, zE, set_cons_zero, set_cons_succ, reduceAdd])
    (refine rg_do rfl fun K0 hK0 => ?_; simp only [zE, op1, ev, lkp, avOf, acOf, opUn, reduceCtorEq, reduceEqDiff, reduceAdd, reduceLeDiff, reduceLT, reduceMul, reduceSub, Try.td4, Mly.av]; (repeat refine And.intro (by first | omega | assumption | exact rfl) ?_); (first | refine hK0 _ ?_ | refine Or.inl (hK0 _ ?_)); clear hK0 K0; simp only [put, app, setAll, trOf, zE, set_cons_zero, set_cons_succ, reduceAdd])
    (refine rg_step rfl fun K0 hK0 => ?_; simp only [zE, op1, ev, lkp, avOf, acOf, opPick, reduceCtorEq, reduceEqDiff, reduceAdd, reduceLeDiff, reduceLT, reduceMul, reduceSub, Try.td4, Mly.av]; (repeat refine And.intro (by first | omega | assumption | exact rfl) ?_); (first | refine hK0 _ ?_ | refine Or.inl (hK0 _ ?_)); clear hK0 K0; simp only [put, app, setAll, trOf, zE, set_cons_zero, set_cons_succ, reduceAdd])
    refine rg_nil ?_
    refine ⟨by simp only [keepEnv, lkp, zE, reduceCtorEq, reduceEqDiff, argEnv, reduceAdd]; exact rfl, rfl, ?_, rfl⟩; (repeat refine keep_cons rfl ?_); exact keep_m (by exact rfl) hq17
  case b17 => exact tle_of (by first | rfl | (simp [tleB]; done) | decide)
  simp only [join_or, join_and]
  (refine rg_step rfl fun K0 hK0 => ?_; simp only [zE, op1, ev, lkp, avOf, acOf, ev, reduceCtorEq, reduceEqDiff, reduceAdd, reduceLeDiff, reduceLT, reduceMul, reduceSub, Try.td4, Mly.av]; (repeat refine And.intro (by first | omega | assumption | exact rfl) ?_); (first | refine hK0 _ ?_ | refine Or.inl (hK0 _ ?_)); clear hK0 K0; simp only [put, app, setAll, trOf, zE, set_cons_zero, set_cons_succ, reduceAdd])
  refine' rg_join_n (want := false) 2 rfl (m := 95) (by simp only [keepEnv, lkp, zE, reduceCtorEq, reduceEqDiff, argEnv, reduceAdd]; exact rfl) (by kernel_rfl) rfl rfl rfl rfl rfl (fun hg18 => ?a18) ?b18 ?c18
  case a18 =>
    have hq18 := hg18; (try simp only [decide_eq_true_eq, decide_eq_false_iff_not, Bool.not_true, Bool.not_false, Bool.not_eq_true, Bool.not_eq_false, Bool.not_eq_eq_eq_not, Int.not_lt, Int.not_le, reduceCtorEq, Bool.true_eq_false, Bool.false_eq_true, ne_eq, Decidable.not_not, Bool.not_eq_true', bne_iff_ne, Bool.or_eq_true, Bool.and_eq_true, Bool.or_eq_false_iff, Bool.and_eq_false_iff] at hg18); simp only [List.take_succ_cons, List.take_zero, List.cons_append, List.nil_append]
    (refine rg_do rfl fun K0 hK0 => ?_; simp only [zE, op1, ev, lkp, avOf, acOf, ev, reduceCtorEq, reduceEqDiff, reduceAdd, reduceLeDiff, reduceLT, reduceMul, reduceSub, Try.td3, Mly.av]; (repeat refine And.intro (by first | omega | assumption | exact rfl) ?_); (first | refine hK0 _ ?_ | refine Or.inl (hK0 _ ?_)); clear hK0 K0; simp only [put, app, setAll, trOf, zE, set_cons_zero, set_cons_succ, reduceAdd])
    (refine rg_do rfl fun K0 hK0 => ?_; simp only [zE, op1, ev, lkp, avOf, acOf, opBin, arith, inK_i64, eqACs, eqAC, reduceCtorEq, reduceEqDiff, reduceAdd, reduceLeDiff, reduceLT, reduceMul, reduceSub, Try.td3, Try.td4, Mly.av]; (repeat refine And.intro (by first | omega | assumption | exact rfl) ?_); (first | refine hK0 _ ?_ | refine Or.inl (hK0 _ ?_)); clear hK0 K0; simp only [put, app, setAll, trOf, zE, set_cons_zero, set_cons_succ, reduceAdd])
    (refine rg_step rfl fun K0 hK0 => ?_; simp only [zE, op1, ev, lkp, avOf, acOf, opPick, reduceCtorEq, reduceEqDiff, reduceAdd, reduceLeDiff, reduceLT, reduceMul, reduceSub, Try.td4, Mly.av]; (repeat refine And.intro (by first | omega | assumption | exact rfl) ?_); (first | refine hK0 _ ?_ | refine Or.inl (hK0 _ ?_)); clear hK0 K0; simp only [put, app, setAll, trOf, zE, set_cons_zero, set_cons_succ, reduceAdd])
    refine rg_nil ?_
    refine ⟨by simp only [keepEnv, lkp, zE, reduceCtorEq, reduceEqDiff, argEnv, reduceAdd]; exact rfl, rfl, ?_, rfl⟩; (repeat refine keep_cons rfl ?_); exact keep_m (by exact rfl) hq18
  case b18 => exact tle_of (by first | rfl | (simp [tleB]; done) | decide)
  simp only [join_or, join_and]
  refine rg_nil ?_
  refine hK9 _ ?_; clear hK9; refine awp_keep [0, 1, 2, 3, 4, 5, 6, 7, 8, 9, 10, 11, 12, 13, 14, 15, 16, 17, 18, 98] ?_; simp only [keepEnv, lkp, zE, reduceCtorEq, reduceEqDiff, argEnv, reduceAdd]
  refine awp_cond (by simp only [ev, keepEnv, lkp, zE, reduceCtorEq, reduceEqDiff, argEnv, reduceAdd]; exact rfl) (fun hc19 => ?_) (fun hc19 => ?_)
  · exfalso; (try simp only [decide_eq_true_eq, decide_eq_false_iff_not, Bool.not_true, Bool.not_false, Bool.not_eq_true, Bool.not_eq_false, Bool.not_eq_eq_eq_not, Int.not_lt, Int.not_le, reduceCtorEq, Bool.true_eq_false, Bool.false_eq_true, ne_eq, Decidable.not_not, Bool.not_eq_true', bne_iff_ne, Bool.or_eq_true, Bool.and_eq_true, Bool.or_eq_false_iff, Bool.and_eq_false_iff] at hc19); all_goals (first | (cases hc19; done) | omega | (simp at hc19; done) | (simp_all; done))
  · (try simp only [decide_eq_true_eq, decide_eq_false_iff_not, Bool.not_true, Bool.not_false, Bool.not_eq_true, Bool.not_eq_false, Bool.not_eq_eq_eq_not, Int.not_lt, Int.not_le, reduceCtorEq, Bool.true_eq_false, Bool.false_eq_true, ne_eq, Decidable.not_not, Bool.not_eq_true', bne_iff_ne, Bool.or_eq_true, Bool.and_eq_true, Bool.or_eq_false_iff, Bool.and_eq_false_iff] at hc19)
    refine awp_skip ?_
    refine hK8 _ ?_; clear hK8; refine awp_keep [0, 1, 2, 3, 4, 5, 6, 7, 8, 9, 10, 11, 12, 13, 14, 15, 16, 17, 18, 98] ?_; simp only [keepEnv, lkp, zE, reduceCtorEq, reduceEqDiff, argEnv, reduceAdd]
    refine awp_seq_k fun K20 hK20 => ?_
    refine awp_reg hP hN rfl ?_
    iterate 2 (refine rg_step rfl fun K0 hK0 => ?_; simp only [zE, op1, ev, lkp, avOf, acOf, opBuildSlice, fillAC, chunk, rep, datOf, writeAC, cellsAV, Ty.size, reduceCtorEq, reduceEqDiff, reduceAdd, reduceLeDiff, reduceLT, reduceMul, reduceSub, Try.el25, Try.td1, Try.td25, Mly.av]; (repeat refine And.intro (by first | omega | assumption | exact rfl) ?_); (first | refine hK0 _ ?_ | refine Or.inl (hK0 _ ?_)); clear hK0 K0; simp only [put, app, setAll, trOf, zE, set_cons_zero, set_cons_succ, reduceAdd])
    refine rg_step rfl fun K0 hK0 => ?_
    refine op_call (h := call_of_pure (ints_c [0] [0])) rfl rfl (by first | exact rfl | (simp only [ev, keepEnv, lkp, zE, reduceCtorEq, reduceEqDiff, argEnv, reduceAdd]; exact rfl)) (by simp only [zE, zG, op1, ev, lkp, avOf, acOf, cellsAV, acs, capAV, mv1, mvC, Ty.dflt, reduceCtorEq, reduceEqDiff, reduceAdd, reduceLeDiff, reduceLT, reduceMul, reduceSub, Mly.av]) ?_
    refine hK0 _ ?_; clear hK0 K0; simp only [put, app, setAll, trOf, zE, set_cons_zero, set_cons_succ, reduceAdd]
    (refine rg_step rfl fun K0 hK0 => ?_; simp only [zE, op1, ev, lkp, avOf, acOf, ev, reduceCtorEq, reduceEqDiff, reduceAdd, reduceLeDiff, reduceLT, reduceMul, reduceSub, Try.td4, Mly.av]; (repeat refine And.intro (by first | omega | assumption | exact rfl) ?_); (first | refine hK0 _ ?_ | refine Or.inl (hK0 _ ?_)); clear hK0 K0; simp only [put, app, setAll, trOf, zE, set_cons_zero, set_cons_succ, reduceAdd])
    refine' rg_join_n (want := true) 3 rfl (m := 102) (by simp only [keepEnv, lkp, zE, reduceCtorEq, reduceEqDiff, argEnv, reduceAdd]; exact rfl) (by kernel_rfl) rfl rfl rfl rfl rfl (fun hg21 => ?a21) ?b21 ?c21
    case a21 =>
      have hq21 := hg21; (try simp only [decide_eq_true_eq, decide_eq_false_iff_not, Bool.not_true, Bool.not_false, Bool.not_eq_true, Bool.not_eq_false, Bool.not_eq_eq_eq_not, Int.not_lt, Int.not_le, reduceCtorEq, Bool.true_eq_false, Bool.false_eq_true, ne_eq, Decidable.not_not, Bool.not_eq_true', bne_iff_ne, Bool.or_eq_true, Bool.and_eq_true, Bool.or_eq_false_iff, Bool.and_eq_false_iff] at hg21); simp only [List.take_succ_cons, List.take_zero, List.cons_append, List.nil_append]
      (refine rg_do rfl fun K0 hK0 => ?_; simp only [zE, op1, ev, lkp, avOf, acOf, ev, reduceCtorEq, reduceEqDiff, reduceAdd, reduceLeDiff, reduceLT, reduceMul, reduceSub, Try.el25, Try.td25, Mly.av]; (repeat refine And.intro (by first | omega | assumption | exact rfl) ?_); (first | refine hK0 _ ?_ | refine Or.inl (hK0 _ ?_)); clear hK0 K0; simp only [put, app, setAll, trOf, zE, set_cons_zero, set_cons_succ, reduceAdd])
      (refine rg_do rfl fun K0 hK0 => ?_; simp only [zE, op1, ev, lkp, avOf, acOf, opBuildSlice, fillAC, chunk, rep, datOf, writeAC, cellsAV, Ty.size, reduceCtorEq, reduceEqDiff, reduceAdd, reduceLeDiff, reduceLT, reduceMul, reduceSub, Try.el25, Try.td1, Try.td25, Mly.av]; (repeat refine And.intro (by first | omega | assumption | exact rfl) ?_); (first | refine hK0 _ ?_ | refine Or.inl (hK0 _ ?_)); clear hK0 K0; simp only [put, app, setAll, trOf, zE, set_cons_zero, set_cons_succ, reduceAdd])
      refine rg_do rfl fun K0 hK0 => ?_
      refine op_call (h := call_of_pure (ints_c [1] [1])) rfl rfl (by first | exact rfl | (simp only [ev, keepEnv, lkp, zE, reduceCtorEq, reduceEqDiff, argEnv, reduceAdd]; exact rfl)) (by simp only [zE, zG, op1, ev, lkp, avOf, acOf, cellsAV, acs, capAV, mv1, mvC, Ty.dflt, reduceCtorEq, reduceEqDiff, reduceAdd, reduceLeDiff, reduceLT, reduceMul, reduceSub, Mly.av]) ?_
      refine hK0 _ ?_; clear hK0 K0; simp only [put, app, setAll, trOf, zE, set_cons_zero, set_cons_succ, reduceAdd]
      (refine rg_step rfl fun K0 hK0 => ?_; simp only [zE, op1, ev, lkp, avOf, acOf, opPick, reduceCtorEq, reduceEqDiff, reduceAdd, reduceLeDiff, reduceLT, reduceMul, reduceSub, Try.td4, Mly.av]; (repeat refine And.intro (by first | omega | assumption | exact rfl) ?_); (first | refine hK0 _ ?_ | refine Or.inl (hK0 _ ?_)); clear hK0 K0; simp only [put, app, setAll, trOf, zE, set_cons_zero, set_cons_succ, reduceAdd])
      refine rg_nil ?_
      refine ⟨by simp only [keepEnv, lkp, zE, reduceCtorEq, reduceEqDiff, argEnv, reduceAdd]; exact rfl, rfl, ?_, rfl⟩; (repeat refine keep_cons rfl ?_); exact keep_m (by exact rfl) hq21
    case b21 => exact tle_of (by first | rfl | (simp [tleB]; done) | decide)
    simp only [join_or, join_and]
    (refine rg_step rfl fun K0 hK0 => ?_; simp only [zE, op1, ev, lkp, avOf, acOf, ev, reduceCtorEq, reduceEqDiff, reduceAdd, reduceLeDiff, reduceLT, reduceMul, reduceSub, Try.td4, Mly.av]; (repeat refine And.intro (by first | omega | assumption | exact rfl) ?_); (first | refine hK0 _ ?_ | refine Or.inl (hK0 _ ?_)); clear hK0 K0; simp only [put, app, setAll, trOf, zE, set_cons_zero, set_cons_succ, reduceAdd])
    refine' rg_join_n (want := true) 3 rfl (m := 107) (by simp only [keepEnv, lkp, zE, reduceCtorEq, reduceEqDiff, argEnv, reduceAdd]; exact rfl) (by kernel_rfl) rfl rfl rfl rfl rfl (fun hg22 => ?a22) ?b22 ?c22
    case a22 =>
      have hq22 := hg22; (try simp only [decide_eq_true_eq, decide_eq_false_iff_not, Bool.not_true, Bool.not_false, Bool.not_eq_true, Bool.not_eq_false, Bool.not_eq_eq_eq_not, Int.not_lt, Int.not_le, reduceCtorEq, Bool.true_eq_false, Bool.false_eq_true, ne_eq, Decidable.not_not, Bool.not_eq_true', bne_iff_ne, Bool.or_eq_true, Bool.and_eq_true, Bool.or_eq_false_iff, Bool.and_eq_false_iff] at hg22); simp only [List.take_succ_cons, List.take_zero, List.cons_append, List.nil_append]
      (refine rg_do rfl fun K0 hK0 => ?_; simp only [zE, op1, ev, lkp, avOf, acOf, ev, reduceCtorEq, reduceEqDiff, reduceAdd, reduceLeDiff, reduceLT, reduceMul, reduceSub, Try.el25, Try.td25, Mly.av]; (repeat refine And.intro (by first | omega | assumption | exact rfl) ?_); (first | refine hK0 _ ?_ | refine Or.inl (hK0 _ ?_)); clear hK0 K0; simp only [put, app, setAll, trOf, zE, set_cons_zero, set_cons_succ, reduceAdd])
      (refine rg_do rfl fun K0 hK0 => ?_; simp only [zE, op1, ev, lkp, avOf, acOf, opBuildSlice, fillAC, chunk, rep, datOf, writeAC, cellsAV, Ty.size, reduceCtorEq, reduceEqDiff, reduceAdd, reduceLeDiff, reduceLT, reduceMul, reduceSub, Try.el25, Try.td2, Try.td25, Mly.av]; (repeat refine And.intro (by first | omega | assumption | exact rfl) ?_); (first | refine hK0 _ ?_ | refine Or.inl (hK0 _ ?_)); clear hK0 K0; simp only [put, app, setAll, trOf, zE, set_cons_zero, set_cons_succ, reduceAdd])
      refine rg_do rfl fun K0 hK0 => ?_
      refine op_call (h := call_of_pure (ints_c [0, 1] [0, 1])) rfl rfl (by first | exact rfl | (simp only [ev, keepEnv, lkp, zE, reduceCtorEq, reduceEqDiff, argEnv, reduceAdd]; exact rfl)) (by simp only [zE, zG, op1, ev, lkp, avOf, acOf, cellsAV, acs, capAV, mv1, mvC, Ty.dflt, reduceCtorEq, reduceEqDiff, reduceAdd, reduceLeDiff, reduceLT, reduceMul, reduceSub, Mly.av]) ?_
      refine hK0 _ ?_; clear hK0 K0; simp only [put, app, setAll, trOf, zE, set_cons_zero, set_cons_succ, reduceAdd]
      (refine rg_step rfl fun K0 hK0 => ?_; simp only [zE, op1, ev, lkp, avOf, acOf, opPick, reduceCtorEq, reduceEqDiff, reduceAdd, reduceLeDiff, reduceLT, reduceMul, reduceSub, Try.td4, Mly.av]; (repeat refine And.intro (by first | omega | assumption | exact rfl) ?_); (first | refine hK0 _ ?_ | refine Or.inl (hK0 _ ?_)); clear hK0 K0; simp only [put, app, setAll, trOf, zE, set_cons_zero, set_cons_succ, reduceAdd])
      refine rg_nil ?_
      refine ⟨by simp only [keepEnv, lkp, zE, reduceCtorEq, reduceEqDiff, argEnv, reduceAdd]; exact rfl, rfl, ?_, rfl⟩; (repeat refine keep_cons rfl ?_); exact keep_m (by exact rfl) hq22
    case b22 => exact tle_of (by first | rfl | (simp [tleB]; done) | decide)
    simp only [join_or, join_and]
    (refine rg_step rfl fun K0 hK0 => ?_; simp only [zE, op1, ev, lkp, avOf, acOf, ev, reduceCtorEq, reduceEqDiff, reduceAdd, reduceLeDiff, reduceLT, reduceMul, reduceSub, Try.td4, Mly.av]; (repeat refine And.intro (by first | omega | assumption | exact rfl) ?_); (first | refine hK0 _ ?_ | refine Or.inl (hK0 _ ?_)); clear hK0 K0; simp only [put, app, setAll, trOf, zE, set_cons_zero, set_cons_succ, reduceAdd])
    refine' rg_join_n (want := true) 3 rfl (m := 112) (by simp only [keepEnv, lkp, zE, reduceCtorEq, reduceEqDiff, argEnv, reduceAdd]; exact rfl) (by kernel_rfl) rfl rfl rfl rfl rfl (fun hg23 => ?a23) ?b23 ?c23
    case a23 =>
      have hq23 := hg23; (try simp only [decide_eq_true_eq, decide_eq_false_iff_not, Bool.not_true, Bool.not_false, Bool.not_eq_true, Bool.not_eq_false, Bool.not_eq_eq_eq_not, Int.not_lt, Int.not_le, reduceCtorEq, Bool.true_eq_false, Bool.false_eq_true, ne_eq, Decidable.not_not, Bool.not_eq_true', bne_iff_ne, Bool.or_eq_true, Bool.and_eq_true, Bool.or_eq_false_iff, Bool.and_eq_false_iff] at hg23); simp only [List.take_succ_cons, List.take_zero, List.cons_append, List.nil_append]
      (refine rg_do rfl fun K0 hK0 => ?_; simp only [zE, op1, ev, lkp, avOf, acOf, ev, reduceCtorEq, reduceEqDiff, reduceAdd, reduceLeDiff, reduceLT, reduceMul, reduceSub, Try.el25, Try.td25, Mly.av]; (repeat refine And.intro (by first | omega | assumption | exact rfl) ?_); (first | refine hK0 _ ?_ | refine Or.inl (hK0 _ ?_)); clear hK0 K0; simp only [put, app, setAll, trOf, zE, set_cons_zero, set_cons_succ, reduceAdd])
      (refine rg_do rfl fun K0 hK0 => ?_; simp only [zE, op1, ev, lkp, avOf, acOf, opBuildSlice, fillAC, chunk, rep, datOf, writeAC, cellsAV, Ty.size, reduceCtorEq, reduceEqDiff, reduceAdd, reduceLeDiff, reduceLT, reduceMul, reduceSub, Try.el25, Try.td2, Try.td25, Mly.av]; (repeat refine And.intro (by first | omega | assumption | exact rfl) ?_); (first | refine hK0 _ ?_ | refine Or.inl (hK0 _ ?_)); clear hK0 K0; simp only [put, app, setAll, trOf, zE, set_cons_zero, set_cons_succ, reduceAdd])
      refine rg_do rfl fun K0 hK0 => ?_
      refine op_call (h := call_of_pure (ints_c [0, 1] [0, 1])) rfl rfl (by first | exact rfl | (simp only [ev, keepEnv, lkp, zE, reduceCtorEq, reduceEqDiff, argEnv, reduceAdd]; exact rfl)) (by simp only [zE, zG, op1, ev, lkp, avOf, acOf, cellsAV, acs, capAV, mv1, mvC, Ty.dflt, reduceCtorEq, reduceEqDiff, reduceAdd, reduceLeDiff, reduceLT, reduceMul, reduceSub, Mly.av]) ?_
      refine hK0 _ ?_; clear hK0 K0; simp only [put, app, setAll, trOf, zE, set_cons_zero, set_cons_succ, reduceAdd]
      (refine rg_step rfl fun K0 hK0 => ?_; simp only [zE, op1, ev, lkp, avOf, acOf, opPick, reduceCtorEq, reduceEqDiff, reduceAdd, reduceLeDiff, reduceLT, reduceMul, reduceSub, Try.td4, Mly.av]; (repeat refine And.intro (by first | omega | assumption | exact rfl) ?_); (first | refine hK0 _ ?_ | refine Or.inl (hK0 _ ?_)); clear hK0 K0; simp only [put, app, setAll, trOf, zE, set_cons_zero, set_cons_succ, reduceAdd])
      refine rg_nil ?_
      refine ⟨by simp only [keepEnv, lkp, zE, reduceCtorEq, reduceEqDiff, argEnv, reduceAdd]; exact rfl, rfl, ?_, rfl⟩; (repeat refine keep_cons rfl ?_); exact keep_m (by exact rfl) hq23
    case b23 => exact tle_of (by first | rfl | (simp [tleB]; done) | decide)
    simp only [join_or, join_and]
    (refine rg_step rfl fun K0 hK0 => ?_; simp only [zE, op1, ev, lkp, avOf, acOf, ev, reduceCtorEq, reduceEqDiff, reduceAdd, reduceLeDiff, reduceLT, reduceMul, reduceSub, Try.td4, Mly.av]; (repeat refine And.intro (by first | omega | assumption | exact rfl) ?_); (first | refine hK0 _ ?_ | refine Or.inl (hK0 _ ?_)); clear hK0 K0; simp only [put, app, setAll, trOf, zE, set_cons_zero, set_cons_succ, reduceAdd])
    refine' rg_join_n (want := true) 3 rfl (m := 117) (by simp only [keepEnv, lkp, zE, reduceCtorEq, reduceEqDiff, argEnv, reduceAdd]; exact rfl) (by kernel_rfl) rfl rfl rfl rfl rfl (fun hg24 => ?a24) ?b24 ?c24
    case a24 =>
      have hq24 := hg24; (try simp only [decide_eq_true_eq, decide_eq_false_iff_not, Bool.not_true, Bool.not_false, Bool.not_eq_true, Bool.not_eq_false, Bool.not_eq_eq_eq_not, Int.not_lt, Int.not_le, reduceCtorEq, Bool.true_eq_false, Bool.false_eq_true, ne_eq, Decidable.not_not, Bool.not_eq_true', bne_iff_ne, Bool.or_eq_true, Bool.and_eq_true, Bool.or_eq_false_iff, Bool.and_eq_false_iff] at hg24); simp only [List.take_succ_cons, List.take_zero, List.cons_append, List.nil_append]
      (refine rg_do rfl fun K0 hK0 => ?_; simp only [zE, op1, ev, lkp, avOf, acOf, ev, reduceCtorEq, reduceEqDiff, reduceAdd, reduceLeDiff, reduceLT, reduceMul, reduceSub, Try.el25, Try.td25, Mly.av]; (repeat refine And.intro (by first | omega | assumption | exact rfl) ?_); (first | refine hK0 _ ?_ | refine Or.inl (hK0 _ ?_)); clear hK0 K0; simp only [put, app, setAll, trOf, zE, set_cons_zero, set_cons_succ, reduceAdd])
      (refine rg_do rfl fun K0 hK0 => ?_; simp only [zE, op1, ev, lkp, avOf, acOf, opBuildSlice, fillAC, chunk, rep, datOf, writeAC, cellsAV, Ty.size, reduceCtorEq, reduceEqDiff, reduceAdd, reduceLeDiff, reduceLT, reduceMul, reduceSub, Try.el25, Try.td2, Try.td25, Mly.av]; (repeat refine And.intro (by first | omega | assumption | exact rfl) ?_); (first | refine hK0 _ ?_ | refine Or.inl (hK0 _ ?_)); clear hK0 K0; simp only [put, app, setAll, trOf, zE, set_cons_zero, set_cons_succ, reduceAdd])
      refine rg_do rfl fun K0 hK0 => ?_
      refine op_call (h := call_of_pure (ints_c [0, 1] [0, 1])) rfl rfl (by first | exact rfl | (simp only [ev, keepEnv, lkp, zE, reduceCtorEq, reduceEqDiff, argEnv, reduceAdd]; exact rfl)) (by simp only [zE, zG, op1, ev, lkp, avOf, acOf, cellsAV, acs, capAV, mv1, mvC, Ty.dflt, reduceCtorEq, reduceEqDiff, reduceAdd, reduceLeDiff, reduceLT, reduceMul, reduceSub, Mly.av]) ?_
      refine hK0 _ ?_; clear hK0 K0; simp only [put, app, setAll, trOf, zE, set_cons_zero, set_cons_succ, reduceAdd]
      (refine rg_step rfl fun K0 hK0 => ?_; simp only [zE, op1, ev, lkp, avOf, acOf, opPick, reduceCtorEq, reduceEqDiff, reduceAdd, reduceLeDiff, reduceLT, reduceMul, reduceSub, Try.td4, Mly.av]; (repeat refine And.intro (by first | omega | assumption | exact rfl) ?_); (first | refine hK0 _ ?_ | refine Or.inl (hK0 _ ?_)); clear hK0 K0; simp only [put, app, setAll, trOf, zE, set_cons_zero, set_cons_succ, reduceAdd])
      refine rg_nil ?_
      refine ⟨by simp only [keepEnv, lkp, zE, reduceCtorEq, reduceEqDiff, argEnv, reduceAdd]; exact rfl, rfl, ?_, rfl⟩; (repeat refine keep_cons rfl ?_); exact keep_m (by exact rfl) hq24
    case b24 => exact tle_of (by first | rfl | (simp [tleB]; done) | decide)
    simp only [join_or, join_and]
    (refine rg_step rfl fun K0 hK0 => ?_; simp only [zE, op1, ev, lkp, avOf, acOf, ev, reduceCtorEq, reduceEqDiff, reduceAdd, reduceLeDiff, reduceLT, reduceMul, reduceSub, Try.td4, Mly.av]; (repeat refine And.intro (by first | omega | assumption | exact rfl) ?_); (first | refine hK0 _ ?_ | refine Or.inl (hK0 _ ?_)); clear hK0 K0; simp only [put, app, setAll, trOf, zE, set_cons_zero, set_cons_succ, reduceAdd])
    refine' rg_join_n (want := true) 3 rfl (m := 122) (by simp only [keepEnv, lkp, zE, reduceCtorEq, reduceEqDiff, argEnv, reduceAdd]; exact rfl) (by kernel_rfl) rfl rfl rfl rfl rfl (fun hg25 => ?a25) ?b25 ?c25
    case a25 =>
      have hq25 := hg25; (try simp only [decide_eq_true_eq, decide_eq_false_iff_not, Bool.not_true, Bool.not_false, Bool.not_eq_true, Bool.not_eq_false, Bool.not_eq_eq_eq_not, Int.not_lt, Int.not_le, reduceCtorEq, Bool.true_eq_false, Bool.false_eq_true, ne_eq, Decidable.not_not, Bool.not_eq_true', bne_iff_ne, Bool.or_eq_true, Bool.and_eq_true, Bool.or_eq_false_iff, Bool.and_eq_false_iff] at hg25); simp only [List.take_succ_cons, List.take_zero, List.cons_append, List.nil_append]
      (refine rg_do rfl fun K0 hK0 => ?_; simp only [zE, op1, ev, lkp, avOf, acOf, ev, reduceCtorEq, reduceEqDiff, reduceAdd, reduceLeDiff, reduceLT, reduceMul, reduceSub, Try.el25, Try.td25, Mly.av]; (repeat refine And.intro (by first | omega | assumption | exact rfl) ?_); (first | refine hK0 _ ?_ | refine Or.inl (hK0 _ ?_)); clear hK0 K0; simp only [put, app, setAll, trOf, zE, set_cons_zero, set_cons_succ, reduceAdd])
      (refine rg_do rfl fun K0 hK0 => ?_; simp only [zE, op1, ev, lkp, avOf, acOf, opBuildSlice, fillAC, chunk, rep, datOf, writeAC, cellsAV, Ty.size, reduceCtorEq, reduceEqDiff, reduceAdd, reduceLeDiff, reduceLT, reduceMul, reduceSub, Try.el25, Try.td2, Try.td25, Mly.av]; (repeat refine And.intro (by first | omega | assumption | exact rfl) ?_); (first | refine hK0 _ ?_ | refine Or.inl (hK0 _ ?_)); clear hK0 K0; simp only [put, app, setAll, trOf, zE, set_cons_zero, set_cons_succ, reduceAdd])
      refine rg_do rfl fun K0 hK0 => ?_
      refine op_call (h := call_of_pure (ints_c [0, 1] [0, 1])) rfl rfl (by first | exact rfl | (simp only [ev, keepEnv, lkp, zE, reduceCtorEq, reduceEqDiff, argEnv, reduceAdd]; exact rfl)) (by simp only [zE, zG, op1, ev, lkp, avOf, acOf, cellsAV, acs, capAV, mv1, mvC, Ty.dflt, reduceCtorEq, reduceEqDiff, reduceAdd, reduceLeDiff, reduceLT, reduceMul, reduceSub, Mly.av]) ?_
      refine hK0 _ ?_; clear hK0 K0; simp only [put, app, setAll, trOf, zE, set_cons_zero, set_cons_succ, reduceAdd]
      (refine rg_step rfl fun K0 hK0 => ?_; simp only [zE, op1, ev, lkp, avOf, acOf, opPick, reduceCtorEq, reduceEqDiff, reduceAdd, reduceLeDiff, reduceLT, reduceMul, reduceSub, Try.td4, Mly.av]; (repeat refine And.intro (by first | omega | assumption | exact rfl) ?_); (first | refine hK0 _ ?_ | refine Or.inl (hK0 _ ?_)); clear hK0 K0; simp only [put, app, setAll, trOf, zE, set_cons_zero, set_cons_succ, reduceAdd])
      refine rg_nil ?_
      refine ⟨by simp only [keepEnv, lkp, zE, reduceCtorEq, reduceEqDiff, argEnv, reduceAdd]; exact rfl, rfl, ?_, rfl⟩; (repeat refine keep_cons rfl ?_); exact keep_m (by exact rfl) hq25
    case b25 => exact tle_of (by first | rfl | (simp [tleB]; done) | decide)
    simp only [join_or, join_and]
    (refine rg_step rfl fun K0 hK0 => ?_; simp only [zE, op1, ev, lkp, avOf, acOf, ev, reduceCtorEq, reduceEqDiff, reduceAdd, reduceLeDiff, reduceLT, reduceMul, reduceSub, Try.td4, Mly.av]; (repeat refine And.intro (by first | omega | assumption | exact rfl) ?_); (first | refine hK0 _ ?_ | refine Or.inl (hK0 _ ?_)); clear hK0 K0; simp only [put, app, setAll, trOf, zE, set_cons_zero, set_cons_succ, reduceAdd])
    refine' rg_join_n (want := true) 3 rfl (m := 127) (by simp only [keepEnv, lkp, zE, reduceCtorEq, reduceEqDiff, argEnv, reduceAdd]; exact rfl) (by kernel_rfl) rfl rfl rfl rfl rfl (fun hg26 => ?a26) ?b26 ?c26
    case a26 =>
      have hq26 := hg26; (try simp only [decide_eq_true_eq, decide_eq_false_iff_not, Bool.not_true, Bool.not_false, Bool.not_eq_true, Bool.not_eq_false, Bool.not_eq_eq_eq_not, Int.not_lt, Int.not_le, reduceCtorEq, Bool.true_eq_false, Bool.false_eq_true, ne_eq, Decidable.not_not, Bool.not_eq_true', bne_iff_ne, Bool.or_eq_true, Bool.and_eq_true, Bool.or_eq_false_iff, Bool.and_eq_false_iff] at hg26); simp only [List.take_succ_cons, List.take_zero, List.cons_append, List.nil_append]
      (refine rg_do rfl fun K0 hK0 => ?_; simp only [zE, op1, ev, lkp, avOf, acOf, ev, reduceCtorEq, reduceEqDiff, reduceAdd, reduceLeDiff, reduceLT, reduceMul, reduceSub, Try.el25, Try.td25, Mly.av]; (repeat refine And.intro (by first | omega | assumption | exact rfl) ?_); (first | refine hK0 _ ?_ | refine Or.inl (hK0 _ ?_)); clear hK0 K0; simp only [put, app, setAll, trOf, zE, set_cons_zero, set_cons_succ, reduceAdd])
      (refine rg_do rfl fun K0 hK0 => ?_; simp only [zE, op1, ev, lkp, avOf, acOf, opBuildSlice, fillAC, chunk, rep, datOf, writeAC, cellsAV, Ty.size, reduceCtorEq, reduceEqDiff, reduceAdd, reduceLeDiff, reduceLT, reduceMul, reduceSub, Try.el25, Try.td2, Try.td25, Mly.av]; (repeat refine And.intro (by first | omega | assumption | exact rfl) ?_); (first | refine hK0 _ ?_ | refine Or.inl (hK0 _ ?_)); clear hK0 K0; simp only [put, app, setAll, trOf, zE, set_cons_zero, set_cons_succ, reduceAdd])
      refine rg_do rfl fun K0 hK0 => ?_
      refine op_call (h := call_of_pure (ints_c [2, 1] [2, 1])) rfl rfl (by first | exact rfl | (simp only [ev, keepEnv, lkp, zE, reduceCtorEq, reduceEqDiff, argEnv, reduceAdd]; exact rfl)) (by simp only [zE, zG, op1, ev, lkp, avOf, acOf, cellsAV, acs, capAV, mv1, mvC, Ty.dflt, reduceCtorEq, reduceEqDiff, reduceAdd, reduceLeDiff, reduceLT, reduceMul, reduceSub, Mly.av]) ?_
      refine hK0 _ ?_; clear hK0 K0; simp only [put, app, setAll, trOf, zE, set_cons_zero, set_cons_succ, reduceAdd]
      (refine rg_step rfl fun K0 hK0 => ?_; simp only [zE, op1, ev, lkp, avOf, acOf, opPick, reduceCtorEq, reduceEqDiff, reduceAdd, reduceLeDiff, reduceLT, reduceMul, reduceSub, Try.td4, Mly.av]; (repeat refine And.intro (by first | omega | assumption | exact rfl) ?_); (first | refine hK0 _ ?_ | refine Or.inl (hK0 _ ?_)); clear hK0 K0; simp only [put, app, setAll, trOf, zE, set_cons_zero, set_cons_succ, reduceAdd])
      refine rg_nil ?_
      refine ⟨by simp only [keepEnv, lkp, zE, reduceCtorEq, reduceEqDiff, argEnv, reduceAdd]; exact rfl, rfl, ?_, rfl⟩; (repeat refine keep_cons rfl ?_); exact keep_m (by exact rfl) hq26
    case b26 => exact tle_of (by first | rfl | (simp [tleB]; done) | decide)
    simp only [join_or, join_and]
    (refine rg_step rfl fun K0 hK0 => ?_; simp only [zE, op1, ev, lkp, avOf, acOf, ev, reduceCtorEq, reduceEqDiff, reduceAdd, reduceLeDiff, reduceLT, reduceMul, reduceSub, Try.td4, Mly.av]; (repeat refine And.intro (by first | omega | assumption | exact rfl) ?_); (first | refine hK0 _ ?_ | refine Or.inl (hK0 _ ?_)); clear hK0 K0; simp only [put, app, setAll, trOf, zE, set_cons_zero, set_cons_succ, reduceAdd])
    refine rg_nil ?_
    refine hK20 _ ?_; clear hK20; refine awp_keep [0, 1, 2, 3, 4, 5, 6, 7, 8, 9, 10, 11, 12, 13, 14, 15, 16, 17, 18, 98] ?_; simp only [keepEnv, lkp, zE, reduceCtorEq, reduceEqDiff, argEnv, reduceAdd]
    refine awp_ret ?_
    refine ⟨by first | exact .inl rfl | exact .inr rfl, _, rfl, ?_⟩; simp only [fzV, fz1, fzC, List.map_cons, List.map_nil, keepEnv, lkp, zE, reduceCtorEq, reduceEqDiff, argEnv, reduceAdd, Mly.av]
    refine VLE.of_eq ?_
    rfl
end Go.Proofs.Ytceafldjjedhcaa
namespace Go.AV
open Nat (reduceEqDiff reduceAdd reduceLeDiff reduceLT reduceMul reduceSub)
open List (set_cons_zero set_cons_succ)
/-plain-/
/-! ### numbers of classes: an equivalence, and the list that a least member gives -/
structure EQT (T : Nat → Nat → Bool) (n : Nat) : Prop where
  rf : ∀ a, a < n → T a a = true
  sy : ∀ a b, a < n → b < n → T a b = true → T b a = true
  tr : ∀ a b c, a < n → b < n → c < n → T a b = true → T b c = true → T a c = true
theorem nmS_congr {T U : Nat → Nat → Bool} : ∀ c, (∀ d q, d < q → q < c → T d q = U d q) → nmS T c = nmS U c
  | 0, _ => rfl
  | c + 1, h => by
    have ih := nmS_congr (T := T) (U := U) c fun d q h1 h2 => h d q h1 (by omega)
    have hr := (nmS_rng U c).2.2
    have he : idxB (fun d => T d.toNat c) (nmS T c).2 = idxB (fun d => U d.toNat c) (nmS U c).2 := by
      rw [ih]
      have : ∀ xs : List Int, (∀ x, x ∈ xs → 0 ≤ x ∧ x < (c : Int)) → xs.findIdx? (fun d => T d.toNat c) = xs.findIdx? (fun d => U d.toNat c) := by
        intro xs
        induction xs with
        | nil => intro _; rfl
        | cons y ys ihy =>
          intro hy
          have h1 := hy y (by simp)
          rw [List.findIdx?_cons, List.findIdx?_cons, ihy (fun x hx => hy x (by simp [hx])), h y.toNat c (by omega) (by omega)]
      unfold idxB
      rw [this _ hr]
    show (if _ then _ else _) = (if _ then _ else _)
    rw [he, ih]
structure NMP (T : Nat → Nat → Bool) (c : Nat) : Prop where
  at_ : ∀ q, q < c → 0 ≤ (nmS T c).1.getD q 0 ∧ (nmS T c).1.getD q 0 < (nmS T c).2.length ∧ T ((nmS T c).2.getD ((nmS T c).1.getD q 0).toNat 0).toNat q = true
  ap : ∀ x y, x < y → y < (nmS T c).2.length → T ((nmS T c).2.getD x 0).toNat ((nmS T c).2.getD y 0).toNat = false
theorem getD_left {xs ys : List Int} {i : Nat} (h : i < xs.length) : (xs ++ ys).getD i 0 = xs.getD i 0 := by simp [List.getD, List.getElem?_append_left h]
theorem getD_end {xs : List Int} {x : Int} {i : Nat} (h : i = xs.length) : (xs ++ [x]).getD i 0 = x := by subst h; simp [List.getD]
theorem idxB_hit {p : Int → Bool} {xs : List Int} (h : 0 ≤ idxB p xs) : idxB p xs < xs.length ∧ p (xs.getD (idxB p xs).toNat 0) = true ∧ ∀ q, q < (idxB p xs).toNat → p (xs.getD q 0) = false := by
  unfold idxB at h ⊢
  cases hf : xs.findIdx? p with
  | none => rw [hf] at h; simp at h
  | some k =>
    obtain ⟨h1, h2, h3⟩ := List.findIdx?_eq_some_iff_getElem.1 hf
    refine ⟨by simpa using h1, by simpa [List.getD, h1] using h2, fun q hq => ?_⟩
    have hq' : q < k := by simpa using hq
    have := h3 q hq'
    simpa [List.getD, Nat.lt_trans hq' h1] using this
theorem idxB_miss {p : Int → Bool} {xs : List Int} (h : idxB p xs < 0) : ∀ q, q < xs.length → p (xs.getD q 0) = false := by
  intro q hq
  unfold idxB at h
  cases hf : xs.findIdx? p with
  | some k => rw [hf] at h; simp at h; omega
  | none =>
    have := List.findIdx?_eq_none_iff.1 hf (xs.getD q 0) (getD_mem hq)
    simpa using this
theorem nmp {T : Nat → Nat → Bool} {n : Nat} (hT : EQT T n) : ∀ c, c ≤ n → NMP T c
  | 0, _ => ⟨fun q h => by omega, fun x y _ h => by simp [nmS] at h⟩
  | c + 1, hc => by
    have ih := nmp hT c (by omega)
    obtain ⟨r1, r2, r3⟩ := nmS_rng T c
    by_cases h : idxB (fun d => T d.toNat c) (nmS T c).2 < 0
    · have hm := idxB_miss h
      rw [show NMP T (c + 1) = NMP T (c + 1) from rfl]
      refine ⟨fun q hq => ?_, fun x y hxy hy => ?_⟩
      · rw [nmS_new h]
        simp only [List.length_append, List.length_cons, List.length_nil]
        by_cases e : q = c
        · rw [e, getD_end r1.symm, getD_end (by omega)]
          exact ⟨by omega, by omega, by simpa using hT.rf c (by omega)⟩
        · have := ih.at_ q (by omega)
          rw [getD_left (by omega), getD_left (by omega)]
          exact ⟨this.1, by omega, this.2.2⟩
      · rw [nmS_new h] at hy ⊢
        simp only [List.length_append, List.length_cons, List.length_nil] at hy
        by_cases e : y = (nmS T c).2.length
        · rw [getD_end e, getD_left (by omega)]
          simpa using hm x (by omega)
        · rw [getD_left (by omega), getD_left (by omega)]
          exact ih.ap x y hxy (by omega)
    · have hh := idxB_hit (p := fun d => T d.toNat c) (xs := (nmS T c).2) (by omega)
      refine ⟨fun q hq => ?_, fun x y hxy hy => ?_⟩
      · rw [nmS_old h]
        dsimp only
        by_cases e : q = c
        · rw [e, getD_end r1.symm]
          exact ⟨by omega, hh.1, hh.2.1⟩
        · rw [getD_left (by omega)]
          exact ih.at_ q (by omega)
      · rw [nmS_old h] at hy ⊢
        exact ih.ap x y hxy hy
theorem nm_old {T : Nat → Nat → Bool} {n c q : Nat} (hT : EQT T n) (hc : c < n) (hq : q < c) (h : T q c = true) : idxB (fun d => T d.toNat c) (nmS T c).2 = (nmS T c).1.getD q 0 := by
  have hp := nmp hT c (by omega)
  obtain ⟨r1, r2, r3⟩ := nmS_rng T c
  obtain ⟨a1, a2, a3⟩ := hp.at_ q hq
  have hm := r3 _ (getD_mem (w := (nmS T c).2) (i := ((nmS T c).1.getD q 0).toNat) (by omega))
  have h1 := hT.tr _ q c (by omega) (by omega) hc a3 h
  have := idxB_at (p := fun d => T d.toNat c) (xs := (nmS T c).2) (k := ((nmS T c).1.getD q 0).toNat) (by omega) (fun x hx => ?_) h1
  · rw [this]; omega
  · have hx3 := r3 _ (getD_mem (w := (nmS T c).2) (i := x) (by omega))
    have h2 := hp.ap x _ hx (by omega)
    cases hc2 : T ((nmS T c).2.getD x 0).toNat c with
    | false => rfl
    | true =>
      have := hT.tr _ c _ (by omega) hc (by omega) hc2 (hT.sy _ _ (by omega) hc h1)
      rw [h2] at this; cases this
theorem nm_new {T : Nat → Nat → Bool} {c : Nat} (h : ∀ q, q < c → T q c = false) : idxB (fun d => T d.toNat c) (nmS T c).2 = -1 := by
  obtain ⟨r1, r2, r3⟩ := nmS_rng T c
  refine idxB_none fun x hx => ?_
  have hx3 := r3 _ (getD_mem hx)
  exact h _ (by omega)
theorem cN_app {xs : List Int} {x : Int} : ∀ {k : Nat}, k ≤ xs.length → cN (xs ++ [x]) k = cN xs k
  | 0, _ => rfl
  | k + 1, h => by
    simp only [cN]
    rw [cN_app (k := k) (by omega), getD_left (by omega)]
theorem nm_cN (T : Nat → Nat → Bool) : ∀ c, cN (nmS T c).1 c = (nmS T c).2.length ∧ ∀ k, k < c → cBad (nmS T c).1 k = false
  | 0 => ⟨rfl, fun k h => by omega⟩
  | c + 1 => by
    obtain ⟨i1, i2⟩ := nm_cN T c
    obtain ⟨r1, r2, r3⟩ := nmS_rng T c
    have key : ∀ x : Int, 0 ≤ x → x ≤ (nmS T c).2.length → ∀ k, k < c + 1 → cBad ((nmS T c).1 ++ [x]) k = false := by
      intro x h0 h1 k hk
      by_cases e : k = c
      · subst e
        refine cBad_no (by rw [getD_end r1.symm]; exact h0) (by rw [getD_end r1.symm, cN_app (by omega), i1]; exact h1)
      · have := i2 k (by omega)
        unfold cBad at this ⊢
        rw [getD_left (by omega), cN_app (by omega)]; exact this
    by_cases h : idxB (fun d => T d.toNat c) (nmS T c).2 < 0
    · rw [nmS_new h]
      refine ⟨?_, key _ (by omega) (by omega)⟩
      simp only [cN, List.length_append, List.length_cons, List.length_nil]
      rw [cN_app (by omega), getD_end r1.symm, i1]; omega
    · have hb := idxB_lt (fun d => T d.toNat c) (nmS T c).2
      rw [nmS_old h]
      refine ⟨?_, key _ (by omega) (by omega)⟩
      simp only [cN]
      rw [cN_app (by omega), getD_end r1.symm, i1]; omega
theorem nm_cnt (T : Nat → Nat → Bool) {n : Nat} (h1 : 1 ≤ n) (h2 : n ≤ 64) : cntE (nmS T n).1 = 0 ∧ cntK (nmS T n).1 = (nmS T n).2.length := by
  obtain ⟨r1, _, _⟩ := nmS_rng T n
  obtain ⟨i1, i2⟩ := nm_cN T n
  have h0 : cntE (nmS T n).1 = 0 := cntE_ok (by omega) fun k hk => i2 k (by omega)
  refine ⟨h0, ?_⟩
  unfold cntK
  rw [if_pos h0, r1, i1]
def eqL (l : List Int) (d c : Nat) : Bool := decide (l.getD d 0 = l.getD c 0)
theorem eqL_eqt (l : List Int) (n : Nat) : EQT (eqL l) n :=
  ⟨fun a _ => by simp [eqL], fun a b _ _ h => by simp only [eqL, decide_eq_true_eq] at h ⊢; exact h.symm, fun a b c _ _ _ h g => by simp only [eqL, decide_eq_true_eq] at h g ⊢; exact h.trans g⟩
/-- The inner loop of the numbering. -/
def NKP (l : List Int) (i j : Nat) (k : Int) : Prop := (k = ((nmS (eqL l) i).2.length : Int) ∧ ∀ q, q < j → ¬ l.getD q 0 = l.getD i 0) ∨ ∃ q, q < j ∧ l.getD q 0 = l.getD i 0 ∧ k = (nmS (eqL l) i).1.getD q 0
theorem nkp_zero (l : List Int) (i : Nat) : NKP l i 0 ((nmS (eqL l) i).2.length : Int) := .inl ⟨rfl, fun q h => by omega⟩
theorem nkp_hit {l : List Int} {i j : Nat} (h : l.getD j 0 = l.getD i 0) : NKP l i (j + 1) ((nmS (eqL l) i).1.getD j 0) := .inr ⟨j, by omega, h, rfl⟩
theorem nkp_miss {l : List Int} {i j : Nat} {k : Int} (h0 : NKP l i j k) (h : ¬ l.getD j 0 = l.getD i 0) : NKP l i (j + 1) k := by
  rcases h0 with ⟨h1, h2⟩ | ⟨q, h1, h2, h3⟩
  · refine .inl ⟨h1, fun q hq => ?_⟩
    by_cases e : q = j
    · rw [e]; exact h
    · exact h2 q (by omega)
  · exact .inr ⟨q, by omega, h2, h3⟩
theorem nkp_end {l : List Int} {i : Nat} {k : Int} (hi : i < l.length) (h : NKP l i i k) :
    (k = ((nmS (eqL l) i).2.length : Int) ∧ nmS (eqL l) (i + 1) = ((nmS (eqL l) i).1 ++ [k], (nmS (eqL l) i).2 ++ [(i : Int)])) ∨ (¬ k = ((nmS (eqL l) i).2.length : Int) ∧ nmS (eqL l) (i + 1) = ((nmS (eqL l) i).1 ++ [k], (nmS (eqL l) i).2)) := by
  rcases h with ⟨h1, h2⟩ | ⟨q, h1, h2, h3⟩
  · have := nm_new (T := eqL l) (c := i) fun q hq => by simp only [eqL, decide_eq_false_iff_not]; exact h2 q hq
    refine .inl ⟨h1, ?_⟩
    rw [nmS_new (by omega), h1]
  · have he := nm_old (eqL_eqt l l.length) hi h1 (by simp only [eqL, decide_eq_true_eq]; exact h2)
    have ha := (nmp (eqL_eqt l l.length) i (by omega)).at_ q h1
    refine .inr ⟨by omega, ?_⟩
    rw [nmS_old (by omega), he, h3]
/-- The least that is held together with c. -/
def lst (T : Nat → Nat → Bool) (c : Nat) : Nat := ((List.range c).find? (T c)).getD c
def LKP (T : Nat → Nat → Bool) (c e : Nat) (k : Int) : Prop := (k = (c : Int) ∧ ∀ q, e ≤ q → q < c → T c q = false) ∨ ∃ q : Nat, e ≤ q ∧ q < c ∧ T c q = true ∧ k = (q : Int) ∧ ∀ r, e ≤ r → r < q → T c r = false
theorem lkp_top (T : Nat → Nat → Bool) (c : Nat) : LKP T c c c := .inl ⟨rfl, fun q h1 h2 => by omega⟩
theorem lkp_hit {T : Nat → Nat → Bool} {c e : Nat} (hc : e < c) (h : T c e = true) : LKP T c e (e : Int) := .inr ⟨e, Nat.le_refl _, hc, h, rfl, fun r h1 h2 => by omega⟩
theorem lkp_miss {T : Nat → Nat → Bool} {c e : Nat} {k : Int} (h0 : LKP T c (e + 1) k) (h : T c e = false) : LKP T c e k := by
  rcases h0 with ⟨h1, h2⟩ | ⟨q, h1, h2, h3, h4, h5⟩
  · refine .inl ⟨h1, fun q q1 q2 => ?_⟩
    by_cases e1 : q = e
    · rw [e1]; exact h
    · exact h2 q (by omega) q2
  · refine .inr ⟨q, by omega, h2, h3, h4, fun r r1 r2 => ?_⟩
    by_cases e1 : r = e
    · rw [e1]; exact h
    · exact h5 r (by omega) r2
theorem lkp_end {T : Nat → Nat → Bool} {c : Nat} {k : Int} (h : LKP T c 0 k) : k = (lst T c : Int) := by
  unfold lst
  rcases h with ⟨h1, h2⟩ | ⟨q, h1, h2, h3, h4, h5⟩
  · rw [find_none fun y hy => h2 y (by omega) hy]; exact h1
  · rw [find_some h2 h3 fun y hy => h5 y (by omega) hy]; exact h4
theorem lst_spec {T : Nat → Nat → Bool} {n c : Nat} (hT : EQT T n) (hc : c < n) : lst T c ≤ c ∧ T c (lst T c) = true ∧ ∀ r, r < lst T c → T c r = false := by
  unfold lst
  cases hf : (List.range c).find? (T c) with
  | none =>
    have := List.find?_eq_none.1 hf
    exact ⟨Nat.le_refl _, hT.rf c hc, fun r hr => by simpa using this r (by simpa using hr)⟩
  | some q =>
    have h1 := List.find?_some hf
    have h2 : q < c := by simpa using List.mem_of_find?_eq_some hf
    refine ⟨by show q ≤ c; omega, h1, fun r hr => ?_⟩
    have hr' : r < q := hr
    cases hc2 : T c r with
    | false => rfl
    | true =>
      have h3 := (List.find?_range_eq_some.1 hf).2.2 r hr'
      rw [hc2] at h3; cases h3
theorem lst_iff {T : Nat → Nat → Bool} {n c d : Nat} (hT : EQT T n) (hc : c < n) (hd : d < n) : lst T d = lst T c ↔ T d c = true := by
  obtain ⟨c1, c2, c3⟩ := lst_spec hT hc
  obtain ⟨d1, d2, d3⟩ := lst_spec hT hd
  constructor
  · intro e
    rw [e] at d2
    exact hT.tr d _ c hd (by omega) hc d2 (hT.sy c _ hc (by omega) c2)
  · intro h
    have h1 := hT.tr c d _ hc hd (by omega) (hT.sy d c hd hc h) d2
    have h2 := hT.tr d c _ hd hc (by omega) h c2
    rcases Nat.lt_trichotomy (lst T d) (lst T c) with hh | hh | hh
    · rw [c3 _ hh] at h1; cases h1
    · exact hh
    · rw [d3 _ hh] at h2; cases h2
theorem togB_iff {m : Mly} {c d : Nat} : togB m c d = true ↔ ∀ k, k < (fstX m.exR).length → agrS m ((fstX m.exR).getD k 0) c d = true := by
  unfold togB
  constructor
  · intro h k hk
    have h1 : idxB (fun s => !agrS m s c d) (fstX m.exR) < 0 := by
      have : ¬ 0 ≤ idxB (fun s => !agrS m s c d) (fstX m.exR) := by simpa using h
      omega
    simpa using idxB_miss h1 k hk
  · intro h
    rw [idxB_none fun q hq => by rw [h q hq]; rfl]; rfl
theorem agr_iff {m : Mly} {s : Int} {c d : Nat} : agrS m s c d = true ↔ m.out s c = m.out s d ∧ m.eqc.getD (m.nxt s c).toNat 0 = m.eqc.getD (m.nxt s d).toNat 0 := by simp only [agrS, Bool.and_eq_true, decide_eq_true_eq]
theorem togB_eqt (m : Mly) (n : Nat) : EQT (togB m) n where
  rf a _ := togB_iff.2 fun k _ => agr_iff.2 ⟨rfl, rfl⟩
  sy a b _ _ h := togB_iff.2 fun k hk => by have := agr_iff.1 (togB_iff.1 h k hk); exact agr_iff.2 ⟨this.1.symm, this.2.symm⟩
  tr a b c _ _ _ h g := togB_iff.2 fun k hk => by
    have h1 := agr_iff.1 (togB_iff.1 h k hk); have h2 := agr_iff.1 (togB_iff.1 g k hk); exact agr_iff.2 ⟨h1.1.trans h2.1, h1.2.trans h2.2⟩
def lsL (T : Nat → Nat → Bool) (n : Nat) : List Int := (List.range n).map fun c => (lst T c : Int)
theorem lsL_succ (T : Nat → Nat → Bool) (n : Nat) : lsL T (n + 1) = lsL T n ++ [(lst T n : Int)] := by simp [lsL, List.range_succ]
theorem lsL_len (T : Nat → Nat → Bool) (n : Nat) : (lsL T n).length = n := by simp [lsL]
theorem lsL_at (T : Nat → Nat → Bool) {n c : Nat} (h : c < n) : (lsL T n).getD c 0 = (lst T c : Int) := by simp [lsL, List.getD, h]
theorem nm_lst {T : Nat → Nat → Bool} {n : Nat} (hT : EQT T n) : nmS (eqL (lsL T n)) n = nmS T n :=
  nmS_congr n fun d q h1 h2 => by
    unfold eqL
    rw [lsL_at T (by omega), lsL_at T (by omega)]
    have hi := lst_iff hT (c := q) (d := d) h2 (by omega)
    cases hc : T d q with
    | true => rw [hi.2 hc]; exact decide_eq_true rfl
    | false =>
      refine decide_eq_false fun hh => ?_
      rw [hi.1 (by omega)] at hc; cases hc
end Go.AV
namespace Go.AV
open Nat (reduceEqDiff reduceAdd reduceLeDiff reduceLT reduceMul reduceSub)
open List (set_cons_zero set_cons_succ)
/-plain-/
theorem nm_iff {T : Nat → Nat → Bool} {n c d : Nat} (hT : EQT T n) (hc : c < n) (hd : d < n) : (nmS T n).1.getD c 0 = (nmS T n).1.getD d 0 ↔ T c d = true := by
  have hp := nmp hT n (Nat.le_refl _)
  obtain ⟨r1, r2, r3⟩ := nmS_rng T n
  obtain ⟨c1, c2, c3⟩ := hp.at_ c hc
  obtain ⟨d1, d2, d3⟩ := hp.at_ d hd
  have hmc := r3 _ (getD_mem (w := (nmS T n).2) (i := ((nmS T n).1.getD c 0).toNat) (by omega))
  have hmd := r3 _ (getD_mem (w := (nmS T n).2) (i := ((nmS T n).1.getD d 0).toNat) (by omega))
  constructor
  · intro e
    rw [← e] at d3
    exact hT.tr c _ d hc (by omega) hd (hT.sy _ c (by omega) hc c3) d3
  · intro h
    have h1 := hT.tr _ c d (by omega) hc hd c3 h
    have h2 := hT.tr _ d _ (by omega) hd (by omega) h1 (hT.sy _ d (by omega) hd d3)
    rcases Nat.lt_trichotomy ((nmS T n).1.getD c 0).toNat ((nmS T n).1.getD d 0).toNat with hh | hh | hh
    · have := hp.ap _ _ hh (by omega)
      rw [h2] at this; cases this
    · omega
    · have h3 := hT.sy _ _ (by omega) (by omega) h2
      have := hp.ap _ _ hh (by omega)
      rw [h3] at this; cases this
structure RUN (m : Mly) : Prop where
  len : (runLm m).length = m.inp.toNat
  ce : cntE (runLm m) = 0
  ck : cntK (runLm m) = runNm m
  eq : ∀ c d : Nat, c < m.inp.toNat → d < m.inp.toNat → ((runLm m).getD c 0 = (runLm m).getD d 0 ↔ togB m c d = true)
  ch : chkE m (runLm m) = 0
  no : stpB m (runLm m) = false
theorem fin_none {m : Mly} {cl : List Int} (hk : COK m cl) (h : ∀ c d : Nat, c < m.inp.toNat → d < m.inp.toNat → cl.getD c 0 = cl.getD d 0 → togB m c d = true) : stpB m cl = false := by
  have hlen := hk.len
  unfold stpB
  split
  · cases hf : finI m cl with
    | none => rfl
    | some p =>
      exfalso
      obtain ⟨⟨p1, p2, p3⟩, p4, p5⟩ := finI_spec hf
      unfold parS at p5
      simp only [Bool.and_eq_true, Bool.not_eq_true', decide_eq_true_eq] at p5
      have h1 := togB_iff.1 (h p.2.1 p.2.2 (by omega) (by omega) p5.1) p.1 (by rw [fstX_len]; exact p1)
      rw [fstX_at p1, p5.2] at h1
      cases h1
  · rfl
theorem runs {m : Mly} (hm : MOK m) : RUN m := by
  have hi1 := hm.i1; have hi2 := hm.i2
  have hv := validE_of hm
  have eL : runLm m = (nmS (togB m) m.inp.toNat).1 := by unfold runLm; rw [if_pos hv]
  have eN : runNm m = ((nmS (togB m) m.inp.toNat).2.length : Int) := by unfold runNm; rw [if_pos hv]
  have hc := nm_cnt (togB m) (n := m.inp.toNat) (by omega) (by omega)
  have hr := nmS_rng (togB m) m.inp.toNat
  have hq : ∀ c d : Nat, c < m.inp.toNat → d < m.inp.toNat → ((runLm m).getD c 0 = (runLm m).getD d 0 ↔ togB m c d = true) := fun c d h1 h2 => by rw [eL]; exact nm_iff (togB_eqt m _) h1 h2
  have hl : (runLm m).length = m.inp.toNat := by rw [eL]; exact hr.1
  have hce : cntE (runLm m) = 0 := by rw [eL]; exact hc.1
  have hch : chkE m (runLm m) = 0 := by
    unfold chkE
    rw [if_neg (by simp [hv]), if_neg (by simp [hce]), if_pos (by omega)]
  exact ⟨hl, hce, by rw [eL, eN]; exact hc.2, hq, hch, fin_none (cok_of hch) fun c d h1 h2 e => (hq c d h1 h2).1 e⟩
theorem run_dec {m : Mly} (h : RUN m) {c d : Nat} (hc : c < m.inp.toNat) (hd : d < m.inp.toNat) : decide ((runLm m).getD c 0 = (runLm m).getD d 0) = togB m c d := by
  have := h.eq c d hc hd
  cases ht : togB m c d with
  | true => exact decide_eq_true (this.2 ht)
  | false => exact decide_eq_false fun hh => by rw [this.1 hh] at ht; cases ht
end Go.AV
namespace Go.Proofs.Ytceafldjjedhcaa
open Go Go.AV
open Nat (reduceEqDiff reduceAdd reduceLeDiff reduceLT reduceMul reduceSub)
open List (set_cons_zero set_cons_succ)
set_option maxRecDepth 100000 in
theorem count_c (cl : List Int) : PURE Try.prog 22 [.one (.list (.int .i64) cl)] (.tup [.one (.int .i64 (cntK cl)), .one (.int .i64 (cntE cl))]) := by
  refine pure_of_le Try.func22 rfl (by kernel_rfl) (Nat.le_of_ble_eq_true rfl) rfl fun C hP hN hB => ?_
  replace hN : C.N = 42 := hN
  simp only [argEnv, reduceAdd]
  refine awp_seq_k fun K1 hK1 => ?_
  refine awp_reg hP hN rfl ?_
  iterate 2 (refine rg_step rfl fun K0 hK0 => ?_; simp only [zE, op1, ev, lkp, avOf, acOf, ev, reduceCtorEq, reduceEqDiff, reduceAdd, reduceLeDiff, reduceLT, reduceMul, reduceSub, Try.td3]; (repeat refine And.intro (by first | omega | assumption | exact rfl) ?_); (first | refine hK0 _ ?_ | refine Or.inl (hK0 _ ?_)); clear hK0 K0; simp only [put, app, setAll, trOf, zE, set_cons_zero, set_cons_succ, reduceAdd])
  refine rg_nil ?_
  refine hK1 _ ?_; clear hK1; refine awp_keep [0, 2, 3] ?_; simp only [keepEnv, lkp, zE, reduceCtorEq, reduceEqDiff, argEnv, reduceAdd]
  refine awp_seq_k fun K2 hK2 => ?_
  refine awp_seq_k fun K3 hK3 => ?_
  refine awp_reg hP hN rfl ?_
  iterate 3 (refine rg_step rfl fun K0 hK0 => ?_; simp only [zE, op1, ev, lkp, avOf, acOf, opCallAny, opMM, opLen, lenAC, lenOk, fpAC, Nat.div_one, opAppend, srcOf, Ty.size, datOf, dite_true, opBin, arith, inK_i64, eqACs, eqAC, reduceCtorEq, reduceEqDiff, reduceAdd, reduceLeDiff, reduceLT, reduceMul, reduceSub, Try.el25, Try.td25, Try.td3, Try.td4]; (repeat refine And.intro (by first | omega | assumption | exact rfl) ?_); (first | refine hK0 _ ?_ | refine Or.inl (hK0 _ ?_)); clear hK0 K0; simp only [put, app, setAll, trOf, zE, set_cons_zero, set_cons_succ, reduceAdd])
  (refine rg_step rfl fun K0 hK0 => ?_; simp only [zE, op1, ev, lkp, avOf, acOf, ev, reduceCtorEq, reduceEqDiff, reduceAdd, reduceLeDiff, reduceLT, reduceMul, reduceSub, Try.td4]; (repeat refine And.intro (by first | omega | assumption | exact rfl) ?_); (first | refine hK0 _ ?_ | refine Or.inl (hK0 _ ?_)); clear hK0 K0; simp only [put, app, setAll, trOf, zE, set_cons_zero, set_cons_succ, reduceAdd])
  refine' rg_join_n (want := false) 3 rfl (m := 9) (by simp only [keepEnv, lkp, zE, reduceCtorEq, reduceEqDiff, argEnv, reduceAdd]; exact rfl) (by kernel_rfl) rfl rfl rfl rfl rfl (fun hg4 => ?a4) ?b4 ?c4
  case a4 =>
    have hq4 := hg4; (try simp only [decide_eq_true_eq, decide_eq_false_iff_not, Bool.not_true, Bool.not_false, Bool.not_eq_true, Bool.not_eq_false, Bool.not_eq_eq_eq_not, Int.not_lt, Int.not_le, reduceCtorEq, Bool.true_eq_false, Bool.false_eq_true, ne_eq, Decidable.not_not, Bool.not_eq_true', bne_iff_ne, Bool.or_eq_true, Bool.and_eq_true, Bool.or_eq_false_iff, Bool.and_eq_false_iff] at hg4); simp only [List.take_succ_cons, List.take_zero, List.cons_append, List.nil_append]
    (refine rg_do rfl fun K0 hK0 => ?_; simp only [zE, op1, ev, lkp, avOf, acOf, ev, reduceCtorEq, reduceEqDiff, reduceAdd, reduceLeDiff, reduceLT, reduceMul, reduceSub, Try.el25, Try.td25]; (repeat refine And.intro (by first | omega | assumption | exact rfl) ?_); (first | refine hK0 _ ?_ | refine Or.inl (hK0 _ ?_)); clear hK0 K0; simp only [put, app, setAll, trOf, zE, set_cons_zero, set_cons_succ, reduceAdd])
    (refine rg_do rfl fun K0 hK0 => ?_; simp only [zE, op1, ev, lkp, avOf, acOf, opCallAny, opMM, opLen, lenAC, lenOk, fpAC, Nat.div_one, opAppend, srcOf, Ty.size, datOf, dite_true, reduceCtorEq, reduceEqDiff, reduceAdd, reduceLeDiff, reduceLT, reduceMul, reduceSub, Try.el25, Try.td25, Try.td3]; (repeat refine And.intro (by first | omega | assumption | exact rfl) ?_); (first | refine hK0 _ ?_ | refine Or.inl (hK0 _ ?_)); clear hK0 K0; simp only [put, app, setAll, trOf, zE, set_cons_zero, set_cons_succ, reduceAdd])
    (refine rg_do rfl fun K0 hK0 => ?_; simp only [zE, op1, ev, lkp, avOf, acOf, opBin, arith, inK_i64, eqACs, eqAC, reduceCtorEq, reduceEqDiff, reduceAdd, reduceLeDiff, reduceLT, reduceMul, reduceSub, Try.td3, Try.td4]; (repeat refine And.intro (by first | omega | assumption | exact rfl) ?_); (first | refine hK0 _ ?_ | refine Or.inl (hK0 _ ?_)); clear hK0 K0; simp only [put, app, setAll, trOf, zE, set_cons_zero, set_cons_succ, reduceAdd])
    (refine rg_step rfl fun K0 hK0 => ?_; simp only [zE, op1, ev, lkp, avOf, acOf, opPick, reduceCtorEq, reduceEqDiff, reduceAdd, reduceLeDiff, reduceLT, reduceMul, reduceSub, Try.td4]; (repeat refine And.intro (by first | omega | assumption | exact rfl) ?_); (first | refine hK0 _ ?_ | refine Or.inl (hK0 _ ?_)); clear hK0 K0; simp only [put, app, setAll, trOf, zE, set_cons_zero, set_cons_succ, reduceAdd])
    refine rg_nil ?_
    refine ⟨by simp only [keepEnv, lkp, zE, reduceCtorEq, reduceEqDiff, argEnv, reduceAdd]; exact rfl, rfl, ?_, rfl⟩; (repeat refine keep_cons rfl ?_); exact keep_m (by exact rfl) hq4
  case b4 => exact tle_of (by first | rfl | (simp [tleB]; done) | decide)
  simp only [join_or, join_and]
  refine rg_nil ?_
  refine hK3 _ ?_; clear hK3; refine awp_keep [0, 2, 3, 13] ?_; simp only [keepEnv, lkp, zE, reduceCtorEq, reduceEqDiff, argEnv, reduceAdd]
  refine awp_cond (by simp only [ev, keepEnv, lkp, zE, reduceCtorEq, reduceEqDiff, argEnv, reduceAdd]; exact rfl) (fun hc5 => ?_) (fun hc5 => ?_)
  · (try simp only [decide_eq_true_eq, decide_eq_false_iff_not, Bool.not_true, Bool.not_false, Bool.not_eq_true, Bool.not_eq_false, Bool.not_eq_eq_eq_not, Int.not_lt, Int.not_le, reduceCtorEq, Bool.true_eq_false, Bool.false_eq_true, ne_eq, Decidable.not_not, Bool.not_eq_true', bne_iff_ne, Bool.or_eq_true, Bool.and_eq_true, Bool.or_eq_false_iff, Bool.and_eq_false_iff] at hc5)
    refine awp_seq_k fun K6 hK6 => ?_
    refine awp_reg hP hN rfl ?_
    iterate 2 (refine rg_step rfl fun K0 hK0 => ?_; simp only [zE, op1, ev, lkp, avOf, acOf, ev, reduceCtorEq, reduceEqDiff, reduceAdd, reduceLeDiff, reduceLT, reduceMul, reduceSub, Try.td3]; (repeat refine And.intro (by first | omega | assumption | exact rfl) ?_); (first | refine hK0 _ ?_ | refine Or.inl (hK0 _ ?_)); clear hK0 K0; simp only [put, app, setAll, trOf, zE, set_cons_zero, set_cons_succ, reduceAdd])
    refine rg_nil ?_
    refine hK6 _ ?_; clear hK6; refine awp_keep [0, 2, 3, 13] ?_; simp only [keepEnv, lkp, zE, reduceCtorEq, reduceEqDiff, argEnv, reduceAdd]
    refine awp_ret ?_
    refine ⟨by first | exact .inl rfl | exact .inr rfl, _, rfl, ?_⟩; simp only [fzV, fz1, fzC, List.map_cons, List.map_nil, keepEnv, lkp, zE, reduceCtorEq, reduceEqDiff, argEnv, reduceAdd]
    refine VLE.of_eq ?_
    unfold cntK
    first
    | (rw [cntE_size (by omega)]; rfl)
    | (rw [cntE_bad (by omega) (k := k) (by omega) (cBad_yes (by omega))]; rfl)
    | (have hkl : k = cl.length := by omega
       subst hkl
       rw [cntE_ok (by omega) hq]; rfl)
  · (try simp only [decide_eq_true_eq, decide_eq_false_iff_not, Bool.not_true, Bool.not_false, Bool.not_eq_true, Bool.not_eq_false, Bool.not_eq_eq_eq_not, Int.not_lt, Int.not_le, reduceCtorEq, Bool.true_eq_false, Bool.false_eq_true, ne_eq, Decidable.not_not, Bool.not_eq_true', bne_iff_ne, Bool.or_eq_true, Bool.and_eq_true, Bool.or_eq_false_iff, Bool.and_eq_false_iff] at hc5)
    refine awp_skip ?_
    refine hK2 _ ?_; clear hK2; refine awp_keep [0, 2, 3, 13] ?_; simp only [keepEnv, lkp, zE, reduceCtorEq, reduceEqDiff, argEnv, reduceAdd]
    refine awp_seq_k fun K7 hK7 => ?_
    refine awp_reg hP hN rfl ?_
    (refine rg_step rfl fun K0 hK0 => ?_; simp only [zE, op1, ev, lkp, avOf, acOf, ev, reduceCtorEq, reduceEqDiff, reduceAdd, reduceLeDiff, reduceLT, reduceMul, reduceSub, Try.td3]; (repeat refine And.intro (by first | omega | assumption | exact rfl) ?_); (first | refine hK0 _ ?_ | refine Or.inl (hK0 _ ?_)); clear hK0 K0; simp only [put, app, setAll, trOf, zE, set_cons_zero, set_cons_succ, reduceAdd])
    refine rg_nil ?_
    refine hK7 _ ?_; clear hK7; refine awp_keep [0, 2, 3, 4, 13] ?_; simp only [keepEnv, lkp, zE, reduceCtorEq, reduceEqDiff, argEnv, reduceAdd]
    refine awp_seq_k fun K8 hK8 => ?_
    refine awp_seq_k fun K9 hK9 => ?_
    refine awp_reg hP hN rfl ?_
    (refine rg_step rfl fun K0 hK0 => ?_; simp only [zE, op1, ev, lkp, avOf, acOf, ev, reduceCtorEq, reduceEqDiff, reduceAdd, reduceLeDiff, reduceLT, reduceMul, reduceSub, Try.td3]; (repeat refine And.intro (by first | omega | assumption | exact rfl) ?_); (first | refine hK0 _ ?_ | refine Or.inl (hK0 _ ?_)); clear hK0 K0; simp only [put, app, setAll, trOf, zE, set_cons_zero, set_cons_succ, reduceAdd])
    refine rg_nil ?_
    refine hK9 _ ?_; clear hK9; refine awp_keep [0, 2, 3, 4, 5, 13] ?_; simp only [keepEnv, lkp, zE, reduceCtorEq, reduceEqDiff, argEnv, reduceAdd]
    refine awp_block ?_
    refine awp_loop (fun n10 s10 => ∃ (k : Nat), (k ≤ cl.length) ∧ (∀ q, q < k → cBad cl q = false) ∧ n10 = cl.length - k ∧ s10 = { env := [(0, .one (.list (.int .i64) cl)), (4, .one (.int .i64 (cN cl k))), (5, .one (.int .i64 (k : Int)))], L := [] }) ?_ ?_
    · refine ⟨_, _, sub_keep [0, 4, 5], 0, Nat.zero_le _, fun q hq => by omega, rfl, rfl⟩
    · rintro n10 s10 ⟨k, hk, hq, rfl, rfl⟩
      refine awp_seq_k fun K11 hK11 => ?_
      refine awp_seq_k fun K12 hK12 => ?_
      refine awp_reg hP hN rfl ?_
      iterate 4 (refine rg_step rfl fun K0 hK0 => ?_; simp only [zE, op1, ev, lkp, avOf, acOf, opCallAny, opMM, opLen, lenAC, lenOk, fpAC, Nat.div_one, opAppend, srcOf, Ty.size, datOf, dite_true, opBin, arith, inK_i64, eqACs, eqAC, reduceCtorEq, reduceEqDiff, reduceAdd, reduceLeDiff, reduceLT, reduceMul, reduceSub, Try.el25, Try.td25, Try.td3, Try.td4]; (repeat refine And.intro (by first | omega | assumption | exact rfl) ?_); (first | refine hK0 _ ?_ | refine Or.inl (hK0 _ ?_)); clear hK0 K0; simp only [put, app, setAll, trOf, zE, set_cons_zero, set_cons_succ, reduceAdd])
      refine rg_nil ?_
      refine hK12 _ ?_; clear hK12; refine awp_keep [0, 4, 5, 17] ?_; simp only [keepEnv, lkp, zE, reduceCtorEq, reduceEqDiff, argEnv, reduceAdd]
      refine awp_cond (by simp only [ev, keepEnv, lkp, zE, reduceCtorEq, reduceEqDiff, argEnv, reduceAdd]; exact rfl) (fun hc13 => ?_) (fun hc13 => ?_)
      · (try simp only [decide_eq_true_eq, decide_eq_false_iff_not, Bool.not_true, Bool.not_false, Bool.not_eq_true, Bool.not_eq_false, Bool.not_eq_eq_eq_not, Int.not_lt, Int.not_le, reduceCtorEq, Bool.true_eq_false, Bool.false_eq_true, ne_eq, Decidable.not_not, Bool.not_eq_true', bne_iff_ne, Bool.or_eq_true, Bool.and_eq_true, Bool.or_eq_false_iff, Bool.and_eq_false_iff] at hc13)
        refine awp_skip ?_
        refine hK11 _ ?_; clear hK11; refine awp_keep [0, 4, 5, 17] ?_; simp only [keepEnv, lkp, zE, reduceCtorEq, reduceEqDiff, argEnv, reduceAdd]
        refine awp_seq_k fun K14 hK14 => ?_
        refine awp_block ?_
        refine awp_seq_k fun K15 hK15 => ?_
        refine awp_seq_k fun K16 hK16 => ?_
        refine awp_reg hP hN rfl ?_
        iterate 5 (refine rg_step rfl fun K0 hK0 => ?_; simp only [zE, op1, ev, lkp, avOf, acOf, opIndexAddr, zG, Ty.dflt, Ty.size, Nat.mul_one, ne_eq, not_false_eq_true, Int.natCast_one, Int.mul_one, opLoad, readAC, isAggK, acs, cellsAt, opBin, arith, inK_i64, eqACs, eqAC, reduceCtorEq, reduceEqDiff, reduceAdd, reduceLeDiff, reduceLT, reduceMul, reduceSub, Try.el25, Try.td25, Try.td3, Try.td4]; (repeat refine And.intro (by first | omega | assumption | exact rfl) ?_); (first | refine hK0 _ ?_ | refine Or.inl (hK0 _ ?_)); clear hK0 K0; simp only [put, app, setAll, trOf, zE, set_cons_zero, set_cons_succ, reduceAdd])
        (refine rg_step rfl fun K0 hK0 => ?_; simp only [zE, op1, ev, lkp, avOf, acOf, ev, reduceCtorEq, reduceEqDiff, reduceAdd, reduceLeDiff, reduceLT, reduceMul, reduceSub, Try.td4]; (repeat refine And.intro (by first | omega | assumption | exact rfl) ?_); (first | refine hK0 _ ?_ | refine Or.inl (hK0 _ ?_)); clear hK0 K0; simp only [put, app, setAll, trOf, zE, set_cons_zero, set_cons_succ, reduceAdd])
        refine' rg_join_n (want := false) 6 rfl (m := 25) (by simp only [keepEnv, lkp, zE, reduceCtorEq, reduceEqDiff, argEnv, reduceAdd]; exact rfl) (by kernel_rfl) rfl rfl rfl rfl rfl (fun hg17 => ?a17) ?b17 ?c17
        case a17 =>
          have hq17 := hg17; (try simp only [decide_eq_true_eq, decide_eq_false_iff_not, Bool.not_true, Bool.not_false, Bool.not_eq_true, Bool.not_eq_false, Bool.not_eq_eq_eq_not, Int.not_lt, Int.not_le, reduceCtorEq, Bool.true_eq_false, Bool.false_eq_true, ne_eq, Decidable.not_not, Bool.not_eq_true', bne_iff_ne, Bool.or_eq_true, Bool.and_eq_true, Bool.or_eq_false_iff, Bool.and_eq_false_iff] at hg17); simp only [List.take_succ_cons, List.take_zero, List.cons_append, List.nil_append]
          (refine rg_do rfl fun K0 hK0 => ?_; simp only [zE, op1, ev, lkp, avOf, acOf, ev, reduceCtorEq, reduceEqDiff, reduceAdd, reduceLeDiff, reduceLT, reduceMul, reduceSub, Try.el25, Try.td25]; (repeat refine And.intro (by first | omega | assumption | exact rfl) ?_); (first | refine hK0 _ ?_ | refine Or.inl (hK0 _ ?_)); clear hK0 K0; simp only [put, app, setAll, trOf, zE, set_cons_zero, set_cons_succ, reduceAdd])
          (refine rg_do rfl fun K0 hK0 => ?_; simp only [zE, op1, ev, lkp, avOf, acOf, ev, reduceCtorEq, reduceEqDiff, reduceAdd, reduceLeDiff, reduceLT, reduceMul, reduceSub, Try.td3]; (repeat refine And.intro (by first | omega | assumption | exact rfl) ?_); (first | refine hK0 _ ?_ | refine Or.inl (hK0 _ ?_)); clear hK0 K0; simp only [put, app, setAll, trOf, zE, set_cons_zero, set_cons_succ, reduceAdd])
          (refine rg_do rfl fun K0 hK0 => ?_; simp only [zE, op1, ev, lkp, avOf, acOf, opIndexAddr, zG, Ty.dflt, Ty.size, Nat.mul_one, ne_eq, not_false_eq_true, Int.natCast_one, Int.mul_one, reduceCtorEq, reduceEqDiff, reduceAdd, reduceLeDiff, reduceLT, reduceMul, reduceSub, Try.el25, Try.td25]; (repeat refine And.intro (by first | omega | assumption | exact rfl) ?_); (first | refine hK0 _ ?_ | refine Or.inl (hK0 _ ?_)); clear hK0 K0; simp only [put, app, setAll, trOf, zE, set_cons_zero, set_cons_succ, reduceAdd])
          (refine rg_do rfl fun K0 hK0 => ?_; simp only [zE, op1, ev, lkp, avOf, acOf, opLoad, Nat.mul_one, readAC, isAggK, acs, Ty.dflt, zG, cellsAt, reduceCtorEq, reduceEqDiff, reduceAdd, reduceLeDiff, reduceLT, reduceMul, reduceSub, Try.td3]; (repeat refine And.intro (by first | omega | assumption | exact rfl) ?_); (first | refine hK0 _ ?_ | refine Or.inl (hK0 _ ?_)); clear hK0 K0; simp only [put, app, setAll, trOf, zE, set_cons_zero, set_cons_succ, reduceAdd])
          (refine rg_do rfl fun K0 hK0 => ?_; simp only [zE, op1, ev, lkp, avOf, acOf, ev, reduceCtorEq, reduceEqDiff, reduceAdd, reduceLeDiff, reduceLT, reduceMul, reduceSub, Try.td3]; (repeat refine And.intro (by first | omega | assumption | exact rfl) ?_); (first | refine hK0 _ ?_ | refine Or.inl (hK0 _ ?_)); clear hK0 K0; simp only [put, app, setAll, trOf, zE, set_cons_zero, set_cons_succ, reduceAdd])
          (refine rg_do rfl fun K0 hK0 => ?_; simp only [zE, op1, ev, lkp, avOf, acOf, opBin, arith, inK_i64, eqACs, eqAC, reduceCtorEq, reduceEqDiff, reduceAdd, reduceLeDiff, reduceLT, reduceMul, reduceSub, Try.td3, Try.td4]; (repeat refine And.intro (by first | omega | assumption | exact rfl) ?_); (first | refine hK0 _ ?_ | refine Or.inl (hK0 _ ?_)); clear hK0 K0; simp only [put, app, setAll, trOf, zE, set_cons_zero, set_cons_succ, reduceAdd])
          (refine rg_step rfl fun K0 hK0 => ?_; simp only [zE, op1, ev, lkp, avOf, acOf, opPick, reduceCtorEq, reduceEqDiff, reduceAdd, reduceLeDiff, reduceLT, reduceMul, reduceSub, Try.td4]; (repeat refine And.intro (by first | omega | assumption | exact rfl) ?_); (first | refine hK0 _ ?_ | refine Or.inl (hK0 _ ?_)); clear hK0 K0; simp only [put, app, setAll, trOf, zE, set_cons_zero, set_cons_succ, reduceAdd])
          refine rg_nil ?_
          refine ⟨by simp only [keepEnv, lkp, zE, reduceCtorEq, reduceEqDiff, argEnv, reduceAdd]; exact rfl, rfl, ?_, rfl⟩; (repeat refine keep_cons rfl ?_); exact keep_m (by exact rfl) hq17
        case b17 => exact tle_of (by first | rfl | (simp [tleB]; done) | decide)
        simp only [join_or, join_and]
        refine rg_nil ?_
        refine hK16 _ ?_; clear hK16; refine awp_keep [0, 4, 5, 17, 32] ?_; simp only [keepEnv, lkp, zE, reduceCtorEq, reduceEqDiff, argEnv, reduceAdd]
        refine awp_cond (by simp only [ev, keepEnv, lkp, zE, reduceCtorEq, reduceEqDiff, argEnv, reduceAdd]; exact rfl) (fun hc18 => ?_) (fun hc18 => ?_)
        · (try simp only [decide_eq_true_eq, decide_eq_false_iff_not, Bool.not_true, Bool.not_false, Bool.not_eq_true, Bool.not_eq_false, Bool.not_eq_eq_eq_not, Int.not_lt, Int.not_le, reduceCtorEq, Bool.true_eq_false, Bool.false_eq_true, ne_eq, Decidable.not_not, Bool.not_eq_true', bne_iff_ne, Bool.or_eq_true, Bool.and_eq_true, Bool.or_eq_false_iff, Bool.and_eq_false_iff] at hc18)
          refine awp_seq_k fun K19 hK19 => ?_
          refine awp_reg hP hN rfl ?_
          iterate 2 (refine rg_step rfl fun K0 hK0 => ?_; simp only [zE, op1, ev, lkp, avOf, acOf, ev, reduceCtorEq, reduceEqDiff, reduceAdd, reduceLeDiff, reduceLT, reduceMul, reduceSub, Try.td3]; (repeat refine And.intro (by first | omega | assumption | exact rfl) ?_); (first | refine hK0 _ ?_ | refine Or.inl (hK0 _ ?_)); clear hK0 K0; simp only [put, app, setAll, trOf, zE, set_cons_zero, set_cons_succ, reduceAdd])
          refine rg_nil ?_
          refine hK19 _ ?_; clear hK19; refine awp_keep [0, 2, 3, 4, 5, 17, 32] ?_; simp only [keepEnv, lkp, zE, reduceCtorEq, reduceEqDiff, argEnv, reduceAdd]
          refine awp_ret ?_
          refine ⟨by first | exact .inl rfl | exact .inr rfl, _, rfl, ?_⟩; simp only [fzV, fz1, fzC, List.map_cons, List.map_nil, keepEnv, lkp, zE, reduceCtorEq, reduceEqDiff, argEnv, reduceAdd]
          refine VLE.of_eq ?_
          unfold cntK
          first
          | (rw [cntE_size (by omega)]; rfl)
          | (rw [cntE_bad (by omega) (k := k) (by omega) (cBad_yes (by omega))]; rfl)
          | (have hkl : k = cl.length := by omega
             subst hkl
             rw [cntE_ok (by omega) hq]; rfl)
        · (try simp only [decide_eq_true_eq, decide_eq_false_iff_not, Bool.not_true, Bool.not_false, Bool.not_eq_true, Bool.not_eq_false, Bool.not_eq_eq_eq_not, Int.not_lt, Int.not_le, reduceCtorEq, Bool.true_eq_false, Bool.false_eq_true, ne_eq, Decidable.not_not, Bool.not_eq_true', bne_iff_ne, Bool.or_eq_true, Bool.and_eq_true, Bool.or_eq_false_iff, Bool.and_eq_false_iff] at hc18)
          refine awp_skip ?_
          refine hK15 _ ?_; clear hK15; refine awp_keep [0, 4, 5, 17, 32] ?_; simp only [keepEnv, lkp, zE, reduceCtorEq, reduceEqDiff, argEnv, reduceAdd]
          refine awp_seq_k fun K20 hK20 => ?_
          have hcnb := cN_le' hq
          refine awp_reg hP hN rfl ?_
          iterate 6 (refine rg_step rfl fun K0 hK0 => ?_; simp only [zE, op1, ev, lkp, avOf, acOf, opIndexAddr, zG, Ty.dflt, Ty.size, Nat.mul_one, ne_eq, not_false_eq_true, Int.natCast_one, Int.mul_one, opLoad, readAC, isAggK, acs, cellsAt, opBin, arith, inK_i64, eqACs, eqAC, reduceCtorEq, reduceEqDiff, reduceAdd, reduceLeDiff, reduceLT, reduceMul, reduceSub, Try.el25, Try.td25, Try.td3, Try.td4]; (repeat refine And.intro (by first | omega | assumption | exact rfl) ?_); (first | refine hK0 _ ?_ | refine Or.inl (hK0 _ ?_)); clear hK0 K0; simp only [put, app, setAll, trOf, zE, set_cons_zero, set_cons_succ, reduceAdd])
          refine rg_nil ?_
          refine hK20 _ ?_; clear hK20; refine awp_keep [0, 4, 5, 17, 32, 38] ?_; simp only [keepEnv, lkp, zE, reduceCtorEq, reduceEqDiff, argEnv, reduceAdd]
          refine awp_cond (by simp only [ev, keepEnv, lkp, zE, reduceCtorEq, reduceEqDiff, argEnv, reduceAdd]; exact rfl) (fun hc21 => ?_) (fun hc21 => ?_)
          · (try simp only [decide_eq_true_eq, decide_eq_false_iff_not, Bool.not_true, Bool.not_false, Bool.not_eq_true, Bool.not_eq_false, Bool.not_eq_eq_eq_not, Int.not_lt, Int.not_le, reduceCtorEq, Bool.true_eq_false, Bool.false_eq_true, ne_eq, Decidable.not_not, Bool.not_eq_true', bne_iff_ne, Bool.or_eq_true, Bool.and_eq_true, Bool.or_eq_false_iff, Bool.and_eq_false_iff] at hc21)
            refine awp_reg hP hN rfl ?_
            iterate 3 (refine rg_step rfl fun K0 hK0 => ?_; simp only [zE, op1, ev, lkp, avOf, acOf, opBin, arith, inK_i64, eqACs, eqAC, reduceCtorEq, reduceEqDiff, reduceAdd, reduceLeDiff, reduceLT, reduceMul, reduceSub, Try.td3]; (repeat refine And.intro (by first | omega | assumption | exact rfl) ?_); (first | refine hK0 _ ?_ | refine Or.inl (hK0 _ ?_)); clear hK0 K0; simp only [put, app, setAll, trOf, zE, set_cons_zero, set_cons_succ, reduceAdd])
            refine rg_nil ?_
            refine hK14 _ ?_; clear hK14; refine awp_keep [0, 4, 5, 17, 32, 38] ?_; simp only [keepEnv, lkp, zE, reduceCtorEq, reduceEqDiff, argEnv, reduceAdd]
            refine awp_reg hP hN rfl ?_
            iterate 3 (refine rg_step rfl fun K0 hK0 => ?_; simp only [zE, op1, ev, lkp, avOf, acOf, opBin, arith, inK_i64, eqACs, eqAC, reduceCtorEq, reduceEqDiff, reduceAdd, reduceLeDiff, reduceLT, reduceMul, reduceSub, Try.td3]; (repeat refine And.intro (by first | omega | assumption | exact rfl) ?_); (first | refine hK0 _ ?_ | refine Or.inl (hK0 _ ?_)); clear hK0 K0; simp only [put, app, setAll, trOf, zE, set_cons_zero, set_cons_succ, reduceAdd])
            refine rg_nil ?_
            have hbk : cBad cl k = false := cBad_no (by omega) (by omega)
            have hcn := cN_le' hq
            refine ⟨_, _, ?_, sub_keep [0, 4, 5], k + 1, by omega, fun q hq2 => ?_, rfl, ?_⟩
            · omega
            · by_cases e : q = k
              · rw [e]; exact hbk
              · exact hq q (by omega)
            · first | rfl | (simp only [cN]; first | (rw [show max (cN cl k) (cl.getD k 0 + 1) = cN cl k + 1 by omega]; rfl) | (rw [show max (cN cl k) (cl.getD k 0 + 1) = cN cl k by omega]; rfl) | rfl)
          · (try simp only [decide_eq_true_eq, decide_eq_false_iff_not, Bool.not_true, Bool.not_false, Bool.not_eq_true, Bool.not_eq_false, Bool.not_eq_eq_eq_not, Int.not_lt, Int.not_le, reduceCtorEq, Bool.true_eq_false, Bool.false_eq_true, ne_eq, Decidable.not_not, Bool.not_eq_true', bne_iff_ne, Bool.or_eq_true, Bool.and_eq_true, Bool.or_eq_false_iff, Bool.and_eq_false_iff] at hc21)
            refine awp_skip ?_
            refine hK14 _ ?_; clear hK14; refine awp_keep [0, 4, 5, 17, 32, 38] ?_; simp only [keepEnv, lkp, zE, reduceCtorEq, reduceEqDiff, argEnv, reduceAdd]
            refine awp_reg hP hN rfl ?_
            iterate 3 (refine rg_step rfl fun K0 hK0 => ?_; simp only [zE, op1, ev, lkp, avOf, acOf, opBin, arith, inK_i64, eqACs, eqAC, reduceCtorEq, reduceEqDiff, reduceAdd, reduceLeDiff, reduceLT, reduceMul, reduceSub, Try.td3]; (repeat refine And.intro (by first | omega | assumption | exact rfl) ?_); (first | refine hK0 _ ?_ | refine Or.inl (hK0 _ ?_)); clear hK0 K0; simp only [put, app, setAll, trOf, zE, set_cons_zero, set_cons_succ, reduceAdd])
            refine rg_nil ?_
            have hbk : cBad cl k = false := cBad_no (by omega) (by omega)
            have hcn := cN_le' hq
            refine ⟨_, _, ?_, sub_keep [0, 4, 5], k + 1, by omega, fun q hq2 => ?_, rfl, ?_⟩
            · omega
            · by_cases e : q = k
              · rw [e]; exact hbk
              · exact hq q (by omega)
            · first | rfl | (simp only [cN]; first | (rw [show max (cN cl k) (cl.getD k 0 + 1) = cN cl k + 1 by omega]; rfl) | (rw [show max (cN cl k) (cl.getD k 0 + 1) = cN cl k by omega]; rfl) | rfl)
      · (try simp only [decide_eq_true_eq, decide_eq_false_iff_not, Bool.not_true, Bool.not_false, Bool.not_eq_true, Bool.not_eq_false, Bool.not_eq_eq_eq_not, Int.not_lt, Int.not_le, reduceCtorEq, Bool.true_eq_false, Bool.false_eq_true, ne_eq, Decidable.not_not, Bool.not_eq_true', bne_iff_ne, Bool.or_eq_true, Bool.and_eq_true, Bool.or_eq_false_iff, Bool.and_eq_false_iff] at hc13)
        refine awp_exit ?_
        refine hK8 _ ?_; clear hK8; refine awp_keep [0, 4, 5, 17] ?_; simp only [keepEnv, lkp, zE, reduceCtorEq, reduceEqDiff, argEnv, reduceAdd]
        refine awp_seq_k fun K22 hK22 => ?_
        refine awp_reg hP hN rfl ?_
        iterate 3 (refine rg_step rfl fun K0 hK0 => ?_; simp only [zE, op1, ev, lkp, avOf, acOf, ev, reduceCtorEq, reduceEqDiff, reduceAdd, reduceLeDiff, reduceLT, reduceMul, reduceSub, Try.td3]; (repeat refine And.intro (by first | omega | assumption | exact rfl) ?_); (first | refine hK0 _ ?_ | refine Or.inl (hK0 _ ?_)); clear hK0 K0; simp only [put, app, setAll, trOf, zE, set_cons_zero, set_cons_succ, reduceAdd])
        refine rg_nil ?_
        refine hK22 _ ?_; clear hK22; refine awp_keep [0, 2, 3, 4, 5, 17] ?_; simp only [keepEnv, lkp, zE, reduceCtorEq, reduceEqDiff, argEnv, reduceAdd]
        refine awp_ret ?_
        refine ⟨by first | exact .inl rfl | exact .inr rfl, _, rfl, ?_⟩; simp only [fzV, fz1, fzC, List.map_cons, List.map_nil, keepEnv, lkp, zE, reduceCtorEq, reduceEqDiff, argEnv, reduceAdd]
        refine VLE.of_eq ?_
        unfold cntK
        first
        | (rw [cntE_size (by omega)]; rfl)
        | (rw [cntE_bad (by omega) (k := k) (by omega) (cBad_yes (by omega))]; rfl)
        | (have hkl : k = cl.length := by omega
           subst hkl
           rw [cntE_ok (by omega) hq]; rfl)
end Go.Proofs.Ytceafldjjedhcaa
namespace Go.AV
open Nat (reduceEqDiff reduceAdd reduceLeDiff reduceLT reduceMul reduceSub)
open List (set_cons_zero set_cons_succ)
/-plain-/
/-! ### the access words, found again from the list of reached states -/
theorem foldA_pre (r : List Int) : ∀ l : List Int, ∃ k, r.foldl addS l = l ++ k := by
  induction r with
  | nil => intro l; exact ⟨[], by simp⟩
  | cons t r ih =>
    intro l
    obtain ⟨k, hk⟩ := ih (addS l t)
    by_cases h : t ∈ l
    · exact ⟨k, by rw [List.foldl_cons, hk, addS_in h]⟩
    · exact ⟨[t] ++ k, by rw [List.foldl_cons, hk, addS_out h, List.append_assoc]⟩
theorem foldA_at (r : List Int) {l : List Int} {i : Nat} (h : i < l.length) : (r.foldl addS l).getD i 0 = l.getD i 0 := by
  obtain ⟨k, hk⟩ := foldA_pre r l
  rw [hk]; simp [List.getD, List.getElem?_append_left h]
theorem rowX_mono (m : Mly) (e : S2) (l : List S2) {y : Nat} : ∀ {z : Nat}, y ≤ z → ∃ k, rowX m e l z = rowX m e l y ++ k
  | 0, h => by
    have : y = 0 := by omega
    subst this; exact ⟨[], by simp⟩
  | z + 1, h => by
    by_cases e1 : y = z + 1
    · subst e1; exact ⟨[], by simp⟩
    · obtain ⟨k, hk⟩ := rowX_mono m e l (y := y) (z := z) (by omega)
      obtain ⟨k2, hk2⟩ := stX_pre m e (rowX m e l z) z
      exact ⟨k ++ k2, by rw [rowX_succ, hk2, hk, List.append_assoc]⟩
theorem acc_pre {m : Mly} {f i : Nat} {l : List S2} (hx : exF m (f + 1) i l = m.exR) (hi : i < l.length) {y : Nat} (hy : y ≤ m.inp.toNat) : ∃ k, m.exR = rowX m (l.getD i eX0) l y ++ k := by
  rw [← hx, exF_step m f i l hi]
  obtain ⟨k1, h1⟩ := exF_pre m f (i + 1) (rowX m (l.getD i eX0) l m.inp.toNat)
  obtain ⟨k2, h2⟩ := rowX_mono m (l.getD i eX0) l hy
  exact ⟨k2 ++ k1, by rw [h1, h2, List.append_assoc]⟩
theorem acc_iff {m : Mly} (hm : MOK m) {f i : Nat} {l : List S2} (hx : exF m (f + 1) i l = m.exR) (hi : i < l.length) {x : Nat} (hxl : x < m.inp.toNat) :
    (m.row (l.getD i eX0).1).getD x 0 ∉ fstX (rowX m (l.getD i eX0) l x) ↔ ((rowX m (l.getD i eX0) l x).length < m.reach.length ∧ (m.row (l.getD i eX0).1).getD x 0 = m.reach.getD (rowX m (l.getD i eX0) l x).length 0) := by
  have hnd : (fstX m.exR).Nodup := (wfx_exR hm).rs.nd
  rw [← fst_exR hm]
  constructor
  · intro hn
    obtain ⟨k, hk⟩ := acc_pre hx hi (y := x + 1) (by omega)
    rw [rowX_succ, stX, if_neg hn] at hk
    rw [hk]
    refine ⟨by rw [fstX_len]; simp only [List.length_append, List.length_cons]; omega, ?_⟩
    simp [fstX, List.getD]
  · rintro ⟨h1, h2⟩ hn
    obtain ⟨k, hk⟩ := acc_pre hx hi (y := x) (by omega)
    rw [hk] at hnd h1 h2
    have e : fstX (rowX m (l.getD i eX0) l x ++ k) = fstX (rowX m (l.getD i eX0) l x) ++ fstX k := by simp [fstX]
    rw [e] at hnd h1 h2
    have hk1 : 0 < (fstX k).length := by rw [List.length_append, fstX_len] at h1; omega
    have h3 : (fstX (rowX m (l.getD i eX0) l x) ++ fstX k).getD (rowX m (l.getD i eX0) l x).length 0 = (fstX k).getD 0 0 := by
      rw [← fstX_len, List.getD, List.getD, List.getElem?_append_right (Nat.le_refl _), Nat.sub_self]; rfl
    rw [h3] at h2
    have h4 : (fstX k).getD 0 0 ∈ fstX k := getD_mem hk1
    exact (List.nodup_append.1 hnd).2.2 _ hn _ (h2 ▸ h4) rfl
/-- The word behind two inputs that do not agree. -/
def parW (m : Mly) (s : Int) (c d : Nat) : List Int := if m.out s c = m.out s d then (seS m m (m.nxt s c) (m.nxt s d)).getD [] else []
theorem eqc_seS {m : Mly} (hm : MOK m) {s t : Int} (hs : 0 ≤ s ∧ s < m.nx.length) (ht : 0 ≤ t ∧ t < m.nx.length) : (seS m m s t).isSome = !decide (m.eqc.getD s.toNat 0 = m.eqc.getD t.toNat 0) := by
  have h1 := seS_iff hm hm rfl hs ht
  have h2 := eqc_iff hm hs.1 hs.2 ht.1 ht.2
  have h3 : seS m m s t = none ↔ m.eqc.getD s.toNat 0 = m.eqc.getD t.toNat 0 := h1.trans h2.symm
  cases hc : seS m m s t with
  | none => rw [decide_eq_true (h3.1 hc)]; rfl
  | some w =>
    have : ¬ m.eqc.getD s.toNat 0 = m.eqc.getD t.toNat 0 := fun hh => by rw [h3.2 hh] at hc; cases hc
    rw [decide_eq_false this]; rfl
end Go.AV
namespace Go.Proofs.Ytceafldjjedhcaa
open Go Go.AV
open Nat (reduceEqDiff reduceAdd reduceLeDiff reduceLT reduceMul reduceSub)
open List (set_cons_zero set_cons_succ)
set_option maxRecDepth 100000 in
theorem has_c (xs : List Int) (x : Int) : PURE Try.prog 59 [.one (.list (.int .i64) xs), .one (.int .i64 x)] (.one (.bool (decide (x ∈ xs)))) := by
  refine pure_of_le Try.func59 rfl (by kernel_rfl) (Nat.le_of_ble_eq_true rfl) rfl fun C hP hN hB => ?_
  replace hN : C.N = 18 := hN
  simp only [argEnv, reduceAdd]
  refine awp_fit 0 rfl fun hf0 => ?_; simp only [lkp, if_true, if_false, reduceCtorEq, reduceEqDiff, eq_self, Nat.one_ne_zero, Nat.zero_ne_one, fitV, fitC, fitL, Fit, and_true, implies_true, true_and] at hf0
  refine awp_seq_k fun K1 hK1 => ?_
  refine awp_reg hP hN rfl ?_
  (refine rg_step rfl fun K0 hK0 => ?_; simp only [zE, op1, ev, lkp, avOf, acOf, ev, reduceCtorEq, reduceEqDiff, reduceAdd, reduceLeDiff, reduceLT, reduceMul, reduceSub, Try.td4]; (repeat refine And.intro (by first | omega | assumption | exact rfl) ?_); (first | refine hK0 _ ?_ | refine Or.inl (hK0 _ ?_)); clear hK0 K0; simp only [put, app, setAll, trOf, zE, set_cons_zero, set_cons_succ, reduceAdd])
  refine rg_nil ?_
  refine hK1 _ ?_; clear hK1; refine awp_keep [0, 1, 4] ?_; simp only [keepEnv, lkp, zE, reduceCtorEq, reduceEqDiff, argEnv, reduceAdd]
  refine awp_seq_k fun K2 hK2 => ?_
  refine awp_seq_k fun K3 hK3 => ?_
  refine awp_reg hP hN rfl ?_
  (refine rg_step rfl fun K0 hK0 => ?_; simp only [zE, op1, ev, lkp, avOf, acOf, ev, reduceCtorEq, reduceEqDiff, reduceAdd, reduceLeDiff, reduceLT, reduceMul, reduceSub, Try.td3]; (repeat refine And.intro (by first | omega | assumption | exact rfl) ?_); (first | refine hK0 _ ?_ | refine Or.inl (hK0 _ ?_)); clear hK0 K0; simp only [put, app, setAll, trOf, zE, set_cons_zero, set_cons_succ, reduceAdd])
  refine rg_nil ?_
  refine hK3 _ ?_; clear hK3; refine awp_keep [0, 1, 4, 5] ?_; simp only [keepEnv, lkp, zE, reduceCtorEq, reduceEqDiff, argEnv, reduceAdd]
  refine awp_block ?_
  refine awp_loop (fun n4 s4 => ∃ (k : Nat), (k ≤ xs.length) ∧ (∀ q, q < k → xs.getD q 0 ≠ x) ∧ n4 = xs.length - k ∧ s4 = { env := [(0, .one (.list (.int .i64) xs)), (1, .one (.int .i64 x)), (5, .one (.int .i64 (k : Int)))], L := [] }) ?_ ?_
  · exact ⟨_, _, sub_keep [0, 1, 5], 0, Nat.zero_le _, fun q hq => by omega, rfl, rfl⟩
  · rintro n4 s4 ⟨k, hk, hq, rfl, rfl⟩
    refine awp_seq_k fun K5 hK5 => ?_
    refine awp_seq_k fun K6 hK6 => ?_
    refine awp_reg hP hN rfl ?_
    iterate 4 (refine rg_step rfl fun K0 hK0 => ?_; simp only [zE, op1, ev, lkp, avOf, acOf, opCallAny, opMM, opLen, lenAC, lenOk, fpAC, Nat.div_one, opAppend, srcOf, Ty.size, datOf, dite_true, opBin, arith, inK_i64, eqACs, eqAC, reduceCtorEq, reduceEqDiff, reduceAdd, reduceLeDiff, reduceLT, reduceMul, reduceSub, Try.el25, Try.td25, Try.td3, Try.td4]; (repeat refine And.intro (by first | omega | assumption | exact rfl) ?_); (first | refine hK0 _ ?_ | refine Or.inl (hK0 _ ?_)); clear hK0 K0; simp only [put, app, setAll, trOf, zE, set_cons_zero, set_cons_succ, reduceAdd])
    refine rg_nil ?_
    refine hK6 _ ?_; clear hK6; refine awp_keep [0, 1, 5, 9] ?_; simp only [keepEnv, lkp, zE, reduceCtorEq, reduceEqDiff, argEnv, reduceAdd]
    refine awp_cond (by simp only [ev, keepEnv, lkp, zE, reduceCtorEq, reduceEqDiff, argEnv, reduceAdd]; exact rfl) (fun hc7 => ?_) (fun hc7 => ?_)
    · (try simp only [decide_eq_true_eq, decide_eq_false_iff_not, Bool.not_true, Bool.not_false, Bool.not_eq_true, Bool.not_eq_false, Bool.not_eq_eq_eq_not, Int.not_lt, Int.not_le, reduceCtorEq, Bool.true_eq_false, Bool.false_eq_true, ne_eq, Decidable.not_not, Bool.not_eq_true', bne_iff_ne, Bool.or_eq_true, Bool.and_eq_true, Bool.or_eq_false_iff, Bool.and_eq_false_iff] at hc7)
      refine awp_skip ?_
      refine hK5 _ ?_; clear hK5; refine awp_keep [0, 1, 5, 9] ?_; simp only [keepEnv, lkp, zE, reduceCtorEq, reduceEqDiff, argEnv, reduceAdd]
      refine awp_seq_k fun K8 hK8 => ?_
      refine awp_block ?_
      refine awp_seq_k fun K9 hK9 => ?_
      refine awp_reg hP hN rfl ?_
      iterate 6 (refine rg_step rfl fun K0 hK0 => ?_; simp only [zE, op1, ev, lkp, avOf, acOf, opIndexAddr, zG, Ty.dflt, Ty.size, Nat.mul_one, ne_eq, not_false_eq_true, Int.natCast_one, Int.mul_one, opLoad, readAC, isAggK, acs, cellsAt, opBin, arith, inK_i64, eqACs, eqAC, reduceCtorEq, reduceEqDiff, reduceAdd, reduceLeDiff, reduceLT, reduceMul, reduceSub, Try.el25, Try.td25, Try.td3, Try.td4]; (repeat refine And.intro (by first | omega | assumption | exact rfl) ?_); (first | refine hK0 _ ?_ | refine Or.inl (hK0 _ ?_)); clear hK0 K0; simp only [put, app, setAll, trOf, zE, set_cons_zero, set_cons_succ, reduceAdd])
      refine rg_nil ?_
      refine hK9 _ ?_; clear hK9; refine awp_keep [0, 1, 5, 9, 17] ?_; simp only [keepEnv, lkp, zE, reduceCtorEq, reduceEqDiff, argEnv, reduceAdd]
      refine awp_cond (by simp only [ev, keepEnv, lkp, zE, reduceCtorEq, reduceEqDiff, argEnv, reduceAdd]; exact rfl) (fun hc10 => ?_) (fun hc10 => ?_)
      · (try simp only [decide_eq_true_eq, decide_eq_false_iff_not, Bool.not_true, Bool.not_false, Bool.not_eq_true, Bool.not_eq_false, Bool.not_eq_eq_eq_not, Int.not_lt, Int.not_le, reduceCtorEq, Bool.true_eq_false, Bool.false_eq_true, ne_eq, Decidable.not_not, Bool.not_eq_true', bne_iff_ne, Bool.or_eq_true, Bool.and_eq_true, Bool.or_eq_false_iff, Bool.and_eq_false_iff] at hc10)
        refine awp_seq_k fun K11 hK11 => ?_
        refine awp_reg hP hN rfl ?_
        (refine rg_step rfl fun K0 hK0 => ?_; simp only [zE, op1, ev, lkp, avOf, acOf, ev, reduceCtorEq, reduceEqDiff, reduceAdd, reduceLeDiff, reduceLT, reduceMul, reduceSub, Try.td4]; (repeat refine And.intro (by first | omega | assumption | exact rfl) ?_); (first | refine hK0 _ ?_ | refine Or.inl (hK0 _ ?_)); clear hK0 K0; simp only [put, app, setAll, trOf, zE, set_cons_zero, set_cons_succ, reduceAdd])
        refine rg_nil ?_
        refine hK11 _ ?_; clear hK11; refine awp_keep [0, 1, 4, 5, 9, 17] ?_; simp only [keepEnv, lkp, zE, reduceCtorEq, reduceEqDiff, argEnv, reduceAdd]
        refine awp_ret ?_
        refine ⟨by first | exact .inl rfl | exact .inr rfl, _, rfl, ?_⟩; simp only [fzV, fz1, fzC, List.map_cons, List.map_nil, keepEnv, lkp, zE, reduceCtorEq, reduceEqDiff, argEnv, reduceAdd]
        refine VLE.of_eq ?_
        refine congrArg (fun b => AV.one (AC.bool b)) ?_
        first
        | (rw [decide_eq_true (mem_of_getD (k := k) (by omega) (by omega))]; done)
        | (rw [decide_eq_false (not_mem_of hq (by omega))]; done)
      · (try simp only [decide_eq_true_eq, decide_eq_false_iff_not, Bool.not_true, Bool.not_false, Bool.not_eq_true, Bool.not_eq_false, Bool.not_eq_eq_eq_not, Int.not_lt, Int.not_le, reduceCtorEq, Bool.true_eq_false, Bool.false_eq_true, ne_eq, Decidable.not_not, Bool.not_eq_true', bne_iff_ne, Bool.or_eq_true, Bool.and_eq_true, Bool.or_eq_false_iff, Bool.and_eq_false_iff] at hc10)
        refine awp_skip ?_
        refine hK8 _ ?_; clear hK8; refine awp_keep [0, 1, 5, 9, 17] ?_; simp only [keepEnv, lkp, zE, reduceCtorEq, reduceEqDiff, argEnv, reduceAdd]
        refine awp_reg hP hN rfl ?_
        iterate 3 (refine rg_step rfl fun K0 hK0 => ?_; simp only [zE, op1, ev, lkp, avOf, acOf, opBin, arith, inK_i64, eqACs, eqAC, reduceCtorEq, reduceEqDiff, reduceAdd, reduceLeDiff, reduceLT, reduceMul, reduceSub, Try.td3]; (repeat refine And.intro (by first | omega | assumption | exact rfl) ?_); (first | refine hK0 _ ?_ | refine Or.inl (hK0 _ ?_)); clear hK0 K0; simp only [put, app, setAll, trOf, zE, set_cons_zero, set_cons_succ, reduceAdd])
        refine rg_nil ?_
        refine ⟨_, _, ?_, sub_keep [0, 1, 5], k + 1, by omega, fun q hq2 => ?_, rfl, rfl⟩
        · omega
        · by_cases e : q = k
          · rw [e]; intro hh; simp_all
          · exact hq q (by omega)
    · (try simp only [decide_eq_true_eq, decide_eq_false_iff_not, Bool.not_true, Bool.not_false, Bool.not_eq_true, Bool.not_eq_false, Bool.not_eq_eq_eq_not, Int.not_lt, Int.not_le, reduceCtorEq, Bool.true_eq_false, Bool.false_eq_true, ne_eq, Decidable.not_not, Bool.not_eq_true', bne_iff_ne, Bool.or_eq_true, Bool.and_eq_true, Bool.or_eq_false_iff, Bool.and_eq_false_iff] at hc7)
      refine awp_exit ?_
      refine hK2 _ ?_; clear hK2; refine awp_keep [0, 1, 5, 9] ?_; simp only [keepEnv, lkp, zE, reduceCtorEq, reduceEqDiff, argEnv, reduceAdd]
      refine awp_seq_k fun K12 hK12 => ?_
      refine awp_reg hP hN rfl ?_
      (refine rg_step rfl fun K0 hK0 => ?_; simp only [zE, op1, ev, lkp, avOf, acOf, ev, reduceCtorEq, reduceEqDiff, reduceAdd, reduceLeDiff, reduceLT, reduceMul, reduceSub, Try.td4]; (repeat refine And.intro (by first | omega | assumption | exact rfl) ?_); (first | refine hK0 _ ?_ | refine Or.inl (hK0 _ ?_)); clear hK0 K0; simp only [put, app, setAll, trOf, zE, set_cons_zero, set_cons_succ, reduceAdd])
      refine rg_nil ?_
      refine hK12 _ ?_; clear hK12; refine awp_keep [0, 1, 4, 5, 9] ?_; simp only [keepEnv, lkp, zE, reduceCtorEq, reduceEqDiff, argEnv, reduceAdd]
      refine awp_ret ?_
      refine ⟨by first | exact .inl rfl | exact .inr rfl, _, rfl, ?_⟩; simp only [fzV, fz1, fzC, List.map_cons, List.map_nil, keepEnv, lkp, zE, reduceCtorEq, reduceEqDiff, argEnv, reduceAdd]
      refine VLE.of_eq ?_
      refine congrArg (fun b => AV.one (AC.bool b)) ?_
      first
      | (rw [decide_eq_true (mem_of_getD (k := k) (by omega) (by omega))]; done)
      | (rw [decide_eq_false (not_mem_of hq (by omega))]; done)
end Go.Proofs.Ytceafldjjedhcaa
namespace Go.Proofs.Ytceafldjjedhcaa
open Go Go.AV
open Nat (reduceEqDiff reduceAdd reduceLeDiff reduceLT reduceMul reduceSub)
open List (set_cons_zero set_cons_succ)
set_option maxRecDepth 100000 in
theorem rrow_c (m : Mly) (s : Nat) (hi : m.inp ≤ 64) (hs : s < m.nx.length) (ho : m.ot.length = m.nx.length) : PURE Try.prog 45 [m.av, .one (.int .i64 (s : Int))] (.one (.int .i64 (rowE m s))) := by
  refine pure_of_le Try.func45 rfl (by kernel_rfl) (Nat.le_of_ble_eq_true rfl) rfl fun C hP hN hB => ?_
  replace hN : C.N = 77 := hN
  simp only [argEnv, reduceAdd]
  refine awp_seq_k fun K1 hK1 => ?_
  refine awp_reg hP hN rfl ?_
  iterate 2 (refine rg_step rfl fun K0 hK0 => ?_; simp only [zE, op1, ev, lkp, avOf, acOf, opBox, cellsAV, reduceCtorEq, reduceEqDiff, reduceAdd, reduceLeDiff, reduceLT, reduceMul, reduceSub, Try.st24, Try.td24, Try.td3, Mly.av]; (repeat refine And.intro (by first | omega | assumption | exact rfl) ?_); (first | refine hK0 _ ?_ | refine Or.inl (hK0 _ ?_)); clear hK0 K0; simp only [put, app, setAll, trOf, zE, set_cons_zero, set_cons_succ, reduceAdd])
  refine rg_nil ?_
  refine hK1 _ ?_; clear hK1; refine awp_keep [0, 1, 2, 4] ?_; simp only [keepEnv, lkp, zE, reduceCtorEq, reduceEqDiff, argEnv, reduceAdd]
  refine awp_seq_k fun K2 hK2 => ?_
  refine awp_seq_k fun K3 hK3 => ?_
  refine awp_drw hP hN Try.mixed rfl ?_
  iterate 9 (refine rg_step rfl fun K0 hK0 => ?_; simp only [zE, op1, ev, lkp, avOf, acOf, opFieldAddr, opLoad, Nat.mul_one, readAC, isAggK, acs, Ty.dflt, zG, cellsAt, opIndexAddr, Ty.size, ne_eq, not_false_eq_true, Int.natCast_one, Int.mul_one, opCallAny, opMM, opLen, lenAC, lenOk, fpAC, Nat.div_one, opAppend, srcOf, datOf, dite_true, opBin, arith, inK_i64, eqACs, eqAC, reduceCtorEq, reduceEqDiff, reduceAdd, reduceLeDiff, reduceLT, reduceMul, reduceSub, Try.el22, Try.el25, Try.st24, Try.td2, Try.td22, Try.td24, Try.td25, Try.td3, Try.td4, Mly.av]; (repeat refine And.intro (by first | omega | assumption | exact rfl) ?_); (first | refine hK0 _ ?_ | refine Or.inl (hK0 _ ?_)); clear hK0 K0; simp only [put, app, setAll, trOf, zE, set_cons_zero, set_cons_succ, reduceAdd])
  (refine rg_step rfl fun K0 hK0 => ?_; simp only [zE, op1, ev, lkp, avOf, acOf, ev, reduceCtorEq, reduceEqDiff, reduceAdd, reduceLeDiff, reduceLT, reduceMul, reduceSub, Try.td4, Mly.av]; (repeat refine And.intro (by first | omega | assumption | exact rfl) ?_); (first | refine hK0 _ ?_ | refine Or.inl (hK0 _ ?_)); clear hK0 K0; simp only [put, app, setAll, trOf, zE, set_cons_zero, set_cons_succ, reduceAdd])
  refine' rg_join_n (want := false) 9 rfl (m := 15) (by simp only [keepEnv, lkp, zE, reduceCtorEq, reduceEqDiff, argEnv, reduceAdd]; exact rfl) (by kernel_rfl) rfl rfl rfl rfl rfl (fun hg4 => ?a4) ?b4 ?c4
  case a4 =>
    have hq4 := hg4; (try simp only [decide_eq_true_eq, decide_eq_false_iff_not, Bool.not_true, Bool.not_false, Bool.not_eq_true, Bool.not_eq_false, Bool.not_eq_eq_eq_not, Int.not_lt, Int.not_le, reduceCtorEq, Bool.true_eq_false, Bool.false_eq_true, ne_eq, Decidable.not_not, Bool.not_eq_true', bne_iff_ne, Bool.or_eq_true, Bool.and_eq_true, Bool.or_eq_false_iff, Bool.and_eq_false_iff] at hg4); simp only [List.take_succ_cons, List.take_zero, List.cons_append, List.nil_append]
    (refine rg_do rfl fun K0 hK0 => ?_; simp only [zE, op1, ev, lkp, avOf, acOf, opFieldAddr, reduceCtorEq, reduceEqDiff, reduceAdd, reduceLeDiff, reduceLT, reduceMul, reduceSub, Try.st24, Try.td24, Try.td3, Mly.av]; (repeat refine And.intro (by first | omega | assumption | exact rfl) ?_); (first | refine hK0 _ ?_ | refine Or.inl (hK0 _ ?_)); clear hK0 K0; simp only [put, app, setAll, trOf, zE, set_cons_zero, set_cons_succ, reduceAdd])
    (refine rg_do rfl fun K0 hK0 => ?_; simp only [zE, op1, ev, lkp, avOf, acOf, opLoad, Nat.mul_one, readAC, isAggK, acs, Ty.dflt, zG, cellsAt, reduceCtorEq, reduceEqDiff, reduceAdd, reduceLeDiff, reduceLT, reduceMul, reduceSub, Try.el22, Try.td22, Mly.av]; (repeat refine And.intro (by first | omega | assumption | exact rfl) ?_); (first | refine hK0 _ ?_ | refine Or.inl (hK0 _ ?_)); clear hK0 K0; simp only [put, app, setAll, trOf, zE, set_cons_zero, set_cons_succ, reduceAdd])
    (refine rg_do rfl fun K0 hK0 => ?_; simp only [zE, op1, ev, lkp, avOf, acOf, ev, reduceCtorEq, reduceEqDiff, reduceAdd, reduceLeDiff, reduceLT, reduceMul, reduceSub, Try.td3, Mly.av]; (repeat refine And.intro (by first | omega | assumption | exact rfl) ?_); (first | refine hK0 _ ?_ | refine Or.inl (hK0 _ ?_)); clear hK0 K0; simp only [put, app, setAll, trOf, zE, set_cons_zero, set_cons_succ, reduceAdd])
    (refine rg_do rfl fun K0 hK0 => ?_; simp only [zE, op1, ev, lkp, avOf, acOf, opIndexAddr, zG, Ty.dflt, Ty.size, Nat.mul_one, ne_eq, not_false_eq_true, Int.natCast_one, Int.mul_one, reduceCtorEq, reduceEqDiff, reduceAdd, reduceLeDiff, reduceLT, reduceMul, reduceSub, Try.el22, Try.td22, Mly.av]; (repeat refine And.intro (by first | omega | assumption | exact rfl) ?_); (first | refine hK0 _ ?_ | refine Or.inl (hK0 _ ?_)); clear hK0 K0; simp only [put, app, setAll, trOf, zE, set_cons_zero, set_cons_succ, reduceAdd])
    (refine rg_do rfl fun K0 hK0 => ?_; simp only [zE, op1, ev, lkp, avOf, acOf, opLoad, Nat.mul_one, readAC, isAggK, acs, Ty.dflt, zG, cellsAt, reduceCtorEq, reduceEqDiff, reduceAdd, reduceLeDiff, reduceLT, reduceMul, reduceSub, Try.el25, Try.td25, Mly.av]; (repeat refine And.intro (by first | omega | assumption | exact rfl) ?_); (first | refine hK0 _ ?_ | refine Or.inl (hK0 _ ?_)); clear hK0 K0; simp only [put, app, setAll, trOf, zE, set_cons_zero, set_cons_succ, reduceAdd])
    (refine rg_do rfl fun K0 hK0 => ?_; simp only [zE, op1, ev, lkp, avOf, acOf, opCallAny, opMM, opLen, lenAC, lenOk, fpAC, Nat.div_one, opAppend, srcOf, Ty.size, datOf, dite_true, reduceCtorEq, reduceEqDiff, reduceAdd, reduceLeDiff, reduceLT, reduceMul, reduceSub, Try.el25, Try.td25, Try.td3, Mly.av]; (repeat refine And.intro (by first | omega | assumption | exact rfl) ?_); (first | refine hK0 _ ?_ | refine Or.inl (hK0 _ ?_)); clear hK0 K0; simp only [put, app, setAll, trOf, zE, set_cons_zero, set_cons_succ, reduceAdd])
    (refine rg_do rfl fun K0 hK0 => ?_; simp only [zE, op1, ev, lkp, avOf, acOf, opFieldAddr, reduceCtorEq, reduceEqDiff, reduceAdd, reduceLeDiff, reduceLT, reduceMul, reduceSub, Try.st24, Try.td24, Mly.av]; (repeat refine And.intro (by first | omega | assumption | exact rfl) ?_); (first | refine hK0 _ ?_ | refine Or.inl (hK0 _ ?_)); clear hK0 K0; simp only [put, app, setAll, trOf, zE, set_cons_zero, set_cons_succ, reduceAdd])
    (refine rg_do rfl fun K0 hK0 => ?_; simp only [zE, op1, ev, lkp, avOf, acOf, opLoad, Nat.mul_one, readAC, isAggK, acs, Ty.dflt, zG, cellsAt, reduceCtorEq, reduceEqDiff, reduceAdd, reduceLeDiff, reduceLT, reduceMul, reduceSub, Try.td3, Mly.av]; (repeat refine And.intro (by first | omega | assumption | exact rfl) ?_); (first | refine hK0 _ ?_ | refine Or.inl (hK0 _ ?_)); clear hK0 K0; simp only [put, app, setAll, trOf, zE, set_cons_zero, set_cons_succ, reduceAdd])
    (refine rg_do rfl fun K0 hK0 => ?_; simp only [zE, op1, ev, lkp, avOf, acOf, opBin, arith, inK_i64, eqACs, eqAC, reduceCtorEq, reduceEqDiff, reduceAdd, reduceLeDiff, reduceLT, reduceMul, reduceSub, Try.td3, Try.td4, Mly.av]; (repeat refine And.intro (by first | omega | assumption | exact rfl) ?_); (first | refine hK0 _ ?_ | refine Or.inl (hK0 _ ?_)); clear hK0 K0; simp only [put, app, setAll, trOf, zE, set_cons_zero, set_cons_succ, reduceAdd])
    (refine rg_step rfl fun K0 hK0 => ?_; simp only [zE, op1, ev, lkp, avOf, acOf, opPick, reduceCtorEq, reduceEqDiff, reduceAdd, reduceLeDiff, reduceLT, reduceMul, reduceSub, Try.td4, Mly.av]; (repeat refine And.intro (by first | omega | assumption | exact rfl) ?_); (first | refine hK0 _ ?_ | refine Or.inl (hK0 _ ?_)); clear hK0 K0; simp only [put, app, setAll, trOf, zE, set_cons_zero, set_cons_succ, reduceAdd])
    refine rg_nil ?_
    refine ⟨by simp only [keepEnv, lkp, zE, reduceCtorEq, reduceEqDiff, argEnv, reduceAdd]; exact rfl, rfl, ?_, rfl⟩; (repeat refine keep_cons rfl ?_); exact keep_m (by exact rfl) hq4
  case b4 => exact tle_of (by first | rfl | (simp [tleB]; done) | decide)
  simp only [join_or, join_and]
  refine rg_nil ?_
  refine ⟨by kernel_rfl, ?_⟩
  refine hK3 _ ?_; clear hK3; refine awp_keep [0, 1, 2, 4, 25] ?_; simp only [keepEnv, lkp, zE, reduceCtorEq, reduceEqDiff, argEnv, reduceAdd]
  refine awp_cond (by simp only [ev, keepEnv, lkp, zE, reduceCtorEq, reduceEqDiff, argEnv, reduceAdd]; exact rfl) (fun hc5 => ?_) (fun hc5 => ?_)
  · (try simp only [decide_eq_true_eq, decide_eq_false_iff_not, Bool.not_true, Bool.not_false, Bool.not_eq_true, Bool.not_eq_false, Bool.not_eq_eq_eq_not, Int.not_lt, Int.not_le, reduceCtorEq, Bool.true_eq_false, Bool.false_eq_true, ne_eq, Decidable.not_not, Bool.not_eq_true', bne_iff_ne, Bool.or_eq_true, Bool.and_eq_true, Bool.or_eq_false_iff, Bool.and_eq_false_iff] at hc5)
    refine awp_seq_k fun K6 hK6 => ?_
    refine awp_reg hP hN rfl ?_
    (refine rg_step rfl fun K0 hK0 => ?_; simp only [zE, op1, ev, lkp, avOf, acOf, ev, reduceCtorEq, reduceEqDiff, reduceAdd, reduceLeDiff, reduceLT, reduceMul, reduceSub, Try.td3, Mly.av]; (repeat refine And.intro (by first | omega | assumption | exact rfl) ?_); (first | refine hK0 _ ?_ | refine Or.inl (hK0 _ ?_)); clear hK0 K0; simp only [put, app, setAll, trOf, zE, set_cons_zero, set_cons_succ, reduceAdd])
    refine rg_nil ?_
    refine hK6 _ ?_; clear hK6; refine awp_keep [0, 1, 2, 4, 25] ?_; simp only [keepEnv, lkp, zE, reduceCtorEq, reduceEqDiff, argEnv, reduceAdd]
    refine awp_ret ?_
    refine ⟨by first | exact .inl rfl | exact .inr rfl, _, rfl, ?_⟩; simp only [fzV, fz1, fzC, List.map_cons, List.map_nil, keepEnv, lkp, zE, reduceCtorEq, reduceEqDiff, argEnv, reduceAdd, Mly.av]
    refine VLE.of_eq ?_
    refine congrArg (fun n => AV.one (AC.int IntKind.i64 n)) ?_
    symm
    first
    | exact rowE_bad1 hc5
    | exact rowE_bad2 hc5.1 hc5.2 (j := j) (by omega) (by unfold cellBad; omega)
    | exact rowE_ok hc5.1 hc5.2 fun a ha => hcells a (by omega)
  · (try simp only [decide_eq_true_eq, decide_eq_false_iff_not, Bool.not_true, Bool.not_false, Bool.not_eq_true, Bool.not_eq_false, Bool.not_eq_eq_eq_not, Int.not_lt, Int.not_le, reduceCtorEq, Bool.true_eq_false, Bool.false_eq_true, ne_eq, Decidable.not_not, Bool.not_eq_true', bne_iff_ne, Bool.or_eq_true, Bool.and_eq_true, Bool.or_eq_false_iff, Bool.and_eq_false_iff] at hc5)
    refine awp_skip ?_
    refine hK2 _ ?_; clear hK2; refine awp_keep [0, 1, 2, 4, 25] ?_; simp only [keepEnv, lkp, zE, reduceCtorEq, reduceEqDiff, argEnv, reduceAdd]
    refine awp_seq_k fun K7 hK7 => ?_
    refine awp_seq_k fun K8 hK8 => ?_
    refine awp_reg hP hN rfl ?_
    (refine rg_step rfl fun K0 hK0 => ?_; simp only [zE, op1, ev, lkp, avOf, acOf, ev, reduceCtorEq, reduceEqDiff, reduceAdd, reduceLeDiff, reduceLT, reduceMul, reduceSub, Try.td3, Mly.av]; (repeat refine And.intro (by first | omega | assumption | exact rfl) ?_); (first | refine hK0 _ ?_ | refine Or.inl (hK0 _ ?_)); clear hK0 K0; simp only [put, app, setAll, trOf, zE, set_cons_zero, set_cons_succ, reduceAdd])
    refine rg_nil ?_
    refine hK8 _ ?_; clear hK8; refine awp_keep [0, 1, 2, 4, 5, 25] ?_; simp only [keepEnv, lkp, zE, reduceCtorEq, reduceEqDiff, argEnv, reduceAdd]
    refine awp_block ?_
    refine awp_loop (fun n9 s9 => ∃ (j : Nat), (∀ a, a < j → ¬ cellBad m s a) ∧ (j ≤ m.inp.toNat) ∧ n9 = m.inp.toNat - j ∧ s9 = { env := [(1, .one (.int .i64 (s : Int))), (2, .one (.ptr 0 0 0 0)), (5, .one (.int .i64 (j : Int)))], L := [.vars 24 [.int .i64 m.inp, .int .i64 m.st, .list (.list (.int .i64)) m.nx, .list (.list (.int .i64)) m.ot]] }) ?_ ?_
    · exact ⟨_, _, sub_keep [1, 2, 5], 0, fun i hi => by omega, Nat.zero_le _, rfl, rfl⟩
    · rintro n9 s9 ⟨j, hcells, hj, rfl, rfl⟩
      refine awp_seq_k fun K10 hK10 => ?_
      refine awp_seq_k fun K11 hK11 => ?_
      refine awp_reg hP hN rfl ?_
      iterate 4 (refine rg_step rfl fun K0 hK0 => ?_; simp only [zE, op1, ev, lkp, avOf, acOf, opFieldAddr, opLoad, Nat.mul_one, readAC, isAggK, acs, Ty.dflt, zG, cellsAt, opBin, arith, inK_i64, eqACs, eqAC, reduceCtorEq, reduceEqDiff, reduceAdd, reduceLeDiff, reduceLT, reduceMul, reduceSub, Try.st24, Try.td24, Try.td3, Try.td4, Mly.av]; (repeat refine And.intro (by first | omega | assumption | exact rfl) ?_); (first | refine hK0 _ ?_ | refine Or.inl (hK0 _ ?_)); clear hK0 K0; simp only [put, app, setAll, trOf, zE, set_cons_zero, set_cons_succ, reduceAdd])
      refine rg_nil ?_
      refine hK11 _ ?_; clear hK11; refine awp_keep [1, 2, 5, 29] ?_; simp only [keepEnv, lkp, zE, reduceCtorEq, reduceEqDiff, argEnv, reduceAdd]
      refine awp_cond (by simp only [ev, keepEnv, lkp, zE, reduceCtorEq, reduceEqDiff, argEnv, reduceAdd]; exact rfl) (fun hc12 => ?_) (fun hc12 => ?_)
      · (try simp only [decide_eq_true_eq, decide_eq_false_iff_not, Bool.not_true, Bool.not_false, Bool.not_eq_true, Bool.not_eq_false, Bool.not_eq_eq_eq_not, Int.not_lt, Int.not_le, reduceCtorEq, Bool.true_eq_false, Bool.false_eq_true, ne_eq, Decidable.not_not, Bool.not_eq_true', bne_iff_ne, Bool.or_eq_true, Bool.and_eq_true, Bool.or_eq_false_iff, Bool.and_eq_false_iff] at hc12)
        refine awp_skip ?_
        refine hK10 _ ?_; clear hK10; refine awp_keep [1, 2, 5, 29] ?_; simp only [keepEnv, lkp, zE, reduceCtorEq, reduceEqDiff, argEnv, reduceAdd]
        refine awp_seq_k fun K13 hK13 => ?_
        refine awp_block ?_
        refine awp_seq_k fun K14 hK14 => ?_
        refine awp_drw hP hN Try.mixed rfl ?_
        iterate 9 (refine rg_step rfl fun K0 hK0 => ?_; simp only [zE, op1, ev, lkp, avOf, acOf, opFieldAddr, opLoad, Nat.mul_one, readAC, isAggK, acs, Ty.dflt, zG, cellsAt, opIndexAddr, Ty.size, ne_eq, not_false_eq_true, Int.natCast_one, Int.mul_one, opBin, arith, inK_i64, eqACs, eqAC, reduceCtorEq, reduceEqDiff, reduceAdd, reduceLeDiff, reduceLT, reduceMul, reduceSub, Try.el22, Try.el25, Try.st24, Try.td2, Try.td22, Try.td24, Try.td25, Try.td3, Try.td4, Mly.av]; (repeat refine And.intro (by first | omega | assumption | exact rfl) ?_); (first | refine hK0 _ ?_ | refine Or.inl (hK0 _ ?_)); clear hK0 K0; simp only [put, app, setAll, trOf, zE, set_cons_zero, set_cons_succ, reduceAdd])
        (refine rg_step rfl fun K0 hK0 => ?_; simp only [zE, op1, ev, lkp, avOf, acOf, ev, reduceCtorEq, reduceEqDiff, reduceAdd, reduceLeDiff, reduceLT, reduceMul, reduceSub, Try.td4, Mly.av]; (repeat refine And.intro (by first | omega | assumption | exact rfl) ?_); (first | refine hK0 _ ?_ | refine Or.inl (hK0 _ ?_)); clear hK0 K0; simp only [put, app, setAll, trOf, zE, set_cons_zero, set_cons_succ, reduceAdd])
        refine' rg_join_n (want := false) 12 rfl (m := 41) (by simp only [keepEnv, lkp, zE, reduceCtorEq, reduceEqDiff, argEnv, reduceAdd]; exact rfl) (by kernel_rfl) rfl rfl rfl rfl rfl (fun hg15 => ?a15) ?b15 ?c15
        case a15 =>
          have hq15 := hg15; (try simp only [decide_eq_true_eq, decide_eq_false_iff_not, Bool.not_true, Bool.not_false, Bool.not_eq_true, Bool.not_eq_false, Bool.not_eq_eq_eq_not, Int.not_lt, Int.not_le, reduceCtorEq, Bool.true_eq_false, Bool.false_eq_true, ne_eq, Decidable.not_not, Bool.not_eq_true', bne_iff_ne, Bool.or_eq_true, Bool.and_eq_true, Bool.or_eq_false_iff, Bool.and_eq_false_iff] at hg15); simp only [List.take_succ_cons, List.take_zero, List.cons_append, List.nil_append]
          (refine rg_do rfl fun K0 hK0 => ?_; simp only [zE, op1, ev, lkp, avOf, acOf, opFieldAddr, reduceCtorEq, reduceEqDiff, reduceAdd, reduceLeDiff, reduceLT, reduceMul, reduceSub, Try.st24, Try.td2, Try.td24, Mly.av]; (repeat refine And.intro (by first | omega | assumption | exact rfl) ?_); (first | refine hK0 _ ?_ | refine Or.inl (hK0 _ ?_)); clear hK0 K0; simp only [put, app, setAll, trOf, zE, set_cons_zero, set_cons_succ, reduceAdd])
          (refine rg_do rfl fun K0 hK0 => ?_; simp only [zE, op1, ev, lkp, avOf, acOf, opLoad, Nat.mul_one, readAC, isAggK, acs, Ty.dflt, zG, cellsAt, reduceCtorEq, reduceEqDiff, reduceAdd, reduceLeDiff, reduceLT, reduceMul, reduceSub, Try.el22, Try.td22, Mly.av]; (repeat refine And.intro (by first | omega | assumption | exact rfl) ?_); (first | refine hK0 _ ?_ | refine Or.inl (hK0 _ ?_)); clear hK0 K0; simp only [put, app, setAll, trOf, zE, set_cons_zero, set_cons_succ, reduceAdd])
          (refine rg_do rfl fun K0 hK0 => ?_; simp only [zE, op1, ev, lkp, avOf, acOf, ev, reduceCtorEq, reduceEqDiff, reduceAdd, reduceLeDiff, reduceLT, reduceMul, reduceSub, Try.td3, Mly.av]; (repeat refine And.intro (by first | omega | assumption | exact rfl) ?_); (first | refine hK0 _ ?_ | refine Or.inl (hK0 _ ?_)); clear hK0 K0; simp only [put, app, setAll, trOf, zE, set_cons_zero, set_cons_succ, reduceAdd])
          (refine rg_do rfl fun K0 hK0 => ?_; simp only [zE, op1, ev, lkp, avOf, acOf, opIndexAddr, zG, Ty.dflt, Ty.size, Nat.mul_one, ne_eq, not_false_eq_true, Int.natCast_one, Int.mul_one, reduceCtorEq, reduceEqDiff, reduceAdd, reduceLeDiff, reduceLT, reduceMul, reduceSub, Try.el22, Try.td22, Mly.av]; (repeat refine And.intro (by first | omega | assumption | exact rfl) ?_); (first | refine hK0 _ ?_ | refine Or.inl (hK0 _ ?_)); clear hK0 K0; simp only [put, app, setAll, trOf, zE, set_cons_zero, set_cons_succ, reduceAdd])
          (refine rg_do rfl fun K0 hK0 => ?_; simp only [zE, op1, ev, lkp, avOf, acOf, opLoad, Nat.mul_one, readAC, isAggK, acs, Ty.dflt, zG, cellsAt, reduceCtorEq, reduceEqDiff, reduceAdd, reduceLeDiff, reduceLT, reduceMul, reduceSub, Try.el25, Try.td25, Mly.av]; (repeat refine And.intro (by first | omega | assumption | exact rfl) ?_); (first | refine hK0 _ ?_ | refine Or.inl (hK0 _ ?_)); clear hK0 K0; simp only [put, app, setAll, trOf, zE, set_cons_zero, set_cons_succ, reduceAdd])
          (refine rg_do rfl fun K0 hK0 => ?_; simp only [zE, op1, ev, lkp, avOf, acOf, ev, reduceCtorEq, reduceEqDiff, reduceAdd, reduceLeDiff, reduceLT, reduceMul, reduceSub, Try.td3, Mly.av]; (repeat refine And.intro (by first | omega | assumption | exact rfl) ?_); (first | refine hK0 _ ?_ | refine Or.inl (hK0 _ ?_)); clear hK0 K0; simp only [put, app, setAll, trOf, zE, set_cons_zero, set_cons_succ, reduceAdd])
          (refine rg_do rfl fun K0 hK0 => ?_; simp only [zE, op1, ev, lkp, avOf, acOf, opIndexAddr, zG, Ty.dflt, Ty.size, Nat.mul_one, ne_eq, not_false_eq_true, Int.natCast_one, Int.mul_one, reduceCtorEq, reduceEqDiff, reduceAdd, reduceLeDiff, reduceLT, reduceMul, reduceSub, Try.el25, Try.td25, Mly.av]; (repeat refine And.intro (by first | omega | assumption | exact rfl) ?_); (first | refine hK0 _ ?_ | refine Or.inl (hK0 _ ?_)); clear hK0 K0; simp only [put, app, setAll, trOf, zE, set_cons_zero, set_cons_succ, reduceAdd])
          (refine rg_do rfl fun K0 hK0 => ?_; simp only [zE, op1, ev, lkp, avOf, acOf, opLoad, Nat.mul_one, readAC, isAggK, acs, Ty.dflt, zG, cellsAt, reduceCtorEq, reduceEqDiff, reduceAdd, reduceLeDiff, reduceLT, reduceMul, reduceSub, Try.td3, Mly.av]; (repeat refine And.intro (by first | omega | assumption | exact rfl) ?_); (first | refine hK0 _ ?_ | refine Or.inl (hK0 _ ?_)); clear hK0 K0; simp only [put, app, setAll, trOf, zE, set_cons_zero, set_cons_succ, reduceAdd])
          (refine rg_do rfl fun K0 hK0 => ?_; simp only [zE, op1, ev, lkp, avOf, acOf, opFieldAddr, reduceCtorEq, reduceEqDiff, reduceAdd, reduceLeDiff, reduceLT, reduceMul, reduceSub, Try.st24, Try.td2, Try.td24, Mly.av]; (repeat refine And.intro (by first | omega | assumption | exact rfl) ?_); (first | refine hK0 _ ?_ | refine Or.inl (hK0 _ ?_)); clear hK0 K0; simp only [put, app, setAll, trOf, zE, set_cons_zero, set_cons_succ, reduceAdd])
          (refine rg_do rfl fun K0 hK0 => ?_; simp only [zE, op1, ev, lkp, avOf, acOf, opLoad, Nat.mul_one, readAC, isAggK, acs, Ty.dflt, zG, cellsAt, reduceCtorEq, reduceEqDiff, reduceAdd, reduceLeDiff, reduceLT, reduceMul, reduceSub, Try.el22, Try.td22, Mly.av]; (repeat refine And.intro (by first | omega | assumption | exact rfl) ?_); (first | refine hK0 _ ?_ | refine Or.inl (hK0 _ ?_)); clear hK0 K0; simp only [put, app, setAll, trOf, zE, set_cons_zero, set_cons_succ, reduceAdd])
          (refine rg_do rfl fun K0 hK0 => ?_; simp only [zE, op1, ev, lkp, avOf, acOf, opCallAny, opMM, opLen, lenAC, lenOk, fpAC, Nat.div_one, opAppend, srcOf, Ty.size, datOf, dite_true, reduceCtorEq, reduceEqDiff, reduceAdd, reduceLeDiff, reduceLT, reduceMul, reduceSub, Try.el22, Try.td22, Try.td3, Mly.av]; (repeat refine And.intro (by first | omega | assumption | exact rfl) ?_); (first | refine hK0 _ ?_ | refine Or.inl (hK0 _ ?_)); clear hK0 K0; simp only [put, app, setAll, trOf, zE, set_cons_zero, set_cons_succ, reduceAdd])
          (refine rg_do rfl fun K0 hK0 => ?_; simp only [zE, op1, ev, lkp, avOf, acOf, opBin, arith, inK_i64, eqACs, eqAC, reduceCtorEq, reduceEqDiff, reduceAdd, reduceLeDiff, reduceLT, reduceMul, reduceSub, Try.td3, Try.td4, Mly.av]; (repeat refine And.intro (by first | omega | assumption | exact rfl) ?_); (first | refine hK0 _ ?_ | refine Or.inl (hK0 _ ?_)); clear hK0 K0; simp only [put, app, setAll, trOf, zE, set_cons_zero, set_cons_succ, reduceAdd])
          (refine rg_step rfl fun K0 hK0 => ?_; simp only [zE, op1, ev, lkp, avOf, acOf, opPick, reduceCtorEq, reduceEqDiff, reduceAdd, reduceLeDiff, reduceLT, reduceMul, reduceSub, Try.td4, Mly.av]; (repeat refine And.intro (by first | omega | assumption | exact rfl) ?_); (first | refine hK0 _ ?_ | refine Or.inl (hK0 _ ?_)); clear hK0 K0; simp only [put, app, setAll, trOf, zE, set_cons_zero, set_cons_succ, reduceAdd])
          refine rg_nil ?_
          refine ⟨by simp only [keepEnv, lkp, zE, reduceCtorEq, reduceEqDiff, argEnv, reduceAdd]; exact rfl, rfl, ?_, rfl⟩; (repeat refine keep_cons rfl ?_); exact keep_m (by exact rfl) hq15
        case b15 => exact tle_of (by first | rfl | (simp [tleB]; done) | decide)
        simp only [join_or, join_and]
        (refine rg_step rfl fun K0 hK0 => ?_; simp only [zE, op1, ev, lkp, avOf, acOf, ev, reduceCtorEq, reduceEqDiff, reduceAdd, reduceLeDiff, reduceLT, reduceMul, reduceSub, Try.td4, Mly.av]; (repeat refine And.intro (by first | omega | assumption | exact rfl) ?_); (first | refine hK0 _ ?_ | refine Or.inl (hK0 _ ?_)); clear hK0 K0; simp only [put, app, setAll, trOf, zE, set_cons_zero, set_cons_succ, reduceAdd])
        refine' rg_join_n (want := false) 9 rfl (m := 55) (by simp only [keepEnv, lkp, zE, reduceCtorEq, reduceEqDiff, argEnv, reduceAdd]; exact rfl) (by kernel_rfl) rfl rfl rfl rfl rfl (fun hg16 => ?a16) ?b16 ?c16
        case a16 =>
          have hq16 := hg16; (try simp only [decide_eq_true_eq, decide_eq_false_iff_not, Bool.not_true, Bool.not_false, Bool.not_eq_true, Bool.not_eq_false, Bool.not_eq_eq_eq_not, Int.not_lt, Int.not_le, reduceCtorEq, Bool.true_eq_false, Bool.false_eq_true, ne_eq, Decidable.not_not, Bool.not_eq_true', bne_iff_ne, Bool.or_eq_true, Bool.and_eq_true, Bool.or_eq_false_iff, Bool.and_eq_false_iff] at hg16); simp only [List.take_succ_cons, List.take_zero, List.cons_append, List.nil_append]
          (refine rg_do rfl fun K0 hK0 => ?_; simp only [zE, op1, ev, lkp, avOf, acOf, opFieldAddr, reduceCtorEq, reduceEqDiff, reduceAdd, reduceLeDiff, reduceLT, reduceMul, reduceSub, Try.st24, Try.td24, Try.td3, Mly.av]; (repeat refine And.intro (by first | omega | assumption | exact rfl) ?_); (first | refine hK0 _ ?_ | refine Or.inl (hK0 _ ?_)); clear hK0 K0; simp only [put, app, setAll, trOf, zE, set_cons_zero, set_cons_succ, reduceAdd])
          (refine rg_do rfl fun K0 hK0 => ?_; simp only [zE, op1, ev, lkp, avOf, acOf, opLoad, Nat.mul_one, readAC, isAggK, acs, Ty.dflt, zG, cellsAt, reduceCtorEq, reduceEqDiff, reduceAdd, reduceLeDiff, reduceLT, reduceMul, reduceSub, Try.el22, Try.td22, Mly.av]; (repeat refine And.intro (by first | omega | assumption | exact rfl) ?_); (first | refine hK0 _ ?_ | refine Or.inl (hK0 _ ?_)); clear hK0 K0; simp only [put, app, setAll, trOf, zE, set_cons_zero, set_cons_succ, reduceAdd])
          (refine rg_do rfl fun K0 hK0 => ?_; simp only [zE, op1, ev, lkp, avOf, acOf, ev, reduceCtorEq, reduceEqDiff, reduceAdd, reduceLeDiff, reduceLT, reduceMul, reduceSub, Try.td3, Mly.av]; (repeat refine And.intro (by first | omega | assumption | exact rfl) ?_); (first | refine hK0 _ ?_ | refine Or.inl (hK0 _ ?_)); clear hK0 K0; simp only [put, app, setAll, trOf, zE, set_cons_zero, set_cons_succ, reduceAdd])
          (refine rg_do rfl fun K0 hK0 => ?_; simp only [zE, op1, ev, lkp, avOf, acOf, opIndexAddr, zG, Ty.dflt, Ty.size, Nat.mul_one, ne_eq, not_false_eq_true, Int.natCast_one, Int.mul_one, reduceCtorEq, reduceEqDiff, reduceAdd, reduceLeDiff, reduceLT, reduceMul, reduceSub, Try.el22, Try.td22, Mly.av]; (repeat refine And.intro (by first | omega | assumption | exact rfl) ?_); (first | refine hK0 _ ?_ | refine Or.inl (hK0 _ ?_)); clear hK0 K0; simp only [put, app, setAll, trOf, zE, set_cons_zero, set_cons_succ, reduceAdd])
          (refine rg_do rfl fun K0 hK0 => ?_; simp only [zE, op1, ev, lkp, avOf, acOf, opLoad, Nat.mul_one, readAC, isAggK, acs, Ty.dflt, zG, cellsAt, reduceCtorEq, reduceEqDiff, reduceAdd, reduceLeDiff, reduceLT, reduceMul, reduceSub, Try.el25, Try.td25, Mly.av]; (repeat refine And.intro (by first | omega | assumption | exact rfl) ?_); (first | refine hK0 _ ?_ | refine Or.inl (hK0 _ ?_)); clear hK0 K0; simp only [put, app, setAll, trOf, zE, set_cons_zero, set_cons_succ, reduceAdd])
          (refine rg_do rfl fun K0 hK0 => ?_; simp only [zE, op1, ev, lkp, avOf, acOf, ev, reduceCtorEq, reduceEqDiff, reduceAdd, reduceLeDiff, reduceLT, reduceMul, reduceSub, Try.td3, Mly.av]; (repeat refine And.intro (by first | omega | assumption | exact rfl) ?_); (first | refine hK0 _ ?_ | refine Or.inl (hK0 _ ?_)); clear hK0 K0; simp only [put, app, setAll, trOf, zE, set_cons_zero, set_cons_succ, reduceAdd])
          (refine rg_do rfl fun K0 hK0 => ?_; simp only [zE, op1, ev, lkp, avOf, acOf, opIndexAddr, zG, Ty.dflt, Ty.size, Nat.mul_one, ne_eq, not_false_eq_true, Int.natCast_one, Int.mul_one, reduceCtorEq, reduceEqDiff, reduceAdd, reduceLeDiff, reduceLT, reduceMul, reduceSub, Try.el25, Try.td25, Mly.av]; (repeat refine And.intro (by first | omega | assumption | exact rfl) ?_); (first | refine hK0 _ ?_ | refine Or.inl (hK0 _ ?_)); clear hK0 K0; simp only [put, app, setAll, trOf, zE, set_cons_zero, set_cons_succ, reduceAdd])
          (refine rg_do rfl fun K0 hK0 => ?_; simp only [zE, op1, ev, lkp, avOf, acOf, opLoad, Nat.mul_one, readAC, isAggK, acs, Ty.dflt, zG, cellsAt, reduceCtorEq, reduceEqDiff, reduceAdd, reduceLeDiff, reduceLT, reduceMul, reduceSub, Try.td3, Mly.av]; (repeat refine And.intro (by first | omega | assumption | exact rfl) ?_); (first | refine hK0 _ ?_ | refine Or.inl (hK0 _ ?_)); clear hK0 K0; simp only [put, app, setAll, trOf, zE, set_cons_zero, set_cons_succ, reduceAdd])
          (refine rg_do rfl fun K0 hK0 => ?_; simp only [zE, op1, ev, lkp, avOf, acOf, opBin, arith, inK_i64, eqACs, eqAC, reduceCtorEq, reduceEqDiff, reduceAdd, reduceLeDiff, reduceLT, reduceMul, reduceSub, Try.td3, Try.td4, Mly.av]; (repeat refine And.intro (by first | omega | assumption | exact rfl) ?_); (first | refine hK0 _ ?_ | refine Or.inl (hK0 _ ?_)); clear hK0 K0; simp only [put, app, setAll, trOf, zE, set_cons_zero, set_cons_succ, reduceAdd])
          (refine rg_step rfl fun K0 hK0 => ?_; simp only [zE, op1, ev, lkp, avOf, acOf, opPick, reduceCtorEq, reduceEqDiff, reduceAdd, reduceLeDiff, reduceLT, reduceMul, reduceSub, Try.td4, Mly.av]; (repeat refine And.intro (by first | omega | assumption | exact rfl) ?_); (first | refine hK0 _ ?_ | refine Or.inl (hK0 _ ?_)); clear hK0 K0; simp only [put, app, setAll, trOf, zE, set_cons_zero, set_cons_succ, reduceAdd])
          refine rg_nil ?_
          refine ⟨by simp only [keepEnv, lkp, zE, reduceCtorEq, reduceEqDiff, argEnv, reduceAdd]; exact rfl, rfl, ?_, rfl⟩; (repeat refine keep_cons rfl ?_); exact keep_m (by exact rfl) hq16
        case b16 => exact tle_of (by first | rfl | (simp [tleB]; done) | decide)
        simp only [join_or, join_and]
        (refine rg_step rfl fun K0 hK0 => ?_; simp only [zE, op1, ev, lkp, avOf, acOf, ev, reduceCtorEq, reduceEqDiff, reduceAdd, reduceLeDiff, reduceLT, reduceMul, reduceSub, Try.td4, Mly.av]; (repeat refine And.intro (by first | omega | assumption | exact rfl) ?_); (first | refine hK0 _ ?_ | refine Or.inl (hK0 _ ?_)); clear hK0 K0; simp only [put, app, setAll, trOf, zE, set_cons_zero, set_cons_succ, reduceAdd])
        refine' rg_join_n (want := false) 9 rfl (m := 66) (by simp only [keepEnv, lkp, zE, reduceCtorEq, reduceEqDiff, argEnv, reduceAdd]; exact rfl) (by kernel_rfl) rfl rfl rfl rfl rfl (fun hg17 => ?a17) ?b17 ?c17
        case a17 =>
          have hq17 := hg17; (try simp only [decide_eq_true_eq, decide_eq_false_iff_not, Bool.not_true, Bool.not_false, Bool.not_eq_true, Bool.not_eq_false, Bool.not_eq_eq_eq_not, Int.not_lt, Int.not_le, reduceCtorEq, Bool.true_eq_false, Bool.false_eq_true, ne_eq, Decidable.not_not, Bool.not_eq_true', bne_iff_ne, Bool.or_eq_true, Bool.and_eq_true, Bool.or_eq_false_iff, Bool.and_eq_false_iff] at hg17); simp only [List.take_succ_cons, List.take_zero, List.cons_append, List.nil_append]
          (refine rg_do rfl fun K0 hK0 => ?_; simp only [zE, op1, ev, lkp, avOf, acOf, opFieldAddr, reduceCtorEq, reduceEqDiff, reduceAdd, reduceLeDiff, reduceLT, reduceMul, reduceSub, Try.st24, Try.td24, Try.td3, Mly.av]; (repeat refine And.intro (by first | omega | assumption | exact rfl) ?_); (first | refine hK0 _ ?_ | refine Or.inl (hK0 _ ?_)); clear hK0 K0; simp only [put, app, setAll, trOf, zE, set_cons_zero, set_cons_succ, reduceAdd])
          (refine rg_do rfl fun K0 hK0 => ?_; simp only [zE, op1, ev, lkp, avOf, acOf, opLoad, Nat.mul_one, readAC, isAggK, acs, Ty.dflt, zG, cellsAt, reduceCtorEq, reduceEqDiff, reduceAdd, reduceLeDiff, reduceLT, reduceMul, reduceSub, Try.el22, Try.td22, Mly.av]; (repeat refine And.intro (by first | omega | assumption | exact rfl) ?_); (first | refine hK0 _ ?_ | refine Or.inl (hK0 _ ?_)); clear hK0 K0; simp only [put, app, setAll, trOf, zE, set_cons_zero, set_cons_succ, reduceAdd])
          (refine rg_do rfl fun K0 hK0 => ?_; simp only [zE, op1, ev, lkp, avOf, acOf, ev, reduceCtorEq, reduceEqDiff, reduceAdd, reduceLeDiff, reduceLT, reduceMul, reduceSub, Try.td3, Mly.av]; (repeat refine And.intro (by first | omega | assumption | exact rfl) ?_); (first | refine hK0 _ ?_ | refine Or.inl (hK0 _ ?_)); clear hK0 K0; simp only [put, app, setAll, trOf, zE, set_cons_zero, set_cons_succ, reduceAdd])
          (refine rg_do rfl fun K0 hK0 => ?_; simp only [zE, op1, ev, lkp, avOf, acOf, opIndexAddr, zG, Ty.dflt, Ty.size, Nat.mul_one, ne_eq, not_false_eq_true, Int.natCast_one, Int.mul_one, reduceCtorEq, reduceEqDiff, reduceAdd, reduceLeDiff, reduceLT, reduceMul, reduceSub, Try.el22, Try.td22, Mly.av]; (repeat refine And.intro (by first | omega | assumption | exact rfl) ?_); (first | refine hK0 _ ?_ | refine Or.inl (hK0 _ ?_)); clear hK0 K0; simp only [put, app, setAll, trOf, zE, set_cons_zero, set_cons_succ, reduceAdd])
          (refine rg_do rfl fun K0 hK0 => ?_; simp only [zE, op1, ev, lkp, avOf, acOf, opLoad, Nat.mul_one, readAC, isAggK, acs, Ty.dflt, zG, cellsAt, reduceCtorEq, reduceEqDiff, reduceAdd, reduceLeDiff, reduceLT, reduceMul, reduceSub, Try.el25, Try.td25, Mly.av]; (repeat refine And.intro (by first | omega | assumption | exact rfl) ?_); (first | refine hK0 _ ?_ | refine Or.inl (hK0 _ ?_)); clear hK0 K0; simp only [put, app, setAll, trOf, zE, set_cons_zero, set_cons_succ, reduceAdd])
          (refine rg_do rfl fun K0 hK0 => ?_; simp only [zE, op1, ev, lkp, avOf, acOf, ev, reduceCtorEq, reduceEqDiff, reduceAdd, reduceLeDiff, reduceLT, reduceMul, reduceSub, Try.td3, Mly.av]; (repeat refine And.intro (by first | omega | assumption | exact rfl) ?_); (first | refine hK0 _ ?_ | refine Or.inl (hK0 _ ?_)); clear hK0 K0; simp only [put, app, setAll, trOf, zE, set_cons_zero, set_cons_succ, reduceAdd])
          (refine rg_do rfl fun K0 hK0 => ?_; simp only [zE, op1, ev, lkp, avOf, acOf, opIndexAddr, zG, Ty.dflt, Ty.size, Nat.mul_one, ne_eq, not_false_eq_true, Int.natCast_one, Int.mul_one, reduceCtorEq, reduceEqDiff, reduceAdd, reduceLeDiff, reduceLT, reduceMul, reduceSub, Try.el25, Try.td25, Mly.av]; (repeat refine And.intro (by first | omega | assumption | exact rfl) ?_); (first | refine hK0 _ ?_ | refine Or.inl (hK0 _ ?_)); clear hK0 K0; simp only [put, app, setAll, trOf, zE, set_cons_zero, set_cons_succ, reduceAdd])
          (refine rg_do rfl fun K0 hK0 => ?_; simp only [zE, op1, ev, lkp, avOf, acOf, opLoad, Nat.mul_one, readAC, isAggK, acs, Ty.dflt, zG, cellsAt, reduceCtorEq, reduceEqDiff, reduceAdd, reduceLeDiff, reduceLT, reduceMul, reduceSub, Try.td3, Mly.av]; (repeat refine And.intro (by first | omega | assumption | exact rfl) ?_); (first | refine hK0 _ ?_ | refine Or.inl (hK0 _ ?_)); clear hK0 K0; simp only [put, app, setAll, trOf, zE, set_cons_zero, set_cons_succ, reduceAdd])
          (refine rg_do rfl fun K0 hK0 => ?_; simp only [zE, op1, ev, lkp, avOf, acOf, opBin, arith, inK_i64, eqACs, eqAC, reduceCtorEq, reduceEqDiff, reduceAdd, reduceLeDiff, reduceLT, reduceMul, reduceSub, Try.td3, Try.td4, Mly.av]; (repeat refine And.intro (by first | omega | assumption | exact rfl) ?_); (first | refine hK0 _ ?_ | refine Or.inl (hK0 _ ?_)); clear hK0 K0; simp only [put, app, setAll, trOf, zE, set_cons_zero, set_cons_succ, reduceAdd])
          (refine rg_step rfl fun K0 hK0 => ?_; simp only [zE, op1, ev, lkp, avOf, acOf, opPick, reduceCtorEq, reduceEqDiff, reduceAdd, reduceLeDiff, reduceLT, reduceMul, reduceSub, Try.td4, Mly.av]; (repeat refine And.intro (by first | omega | assumption | exact rfl) ?_); (first | refine hK0 _ ?_ | refine Or.inl (hK0 _ ?_)); clear hK0 K0; simp only [put, app, setAll, trOf, zE, set_cons_zero, set_cons_succ, reduceAdd])
          refine rg_nil ?_
          refine ⟨by simp only [keepEnv, lkp, zE, reduceCtorEq, reduceEqDiff, argEnv, reduceAdd]; exact rfl, rfl, ?_, rfl⟩; (repeat refine keep_cons rfl ?_); exact keep_m (by exact rfl) hq17
        case b17 => exact tle_of (by first | rfl | (simp [tleB]; done) | decide)
        simp only [join_or, join_and]
        refine rg_nil ?_
        refine ⟨by kernel_rfl, ?_⟩
        refine hK14 _ ?_; clear hK14; refine awp_keep [1, 2, 5, 29, 76] ?_; simp only [keepEnv, lkp, zE, reduceCtorEq, reduceEqDiff, argEnv, reduceAdd]
        refine awp_cond (by simp only [ev, keepEnv, lkp, zE, reduceCtorEq, reduceEqDiff, argEnv, reduceAdd]; exact rfl) (fun hc18 => ?_) (fun hc18 => ?_)
        · (try simp only [decide_eq_true_eq, decide_eq_false_iff_not, Bool.not_true, Bool.not_false, Bool.not_eq_true, Bool.not_eq_false, Bool.not_eq_eq_eq_not, Int.not_lt, Int.not_le, reduceCtorEq, Bool.true_eq_false, Bool.false_eq_true, ne_eq, Decidable.not_not, Bool.not_eq_true', bne_iff_ne, Bool.or_eq_true, Bool.and_eq_true, Bool.or_eq_false_iff, Bool.and_eq_false_iff] at hc18)
          refine awp_seq_k fun K19 hK19 => ?_
          refine awp_reg hP hN rfl ?_
          (refine rg_step rfl fun K0 hK0 => ?_; simp only [zE, op1, ev, lkp, avOf, acOf, ev, reduceCtorEq, reduceEqDiff, reduceAdd, reduceLeDiff, reduceLT, reduceMul, reduceSub, Try.td3, Mly.av]; (repeat refine And.intro (by first | omega | assumption | exact rfl) ?_); (first | refine hK0 _ ?_ | refine Or.inl (hK0 _ ?_)); clear hK0 K0; simp only [put, app, setAll, trOf, zE, set_cons_zero, set_cons_succ, reduceAdd])
          refine rg_nil ?_
          refine hK19 _ ?_; clear hK19; refine awp_keep [1, 2, 4, 5, 29, 76] ?_; simp only [keepEnv, lkp, zE, reduceCtorEq, reduceEqDiff, argEnv, reduceAdd]
          refine awp_ret ?_
          refine ⟨by first | exact .inl rfl | exact .inr rfl, _, rfl, ?_⟩; simp only [fzV, fz1, fzC, List.map_cons, List.map_nil, keepEnv, lkp, zE, reduceCtorEq, reduceEqDiff, argEnv, reduceAdd, Mly.av]
          refine VLE.of_eq ?_
          refine congrArg (fun n => AV.one (AC.int IntKind.i64 n)) ?_
          symm
          first
          | exact rowE_bad1 hc5
          | exact rowE_bad2 hc5.1 hc5.2 (j := j) (by omega) (by unfold cellBad; omega)
          | exact rowE_ok hc5.1 hc5.2 fun a ha => hcells a (by omega)
        · (try simp only [decide_eq_true_eq, decide_eq_false_iff_not, Bool.not_true, Bool.not_false, Bool.not_eq_true, Bool.not_eq_false, Bool.not_eq_eq_eq_not, Int.not_lt, Int.not_le, reduceCtorEq, Bool.true_eq_false, Bool.false_eq_true, ne_eq, Decidable.not_not, Bool.not_eq_true', bne_iff_ne, Bool.or_eq_true, Bool.and_eq_true, Bool.or_eq_false_iff, Bool.and_eq_false_iff] at hc18)
          refine awp_skip ?_
          refine hK13 _ ?_; clear hK13; refine awp_keep [1, 2, 5, 29, 76] ?_; simp only [keepEnv, lkp, zE, reduceCtorEq, reduceEqDiff, argEnv, reduceAdd]
          refine awp_reg hP hN rfl ?_
          iterate 3 (refine rg_step rfl fun K0 hK0 => ?_; simp only [zE, op1, ev, lkp, avOf, acOf, opBin, arith, inK_i64, eqACs, eqAC, reduceCtorEq, reduceEqDiff, reduceAdd, reduceLeDiff, reduceLT, reduceMul, reduceSub, Try.td3, Mly.av]; (repeat refine And.intro (by first | omega | assumption | exact rfl) ?_); (first | refine hK0 _ ?_ | refine Or.inl (hK0 _ ?_)); clear hK0 K0; simp only [put, app, setAll, trOf, zE, set_cons_zero, set_cons_succ, reduceAdd])
          refine rg_nil ?_
          refine ⟨_, _, ?_, sub_keep [1, 2, 5], j + 1, fun a ha => ?_, ?_, rfl, rfl⟩
          · omega
          · by_cases e : a = j
            · rw [e]; unfold cellBad; omega
            · exact hcells a (by omega)
          · omega
      · (try simp only [decide_eq_true_eq, decide_eq_false_iff_not, Bool.not_true, Bool.not_false, Bool.not_eq_true, Bool.not_eq_false, Bool.not_eq_eq_eq_not, Int.not_lt, Int.not_le, reduceCtorEq, Bool.true_eq_false, Bool.false_eq_true, ne_eq, Decidable.not_not, Bool.not_eq_true', bne_iff_ne, Bool.or_eq_true, Bool.and_eq_true, Bool.or_eq_false_iff, Bool.and_eq_false_iff] at hc12)
        refine awp_exit ?_
        refine hK7 _ ?_; clear hK7; refine awp_keep [1, 2, 5, 29] ?_; simp only [keepEnv, lkp, zE, reduceCtorEq, reduceEqDiff, argEnv, reduceAdd]
        refine awp_seq_k fun K20 hK20 => ?_
        refine awp_reg hP hN rfl ?_
        (refine rg_step rfl fun K0 hK0 => ?_; simp only [zE, op1, ev, lkp, avOf, acOf, ev, reduceCtorEq, reduceEqDiff, reduceAdd, reduceLeDiff, reduceLT, reduceMul, reduceSub, Try.td3, Mly.av]; (repeat refine And.intro (by first | omega | assumption | exact rfl) ?_); (first | refine hK0 _ ?_ | refine Or.inl (hK0 _ ?_)); clear hK0 K0; simp only [put, app, setAll, trOf, zE, set_cons_zero, set_cons_succ, reduceAdd])
        refine rg_nil ?_
        refine hK20 _ ?_; clear hK20; refine awp_keep [1, 2, 4, 5, 29] ?_; simp only [keepEnv, lkp, zE, reduceCtorEq, reduceEqDiff, argEnv, reduceAdd]
        refine awp_ret ?_
        refine ⟨by first | exact .inl rfl | exact .inr rfl, _, rfl, ?_⟩; simp only [fzV, fz1, fzC, List.map_cons, List.map_nil, keepEnv, lkp, zE, reduceCtorEq, reduceEqDiff, argEnv, reduceAdd, Mly.av]
        refine VLE.of_eq ?_
        refine congrArg (fun n => AV.one (AC.int IntKind.i64 n)) ?_
        symm
        first
        | exact rowE_bad1 hc5
        | exact rowE_bad2 hc5.1 hc5.2 (j := j) (by omega) (by unfold cellBad; omega)
        | exact rowE_ok hc5.1 hc5.2 fun a ha => hcells a (by omega)
end Go.Proofs.Ytceafldjjedhcaa
