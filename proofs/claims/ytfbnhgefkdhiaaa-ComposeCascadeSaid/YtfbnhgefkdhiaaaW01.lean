/- Contracts of functions of this seat, each out of a walk through its code, and plain facts on what they compute. Conditions: those that each theorem names. -/
import Derived.Test.YtfbnhgefkdhiaaaW00
set_option linter.unusedSimpArgs false
set_option linter.unusedVariables false
namespace Go.Proofs.Ytfbnhgefkdhiaaa
open Go Go.AV
open Nat (reduceEqDiff reduceAdd reduceLeDiff reduceLT reduceMul reduceSub)
open List (set_cons_zero set_cons_succ)
set_option maxRecDepth 100000 in
theorem valid_c (m : Mly) : PURE Try.prog 39 [m.av] (.one (.int .i64 (validE m))) := by
  refine pure_of_le Try.func39 rfl (by kernel_rfl) (Nat.le_of_ble_eq_true rfl) rfl fun C hP hN hB => ?_
  replace hN : C.N = 104 := hN
  simp only [argEnv, reduceAdd]
  refine awp_seq_k fun K1 hK1 => ?_
  refine awp_reg hP hN rfl ?_
  iterate 2 (refine rg_step rfl fun K0 hK0 => ?_; simp only [zE, op1, ev, lkp, avOf, acOf, opBox, cellsAV, reduceCtorEq, reduceEqDiff, reduceAdd, reduceLeDiff, reduceLT, reduceMul, reduceSub, Try.st24, Try.td24, Try.td27, Mly.av]; (repeat refine And.intro (by first | omega | assumption | exact rfl) ?_); (first | refine hK0 _ ?_ | refine Or.inl (hK0 _ ?_)); clear hK0 K0; simp only [put, app, setAll, trOf, zE, zS, reduceAdd])
  refine rg_nil ?_
  refine hK1 _ ?_; clear hK1; refine awp_keep [0, 1, 2] ?_; simp only [keepEnv, lkp, zE, reduceCtorEq, reduceEqDiff, argEnv, reduceAdd]
  refine awp_seq_k fun K2 hK2 => ?_
  refine awp_reg hP hN rfl ?_
  iterate 4 (refine rg_step rfl fun K0 hK0 => ?_; simp only [zE, op1, ev, lkp, avOf, acOf, opFieldAddr, opLoad, Nat.mul_one, readAC, isAggK, acs, Ty.dflt, zG, cellsAt, opCallAny, opMM, opLen, lenAC, lenOk, fpAC, Nat.div_one, opAppend, srcOf, Ty.size, datOf, dite_true, reduceCtorEq, reduceEqDiff, reduceAdd, reduceLeDiff, reduceLT, reduceMul, reduceSub, Try.el22, Try.st24, Try.td2, Try.td22, Try.td24, Try.td3, Mly.av]; (repeat refine And.intro (by first | omega | assumption | exact rfl) ?_); (first | refine hK0 _ ?_ | refine Or.inl (hK0 _ ?_)); clear hK0 K0; simp only [put, app, setAll, trOf, zE, zS, reduceAdd])
  refine rg_nil ?_
  refine hK2 _ ?_; clear hK2; refine awp_keep [0, 1, 2, 3] ?_; simp only [keepEnv, lkp, zE, reduceCtorEq, reduceEqDiff, argEnv, reduceAdd]
  refine awp_seq_k fun K3 hK3 => ?_
  refine awp_block ?_
  refine awp_seq_k fun K4 hK4 => ?_
  refine awp_reg hP hN rfl ?_
  iterate 3 (refine rg_step rfl fun K0 hK0 => ?_; simp only [zE, op1, ev, lkp, avOf, acOf, opFieldAddr, opLoad, Nat.mul_one, readAC, isAggK, acs, Ty.dflt, zG, cellsAt, opBin, arith, inK_i64, eqACs, eqAC, reduceCtorEq, reduceEqDiff, reduceAdd, reduceLeDiff, reduceLT, reduceMul, reduceSub, Try.st24, Try.td24, Try.td3, Try.td4, Mly.av]; (repeat refine And.intro (by first | omega | assumption | exact rfl) ?_); (first | refine hK0 _ ?_ | refine Or.inl (hK0 _ ?_)); clear hK0 K0; simp only [put, app, setAll, trOf, zE, zS, reduceAdd])
  (refine rg_step rfl fun K0 hK0 => ?_; simp only [zE, op1, ev, lkp, avOf, acOf, ev, reduceCtorEq, reduceEqDiff, reduceAdd, reduceLeDiff, reduceLT, reduceMul, reduceSub, Try.td4, Mly.av]; (repeat refine And.intro (by first | omega | assumption | exact rfl) ?_); (first | refine hK0 _ ?_ | refine Or.inl (hK0 _ ?_)); clear hK0 K0; simp only [put, app, setAll, trOf, zE, zS, reduceAdd])
  refine' rg_join_n (want := false) 3 rfl (m := 15) (by simp only [keepEnv, lkp, zE, reduceCtorEq, reduceEqDiff, argEnv, reduceAdd]; exact rfl) (by kernel_rfl) rfl rfl rfl rfl rfl (fun hg5 => ?a5) ?b5 ?c5
  case a5 =>
    have hq5 := hg5; (try simp only [zB, reduceCtorEq] at hg5); simp only [List.take_succ_cons, List.take_zero, List.cons_append, List.nil_append]
    (refine rg_do rfl fun K0 hK0 => ?_; simp only [zE, op1, ev, lkp, avOf, acOf, opFieldAddr, reduceCtorEq, reduceEqDiff, reduceAdd, reduceLeDiff, reduceLT, reduceMul, reduceSub, Try.st24, Try.td24, Mly.av]; (repeat refine And.intro (by first | omega | assumption | exact rfl) ?_); (first | refine hK0 _ ?_ | refine Or.inl (hK0 _ ?_)); clear hK0 K0; simp only [put, app, setAll, trOf, zE, zS, reduceAdd])
    (refine rg_do rfl fun K0 hK0 => ?_; simp only [zE, op1, ev, lkp, avOf, acOf, opLoad, Nat.mul_one, readAC, isAggK, acs, Ty.dflt, zG, cellsAt, reduceCtorEq, reduceEqDiff, reduceAdd, reduceLeDiff, reduceLT, reduceMul, reduceSub, Try.td3, Mly.av]; (repeat refine And.intro (by first | omega | assumption | exact rfl) ?_); (first | refine hK0 _ ?_ | refine Or.inl (hK0 _ ?_)); clear hK0 K0; simp only [put, app, setAll, trOf, zE, zS, reduceAdd])
    (refine rg_do rfl fun K0 hK0 => ?_; simp only [zE, op1, ev, lkp, avOf, acOf, opBin, arith, inK_i64, eqACs, eqAC, reduceCtorEq, reduceEqDiff, reduceAdd, reduceLeDiff, reduceLT, reduceMul, reduceSub, Try.td3, Try.td4, Mly.av]; (repeat refine And.intro (by first | omega | assumption | exact rfl) ?_); (first | refine hK0 _ ?_ | refine Or.inl (hK0 _ ?_)); clear hK0 K0; simp only [put, app, setAll, trOf, zE, zS, reduceAdd])
    (refine rg_step rfl fun K0 hK0 => ?_; simp only [zE, op1, ev, lkp, avOf, acOf, opPick, reduceCtorEq, reduceEqDiff, reduceAdd, reduceLeDiff, reduceLT, reduceMul, reduceSub, Try.td4, Mly.av]; (repeat refine And.intro (by first | omega | assumption | exact rfl) ?_); (first | refine hK0 _ ?_ | refine Or.inl (hK0 _ ?_)); clear hK0 K0; simp only [put, app, setAll, trOf, zE, zS, reduceAdd])
    refine rg_nil ?_
    refine ⟨by simp only [keepEnv, lkp, zE, reduceCtorEq, reduceEqDiff, argEnv, reduceAdd]; exact rfl, rfl, ?_, rfl⟩; (repeat refine keep_cons rfl ?_); exact keep_m (by exact rfl) hq5
  case b5 => exact tle_of (by first | rfl | (simp [tleB]; done) | decide)
  simp only [join_or, join_and]
  (refine rg_step rfl fun K0 hK0 => ?_; simp only [zE, op1, ev, lkp, avOf, acOf, ev, reduceCtorEq, reduceEqDiff, reduceAdd, reduceLeDiff, reduceLT, reduceMul, reduceSub, Try.td4, Mly.av]; (repeat refine And.intro (by first | omega | assumption | exact rfl) ?_); (first | refine hK0 _ ?_ | refine Or.inl (hK0 _ ?_)); clear hK0 K0; simp only [put, app, setAll, trOf, zE, zS, reduceAdd])
  refine rg_nil ?_
  refine hK4 _ ?_; clear hK4; refine awp_keep [0, 1, 2, 3, 11] ?_; simp only [keepEnv, lkp, zE, reduceCtorEq, reduceEqDiff, argEnv, reduceAdd]
  refine awp_cond (by simp only [ev, keepEnv, lkp, zE, reduceCtorEq, reduceEqDiff, argEnv, reduceAdd]; exact rfl) (fun hc6 => ?_) (fun hc6 => ?_)
  · (try simp only [zB, reduceCtorEq] at hc6)
    refine awp_seq_k fun K7 hK7 => ?_
    refine awp_reg hP hN rfl ?_
    (refine rg_step rfl fun K0 hK0 => ?_; simp only [zE, op1, ev, lkp, avOf, acOf, ev, reduceCtorEq, reduceEqDiff, reduceAdd, reduceLeDiff, reduceLT, reduceMul, reduceSub, Try.td27, Mly.av]; (repeat refine And.intro (by first | omega | assumption | exact rfl) ?_); (first | refine hK0 _ ?_ | refine Or.inl (hK0 _ ?_)); clear hK0 K0; simp only [put, app, setAll, trOf, zE, zS, reduceAdd])
    refine rg_nil ?_
    refine hK7 _ ?_; clear hK7; refine awp_keep [0, 1, 2, 3, 11] ?_; simp only [keepEnv, lkp, zE, reduceCtorEq, reduceEqDiff, argEnv, reduceAdd]
    refine awp_ret ?_
    refine ⟨by first | exact .inl rfl | exact .inr rfl, _, rfl, ?_⟩; simp only [fzV, fz1, fzC, List.map_cons, List.map_nil, keepEnv, lkp, zE, reduceCtorEq, reduceEqDiff, argEnv, reduceAdd, Mly.av]
    refine VLE.of_eq ?_
    refine congrArg (fun n => AV.one (AC.int IntKind.i64 n)) ?_
    symm
    unfold validE
    first
    | (rw [if_pos (by omega)]; done)
    | (rw [if_neg (by omega), if_pos (by omega)]; done)
    | (rw [if_neg (by omega), if_neg (by omega), if_pos (by omega)]; done)
    | (rw [if_neg (by omega), if_neg (by omega), if_neg (by omega), if_pos (by omega)]; done)
    | (rw [if_neg (by omega), if_neg (by omega), if_neg (by omega), if_neg (by omega), if_pos (by omega)]; done)
    | (rw [if_neg (by omega), if_neg (by omega), if_neg (by omega), if_neg (by omega), if_neg (by omega)]
       first
       | exact (firstE_at hrows (by omega) (by rw [rowE_bad2 hc32.1 hc32.2 (j := j) (by omega) (by unfold cellBad; omega)]; decide)).trans (rowE_bad2 hc32.1 hc32.2 (by omega) (by unfold cellBad; omega))
       | exact (firstE_at hrows (by omega) (by rw [rowE_bad1 hc32]; decide)).trans (rowE_bad1 hc32)
       | exact firstE_zero fun i hi => hrows i (by omega))
  · (try simp only [zB, reduceCtorEq] at hc6)
    refine awp_seq_k fun K8 hK8 => ?_
    refine awp_reg hP hN rfl ?_
    iterate 3 (refine rg_step rfl fun K0 hK0 => ?_; simp only [zE, op1, ev, lkp, avOf, acOf, opBin, arith, inK_i64, eqACs, eqAC, reduceCtorEq, reduceEqDiff, reduceAdd, reduceLeDiff, reduceLT, reduceMul, reduceSub, Try.td3, Try.td4, Mly.av]; (repeat refine And.intro (by first | omega | assumption | exact rfl) ?_); (first | refine hK0 _ ?_ | refine Or.inl (hK0 _ ?_)); clear hK0 K0; simp only [put, app, setAll, trOf, zE, zS, reduceAdd])
    refine rg_nil ?_
    refine hK8 _ ?_; clear hK8; refine awp_keep [0, 1, 2, 3, 11, 20] ?_; simp only [keepEnv, lkp, zE, reduceCtorEq, reduceEqDiff, argEnv, reduceAdd]
    refine awp_cond (by simp only [ev, keepEnv, lkp, zE, reduceCtorEq, reduceEqDiff, argEnv, reduceAdd]; exact rfl) (fun hc9 => ?_) (fun hc9 => ?_)
    · (try simp only [zB, reduceCtorEq] at hc9)
      refine awp_seq_k fun K10 hK10 => ?_
      refine awp_reg hP hN rfl ?_
      (refine rg_step rfl fun K0 hK0 => ?_; simp only [zE, op1, ev, lkp, avOf, acOf, ev, reduceCtorEq, reduceEqDiff, reduceAdd, reduceLeDiff, reduceLT, reduceMul, reduceSub, Try.td27, Mly.av]; (repeat refine And.intro (by first | omega | assumption | exact rfl) ?_); (first | refine hK0 _ ?_ | refine Or.inl (hK0 _ ?_)); clear hK0 K0; simp only [put, app, setAll, trOf, zE, zS, reduceAdd])
      refine rg_nil ?_
      refine hK10 _ ?_; clear hK10; refine awp_keep [0, 1, 2, 3, 11, 20] ?_; simp only [keepEnv, lkp, zE, reduceCtorEq, reduceEqDiff, argEnv, reduceAdd]
      refine awp_ret ?_
      refine ⟨by first | exact .inl rfl | exact .inr rfl, _, rfl, ?_⟩; simp only [fzV, fz1, fzC, List.map_cons, List.map_nil, keepEnv, lkp, zE, reduceCtorEq, reduceEqDiff, argEnv, reduceAdd, Mly.av]
      refine VLE.of_eq ?_
      refine congrArg (fun n => AV.one (AC.int IntKind.i64 n)) ?_
      symm
      unfold validE
      first
      | (rw [if_pos (by omega)]; done)
      | (rw [if_neg (by omega), if_pos (by omega)]; done)
      | (rw [if_neg (by omega), if_neg (by omega), if_pos (by omega)]; done)
      | (rw [if_neg (by omega), if_neg (by omega), if_neg (by omega), if_pos (by omega)]; done)
      | (rw [if_neg (by omega), if_neg (by omega), if_neg (by omega), if_neg (by omega), if_pos (by omega)]; done)
      | (rw [if_neg (by omega), if_neg (by omega), if_neg (by omega), if_neg (by omega), if_neg (by omega)]
         first
         | exact (firstE_at hrows (by omega) (by rw [rowE_bad2 hc32.1 hc32.2 (j := j) (by omega) (by unfold cellBad; omega)]; decide)).trans (rowE_bad2 hc32.1 hc32.2 (by omega) (by unfold cellBad; omega))
         | exact (firstE_at hrows (by omega) (by rw [rowE_bad1 hc32]; decide)).trans (rowE_bad1 hc32)
         | exact firstE_zero fun i hi => hrows i (by omega))
    · (try simp only [zB, reduceCtorEq] at hc9)
      refine awp_seq_k fun K11 hK11 => ?_
      refine awp_reg hP hN rfl ?_
      iterate 3 (refine rg_step rfl fun K0 hK0 => ?_; simp only [zE, op1, ev, lkp, avOf, acOf, opBin, arith, inK_i64, eqACs, eqAC, reduceCtorEq, reduceEqDiff, reduceAdd, reduceLeDiff, reduceLT, reduceMul, reduceSub, Try.td3, Try.td4, Mly.av]; (repeat refine And.intro (by first | omega | assumption | exact rfl) ?_); (first | refine hK0 _ ?_ | refine Or.inl (hK0 _ ?_)); clear hK0 K0; simp only [put, app, setAll, trOf, zE, zS, reduceAdd])
      refine rg_nil ?_
      refine hK11 _ ?_; clear hK11; refine awp_keep [0, 1, 2, 3, 11, 20, 23] ?_; simp only [keepEnv, lkp, zE, reduceCtorEq, reduceEqDiff, argEnv, reduceAdd]
      refine awp_cond (by simp only [ev, keepEnv, lkp, zE, reduceCtorEq, reduceEqDiff, argEnv, reduceAdd]; exact rfl) (fun hc12 => ?_) (fun hc12 => ?_)
      · (try simp only [zB, reduceCtorEq] at hc12)
        refine awp_seq_k fun K13 hK13 => ?_
        refine awp_reg hP hN rfl ?_
        (refine rg_step rfl fun K0 hK0 => ?_; simp only [zE, op1, ev, lkp, avOf, acOf, ev, reduceCtorEq, reduceEqDiff, reduceAdd, reduceLeDiff, reduceLT, reduceMul, reduceSub, Try.td27, Mly.av]; (repeat refine And.intro (by first | omega | assumption | exact rfl) ?_); (first | refine hK0 _ ?_ | refine Or.inl (hK0 _ ?_)); clear hK0 K0; simp only [put, app, setAll, trOf, zE, zS, reduceAdd])
        refine rg_nil ?_
        refine hK13 _ ?_; clear hK13; refine awp_keep [0, 1, 2, 3, 11, 20, 23] ?_; simp only [keepEnv, lkp, zE, reduceCtorEq, reduceEqDiff, argEnv, reduceAdd]
        refine awp_ret ?_
        refine ⟨by first | exact .inl rfl | exact .inr rfl, _, rfl, ?_⟩; simp only [fzV, fz1, fzC, List.map_cons, List.map_nil, keepEnv, lkp, zE, reduceCtorEq, reduceEqDiff, argEnv, reduceAdd, Mly.av]
        refine VLE.of_eq ?_
        refine congrArg (fun n => AV.one (AC.int IntKind.i64 n)) ?_
        symm
        unfold validE
        first
        | (rw [if_pos (by omega)]; done)
        | (rw [if_neg (by omega), if_pos (by omega)]; done)
        | (rw [if_neg (by omega), if_neg (by omega), if_pos (by omega)]; done)
        | (rw [if_neg (by omega), if_neg (by omega), if_neg (by omega), if_pos (by omega)]; done)
        | (rw [if_neg (by omega), if_neg (by omega), if_neg (by omega), if_neg (by omega), if_pos (by omega)]; done)
        | (rw [if_neg (by omega), if_neg (by omega), if_neg (by omega), if_neg (by omega), if_neg (by omega)]
           first
           | exact (firstE_at hrows (by omega) (by rw [rowE_bad2 hc32.1 hc32.2 (j := j) (by omega) (by unfold cellBad; omega)]; decide)).trans (rowE_bad2 hc32.1 hc32.2 (by omega) (by unfold cellBad; omega))
           | exact (firstE_at hrows (by omega) (by rw [rowE_bad1 hc32]; decide)).trans (rowE_bad1 hc32)
           | exact firstE_zero fun i hi => hrows i (by omega))
      · (try simp only [zB, reduceCtorEq] at hc12)
        refine awp_seq_k fun K14 hK14 => ?_
        refine awp_reg hP hN rfl ?_
        iterate 3 (refine rg_step rfl fun K0 hK0 => ?_; simp only [zE, op1, ev, lkp, avOf, acOf, opFieldAddr, opLoad, Nat.mul_one, readAC, isAggK, acs, Ty.dflt, zG, cellsAt, opBin, arith, inK_i64, eqACs, eqAC, reduceCtorEq, reduceEqDiff, reduceAdd, reduceLeDiff, reduceLT, reduceMul, reduceSub, Try.st24, Try.td1, Try.td24, Try.td3, Try.td4, Mly.av]; (repeat refine And.intro (by first | omega | assumption | exact rfl) ?_); (first | refine hK0 _ ?_ | refine Or.inl (hK0 _ ?_)); clear hK0 K0; simp only [put, app, setAll, trOf, zE, zS, reduceAdd])
        (refine rg_step rfl fun K0 hK0 => ?_; simp only [zE, op1, ev, lkp, avOf, acOf, ev, reduceCtorEq, reduceEqDiff, reduceAdd, reduceLeDiff, reduceLT, reduceMul, reduceSub, Try.td4, Mly.av]; (repeat refine And.intro (by first | omega | assumption | exact rfl) ?_); (first | refine hK0 _ ?_ | refine Or.inl (hK0 _ ?_)); clear hK0 K0; simp only [put, app, setAll, trOf, zE, zS, reduceAdd])
        refine' rg_join_n (want := false) 4 rfl (m := 30) (by simp only [keepEnv, lkp, zE, reduceCtorEq, reduceEqDiff, argEnv, reduceAdd]; exact rfl) (by kernel_rfl) rfl rfl rfl rfl rfl (fun hg15 => ?a15) ?b15 ?c15
        case a15 =>
          have hq15 := hg15; (try simp only [zB, reduceCtorEq] at hg15); simp only [List.take_succ_cons, List.take_zero, List.cons_append, List.nil_append]
          (refine rg_do rfl fun K0 hK0 => ?_; simp only [zE, op1, ev, lkp, avOf, acOf, opFieldAddr, reduceCtorEq, reduceEqDiff, reduceAdd, reduceLeDiff, reduceLT, reduceMul, reduceSub, Try.st24, Try.td1, Try.td24, Mly.av]; (repeat refine And.intro (by first | omega | assumption | exact rfl) ?_); (first | refine hK0 _ ?_ | refine Or.inl (hK0 _ ?_)); clear hK0 K0; simp only [put, app, setAll, trOf, zE, zS, reduceAdd])
          (refine rg_do rfl fun K0 hK0 => ?_; simp only [zE, op1, ev, lkp, avOf, acOf, opLoad, Nat.mul_one, readAC, isAggK, acs, Ty.dflt, zG, cellsAt, reduceCtorEq, reduceEqDiff, reduceAdd, reduceLeDiff, reduceLT, reduceMul, reduceSub, Try.td3, Mly.av]; (repeat refine And.intro (by first | omega | assumption | exact rfl) ?_); (first | refine hK0 _ ?_ | refine Or.inl (hK0 _ ?_)); clear hK0 K0; simp only [put, app, setAll, trOf, zE, zS, reduceAdd])
          (refine rg_do rfl fun K0 hK0 => ?_; simp only [zE, op1, ev, lkp, avOf, acOf, ev, reduceCtorEq, reduceEqDiff, reduceAdd, reduceLeDiff, reduceLT, reduceMul, reduceSub, Try.td3, Mly.av]; (repeat refine And.intro (by first | omega | assumption | exact rfl) ?_); (first | refine hK0 _ ?_ | refine Or.inl (hK0 _ ?_)); clear hK0 K0; simp only [put, app, setAll, trOf, zE, zS, reduceAdd])
          (refine rg_do rfl fun K0 hK0 => ?_; simp only [zE, op1, ev, lkp, avOf, acOf, opBin, arith, inK_i64, eqACs, eqAC, reduceCtorEq, reduceEqDiff, reduceAdd, reduceLeDiff, reduceLT, reduceMul, reduceSub, Try.td3, Try.td4, Mly.av]; (repeat refine And.intro (by first | omega | assumption | exact rfl) ?_); (first | refine hK0 _ ?_ | refine Or.inl (hK0 _ ?_)); clear hK0 K0; simp only [put, app, setAll, trOf, zE, zS, reduceAdd])
          (refine rg_step rfl fun K0 hK0 => ?_; simp only [zE, op1, ev, lkp, avOf, acOf, opPick, reduceCtorEq, reduceEqDiff, reduceAdd, reduceLeDiff, reduceLT, reduceMul, reduceSub, Try.td4, Mly.av]; (repeat refine And.intro (by first | omega | assumption | exact rfl) ?_); (first | refine hK0 _ ?_ | refine Or.inl (hK0 _ ?_)); clear hK0 K0; simp only [put, app, setAll, trOf, zE, zS, reduceAdd])
          refine rg_nil ?_
          refine ⟨by simp only [keepEnv, lkp, zE, reduceCtorEq, reduceEqDiff, argEnv, reduceAdd]; exact rfl, rfl, ?_, rfl⟩; (repeat refine keep_cons rfl ?_); exact keep_m (by exact rfl) hq15
        case b15 => exact tle_of (by first | rfl | (simp [tleB]; done) | decide)
        simp only [join_or, join_and]
        (refine rg_step rfl fun K0 hK0 => ?_; simp only [zE, op1, ev, lkp, avOf, acOf, ev, reduceCtorEq, reduceEqDiff, reduceAdd, reduceLeDiff, reduceLT, reduceMul, reduceSub, Try.td4, Mly.av]; (repeat refine And.intro (by first | omega | assumption | exact rfl) ?_); (first | refine hK0 _ ?_ | refine Or.inl (hK0 _ ?_)); clear hK0 K0; simp only [put, app, setAll, trOf, zE, zS, reduceAdd])
        refine rg_nil ?_
        refine hK14 _ ?_; clear hK14; refine awp_keep [0, 1, 2, 3, 11, 20, 23, 26] ?_; simp only [keepEnv, lkp, zE, reduceCtorEq, reduceEqDiff, argEnv, reduceAdd]
        refine awp_cond (by simp only [ev, keepEnv, lkp, zE, reduceCtorEq, reduceEqDiff, argEnv, reduceAdd]; exact rfl) (fun hc16 => ?_) (fun hc16 => ?_)
        · (try simp only [zB, reduceCtorEq] at hc16)
          refine awp_seq_k fun K17 hK17 => ?_
          refine awp_reg hP hN rfl ?_
          (refine rg_step rfl fun K0 hK0 => ?_; simp only [zE, op1, ev, lkp, avOf, acOf, ev, reduceCtorEq, reduceEqDiff, reduceAdd, reduceLeDiff, reduceLT, reduceMul, reduceSub, Try.td27, Mly.av]; (repeat refine And.intro (by first | omega | assumption | exact rfl) ?_); (first | refine hK0 _ ?_ | refine Or.inl (hK0 _ ?_)); clear hK0 K0; simp only [put, app, setAll, trOf, zE, zS, reduceAdd])
          refine rg_nil ?_
          refine hK17 _ ?_; clear hK17; refine awp_keep [0, 1, 2, 3, 11, 20, 23, 26] ?_; simp only [keepEnv, lkp, zE, reduceCtorEq, reduceEqDiff, argEnv, reduceAdd]
          refine awp_ret ?_
          refine ⟨by first | exact .inl rfl | exact .inr rfl, _, rfl, ?_⟩; simp only [fzV, fz1, fzC, List.map_cons, List.map_nil, keepEnv, lkp, zE, reduceCtorEq, reduceEqDiff, argEnv, reduceAdd, Mly.av]
          refine VLE.of_eq ?_
          refine congrArg (fun n => AV.one (AC.int IntKind.i64 n)) ?_
          symm
          unfold validE
          first
          | (rw [if_pos (by omega)]; done)
          | (rw [if_neg (by omega), if_pos (by omega)]; done)
          | (rw [if_neg (by omega), if_neg (by omega), if_pos (by omega)]; done)
          | (rw [if_neg (by omega), if_neg (by omega), if_neg (by omega), if_pos (by omega)]; done)
          | (rw [if_neg (by omega), if_neg (by omega), if_neg (by omega), if_neg (by omega), if_pos (by omega)]; done)
          | (rw [if_neg (by omega), if_neg (by omega), if_neg (by omega), if_neg (by omega), if_neg (by omega)]
             first
             | exact (firstE_at hrows (by omega) (by rw [rowE_bad2 hc32.1 hc32.2 (j := j) (by omega) (by unfold cellBad; omega)]; decide)).trans (rowE_bad2 hc32.1 hc32.2 (by omega) (by unfold cellBad; omega))
             | exact (firstE_at hrows (by omega) (by rw [rowE_bad1 hc32]; decide)).trans (rowE_bad1 hc32)
             | exact firstE_zero fun i hi => hrows i (by omega))
        · (try simp only [zB, reduceCtorEq] at hc16)
          refine awp_seq_k fun K18 hK18 => ?_
          refine awp_reg hP hN rfl ?_
          iterate 6 (refine rg_step rfl fun K0 hK0 => ?_; simp only [zE, op1, ev, lkp, avOf, acOf, opFieldAddr, opLoad, Nat.mul_one, readAC, isAggK, acs, Ty.dflt, zG, cellsAt, opCallAny, opMM, opLen, lenAC, lenOk, fpAC, Nat.div_one, opAppend, srcOf, Ty.size, datOf, dite_true, opBin, arith, inK_i64, eqACs, eqAC, reduceCtorEq, reduceEqDiff, reduceAdd, reduceLeDiff, reduceLT, reduceMul, reduceSub, Try.el22, Try.st24, Try.td22, Try.td24, Try.td3, Try.td4, Mly.av]; (repeat refine And.intro (by first | omega | assumption | exact rfl) ?_); (first | refine hK0 _ ?_ | refine Or.inl (hK0 _ ?_)); clear hK0 K0; simp only [put, app, setAll, trOf, zE, zS, reduceAdd])
          refine rg_nil ?_
          refine hK18 _ ?_; clear hK18; refine awp_keep [0, 1, 2, 3, 11, 20, 23, 26, 36] ?_; simp only [keepEnv, lkp, zE, reduceCtorEq, reduceEqDiff, argEnv, reduceAdd]
          refine awp_cond (by simp only [ev, keepEnv, lkp, zE, reduceCtorEq, reduceEqDiff, argEnv, reduceAdd]; exact rfl) (fun hc19 => ?_) (fun hc19 => ?_)
          · (try simp only [zB, reduceCtorEq] at hc19)
            refine awp_seq_k fun K20 hK20 => ?_
            refine awp_reg hP hN rfl ?_
            (refine rg_step rfl fun K0 hK0 => ?_; simp only [zE, op1, ev, lkp, avOf, acOf, ev, reduceCtorEq, reduceEqDiff, reduceAdd, reduceLeDiff, reduceLT, reduceMul, reduceSub, Try.td27, Mly.av]; (repeat refine And.intro (by first | omega | assumption | exact rfl) ?_); (first | refine hK0 _ ?_ | refine Or.inl (hK0 _ ?_)); clear hK0 K0; simp only [put, app, setAll, trOf, zE, zS, reduceAdd])
            refine rg_nil ?_
            refine hK20 _ ?_; clear hK20; refine awp_keep [0, 1, 2, 3, 11, 20, 23, 26, 36] ?_; simp only [keepEnv, lkp, zE, reduceCtorEq, reduceEqDiff, argEnv, reduceAdd]
            refine awp_ret ?_
            refine ⟨by first | exact .inl rfl | exact .inr rfl, _, rfl, ?_⟩; simp only [fzV, fz1, fzC, List.map_cons, List.map_nil, keepEnv, lkp, zE, reduceCtorEq, reduceEqDiff, argEnv, reduceAdd, Mly.av]
            refine VLE.of_eq ?_
            refine congrArg (fun n => AV.one (AC.int IntKind.i64 n)) ?_
            symm
            unfold validE
            first
            | (rw [if_pos (by omega)]; done)
            | (rw [if_neg (by omega), if_pos (by omega)]; done)
            | (rw [if_neg (by omega), if_neg (by omega), if_pos (by omega)]; done)
            | (rw [if_neg (by omega), if_neg (by omega), if_neg (by omega), if_pos (by omega)]; done)
            | (rw [if_neg (by omega), if_neg (by omega), if_neg (by omega), if_neg (by omega), if_pos (by omega)]; done)
            | (rw [if_neg (by omega), if_neg (by omega), if_neg (by omega), if_neg (by omega), if_neg (by omega)]
               first
               | exact (firstE_at hrows (by omega) (by rw [rowE_bad2 hc32.1 hc32.2 (j := j) (by omega) (by unfold cellBad; omega)]; decide)).trans (rowE_bad2 hc32.1 hc32.2 (by omega) (by unfold cellBad; omega))
               | exact (firstE_at hrows (by omega) (by rw [rowE_bad1 hc32]; decide)).trans (rowE_bad1 hc32)
               | exact firstE_zero fun i hi => hrows i (by omega))
          · (try simp only [zB, reduceCtorEq] at hc19)
            refine awp_skip ?_
            refine hK3 _ ?_; clear hK3; refine awp_keep [0, 1, 2, 3, 11, 20, 23, 26, 36] ?_; simp only [keepEnv, lkp, zE, reduceCtorEq, reduceEqDiff, argEnv, reduceAdd]
            refine awp_seq_k fun K21 hK21 => ?_
            refine awp_seq_k fun K22 hK22 => ?_
            refine awp_reg hP hN rfl ?_
            iterate 2 (refine rg_step rfl fun K0 hK0 => ?_; simp only [zE, op1, ev, lkp, avOf, acOf, ev, reduceCtorEq, reduceEqDiff, reduceAdd, reduceLeDiff, reduceLT, reduceMul, reduceSub, Try.td3, Mly.av]; (repeat refine And.intro (by first | omega | assumption | exact rfl) ?_); (first | refine hK0 _ ?_ | refine Or.inl (hK0 _ ?_)); clear hK0 K0; simp only [put, app, setAll, trOf, zE, zS, reduceAdd])
            refine rg_nil ?_
            refine hK22 _ ?_; clear hK22; refine awp_keep [0, 1, 2, 3, 11, 20, 23, 26, 36, 42, 43] ?_; simp only [keepEnv, lkp, zE, reduceCtorEq, reduceEqDiff, argEnv, reduceAdd]
            refine awp_block ?_
            refine awp_loop (fun n23 s23 => ∃ (k : Nat), (k ≤ m.nx.length) ∧ (∀ i, i < k → rowE m i = 0) ∧ n23 = m.nx.length - k ∧ s23 = { env := [(1, .one (.ptr 0 0 0 0)), (3, .one (.int .i64 (m.nx.length : Int))), (42, .one (.int .i64 (m.nx.length : Int))), (43, .one (.int .i64 (k : Int)))], L := [.vars 24 [.int .i64 m.inp, .int .i64 m.st, .list (.list (.int .i64)) m.nx, .list (.list (.int .i64)) m.ot]] }) ?_ ?_
            · exact ⟨_, _, sub_keep [1, 3, 42, 43], 0, Nat.zero_le _, fun i hi => by omega, rfl, rfl⟩
            · rintro n23 s23 ⟨k, hk, hrows, rfl, rfl⟩
              refine awp_seq_k fun K24 hK24 => ?_
              refine awp_reg hP hN rfl ?_
              (refine rg_step rfl fun K0 hK0 => ?_; simp only [zE, op1, ev, lkp, avOf, acOf, opBin, arith, inK_i64, eqACs, eqAC, reduceCtorEq, reduceEqDiff, reduceAdd, reduceLeDiff, reduceLT, reduceMul, reduceSub, Try.td3, Try.td4, Mly.av]; (repeat refine And.intro (by first | omega | assumption | exact rfl) ?_); (first | refine hK0 _ ?_ | refine Or.inl (hK0 _ ?_)); clear hK0 K0; simp only [put, app, setAll, trOf, zE, zS, reduceAdd])
              refine rg_nil ?_
              refine hK24 _ ?_; clear hK24; refine awp_keep [1, 3, 42, 43, 44] ?_; simp only [keepEnv, lkp, zE, reduceCtorEq, reduceEqDiff, argEnv, reduceAdd]
              refine awp_seq_k fun K25 hK25 => ?_
              refine awp_cond (by simp only [ev, keepEnv, lkp, zE, reduceCtorEq, reduceEqDiff, argEnv, reduceAdd]; exact rfl) (fun hc26 => ?_) (fun hc26 => ?_)
              · (try simp only [zB, reduceCtorEq] at hc26)
                refine awp_skip ?_
                refine hK25 _ ?_; clear hK25; refine awp_keep [1, 3, 42, 43, 44] ?_; simp only [keepEnv, lkp, zE, reduceCtorEq, reduceEqDiff, argEnv, reduceAdd]
                refine awp_seq_k fun K27 hK27 => ?_
                refine awp_block ?_
                refine awp_seq_k fun K28 hK28 => ?_
                refine awp_reg hP hN rfl ?_
                iterate 2 (refine rg_step rfl fun K0 hK0 => ?_; simp only [zE, op1, ev, lkp, avOf, acOf, ev, reduceCtorEq, reduceEqDiff, reduceAdd, reduceLeDiff, reduceLT, reduceMul, reduceSub, Try.td3, Mly.av]; (repeat refine And.intro (by first | omega | assumption | exact rfl) ?_); (first | refine hK0 _ ?_ | refine Or.inl (hK0 _ ?_)); clear hK0 K0; simp only [put, app, setAll, trOf, zE, zS, reduceAdd])
                refine rg_nil ?_
                refine hK28 _ ?_; clear hK28; refine awp_keep [1, 3, 4, 42, 43, 44] ?_; simp only [keepEnv, lkp, zE, reduceCtorEq, reduceEqDiff, argEnv, reduceAdd]
                refine awp_seq_k fun K29 hK29 => ?_
                refine awp_seq_k fun K30 hK30 => ?_
                refine awp_drw hP hN Try.mixed rfl ?_
                iterate 9 (refine rg_step rfl fun K0 hK0 => ?_; simp only [zE, op1, ev, lkp, avOf, acOf, opFieldAddr, opLoad, Nat.mul_one, readAC, isAggK, acs, Ty.dflt, zG, cellsAt, opIndexAddr, Ty.size, ne_eq, not_false_eq_true, Int.natCast_one, Int.mul_one, opCallAny, opMM, opLen, lenAC, lenOk, fpAC, Nat.div_one, opAppend, srcOf, datOf, dite_true, opBin, arith, inK_i64, eqACs, eqAC, reduceCtorEq, reduceEqDiff, reduceAdd, reduceLeDiff, reduceLT, reduceMul, reduceSub, Try.el22, Try.el33, Try.st24, Try.td2, Try.td22, Try.td24, Try.td3, Try.td33, Try.td4, Mly.av]; (repeat refine And.intro (by first | omega | assumption | exact rfl) ?_); (first | refine hK0 _ ?_ | refine Or.inl (hK0 _ ?_)); clear hK0 K0; simp only [put, app, setAll, trOf, zE, zS, reduceAdd])
                (refine rg_step rfl fun K0 hK0 => ?_; simp only [zE, op1, ev, lkp, avOf, acOf, ev, reduceCtorEq, reduceEqDiff, reduceAdd, reduceLeDiff, reduceLT, reduceMul, reduceSub, Try.td4, Mly.av]; (repeat refine And.intro (by first | omega | assumption | exact rfl) ?_); (first | refine hK0 _ ?_ | refine Or.inl (hK0 _ ?_)); clear hK0 K0; simp only [put, app, setAll, trOf, zE, zS, reduceAdd])
                refine' rg_join_n (want := false) 9 rfl (m := 55) (by simp only [keepEnv, lkp, zE, reduceCtorEq, reduceEqDiff, argEnv, reduceAdd]; exact rfl) (by kernel_rfl) rfl rfl rfl rfl rfl (fun hg31 => ?a31) ?b31 ?c31
                case a31 =>
                  have hq31 := hg31; (try simp only [zB, reduceCtorEq] at hg31); simp only [List.take_succ_cons, List.take_zero, List.cons_append, List.nil_append]
                  (refine rg_do rfl fun K0 hK0 => ?_; simp only [zE, op1, ev, lkp, avOf, acOf, opFieldAddr, reduceCtorEq, reduceEqDiff, reduceAdd, reduceLeDiff, reduceLT, reduceMul, reduceSub, Try.st24, Try.td24, Try.td3, Mly.av]; (repeat refine And.intro (by first | omega | assumption | exact rfl) ?_); (first | refine hK0 _ ?_ | refine Or.inl (hK0 _ ?_)); clear hK0 K0; simp only [put, app, setAll, trOf, zE, zS, reduceAdd])
                  (refine rg_do rfl fun K0 hK0 => ?_; simp only [zE, op1, ev, lkp, avOf, acOf, opLoad, Nat.mul_one, readAC, isAggK, acs, Ty.dflt, zG, cellsAt, reduceCtorEq, reduceEqDiff, reduceAdd, reduceLeDiff, reduceLT, reduceMul, reduceSub, Try.el22, Try.td22, Mly.av]; (repeat refine And.intro (by first | omega | assumption | exact rfl) ?_); (first | refine hK0 _ ?_ | refine Or.inl (hK0 _ ?_)); clear hK0 K0; simp only [put, app, setAll, trOf, zE, zS, reduceAdd])
                  (refine rg_do rfl fun K0 hK0 => ?_; simp only [zE, op1, ev, lkp, avOf, acOf, ev, reduceCtorEq, reduceEqDiff, reduceAdd, reduceLeDiff, reduceLT, reduceMul, reduceSub, Try.td3, Mly.av]; (repeat refine And.intro (by first | omega | assumption | exact rfl) ?_); (first | refine hK0 _ ?_ | refine Or.inl (hK0 _ ?_)); clear hK0 K0; simp only [put, app, setAll, trOf, zE, zS, reduceAdd])
                  (refine rg_do rfl fun K0 hK0 => ?_; simp only [zE, op1, ev, lkp, avOf, acOf, opIndexAddr, zG, Ty.dflt, Ty.size, Nat.mul_one, ne_eq, not_false_eq_true, Int.natCast_one, Int.mul_one, reduceCtorEq, reduceEqDiff, reduceAdd, reduceLeDiff, reduceLT, reduceMul, reduceSub, Try.el22, Try.td22, Mly.av]; (repeat refine And.intro (by first | omega | assumption | exact rfl) ?_); (first | refine hK0 _ ?_ | refine Or.inl (hK0 _ ?_)); clear hK0 K0; simp only [put, app, setAll, trOf, zE, zS, reduceAdd])
                  (refine rg_do rfl fun K0 hK0 => ?_; simp only [zE, op1, ev, lkp, avOf, acOf, opLoad, Nat.mul_one, readAC, isAggK, acs, Ty.dflt, zG, cellsAt, reduceCtorEq, reduceEqDiff, reduceAdd, reduceLeDiff, reduceLT, reduceMul, reduceSub, Try.el33, Try.td33, Mly.av]; (repeat refine And.intro (by first | omega | assumption | exact rfl) ?_); (first | refine hK0 _ ?_ | refine Or.inl (hK0 _ ?_)); clear hK0 K0; simp only [put, app, setAll, trOf, zE, zS, reduceAdd])
                  (refine rg_do rfl fun K0 hK0 => ?_; simp only [zE, op1, ev, lkp, avOf, acOf, opCallAny, opMM, opLen, lenAC, lenOk, fpAC, Nat.div_one, opAppend, srcOf, Ty.size, datOf, dite_true, reduceCtorEq, reduceEqDiff, reduceAdd, reduceLeDiff, reduceLT, reduceMul, reduceSub, Try.el33, Try.td3, Try.td33, Mly.av]; (repeat refine And.intro (by first | omega | assumption | exact rfl) ?_); (first | refine hK0 _ ?_ | refine Or.inl (hK0 _ ?_)); clear hK0 K0; simp only [put, app, setAll, trOf, zE, zS, reduceAdd])
                  (refine rg_do rfl fun K0 hK0 => ?_; simp only [zE, op1, ev, lkp, avOf, acOf, opFieldAddr, reduceCtorEq, reduceEqDiff, reduceAdd, reduceLeDiff, reduceLT, reduceMul, reduceSub, Try.st24, Try.td24, Mly.av]; (repeat refine And.intro (by first | omega | assumption | exact rfl) ?_); (first | refine hK0 _ ?_ | refine Or.inl (hK0 _ ?_)); clear hK0 K0; simp only [put, app, setAll, trOf, zE, zS, reduceAdd])
                  (refine rg_do rfl fun K0 hK0 => ?_; simp only [zE, op1, ev, lkp, avOf, acOf, opLoad, Nat.mul_one, readAC, isAggK, acs, Ty.dflt, zG, cellsAt, reduceCtorEq, reduceEqDiff, reduceAdd, reduceLeDiff, reduceLT, reduceMul, reduceSub, Try.td3, Mly.av]; (repeat refine And.intro (by first | omega | assumption | exact rfl) ?_); (first | refine hK0 _ ?_ | refine Or.inl (hK0 _ ?_)); clear hK0 K0; simp only [put, app, setAll, trOf, zE, zS, reduceAdd])
                  (refine rg_do rfl fun K0 hK0 => ?_; simp only [zE, op1, ev, lkp, avOf, acOf, opBin, arith, inK_i64, eqACs, eqAC, reduceCtorEq, reduceEqDiff, reduceAdd, reduceLeDiff, reduceLT, reduceMul, reduceSub, Try.td3, Try.td4, Mly.av]; (repeat refine And.intro (by first | omega | assumption | exact rfl) ?_); (first | refine hK0 _ ?_ | refine Or.inl (hK0 _ ?_)); clear hK0 K0; simp only [put, app, setAll, trOf, zE, zS, reduceAdd])
                  (refine rg_step rfl fun K0 hK0 => ?_; simp only [zE, op1, ev, lkp, avOf, acOf, opPick, reduceCtorEq, reduceEqDiff, reduceAdd, reduceLeDiff, reduceLT, reduceMul, reduceSub, Try.td4, Mly.av]; (repeat refine And.intro (by first | omega | assumption | exact rfl) ?_); (first | refine hK0 _ ?_ | refine Or.inl (hK0 _ ?_)); clear hK0 K0; simp only [put, app, setAll, trOf, zE, zS, reduceAdd])
                  refine rg_nil ?_
                  refine ⟨by simp only [keepEnv, lkp, zE, reduceCtorEq, reduceEqDiff, argEnv, reduceAdd]; exact rfl, rfl, ?_, rfl⟩; (repeat refine keep_cons rfl ?_); exact keep_m (by exact rfl) hq31
                case b31 => exact tle_of (by first | rfl | (simp [tleB]; done) | decide)
                simp only [join_or, join_and]
                refine rg_nil ?_
                refine ⟨by kernel_rfl, ?_⟩
                refine hK30 _ ?_; clear hK30; refine awp_keep [1, 3, 4, 42, 43, 44, 65] ?_; simp only [keepEnv, lkp, zE, reduceCtorEq, reduceEqDiff, argEnv, reduceAdd]
                refine awp_cond (by simp only [ev, keepEnv, lkp, zE, reduceCtorEq, reduceEqDiff, argEnv, reduceAdd]; exact rfl) (fun hc32 => ?_) (fun hc32 => ?_)
                · (try simp only [zB, reduceCtorEq] at hc32)
                  refine awp_seq_k fun K33 hK33 => ?_
                  refine awp_reg hP hN rfl ?_
                  (refine rg_step rfl fun K0 hK0 => ?_; simp only [zE, op1, ev, lkp, avOf, acOf, ev, reduceCtorEq, reduceEqDiff, reduceAdd, reduceLeDiff, reduceLT, reduceMul, reduceSub, Try.td27, Mly.av]; (repeat refine And.intro (by first | omega | assumption | exact rfl) ?_); (first | refine hK0 _ ?_ | refine Or.inl (hK0 _ ?_)); clear hK0 K0; simp only [put, app, setAll, trOf, zE, zS, reduceAdd])
                  refine rg_nil ?_
                  refine hK33 _ ?_; clear hK33; refine awp_keep [1, 2, 3, 4, 42, 43, 44, 65] ?_; simp only [keepEnv, lkp, zE, reduceCtorEq, reduceEqDiff, argEnv, reduceAdd]
                  refine awp_ret ?_
                  refine ⟨by first | exact .inl rfl | exact .inr rfl, _, rfl, ?_⟩; simp only [fzV, fz1, fzC, List.map_cons, List.map_nil, keepEnv, lkp, zE, reduceCtorEq, reduceEqDiff, argEnv, reduceAdd, Mly.av]
                  refine VLE.of_eq ?_
                  refine congrArg (fun n => AV.one (AC.int IntKind.i64 n)) ?_
                  symm
                  unfold validE
                  first
                  | (rw [if_pos (by omega)]; done)
                  | (rw [if_neg (by omega), if_pos (by omega)]; done)
                  | (rw [if_neg (by omega), if_neg (by omega), if_pos (by omega)]; done)
                  | (rw [if_neg (by omega), if_neg (by omega), if_neg (by omega), if_pos (by omega)]; done)
                  | (rw [if_neg (by omega), if_neg (by omega), if_neg (by omega), if_neg (by omega), if_pos (by omega)]; done)
                  | (rw [if_neg (by omega), if_neg (by omega), if_neg (by omega), if_neg (by omega), if_neg (by omega)]
                     first
                     | exact (firstE_at hrows (by omega) (by rw [rowE_bad2 hc32.1 hc32.2 (j := j) (by omega) (by unfold cellBad; omega)]; decide)).trans (rowE_bad2 hc32.1 hc32.2 (by omega) (by unfold cellBad; omega))
                     | exact (firstE_at hrows (by omega) (by rw [rowE_bad1 hc32]; decide)).trans (rowE_bad1 hc32)
                     | exact firstE_zero fun i hi => hrows i (by omega))
                · (try simp only [zB, reduceCtorEq] at hc32)
                  refine awp_skip ?_
                  refine hK29 _ ?_; clear hK29; refine awp_keep [1, 3, 4, 42, 43, 44, 65] ?_; simp only [keepEnv, lkp, zE, reduceCtorEq, reduceEqDiff, argEnv, reduceAdd]
                  refine awp_seq_k fun K34 hK34 => ?_
                  refine awp_reg hP hN rfl ?_
                  iterate 3 (refine rg_step rfl fun K0 hK0 => ?_; simp only [zE, op1, ev, lkp, avOf, acOf, opFieldAddr, opLoad, Nat.mul_one, readAC, isAggK, acs, Ty.dflt, zG, cellsAt, reduceCtorEq, reduceEqDiff, reduceAdd, reduceLeDiff, reduceLT, reduceMul, reduceSub, Try.st24, Try.td24, Try.td3, Mly.av]; (repeat refine And.intro (by first | omega | assumption | exact rfl) ?_); (first | refine hK0 _ ?_ | refine Or.inl (hK0 _ ?_)); clear hK0 K0; simp only [put, app, setAll, trOf, zE, zS, reduceAdd])
                  refine rg_nil ?_
                  refine hK34 _ ?_; clear hK34; refine awp_keep [1, 3, 4, 42, 43, 44, 65, 67, 68] ?_; simp only [keepEnv, lkp, zE, reduceCtorEq, reduceEqDiff, argEnv, reduceAdd]
                  refine awp_block ?_
                  refine awp_loop (fun n35 s35 => ∃ (j : Nat), ((j : Int) ≤ m.inp) ∧ (∀ a, a < j → ¬ cellBad m k a) ∧ n35 = m.inp.toNat - j ∧ s35 = { env := [(1, .one (.ptr 0 0 0 0)), (3, .one (.int .i64 (m.nx.length : Int))), (4, .one (.int .i64 (k : Int))), (42, .one (.int .i64 (m.nx.length : Int))), (43, .one (.int .i64 (k : Int))), (67, .one (.int .i64 m.inp)), (68, .one (.int .i64 (j : Int)))], L := [.vars 24 [.int .i64 m.inp, .int .i64 m.st, .list (.list (.int .i64)) m.nx, .list (.list (.int .i64)) m.ot]] }) ?_ ?_
                  · refine ⟨_, _, sub_keep [1, 3, 4, 42, 43, 67, 68], 0, ?_, fun i hi => by omega, rfl, rfl⟩; omega
                  · rintro n35 s35 ⟨j, hj, hcells, rfl, rfl⟩
                    refine awp_seq_k fun K36 hK36 => ?_
                    refine awp_reg hP hN rfl ?_
                    (refine rg_step rfl fun K0 hK0 => ?_; simp only [zE, op1, ev, lkp, avOf, acOf, opBin, arith, inK_i64, eqACs, eqAC, reduceCtorEq, reduceEqDiff, reduceAdd, reduceLeDiff, reduceLT, reduceMul, reduceSub, Try.td3, Try.td4, Mly.av]; (repeat refine And.intro (by first | omega | assumption | exact rfl) ?_); (first | refine hK0 _ ?_ | refine Or.inl (hK0 _ ?_)); clear hK0 K0; simp only [put, app, setAll, trOf, zE, zS, reduceAdd])
                    refine rg_nil ?_
                    refine hK36 _ ?_; clear hK36; refine awp_keep [1, 3, 4, 42, 43, 67, 68, 69] ?_; simp only [keepEnv, lkp, zE, reduceCtorEq, reduceEqDiff, argEnv, reduceAdd]
                    refine awp_seq_k fun K37 hK37 => ?_
                    refine awp_cond (by simp only [ev, keepEnv, lkp, zE, reduceCtorEq, reduceEqDiff, argEnv, reduceAdd]; exact rfl) (fun hc38 => ?_) (fun hc38 => ?_)
                    · (try simp only [zB, reduceCtorEq] at hc38)
                      refine awp_skip ?_
                      refine hK37 _ ?_; clear hK37; refine awp_keep [1, 3, 4, 42, 43, 67, 68, 69] ?_; simp only [keepEnv, lkp, zE, reduceCtorEq, reduceEqDiff, argEnv, reduceAdd]
                      refine awp_seq_k fun K39 hK39 => ?_
                      refine awp_block ?_
                      refine awp_seq_k fun K40 hK40 => ?_
                      refine awp_reg hP hN rfl ?_
                      iterate 2 (refine rg_step rfl fun K0 hK0 => ?_; simp only [zE, op1, ev, lkp, avOf, acOf, ev, reduceCtorEq, reduceEqDiff, reduceAdd, reduceLeDiff, reduceLT, reduceMul, reduceSub, Try.td3, Mly.av]; (repeat refine And.intro (by first | omega | assumption | exact rfl) ?_); (first | refine hK0 _ ?_ | refine Or.inl (hK0 _ ?_)); clear hK0 K0; simp only [put, app, setAll, trOf, zE, zS, reduceAdd])
                      refine rg_nil ?_
                      refine hK40 _ ?_; clear hK40; refine awp_keep [1, 3, 4, 5, 42, 43, 67, 68, 69] ?_; simp only [keepEnv, lkp, zE, reduceCtorEq, reduceEqDiff, argEnv, reduceAdd]
                      refine awp_seq_k fun K41 hK41 => ?_
                      refine awp_drw hP hN Try.mixed rfl ?_
                      iterate 18 (refine rg_step rfl fun K0 hK0 => ?_; simp only [zE, op1, ev, lkp, avOf, acOf, opFieldAddr, opLoad, Nat.mul_one, readAC, isAggK, acs, Ty.dflt, zG, cellsAt, opIndexAddr, Ty.size, ne_eq, not_false_eq_true, Int.natCast_one, Int.mul_one, reduceCtorEq, reduceEqDiff, reduceAdd, reduceLeDiff, reduceLT, reduceMul, reduceSub, Try.el22, Try.el33, Try.st24, Try.td2, Try.td22, Try.td24, Try.td3, Try.td33, Mly.av]; (repeat refine And.intro (by first | omega | assumption | exact rfl) ?_); (first | refine hK0 _ ?_ | refine Or.inl (hK0 _ ?_)); clear hK0 K0; simp only [put, app, setAll, trOf, zE, zS, reduceAdd])
                      refine rg_nil ?_
                      refine ⟨by kernel_rfl, ?_⟩
                      refine hK41 _ ?_; clear hK41; refine awp_keep [1, 3, 4, 5, 6, 7, 42, 43, 67, 68, 69] ?_; simp only [keepEnv, lkp, zE, reduceCtorEq, reduceEqDiff, argEnv, reduceAdd]
                      refine awp_seq_k fun K42 hK42 => ?_
                      refine awp_reg hP hN rfl ?_
                      iterate 2 (refine rg_step rfl fun K0 hK0 => ?_; simp only [zE, op1, ev, lkp, avOf, acOf, opBin, arith, inK_i64, eqACs, eqAC, reduceCtorEq, reduceEqDiff, reduceAdd, reduceLeDiff, reduceLT, reduceMul, reduceSub, Try.td3, Try.td4, Mly.av]; (repeat refine And.intro (by first | omega | assumption | exact rfl) ?_); (first | refine hK0 _ ?_ | refine Or.inl (hK0 _ ?_)); clear hK0 K0; simp only [put, app, setAll, trOf, zE, zS, reduceAdd])
                      (refine rg_step rfl fun K0 hK0 => ?_; simp only [zE, op1, ev, lkp, avOf, acOf, ev, reduceCtorEq, reduceEqDiff, reduceAdd, reduceLeDiff, reduceLT, reduceMul, reduceSub, Try.td4, Mly.av]; (repeat refine And.intro (by first | omega | assumption | exact rfl) ?_); (first | refine hK0 _ ?_ | refine Or.inl (hK0 _ ?_)); clear hK0 K0; simp only [put, app, setAll, trOf, zE, zS, reduceAdd])
                      refine' rg_join_n (want := false) 3 rfl (m := 89) (by simp only [keepEnv, lkp, zE, reduceCtorEq, reduceEqDiff, argEnv, reduceAdd]; exact rfl) (by kernel_rfl) rfl rfl rfl rfl rfl (fun hg43 => ?a43) ?b43 ?c43
                      case a43 =>
                        have hq43 := hg43; (try simp only [zB, reduceCtorEq] at hg43); simp only [List.take_succ_cons, List.take_zero, List.cons_append, List.nil_append]
                        (refine rg_do rfl fun K0 hK0 => ?_; simp only [zE, op1, ev, lkp, avOf, acOf, ev, reduceCtorEq, reduceEqDiff, reduceAdd, reduceLeDiff, reduceLT, reduceMul, reduceSub, Try.td3, Mly.av]; (repeat refine And.intro (by first | omega | assumption | exact rfl) ?_); (first | refine hK0 _ ?_ | refine Or.inl (hK0 _ ?_)); clear hK0 K0; simp only [put, app, setAll, trOf, zE, zS, reduceAdd])
                        (refine rg_do rfl fun K0 hK0 => ?_; simp only [zE, op1, ev, lkp, avOf, acOf, ev, reduceCtorEq, reduceEqDiff, reduceAdd, reduceLeDiff, reduceLT, reduceMul, reduceSub, Try.td3, Mly.av]; (repeat refine And.intro (by first | omega | assumption | exact rfl) ?_); (first | refine hK0 _ ?_ | refine Or.inl (hK0 _ ?_)); clear hK0 K0; simp only [put, app, setAll, trOf, zE, zS, reduceAdd])
                        (refine rg_do rfl fun K0 hK0 => ?_; simp only [zE, op1, ev, lkp, avOf, acOf, opBin, arith, inK_i64, eqACs, eqAC, reduceCtorEq, reduceEqDiff, reduceAdd, reduceLeDiff, reduceLT, reduceMul, reduceSub, Try.td3, Try.td4, Mly.av]; (repeat refine And.intro (by first | omega | assumption | exact rfl) ?_); (first | refine hK0 _ ?_ | refine Or.inl (hK0 _ ?_)); clear hK0 K0; simp only [put, app, setAll, trOf, zE, zS, reduceAdd])
                        (refine rg_step rfl fun K0 hK0 => ?_; simp only [zE, op1, ev, lkp, avOf, acOf, opPick, reduceCtorEq, reduceEqDiff, reduceAdd, reduceLeDiff, reduceLT, reduceMul, reduceSub, Try.td4, Mly.av]; (repeat refine And.intro (by first | omega | assumption | exact rfl) ?_); (first | refine hK0 _ ?_ | refine Or.inl (hK0 _ ?_)); clear hK0 K0; simp only [put, app, setAll, trOf, zE, zS, reduceAdd])
                        refine rg_nil ?_
                        refine ⟨by simp only [keepEnv, lkp, zE, reduceCtorEq, reduceEqDiff, argEnv, reduceAdd]; exact rfl, rfl, ?_, rfl⟩; (repeat refine keep_cons rfl ?_); exact keep_m (by exact rfl) hq43
                      case b43 => exact tle_of (by first | rfl | (simp [tleB]; done) | decide)
                      simp only [join_or, join_and]
                      (refine rg_step rfl fun K0 hK0 => ?_; simp only [zE, op1, ev, lkp, avOf, acOf, ev, reduceCtorEq, reduceEqDiff, reduceAdd, reduceLeDiff, reduceLT, reduceMul, reduceSub, Try.td4, Mly.av]; (repeat refine And.intro (by first | omega | assumption | exact rfl) ?_); (first | refine hK0 _ ?_ | refine Or.inl (hK0 _ ?_)); clear hK0 K0; simp only [put, app, setAll, trOf, zE, zS, reduceAdd])
                      refine' rg_join_n (want := false) 2 rfl (m := 94) (by simp only [keepEnv, lkp, zE, reduceCtorEq, reduceEqDiff, argEnv, reduceAdd]; exact rfl) (by kernel_rfl) rfl rfl rfl rfl rfl (fun hg44 => ?a44) ?b44 ?c44
                      case a44 =>
                        have hq44 := hg44; (try simp only [zB, reduceCtorEq] at hg44); simp only [List.take_succ_cons, List.take_zero, List.cons_append, List.nil_append]
                        (refine rg_do rfl fun K0 hK0 => ?_; simp only [zE, op1, ev, lkp, avOf, acOf, ev, reduceCtorEq, reduceEqDiff, reduceAdd, reduceLeDiff, reduceLT, reduceMul, reduceSub, Try.td3, Mly.av]; (repeat refine And.intro (by first | omega | assumption | exact rfl) ?_); (first | refine hK0 _ ?_ | refine Or.inl (hK0 _ ?_)); clear hK0 K0; simp only [put, app, setAll, trOf, zE, zS, reduceAdd])
                        (refine rg_do rfl fun K0 hK0 => ?_; simp only [zE, op1, ev, lkp, avOf, acOf, opBin, arith, inK_i64, eqACs, eqAC, reduceCtorEq, reduceEqDiff, reduceAdd, reduceLeDiff, reduceLT, reduceMul, reduceSub, Try.td3, Try.td4, Mly.av]; (repeat refine And.intro (by first | omega | assumption | exact rfl) ?_); (first | refine hK0 _ ?_ | refine Or.inl (hK0 _ ?_)); clear hK0 K0; simp only [put, app, setAll, trOf, zE, zS, reduceAdd])
                        (refine rg_step rfl fun K0 hK0 => ?_; simp only [zE, op1, ev, lkp, avOf, acOf, opPick, reduceCtorEq, reduceEqDiff, reduceAdd, reduceLeDiff, reduceLT, reduceMul, reduceSub, Try.td4, Mly.av]; (repeat refine And.intro (by first | omega | assumption | exact rfl) ?_); (first | refine hK0 _ ?_ | refine Or.inl (hK0 _ ?_)); clear hK0 K0; simp only [put, app, setAll, trOf, zE, zS, reduceAdd])
                        refine rg_nil ?_
                        refine ⟨by simp only [keepEnv, lkp, zE, reduceCtorEq, reduceEqDiff, argEnv, reduceAdd]; exact rfl, rfl, ?_, rfl⟩; (repeat refine keep_cons rfl ?_); exact keep_m (by exact rfl) hq44
                      case b44 => exact tle_of (by first | rfl | (simp [tleB]; done) | decide)
                      simp only [join_or, join_and]
                      (refine rg_step rfl fun K0 hK0 => ?_; simp only [zE, op1, ev, lkp, avOf, acOf, ev, reduceCtorEq, reduceEqDiff, reduceAdd, reduceLeDiff, reduceLT, reduceMul, reduceSub, Try.td4, Mly.av]; (repeat refine And.intro (by first | omega | assumption | exact rfl) ?_); (first | refine hK0 _ ?_ | refine Or.inl (hK0 _ ?_)); clear hK0 K0; simp only [put, app, setAll, trOf, zE, zS, reduceAdd])
                      refine' rg_join_n (want := false) 2 rfl (m := 98) (by simp only [keepEnv, lkp, zE, reduceCtorEq, reduceEqDiff, argEnv, reduceAdd]; exact rfl) (by kernel_rfl) rfl rfl rfl rfl rfl (fun hg45 => ?a45) ?b45 ?c45
                      case a45 =>
                        have hq45 := hg45; (try simp only [zB, reduceCtorEq] at hg45); simp only [List.take_succ_cons, List.take_zero, List.cons_append, List.nil_append]
                        (refine rg_do rfl fun K0 hK0 => ?_; simp only [zE, op1, ev, lkp, avOf, acOf, ev, reduceCtorEq, reduceEqDiff, reduceAdd, reduceLeDiff, reduceLT, reduceMul, reduceSub, Try.td3, Mly.av]; (repeat refine And.intro (by first | omega | assumption | exact rfl) ?_); (first | refine hK0 _ ?_ | refine Or.inl (hK0 _ ?_)); clear hK0 K0; simp only [put, app, setAll, trOf, zE, zS, reduceAdd])
                        (refine rg_do rfl fun K0 hK0 => ?_; simp only [zE, op1, ev, lkp, avOf, acOf, opBin, arith, inK_i64, eqACs, eqAC, reduceCtorEq, reduceEqDiff, reduceAdd, reduceLeDiff, reduceLT, reduceMul, reduceSub, Try.td3, Try.td4, Mly.av]; (repeat refine And.intro (by first | omega | assumption | exact rfl) ?_); (first | refine hK0 _ ?_ | refine Or.inl (hK0 _ ?_)); clear hK0 K0; simp only [put, app, setAll, trOf, zE, zS, reduceAdd])
                        (refine rg_step rfl fun K0 hK0 => ?_; simp only [zE, op1, ev, lkp, avOf, acOf, opPick, reduceCtorEq, reduceEqDiff, reduceAdd, reduceLeDiff, reduceLT, reduceMul, reduceSub, Try.td4, Mly.av]; (repeat refine And.intro (by first | omega | assumption | exact rfl) ?_); (first | refine hK0 _ ?_ | refine Or.inl (hK0 _ ?_)); clear hK0 K0; simp only [put, app, setAll, trOf, zE, zS, reduceAdd])
                        refine rg_nil ?_
                        refine ⟨by simp only [keepEnv, lkp, zE, reduceCtorEq, reduceEqDiff, argEnv, reduceAdd]; exact rfl, rfl, ?_, rfl⟩; (repeat refine keep_cons rfl ?_); exact keep_m (by exact rfl) hq45
                      case b45 => exact tle_of (by first | rfl | (simp [tleB]; done) | decide)
                      simp only [join_or, join_and]
                      refine rg_nil ?_
                      refine hK42 _ ?_; clear hK42; refine awp_keep [1, 3, 4, 5, 6, 7, 42, 43, 67, 68, 69, 101] ?_; simp only [keepEnv, lkp, zE, reduceCtorEq, reduceEqDiff, argEnv, reduceAdd]
                      refine awp_cond (by simp only [ev, keepEnv, lkp, zE, reduceCtorEq, reduceEqDiff, argEnv, reduceAdd]; exact rfl) (fun hc46 => ?_) (fun hc46 => ?_)
                      · (try simp only [zB, reduceCtorEq] at hc46)
                        refine awp_seq_k fun K47 hK47 => ?_
                        refine awp_reg hP hN rfl ?_
                        (refine rg_step rfl fun K0 hK0 => ?_; simp only [zE, op1, ev, lkp, avOf, acOf, ev, reduceCtorEq, reduceEqDiff, reduceAdd, reduceLeDiff, reduceLT, reduceMul, reduceSub, Try.td27, Mly.av]; (repeat refine And.intro (by first | omega | assumption | exact rfl) ?_); (first | refine hK0 _ ?_ | refine Or.inl (hK0 _ ?_)); clear hK0 K0; simp only [put, app, setAll, trOf, zE, zS, reduceAdd])
                        refine rg_nil ?_
                        refine hK47 _ ?_; clear hK47; refine awp_keep [1, 2, 3, 4, 5, 6, 7, 42, 43, 67, 68, 69, 101] ?_; simp only [keepEnv, lkp, zE, reduceCtorEq, reduceEqDiff, argEnv, reduceAdd]
                        refine awp_ret ?_
                        refine ⟨by first | exact .inl rfl | exact .inr rfl, _, rfl, ?_⟩; simp only [fzV, fz1, fzC, List.map_cons, List.map_nil, keepEnv, lkp, zE, reduceCtorEq, reduceEqDiff, argEnv, reduceAdd, Mly.av]
                        refine VLE.of_eq ?_
                        refine congrArg (fun n => AV.one (AC.int IntKind.i64 n)) ?_
                        symm
                        unfold validE
                        first
                        | (rw [if_pos (by omega)]; done)
                        | (rw [if_neg (by omega), if_pos (by omega)]; done)
                        | (rw [if_neg (by omega), if_neg (by omega), if_pos (by omega)]; done)
                        | (rw [if_neg (by omega), if_neg (by omega), if_neg (by omega), if_pos (by omega)]; done)
                        | (rw [if_neg (by omega), if_neg (by omega), if_neg (by omega), if_neg (by omega), if_pos (by omega)]; done)
                        | (rw [if_neg (by omega), if_neg (by omega), if_neg (by omega), if_neg (by omega), if_neg (by omega)]
                           first
                           | exact (firstE_at hrows (by omega) (by rw [rowE_bad2 hc32.1 hc32.2 (j := j) (by omega) (by unfold cellBad; omega)]; decide)).trans (rowE_bad2 hc32.1 hc32.2 (by omega) (by unfold cellBad; omega))
                           | exact (firstE_at hrows (by omega) (by rw [rowE_bad1 hc32]; decide)).trans (rowE_bad1 hc32)
                           | exact firstE_zero fun i hi => hrows i (by omega))
                      · (try simp only [zB, reduceCtorEq] at hc46)
                        refine awp_skip ?_
                        refine hK39 _ ?_; clear hK39; refine awp_keep [1, 3, 4, 5, 6, 7, 42, 43, 67, 68, 69, 101] ?_; simp only [keepEnv, lkp, zE, reduceCtorEq, reduceEqDiff, argEnv, reduceAdd]
                        refine awp_reg hP hN rfl ?_
                        iterate 2 (refine rg_step rfl fun K0 hK0 => ?_; simp only [zE, op1, ev, lkp, avOf, acOf, opBin, arith, inK_i64, eqACs, eqAC, reduceCtorEq, reduceEqDiff, reduceAdd, reduceLeDiff, reduceLT, reduceMul, reduceSub, Try.td3, Mly.av]; (repeat refine And.intro (by first | omega | assumption | exact rfl) ?_); (first | refine hK0 _ ?_ | refine Or.inl (hK0 _ ?_)); clear hK0 K0; simp only [put, app, setAll, trOf, zE, zS, reduceAdd])
                        refine rg_nil ?_
                        refine ⟨_, _, ?_, sub_keep [1, 3, 4, 42, 43, 67, 68], j + 1, ?_, fun a ha => ?_, rfl, rfl⟩
                        · omega
                        · omega
                        · by_cases e : a = j
                          · rw [e]; unfold cellBad; omega
                          · exact hcells a (by omega)
                    · (try simp only [zB, reduceCtorEq] at hc38)
                      refine awp_exit ?_
                      refine hK27 _ ?_; clear hK27; refine awp_keep [1, 3, 4, 42, 43, 67, 68, 69] ?_; simp only [keepEnv, lkp, zE, reduceCtorEq, reduceEqDiff, argEnv, reduceAdd]
                      refine awp_reg hP hN rfl ?_
                      iterate 2 (refine rg_step rfl fun K0 hK0 => ?_; simp only [zE, op1, ev, lkp, avOf, acOf, opBin, arith, inK_i64, eqACs, eqAC, reduceCtorEq, reduceEqDiff, reduceAdd, reduceLeDiff, reduceLT, reduceMul, reduceSub, Try.td3, Mly.av]; (repeat refine And.intro (by first | omega | assumption | exact rfl) ?_); (first | refine hK0 _ ?_ | refine Or.inl (hK0 _ ?_)); clear hK0 K0; simp only [put, app, setAll, trOf, zE, zS, reduceAdd])
                      refine rg_nil ?_
                      refine ⟨_, _, ?_, sub_keep [1, 3, 42, 43], k + 1, by omega, fun i hi => ?_, rfl, rfl⟩
                      · omega
                      · by_cases e : i = k
                        · rw [e]; exact rowE_ok hc32.1 hc32.2 fun a ha => hcells a (by omega)
                        · exact hrows i (by omega)
              · (try simp only [zB, reduceCtorEq] at hc26)
                refine awp_exit ?_
                refine hK21 _ ?_; clear hK21; refine awp_keep [1, 3, 42, 43, 44] ?_; simp only [keepEnv, lkp, zE, reduceCtorEq, reduceEqDiff, argEnv, reduceAdd]
                refine awp_seq_k fun K48 hK48 => ?_
                refine awp_reg hP hN rfl ?_
                (refine rg_step rfl fun K0 hK0 => ?_; simp only [zE, op1, ev, lkp, avOf, acOf, ev, reduceCtorEq, reduceEqDiff, reduceAdd, reduceLeDiff, reduceLT, reduceMul, reduceSub, Try.td27, Mly.av]; (repeat refine And.intro (by first | omega | assumption | exact rfl) ?_); (first | refine hK0 _ ?_ | refine Or.inl (hK0 _ ?_)); clear hK0 K0; simp only [put, app, setAll, trOf, zE, zS, reduceAdd])
                refine rg_nil ?_
                refine hK48 _ ?_; clear hK48; refine awp_keep [1, 2, 3, 42, 43, 44] ?_; simp only [keepEnv, lkp, zE, reduceCtorEq, reduceEqDiff, argEnv, reduceAdd]
                refine awp_ret ?_
                refine ⟨by first | exact .inl rfl | exact .inr rfl, _, rfl, ?_⟩; simp only [fzV, fz1, fzC, List.map_cons, List.map_nil, keepEnv, lkp, zE, reduceCtorEq, reduceEqDiff, argEnv, reduceAdd, Mly.av]
                refine VLE.of_eq ?_
                refine congrArg (fun n => AV.one (AC.int IntKind.i64 n)) ?_
                symm
                unfold validE
                first
                | (rw [if_pos (by omega)]; done)
                | (rw [if_neg (by omega), if_pos (by omega)]; done)
                | (rw [if_neg (by omega), if_neg (by omega), if_pos (by omega)]; done)
                | (rw [if_neg (by omega), if_neg (by omega), if_neg (by omega), if_pos (by omega)]; done)
                | (rw [if_neg (by omega), if_neg (by omega), if_neg (by omega), if_neg (by omega), if_pos (by omega)]; done)
                | (rw [if_neg (by omega), if_neg (by omega), if_neg (by omega), if_neg (by omega), if_neg (by omega)]
                   first
                   | exact (firstE_at hrows (by omega) (by rw [rowE_bad2 hc32.1 hc32.2 (j := j) (by omega) (by unfold cellBad; omega)]; decide)).trans (rowE_bad2 hc32.1 hc32.2 (by omega) (by unfold cellBad; omega))
                   | exact (firstE_at hrows (by omega) (by rw [rowE_bad1 hc32]; decide)).trans (rowE_bad1 hc32)
                   | exact firstE_zero fun i hi => hrows i (by omega))
end Go.Proofs.Ytfbnhgefkdhiaaa
namespace Go.Proofs.Ytfbnhgefkdhiaaa
open Go Go.AV
open Nat (reduceEqDiff reduceAdd reduceLeDiff reduceLT reduceMul reduceSub)
open List (set_cons_zero set_cons_succ)
set_option maxRecDepth 100000 in
theorem both_c (a b : Mly) : PURE Try.prog 30 [a.av, b.av] (.one (.int .i64 (twoE a b))) := by
  refine pure_of_le Try.func30 rfl (by kernel_rfl) (Nat.le_of_ble_eq_true rfl) rfl fun C hP hN hB => ?_
  replace hN : C.N = 13 := hN
  simp only [argEnv, reduceAdd]
  refine awp_seq_k fun K1 hK1 => ?_
  refine awp_reg hP hN rfl ?_
  iterate 3 (refine rg_step rfl fun K0 hK0 => ?_; simp only [zE, op1, ev, lkp, avOf, acOf, opBox, cellsAV, reduceCtorEq, reduceEqDiff, reduceAdd, reduceLeDiff, reduceLT, reduceMul, reduceSub, Try.st24, Try.td24, Try.td27, Mly.av]; (repeat refine And.intro (by first | omega | assumption | exact rfl) ?_); (first | refine hK0 _ ?_ | refine Or.inl (hK0 _ ?_)); clear hK0 K0; simp only [put, app, setAll, trOf, zE, zS, reduceAdd])
  refine rg_nil ?_
  refine hK1 _ ?_; clear hK1; refine awp_keep [0, 1, 2, 3, 4] ?_; simp only [keepEnv, lkp, zE, reduceCtorEq, reduceEqDiff, argEnv, reduceAdd]
  refine awp_seq_k fun K2 hK2 => ?_
  refine awp_seq_k fun K3 hK3 => ?_
  refine awp_reg hP hN rfl ?_
  (refine rg_step rfl fun K0 hK0 => ?_; simp only [zE, op1, ev, lkp, avOf, acOf, opLoad, Nat.mul_one, readAC, isAggK, acs, Ty.dflt, zG, cellsAt, reduceCtorEq, reduceEqDiff, reduceAdd, reduceLeDiff, reduceLT, reduceMul, reduceSub, Try.st24, Try.td24, Mly.av]; (repeat refine And.intro (by first | omega | assumption | exact rfl) ?_); (first | refine hK0 _ ?_ | refine Or.inl (hK0 _ ?_)); clear hK0 K0; simp only [put, app, setAll, trOf, zE, zS, reduceAdd])
  refine rg_step rfl fun K0 hK0 => ?_
  refine op_call (h := call_of_pure (valid_c a)) rfl rfl (by first | exact rfl | (simp only [ev, keepEnv, lkp, zE, reduceCtorEq, reduceEqDiff, argEnv, reduceAdd]; exact rfl)) (by simp only [zE, zG, op1, ev, lkp, avOf, acOf, cellsAV, acs, capAV, mv1, mvC, Ty.dflt, reduceCtorEq, reduceEqDiff, reduceAdd, reduceLeDiff, reduceLT, reduceMul, reduceSub, Mly.av]) ?_
  refine hK0 _ ?_; clear hK0 K0; simp only [put, app, setAll, trOf, zE, zS, reduceAdd]
  (refine rg_step rfl fun K0 hK0 => ?_; simp only [zE, op1, ev, lkp, avOf, acOf, ev, reduceCtorEq, reduceEqDiff, reduceAdd, reduceLeDiff, reduceLT, reduceMul, reduceSub, Try.td27, Mly.av]; (repeat refine And.intro (by first | omega | assumption | exact rfl) ?_); (first | refine hK0 _ ?_ | refine Or.inl (hK0 _ ?_)); clear hK0 K0; simp only [put, app, setAll, trOf, zE, zS, reduceAdd])
  refine rg_nil ?_
  refine hK3 _ ?_; clear hK3; refine awp_keep [0, 1, 2, 3, 4, 5] ?_; simp only [keepEnv, lkp, zE, reduceCtorEq, reduceEqDiff, argEnv, reduceAdd]
  refine awp_seq_k fun K4 hK4 => ?_
  refine awp_reg hP hN rfl ?_
  iterate 2 (refine rg_step rfl fun K0 hK0 => ?_; simp only [zE, op1, ev, lkp, avOf, acOf, opBin, arith, inK_i64, eqACs, eqAC, reduceCtorEq, reduceEqDiff, reduceAdd, reduceLeDiff, reduceLT, reduceMul, reduceSub, Try.td27, Try.td4, Mly.av]; (repeat refine And.intro (by first | omega | assumption | exact rfl) ?_); (first | refine hK0 _ ?_ | refine Or.inl (hK0 _ ?_)); clear hK0 K0; simp only [put, app, setAll, trOf, zE, zS, reduceAdd])
  refine rg_nil ?_
  refine hK4 _ ?_; clear hK4; refine awp_keep [0, 1, 2, 3, 4, 5, 9] ?_; simp only [keepEnv, lkp, zE, reduceCtorEq, reduceEqDiff, argEnv, reduceAdd]
  refine awp_cond (by simp only [ev, keepEnv, lkp, zE, reduceCtorEq, reduceEqDiff, argEnv, reduceAdd]; exact rfl) (fun hc5 => ?_) (fun hc5 => ?_)
  · (try simp only [zB, reduceCtorEq] at hc5)
    refine awp_seq_k fun K6 hK6 => ?_
    refine awp_reg hP hN rfl ?_
    iterate 2 (refine rg_step rfl fun K0 hK0 => ?_; simp only [zE, op1, ev, lkp, avOf, acOf, ev, reduceCtorEq, reduceEqDiff, reduceAdd, reduceLeDiff, reduceLT, reduceMul, reduceSub, Try.td27, Mly.av]; (repeat refine And.intro (by first | omega | assumption | exact rfl) ?_); (first | refine hK0 _ ?_ | refine Or.inl (hK0 _ ?_)); clear hK0 K0; simp only [put, app, setAll, trOf, zE, zS, reduceAdd])
    refine rg_nil ?_
    refine hK6 _ ?_; clear hK6; refine awp_keep [0, 1, 2, 3, 4, 5, 9] ?_; simp only [keepEnv, lkp, zE, reduceCtorEq, reduceEqDiff, argEnv, reduceAdd]
    refine awp_ret ?_
    refine ⟨by first | exact .inl rfl | exact .inr rfl, _, rfl, ?_⟩; simp only [fzV, fz1, fzC, List.map_cons, List.map_nil, keepEnv, lkp, zE, reduceCtorEq, reduceEqDiff, argEnv, reduceAdd, Mly.av]
    refine VLE.of_eq ?_
    refine congrArg (fun n => AV.one (AC.int IntKind.i64 n)) ?_
    symm
    unfold twoE
    first | (rw [if_neg (by omega)]; done) | (rw [if_pos (by omega)]; done)
  · (try simp only [zB, reduceCtorEq] at hc5)
    refine awp_skip ?_
    refine hK2 _ ?_; clear hK2; refine awp_keep [0, 1, 2, 3, 4, 5, 9] ?_; simp only [keepEnv, lkp, zE, reduceCtorEq, reduceEqDiff, argEnv, reduceAdd]
    refine awp_seq_k fun K7 hK7 => ?_
    refine awp_reg hP hN rfl ?_
    (refine rg_step rfl fun K0 hK0 => ?_; simp only [zE, op1, ev, lkp, avOf, acOf, opLoad, Nat.mul_one, readAC, isAggK, acs, Ty.dflt, zG, cellsAt, reduceCtorEq, reduceEqDiff, reduceAdd, reduceLeDiff, reduceLT, reduceMul, reduceSub, Try.st24, Try.td24, Mly.av]; (repeat refine And.intro (by first | omega | assumption | exact rfl) ?_); (first | refine hK0 _ ?_ | refine Or.inl (hK0 _ ?_)); clear hK0 K0; simp only [put, app, setAll, trOf, zE, zS, reduceAdd])
    refine rg_step rfl fun K0 hK0 => ?_
    refine op_call (h := call_of_pure (valid_c b)) rfl rfl (by first | exact rfl | (simp only [ev, keepEnv, lkp, zE, reduceCtorEq, reduceEqDiff, argEnv, reduceAdd]; exact rfl)) (by simp only [zE, zG, op1, ev, lkp, avOf, acOf, cellsAV, acs, capAV, mv1, mvC, Ty.dflt, reduceCtorEq, reduceEqDiff, reduceAdd, reduceLeDiff, reduceLT, reduceMul, reduceSub, Mly.av]) ?_
    refine hK0 _ ?_; clear hK0 K0; simp only [put, app, setAll, trOf, zE, zS, reduceAdd]
    (refine rg_step rfl fun K0 hK0 => ?_; simp only [zE, op1, ev, lkp, avOf, acOf, ev, reduceCtorEq, reduceEqDiff, reduceAdd, reduceLeDiff, reduceLT, reduceMul, reduceSub, Try.td27, Mly.av]; (repeat refine And.intro (by first | omega | assumption | exact rfl) ?_); (first | refine hK0 _ ?_ | refine Or.inl (hK0 _ ?_)); clear hK0 K0; simp only [put, app, setAll, trOf, zE, zS, reduceAdd])
    refine rg_nil ?_
    refine hK7 _ ?_; clear hK7; refine awp_keep [0, 1, 2, 3, 4, 5, 9] ?_; simp only [keepEnv, lkp, zE, reduceCtorEq, reduceEqDiff, argEnv, reduceAdd]
    refine awp_ret ?_
    refine ⟨by first | exact .inl rfl | exact .inr rfl, _, rfl, ?_⟩; simp only [fzV, fz1, fzC, List.map_cons, List.map_nil, keepEnv, lkp, zE, reduceCtorEq, reduceEqDiff, argEnv, reduceAdd, Mly.av]
    refine VLE.of_eq ?_
    refine congrArg (fun n => AV.one (AC.int IntKind.i64 n)) ?_
    symm
    unfold twoE
    first | (rw [if_neg (by omega)]; done) | (rw [if_pos (by omega)]; done)
end Go.Proofs.Ytfbnhgefkdhiaaa
namespace Go.AV
open Nat (reduceEqDiff reduceAdd reduceLeDiff reduceLT reduceMul reduceSub)
open List (set_cons_zero set_cons_succ)
/-plain-/
theorem pr_bad {a b : Mly} (h : ¬ twoE a b = 0) : prE a b = twoE a b ∧ prM a b = zM := by
  unfold prE prM; rw [if_neg h, if_neg (fun k => h k.1)]; exact ⟨rfl, rfl⟩
theorem pr_conf {a b : Mly} (h : twoE a b = 0) (hi : ¬ a.inp = b.inp) : prE a b = 15 ∧ prM a b = zM := by
  unfold prE prM; rw [if_pos h, if_neg hi, if_neg (fun k => hi k.2)]; exact ⟨rfl, rfl⟩
theorem pr_good {a b : Mly} (h : twoE a b = 0) (hi : a.inp = b.inp) : prE a b = bE (FP a b) a.inp.toNat (a.st, b.st) ∧ prM a b = bM (FP a b) a.inp.toNat (a.st, b.st) := by
  unfold prE prM; rw [if_pos h, if_pos hi, if_pos ⟨h, hi⟩]; exact ⟨rfl, rfl⟩
theorem pl_bad {a b : Mly} (h : ¬ twoE a b = 0) : plE a b = twoE a b ∧ plM a b = zM := by
  unfold plE plM; rw [if_neg h, if_neg (fun k => h k.1)]; exact ⟨rfl, rfl⟩
theorem pl_big {a b : Mly} (h : twoE a b = 0) (hi : 64 < a.inp + b.inp) : plE a b = 2 ∧ plM a b = zM := by
  unfold plE plM; rw [if_pos h, if_pos hi, if_neg (fun k => k.2 hi)]; exact ⟨rfl, rfl⟩
theorem pl_good {a b : Mly} (h : twoE a b = 0) (hi : ¬ 64 < a.inp + b.inp) : plE a b = bE (FL a b) (a.inp + b.inp).toNat (a.st, b.st) ∧ plM a b = bM (FL a b) (a.inp + b.inp).toNat (a.st, b.st) := by
  unfold plE plM; rw [if_pos h, if_neg hi, if_pos ⟨h, hi⟩]; exact ⟨rfl, rfl⟩
theorem ca_bad {a b : Mly} (h : ¬ twoE a b = 0) : caE a b = twoE a b ∧ caM a b = zM := by
  unfold caE caM; rw [if_neg h, if_neg (fun k => h k.1)]; exact ⟨rfl, rfl⟩
theorem ca_big {a b : Mly} (h : twoE a b = 0) (hi : b.inp ≤ gr a) : caE a b = 2 ∧ caM a b = zM := by
  unfold caE caM; rw [if_pos h, if_pos hi, if_neg (fun k => k.2 hi)]; exact ⟨rfl, rfl⟩
theorem ca_good {a b : Mly} (h : twoE a b = 0) (hi : ¬ b.inp ≤ gr a) : caE a b = bE (FC a b) a.inp.toNat (a.st, b.st) ∧ caM a b = bM (FC a b) a.inp.toNat (a.st, b.st) := by
  unfold caE caM; rw [if_pos h, if_neg hi, if_pos ⟨h, hi⟩]; exact ⟨rfl, rfl⟩
theorem re_v {m : Mly} {is : List Int} (h : ¬ validE m = 0) : reE m is = validE m ∧ reM m is = zM := by
  have e : reE m is = validE m := by unfold reE; rw [if_neg h]
  exact ⟨e, by unfold reM; rw [e, if_neg h]⟩
theorem re_0 {m : Mly} {is : List Int} (h : validE m = 0) (h2 : is.length = 0) : reE m is = 19 ∧ reM m is = zM := by
  have e : reE m is = 19 := by unfold reE; rw [if_pos h, if_pos h2]
  exact ⟨e, by unfold reM; rw [e, if_neg (by omega)]⟩
theorem re_at {m : Mly} {is : List Int} (h : validE m = 0) (h2 : ¬ is.length = 0) {k : Nat} {e9 : Int} (hk : k < is.length) (hq : ∀ q, q < k → isE m is q = 0) (hb : isE m is k = e9) (he : e9 ≠ 0) : reE m is = e9 ∧ reM m is = zM := by
  have e : reE m is = e9 := by unfold reE; rw [if_pos h, if_neg h2, firstE_at hq hk (by rw [hb]; exact he), hb]
  exact ⟨e, by unfold reM; rw [e, if_neg he]⟩
theorem re_ok {m : Mly} {is : List Int} (h : validE m = 0) (h2 : ¬ is.length = 0) (hq : ∀ q, q < is.length → isE m is q = 0) : reE m is = 0 ∧ reM m is = (rM m is).T := by
  have e : reE m is = 0 := by unfold reE; rw [if_pos h, if_neg h2, firstE_zero hq]
  exact ⟨e, by unfold reM; rw [if_pos e]⟩
theorem isE_2 {m : Mly} {is : List Int} {k : Nat} (h : is.getD k 0 < 0 ∨ m.inp ≤ is.getD k 0) : isE m is k = 2 := if_pos h
theorem isE_7 {m : Mly} {is : List Int} {k : Nat} (h : ¬ (is.getD k 0 < 0 ∨ m.inp ≤ is.getD k 0)) (h2 : is.getD k 0 ∈ is.take k) : isE m is k = 7 := by unfold isE; rw [if_neg h, if_pos h2]
theorem isE_0 {m : Mly} {is : List Int} {k : Nat} (h : ¬ (is.getD k 0 < 0 ∨ m.inp ≤ is.getD k 0)) (h2 : is.getD k 0 ∉ is.take k) : isE m is k = 0 := by unfold isE; rw [if_neg h, if_neg h2]
theorem in_take {is : List Int} {x : Int} {k n : Nat} (hk : k < n) (h : k < is.length) (e : is.getD k 0 = x) : x ∈ is.take n := by
  rw [mem_getD]
  exact ⟨k, by rw [List.length_take]; omega, by rw [← e, take_get hk]⟩
theorem not_in_take {is : List Int} {x : Int} {n : Nat} (h : ∀ k, k < n → is.getD k 0 ≠ x) : x ∉ is.take n := by
  rw [mem_getD]
  rintro ⟨k, hk, e⟩
  rw [List.length_take] at hk
  rw [take_get (by omega)] at e
  exact h k (by omega) e
theorem re_build {m : Mly} {is : List Int} (h : reE m is = 0) : bM (FR m is) is.length (m.st, 0) = (rM m is).T ∧ bE (FR m is) is.length (m.st, 0) = 0 := by
  have := (sng_bm (rM_ok h) (FR.sng h)).2
  exact this
theorem ma_v {m : Mly} {os : List Int} (h : ¬ validE m = 0) : maE m os = validE m ∧ maM m os = zM := by
  have e : maE m os = validE m := by unfold maE; rw [if_neg h]
  exact ⟨e, by unfold maM; rw [e, if_neg h]⟩
theorem ma_at {m : Mly} {os : List Int} (h : validE m = 0) {o : Int} (ho : o ∈ m.ot.flatten) (hb : osB os o = true) : maE m os = 2 ∧ maM m os = zM := by
  have e : maE m os = 2 := by unfold maE; rw [if_pos h, if_pos (List.any_eq_true.2 ⟨o, ho, hb⟩)]
  exact ⟨e, by unfold maM; rw [e, if_neg (by omega)]⟩
theorem ma_ok {m : Mly} {os : List Int} (h : validE m = 0) (hb : ∀ o, o ∈ m.ot.flatten → osB os o = false) : maE m os = 0 ∧ maM m os = (oM m os).T := by
  have e : maE m os = 0 := by
    unfold maE; rw [if_pos h, if_neg]
    rw [List.any_eq_true]
    rintro ⟨o, ho, hh⟩
    rw [hb o ho] at hh; cases hh
  exact ⟨e, by unfold maM; rw [if_pos e]⟩
theorem ma_build {m : Mly} {os : List Int} (h : maE m os = 0) : bM (FM m os) m.inp.toNat (m.st, 0) = (oM m os).T ∧ bE (FM m os) m.inp.toNat (m.st, 0) = 0 := (sng_bm (oM_ok h) (FM.sng h)).2
theorem outs_mem {m : Mly} (h : validE m = 0) {o : Int} : o ∈ outsL m ↔ o ∈ m.ot.flatten := by rw [outs_ok h, (uniq_spec _).2]
theorem outs_nn {m : Mly} (h : validE m = 0) {o : Int} (ho : o ∈ m.ot.flatten) : 0 ≤ o := by
  have hm := mok_of h
  obtain ⟨s, a, hs, ha, e⟩ := flat_rng hm ho
  have := (out_gr hm (s := (s : Int)) (a := (a : Int)) ⟨by omega, by omega⟩ ⟨by omega, by omega⟩).1
  omega
theorem osB_t {os : List Int} {o : Int} (h : (os.length : Int) ≤ o ∨ os.getD o.toNat 0 < 0 ∨ 1048576 < os.getD o.toNat 0) : osB os o = true := by
  simp only [osB, Bool.or_eq_true, decide_eq_true_eq]; omega
theorem osB_f {os : List Int} {o : Int} (h : ¬ ((os.length : Int) ≤ o ∨ os.getD o.toNat 0 < 0 ∨ 1048576 < os.getD o.toNat 0)) : osB os o = false := by
  simp only [osB, Bool.or_eq_false_iff, decide_eq_false_iff_not]; omega
def anyL (ls : List (List Int)) : Bool := ls.any fun r => decide (12 < r.length)
theorem anyL_at {ls : List (List Int)} {k : Nat} (h : k < ls.length) (h2 : 12 < (ls.getD k []).length) : anyL ls = true :=
  List.any_eq_true.2 ⟨ls.getD k [], by simp [List.getD, h], by simpa using h2⟩
theorem anyL_no {ls : List (List Int)} (h2 : ∀ k, k < ls.length → (ls.getD k []).length ≤ 12) : anyL ls = false := by
  unfold anyL
  rw [List.any_eq_false]
  intro w hw
  obtain ⟨k, hk⟩ := List.getElem?_of_mem hw
  have h3 := h2 k (List.getElem?_eq_some_iff.1 hk).1
  have e : ls.getD k [] = w := by simp [List.getD, hk]
  rw [e] at h3
  simp only [decide_eq_true_eq]; omega
def g8 (m : Mly) : Bool := decide (12 < (m.nx.length : Int)) || decide (12 < (m.ot.length : Int)) || decide (6 < m.inp) || anyL m.nx || anyL m.ot
theorem rM_take_nx {m : Mly} {is : List Int} {s : Nat} (h : s < m.nx.length) : (rM m is).nx.take (s + 1) = (rM m is).nx.take s ++ [is.map fun i => (m.nx.getD s []).getD i.toNat 0] := take_map_succ _ [] h
theorem rM_take_ot {m : Mly} {is : List Int} {s : Nat} (h : s < m.ot.length) : (rM m is).ot.take (s + 1) = (rM m is).ot.take s ++ [is.map fun i => (m.ot.getD s []).getD i.toNat 0] := take_map_succ _ [] h
theorem oM_take {m : Mly} {os : List Int} {s : Nat} (h : s < m.ot.length) : (oM m os).ot.take (s + 1) = (oM m os).ot.take s ++ [(m.ot.getD s []).map fun o => os.getD o.toNat 0] := take_map_succ _ [] h
theorem oM_f (m : Mly) (os : List Int) : (oM m os).inp = m.inp ∧ (oM m os).st = m.st ∧ (oM m os).nx = m.nx := ⟨rfl, rfl, rfl⟩
theorem rM_f (m : Mly) (is : List Int) : (rM m is).inp = is.length ∧ (rM m is).st = m.st := ⟨rfl, rfl⟩
end Go.AV
namespace Go.Proofs.Ytfbnhgefkdhiaaa
open Go Go.AV
open Nat (reduceEqDiff reduceAdd reduceLeDiff reduceLT reduceMul reduceSub)
open List (set_cons_zero set_cons_succ)
set_option maxRecDepth 100000 in
theorem fc_c (a b : Mly) (q : PP) (x : Nat) (ha : MOK a) (hb : MOK b) (hq : IP a b q) (hg : gr a < b.inp) (hx : x < a.inp.toNat) : PURE Try.prog 37 [.agg [.int .i64 q.1, .int .i64 q.2], .one (.int .i64 (x : Int)), .one (.pat (.pair (.int .i64) (.pair (.int .i64) (.pair (.list (.list (.int .i64))) (.pair (.list (.list (.int .i64))) .unit)))) (a.inp, (a.st, (a.nx, (a.ot, ())))) 0), .one (.pat (.pair (.int .i64) (.pair (.int .i64) (.pair (.list (.list (.int .i64))) (.pair (.list (.list (.int .i64))) .unit)))) (b.inp, (b.st, (b.nx, (b.ot, ())))) 0)] (.agg [.int .i64 (FC a b q x).1.1, .int .i64 (FC a b q x).1.2, .int .i64 (FC a b q x).2]) := by
  obtain ⟨⟨hq1, hq2⟩, hq3, hq4⟩ := id hq; have hao := ha.ol; have hbo := hb.ol; have hai := ha.i2; have hbi := hb.i2; have hai1 := ha.i1; have hbi1 := hb.i1; have h1 := ha.rl q.1.toNat (by omega); have h2 := ha.ql q.1.toNat (by omega); have h3 := hb.rl q.2.toNat (by omega); have h4 := hb.ql q.2.toNat (by omega)
  have hoc := out_gr ha ⟨hq1, hq2⟩ (a := (x : Int)) ⟨by omega, by omega⟩; have hoc2 : 0 ≤ (a.ot.getD q.1.toNat []).getD x 0 ∧ (a.ot.getD q.1.toNat []).getD x 0 ≤ gr a := hoc
  refine pure_of_le Try.func37 rfl (by kernel_rfl) (Nat.le_of_ble_eq_true rfl) rfl fun C hP hN hB => ?_
  replace hN : C.N = 46 := hN
  simp only [argEnv, reduceAdd]
  refine awp_seq_k fun K1 hK1 => ?_
  refine awp_reg hP hN rfl ?_
  iterate 2 (refine rg_step rfl fun K0 hK0 => ?_; simp only [zE, op1, ev, lkp, avOf, acOf, opBox, cellsAV, opAlloc, reduceCtorEq, reduceEqDiff, reduceAdd, reduceLeDiff, reduceLT, reduceMul, reduceSub, Try.fl51, Try.st51, Try.st53, Try.td51, Try.td53]; (repeat refine And.intro (by first | omega | assumption | exact rfl) ?_); (first | refine hK0 _ ?_ | refine Or.inl (hK0 _ ?_)); clear hK0 K0; simp only [put, app, setAll, trOf, zE, zS, reduceAdd])
  refine rg_nil ?_
  refine hK1 _ ?_; clear hK1; refine awp_keep [0, 1, 2, 3, 4, 6] ?_; simp only [keepEnv, lkp, zE, reduceCtorEq, reduceEqDiff, argEnv, reduceAdd]
  refine awp_seq_k fun K2 hK2 => ?_
  refine awp_reg hP hN rfl ?_
  iterate 10 (refine rg_step rfl fun K0 hK0 => ?_; simp only [zE, op1, ev, lkp, avOf, acOf, opFieldAddr, opLoad, Nat.mul_one, readAC, isAggK, acs, Ty.dflt, zG, cellsAt, opIndexAddr, Ty.size, ne_eq, not_false_eq_true, Int.natCast_one, Int.mul_one, reduceCtorEq, reduceEqDiff, reduceAdd, reduceLeDiff, reduceLT, reduceMul, reduceSub, Try.el22, Try.el33, Try.fl51, Try.st24, Try.st51, Try.td22, Try.td24, Try.td3, Try.td33, Try.td51]; (repeat refine And.intro (by first | omega | assumption | exact rfl) ?_); (first | refine hK0 _ ?_ | refine Or.inl (hK0 _ ?_)); clear hK0 K0; simp only [put, app, setAll, trOf, zE, zS, reduceAdd])
  refine rg_nil ?_
  refine hK2 _ ?_; clear hK2; refine awp_keep [0, 1, 2, 3, 4, 6, 7] ?_; simp only [keepEnv, lkp, zE, reduceCtorEq, reduceEqDiff, argEnv, reduceAdd]
  refine awp_seq_k fun K3 hK3 => ?_
  refine awp_drw hP hN Try.mixed rfl ?_
  iterate 30 (refine rg_step rfl fun K0 hK0 => ?_; simp only [zE, op1, ev, lkp, avOf, acOf, opFieldAddr, opLoad, Nat.mul_one, readAC, isAggK, acs, Ty.dflt, zG, cellsAt, opIndexAddr, Ty.size, ne_eq, not_false_eq_true, Int.natCast_one, Int.mul_one, opBuild, fillAC, writeAC, cellsAV, opStore, datOf, reduceCtorEq, reduceEqDiff, reduceAdd, reduceLeDiff, reduceLT, reduceMul, reduceSub, Try.el22, Try.el33, Try.fl51, Try.st24, Try.st51, Try.st53, Try.td1, Try.td2, Try.td22, Try.td24, Try.td3, Try.td33, Try.td51, Try.td53]; (repeat refine And.intro (by first | omega | assumption | exact rfl) ?_); (first | refine hK0 _ ?_ | refine Or.inl (hK0 _ ?_)); clear hK0 K0; simp only [put, app, setAll, trOf, zE, zS, reduceAdd])
  refine rg_nil ?_
  refine ⟨by kernel_rfl, ?_⟩
  refine hK3 _ ?_; clear hK3; refine awp_keep [0, 1, 2, 3, 4, 6, 7] ?_; simp only [keepEnv, lkp, zE, reduceCtorEq, reduceEqDiff, argEnv, reduceAdd]
  refine awp_ret ?_
  refine ⟨by first | exact .inl rfl | exact .inr rfl, _, rfl, ?_⟩; simp only [fzV, fz1, fzC, List.map_cons, List.map_nil, keepEnv, lkp, zE, reduceCtorEq, reduceEqDiff, argEnv, reduceAdd]
  refine VLE.of_eq ?_
  rfl
end Go.Proofs.Ytfbnhgefkdhiaaa
namespace Go.Proofs.Ytfbnhgefkdhiaaa
open Go Go.AV
open Nat (reduceEqDiff reduceAdd reduceLeDiff reduceLT reduceMul reduceSub)
open List (set_cons_zero set_cons_succ)
set_option maxRecDepth 100000 in
theorem gmax_c (xs : List Int) (h0 : 0 < xs.length) : PURE Try.prog 50 [.one (.list (.int .i64) xs)] (.one (.int .i64 (mxL xs))) := by
  refine pure_of_le Try.func50 rfl (by kernel_rfl) (Nat.le_of_ble_eq_true rfl) rfl fun C hP hN hB => ?_
  replace hN : C.N = 25 := hN
  simp only [argEnv, reduceAdd]
  refine awp_fit 0 rfl fun hf0 => ?_; simp only [lkp, if_true, if_false, reduceCtorEq, reduceEqDiff, eq_self, Nat.one_ne_zero, Nat.zero_ne_one, fitV, fitC, fitL, Fit, and_true, implies_true, true_and] at hf0
  refine awp_seq_k fun K1 hK1 => ?_
  refine awp_reg hP hN rfl ?_
  (refine rg_step rfl fun K0 hK0 => ?_; simp only [zE, op1, ev, lkp, avOf, acOf, ev, reduceCtorEq, reduceEqDiff, reduceAdd, reduceLeDiff, reduceLT, reduceMul, reduceSub, Try.td3]; (repeat refine And.intro (by first | omega | assumption | exact rfl) ?_); (first | refine hK0 _ ?_ | refine Or.inl (hK0 _ ?_)); clear hK0 K0; simp only [put, app, setAll, trOf, zE, zS, reduceAdd])
  refine rg_nil ?_
  refine hK1 _ ?_; clear hK1; refine awp_keep [0, 2] ?_; simp only [keepEnv, lkp, zE, reduceCtorEq, reduceEqDiff, argEnv, reduceAdd]
  refine awp_seq_k fun K2 hK2 => ?_
  refine awp_seq_k fun K3 hK3 => ?_
  refine awp_reg hP hN rfl ?_
  iterate 3 (refine rg_step rfl fun K0 hK0 => ?_; simp only [zE, op1, ev, lkp, avOf, acOf, opCallAny, opMM, opLen, lenAC, lenOk, fpAC, Nat.div_one, opAppend, srcOf, Ty.size, datOf, dite_true, opBin, arith, inK_i64, eqACs, eqAC, reduceCtorEq, reduceEqDiff, reduceAdd, reduceLeDiff, reduceLT, reduceMul, reduceSub, Try.el33, Try.td3, Try.td33, Try.td4]; (repeat refine And.intro (by first | omega | assumption | exact rfl) ?_); (first | refine hK0 _ ?_ | refine Or.inl (hK0 _ ?_)); clear hK0 K0; simp only [put, app, setAll, trOf, zE, zS, reduceAdd])
  refine rg_nil ?_
  refine hK3 _ ?_; clear hK3; refine awp_keep [0, 2, 7] ?_; simp only [keepEnv, lkp, zE, reduceCtorEq, reduceEqDiff, argEnv, reduceAdd]
  refine awp_cond (by simp only [ev, keepEnv, lkp, zE, reduceCtorEq, reduceEqDiff, argEnv, reduceAdd]; exact rfl) (fun hc4 => ?_) (fun hc4 => ?_)
  · exfalso; (try simp only [zB, reduceCtorEq] at hc4); all_goals (first | (cases hc4; done) | omega | (simp at hc4; done) | (simp_all; done))
  · (try simp only [zB, reduceCtorEq] at hc4)
    refine awp_skip ?_
    refine hK2 _ ?_; clear hK2; refine awp_keep [0, 2, 7] ?_; simp only [keepEnv, lkp, zE, reduceCtorEq, reduceEqDiff, argEnv, reduceAdd]
    refine awp_seq_k fun K5 hK5 => ?_
    refine awp_reg hP hN rfl ?_
    iterate 4 (refine rg_step rfl fun K0 hK0 => ?_; simp only [zE, op1, ev, lkp, avOf, acOf, opIndexAddr, zG, Ty.dflt, Ty.size, Nat.mul_one, ne_eq, not_false_eq_true, Int.natCast_one, Int.mul_one, opLoad, readAC, isAggK, acs, cellsAt, reduceCtorEq, reduceEqDiff, reduceAdd, reduceLeDiff, reduceLT, reduceMul, reduceSub, Try.el33, Try.td3, Try.td33]; (repeat refine And.intro (by first | omega | assumption | exact rfl) ?_); (first | refine hK0 _ ?_ | refine Or.inl (hK0 _ ?_)); clear hK0 K0; simp only [put, app, setAll, trOf, zE, zS, reduceAdd])
    refine rg_nil ?_
    refine hK5 _ ?_; clear hK5; refine awp_keep [0, 2, 3, 7] ?_; simp only [keepEnv, lkp, zE, reduceCtorEq, reduceEqDiff, argEnv, reduceAdd]
    refine awp_seq_k fun K6 hK6 => ?_
    refine awp_seq_k fun K7 hK7 => ?_
    refine awp_reg hP hN rfl ?_
    (refine rg_step rfl fun K0 hK0 => ?_; simp only [zE, op1, ev, lkp, avOf, acOf, ev, reduceCtorEq, reduceEqDiff, reduceAdd, reduceLeDiff, reduceLT, reduceMul, reduceSub, Try.td3]; (repeat refine And.intro (by first | omega | assumption | exact rfl) ?_); (first | refine hK0 _ ?_ | refine Or.inl (hK0 _ ?_)); clear hK0 K0; simp only [put, app, setAll, trOf, zE, zS, reduceAdd])
    refine rg_nil ?_
    refine hK7 _ ?_; clear hK7; refine awp_keep [0, 2, 3, 4, 7] ?_; simp only [keepEnv, lkp, zE, reduceCtorEq, reduceEqDiff, argEnv, reduceAdd]
    refine awp_block ?_
    refine awp_loop (fun n8 s8 => ∃ (k : Nat), (1 ≤ k) ∧ (k ≤ xs.length) ∧ n8 = xs.length - k ∧ s8 = { env := [(0, .one (.list (.int .i64) xs)), (3, .one (.int .i64 ((xs.take k).foldl max (xs.getD 0 0)))), (4, .one (.int .i64 (k : Int)))], L := [] }) ?_ ?_
    · refine ⟨_, _, sub_keep [0, 3, 4], 1, Nat.le_refl _, h0, rfl, ?_⟩
      rw [mx_one h0]; rfl
    · rintro n8 s8 ⟨k, hk1, hk, rfl, rfl⟩
      refine awp_seq_k fun K9 hK9 => ?_
      refine awp_seq_k fun K10 hK10 => ?_
      refine awp_reg hP hN rfl ?_
      iterate 4 (refine rg_step rfl fun K0 hK0 => ?_; simp only [zE, op1, ev, lkp, avOf, acOf, opCallAny, opMM, opLen, lenAC, lenOk, fpAC, Nat.div_one, opAppend, srcOf, Ty.size, datOf, dite_true, opBin, arith, inK_i64, eqACs, eqAC, reduceCtorEq, reduceEqDiff, reduceAdd, reduceLeDiff, reduceLT, reduceMul, reduceSub, Try.el33, Try.td3, Try.td33, Try.td4]; (repeat refine And.intro (by first | omega | assumption | exact rfl) ?_); (first | refine hK0 _ ?_ | refine Or.inl (hK0 _ ?_)); clear hK0 K0; simp only [put, app, setAll, trOf, zE, zS, reduceAdd])
      refine rg_nil ?_
      refine hK10 _ ?_; clear hK10; refine awp_keep [0, 3, 4, 15] ?_; simp only [keepEnv, lkp, zE, reduceCtorEq, reduceEqDiff, argEnv, reduceAdd]
      refine awp_cond (by simp only [ev, keepEnv, lkp, zE, reduceCtorEq, reduceEqDiff, argEnv, reduceAdd]; exact rfl) (fun hc11 => ?_) (fun hc11 => ?_)
      · (try simp only [zB, reduceCtorEq] at hc11)
        refine awp_skip ?_
        refine hK9 _ ?_; clear hK9; refine awp_keep [0, 3, 4, 15] ?_; simp only [keepEnv, lkp, zE, reduceCtorEq, reduceEqDiff, argEnv, reduceAdd]
        refine awp_seq_k fun K12 hK12 => ?_
        refine awp_block ?_
        refine awp_reg hP hN rfl ?_
        iterate 7 (refine rg_step rfl fun K0 hK0 => ?_; simp only [zE, op1, ev, lkp, avOf, acOf, opIndexAddr, zG, Ty.dflt, Ty.size, Nat.mul_one, ne_eq, not_false_eq_true, Int.natCast_one, Int.mul_one, opLoad, readAC, isAggK, acs, cellsAt, opCallAny, opMM, opLen, lenAC, lenOk, fpAC, Nat.div_one, opAppend, srcOf, datOf, dite_true, reduceCtorEq, reduceEqDiff, reduceAdd, reduceLeDiff, reduceLT, reduceMul, reduceSub, Try.el33, Try.td3, Try.td33]; (repeat refine And.intro (by first | omega | assumption | exact rfl) ?_); (first | refine hK0 _ ?_ | refine Or.inl (hK0 _ ?_)); clear hK0 K0; simp only [put, app, setAll, trOf, zE, zS, reduceAdd])
        refine rg_nil ?_
        refine hK12 _ ?_; clear hK12; refine awp_keep [0, 3, 4, 15] ?_; simp only [keepEnv, lkp, zE, reduceCtorEq, reduceEqDiff, argEnv, reduceAdd]
        refine awp_reg hP hN rfl ?_
        iterate 3 (refine rg_step rfl fun K0 hK0 => ?_; simp only [zE, op1, ev, lkp, avOf, acOf, opBin, arith, inK_i64, eqACs, eqAC, reduceCtorEq, reduceEqDiff, reduceAdd, reduceLeDiff, reduceLT, reduceMul, reduceSub, Try.td3]; (repeat refine And.intro (by first | omega | assumption | exact rfl) ?_); (first | refine hK0 _ ?_ | refine Or.inl (hK0 _ ?_)); clear hK0 K0; simp only [put, app, setAll, trOf, zE, zS, reduceAdd])
        refine rg_nil ?_
        refine ⟨_, _, ?_, sub_keep [0, 3, 4], k + 1, by omega, by omega, rfl, ?_⟩
        · omega
        · rw [take_succ_D (by omega), List.foldl_append]; rfl
      · (try simp only [zB, reduceCtorEq] at hc11)
        refine awp_exit ?_
        refine hK6 _ ?_; clear hK6; refine awp_keep [0, 3, 4, 15] ?_; simp only [keepEnv, lkp, zE, reduceCtorEq, reduceEqDiff, argEnv, reduceAdd]
        refine awp_seq_k fun K13 hK13 => ?_
        refine awp_reg hP hN rfl ?_
        iterate 2 (refine rg_step rfl fun K0 hK0 => ?_; simp only [zE, op1, ev, lkp, avOf, acOf, ev, reduceCtorEq, reduceEqDiff, reduceAdd, reduceLeDiff, reduceLT, reduceMul, reduceSub, Try.td3]; (repeat refine And.intro (by first | omega | assumption | exact rfl) ?_); (first | refine hK0 _ ?_ | refine Or.inl (hK0 _ ?_)); clear hK0 K0; simp only [put, app, setAll, trOf, zE, zS, reduceAdd])
        refine rg_nil ?_
        refine hK13 _ ?_; clear hK13; refine awp_keep [0, 2, 3, 4, 15] ?_; simp only [keepEnv, lkp, zE, reduceCtorEq, reduceEqDiff, argEnv, reduceAdd]
        refine awp_ret ?_
        refine ⟨by first | exact .inl rfl | exact .inr rfl, _, rfl, ?_⟩; simp only [fzV, fz1, fzC, List.map_cons, List.map_nil, keepEnv, lkp, zE, reduceCtorEq, reduceEqDiff, argEnv, reduceAdd]
        refine VLE.of_eq ?_
        refine congrArg (fun n => AV.one (AC.int IntKind.i64 n)) ?_
        rw [show k = xs.length by omega, List.take_length]; rfl
end Go.Proofs.Ytfbnhgefkdhiaaa
namespace Go.Proofs.Ytfbnhgefkdhiaaa
open Go Go.AV
open Nat (reduceEqDiff reduceAdd reduceLeDiff reduceLT reduceMul reduceSub)
open List (set_cons_zero set_cons_succ)
set_option maxRecDepth 100000 in
theorem great1_c (m : Mly) (hm : MOK m) : PURE Try.prog 31 [m.av] (.one (.int .i64 (gr m))) := by
  have hol := hm.ol; have hi1 := hm.i1; have hn2 := hm.n2
  refine pure_of_le Try.func31 rfl (by kernel_rfl) (Nat.le_of_ble_eq_true rfl) rfl fun C hP hN hB => ?_
  replace hN : C.N = 19 := hN
  simp only [argEnv, reduceAdd]
  refine awp_seq_k fun K1 hK1 => ?_
  refine awp_reg hP hN rfl ?_
  iterate 2 (refine rg_step rfl fun K0 hK0 => ?_; simp only [zE, op1, ev, lkp, avOf, acOf, opBox, cellsAV, reduceCtorEq, reduceEqDiff, reduceAdd, reduceLeDiff, reduceLT, reduceMul, reduceSub, Try.st24, Try.td24, Try.td3, Mly.av]; (repeat refine And.intro (by first | omega | assumption | exact rfl) ?_); (first | refine hK0 _ ?_ | refine Or.inl (hK0 _ ?_)); clear hK0 K0; simp only [put, app, setAll, trOf, zE, zS, reduceAdd])
  refine rg_nil ?_
  refine hK1 _ ?_; clear hK1; refine awp_keep [0, 1, 2] ?_; simp only [keepEnv, lkp, zE, reduceCtorEq, reduceEqDiff, argEnv, reduceAdd]
  refine awp_seq_k fun K2 hK2 => ?_
  refine awp_reg hP hN rfl ?_
  (refine rg_step rfl fun K0 hK0 => ?_; simp only [zE, op1, ev, lkp, avOf, acOf, ev, reduceCtorEq, reduceEqDiff, reduceAdd, reduceLeDiff, reduceLT, reduceMul, reduceSub, Try.td3, Mly.av]; (repeat refine And.intro (by first | omega | assumption | exact rfl) ?_); (first | refine hK0 _ ?_ | refine Or.inl (hK0 _ ?_)); clear hK0 K0; simp only [put, app, setAll, trOf, zE, zS, reduceAdd])
  refine rg_nil ?_
  refine hK2 _ ?_; clear hK2; refine awp_keep [0, 1, 2, 3] ?_; simp only [keepEnv, lkp, zE, reduceCtorEq, reduceEqDiff, argEnv, reduceAdd]
  refine awp_seq_k fun K3 hK3 => ?_
  refine awp_seq_k fun K4 hK4 => ?_
  refine awp_reg hP hN rfl ?_
  iterate 4 (refine rg_step rfl fun K0 hK0 => ?_; simp only [zE, op1, ev, lkp, avOf, acOf, opFieldAddr, opLoad, Nat.mul_one, readAC, isAggK, acs, Ty.dflt, zG, cellsAt, opCallAny, opMM, opLen, lenAC, lenOk, fpAC, Nat.div_one, opAppend, srcOf, Ty.size, datOf, dite_true, reduceCtorEq, reduceEqDiff, reduceAdd, reduceLeDiff, reduceLT, reduceMul, reduceSub, Try.el22, Try.st24, Try.td22, Try.td24, Try.td3, Mly.av]; (repeat refine And.intro (by first | omega | assumption | exact rfl) ?_); (first | refine hK0 _ ?_ | refine Or.inl (hK0 _ ?_)); clear hK0 K0; simp only [put, app, setAll, trOf, zE, zS, reduceAdd])
  refine rg_nil ?_
  refine hK4 _ ?_; clear hK4; refine awp_keep [0, 1, 2, 3, 7, 8, 9] ?_; simp only [keepEnv, lkp, zE, reduceCtorEq, reduceEqDiff, argEnv, reduceAdd]
  refine awp_block ?_
  refine awp_loop (fun n5 s5 => ∃ (k : Nat), (k ≤ m.ot.length) ∧ n5 = m.ot.length - k ∧ s5 = { env := [(3, .one (.int .i64 ((m.ot.take k).flatten.foldl max 0))), (7, .one (.list (.list (.int .i64)) m.ot)), (8, .one (.int .i64 (m.ot.length : Int))), (9, .one (.int .i64 (k : Int)))], L := [.vars 24 [.int .i64 m.inp, .int .i64 m.st, .list (.list (.int .i64)) m.nx, .list (.list (.int .i64)) m.ot]] }) ?_ ?_
  · refine ⟨_, _, sub_keep [3, 7, 8, 9], 0, Nat.zero_le _, rfl, rfl⟩
  · rintro n5 s5 ⟨k, hk, rfl, rfl⟩
    refine awp_seq_k fun K6 hK6 => ?_
    refine awp_reg hP hN rfl ?_
    (refine rg_step rfl fun K0 hK0 => ?_; simp only [zE, op1, ev, lkp, avOf, acOf, opBin, arith, inK_i64, eqACs, eqAC, reduceCtorEq, reduceEqDiff, reduceAdd, reduceLeDiff, reduceLT, reduceMul, reduceSub, Try.td3, Mly.av]; (repeat refine And.intro (by first | omega | assumption | exact rfl) ?_); (first | refine hK0 _ ?_ | refine Or.inl (hK0 _ ?_)); clear hK0 K0; simp only [put, app, setAll, trOf, zE, zS, reduceAdd])
    refine rg_nil ?_
    refine hK6 _ ?_; clear hK6; refine awp_keep [3, 7, 8, 9, 10] ?_; simp only [keepEnv, lkp, zE, reduceCtorEq, reduceEqDiff, argEnv, reduceAdd]
    refine awp_seq_k fun K7 hK7 => ?_
    refine awp_cond (by simp only [ev, keepEnv, lkp, zE, reduceCtorEq, reduceEqDiff, argEnv, reduceAdd]; exact rfl) (fun hc8 => ?_) (fun hc8 => ?_)
    · (try simp only [zB, reduceCtorEq] at hc8)
      refine awp_skip ?_
      refine hK7 _ ?_; clear hK7; refine awp_keep [3, 7, 8, 9, 10] ?_; simp only [keepEnv, lkp, zE, reduceCtorEq, reduceEqDiff, argEnv, reduceAdd]
      refine awp_seq_k fun K9 hK9 => ?_
      refine awp_block ?_
      refine awp_seq_k fun K10 hK10 => ?_
      refine awp_reg hP hN rfl ?_
      iterate 3 (refine rg_step rfl fun K0 hK0 => ?_; simp only [zE, op1, ev, lkp, avOf, acOf, opIndexAddr, zG, Ty.dflt, Ty.size, Nat.mul_one, ne_eq, not_false_eq_true, Int.natCast_one, Int.mul_one, opLoad, readAC, isAggK, acs, cellsAt, reduceCtorEq, reduceEqDiff, reduceAdd, reduceLeDiff, reduceLT, reduceMul, reduceSub, Try.el22, Try.el33, Try.td22, Try.td33, Mly.av]; (repeat refine And.intro (by first | omega | assumption | exact rfl) ?_); (first | refine hK0 _ ?_ | refine Or.inl (hK0 _ ?_)); clear hK0 K0; simp only [put, app, setAll, trOf, zE, zS, reduceAdd])
      refine rg_nil ?_
      refine hK10 _ ?_; clear hK10; refine awp_keep [3, 5, 7, 8, 9, 10] ?_; simp only [keepEnv, lkp, zE, reduceCtorEq, reduceEqDiff, argEnv, reduceAdd]
      have hql := hm.ql k (by omega); have hpos : 0 < (m.ot.getD k []).length := by omega
      refine awp_reg hP hN rfl ?_
      iterate 2 (refine rg_step rfl fun K0 hK0 => ?_; simp only [zE, op1, ev, lkp, avOf, acOf, ev, reduceCtorEq, reduceEqDiff, reduceAdd, reduceLeDiff, reduceLT, reduceMul, reduceSub, Try.el33, Try.td3, Try.td33, Mly.av]; (repeat refine And.intro (by first | omega | assumption | exact rfl) ?_); (first | refine hK0 _ ?_ | refine Or.inl (hK0 _ ?_)); clear hK0 K0; simp only [put, app, setAll, trOf, zE, zS, reduceAdd])
      refine rg_step rfl fun K0 hK0 => ?_
      refine op_call (h := call_of_pure (gmax_c (m.ot.getD k []) hpos)) rfl rfl (by first | exact rfl | (simp only [ev, keepEnv, lkp, zE, reduceCtorEq, reduceEqDiff, argEnv, reduceAdd]; exact rfl)) (by simp only [zE, zG, op1, ev, lkp, avOf, acOf, cellsAV, acs, capAV, mv1, mvC, Ty.dflt, reduceCtorEq, reduceEqDiff, reduceAdd, reduceLeDiff, reduceLT, reduceMul, reduceSub, Mly.av]) ?_
      refine hK0 _ ?_; clear hK0 K0; simp only [put, app, setAll, trOf, zE, zS, reduceAdd]
      iterate 2 (refine rg_step rfl fun K0 hK0 => ?_; simp only [zE, op1, ev, lkp, avOf, acOf, opCallAny, opMM, opLen, lenAC, lenOk, fpAC, Nat.div_one, opAppend, srcOf, Ty.size, datOf, dite_true, reduceCtorEq, reduceEqDiff, reduceAdd, reduceLeDiff, reduceLT, reduceMul, reduceSub, Try.td3, Mly.av]; (repeat refine And.intro (by first | omega | assumption | exact rfl) ?_); (first | refine hK0 _ ?_ | refine Or.inl (hK0 _ ?_)); clear hK0 K0; simp only [put, app, setAll, trOf, zE, zS, reduceAdd])
      refine rg_nil ?_
      refine hK9 _ ?_; clear hK9; refine awp_keep [3, 5, 7, 8, 9, 10] ?_; simp only [keepEnv, lkp, zE, reduceCtorEq, reduceEqDiff, argEnv, reduceAdd]
      refine awp_reg hP hN rfl ?_
      iterate 2 (refine rg_step rfl fun K0 hK0 => ?_; simp only [zE, op1, ev, lkp, avOf, acOf, opBin, arith, inK_i64, eqACs, eqAC, reduceCtorEq, reduceEqDiff, reduceAdd, reduceLeDiff, reduceLT, reduceMul, reduceSub, Try.td3, Mly.av]; (repeat refine And.intro (by first | omega | assumption | exact rfl) ?_); (first | refine hK0 _ ?_ | refine Or.inl (hK0 _ ?_)); clear hK0 K0; simp only [put, app, setAll, trOf, zE, zS, reduceAdd])
      refine rg_nil ?_
      refine ⟨_, _, ?_, sub_keep [3, 7, 8, 9], k + 1, by omega, rfl, ?_⟩
      · omega
      · rw [gr_take_succ (by omega), ← mxL_max hpos]; rfl
    · (try simp only [zB, reduceCtorEq] at hc8)
      refine awp_exit ?_
      refine hK3 _ ?_; clear hK3; refine awp_keep [3, 7, 8, 9, 10] ?_; simp only [keepEnv, lkp, zE, reduceCtorEq, reduceEqDiff, argEnv, reduceAdd]
      refine awp_seq_k fun K11 hK11 => ?_
      refine awp_reg hP hN rfl ?_
      iterate 2 (refine rg_step rfl fun K0 hK0 => ?_; simp only [zE, op1, ev, lkp, avOf, acOf, ev, reduceCtorEq, reduceEqDiff, reduceAdd, reduceLeDiff, reduceLT, reduceMul, reduceSub, Try.td3, Mly.av]; (repeat refine And.intro (by first | omega | assumption | exact rfl) ?_); (first | refine hK0 _ ?_ | refine Or.inl (hK0 _ ?_)); clear hK0 K0; simp only [put, app, setAll, trOf, zE, zS, reduceAdd])
      refine rg_nil ?_
      refine hK11 _ ?_; clear hK11; refine awp_keep [2, 3, 7, 8, 9, 10] ?_; simp only [keepEnv, lkp, zE, reduceCtorEq, reduceEqDiff, argEnv, reduceAdd]
      refine awp_ret ?_
      refine ⟨by first | exact .inl rfl | exact .inr rfl, _, rfl, ?_⟩; simp only [fzV, fz1, fzC, List.map_cons, List.map_nil, keepEnv, lkp, zE, reduceCtorEq, reduceEqDiff, argEnv, reduceAdd, Mly.av]
      refine VLE.of_eq ?_
      refine congrArg (fun n => AV.one (AC.int IntKind.i64 n)) ?_
      rw [show k = m.ot.length by omega, List.take_length]; rfl
end Go.Proofs.Ytfbnhgefkdhiaaa
namespace Go.Proofs.Ytfbnhgefkdhiaaa
open Go Go.AV
open Nat (reduceEqDiff reduceAdd reduceLeDiff reduceLT reduceMul reduceSub)
open List (set_cons_zero set_cons_succ)
set_option maxRecDepth 100000 in
theorem casc_c (a b : Mly) : PURE Try.prog 16 [a.av, b.av] (.tup [(caM a b).av, .one (.int .i64 (caE a b))]) := by
  refine pure_of_le Try.func16 rfl (by kernel_rfl) (Nat.le_of_ble_eq_true rfl) rfl fun C hP hN hB => ?_
  replace hN : C.N = 31 := hN
  simp only [argEnv, reduceAdd]
  refine awp_seq_k fun K1 hK1 => ?_
  refine awp_reg hP hN rfl ?_
  iterate 4 (refine rg_step rfl fun K0 hK0 => ?_; simp only [zE, op1, ev, lkp, avOf, acOf, opBox, cellsAV, opAlloc, reduceCtorEq, reduceEqDiff, reduceAdd, reduceLeDiff, reduceLT, reduceMul, reduceSub, Try.st24, Try.td24, Try.td27, Mly.av]; (repeat refine And.intro (by first | omega | assumption | exact rfl) ?_); (first | refine hK0 _ ?_ | refine Or.inl (hK0 _ ?_)); clear hK0 K0; simp only [put, app, setAll, trOf, zE, zS, reduceAdd])
  refine rg_nil ?_
  refine hK1 _ ?_; clear hK1; refine awp_keep [0, 1, 2, 3, 4, 5] ?_; simp only [keepEnv, lkp, zE, reduceCtorEq, reduceEqDiff, argEnv, reduceAdd]
  refine awp_seq_k fun K2 hK2 => ?_
  refine awp_seq_k fun K3 hK3 => ?_
  refine awp_reg hP hN rfl ?_
  iterate 2 (refine rg_step rfl fun K0 hK0 => ?_; simp only [zE, op1, ev, lkp, avOf, acOf, opLoad, Nat.mul_one, readAC, isAggK, acs, Ty.dflt, zG, cellsAt, reduceCtorEq, reduceEqDiff, reduceAdd, reduceLeDiff, reduceLT, reduceMul, reduceSub, Try.st24, Try.td24, Mly.av]; (repeat refine And.intro (by first | omega | assumption | exact rfl) ?_); (first | refine hK0 _ ?_ | refine Or.inl (hK0 _ ?_)); clear hK0 K0; simp only [put, app, setAll, trOf, zE, zS, reduceAdd])
  refine rg_step rfl fun K0 hK0 => ?_
  refine op_call (h := call_of_pure (both_c a b)) rfl rfl (by first | exact rfl | (simp only [ev, keepEnv, lkp, zE, reduceCtorEq, reduceEqDiff, argEnv, reduceAdd]; exact rfl)) (by simp only [zE, zG, op1, ev, lkp, avOf, acOf, cellsAV, acs, capAV, mv1, mvC, Ty.dflt, reduceCtorEq, reduceEqDiff, reduceAdd, reduceLeDiff, reduceLT, reduceMul, reduceSub, Mly.av]) ?_
  refine hK0 _ ?_; clear hK0 K0; simp only [put, app, setAll, trOf, zE, zS, reduceAdd]
  (refine rg_step rfl fun K0 hK0 => ?_; simp only [zE, op1, ev, lkp, avOf, acOf, ev, reduceCtorEq, reduceEqDiff, reduceAdd, reduceLeDiff, reduceLT, reduceMul, reduceSub, Try.td27, Mly.av]; (repeat refine And.intro (by first | omega | assumption | exact rfl) ?_); (first | refine hK0 _ ?_ | refine Or.inl (hK0 _ ?_)); clear hK0 K0; simp only [put, app, setAll, trOf, zE, zS, reduceAdd])
  refine rg_nil ?_
  refine hK3 _ ?_; clear hK3; refine awp_keep [0, 1, 2, 3, 4, 5, 6] ?_; simp only [keepEnv, lkp, zE, reduceCtorEq, reduceEqDiff, argEnv, reduceAdd]
  refine awp_seq_k fun K4 hK4 => ?_
  refine awp_reg hP hN rfl ?_
  iterate 2 (refine rg_step rfl fun K0 hK0 => ?_; simp only [zE, op1, ev, lkp, avOf, acOf, opBin, arith, inK_i64, eqACs, eqAC, reduceCtorEq, reduceEqDiff, reduceAdd, reduceLeDiff, reduceLT, reduceMul, reduceSub, Try.td27, Try.td4, Mly.av]; (repeat refine And.intro (by first | omega | assumption | exact rfl) ?_); (first | refine hK0 _ ?_ | refine Or.inl (hK0 _ ?_)); clear hK0 K0; simp only [put, app, setAll, trOf, zE, zS, reduceAdd])
  refine rg_nil ?_
  refine hK4 _ ?_; clear hK4; refine awp_keep [0, 1, 2, 3, 4, 5, 6, 11] ?_; simp only [keepEnv, lkp, zE, reduceCtorEq, reduceEqDiff, argEnv, reduceAdd]
  refine awp_cond (by simp only [ev, keepEnv, lkp, zE, reduceCtorEq, reduceEqDiff, argEnv, reduceAdd]; exact rfl) (fun hc5 => ?_) (fun hc5 => ?_)
  · (try simp only [zB, reduceCtorEq] at hc5)
    refine awp_seq_k fun K6 hK6 => ?_
    refine awp_reg hP hN rfl ?_
    iterate 4 (refine rg_step rfl fun K0 hK0 => ?_; simp only [zE, op1, ev, lkp, avOf, acOf, opBuild, fillAC, writeAC, cellsAV, opStore, Nat.mul_one, datOf, acs, Ty.size, Ty.dflt, zG, reduceCtorEq, reduceEqDiff, reduceAdd, reduceLeDiff, reduceLT, reduceMul, reduceSub, Try.st24, Try.td24, Try.td27, Mly.av]; (repeat refine And.intro (by first | omega | assumption | exact rfl) ?_); (first | refine hK0 _ ?_ | refine Or.inl (hK0 _ ?_)); clear hK0 K0; simp only [put, app, setAll, trOf, zE, zS, reduceAdd])
    refine rg_nil ?_
    refine hK6 _ ?_; clear hK6; refine awp_keep [0, 1, 2, 3, 4, 5, 6, 11] ?_; simp only [keepEnv, lkp, zE, reduceCtorEq, reduceEqDiff, argEnv, reduceAdd]
    refine awp_ret ?_
    refine ⟨by first | exact .inl rfl | exact .inr rfl, _, rfl, ?_⟩; simp only [fzV, fz1, fzC, List.map_cons, List.map_nil, keepEnv, lkp, zE, reduceCtorEq, reduceEqDiff, argEnv, reduceAdd, Mly.av]
    first
    | (obtain ⟨e1, e2⟩ := ca_bad (a := a) (b := b) (by assumption); rw [e1, e2]; exact vle_tup ⟨vle1_agg ⟨.refl _, .refl _, cle_nils rfl, cle_nils rfl, trivial⟩, vle1_one (.refl _), trivial⟩)
    | (obtain ⟨e1, e2⟩ := ca_big h20 (by omega); rw [e1, e2]; exact vle_tup ⟨vle1_agg ⟨.refl _, .refl _, cle_nils rfl, cle_nils rfl, trivial⟩, vle1_one (.refl _), trivial⟩)
    | (obtain ⟨e1, e2⟩ := ca_good h20 (by omega); rw [e1, e2]; exact VLE.of_eq rfl)
  · (try simp only [zB, reduceCtorEq] at hc5)
    have h20 : twoE a b = 0 := by omega
    obtain ⟨ha, hb⟩ := twoE_ok h20
    have hga := gr_nn a; have hgb := gr_nn b; have hga2 := gr_le ha; have hgb2 := gr_le hb; have hai := ha.i2; have hbi := hb.i2; have hai1 := ha.i1; have hbi1 := hb.i1
    refine awp_skip ?_
    refine hK2 _ ?_; clear hK2; refine awp_keep [0, 1, 2, 3, 4, 5, 6, 11] ?_; simp only [keepEnv, lkp, zE, reduceCtorEq, reduceEqDiff, argEnv, reduceAdd]
    refine awp_seq_k fun K7 hK7 => ?_
    refine awp_seq_k fun K8 hK8 => ?_
    refine awp_drw hP hN Try.mixed rfl ?_
    (refine rg_step rfl fun K0 hK0 => ?_; simp only [zE, op1, ev, lkp, avOf, acOf, opLoad, Nat.mul_one, readAC, isAggK, acs, Ty.dflt, zG, cellsAt, reduceCtorEq, reduceEqDiff, reduceAdd, reduceLeDiff, reduceLT, reduceMul, reduceSub, Try.st24, Try.td24, Mly.av]; (repeat refine And.intro (by first | omega | assumption | exact rfl) ?_); (first | refine hK0 _ ?_ | refine Or.inl (hK0 _ ?_)); clear hK0 K0; simp only [put, app, setAll, trOf, zE, zS, reduceAdd])
    refine rg_step rfl fun K0 hK0 => ?_
    refine op_call (h := call_of_pure (great1_c a ha)) rfl rfl (by first | exact rfl | (simp only [ev, keepEnv, lkp, zE, reduceCtorEq, reduceEqDiff, argEnv, reduceAdd]; exact rfl)) (by simp only [zE, zG, op1, ev, lkp, avOf, acOf, cellsAV, acs, capAV, mv1, mvC, Ty.dflt, reduceCtorEq, reduceEqDiff, reduceAdd, reduceLeDiff, reduceLT, reduceMul, reduceSub, Mly.av]) ?_
    refine hK0 _ ?_; clear hK0 K0; simp only [put, app, setAll, trOf, zE, zS, reduceAdd]
    iterate 3 (refine rg_step rfl fun K0 hK0 => ?_; simp only [zE, op1, ev, lkp, avOf, acOf, opFieldAddr, opLoad, Nat.mul_one, readAC, isAggK, acs, Ty.dflt, zG, cellsAt, opBin, arith, inK_i64, eqACs, eqAC, reduceCtorEq, reduceEqDiff, reduceAdd, reduceLeDiff, reduceLT, reduceMul, reduceSub, Try.st24, Try.td24, Try.td3, Try.td4, Mly.av]; (repeat refine And.intro (by first | omega | assumption | exact rfl) ?_); (first | refine hK0 _ ?_ | refine Or.inl (hK0 _ ?_)); clear hK0 K0; simp only [put, app, setAll, trOf, zE, zS, reduceAdd])
    refine rg_nil ?_
    refine ⟨by kernel_rfl, ?_⟩
    refine hK8 _ ?_; clear hK8; refine awp_keep [0, 1, 2, 3, 4, 5, 6, 11, 18] ?_; simp only [keepEnv, lkp, zE, reduceCtorEq, reduceEqDiff, argEnv, reduceAdd]
    refine awp_cond (by simp only [ev, keepEnv, lkp, zE, reduceCtorEq, reduceEqDiff, argEnv, reduceAdd]; exact rfl) (fun hc9 => ?_) (fun hc9 => ?_)
    · (try simp only [zB, reduceCtorEq] at hc9)
      refine awp_seq_k fun K10 hK10 => ?_
      refine awp_reg hP hN rfl ?_
      iterate 3 (refine rg_step rfl fun K0 hK0 => ?_; simp only [zE, op1, ev, lkp, avOf, acOf, opBuild, fillAC, writeAC, cellsAV, opStore, Nat.mul_one, datOf, acs, Ty.size, Ty.dflt, zG, reduceCtorEq, reduceEqDiff, reduceAdd, reduceLeDiff, reduceLT, reduceMul, reduceSub, Try.st24, Try.td24, Try.td27, Mly.av]; (repeat refine And.intro (by first | omega | assumption | exact rfl) ?_); (first | refine hK0 _ ?_ | refine Or.inl (hK0 _ ?_)); clear hK0 K0; simp only [put, app, setAll, trOf, zE, zS, reduceAdd])
      refine rg_nil ?_
      refine hK10 _ ?_; clear hK10; refine awp_keep [0, 1, 2, 3, 4, 5, 6, 11, 18] ?_; simp only [keepEnv, lkp, zE, reduceCtorEq, reduceEqDiff, argEnv, reduceAdd]
      refine awp_ret ?_
      refine ⟨by first | exact .inl rfl | exact .inr rfl, _, rfl, ?_⟩; simp only [fzV, fz1, fzC, List.map_cons, List.map_nil, keepEnv, lkp, zE, reduceCtorEq, reduceEqDiff, argEnv, reduceAdd, Mly.av]
      first
      | (obtain ⟨e1, e2⟩ := ca_bad (a := a) (b := b) (by assumption); rw [e1, e2]; exact vle_tup ⟨vle1_agg ⟨.refl _, .refl _, cle_nils rfl, cle_nils rfl, trivial⟩, vle1_one (.refl _), trivial⟩)
      | (obtain ⟨e1, e2⟩ := ca_big h20 (by omega); rw [e1, e2]; exact vle_tup ⟨vle1_agg ⟨.refl _, .refl _, cle_nils rfl, cle_nils rfl, trivial⟩, vle1_one (.refl _), trivial⟩)
      | (obtain ⟨e1, e2⟩ := ca_good h20 (by omega); rw [e1, e2]; exact VLE.of_eq rfl)
    · (try simp only [zB, reduceCtorEq] at hc9)
      have hg : gr a < b.inp := by omega
      refine awp_skip ?_
      refine hK7 _ ?_; clear hK7; refine awp_keep [0, 1, 2, 3, 4, 5, 6, 11, 18] ?_; simp only [keepEnv, lkp, zE, reduceCtorEq, reduceEqDiff, argEnv, reduceAdd]
      refine awp_seq_k fun K11 hK11 => ?_
      refine awp_share 0 (.pair (.int .i64) (.pair (.int .i64) (.pair (.list (.list (.int .i64))) (.pair (.list (.list (.int .i64))) .unit)))) rfl rfl ?_; simp only [List.map_cons, List.map_nil, shV, if_true, zS, if_false, eq_self, reduceEqDiff, reduceCtorEq, Nat.one_ne_zero, Nat.zero_ne_one]
      refine awp_share 1 (.pair (.int .i64) (.pair (.int .i64) (.pair (.list (.list (.int .i64))) (.pair (.list (.list (.int .i64))) .unit)))) rfl rfl ?_; simp only [List.map_cons, List.map_nil, shV, if_true, zS, if_false, eq_self, reduceEqDiff, reduceCtorEq, Nat.one_ne_zero, Nat.zero_ne_one]
      refine awp_reg hP hN rfl ?_
      iterate 8 (refine rg_step rfl fun K0 hK0 => ?_; simp only [zE, op1, ev, lkp, avOf, acOf, opFieldAddr, opLoad, Nat.mul_one, readAC, isAggK, acs, Ty.dflt, zG, cellsAt, opBuild, fillAC, writeAC, cellsAV, opMakeFunc, ptrsOf, capOf, reduceCtorEq, reduceEqDiff, reduceAdd, reduceLeDiff, reduceLT, reduceMul, reduceSub, Try.fl51, Try.st24, Try.st51, Try.td1, Try.td24, Try.td3, Try.td51, Try.td54, Mly.av]; (repeat refine And.intro (by first | omega | assumption | exact rfl) ?_); (first | refine hK0 _ ?_ | refine Or.inl (hK0 _ ?_)); clear hK0 K0; simp only [put, app, setAll, trOf, zE, zS, reduceAdd])
      refine rg_step rfl fun K0 hK0 => ?_
      refine op_call (h := call_of_pure (bbuild_c a.inp.toNat 37 [.pat (.pair (.int .i64) (.pair (.int .i64) (.pair (.list (.list (.int .i64))) (.pair (.list (.list (.int .i64))) .unit)))) (a.inp, (a.st, (a.nx, (a.ot, ())))), .pat (.pair (.int .i64) (.pair (.int .i64) (.pair (.list (.list (.int .i64))) (.pair (.list (.list (.int .i64))) .unit)))) (b.inp, (b.st, (b.nx, (b.ot, ()))))] (FC a b) (a.st, b.st) (IP a b) a.inp (by omega) rfl (by omega) (IP.st ha hb) (FC.keep ha hb hg) (fun q x hq hx => fc_c a b q x ha hb hq hg hx))) rfl rfl (by first | exact rfl | (simp only [ev, keepEnv, lkp, zE, reduceCtorEq, reduceEqDiff, argEnv, reduceAdd]; exact rfl)) (by simp only [zE, zG, op1, ev, lkp, avOf, acOf, cellsAV, acs, capAV, mv1, mvC, Ty.dflt, reduceCtorEq, reduceEqDiff, reduceAdd, reduceLeDiff, reduceLT, reduceMul, reduceSub, Mly.av]) ?_
      refine hK0 _ ?_; clear hK0 K0; simp only [put, app, setAll, trOf, zE, zS, reduceAdd]
      iterate 4 (refine rg_step rfl fun K0 hK0 => ?_; simp only [zE, op1, ev, lkp, avOf, acOf, opExtract, opStore, Nat.mul_one, cellsAV, writeAC, datOf, acs, Ty.size, Ty.dflt, zG, reduceCtorEq, reduceEqDiff, reduceAdd, reduceLeDiff, reduceLT, reduceMul, reduceSub, Try.st24, Try.td1, Try.td24, Try.td27, Mly.av]; (repeat refine And.intro (by first | omega | assumption | exact rfl) ?_); (first | refine hK0 _ ?_ | refine Or.inl (hK0 _ ?_)); clear hK0 K0; simp only [put, app, setAll, trOf, zE, zS, reduceAdd])
      refine rg_nil ?_
      refine hK11 _ ?_; clear hK11; refine awp_keep [0, 1, 2, 3, 4, 5, 6, 11, 18] ?_; simp only [keepEnv, lkp, zE, reduceCtorEq, reduceEqDiff, argEnv, reduceAdd]
      refine awp_ret ?_
      refine ⟨by first | exact .inl rfl | exact .inr rfl, _, rfl, ?_⟩; simp only [fzV, fz1, fzC, List.map_cons, List.map_nil, keepEnv, lkp, zE, reduceCtorEq, reduceEqDiff, argEnv, reduceAdd, Mly.av]
      first
      | (obtain ⟨e1, e2⟩ := ca_bad (a := a) (b := b) (by assumption); rw [e1, e2]; exact vle_tup ⟨vle1_agg ⟨.refl _, .refl _, cle_nils rfl, cle_nils rfl, trivial⟩, vle1_one (.refl _), trivial⟩)
      | (obtain ⟨e1, e2⟩ := ca_big h20 (by omega); rw [e1, e2]; exact vle_tup ⟨vle1_agg ⟨.refl _, .refl _, cle_nils rfl, cle_nils rfl, trivial⟩, vle1_one (.refl _), trivial⟩)
      | (obtain ⟨e1, e2⟩ := ca_good h20 (by omega); rw [e1, e2]; exact VLE.of_eq rfl)
end Go.Proofs.Ytfbnhgefkdhiaaa
namespace Go.AV
open Nat (reduceEqDiff reduceAdd reduceLeDiff reduceLT reduceMul reduceSub)
open List (set_cons_zero set_cons_succ)
/-plain-/
/-! Runs of composed machines. -/
theorem cast_nn {a : Int} (h : 0 ≤ a) : ((a.toNat : Nat) : Int) = a := Int.toNat_of_nonneg h
theorem go_rng {m : Mly} (hm : MOK m) : ∀ (w : List Int) (s : Int), 0 ≤ s ∧ s < m.nx.length → (∀ i : Nat, i < w.length → 0 ≤ w.getD i 0 ∧ w.getD i 0 < m.inp) → (0 ≤ (m.go s w).1 ∧ (m.go s w).1 < m.nx.length) ∧ ∀ o, o ∈ (m.go s w).2 → 0 ≤ o ∧ o ≤ gr m
  | [], s, hs, _ => ⟨hs, fun o h => by simp [go_nil] at h⟩
  | a :: w, s, hs, hw => by
    obtain ⟨h1, h2⟩ := syms_tail hw
    have hn := nxt_rng hm hs h1
    have ho := out_gr hm hs h1
    obtain ⟨r1, r2⟩ := go_rng hm w _ hn h2
    rw [go_cons]
    refine ⟨r1, fun o h => ?_⟩
    rcases List.mem_cons.1 h with e | h
    · rw [e]; exact ho
    · exact r2 o h
theorem pr_go {a b : Mly} : ∀ (w : List Int) (p : PP), (∀ i : Nat, i < w.length → 0 ≤ w.getD i 0 ∧ w.getD i 0 < a.inp) →
    gF (FP a b) p w = (((a.go p.1 w).1, (b.go p.2 w).1), List.zipWith (fun x y => x * (1 + gr b) + y) (a.go p.1 w).2 (b.go p.2 w).2)
  | [], p, _ => rfl
  | c :: w, p, hw => by
    obtain ⟨h1, h2⟩ := syms_tail hw
    rw [gF_cons, pr_go w _ h2, go_cons, go_cons]
    simp only [FP, cast_nn h1.1, List.zipWith_cons_cons]
theorem ca_go {a b : Mly} : ∀ (w : List Int) (p : PP), (∀ i : Nat, i < w.length → 0 ≤ w.getD i 0 ∧ w.getD i 0 < a.inp) →
    gF (FC a b) p w = (((a.go p.1 w).1, (b.go p.2 (a.go p.1 w).2).1), (b.go p.2 (a.go p.1 w).2).2)
  | [], p, _ => rfl
  | c :: w, p, hw => by
    obtain ⟨h1, h2⟩ := syms_tail hw
    rw [gF_cons, ca_go w _ h2, go_cons]
    simp only [FC, cast_nn h1.1, go_cons]
theorem from_ok {m : Mly} (hm : MOK m) (w : List Int) : fromE m m.st w = wordE w m.inp := fromE_w (validE_of hm) (by have := hm.s1; have := hm.s2; omega)
theorem fromV_ok {m : Mly} (hm : MOK m) {w : List Int} (h : wordE w m.inp = 0) : fromV m m.st w = (m.go m.st w).2 := by unfold fromV; rw [from_ok hm, if_pos h]
theorem fromV_no {m : Mly} (hm : MOK m) {w : List Int} (h : ¬ wordE w m.inp = 0) : fromV m m.st w = [] := by unfold fromV; rw [from_ok hm, if_neg h]
theorem pos_p0 {F : SYS} {n : Nat} {p0 : PP} {s : BST} (h : bR F n p0 = some s) : p0 ∈ s.1 ∧ pos s.1 p0 = 0 := by
  have hk := bR_ok h
  have h1 := hk.hd
  have h2 := hk.h0
  cases hs : s.1 with
  | nil => rw [hs] at h2; cases h2
  | cons y l =>
    rw [hs] at h1
    simp [List.getD] at h1
    rw [h1]; exact ⟨by simp, by simp [pos]⟩
theorem bM_st {F : SYS} {n : Nat} {p0 : PP} {s : BST} (h : bR F n p0 = some s) : (bM F n p0).st = 0 ∧ (bM F n p0).inp = n ∧ (bM F n p0).nx.length = s.1.length := by
  rw [bM_some h]; exact ⟨rfl, rfl, (bR_ok h).nl⟩
theorem b_run {F : SYS} {n : Nat} {p0 : PP} {s : BST} (h : bR F n p0 = some s) {w : List Int} (hw : ∀ i : Nat, i < w.length → 0 ≤ w.getD i 0 ∧ w.getD i 0 < n) : ((bM F n p0).go (bM F n p0).st w).2 = (gF F p0 w).2 := by
  obtain ⟨h1, h2⟩ := pos_p0 h
  have := (b_go h w p0 h1 hw).1
  rw [h2] at this
  rw [(bM_st h).1]
  show ((bM F n p0).go ((0 : Nat) : Int) w).2 = _
  rw [this]
theorem pr_ok {a b : Mly} (ha : MOK a) (hb : MOK b) (hi : a.inp = b.inp) {s : BST} (h : bR (FP a b) a.inp.toNat (a.st, b.st) = some s) : MOK (bM (FP a b) a.inp.toNat (a.st, b.st)) :=
  b_ok h (by have := ha.i1; have := ha.i2; omega) fun q hq x hx => (FP.nn ha hb hi (bR_all (I := IP a b) (FP.keep ha hb hi) (IP.st ha hb) h q hq) hx).2
theorem pl_ok {a b : Mly} (ha : MOK a) (hb : MOK b) (hi : a.inp + b.inp ≤ 64) {s : BST} (h : bR (FL a b) (a.inp + b.inp).toNat (a.st, b.st) = some s) : MOK (bM (FL a b) (a.inp + b.inp).toNat (a.st, b.st)) :=
  b_ok h (by have := ha.i1; have := hb.i1; omega) fun q hq x hx => FL.nn ha hb (bR_all (I := IP a b) (FL.keep ha hb) (IP.st ha hb) h q hq) hx
theorem ca_ok {a b : Mly} (ha : MOK a) (hb : MOK b) (hg : gr a < b.inp) {s : BST} (h : bR (FC a b) a.inp.toNat (a.st, b.st) = some s) : MOK (bM (FC a b) a.inp.toNat (a.st, b.st)) :=
  b_ok h (by have := ha.i1; have := ha.i2; omega) fun q hq x hx => FC.nn ha hb hg (bR_all (I := IP a b) (FC.keep ha hb hg) (IP.st ha hb) h q hq) hx
theorem zw_getD (f : Int → Int → Int) : ∀ (xs ys : List Int) (i : Nat), i < xs.length → i < ys.length → (List.zipWith f xs ys).getD i 0 = f (xs.getD i 0) (ys.getD i 0) := fun xs ys i h1 h2 => by
  simp [List.getD, List.getElem?_zipWith, h1, h2]
structure PRL (a b M : Mly) (w : List Int) : Prop where
  v : validE M = 0
  st : M.st = 0
  re : M.reach.length = M.nx.length
  ea : fromE a a.st w = wordE w a.inp
  eb : fromE b b.st w = wordE w a.inp
  em : fromE M M.st w = wordE w a.inp
  la : (fromV a a.st w).length = (fromV M M.st w).length
  lb : (fromV b b.st w).length = (fromV M M.st w).length
  at_ : ∀ i, i < (fromV M M.st w).length → (fromV M M.st w).getD i 0 = (fromV a a.st w).getD i 0 * (1 + gr b) + (fromV b b.st w).getD i 0
theorem prod_law {a b : Mly} (ha : MOK a) (hb : MOK b) (hi : a.inp = b.inp) {s : BST} (h : bR (FP a b) a.inp.toNat (a.st, b.st) = some s) (w : List Int) : PRL a b (bM (FP a b) a.inp.toNat (a.st, b.st)) w := by
  have hM := pr_ok ha hb hi h
  have hst := bM_st h
  have hi1 := ha.i1
  have hin : (bM (FP a b) a.inp.toNat (a.st, b.st)).inp = a.inp := by rw [hst.2.1]; omega
  have em := from_ok hM w
  have ea := from_ok ha w
  have eb := from_ok hb w
  rw [hin] at em
  rw [← hi] at eb
  have hre := b_reach h hM
  by_cases hw : wordE w a.inp = 0
  · have hwk := wok_of hw
    have hsy : ∀ i : Nat, i < w.length → 0 ≤ w.getD i 0 ∧ w.getD i 0 < a.inp := hwk.sym
    have hr := b_run h (w := w) (fun i hi => by have := hsy i hi; omega)
    rw [pr_go w _ hsy] at hr
    have vM := fromV_ok hM (w := w) (by rw [hin]; exact hw)
    rw [hr] at vM
    have va := fromV_ok ha hw
    have vb := fromV_ok hb (w := w) (by rw [← hi]; exact hw)
    have la := go_len a a.st w
    have lb := go_len b b.st w
    have la2 : (a.go (a.st, b.st).1 w).2.length = w.length := go_len a a.st w
    have lb2 : (b.go (a.st, b.st).2 w).2.length = w.length := go_len b b.st w
    refine ⟨validE_of hM, hst.1, ?_, ea, eb, em, ?_, ?_, fun i hil => ?_⟩
    · rw [hre, rgI_len]
    · rw [vM, va, List.length_zipWith]; omega
    · rw [vM, vb, List.length_zipWith]; omega
    · rw [vM, List.length_zipWith] at hil
      rw [vM, va, vb]
      exact zw_getD _ _ _ i (by omega) (by omega)
  · have vM := fromV_no hM (w := w) (by rw [hin]; exact hw)
    have va := fromV_no ha hw
    have vb := fromV_no hb (w := w) (by rw [← hi]; exact hw)
    refine ⟨validE_of hM, hst.1, ?_, ea, eb, em, ?_, ?_, fun i hil => ?_⟩
    · rw [hre, rgI_len]
    · rw [vM, va]
    · rw [vM, vb]
    · rw [vM] at hil; cases hil
structure CAL (a b M : Mly) (w : List Int) : Prop where
  v : validE M = 0
  ea : fromE a a.st w = wordE w a.inp
  em : fromE M M.st w = wordE w a.inp
  eb : wordE w a.inp = 0 → fromE b b.st (fromV a a.st w) = 0
  vb : wordE w a.inp = 0 → fromV b b.st (fromV a a.st w) = fromV M M.st w
theorem casc_law {a b : Mly} (ha : MOK a) (hb : MOK b) (hg : gr a < b.inp) {s : BST} (h : bR (FC a b) a.inp.toNat (a.st, b.st) = some s) (w : List Int) : CAL a b (bM (FC a b) a.inp.toNat (a.st, b.st)) w := by
  have hM := ca_ok ha hb hg h
  have hst := bM_st h
  have hi1 := ha.i1; have hb1 := hb.i1; have hb2 := hb.i2
  have hin : (bM (FC a b) a.inp.toNat (a.st, b.st)).inp = a.inp := by rw [hst.2.1]; omega
  have em := from_ok hM w
  rw [hin] at em
  have key : wordE w a.inp = 0 → wordE (fromV a a.st w) b.inp = 0 := fun hw => by
    have hwk := wok_of hw
    rw [fromV_ok ha hw]
    have hr := (go_rng ha w a.st ⟨ha.s1, ha.s2⟩ hwk.sym).2
    exact wordE_ok hb1 (by omega) ⟨by rw [go_len]; exact hwk.len, fun i hi => by have := hr _ (getD_mem hi); omega⟩
  refine ⟨validE_of hM, from_ok ha w, em, fun hw => by rw [from_ok hb]; exact key hw, fun hw => ?_⟩
  have hwk := wok_of hw
  have hr := b_run h (w := w) (fun i hi => by have := hwk.sym i hi; omega)
  rw [ca_go w _ hwk.sym] at hr
  rw [fromV_ok hb (key hw), fromV_ok ha hw, fromV_ok hM (by rw [hin]; exact hw), hr]
/-! Parallel. -/
def plU (n : Int) (w : List Int) : List Int := w.filter fun x => decide (x < n)
def plV (n : Int) (w : List Int) : List Int := (w.filter fun x => !decide (x < n)).map fun x => x - n
def plA (n : Int) (e : List (Int × Int)) : List Int := (e.filter fun x => decide (x.1 < n)).map (·.2)
def plB (n k : Int) (e : List (Int × Int)) : List Int := (e.filter fun x => !decide (x.1 < n)).map fun x => x.2 - 1 - k
theorem pl_go {a b : Mly} : ∀ (w : List Int) (p : PP), (∀ i : Nat, i < w.length → 0 ≤ w.getD i 0 ∧ w.getD i 0 < a.inp + b.inp) →
    (a.go p.1 (plU a.inp w)).2 = plA a.inp (w.zip (gF (FL a b) p w).2) ∧ (b.go p.2 (plV a.inp w)).2 = plB a.inp (gr a) (w.zip (gF (FL a b) p w).2)
  | [], p, _ => ⟨rfl, rfl⟩
  | c :: w, p, hw => by
    obtain ⟨h1, h2⟩ := syms_tail hw
    obtain ⟨r1, r2⟩ := pl_go w (FL a b p c.toNat).1 h2
    rw [gF_cons, List.zip_cons_cons]
    unfold plU plV plA plB at *
    by_cases hc : c < a.inp
    · have hd : decide (c < a.inp) = true := decide_eq_true hc
      simp only [List.filter_cons, hd, Bool.not_true, if_true, Bool.false_eq_true, if_false, List.map_cons, go_cons]
      have e : FL a b p c.toNat = ((a.nxt p.1 c, p.2), a.out p.1 c) := by unfold FL; rw [cast_nn h1.1, if_pos hc]
      rw [← r1, ← r2, e]
      exact ⟨rfl, rfl⟩
    · have hd : decide (c < a.inp) = false := decide_eq_false hc
      simp only [List.filter_cons, hd, Bool.not_false, if_true, Bool.false_eq_true, if_false, List.map_cons, go_cons]
      have e : FL a b p c.toNat = ((p.1, b.nxt p.2 (c - a.inp)), b.out p.2 (c - a.inp) + (1 + gr a)) := by unfold FL; rw [cast_nn h1.1, if_neg hc]
      rw [← r1, ← r2, e]
      refine ⟨rfl, ?_⟩
      simp only []
      rw [show b.out p.2 (c - a.inp) + (1 + gr a) - 1 - gr a = b.out p.2 (c - a.inp) by omega]
theorem zip_take_succ {w z : List Int} {i : Nat} (h1 : i < w.length) (h2 : i < z.length) : (w.zip z).take (i + 1) = (w.zip z).take i ++ [(w.getD i 0, z.getD i 0)] := by
  have hl : i < (w.zip z).length := by rw [List.length_zip]; omega
  rw [List.take_add_one, List.getElem?_eq_getElem hl]
  simp [List.getD, h1, h2]
theorem plU_lo {n : Int} {w : List Int} {i : Nat} (h : i < w.length) (hc : w.getD i 0 < n) : plU n (w.take (i + 1)) = plU n (w.take i) ++ [w.getD i 0] ∧ plV n (w.take (i + 1)) = plV n (w.take i) := by
  unfold plU plV; rw [take_succ_D h, List.filter_append, List.filter_append, List.filter_cons_of_pos (by simpa using hc), List.filter_cons_of_neg (by simpa using hc)]; simp
theorem plU_hi {n : Int} {w : List Int} {i : Nat} (h : i < w.length) (hc : ¬ w.getD i 0 < n) : plU n (w.take (i + 1)) = plU n (w.take i) ∧ plV n (w.take (i + 1)) = plV n (w.take i) ++ [w.getD i 0 - n] := by
  unfold plU plV; rw [take_succ_D h, List.filter_append, List.filter_append, List.filter_cons_of_neg (by simpa using hc), List.filter_cons_of_pos (by simpa using hc)]; simp
theorem plA_lo {n k : Int} {w z : List Int} {i : Nat} (h : i < w.length) (h2 : i < z.length) (hc : w.getD i 0 < n) : plA n ((w.zip z).take (i + 1)) = plA n ((w.zip z).take i) ++ [z.getD i 0] ∧ plB n k ((w.zip z).take (i + 1)) = plB n k ((w.zip z).take i) := by
  unfold plA plB; rw [zip_take_succ h h2, List.filter_append, List.filter_append, List.filter_cons_of_pos (by simpa using hc), List.filter_cons_of_neg (by simpa using hc)]; simp
theorem plA_hi {n k : Int} {w z : List Int} {i : Nat} (h : i < w.length) (h2 : i < z.length) (hc : ¬ w.getD i 0 < n) : plA n ((w.zip z).take (i + 1)) = plA n ((w.zip z).take i) ∧ plB n k ((w.zip z).take (i + 1)) = plB n k ((w.zip z).take i) ++ [z.getD i 0 - 1 - k] := by
  unfold plA plB; rw [zip_take_succ h h2, List.filter_append, List.filter_append, List.filter_cons_of_neg (by simpa using hc), List.filter_cons_of_pos (by simpa using hc)]; simp
theorem plU_len (n : Int) (w : List Int) : (plU n w).length ≤ w.length ∧ (plV n w).length ≤ w.length := by
  unfold plU plV; rw [List.length_map]; exact ⟨List.length_filter_le _ _, List.length_filter_le _ _⟩
structure PLL (a b M : Mly) (w : List Int) : Prop where
  v : validE M = 0
  inp : M.inp = a.inp + b.inp
  em : fromE M M.st w = wordE w (a.inp + b.inp)
  lm : wordE w (a.inp + b.inp) = 0 → (fromV M M.st w).length = w.length
  ea : wordE w (a.inp + b.inp) = 0 → fromE a a.st (plU a.inp w) = 0
  eb : wordE w (a.inp + b.inp) = 0 → fromE b b.st (plV a.inp w) = 0
  va : wordE w (a.inp + b.inp) = 0 → fromV a a.st (plU a.inp w) = plA a.inp (w.zip (fromV M M.st w))
  vb : wordE w (a.inp + b.inp) = 0 → fromV b b.st (plV a.inp w) = plB a.inp (gr a) (w.zip (fromV M M.st w))
theorem para_law {a b : Mly} (ha : MOK a) (hb : MOK b) (hi : a.inp + b.inp ≤ 64) {s : BST} (h : bR (FL a b) (a.inp + b.inp).toNat (a.st, b.st) = some s) (w : List Int) : PLL a b (bM (FL a b) (a.inp + b.inp).toNat (a.st, b.st)) w := by
  have hM := pl_ok ha hb hi h
  have hst := bM_st h
  have hi1 := ha.i1; have hb1 := hb.i1; have hi2 := ha.i2; have hb2 := hb.i2
  have hin : (bM (FL a b) (a.inp + b.inp).toNat (a.st, b.st)).inp = a.inp + b.inp := by rw [hst.2.1]; omega
  have em := from_ok hM w
  rw [hin] at em
  have ku : wordE w (a.inp + b.inp) = 0 → wordE (plU a.inp w) a.inp = 0 := fun hw => by
    have hwk := wok_of hw
    have hl := plU_len a.inp w
    have := hwk.len
    refine wordE_ok hi1 (by omega) ⟨by omega, fun i hi => ?_⟩
    have hm := getD_mem hi
    unfold plU at hm ⊢
    rw [List.mem_filter] at hm
    obtain ⟨j, hj, e⟩ := mem_getD.1 hm.1
    have := hwk.sym j hj
    have h3 : (w.filter fun x => decide (x < a.inp)).getD i 0 < a.inp := by simpa using hm.2
    rw [e] at this; exact ⟨this.1, h3⟩
  have kv : wordE w (a.inp + b.inp) = 0 → wordE (plV a.inp w) b.inp = 0 := fun hw => by
    have hwk := wok_of hw
    have hl := plU_len a.inp w
    have := hwk.len
    refine wordE_ok hb1 (by omega) ⟨by omega, fun i hi => ?_⟩
    have hm := getD_mem hi
    unfold plV at hm ⊢
    obtain ⟨x, hx, ex⟩ := List.mem_map.1 hm
    rw [List.mem_filter] at hx
    obtain ⟨j, hj, e⟩ := mem_getD.1 hx.1
    have := hwk.sym j hj
    have h3 : ¬ x < a.inp := by simpa using hx.2
    rw [e] at this
    rw [← ex]; omega
  have hz : wordE w (a.inp + b.inp) = 0 → fromV (bM (FL a b) (a.inp + b.inp).toNat (a.st, b.st)) (bM (FL a b) (a.inp + b.inp).toNat (a.st, b.st)).st w = (gF (FL a b) (a.st, b.st) w).2 := fun hw => by
    have hwk := wok_of hw
    rw [fromV_ok hM (by rw [hin]; exact hw)]
    exact b_run h (fun i hi => by have := hwk.sym i hi; omega)
  refine ⟨validE_of hM, hin, em, fun hw => by rw [hz hw, gF_len], fun hw => by rw [from_ok ha]; exact ku hw, fun hw => by rw [from_ok hb]; exact kv hw, fun hw => ?_, fun hw => ?_⟩
  · rw [fromV_ok ha (ku hw), hz hw]
    exact (pl_go w (a.st, b.st) (wok_of hw).sym).1
  · rw [fromV_ok hb (kv hw), hz hw]
    exact (pl_go w (a.st, b.st) (wok_of hw).sym).2
/-! Restrict and Map. -/
theorem rM_go {m : Mly} (hm : MOK m) {is : List Int} (h3 : ∀ i, i < is.length → 0 ≤ is.getD i 0 ∧ is.getD i 0 < m.inp) : ∀ (w : List Int) (s : Int), 0 ≤ s ∧ s < m.nx.length → (∀ i : Nat, i < w.length → 0 ≤ w.getD i 0 ∧ w.getD i 0 < is.length) → (rM m is).go s w = m.go s (w.map fun i => is.getD i.toNat 0)
  | [], _, _, _ => rfl
  | c :: w, s, hs, hw => by
    obtain ⟨h1, h2⟩ := syms_tail hw
    have hol := hm.ol
    have e1 := rM_nxt (m := m) (is := is) (s := s) (x := c.toNat) (by omega) (by omega)
    have e2 := rM_out (m := m) (is := is) (s := s) (x := c.toNat) (by omega) (by omega)
    rw [cast_nn h1.1] at e1 e2
    rw [go_cons, e1, e2, rM_go hm h3 w _ (nxt_rng hm hs (h3 c.toNat (by omega))) h2, List.map_cons, go_cons]
theorem oM_go {m : Mly} (hm : MOK m) (os : List Int) : ∀ (w : List Int) (s : Int), 0 ≤ s ∧ s < m.nx.length → (∀ i : Nat, i < w.length → 0 ≤ w.getD i 0 ∧ w.getD i 0 < m.inp) → ((oM m os).go s w).2 = (m.go s w).2.map fun o => os.getD o.toNat 0
  | [], _, _, _ => rfl
  | c :: w, s, hs, hw => by
    obtain ⟨h1, h2⟩ := syms_tail hw
    rw [go_cons, go_cons, List.map_cons, oM_out hm os hs h1]
    show _ :: ((oM m os).go (m.nxt s c) w).2 = _
    rw [oM_go hm os w _ (nxt_rng hm hs h1) h2]
def pick (is : List Int) (w : List Int) : List Int := (w.filter fun x => decide (0 ≤ x) && decide (x < (is.length : Int))).map fun x => is.getD x.toNat 0
theorem pick_all {is w : List Int} (h : ∀ i : Nat, i < w.length → 0 ≤ w.getD i 0 ∧ w.getD i 0 < is.length) : pick is w = w.map fun x => is.getD x.toNat 0 := by
  unfold pick
  rw [List.filter_eq_self.2]
  intro x hx
  obtain ⟨i, hi, e⟩ := mem_getD.1 hx
  have := h i hi
  rw [e] at this
  simp [this]
theorem pick_yes {is w : List Int} {i : Nat} (h : i < w.length) (h1 : 0 ≤ w.getD i 0 ∧ w.getD i 0 < is.length) : pick is (w.take (i + 1)) = pick is (w.take i) ++ [is.getD (w.getD i 0).toNat 0] := by
  unfold pick; rw [take_succ_D h, List.filter_append, List.filter_cons_of_pos (by simp only [Bool.and_eq_true, decide_eq_true_eq]; exact h1)]; simp
theorem pick_no {is w : List Int} {i : Nat} (h : i < w.length) (h1 : ¬ (0 ≤ w.getD i 0 ∧ w.getD i 0 < is.length)) : pick is (w.take (i + 1)) = pick is (w.take i) := by
  unfold pick; rw [take_succ_D h, List.filter_append, List.filter_cons_of_neg (by simp only [Bool.and_eq_true, decide_eq_true_eq]; exact h1)]; simp
theorem rst_law {m : Mly} {is : List Int} (h : reE m is = 0) (w : List Int) : fromE (rM m is).T (rM m is).T.st w = wordE w is.length ∧ (wordE w is.length = 0 → fromE m m.st (pick is w) = 0 ∧ fromV (rM m is).T (rM m is).T.st w = fromV m m.st (pick is w)) := by
  have hX := rM_ok h
  obtain ⟨hm, h2, h3⟩ := isE_zero h
  obtain ⟨t1, t2⟩ := T_from (validE_of hX) w
  have hi1 := hm.i1; have hi2 := hm.i2
  have eX := from_ok hX w
  rw [t1, eX, t2]
  refine ⟨rfl, fun hw => ?_⟩
  have hwk := wok_of hw
  have hsy : ∀ i : Nat, i < w.length → 0 ≤ w.getD i 0 ∧ w.getD i 0 < is.length := hwk.sym
  rw [pick_all hsy]
  have hv : wordE (w.map fun x => is.getD x.toNat 0) m.inp = 0 := wordE_ok hi1 (by omega) ⟨by rw [List.length_map]; exact hwk.len, fun i hi => by
    rw [List.length_map] at hi
    rw [getD_mapI _ 0 hi]
    have := hsy i hi
    exact (h3 _ (by omega)).1⟩
  refine ⟨by rw [from_ok hm]; exact hv, ?_⟩
  rw [fromV_ok hX hw, fromV_ok hm hv]
  show ((rM m is).go m.st w).2 = _
  rw [rM_go hm (fun i hi => (h3 i hi).1) w _ ⟨hm.s1, hm.s2⟩ hsy]
theorem map_law {m : Mly} {os : List Int} (h : maE m os = 0) (w : List Int) : fromE (oM m os).T (oM m os).T.st w = fromE m m.st w ∧ (fromV (oM m os).T (oM m os).T.st w).length = (fromV m m.st w).length ∧ ∀ i, i < (fromV m m.st w).length → (0 ≤ (fromV m m.st w).getD i 0 ∧ (fromV m m.st w).getD i 0 < os.length) ∧ (fromV (oM m os).T (oM m os).T.st w).getD i 0 = os.getD ((fromV m m.st w).getD i 0).toNat 0 := by
  have hX := oM_ok h
  obtain ⟨hm, h2⟩ := maE_zero h
  obtain ⟨t1, t2⟩ := T_from (validE_of hX) w
  have eX : fromE (oM m os) (oM m os).st w = wordE w m.inp := from_ok hX w
  rw [t1, eX, t2, from_ok hm w]
  refine ⟨rfl, ?_⟩
  by_cases hw : wordE w m.inp = 0
  · have hwk := wok_of hw
    have v1 : fromV (oM m os) (oM m os).st w = (m.go m.st w).2.map fun o => os.getD o.toNat 0 := by
      rw [fromV_ok hX hw]; exact oM_go hm os w m.st ⟨hm.s1, hm.s2⟩ hwk.sym
    rw [v1, fromV_ok hm hw]
    refine ⟨by rw [List.length_map], fun i hi => ?_⟩
    rw [getD_mapI _ 0 hi]
    refine ⟨?_, rfl⟩
    have hin : (m.go m.st w).2.getD i 0 ∈ m.ot.flatten := by
      rw [go_len] at hi
      have hgo := go_ok hm hm.s1 hm.s2 hwk i (by omega)
      have hs := go_succ m m.st hi
      have ht : w.take (i + 1) ++ w.drop (i + 1) = w := List.take_append_drop _ _
      have hg := go_append m m.st (w.take (i + 1)) (w.drop (i + 1))
      rw [ht] at hg
      rw [hg, hs]
      simp only []
      have hl2 : (m.go m.st (w.take i)).2.length = i := by rw [go_len, List.length_take]; omega
      rw [List.append_assoc, List.getD, List.getElem?_append_right (by omega), hl2, Nat.sub_self]
      simp only [List.cons_append, List.getElem?_cons_zero, Option.getD_some]
      exact out_mem hm hgo (hwk.sym i hi)
    have := h2 _ hin
    exact ⟨this.1, this.2.1⟩
  · have v1 : fromV (oM m os) (oM m os).st w = [] := fromV_no hX hw
    rw [v1, fromV_no hm hw]
    exact ⟨rfl, fun i hi => by cases hi⟩
end Go.AV
namespace Go.AV
open Nat (reduceEqDiff reduceAdd reduceLeDiff reduceLT reduceMul reduceSub)
open List (set_cons_zero set_cons_succ)
/-plain-/
/-! ### lists of classes -/
def cN (cl : List Int) : Nat → Int
  | 0 => 0
  | k + 1 => max (cN cl k) (cl.getD k 0 + 1)
def cBad (cl : List Int) (k : Nat) : Bool := decide (cl.getD k 0 < 0) || decide (cN cl k < cl.getD k 0)
def cntE (cl : List Int) : Int := if cl.length < 1 ∨ 64 < cl.length then 2 else if (List.range cl.length).any (cBad cl) = true then 1 else 0
def cntK (cl : List Int) : Int := if cntE cl = 0 then cN cl cl.length else 0
theorem cBad_no {cl : List Int} {k : Nat} (h1 : 0 ≤ cl.getD k 0) (h2 : cl.getD k 0 ≤ cN cl k) : cBad cl k = false := by
  unfold cBad; rw [decide_eq_false (by omega), decide_eq_false (by omega)]; rfl
theorem cBad_yes {cl : List Int} {k : Nat} (h : cl.getD k 0 < 0 ∨ cN cl k < cl.getD k 0) : cBad cl k = true := by
  unfold cBad; simp only [Bool.or_eq_true, decide_eq_true_eq]; exact h
theorem cntE_size {cl : List Int} (h : cl.length < 1 ∨ 64 < cl.length) : cntE cl = 2 := by unfold cntE; rw [if_pos h]
theorem cntE_bad {cl : List Int} (h : ¬ (cl.length < 1 ∨ 64 < cl.length)) {k : Nat} (hk : k < cl.length) (hb : cBad cl k = true) : cntE cl = 1 := by
  unfold cntE; rw [if_neg h, if_pos (List.any_eq_true.2 ⟨k, by simpa using hk, hb⟩)]
theorem cntE_ok {cl : List Int} (h : ¬ (cl.length < 1 ∨ 64 < cl.length)) (hb : ∀ k, k < cl.length → cBad cl k = false) : cntE cl = 0 := by
  unfold cntE; rw [if_neg h, if_neg]
  intro hh
  obtain ⟨k, hk, hc⟩ := List.any_eq_true.1 hh
  rw [hb k (by simpa using hk)] at hc
  cases hc
theorem cN_le {cl : List Int} (hb : ∀ q, q < cl.length → cBad cl q = false) : ∀ k, k ≤ cl.length → 0 ≤ cN cl k ∧ cN cl k ≤ k
  | 0, _ => ⟨Int.le_refl _, Int.le_refl _⟩
  | k + 1, hk => by
    have ih := cN_le hb k (by omega)
    have := hb k (by omega)
    simp only [cBad, Bool.or_eq_false_iff, decide_eq_false_iff_not] at this
    simp only [cN]; omega
theorem cN_le' {cl : List Int} {k : Nat} (hb : ∀ q, q < k → cBad cl q = false) : 0 ≤ cN cl k ∧ cN cl k ≤ k := by
  induction k with
  | zero => exact ⟨Int.le_refl _, Int.le_refl _⟩
  | succ k ih =>
    have h1 := ih fun q hq => hb q (by omega)
    have := hb k (by omega)
    simp only [cBad, Bool.or_eq_false_iff, decide_eq_false_iff_not] at this
    simp only [cN]; omega
theorem cntE_zero {cl : List Int} (h : cntE cl = 0) : (1 ≤ cl.length ∧ cl.length ≤ 64) ∧ ∀ k, k < cl.length → cBad cl k = false := by
  unfold cntE at h
  split at h
  · omega
  · rename_i h1
    split at h
    · omega
    · rename_i h2
      refine ⟨by omega, fun k hk => ?_⟩
      cases hc : cBad cl k with
      | false => rfl
      | true => exact absurd (List.any_eq_true.2 ⟨k, by simpa using hk, hc⟩) h2
def chkE (m : Mly) (cl : List Int) : Int := if validE m ≠ 0 then validE m else if cntE cl ≠ 0 then cntE cl else if (cl.length : Int) = m.inp then 0 else 15
structure COK (m : Mly) (cl : List Int) : Prop where
  ok : MOK m
  ce : cntE cl = 0
  len : (cl.length : Int) = m.inp
theorem cok_of {m : Mly} {cl : List Int} (h : chkE m cl = 0) : COK m cl := by
  unfold chkE at h
  split at h
  · contradiction
  · rename_i h1
    split at h
    · contradiction
    · rename_i h2
      split at h
      · rename_i h3; exact ⟨mok_of (Decidable.not_not.1 h1), Decidable.not_not.1 h2, h3⟩
      · omega

/-! ### states with their access words -/
abbrev S2 := Int × List Int
def eX0 : S2 := (0, [])
def fstX (l : List S2) : List Int := l.map (·.1)
def sndX (l : List S2) : List (List Int) := l.map (·.2)
def stX (m : Mly) (e : S2) (l : List S2) (x : Nat) : List S2 := if (m.row e.1).getD x 0 ∈ fstX l then l else l ++ [((m.row e.1).getD x 0, e.2 ++ [(x : Int)])]
def rowX (m : Mly) (e : S2) (l : List S2) (x : Nat) : List S2 := (List.range x).foldl (stX m e) l
def exF (m : Mly) : Nat → Nat → List S2 → List S2
  | 0, _, l => l
  | f + 1, i, l => if i < l.length then exF m f (i + 1) (rowX m (l.getD i eX0) l m.inp.toNat) else l
def Mly.exR (m : Mly) : List S2 := exF m (m.nx.length + 1) 0 [(m.st, [])]
theorem rowX_succ (m : Mly) (e : S2) (l : List S2) (x : Nat) : rowX m e l (x + 1) = stX m e (rowX m e l x) x := by
  unfold rowX; rw [List.range_succ, List.foldl_append]; rfl
theorem stX_pre (m : Mly) (e : S2) (l : List S2) (x : Nat) : ∃ k, stX m e l x = l ++ k := by
  unfold stX
  split
  · exact ⟨[], by simp⟩
  · exact ⟨_, rfl⟩
theorem rowX_pre (m : Mly) (e : S2) (l : List S2) : ∀ x, ∃ k, rowX m e l x = l ++ k
  | 0 => ⟨[], by simp [rowX]⟩
  | x + 1 => by
    obtain ⟨k1, h1⟩ := rowX_pre m e l x
    obtain ⟨k2, h2⟩ := stX_pre m e (rowX m e l x) x
    exact ⟨k1 ++ k2, by rw [rowX_succ, h2, h1, List.append_assoc]⟩
theorem rowX_at (m : Mly) (e : S2) {l : List S2} (x : Nat) {i : Nat} (h : i < l.length) : (rowX m e l x).getD i eX0 = l.getD i eX0 := by
  obtain ⟨k, hk⟩ := rowX_pre m e l x
  rw [hk]; simp [List.getD, List.getElem?_append_left h]
theorem rowX_ge (m : Mly) (e : S2) (l : List S2) (x : Nat) : l.length ≤ (rowX m e l x).length := by
  obtain ⟨k, hk⟩ := rowX_pre m e l x
  rw [hk]; simp
theorem exF_pre (m : Mly) : ∀ (f i : Nat) (l : List S2), ∃ k, exF m f i l = l ++ k
  | 0, i, l => ⟨[], by simp [exF]⟩
  | f + 1, i, l => by
    simp only [exF]
    split
    · obtain ⟨k1, h1⟩ := rowX_pre m (l.getD i eX0) l m.inp.toNat
      obtain ⟨k2, h2⟩ := exF_pre m f (i + 1) (rowX m (l.getD i eX0) l m.inp.toNat)
      exact ⟨k1 ++ k2, by rw [h2, h1, List.append_assoc]⟩
    · exact ⟨[], by simp⟩
theorem exF_end (m : Mly) (f i : Nat) (l : List S2) (h : l.length ≤ i) : exF m f i l = l := by
  cases f with
  | zero => rfl
  | succ f => simp only [exF]; rw [if_neg (by omega)]
theorem exF_step (m : Mly) (f i : Nat) (l : List S2) (h : i < l.length) : exF m (f + 1) i l = exF m f (i + 1) (rowX m (l.getD i eX0) l m.inp.toNat) := by
  simp only [exF]; rw [if_pos h]
structure WFX (m : Mly) (l : List S2) : Prop where
  rs : RSet m.nx.length (fstX l)
  wl : ∀ e, e ∈ l → e.2.length ≤ l.length
theorem fstX_len (l : List S2) : (fstX l).length = l.length := by simp [fstX]
theorem sndX_len (l : List S2) : (sndX l).length = l.length := by simp [sndX]
theorem fstX_at {l : List S2} {i : Nat} (h : i < l.length) : (fstX l).getD i 0 = (l.getD i eX0).1 := by simp [fstX, List.getD, h]
theorem sndX_at {l : List S2} {i : Nat} (h : i < l.length) : (sndX l).getD i [] = (l.getD i eX0).2 := by simp [sndX, List.getD, h]
theorem WFX.le {m : Mly} {l : List S2} (h : WFX m l) : l.length ≤ m.nx.length := by have := h.rs.len; rwa [fstX_len] at this
theorem WFX.at_ {m : Mly} {l : List S2} (h : WFX m l) {i : Nat} (hi : i < l.length) : 0 ≤ (l.getD i eX0).1 ∧ (l.getD i eX0).1 < m.nx.length := by
  rw [← fstX_at hi]; exact h.rs.at_ (by rw [fstX_len]; exact hi)
theorem mem_X {l : List S2} {i : Nat} (h : i < l.length) : l.getD i eX0 ∈ l := by simp [List.getD, h]
theorem WFX.step {m : Mly} (hm : MOK m) {l : List S2} (h : WFX m l) {e : S2} (he : 0 ≤ e.1 ∧ e.1 < m.nx.length) (hw : e.2.length ≤ l.length) {x : Nat} (hx : (x : Int) < m.inp) : WFX m (stX m e l x) := by
  unfold stX
  split
  · exact h
  · rename_i hn
    have n1 := hm.nr e.1.toNat x (by omega) hx
    refine ⟨?_, fun f hf => ?_⟩
    · have e1 : fstX (l ++ [((m.row e.1).getD x 0, e.2 ++ [(x : Int)])]) = addS (fstX l) ((m.row e.1).getD x 0) := by rw [addS_out hn]; simp [fstX]
      rw [e1]
      exact h.rs.add n1.1 n1.2
    · simp only [List.length_append, List.length_cons, List.length_nil]
      rcases List.mem_append.1 hf with hf | hf
      · have := h.wl f hf; omega
      · simp at hf; subst hf; simp; omega
theorem WFX.row {m : Mly} (hm : MOK m) {l : List S2} (h : WFX m l) {i : Nat} (hil : i < l.length) : ∀ x : Nat, (x : Int) ≤ m.inp → WFX m (rowX m (l.getD i eX0) l x)
  | 0, _ => by simpa [rowX] using h
  | x + 1, hx => by
    rw [rowX_succ]
    have h1 := WFX.row hm h hil x (by omega)
    have h2 := rowX_ge m (l.getD i eX0) l x
    have h3 := h.wl _ (mem_X hil)
    exact h1.step hm (h.at_ hil) (by omega) (by omega)
theorem wfx_one {m : Mly} (hm : MOK m) : WFX m [(m.st, [])] := ⟨rset_one hm, fun e he => by simp at he; subst he; simp⟩
theorem wfx_exF {m : Mly} (hm : MOK m) : ∀ (f i : Nat) (l : List S2), WFX m l → WFX m (exF m f i l)
  | 0, _, _, h => h
  | f + 1, i, l, h => by
    simp only [exF]
    split
    · rename_i hi
      have hi1 := hm.i1
      exact wfx_exF hm f (i + 1) _ (h.row hm hi m.inp.toNat (by omega))
    · exact h
theorem wfx_exR {m : Mly} (hm : MOK m) : WFX m m.exR := wfx_exF hm _ _ _ (wfx_one hm)
theorem fst_row (m : Mly) (e : S2) (l : List S2) : ∀ x, x ≤ (m.row e.1).length → fstX (rowX m e l x) = ((m.row e.1).take x).foldl addS (fstX l)
  | 0, _ => by simp [rowX]
  | x + 1, hx => by
    rw [rowX_succ, take_succ_D (by omega), List.foldl_append, ← fst_row m e l x (by omega)]
    simp only [List.foldl_cons, List.foldl_nil]
    unfold stX
    by_cases hh : (m.row e.1).getD x 0 ∈ fstX (rowX m e l x)
    · rw [if_pos hh, addS_in hh]
    · rw [if_neg hh, addS_out hh]; simp [fstX]
theorem fst_exF {m : Mly} (hm : MOK m) : ∀ (f i : Nat) (l : List S2), WFX m l → fstX (exF m f i l) = m.rf f i (fstX l)
  | 0, _, _, _ => rfl
  | f + 1, i, l, h => by
    simp only [exF, Mly.rf, fstX_len]
    split
    · rename_i hi
      have hi1 := hm.i1
      have hr := h.at_ hi
      have hl : ((m.row (l.getD i eX0).1).length : Int) = m.inp := hm.rl (l.getD i eX0).1.toNat (by omega)
      rw [fst_exF hm f (i + 1) _ (h.row hm hi m.inp.toNat (by omega)), fst_row m _ _ _ (by omega), fstX_at hi, List.take_of_length_le (by omega)]
    · rfl
theorem fst_exR {m : Mly} (hm : MOK m) : fstX m.exR = m.reach := by
  rw [reach_ok (validE_of hm)]; exact fst_exF hm _ _ _ (wfx_one hm)

/-! ### inputs that agree -/
def agrS (m : Mly) (s : Int) (c d : Nat) : Bool := decide (m.out s c = m.out s d) && decide (m.eqc.getD (m.nxt s c).toNat 0 = m.eqc.getD (m.nxt s d).toNat 0)
/-- The first place, in the order of the text. -/
def parS (m : Mly) (cl : List Int) (s : Int) (c d : Nat) : Bool := decide (cl.getD c 0 = cl.getD d 0) && !agrS m s c d
def finD (m : Mly) (cl : List Int) (s : Int) (c : Nat) : Option Nat := (List.range cl.length).find? fun d => decide (c < d) && parS m cl s c d
def finC (m : Mly) (cl : List Int) (s : Int) : Option (Nat × Nat) := (List.range cl.length).findSome? fun c => (finD m cl s c).map fun d => (c, d)
def finI (m : Mly) (cl : List Int) : Option (Nat × Nat × Nat) := (List.range m.exR.length).findSome? fun i => (finC m cl (m.exR.getD i eX0).1).map fun p => (i, p.1, p.2)
theorem fsome {α : Type} {f : Nat → Option α} {n k : Nat} {y : α} (hk : k < n) (h : ∀ q, q < k → f q = none) (e : f k = some y) : (List.range n).findSome? f = some y := by
  have : ∀ (l : List Nat) (r : List Nat), (∀ q, q ∈ l → f q = none) → (l ++ k :: r).findSome? f = some y := by
    intro l
    induction l with
    | nil => intro r _; simp [e]
    | cons a l ih => intro r hl; simp only [List.cons_append, List.findSome?_cons, hl a (by simp)]; exact ih r fun q hq => hl q (by simp [hq])
  have hr : List.range n = List.range k ++ k :: (List.range' (k + 1) (n - (k + 1))) := by
    rw [List.range_eq_range', List.range_eq_range', show n = k + (1 + (n - (k + 1))) by omega, ← List.range'_append_1, Nat.zero_add]
    congr 1
    rw [Nat.add_comm 1, List.range'_succ]
    congr 2; omega
  rw [hr]
  exact this _ _ fun q hq => h q (by simpa using hq)
theorem fnone {α : Type} {f : Nat → Option α} {n : Nat} (h : ∀ q, q < n → f q = none) : (List.range n).findSome? f = none := by
  rw [List.findSome?_eq_none_iff]
  intro q hq
  exact h q (by simpa using hq)
theorem finD_some {m : Mly} {cl : List Int} {s : Int} {c d : Nat} (hc : c < d) (hd : d < cl.length) (hp : parS m cl s c d = true) (h : ∀ q, c < q → q < d → parS m cl s c q = false) : finD m cl s c = some d := by
  unfold finD
  refine find_some hd (by simp [hc, hp]) fun y hy => ?_
  by_cases e : c < y
  · simp [h y e hy]
  · simp [e]
theorem finD_none {m : Mly} {cl : List Int} {s : Int} {c : Nat} (h : ∀ q, c < q → q < cl.length → parS m cl s c q = false) : finD m cl s c = none := by
  unfold finD
  refine find_none fun y hy => ?_
  by_cases e : c < y
  · simp [h y e hy]
  · simp [e]
theorem stX_out {m : Mly} {e : S2} {l : List S2} {x : Nat} (h : (m.row e.1).getD x 0 ∉ fstX l) : fstX (stX m e l x) = fstX l ++ [(m.row e.1).getD x 0] ∧ sndX (stX m e l x) = sndX l ++ [e.2 ++ [(x : Int)]] := by
  unfold stX; rw [if_neg h]; simp [fstX, sndX]
theorem stX_in {m : Mly} {e : S2} {l : List S2} {x : Nat} (h : (m.row e.1).getD x 0 ∈ fstX l) : stX m e l x = l := by unfold stX; rw [if_pos h]
def f3 (r : Option (Nat × Nat × Nat)) : Int × Int × Int := match r with | some p => (p.1, p.2.1, p.2.2) | none => (0, 0, 0)

/-! ### numbers of classes -/
def idxB (p : Int → Bool) (xs : List Int) : Int := match xs.findIdx? p with | some i => (i : Int) | none => -1
theorem idxB_at {p : Int → Bool} {xs : List Int} {k : Nat} (hk : k < xs.length) (h : ∀ q, q < k → p (xs.getD q 0) = false) (hp : p (xs.getD k 0) = true) : idxB p xs = k := by
  unfold idxB
  have : xs.findIdx? p = some k := by
    rw [List.findIdx?_eq_some_iff_getElem]
    refine ⟨hk, ?_, fun j hj => ?_⟩
    · simpa [List.getD, List.getElem?_eq_getElem hk] using hp
    · have := h j hj
      simpa [List.getD, List.getElem?_eq_getElem (Nat.lt_trans hj hk)] using this
  rw [this]
theorem idxB_none {p : Int → Bool} {xs : List Int} (h : ∀ q, q < xs.length → p (xs.getD q 0) = false) : idxB p xs = -1 := by
  unfold idxB
  have : xs.findIdx? p = none := by
    rw [List.findIdx?_eq_none_iff]
    intro a ha
    obtain ⟨i, hi⟩ := List.getElem?_of_mem ha
    have := h i (List.getElem?_eq_some_iff.1 hi).1
    simpa [List.getD, hi] using this
  rw [this]
theorem idxB_lt (p : Int → Bool) (xs : List Int) : -1 ≤ idxB p xs ∧ idxB p xs < xs.length := by
  unfold idxB
  cases h : xs.findIdx? p with
  | none => simp; omega
  | some i =>
    have := (List.findIdx?_eq_some_iff_getElem.1 h).1
    simp; omega
/-- The numbers so far, and the first element of each class. -/
def nmS (T : Nat → Nat → Bool) : Nat → List Int × List Int
  | 0 => ([], [])
  | c + 1 => if idxB (fun d => T d.toNat c) (nmS T c).2 < 0 then ((nmS T c).1 ++ [((nmS T c).2.length : Int)], (nmS T c).2 ++ [(c : Int)])
    else ((nmS T c).1 ++ [idxB (fun d => T d.toNat c) (nmS T c).2], (nmS T c).2)
theorem nmS_new {T : Nat → Nat → Bool} {c : Nat} (h : idxB (fun d => T d.toNat c) (nmS T c).2 < 0) : nmS T (c + 1) = ((nmS T c).1 ++ [((nmS T c).2.length : Int)], (nmS T c).2 ++ [(c : Int)]) := by
  show (if _ then _ else _) = _
  rw [if_pos h]
theorem nmS_old {T : Nat → Nat → Bool} {c : Nat} (h : ¬ idxB (fun d => T d.toNat c) (nmS T c).2 < 0) : nmS T (c + 1) = ((nmS T c).1 ++ [idxB (fun d => T d.toNat c) (nmS T c).2], (nmS T c).2) := by
  show (if _ then _ else _) = _
  rw [if_neg h]
theorem nmS_rng (T : Nat → Nat → Bool) : ∀ c, (nmS T c).1.length = c ∧ (nmS T c).2.length ≤ c ∧ ∀ x, x ∈ (nmS T c).2 → 0 ≤ x ∧ x < c
  | 0 => ⟨rfl, Nat.le_refl _, fun x h => by cases h⟩
  | c + 1 => by
    obtain ⟨h1, h2, h3⟩ := nmS_rng T c
    by_cases h : idxB (fun d => T d.toNat c) (nmS T c).2 < 0
    · rw [nmS_new h]
      refine ⟨by rw [List.length_append, h1]; rfl, by rw [List.length_append]; exact Nat.add_le_add_right h2 1, fun x hx => ?_⟩
      rcases List.mem_append.1 hx with hx | hx
      · have := h3 x hx; omega
      · have hxc : x = (c : Int) := by simpa using hx
        omega
    · rw [nmS_old h]
      refine ⟨by rw [List.length_append, h1]; rfl, Nat.le_succ_of_le h2, fun x hx => ?_⟩
      have := h3 x hx; omega
def togB (m : Mly) (c d : Nat) : Bool := !decide (0 ≤ idxB (fun s => !agrS m s c d) (fstX m.exR))
def spl (m : Mly) (cl : List Int) (p : Nat × Nat × Nat) (c d : Nat) : Bool := decide (cl.getD c 0 = cl.getD d 0) && (!decide (cl.getD c 0 = cl.getD p.2.1 0) || agrS m (m.exR.getD p.1 eX0).1 c d)
theorem map_capAV (ds : List ((t : Ty) × t.den)) : (ds.map fun p => Cap.pat p.1 p.2).map capAV = ds.map fun p => AV.one (.pat p.1 p.2 0) := by simp [capAV]
end Go.AV
namespace Go.AV
open Nat (reduceEqDiff reduceAdd reduceLeDiff reduceLT reduceMul reduceSub)
open List (set_cons_zero set_cons_succ)
/-plain-/
/-! ### the access words, found again from the list of reached states -/
theorem foldA_pre (r : List Int) : ∀ l : List Int, ∃ k, r.foldl addS l = l ++ k := by
  induction r with
  | nil => intro l; exact ⟨[], by simp⟩
  | cons t r ih =>
    intro l
    obtain ⟨k, hk⟩ := ih (addS l t)
    by_cases h : t ∈ l
    · exact ⟨k, by rw [List.foldl_cons, hk, addS_in h]⟩
    · exact ⟨[t] ++ k, by rw [List.foldl_cons, hk, addS_out h, List.append_assoc]⟩
theorem foldA_at (r : List Int) {l : List Int} {i : Nat} (h : i < l.length) : (r.foldl addS l).getD i 0 = l.getD i 0 := by
  obtain ⟨k, hk⟩ := foldA_pre r l
  rw [hk]; simp [List.getD, List.getElem?_append_left h]
theorem rowX_mono (m : Mly) (e : S2) (l : List S2) {y : Nat} : ∀ {z : Nat}, y ≤ z → ∃ k, rowX m e l z = rowX m e l y ++ k
  | 0, h => by
    have : y = 0 := by omega
    subst this; exact ⟨[], by simp⟩
  | z + 1, h => by
    by_cases e1 : y = z + 1
    · subst e1; exact ⟨[], by simp⟩
    · obtain ⟨k, hk⟩ := rowX_mono m e l (y := y) (z := z) (by omega)
      obtain ⟨k2, hk2⟩ := stX_pre m e (rowX m e l z) z
      exact ⟨k ++ k2, by rw [rowX_succ, hk2, hk, List.append_assoc]⟩
theorem acc_pre {m : Mly} {f i : Nat} {l : List S2} (hx : exF m (f + 1) i l = m.exR) (hi : i < l.length) {y : Nat} (hy : y ≤ m.inp.toNat) : ∃ k, m.exR = rowX m (l.getD i eX0) l y ++ k := by
  rw [← hx, exF_step m f i l hi]
  obtain ⟨k1, h1⟩ := exF_pre m f (i + 1) (rowX m (l.getD i eX0) l m.inp.toNat)
  obtain ⟨k2, h2⟩ := rowX_mono m (l.getD i eX0) l hy
  exact ⟨k2 ++ k1, by rw [h1, h2, List.append_assoc]⟩
theorem acc_iff {m : Mly} (hm : MOK m) {f i : Nat} {l : List S2} (hx : exF m (f + 1) i l = m.exR) (hi : i < l.length) {x : Nat} (hxl : x < m.inp.toNat) :
    (m.row (l.getD i eX0).1).getD x 0 ∉ fstX (rowX m (l.getD i eX0) l x) ↔ ((rowX m (l.getD i eX0) l x).length < m.reach.length ∧ (m.row (l.getD i eX0).1).getD x 0 = m.reach.getD (rowX m (l.getD i eX0) l x).length 0) := by
  have hnd : (fstX m.exR).Nodup := (wfx_exR hm).rs.nd
  rw [← fst_exR hm]
  constructor
  · intro hn
    obtain ⟨k, hk⟩ := acc_pre hx hi (y := x + 1) (by omega)
    rw [rowX_succ, stX, if_neg hn] at hk
    rw [hk]
    refine ⟨by rw [fstX_len]; simp only [List.length_append, List.length_cons]; omega, ?_⟩
    simp [fstX, List.getD]
  · rintro ⟨h1, h2⟩ hn
    obtain ⟨k, hk⟩ := acc_pre hx hi (y := x) (by omega)
    rw [hk] at hnd h1 h2
    have e : fstX (rowX m (l.getD i eX0) l x ++ k) = fstX (rowX m (l.getD i eX0) l x) ++ fstX k := by simp [fstX]
    rw [e] at hnd h1 h2
    have hk1 : 0 < (fstX k).length := by rw [List.length_append, fstX_len] at h1; omega
    have h3 : (fstX (rowX m (l.getD i eX0) l x) ++ fstX k).getD (rowX m (l.getD i eX0) l x).length 0 = (fstX k).getD 0 0 := by
      rw [← fstX_len, List.getD, List.getD, List.getElem?_append_right (Nat.le_refl _), Nat.sub_self]; rfl
    rw [h3] at h2
    have h4 : (fstX k).getD 0 0 ∈ fstX k := getD_mem hk1
    exact (List.nodup_append.1 hnd).2.2 _ hn _ (h2 ▸ h4) rfl
/-- The word behind two inputs that do not agree. -/
def parW (m : Mly) (s : Int) (c d : Nat) : List Int := if m.out s c = m.out s d then (seS m m (m.nxt s c) (m.nxt s d)).getD [] else []
theorem eqc_seS {m : Mly} (hm : MOK m) {s t : Int} (hs : 0 ≤ s ∧ s < m.nx.length) (ht : 0 ≤ t ∧ t < m.nx.length) : (seS m m s t).isSome = !decide (m.eqc.getD s.toNat 0 = m.eqc.getD t.toNat 0) := by
  have h1 := seS_iff hm hm rfl hs ht
  have h2 := eqc_iff hm hs.1 hs.2 ht.1 ht.2
  have h3 : seS m m s t = none ↔ m.eqc.getD s.toNat 0 = m.eqc.getD t.toNat 0 := h1.trans h2.symm
  cases hc : seS m m s t with
  | none => rw [decide_eq_true (h3.1 hc)]; rfl
  | some w =>
    have : ¬ m.eqc.getD s.toNat 0 = m.eqc.getD t.toNat 0 := fun hh => by rw [h3.2 hh] at hc; cases hc
    rw [decide_eq_false this]; rfl
end Go.AV
namespace Go.AV
open Nat (reduceEqDiff reduceAdd reduceLeDiff reduceLT reduceMul reduceSub)
open List (set_cons_zero set_cons_succ)
/-plain-/
/-! ### numbers of classes: an equivalence, and the list that a least member gives -/
structure EQT (T : Nat → Nat → Bool) (n : Nat) : Prop where
  rf : ∀ a, a < n → T a a = true
  sy : ∀ a b, a < n → b < n → T a b = true → T b a = true
  tr : ∀ a b c, a < n → b < n → c < n → T a b = true → T b c = true → T a c = true
theorem nmS_congr {T U : Nat → Nat → Bool} : ∀ c, (∀ d q, d < q → q < c → T d q = U d q) → nmS T c = nmS U c
  | 0, _ => rfl
  | c + 1, h => by
    have ih := nmS_congr (T := T) (U := U) c fun d q h1 h2 => h d q h1 (by omega)
    have hr := (nmS_rng U c).2.2
    have he : idxB (fun d => T d.toNat c) (nmS T c).2 = idxB (fun d => U d.toNat c) (nmS U c).2 := by
      rw [ih]
      have : ∀ xs : List Int, (∀ x, x ∈ xs → 0 ≤ x ∧ x < (c : Int)) → xs.findIdx? (fun d => T d.toNat c) = xs.findIdx? (fun d => U d.toNat c) := by
        intro xs
        induction xs with
        | nil => intro _; rfl
        | cons y ys ihy =>
          intro hy
          have h1 := hy y (by simp)
          rw [List.findIdx?_cons, List.findIdx?_cons, ihy (fun x hx => hy x (by simp [hx])), h y.toNat c (by omega) (by omega)]
      unfold idxB
      rw [this _ hr]
    show (if _ then _ else _) = (if _ then _ else _)
    rw [he, ih]
structure NMP (T : Nat → Nat → Bool) (c : Nat) : Prop where
  at_ : ∀ q, q < c → 0 ≤ (nmS T c).1.getD q 0 ∧ (nmS T c).1.getD q 0 < (nmS T c).2.length ∧ T ((nmS T c).2.getD ((nmS T c).1.getD q 0).toNat 0).toNat q = true
  ap : ∀ x y, x < y → y < (nmS T c).2.length → T ((nmS T c).2.getD x 0).toNat ((nmS T c).2.getD y 0).toNat = false
theorem getD_left {xs ys : List Int} {i : Nat} (h : i < xs.length) : (xs ++ ys).getD i 0 = xs.getD i 0 := by simp [List.getD, List.getElem?_append_left h]
theorem getD_end {xs : List Int} {x : Int} {i : Nat} (h : i = xs.length) : (xs ++ [x]).getD i 0 = x := by subst h; simp [List.getD]
theorem idxB_hit {p : Int → Bool} {xs : List Int} (h : 0 ≤ idxB p xs) : idxB p xs < xs.length ∧ p (xs.getD (idxB p xs).toNat 0) = true ∧ ∀ q, q < (idxB p xs).toNat → p (xs.getD q 0) = false := by
  unfold idxB at h ⊢
  cases hf : xs.findIdx? p with
  | none => rw [hf] at h; simp at h
  | some k =>
    obtain ⟨h1, h2, h3⟩ := List.findIdx?_eq_some_iff_getElem.1 hf
    refine ⟨by simpa using h1, by simpa [List.getD, h1] using h2, fun q hq => ?_⟩
    have hq' : q < k := by simpa using hq
    have := h3 q hq'
    simpa [List.getD, Nat.lt_trans hq' h1] using this
theorem idxB_miss {p : Int → Bool} {xs : List Int} (h : idxB p xs < 0) : ∀ q, q < xs.length → p (xs.getD q 0) = false := by
  intro q hq
  unfold idxB at h
  cases hf : xs.findIdx? p with
  | some k => rw [hf] at h; simp at h; omega
  | none =>
    have := List.findIdx?_eq_none_iff.1 hf (xs.getD q 0) (getD_mem hq)
    simpa using this
theorem nmp {T : Nat → Nat → Bool} {n : Nat} (hT : EQT T n) : ∀ c, c ≤ n → NMP T c
  | 0, _ => ⟨fun q h => by omega, fun x y _ h => by simp [nmS] at h⟩
  | c + 1, hc => by
    have ih := nmp hT c (by omega)
    obtain ⟨r1, r2, r3⟩ := nmS_rng T c
    by_cases h : idxB (fun d => T d.toNat c) (nmS T c).2 < 0
    · have hm := idxB_miss h
      rw [show NMP T (c + 1) = NMP T (c + 1) from rfl]
      refine ⟨fun q hq => ?_, fun x y hxy hy => ?_⟩
      · rw [nmS_new h]
        simp only [List.length_append, List.length_cons, List.length_nil]
        by_cases e : q = c
        · rw [e, getD_end r1.symm, getD_end (by omega)]
          exact ⟨by omega, by omega, by simpa using hT.rf c (by omega)⟩
        · have := ih.at_ q (by omega)
          rw [getD_left (by omega), getD_left (by omega)]
          exact ⟨this.1, by omega, this.2.2⟩
      · rw [nmS_new h] at hy ⊢
        simp only [List.length_append, List.length_cons, List.length_nil] at hy
        by_cases e : y = (nmS T c).2.length
        · rw [getD_end e, getD_left (by omega)]
          simpa using hm x (by omega)
        · rw [getD_left (by omega), getD_left (by omega)]
          exact ih.ap x y hxy (by omega)
    · have hh := idxB_hit (p := fun d => T d.toNat c) (xs := (nmS T c).2) (by omega)
      refine ⟨fun q hq => ?_, fun x y hxy hy => ?_⟩
      · rw [nmS_old h]
        dsimp only
        by_cases e : q = c
        · rw [e, getD_end r1.symm]
          exact ⟨by omega, hh.1, hh.2.1⟩
        · rw [getD_left (by omega)]
          exact ih.at_ q (by omega)
      · rw [nmS_old h] at hy ⊢
        exact ih.ap x y hxy hy
theorem nm_old {T : Nat → Nat → Bool} {n c q : Nat} (hT : EQT T n) (hc : c < n) (hq : q < c) (h : T q c = true) : idxB (fun d => T d.toNat c) (nmS T c).2 = (nmS T c).1.getD q 0 := by
  have hp := nmp hT c (by omega)
  obtain ⟨r1, r2, r3⟩ := nmS_rng T c
  obtain ⟨a1, a2, a3⟩ := hp.at_ q hq
  have hm := r3 _ (getD_mem (w := (nmS T c).2) (i := ((nmS T c).1.getD q 0).toNat) (by omega))
  have h1 := hT.tr _ q c (by omega) (by omega) hc a3 h
  have := idxB_at (p := fun d => T d.toNat c) (xs := (nmS T c).2) (k := ((nmS T c).1.getD q 0).toNat) (by omega) (fun x hx => ?_) h1
  · rw [this]; omega
  · have hx3 := r3 _ (getD_mem (w := (nmS T c).2) (i := x) (by omega))
    have h2 := hp.ap x _ hx (by omega)
    cases hc2 : T ((nmS T c).2.getD x 0).toNat c with
    | false => rfl
    | true =>
      have := hT.tr _ c _ (by omega) hc (by omega) hc2 (hT.sy _ _ (by omega) hc h1)
      rw [h2] at this; cases this
theorem nm_new {T : Nat → Nat → Bool} {c : Nat} (h : ∀ q, q < c → T q c = false) : idxB (fun d => T d.toNat c) (nmS T c).2 = -1 := by
  obtain ⟨r1, r2, r3⟩ := nmS_rng T c
  refine idxB_none fun x hx => ?_
  have hx3 := r3 _ (getD_mem hx)
  exact h _ (by omega)
theorem cN_app {xs : List Int} {x : Int} : ∀ {k : Nat}, k ≤ xs.length → cN (xs ++ [x]) k = cN xs k
  | 0, _ => rfl
  | k + 1, h => by
    simp only [cN]
    rw [cN_app (k := k) (by omega), getD_left (by omega)]
theorem nm_cN (T : Nat → Nat → Bool) : ∀ c, cN (nmS T c).1 c = (nmS T c).2.length ∧ ∀ k, k < c → cBad (nmS T c).1 k = false
  | 0 => ⟨rfl, fun k h => by omega⟩
  | c + 1 => by
    obtain ⟨i1, i2⟩ := nm_cN T c
    obtain ⟨r1, r2, r3⟩ := nmS_rng T c
    have key : ∀ x : Int, 0 ≤ x → x ≤ (nmS T c).2.length → ∀ k, k < c + 1 → cBad ((nmS T c).1 ++ [x]) k = false := by
      intro x h0 h1 k hk
      by_cases e : k = c
      · subst e
        refine cBad_no (by rw [getD_end r1.symm]; exact h0) (by rw [getD_end r1.symm, cN_app (by omega), i1]; exact h1)
      · have := i2 k (by omega)
        unfold cBad at this ⊢
        rw [getD_left (by omega), cN_app (by omega)]; exact this
    by_cases h : idxB (fun d => T d.toNat c) (nmS T c).2 < 0
    · rw [nmS_new h]
      refine ⟨?_, key _ (by omega) (by omega)⟩
      simp only [cN, List.length_append, List.length_cons, List.length_nil]
      rw [cN_app (by omega), getD_end r1.symm, i1]; omega
    · have hb := idxB_lt (fun d => T d.toNat c) (nmS T c).2
      rw [nmS_old h]
      refine ⟨?_, key _ (by omega) (by omega)⟩
      simp only [cN]
      rw [cN_app (by omega), getD_end r1.symm, i1]; omega
theorem nm_cnt (T : Nat → Nat → Bool) {n : Nat} (h1 : 1 ≤ n) (h2 : n ≤ 64) : cntE (nmS T n).1 = 0 ∧ cntK (nmS T n).1 = (nmS T n).2.length := by
  obtain ⟨r1, _, _⟩ := nmS_rng T n
  obtain ⟨i1, i2⟩ := nm_cN T n
  have h0 : cntE (nmS T n).1 = 0 := cntE_ok (by omega) fun k hk => i2 k (by omega)
  refine ⟨h0, ?_⟩
  unfold cntK
  rw [if_pos h0, r1, i1]
def eqL (l : List Int) (d c : Nat) : Bool := decide (l.getD d 0 = l.getD c 0)
theorem eqL_eqt (l : List Int) (n : Nat) : EQT (eqL l) n :=
  ⟨fun a _ => by simp [eqL], fun a b _ _ h => by simp only [eqL, decide_eq_true_eq] at h ⊢; exact h.symm, fun a b c _ _ _ h g => by simp only [eqL, decide_eq_true_eq] at h g ⊢; exact h.trans g⟩
/-- The inner loop of the numbering. -/
def NKP (l : List Int) (i j : Nat) (k : Int) : Prop := (k = ((nmS (eqL l) i).2.length : Int) ∧ ∀ q, q < j → ¬ l.getD q 0 = l.getD i 0) ∨ ∃ q, q < j ∧ l.getD q 0 = l.getD i 0 ∧ k = (nmS (eqL l) i).1.getD q 0
theorem nkp_zero (l : List Int) (i : Nat) : NKP l i 0 ((nmS (eqL l) i).2.length : Int) := .inl ⟨rfl, fun q h => by omega⟩
theorem nkp_hit {l : List Int} {i j : Nat} (h : l.getD j 0 = l.getD i 0) : NKP l i (j + 1) ((nmS (eqL l) i).1.getD j 0) := .inr ⟨j, by omega, h, rfl⟩
theorem nkp_miss {l : List Int} {i j : Nat} {k : Int} (h0 : NKP l i j k) (h : ¬ l.getD j 0 = l.getD i 0) : NKP l i (j + 1) k := by
  rcases h0 with ⟨h1, h2⟩ | ⟨q, h1, h2, h3⟩
  · refine .inl ⟨h1, fun q hq => ?_⟩
    by_cases e : q = j
    · rw [e]; exact h
    · exact h2 q (by omega)
  · exact .inr ⟨q, by omega, h2, h3⟩
theorem nkp_end {l : List Int} {i : Nat} {k : Int} (hi : i < l.length) (h : NKP l i i k) :
    (k = ((nmS (eqL l) i).2.length : Int) ∧ nmS (eqL l) (i + 1) = ((nmS (eqL l) i).1 ++ [k], (nmS (eqL l) i).2 ++ [(i : Int)])) ∨ (¬ k = ((nmS (eqL l) i).2.length : Int) ∧ nmS (eqL l) (i + 1) = ((nmS (eqL l) i).1 ++ [k], (nmS (eqL l) i).2)) := by
  rcases h with ⟨h1, h2⟩ | ⟨q, h1, h2, h3⟩
  · have := nm_new (T := eqL l) (c := i) fun q hq => by simp only [eqL, decide_eq_false_iff_not]; exact h2 q hq
    refine .inl ⟨h1, ?_⟩
    rw [nmS_new (by omega), h1]
  · have he := nm_old (eqL_eqt l l.length) hi h1 (by simp only [eqL, decide_eq_true_eq]; exact h2)
    have ha := (nmp (eqL_eqt l l.length) i (by omega)).at_ q h1
    refine .inr ⟨by omega, ?_⟩
    rw [nmS_old (by omega), he, h3]
/-- The least that is held together with c. -/
def lst (T : Nat → Nat → Bool) (c : Nat) : Nat := ((List.range c).find? (T c)).getD c
def LKP (T : Nat → Nat → Bool) (c e : Nat) (k : Int) : Prop := (k = (c : Int) ∧ ∀ q, e ≤ q → q < c → T c q = false) ∨ ∃ q : Nat, e ≤ q ∧ q < c ∧ T c q = true ∧ k = (q : Int) ∧ ∀ r, e ≤ r → r < q → T c r = false
theorem lkp_top (T : Nat → Nat → Bool) (c : Nat) : LKP T c c c := .inl ⟨rfl, fun q h1 h2 => by omega⟩
theorem lkp_hit {T : Nat → Nat → Bool} {c e : Nat} (hc : e < c) (h : T c e = true) : LKP T c e (e : Int) := .inr ⟨e, Nat.le_refl _, hc, h, rfl, fun r h1 h2 => by omega⟩
theorem lkp_miss {T : Nat → Nat → Bool} {c e : Nat} {k : Int} (h0 : LKP T c (e + 1) k) (h : T c e = false) : LKP T c e k := by
  rcases h0 with ⟨h1, h2⟩ | ⟨q, h1, h2, h3, h4, h5⟩
  · refine .inl ⟨h1, fun q q1 q2 => ?_⟩
    by_cases e1 : q = e
    · rw [e1]; exact h
    · exact h2 q (by omega) q2
  · refine .inr ⟨q, by omega, h2, h3, h4, fun r r1 r2 => ?_⟩
    by_cases e1 : r = e
    · rw [e1]; exact h
    · exact h5 r (by omega) r2
theorem lkp_end {T : Nat → Nat → Bool} {c : Nat} {k : Int} (h : LKP T c 0 k) : k = (lst T c : Int) := by
  unfold lst
  rcases h with ⟨h1, h2⟩ | ⟨q, h1, h2, h3, h4, h5⟩
  · rw [find_none fun y hy => h2 y (by omega) hy]; exact h1
  · rw [find_some h2 h3 fun y hy => h5 y (by omega) hy]; exact h4
theorem lst_spec {T : Nat → Nat → Bool} {n c : Nat} (hT : EQT T n) (hc : c < n) : lst T c ≤ c ∧ T c (lst T c) = true ∧ ∀ r, r < lst T c → T c r = false := by
  unfold lst
  cases hf : (List.range c).find? (T c) with
  | none =>
    have := List.find?_eq_none.1 hf
    exact ⟨Nat.le_refl _, hT.rf c hc, fun r hr => by simpa using this r (by simpa using hr)⟩
  | some q =>
    have h1 := List.find?_some hf
    have h2 : q < c := by simpa using List.mem_of_find?_eq_some hf
    refine ⟨by show q ≤ c; omega, h1, fun r hr => ?_⟩
    have hr' : r < q := hr
    cases hc2 : T c r with
    | false => rfl
    | true =>
      have h3 := (List.find?_range_eq_some.1 hf).2.2 r hr'
      rw [hc2] at h3; cases h3
theorem lst_iff {T : Nat → Nat → Bool} {n c d : Nat} (hT : EQT T n) (hc : c < n) (hd : d < n) : lst T d = lst T c ↔ T d c = true := by
  obtain ⟨c1, c2, c3⟩ := lst_spec hT hc
  obtain ⟨d1, d2, d3⟩ := lst_spec hT hd
  constructor
  · intro e
    rw [e] at d2
    exact hT.tr d _ c hd (by omega) hc d2 (hT.sy c _ hc (by omega) c2)
  · intro h
    have h1 := hT.tr c d _ hc hd (by omega) (hT.sy d c hd hc h) d2
    have h2 := hT.tr d c _ hd hc (by omega) h c2
    rcases Nat.lt_trichotomy (lst T d) (lst T c) with hh | hh | hh
    · rw [c3 _ hh] at h1; cases h1
    · exact hh
    · rw [d3 _ hh] at h2; cases h2
theorem togB_iff {m : Mly} {c d : Nat} : togB m c d = true ↔ ∀ k, k < (fstX m.exR).length → agrS m ((fstX m.exR).getD k 0) c d = true := by
  unfold togB
  constructor
  · intro h k hk
    have h1 : idxB (fun s => !agrS m s c d) (fstX m.exR) < 0 := by
      have : ¬ 0 ≤ idxB (fun s => !agrS m s c d) (fstX m.exR) := by simpa using h
      omega
    simpa using idxB_miss h1 k hk
  · intro h
    rw [idxB_none fun q hq => by rw [h q hq]; rfl]; rfl
theorem agr_iff {m : Mly} {s : Int} {c d : Nat} : agrS m s c d = true ↔ m.out s c = m.out s d ∧ m.eqc.getD (m.nxt s c).toNat 0 = m.eqc.getD (m.nxt s d).toNat 0 := by simp only [agrS, Bool.and_eq_true, decide_eq_true_eq]
theorem togB_eqt (m : Mly) (n : Nat) : EQT (togB m) n where
  rf a _ := togB_iff.2 fun k _ => agr_iff.2 ⟨rfl, rfl⟩
  sy a b _ _ h := togB_iff.2 fun k hk => by have := agr_iff.1 (togB_iff.1 h k hk); exact agr_iff.2 ⟨this.1.symm, this.2.symm⟩
  tr a b c _ _ _ h g := togB_iff.2 fun k hk => by
    have h1 := agr_iff.1 (togB_iff.1 h k hk); have h2 := agr_iff.1 (togB_iff.1 g k hk); exact agr_iff.2 ⟨h1.1.trans h2.1, h1.2.trans h2.2⟩
def lsL (T : Nat → Nat → Bool) (n : Nat) : List Int := (List.range n).map fun c => (lst T c : Int)
theorem lsL_succ (T : Nat → Nat → Bool) (n : Nat) : lsL T (n + 1) = lsL T n ++ [(lst T n : Int)] := by simp [lsL, List.range_succ]
theorem lsL_len (T : Nat → Nat → Bool) (n : Nat) : (lsL T n).length = n := by simp [lsL]
theorem lsL_at (T : Nat → Nat → Bool) {n c : Nat} (h : c < n) : (lsL T n).getD c 0 = (lst T c : Int) := by simp [lsL, List.getD, h]
theorem nm_lst {T : Nat → Nat → Bool} {n : Nat} (hT : EQT T n) : nmS (eqL (lsL T n)) n = nmS T n :=
  nmS_congr n fun d q h1 h2 => by
    unfold eqL
    rw [lsL_at T (by omega), lsL_at T (by omega)]
    have hi := lst_iff hT (c := q) (d := d) h2 (by omega)
    cases hc : T d q with
    | true => rw [hi.2 hc]; exact decide_eq_true rfl
    | false =>
      refine decide_eq_false fun hh => ?_
      rw [hi.1 (by omega)] at hc; cases hc
end Go.AV
namespace Go.AV
open Nat (reduceEqDiff reduceAdd reduceLeDiff reduceLT reduceMul reduceSub)
open List (set_cons_zero set_cons_succ)
/-plain-/
theorem finD_spec {m : Mly} {cl : List Int} {s : Int} {c d : Nat} (h : finD m cl s c = some d) : c < d ∧ d < cl.length ∧ parS m cl s c d = true := by
  unfold finD at h
  have h1 := List.find?_some h
  have h2 : d < cl.length := by simpa using List.mem_of_find?_eq_some h
  simp only [Bool.and_eq_true, decide_eq_true_eq] at h1
  exact ⟨h1.1, h2, h1.2⟩
theorem finI_spec {m : Mly} {cl : List Int} {p : Nat × Nat × Nat} (h : finI m cl = some p) : (p.1 < m.exR.length ∧ p.2.1 < cl.length ∧ p.2.2 < cl.length) ∧ p.2.1 < p.2.2 ∧ parS m cl (m.exR.getD p.1 eX0).1 p.2.1 p.2.2 = true := by
  unfold finI at h
  obtain ⟨i, hi, he⟩ := List.exists_of_findSome?_eq_some h
  cases hc : finC m cl (m.exR.getD i eX0).1 with
  | none => rw [hc] at he; cases he
  | some q =>
    rw [hc] at he
    simp only [Option.map_some, Option.some.injEq] at he
    subst he
    unfold finC at hc
    obtain ⟨c, hcm, hce⟩ := List.exists_of_findSome?_eq_some hc
    cases hd : finD m cl (m.exR.getD i eX0).1 c with
    | none => rw [hd] at hce; cases hce
    | some d =>
      rw [hd] at hce
      simp only [Option.map_some, Option.some.injEq] at hce
      subst hce
      obtain ⟨h1, h2, h3⟩ := finD_spec hd
      exact ⟨⟨by simpa using hi, by simpa using hcm, h2⟩, h1, h3⟩
def stpL (m : Mly) (cl : List Int) : List Int := if chkE m cl = 0 then (match finI m cl with | some p => (nmS (spl m cl p) m.inp.toNat).1 | none => cl) else []
def stpB (m : Mly) (cl : List Int) : Bool := if chkE m cl = 0 then (finI m cl).isSome else false
/-- The words of a witness. -/
def wTl (m : Mly) (p : Nat × Nat × Nat) : List Int := if m.out (m.exR.getD p.1 eX0).1 p.2.1 = m.out (m.exR.getD p.1 eX0).1 p.2.2 then (seS m m (m.nxt (m.exR.getD p.1 eX0).1 p.2.1) (m.nxt (m.exR.getD p.1 eX0).1 p.2.2)).getD [] else []
def wU (m : Mly) (cl : List Int) : List Int := if chkE m cl = 0 then (match finI m cl with | some p => (m.exR.getD p.1 eX0).2 ++ [(p.2.1 : Int)] ++ wTl m p | none => []) else []
def wV (m : Mly) (cl : List Int) : List Int := if chkE m cl = 0 then (match finI m cl with | some p => (m.exR.getD p.1 eX0).2 ++ [(p.2.2 : Int)] ++ wTl m p | none => []) else []
theorem f3_some (p : Nat × Nat × Nat) : f3 (some p) = ((p.1 : Int), (p.2.1 : Int), (p.2.2 : Int)) := rfl
theorem f3_none : f3 none = (0, 0, 0) := rfl
end Go.AV
namespace Go.AV
open Nat (reduceEqDiff reduceAdd reduceLeDiff reduceLT reduceMul reduceSub)
open List (set_cons_zero set_cons_succ)
/-plain-/
/-! ### a witness's words: identified by the list, but told apart by the machine -/
def SYM (n : Int) (w : List Int) : Prop := ∀ a, a ∈ w → 0 ≤ a ∧ a < n
theorem sym_at {n : Int} {w : List Int} (h : SYM n w) : ∀ i : Nat, i < w.length → 0 ≤ w.getD i 0 ∧ w.getD i 0 < n := fun _ hi => h _ (getD_mem hi)
theorem sym_of {n : Int} {w : List Int} (h : ∀ i : Nat, i < w.length → 0 ≤ w.getD i 0 ∧ w.getD i 0 < n) : SYM n w := fun a ha => by
  obtain ⟨i, hi⟩ := List.getElem?_of_mem ha
  have h1 := (List.getElem?_eq_some_iff.1 hi).1
  have := h i h1
  simpa [List.getD, hi] using this
theorem sym_app {n : Int} {u v : List Int} (hu : SYM n u) (hv : SYM n v) : SYM n (u ++ v) := fun a ha => by
  rcases List.mem_append.1 ha with h | h
  · exact hu a h
  · exact hv a h
theorem sym_one {n : Int} {x : Nat} (h : (x : Int) < n) : SYM n [(x : Int)] := fun a ha => by
  have : a = (x : Int) := by simpa using ha
  omega
def AGW (m : Mly) (e : S2) : Prop := (m.go m.st e.2).1 = e.1 ∧ SYM m.inp e.2
theorem ags_st {m : Mly} {e : S2} {l : List S2} {x : Nat} (h : ∀ f, f ∈ l → AGW m f) (he : AGW m e) (hx : (x : Int) < m.inp) : ∀ f, f ∈ stX m e l x → AGW m f := by
  unfold stX
  split
  · exact h
  · intro f hf
    rcases List.mem_append.1 hf with hf | hf
    · exact h f hf
    · have e1 : f = ((m.row e.1).getD x 0, e.2 ++ [(x : Int)]) := by simpa using hf
      subst e1
      refine ⟨?_, sym_app he.2 (sym_one hx)⟩
      rw [go_append, he.1]; rfl
theorem ags_row {m : Mly} {e : S2} {l : List S2} (h : ∀ f, f ∈ l → AGW m f) (he : AGW m e) : ∀ x : Nat, (x : Int) ≤ m.inp → ∀ f, f ∈ rowX m e l x → AGW m f
  | 0, _ => by simpa [rowX] using h
  | x + 1, hx => by
    rw [rowX_succ]
    exact ags_st (ags_row h he x (by omega)) he (by omega)
theorem ags_exF {m : Mly} (hi : 0 ≤ m.inp) : ∀ (f i : Nat) (l : List S2), (∀ e, e ∈ l → AGW m e) → ∀ e, e ∈ exF m f i l → AGW m e
  | 0, _, _, h => h
  | f + 1, i, l, h => by
    simp only [exF]
    split
    · rename_i hil
      exact ags_exF hi f (i + 1) _ (ags_row h (h _ (mem_X hil)) m.inp.toNat (by omega))
    · exact h
theorem ags_exR {m : Mly} (hm : MOK m) : ∀ e, e ∈ m.exR → AGW m e := by
  have := hm.i1
  refine ags_exF (by omega) _ _ _ fun e he => ?_
  have e1 : e = (m.st, []) := by simpa using he
  subst e1
  exact ⟨rfl, fun a ha => by cases ha⟩
theorem srS_len2 {a b : Mly} (ha : MOK a) (hb : MOK b) (hi : a.inp = b.inp) {B : Nat} (hB : a.nx.length * b.nx.length ≤ B) : ∀ (f i : Nat) (l : List S3), WFS a b l → ∀ w, srS a b f i l = some w → w.length ≤ B + 1
  | 0, _, _, _, w, h => by cases h
  | f + 1, i, l, hl, w, h => by
    simp only [srS] at h
    split at h
    · rename_i hil
      have h1 := hl.wl hil
      have h2 := hl.le
      have h3 := ha.i1
      split at h
      · simp only [Option.some.injEq] at h; subst h
        rw [List.length_append]; simp only [List.length_cons, List.length_nil]; omega
      · exact srS_len2 ha hb hi hB f (i + 1) _ (hl.row ha hb hi hil a.inp.toNat (by omega)) w h
    · cases h
theorem go_one (m : Mly) (e : S2) (c : Nat) (w : List Int) (he : AGW m e) : (m.go m.st (e.2 ++ [(c : Int)] ++ w)).2 = (m.go m.st e.2).2 ++ (m.out e.1 c :: (m.go (m.nxt e.1 c) w).2) := by
  rw [List.append_assoc, go_append, he.1]
  simp only [List.cons_append, List.nil_append]
  rw [go_cons]
structure SHW (m : Mly) (cl : List Int) (u v : List Int) : Prop where
  su : SYM m.inp u
  sv : SYM m.inp v
  lu : u.length ≤ 200
  lv : v.length = u.length
  pos : 0 < u.length
  ne : (m.go m.st u).2 ≠ (m.go m.st v).2
  im : u.map (fun a => cl.getD a.toNat 0) = v.map fun a => cl.getD a.toNat 0
theorem shw {m : Mly} {cl : List Int} {p : Nat × Nat × Nat} (hk : COK m cl) (hs : m.nx.length ≤ 12) (hf : finI m cl = some p) : SHW m cl ((m.exR.getD p.1 eX0).2 ++ [(p.2.1 : Int)] ++ wTl m p) ((m.exR.getD p.1 eX0).2 ++ [(p.2.2 : Int)] ++ wTl m p) := by
  have hm := hk.ok; have hlen := hk.len
  obtain ⟨⟨p1, p2, p3⟩, p4, p5⟩ := finI_spec hf
  have hwx := wfx_exR hm
  have hat := hwx.at_ p1
  have hwl := hwx.wl _ (mem_X p1)
  have hxl := hwx.le
  have hag := ags_exR hm _ (mem_X p1)
  have hnc := hm.nr (m.exR.getD p.1 eX0).1.toNat p.2.1 (by omega) (by omega)
  have hnd := hm.nr (m.exR.getD p.1 eX0).1.toNat p.2.2 (by omega) (by omega)
  have hcl : cl.getD p.2.1 0 = cl.getD p.2.2 0 := by
    unfold parS at p5; simp only [Bool.and_eq_true, decide_eq_true_eq] at p5; exact p5.1
  have hna : agrS m (m.exR.getD p.1 eX0).1 p.2.1 p.2.2 = false := by
    unfold parS at p5; simp only [Bool.and_eq_true, Bool.not_eq_true', decide_eq_true_eq] at p5; exact p5.2
  have hT : SYM m.inp (wTl m p) ∧ (wTl m p).length ≤ 145 ∧ (m.out (m.exR.getD p.1 eX0).1 p.2.1 :: (m.go (m.nxt (m.exR.getD p.1 eX0).1 p.2.1) (wTl m p)).2) ≠ (m.out (m.exR.getD p.1 eX0).1 p.2.2 :: (m.go (m.nxt (m.exR.getD p.1 eX0).1 p.2.2) (wTl m p)).2) := by
    by_cases hO : m.out (m.exR.getD p.1 eX0).1 p.2.1 = m.out (m.exR.getD p.1 eX0).1 p.2.2
    · have e : wTl m p = (seS m m (m.nxt (m.exR.getD p.1 eX0).1 p.2.1) (m.nxt (m.exR.getD p.1 eX0).1 p.2.2)).getD [] := if_pos hO
      have hi := eqc_seS hm hnc hnd
      have hne : ¬ m.eqc.getD (m.nxt (m.exR.getD p.1 eX0).1 p.2.1).toNat 0 = m.eqc.getD (m.nxt (m.exR.getD p.1 eX0).1 p.2.2).toNat 0 := by
        intro hh
        have := agr_iff.2 ⟨hO, hh⟩
        rw [hna] at this; cases this
      have hso : (seS m m (m.nxt (m.exR.getD p.1 eX0).1 p.2.1) (m.nxt (m.exR.getD p.1 eX0).1 p.2.2)).isSome = true := by
        refine hi.trans ?_
        rw [show decide (m.eqc.getD ((m.nx.getD (m.exR.getD p.1 eX0).1.toNat []).getD p.2.1 0).toNat 0 = m.eqc.getD ((m.nx.getD (m.exR.getD p.1 eX0).1.toNat []).getD p.2.2 0).toNat 0) = false from decide_eq_false hne]; rfl
      obtain ⟨w, hw⟩ := Option.isSome_iff_exists.1 hso
      rw [e, hw]
      obtain ⟨w1, w2, w3⟩ := seS_sound hw
      refine ⟨sym_of w1, srS_len2 (B := 144) hm hm rfl (Nat.le_trans (Nat.mul_le_mul hs hs) (by omega)) _ _ _ (wfs_one hnc hnd) w hw, fun hh => w2 ?_⟩
      injection hh
    · have e : wTl m p = [] := if_neg hO
      rw [e]
      refine ⟨fun a ha => (by cases ha), Nat.zero_le _, fun hh => hO ?_⟩
      injection hh
  refine ⟨sym_app (sym_app hag.2 (sym_one (by omega))) hT.1, sym_app (sym_app hag.2 (sym_one (by omega))) hT.1, ?_, ?_, ?_, ?_, ?_⟩
  · simp only [List.length_append, List.length_cons, List.length_nil]; omega
  · simp only [List.length_append, List.length_cons, List.length_nil]
  · simp only [List.length_append, List.length_cons, List.length_nil]; omega
  · rw [go_one m _ _ _ hag, go_one m _ _ _ hag]
    intro hh
    exact hT.2.2 (List.append_cancel_left hh)
  · simp only [List.map_append, List.map_cons, List.map_nil, Int.toNat_natCast, hcl]
theorem shw_from {m : Mly} {w : List Int} (hm : MOK m) (h : SYM m.inp w) (hl : w.length ≤ 200) : fromE m m.st w = 0 ∧ fromV m m.st w = (m.go m.st w).2 := by
  have h1 := hm.s1; have h2 := hm.s2; have h3 := hm.i1; have h4 := hm.i2
  have e : fromE m m.st w = 0 := by
    unfold fromE
    rw [if_neg (by simp [validE_of hm]), if_neg (by omega)]
    exact wordE_ok h3 (by omega) ⟨by omega, sym_at h⟩
  refine ⟨e, ?_⟩
  unfold fromV
  rw [if_pos e]
theorem shw_UV {m : Mly} {cl : List Int} (hc : chkE m cl = 0) (hb : stpB m cl = true) (hs : m.nx.length ≤ 12) : SHW m cl (wU m cl) (wV m cl) := by
  have hk := cok_of hc
  unfold stpB at hb
  rw [if_pos hc] at hb
  obtain ⟨p, hp⟩ := Option.isSome_iff_exists.1 hb
  unfold wU wV
  rw [if_pos hc, if_pos hc, hp]
  exact shw hk hs hp
theorem shw_nil {m : Mly} {cl : List Int} (h : chkE m cl = 0 → stpB m cl = false) : wU m cl = [] ∧ wV m cl = [] := by
  unfold wU wV
  by_cases hc : chkE m cl = 0
  · have hb := h hc
    unfold stpB at hb
    rw [if_pos hc] at hb
    have hn : finI m cl = none := by cases hf : finI m cl with
      | none => rfl
      | some p => rw [hf] at hb; cases hb
    rw [if_pos hc, if_pos hc, hn]; exact ⟨rfl, rfl⟩
  · rw [if_neg hc, if_neg hc]; exact ⟨rfl, rfl⟩
theorem rep_at {n i : Nat} : (List.replicate n (0 : Int)).getD i 0 = 0 := by
  by_cases h : i < n
  · simp [List.getD, h]
  · simp [List.getD, Nat.le_of_not_lt h]
theorem map_take_succ {f : Int → Int} {w : List Int} {k : Nat} (h : k < w.length) : (w.map f).take k ++ [f (w.getD k 0)] = (w.map f).take (k + 1) := by
  rw [List.take_add_one]
  simp [List.getD, h]
end Go.AV
namespace Go.AV
open Nat (reduceEqDiff reduceAdd reduceLeDiff reduceLT reduceMul reduceSub)
open List (set_cons_zero set_cons_succ)
/-plain-/
def runLm (m : Mly) : List Int := if validE m = 0 then (nmS (togB m) m.inp.toNat).1 else []
def runNm (m : Mly) : Int := if validE m = 0 then ((nmS (togB m) m.inp.toNat).2.length : Int) else 0
end Go.AV
namespace Go.AV
open Nat (reduceEqDiff reduceAdd reduceLeDiff reduceLT reduceMul reduceSub)
open List (set_cons_zero set_cons_succ)
/-plain-/
theorem nm_iff {T : Nat → Nat → Bool} {n c d : Nat} (hT : EQT T n) (hc : c < n) (hd : d < n) : (nmS T n).1.getD c 0 = (nmS T n).1.getD d 0 ↔ T c d = true := by
  have hp := nmp hT n (Nat.le_refl _)
  obtain ⟨r1, r2, r3⟩ := nmS_rng T n
  obtain ⟨c1, c2, c3⟩ := hp.at_ c hc
  obtain ⟨d1, d2, d3⟩ := hp.at_ d hd
  have hmc := r3 _ (getD_mem (w := (nmS T n).2) (i := ((nmS T n).1.getD c 0).toNat) (by omega))
  have hmd := r3 _ (getD_mem (w := (nmS T n).2) (i := ((nmS T n).1.getD d 0).toNat) (by omega))
  constructor
  · intro e
    rw [← e] at d3
    exact hT.tr c _ d hc (by omega) hd (hT.sy _ c (by omega) hc c3) d3
  · intro h
    have h1 := hT.tr _ c d (by omega) hc hd c3 h
    have h2 := hT.tr _ d _ (by omega) hd (by omega) h1 (hT.sy _ d (by omega) hd d3)
    rcases Nat.lt_trichotomy ((nmS T n).1.getD c 0).toNat ((nmS T n).1.getD d 0).toNat with hh | hh | hh
    · have := hp.ap _ _ hh (by omega)
      rw [h2] at this; cases this
    · omega
    · have h3 := hT.sy _ _ (by omega) (by omega) h2
      have := hp.ap _ _ hh (by omega)
      rw [h3] at this; cases this
structure RUN (m : Mly) : Prop where
  len : (runLm m).length = m.inp.toNat
  ce : cntE (runLm m) = 0
  ck : cntK (runLm m) = runNm m
  eq : ∀ c d : Nat, c < m.inp.toNat → d < m.inp.toNat → ((runLm m).getD c 0 = (runLm m).getD d 0 ↔ togB m c d = true)
  ch : chkE m (runLm m) = 0
  no : stpB m (runLm m) = false
theorem fin_none {m : Mly} {cl : List Int} (hk : COK m cl) (h : ∀ c d : Nat, c < m.inp.toNat → d < m.inp.toNat → cl.getD c 0 = cl.getD d 0 → togB m c d = true) : stpB m cl = false := by
  have hlen := hk.len
  unfold stpB
  split
  · cases hf : finI m cl with
    | none => rfl
    | some p =>
      exfalso
      obtain ⟨⟨p1, p2, p3⟩, p4, p5⟩ := finI_spec hf
      unfold parS at p5
      simp only [Bool.and_eq_true, Bool.not_eq_true', decide_eq_true_eq] at p5
      have h1 := togB_iff.1 (h p.2.1 p.2.2 (by omega) (by omega) p5.1) p.1 (by rw [fstX_len]; exact p1)
      rw [fstX_at p1, p5.2] at h1
      cases h1
  · rfl
theorem runs {m : Mly} (hm : MOK m) : RUN m := by
  have hi1 := hm.i1; have hi2 := hm.i2
  have hv := validE_of hm
  have eL : runLm m = (nmS (togB m) m.inp.toNat).1 := by unfold runLm; rw [if_pos hv]
  have eN : runNm m = ((nmS (togB m) m.inp.toNat).2.length : Int) := by unfold runNm; rw [if_pos hv]
  have hc := nm_cnt (togB m) (n := m.inp.toNat) (by omega) (by omega)
  have hr := nmS_rng (togB m) m.inp.toNat
  have hq : ∀ c d : Nat, c < m.inp.toNat → d < m.inp.toNat → ((runLm m).getD c 0 = (runLm m).getD d 0 ↔ togB m c d = true) := fun c d h1 h2 => by rw [eL]; exact nm_iff (togB_eqt m _) h1 h2
  have hl : (runLm m).length = m.inp.toNat := by rw [eL]; exact hr.1
  have hce : cntE (runLm m) = 0 := by rw [eL]; exact hc.1
  have hch : chkE m (runLm m) = 0 := by
    unfold chkE
    rw [if_neg (by simp [hv]), if_neg (by simp [hce]), if_pos (by omega)]
  exact ⟨hl, hce, by rw [eL, eN]; exact hc.2, hq, hch, fin_none (cok_of hch) fun c d h1 h2 e => (hq c d h1 h2).1 e⟩
theorem run_dec {m : Mly} (h : RUN m) {c d : Nat} (hc : c < m.inp.toNat) (hd : d < m.inp.toNat) : decide ((runLm m).getD c 0 = (runLm m).getD d 0) = togB m c d := by
  have := h.eq c d hc hd
  cases ht : togB m c d with
  | true => exact decide_eq_true (this.2 ht)
  | false => exact decide_eq_false fun hh => by rw [this.1 hh] at ht; cases ht
end Go.AV
namespace Go.AV
open Nat (reduceEqDiff reduceAdd reduceLeDiff reduceLT reduceMul reduceSub)
open List (set_cons_zero set_cons_succ)
/-plain-/
/-! ### repeating Step: every step divides a class, and the end is the list of Run -/
def isN (T : Nat → Nat → Bool) (c : Nat) : Bool := (List.range c).all fun d => !T d c
theorem isN_yes {T : Nat → Nat → Bool} {c : Nat} : isN T c = true ↔ ∀ d, d < c → T d c = false := by
  unfold isN; simp [List.all_eq_true]
theorem isN_no {T : Nat → Nat → Bool} {c d : Nat} (h : d < c) (ht : T d c = true) : isN T c = false := by
  cases hc : isN T c with
  | false => rfl
  | true => rw [isN_yes.1 hc d h] at ht; cases ht
theorem nm_count {T : Nat → Nat → Bool} {n : Nat} (hT : EQT T n) : ∀ c, c ≤ n → (nmS T c).2.length = (List.range c).countP (isN T)
  | 0, _ => rfl
  | c + 1, h => by
    have ih := nm_count hT c (by omega)
    rw [List.range_succ, List.countP_append, ← ih]
    cases hc : isN T c with
    | true =>
      have := nm_new (T := T) (c := c) (isN_yes.1 hc)
      rw [nmS_new (by omega)]
      simp [hc]
    | false =>
      have : ∃ d, d < c ∧ T d c = true := by
        refine Decidable.byContradiction fun hh => ?_
        have : isN T c = true := isN_yes.2 fun d hd => by
          cases ht : T d c with
          | false => rfl
          | true => exact absurd ⟨d, hd, ht⟩ hh
        rw [hc] at this; cases this
      obtain ⟨d, hd, ht⟩ := this
      have h1 := nm_old hT (by omega) hd ht
      have h2 := ((nmp hT c (by omega)).at_ d hd).1
      rw [nmS_old (by omega)]
      simp [hc]
theorem cP_le {p q : Nat → Bool} : ∀ n, (∀ x, x < n → p x = true → q x = true) → (List.range n).countP p ≤ (List.range n).countP q
  | 0, _ => Nat.le_refl _
  | n + 1, h => by
    have ih := cP_le (p := p) (q := q) n fun x hx => h x (by omega)
    rw [List.range_succ, List.countP_append, List.countP_append]
    have : [n].countP p ≤ [n].countP q := by
      cases hp : p n with
      | false => simp [hp]
      | true => simp [hp, h n (by omega) hp]
    omega
theorem cP_lt {p q : Nat → Bool} {c : Nat} (h1 : q c = true) (h2 : p c = false) : ∀ n, (∀ x, x < n → p x = true → q x = true) → c < n → (List.range n).countP p < (List.range n).countP q
  | n + 1, h, hc => by
    rw [List.range_succ, List.countP_append, List.countP_append]
    by_cases e : c = n
    · have ih := cP_le (p := p) (q := q) n fun x hx => h x (by omega)
      subst e
      have a1 : [c].countP p = 0 := by simp [h2]
      have a2 : [c].countP q = 1 := by simp [h1]
      omega
    · have ih := cP_lt h1 h2 n (fun x hx => h x (by omega)) (by omega)
      have : [n].countP p ≤ [n].countP q := by
        cases hp : p n with
        | false => simp [hp]
        | true => simp [hp, h n (by omega) hp]
      omega
theorem lst_isN {T : Nat → Nat → Bool} {n c : Nat} (hT : EQT T n) (hc : c < n) : isN T (lst T c) = true := by
  obtain ⟨c1, c2, c3⟩ := lst_spec hT hc
  refine isN_yes.2 fun d hd => ?_
  cases ht : T d (lst T c) with
  | false => rfl
  | true =>
    have := hT.tr c _ d hc (by omega) (by omega) c2 (hT.sy d _ (by omega) (by omega) ht)
    rw [c3 d hd] at this; cases this
theorem nm_more {T U : Nat → Nat → Bool} {n a b : Nat} (hT : EQT T n) (hU : EQT U n) (hf : ∀ d c, d < n → c < n → U d c = true → T d c = true) (ha : a < n) (hb : b < n) (ht : T a b = true) (hu : U a b = false) : (nmS T n).2.length < (nmS U n).2.length := by
  rw [nm_count hT n (Nat.le_refl _), nm_count hU n (Nat.le_refl _)]
  have mono : ∀ x, x < n → isN T x = true → isN U x = true := fun x hx h => isN_yes.2 fun d hd => by
    cases hc : U d x with
    | false => rfl
    | true => have := hf d x (by omega) hx hc; rw [isN_yes.1 h d hd] at this; cases this
  obtain ⟨a1, a2, a3⟩ := lst_spec hU ha
  obtain ⟨b1, b2, b3⟩ := lst_spec hU hb
  have hne : lst U a ≠ lst U b := fun e => by
    have := (lst_iff hU hb ha).1 e; rw [hu] at this; cases this
  have ta := hf a _ ha (by omega) a2
  have tb := hf b _ hb (by omega) b2
  have tab : T (lst U a) (lst U b) = true := hT.tr _ a _ (by omega) ha (by omega) (hT.sy a _ ha (by omega) ta) (hT.tr a b _ ha hb (by omega) ht tb)
  rcases Nat.lt_or_gt_of_ne hne with hh | hh
  · exact cP_lt (c := lst U b) (lst_isN hU hb) (isN_no hh tab) n mono (by omega)
  · exact cP_lt (c := lst U a) (lst_isN hU ha) (isN_no hh (hT.sy _ _ (by omega) (by omega) tab)) n mono (by omega)
theorem cN_onto {cl : List Int} (hb : ∀ q, q < cl.length → cBad cl q = false) : ∀ k, k ≤ cl.length → ∀ v, 0 ≤ v → v < cN cl k → ∃ q, q < k ∧ cl.getD q 0 = v
  | 0, _, v, h0, h1 => by simp only [cN] at h1; omega
  | k + 1, hk, v, h0, h1 => by
    have h2 := hb k (by omega)
    simp only [cBad, Bool.or_eq_false_iff, decide_eq_false_iff_not] at h2
    simp only [cN] at h1
    by_cases e : v < cN cl k
    · obtain ⟨q, q1, q2⟩ := cN_onto hb k (by omega) v h0 e
      exact ⟨q, by omega, q2⟩
    · exact ⟨k, by omega, by omega⟩
theorem cN_up (cl : List Int) : ∀ k q, q < k → cl.getD q 0 < cN cl k
  | 0, q, h => by omega
  | k + 1, q, h => by
    simp only [cN]
    by_cases e : q = k
    · rw [e]; omega
    · have := cN_up cl k q (by omega); omega
theorem canon {cl : List Int} (hb : ∀ q, q < cl.length → cBad cl q = false) : ∀ k, k ≤ cl.length → (nmS (eqL cl) k).1 = cl.take k ∧ ((nmS (eqL cl) k).2.length : Int) = cN cl k
  | 0, _ => ⟨by simp [nmS], rfl⟩
  | k + 1, hk => by
    obtain ⟨i1, i2⟩ := canon hb k (by omega)
    have h2 := hb k (by omega)
    simp only [cBad, Bool.or_eq_false_iff, decide_eq_false_iff_not] at h2
    have ht : cl.take (k + 1) = cl.take k ++ [cl.getD k 0] := take_succ_D (by omega)
    by_cases e : cl.getD k 0 = cN cl k
    · have hn := nm_new (T := eqL cl) (c := k) fun q hq => by
        have := cN_up cl k q hq
        simp only [eqL, decide_eq_false_iff_not]; omega
      rw [nmS_new (by omega), ht, i1]
      refine ⟨by rw [i2, e], ?_⟩
      simp only [List.length_append, List.length_cons, List.length_nil, cN]; omega
    · obtain ⟨q, q1, q2⟩ := cN_onto hb k (by omega) (cl.getD k 0) (by omega) (by omega)
      have ho := nm_old (eqL_eqt cl cl.length) (c := k) (q := q) (by omega) q1 (by simp only [eqL, decide_eq_true_eq]; exact q2)
      have hq : (nmS (eqL cl) k).1.getD q 0 = cl.getD k 0 := by
        rw [i1, ← q2]; simp [List.getD, q1]
      rw [hq] at ho
      rw [nmS_old (by omega), ht, i1, ho]
      refine ⟨rfl, ?_⟩
      rw [i2]; simp only [cN]; omega
theorem cN_nn (cl : List Int) : ∀ k, 0 ≤ cN cl k
  | 0 => Int.le_refl _
  | k + 1 => by have := cN_nn cl k; simp only [cN]; omega
structure STD (m : Mly) (C : List Int) (j : Nat) : Prop where
  len : C.length = m.inp.toNat
  ce : cntE C = 0
  co : ∀ c d : Nat, c < m.inp.toNat → d < m.inp.toNat → togB m c d = true → C.getD c 0 = C.getD d 0
  ct : (j : Int) + 1 ≤ cntK C
theorem std_cok {m : Mly} (hm : MOK m) {C : List Int} {j : Nat} (h : STD m C j) : COK m C := ⟨hm, h.ce, by have := hm.i1; have := h.len; omega⟩
theorem std_zero {m : Mly} (hm : MOK m) : STD m (List.replicate m.inp.toNat 0) 0 := by
  have hi1 := hm.i1; have hi2 := hm.i2
  have hl : (List.replicate m.inp.toNat (0 : Int)).length = m.inp.toNat := List.length_replicate
  have hc : cntE (List.replicate m.inp.toNat (0 : Int)) = 0 := cntE_ok (by omega) fun k _ => cBad_no (by rw [rep_at]; omega) (by rw [rep_at]; exact cN_nn _ _)
  refine ⟨hl, hc, fun c d _ _ _ => by rw [rep_at, rep_at], ?_⟩
  unfold cntK
  rw [if_pos hc, hl]
  have := cN_up (List.replicate m.inp.toNat (0 : Int)) m.inp.toNat 0 (by omega)
  rw [rep_at] at this
  omega
theorem std_cnt {m : Mly} (hm : MOK m) {C : List Int} {j : Nat} (h : STD m C j) : cntK C = ((nmS (eqL C) C.length).2.length : Int) ∧ (nmS (eqL C) C.length).1 = C ∧ cntK C ≤ m.inp := by
  have hi1 := hm.i1
  obtain ⟨h1, h2⟩ := cntE_zero h.ce
  obtain ⟨c1, c2⟩ := canon h2 C.length (Nat.le_refl _)
  have hl := h.len
  have hcl := cN_le h2 C.length (Nat.le_refl _)
  unfold cntK
  rw [if_pos h.ce]
  exact ⟨c2.symm, by rw [c1, List.take_length], by omega⟩
theorem spl_eqt (m : Mly) (C : List Int) (p : Nat × Nat × Nat) (n : Nat) : EQT (spl m C p) n where
  rf a _ := by simp [spl, agrS]
  sy a b _ _ h := by
    simp only [spl, agrS, Bool.and_eq_true, Bool.or_eq_true, Bool.not_eq_true', decide_eq_true_eq, decide_eq_false_iff_not] at h ⊢
    obtain ⟨h1, h2⟩ := h
    refine ⟨h1.symm, ?_⟩
    rcases h2 with h2 | h2
    · exact .inl (h1 ▸ h2)
    · exact .inr ⟨h2.1.symm, h2.2.symm⟩
  tr a b c _ _ _ h g := by
    simp only [spl, agrS, Bool.and_eq_true, Bool.or_eq_true, Bool.not_eq_true', decide_eq_true_eq, decide_eq_false_iff_not] at h g ⊢
    obtain ⟨h1, h2⟩ := h
    obtain ⟨g1, g2⟩ := g
    refine ⟨h1.trans g1, ?_⟩
    rcases h2 with h2 | h2
    · exact .inl h2
    · rcases g2 with g2 | g2
      · exact .inl (by rw [h1]; exact g2)
      · exact .inr ⟨h2.1.trans g2.1, h2.2.trans g2.2⟩
theorem std_step {m : Mly} (hm : MOK m) {C : List Int} {j : Nat} (h : STD m C j) (hb : stpB m C = true) : STD m (stpL m C) (j + 1) ∧ cntK C < cntK (stpL m C) := by
  have hk := std_cok hm h
  have hi1 := hm.i1; have hi2 := hm.i2
  have hch : chkE m C = 0 := by
    unfold chkE
    rw [if_neg (by simp [validE_of hm]), if_neg (by simp [hk.ce]), if_pos hk.len]
  unfold stpB at hb
  rw [if_pos hch] at hb
  obtain ⟨p, hp⟩ := Option.isSome_iff_exists.1 hb
  have e : stpL m C = (nmS (spl m C p) m.inp.toNat).1 := by unfold stpL; rw [if_pos hch, hp]
  rw [e]
  obtain ⟨⟨p1, p2, p3⟩, p4, p5⟩ := finI_spec hp
  unfold parS at p5
  simp only [Bool.and_eq_true, Bool.not_eq_true', decide_eq_true_eq] at p5
  have hl := h.len
  have hr := nmS_rng (spl m C p) m.inp.toNat
  have hc := nm_cnt (spl m C p) (n := m.inp.toNat) (by omega) (by omega)
  obtain ⟨s1, s2, s3⟩ := std_cnt hm h
  have hmore : (nmS (eqL C) m.inp.toNat).2.length < (nmS (spl m C p) m.inp.toNat).2.length := by
    refine nm_more (a := p.2.1) (b := p.2.2) (eqL_eqt C _) (spl_eqt m C p _) (fun d c _ _ hu => ?_) (by omega) (by omega) (by simp only [eqL, decide_eq_true_eq]; exact p5.1) ?_
    · simp only [spl, Bool.and_eq_true, decide_eq_true_eq] at hu
      simp only [eqL, decide_eq_true_eq]; exact hu.1
    · unfold spl
      rw [p5.2, show decide (C.getD p.2.1 0 = C.getD p.2.1 0) = true from decide_eq_true rfl]; simp
  rw [hl] at s1
  have hlt : cntK C < cntK (nmS (spl m C p) m.inp.toNat).1 := by rw [hc.2]; omega
  refine ⟨⟨hr.1, hc.1, fun c d h1 h2 ht => ?_, by have := h.ct; omega⟩, hlt⟩
  rw [nm_iff (spl_eqt m C p _) h1 h2]
  have hq := togB_iff.1 ht p.1 (by rw [fstX_len]; exact p1)
  rw [fstX_at p1] at hq
  simp only [spl, Bool.and_eq_true, Bool.or_eq_true, decide_eq_true_eq]
  exact ⟨h.co c d h1 h2 ht, .inr hq⟩
theorem finI_none {m : Mly} {cl : List Int} (h : finI m cl = none) {i c d : Nat} (hi : i < m.exR.length) (hcd : c < d) (hd : d < cl.length) : parS m cl (m.exR.getD i eX0).1 c d = false := by
  unfold finI at h
  have h1 := List.findSome?_eq_none_iff.1 h i (by simpa using hi)
  have h2 : finC m cl (m.exR.getD i eX0).1 = none := by simpa using h1
  unfold finC at h2
  have h3 := List.findSome?_eq_none_iff.1 h2 c (by simp; omega)
  have h4 : finD m cl (m.exR.getD i eX0).1 c = none := by simpa using h3
  unfold finD at h4
  have h5 := List.find?_eq_none.1 h4 d (by simpa using hd)
  simpa [hcd] using h5
theorem std_end {m : Mly} (hm : MOK m) {C : List Int} {j : Nat} (h : STD m C j) (hb : stpB m C = false) : C = runLm m ∧ cntK C = runNm m ∧ stpL m C = C := by
  have hk := std_cok hm h
  have hi1 := hm.i1
  have hl := h.len
  have hch : chkE m C = 0 := by
    unfold chkE
    rw [if_neg (by simp [validE_of hm]), if_neg (by simp [hk.ce]), if_pos hk.len]
  unfold stpB at hb
  rw [if_pos hch] at hb
  have hn : finI m C = none := by cases hf : finI m C with
    | none => rfl
    | some p => rw [hf] at hb; cases hb
  have lt : ∀ c d : Nat, c < d → d < m.inp.toNat → C.getD c 0 = C.getD d 0 → togB m c d = true := fun c d h1 h2 e => togB_iff.2 fun k hk2 => by
    rw [fstX_len] at hk2
    have := finI_none hn (i := k) hk2 h1 (by omega)
    unfold parS at this
    rw [decide_eq_true e] at this
    rw [fstX_at hk2]
    simpa using this
  have hcon : nmS (eqL C) m.inp.toNat = nmS (togB m) m.inp.toNat := nmS_congr _ fun d q h1 h2 => by
    unfold eqL
    cases ht : togB m d q with
    | true => exact decide_eq_true (h.co d q (by omega) h2 ht)
    | false => exact decide_eq_false fun e => by rw [lt d q h1 h2 e] at ht; cases ht
  obtain ⟨s1, s2, s3⟩ := std_cnt hm h
  rw [hl] at s1 s2
  have hv := validE_of hm
  refine ⟨by unfold runLm; rw [if_pos hv, ← hcon]; exact s2.symm, by unfold runNm; rw [if_pos hv, ← hcon]; exact s1, ?_⟩
  unfold stpL
  rw [if_pos hch, hn]
theorem chk_of {m : Mly} {C : List Int} (hk : COK m C) : chkE m C = 0 := by
  unfold chkE
  rw [if_neg (by simp [validE_of hk.ok]), if_neg (by simp [hk.ce]), if_pos hk.len]
end Go.AV
namespace Go.AV
open Nat (reduceEqDiff reduceAdd reduceLeDiff reduceLT reduceMul reduceSub)
open List (set_cons_zero set_cons_succ)
/-plain-/
/-! ### the machine over the classes of equivalent states -/
theorem nextL_can (m : Mly) (cl : List Int) : ∀ k, k ≤ m.nx.length → cN (m.nextL cl) k = ((difs (m.sig cl) k).length : Int) ∧ ∀ q, q < k → cBad (m.nextL cl) q = false
  | 0, _ => ⟨by simp [cN, difs], fun q h => by omega⟩
  | k + 1, h => by
    obtain ⟨i1, i2⟩ := nextL_can m cl k (by omega)
    have hv := nextL_at (cl := cl) (s := k) (by omega : k < m.nx.length)
    by_cases hs : m.sig cl k ∈ difs (m.sig cl) k
    · have h1 := next_old (cl := cl) (by omega : k < m.nx.length) hs
      have h2 := pos_lt hs
      rw [h1] at hv
      refine ⟨?_, fun q hq => ?_⟩
      · rw [difs_succ, addG_in hs]; simp only [cN]; omega
      · by_cases e : q = k
        · subst e; exact cBad_no (by omega) (by omega)
        · exact i2 q (by omega)
    · have h1 := next_new (cl := cl) (by omega : k < m.nx.length) hs
      rw [h1] at hv
      refine ⟨?_, fun q hq => ?_⟩
      · rw [difs_succ, addG_out hs, List.length_append]; simp only [cN, List.length_cons, List.length_nil]; omega
      · by_cases e : q = k
        · subst e; exact cBad_no (by omega) (by omega)
        · exact i2 q (by omega)
theorem eqc_can {m : Mly} (hm : MOK m) : ∀ q, q < m.eqc.length → cBad m.eqc q = false := by
  obtain ⟨j, h1, h2, h3⟩ := eqc_stop hm
  rw [h1, cls_len]
  cases j with
  | zero => exact fun q hq => cBad_no (by show 0 ≤ (List.replicate _ (0 : Int)).getD q 0; rw [rep_at]; omega) (by show (List.replicate _ (0 : Int)).getD q 0 ≤ _; rw [rep_at]; exact cN_nn _ _)
  | succ i => exact (nextL_can m (m.cls i) m.nx.length (Nat.le_refl _)).2
def repL (c : List Int) (k : Nat) : List Nat := (List.range k).filter fun s => decide (c.getD s 0 = cN c s)
theorem repL_new {c : List Int} {k : Nat} (h : c.getD k 0 = cN c k) : repL c (k + 1) = repL c k ++ [k] := by
  unfold repL; rw [List.range_succ, List.filter_append]; simp only [List.filter_cons, List.filter_nil, h, decide_true, if_true]
theorem repL_old {c : List Int} {k : Nat} (h : ¬ c.getD k 0 = cN c k) : repL c (k + 1) = repL c k := by
  unfold repL; rw [List.range_succ, List.filter_append]; simp only [List.filter_cons, List.filter_nil, decide_eq_false h, Bool.false_eq_true, if_false, List.append_nil]
structure REP (c : List Int) (k : Nat) : Prop where
  len : ((repL c k).length : Int) = cN c k
  at_ : ∀ r, r < (repL c k).length → (repL c k).getD r 0 < k ∧ c.getD ((repL c k).getD r 0) 0 = r
theorem getDN_left {xs ys : List Nat} {i : Nat} (h : i < xs.length) : (xs ++ ys).getD i 0 = xs.getD i 0 := by simp [List.getD, List.getElem?_append_left h]
theorem rep_ok {c : List Int} (hb : ∀ q, q < c.length → cBad c q = false) : ∀ k, k ≤ c.length → REP c k
  | 0, _ => ⟨rfl, fun r h => by simp [repL] at h⟩
  | k + 1, h => by
    have ih := rep_ok hb k (by omega)
    have h1 := hb k (by omega)
    simp only [cBad, Bool.or_eq_false_iff, decide_eq_false_iff_not] at h1
    have hl := ih.len
    by_cases e : c.getD k 0 = cN c k
    · rw [show REP c (k + 1) = REP c (k + 1) from rfl]
      refine ⟨?_, fun r hr => ?_⟩
      · rw [repL_new e, List.length_append]; simp only [List.length_cons, List.length_nil, cN]; omega
      · rw [repL_new e] at hr ⊢
        rw [List.length_append] at hr; simp only [List.length_cons, List.length_nil] at hr
        by_cases e2 : r = (repL c k).length
        · have : (repL c k ++ [k]).getD r 0 = k := by subst e2; simp [List.getD]
          rw [this]; exact ⟨by omega, by omega⟩
        · rw [getDN_left (by omega)]
          have := ih.at_ r (by omega)
          exact ⟨by omega, this.2⟩
    · refine ⟨?_, fun r hr => ?_⟩
      · rw [repL_old e]; simp only [cN]; omega
      · rw [repL_old e] at hr ⊢
        have := ih.at_ r hr
        exact ⟨by omega, this.2⟩
def Mly.f (t : Mly) (x : Int) : Int := t.eqc.getD x.toNat 0
def Mly.reps (t : Mly) : List Nat := repL t.eqc t.nx.length
def Mly.qm (t : Mly) : Mly := ⟨t.inp, 0, t.reps.map (fun s => (t.nx.getD s []).map t.f), t.reps.map fun s => t.ot.getD s []⟩
theorem reps_ok {t : Mly} (ht : MOK t) : REP t.eqc t.nx.length := by
  have hl := (eqc_stab ht).len
  have := rep_ok (eqc_can ht) t.nx.length (by omega)
  exact this
theorem q_len (t : Mly) : t.qm.nx.length = t.reps.length := by simp [Mly.qm]
theorem q_row {t : Mly} {r : Nat} (h : r < t.reps.length) : t.qm.nx.getD r [] = (t.nx.getD (t.reps.getD r 0) []).map t.f := by
  show (t.reps.map _).getD r [] = _
  rw [getD_map _ 0 _ h]
theorem q_out {t : Mly} {r : Nat} (h : r < t.reps.length) : t.qm.ot.getD r [] = t.ot.getD (t.reps.getD r 0) [] := by
  show (t.reps.map _).getD r [] = _
  rw [getD_map _ 0 _ h]
theorem f_rng {t : Mly} (ht : MOK t) {s : Int} (h0 : 0 ≤ s) (h1 : s < t.nx.length) : 0 ≤ t.f s ∧ t.f s < t.reps.length := by
  have hl := (reps_ok ht).len
  have := cN_up t.eqc t.nx.length s.toNat (by omega)
  have h2 := (eqc_stab ht).rng s.toNat (by omega)
  unfold Mly.f Mly.reps
  omega
theorem rep_f {t : Mly} (ht : MOK t) {s : Int} (h0 : 0 ≤ s) (h1 : s < t.nx.length) : t.reps.getD (t.f s).toNat 0 < t.nx.length ∧ t.f (t.reps.getD (t.f s).toNat 0 : Nat) = t.f s := by
  have hf := f_rng ht h0 h1
  have := (reps_ok ht).at_ (t.f s).toNat (by have := hf.2; unfold Mly.reps at this; omega)
  refine ⟨this.1, ?_⟩
  show t.eqc.getD ((t.reps.getD (t.f s).toNat 0 : Nat) : Int).toNat 0 = _
  rw [Int.toNat_natCast]
  have h2 := this.2
  unfold Mly.reps
  rw [h2]; omega
theorem q_ok {t : Mly} (ht : MOK t) : MOK t.qm := by
  have hq := q_len t
  have hr := reps_ok ht
  have hn1 := ht.n1; have hn2 := ht.n2
  have h0 := f_rng ht (s := 0) (by omega) (by omega)
  have hle : t.reps.length ≤ t.nx.length := by
    unfold Mly.reps repL
    exact Nat.le_trans (List.length_filter_le _ _) (by simp)
  have hol : t.qm.ot.length = t.reps.length := by simp [Mly.qm]
  have hat : ∀ r, r < t.reps.length → t.reps.getD r 0 < t.nx.length := fun r h => (hr.at_ r h).1
  refine ⟨ht.i1, ht.i2, by omega, by omega, Int.le_refl 0, by show (0 : Int) < _; omega, by omega, fun s hs => ?_, fun s hs => ?_, fun s a hs ha => ?_, fun s a hs ha => ?_⟩
  · rw [q_row (by omega), List.length_map]
    exact ht.rl _ (hat s (by omega))
  · rw [q_out (by omega)]
    exact ht.ql _ (hat s (by omega))
  · have ha' : (a : Int) < t.inp := ha
    have h1 := ht.rl _ (hat s (by omega))
    rw [q_row (by omega), getD_map t.f 0 0 (by omega)]
    have h2 := ht.nr _ a (hat s (by omega)) ha'
    have := f_rng ht h2.1 h2.2
    omega
  · rw [q_out (by omega)]
    exact ht.or _ a (hat s (by omega)) ha
/-- One step of both. -/
theorem q_step {t : Mly} (ht : MOK t) {s a : Int} (h0 : 0 ≤ s) (h1 : s < t.nx.length) (ha : 0 ≤ a ∧ a < t.inp) : t.qm.out (t.f s) a = t.out s a ∧ t.qm.nxt (t.f s) a = t.f (t.nxt s a) := by
  have hf := f_rng ht h0 h1
  obtain ⟨r1, r2⟩ := rep_f ht h0 h1
  have e : t.eqc.getD (t.reps.getD (t.f s).toNat 0) 0 = t.eqc.getD s.toNat 0 := by
    have := r2
    unfold Mly.f at this
    rw [Int.toNat_natCast] at this
    exact this
  have hst := (eqc_stab ht).step _ s.toNat r1 (by omega) e a.toNat (by omega)
  have hrl := ht.rl _ r1
  constructor
  · show (t.qm.ot.getD (t.f s).toNat []).getD a.toNat 0 = _
    rw [q_out (by omega), hst.1]; rfl
  · show (t.qm.nx.getD (t.f s).toNat []).getD a.toNat 0 = _
    rw [q_row (by omega), getD_map t.f 0 0 (by omega)]
    exact hst.2
theorem q_go {t : Mly} (ht : MOK t) : ∀ (w : List Int) (s : Int), 0 ≤ s → s < t.nx.length → (∀ i : Nat, i < w.length → 0 ≤ w.getD i 0 ∧ w.getD i 0 < t.inp) → (t.qm.go (t.f s) w).2 = (t.go s w).2
  | [], s, _, _, _ => rfl
  | a :: w, s, h0, h1, hw => by
    obtain ⟨ha, hw2⟩ := syms_tail hw
    obtain ⟨e1, e2⟩ := q_step ht h0 h1 ha
    rw [go_cons, go_cons, e1, e2]
    have hn := ht.nr s.toNat a.toNat (by omega) (by omega)
    have := q_go ht w (t.nxt s a) hn.1 hn.2 hw2
    rw [this]
theorem q_ds {t : Mly} (ht : MOK t) : ∀ i j : Int, 0 ≤ i → i < t.qm.nx.length → 0 ≤ j → j < t.qm.nx.length → EQV t.qm i j → i = j := by
  intro i j i0 i1 j0 j1 h
  have hq := q_len t
  have ri := (reps_ok ht).at_ i.toNat (by unfold Mly.reps at hq; omega)
  have rj := (reps_ok ht).at_ j.toNat (by unfold Mly.reps at hq; omega)
  have fi : t.f (((repL t.eqc t.nx.length).getD i.toNat 0 : Nat) : Int) = i := by unfold Mly.f; rw [Int.toNat_natCast, ri.2]; omega
  have fj : t.f (((repL t.eqc t.nx.length).getD j.toNat 0 : Nat) : Int) = j := by unfold Mly.f; rw [Int.toNat_natCast, rj.2]; omega
  have hv : EQV t (((repL t.eqc t.nx.length).getD i.toNat 0 : Nat) : Int) (((repL t.eqc t.nx.length).getD j.toNat 0 : Nat) : Int) := fun w hw => by
    have g1 := q_go ht w (((repL t.eqc t.nx.length).getD i.toNat 0 : Nat) : Int) (Int.natCast_nonneg _) (by have := ri.1; omega) hw
    have g2 := q_go ht w (((repL t.eqc t.nx.length).getD j.toNat 0 : Nat) : Int) (Int.natCast_nonneg _) (by have := rj.1; omega) hw
    rw [fi] at g1; rw [fj] at g2
    rw [← g1, ← g2]
    exact h w hw
  have := (eqc_iff ht (Int.natCast_nonneg _) (by have := ri.1; omega) (Int.natCast_nonneg _) (by have := rj.1; omega)).2 hv
  rw [← fi, ← fj]; exact this
end Go.AV
