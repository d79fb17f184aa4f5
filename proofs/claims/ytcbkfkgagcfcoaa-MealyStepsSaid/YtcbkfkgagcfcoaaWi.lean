/- Contracts of functions of this package, each out of a walk through its code. Conditions: those that each theorem names. -/
import Derived.Test.YtcbkfkgagcfcoaaWh
set_option linter.unusedSimpArgs false
set_option linter.unusedVariables false
namespace Go.Proofs.Ytcbkfkgagcfcoaa
open Go Go.AV
theorem clone_c (xs : List Int) (h : xs.length ≤ 10000000000000) : PURE Try.prog 37 [.one (.list (.int .i64) xs)] (.one (.list (.int .i64) xs)) :=
  pure_slice (t := .int .i64) (fun e => pure_weak clone0 (vle_one (cle_nils e))) (fun e => by subst e; exact clone1) (fun h0 => clone2 xs h0 h) clone0.1

set_option maxRecDepth 100000 in
theorem trim_c (m : Mly) : PURE Try.prog 15 [m.av] (.tup [m.trim.av, .one (.int .i64 (validE m))]) := by
  refine pure_of_le Try.func15 rfl (by kernel_rfl) (Nat.le_of_ble_eq_true rfl) rfl fun C hP hN hB => ?_
  replace hN : C.N = 89 := hN
  simp only [argEnv, Nat.reduceAdd]
  refine awp_seq_k fun K1 hK1 => ?_
  refine awp_reg hP hN rfl ?_
  iterate 3 (refine rg_step rfl fun K0 hK0 => ?_; simp only [zE, op1, ev, lkp, avOf, acOf, opBox, cellsAV, opAlloc, reduceCtorEq, Nat.reduceEqDiff, Nat.reduceAdd, Nat.reduceLeDiff, Nat.reduceLT, Nat.reduceMul, Nat.reduceSub, Try.st24, Try.td24, Try.td25, Mly.av]; (repeat refine And.intro (by omega) ?_); (first | refine hK0 _ ?_ | refine Or.inl (hK0 _ ?_)); clear hK0 K0; simp only [put, app, setAll, trOf, zE, List.set_cons_zero, List.set_cons_succ, Nat.reduceAdd])
  refine rg_nil ?_
  refine hK1 _ ?_; clear hK1; refine awp_keep [0, 1, 2, 3] ?_; simp only [keepEnv, lkp, zE, reduceCtorEq, Nat.reduceEqDiff, argEnv, Nat.reduceAdd]
  refine awp_seq_k fun K2 hK2 => ?_
  refine awp_seq_k fun K3 hK3 => ?_
  refine awp_reg hP hN rfl ?_
  (refine rg_step rfl fun K0 hK0 => ?_; simp only [zE, op1, ev, lkp, avOf, acOf, opLoad, readAC, isAggK, acs, Ty.dflt, zG, cellsAt, reduceCtorEq, Nat.reduceEqDiff, Nat.reduceAdd, Nat.reduceLeDiff, Nat.reduceLT, Nat.reduceMul, Nat.reduceSub, Try.st24, Try.td24, Mly.av]; (repeat refine And.intro (by omega) ?_); (first | refine hK0 _ ?_ | refine Or.inl (hK0 _ ?_)); clear hK0 K0; simp only [put, app, setAll, trOf, zE, List.set_cons_zero, List.set_cons_succ, Nat.reduceAdd])
  refine rg_step rfl fun K0 hK0 => ?_
  refine op_call (h := call_of_pure (valid_c m)) rfl rfl (by first | exact rfl | (simp only [ev, keepEnv, lkp, zE, reduceCtorEq, Nat.reduceEqDiff, argEnv, Nat.reduceAdd]; exact rfl)) (by simp only [zE, zG, op1, ev, lkp, avOf, acOf, cellsAV, acs, capAV, mv1, mvC, Ty.dflt, reduceCtorEq, Nat.reduceEqDiff, Nat.reduceAdd, Nat.reduceLeDiff, Nat.reduceLT, Nat.reduceMul, Nat.reduceSub, Mly.av]) ?_
  refine hK0 _ ?_; clear hK0 K0; simp only [put, app, setAll, trOf, zE, List.set_cons_zero, List.set_cons_succ, Nat.reduceAdd]
  (refine rg_step rfl fun K0 hK0 => ?_; simp only [zE, op1, ev, lkp, avOf, acOf, ev, reduceCtorEq, Nat.reduceEqDiff, Nat.reduceAdd, Nat.reduceLeDiff, Nat.reduceLT, Nat.reduceMul, Nat.reduceSub, Try.td25, Mly.av]; (repeat refine And.intro (by omega) ?_); (first | refine hK0 _ ?_ | refine Or.inl (hK0 _ ?_)); clear hK0 K0; simp only [put, app, setAll, trOf, zE, List.set_cons_zero, List.set_cons_succ, Nat.reduceAdd])
  refine rg_nil ?_
  refine hK3 _ ?_; clear hK3; refine awp_keep [0, 1, 2, 3, 4] ?_; simp only [keepEnv, lkp, zE, reduceCtorEq, Nat.reduceEqDiff, argEnv, Nat.reduceAdd]
  refine awp_seq_k fun K4 hK4 => ?_
  refine awp_reg hP hN rfl ?_
  iterate 2 (refine rg_step rfl fun K0 hK0 => ?_; simp only [zE, op1, ev, lkp, avOf, acOf, opBin, arith, inK_i64, reduceCtorEq, Nat.reduceEqDiff, Nat.reduceAdd, Nat.reduceLeDiff, Nat.reduceLT, Nat.reduceMul, Nat.reduceSub, Try.td25, Try.td4, Mly.av]; (repeat refine And.intro (by omega) ?_); (first | refine hK0 _ ?_ | refine Or.inl (hK0 _ ?_)); clear hK0 K0; simp only [put, app, setAll, trOf, zE, List.set_cons_zero, List.set_cons_succ, Nat.reduceAdd])
  refine rg_nil ?_
  refine hK4 _ ?_; clear hK4; refine awp_keep [0, 1, 2, 3, 4, 18] ?_; simp only [keepEnv, lkp, zE, reduceCtorEq, Nat.reduceEqDiff, argEnv, Nat.reduceAdd]
  refine awp_cond (by simp only [ev, keepEnv, lkp, zE, reduceCtorEq, Nat.reduceEqDiff, argEnv, Nat.reduceAdd]; exact rfl) (fun hc5 => ?_) (fun hc5 => ?_)
  · (try simp only [decide_eq_true_eq, decide_eq_false_iff_not, Bool.not_true, Bool.not_false, Bool.not_eq_true, Bool.not_eq_false, Bool.not_eq_eq_eq_not, Int.not_lt, Int.not_le, reduceCtorEq, Bool.true_eq_false, Bool.false_eq_true, ne_eq, Decidable.not_not, Bool.not_eq_true', bne_iff_ne, Bool.or_eq_true, Bool.and_eq_true, Bool.or_eq_false_iff, Bool.and_eq_false_iff] at hc5)
    refine awp_seq_k fun K6 hK6 => ?_
    refine awp_reg hP hN rfl ?_
    iterate 4 (refine rg_step rfl fun K0 hK0 => ?_; simp only [zE, op1, ev, lkp, avOf, acOf, opBuild, fillAC, writeAC, cellsAV, opStore, datOf, acs, Ty.size, Ty.dflt, zG, reduceCtorEq, Nat.reduceEqDiff, Nat.reduceAdd, Nat.reduceLeDiff, Nat.reduceLT, Nat.reduceMul, Nat.reduceSub, Try.st24, Try.td24, Try.td25, Mly.av]; (repeat refine And.intro (by omega) ?_); (first | refine hK0 _ ?_ | refine Or.inl (hK0 _ ?_)); clear hK0 K0; simp only [put, app, setAll, trOf, zE, List.set_cons_zero, List.set_cons_succ, Nat.reduceAdd])
    refine rg_nil ?_
    refine hK6 _ ?_; clear hK6; refine awp_keep [0, 1, 2, 3, 4, 18] ?_; simp only [keepEnv, lkp, zE, reduceCtorEq, Nat.reduceEqDiff, argEnv, Nat.reduceAdd]
    refine awp_ret ?_
    refine ⟨by first | exact .inl rfl | exact .inr rfl, _, rfl, ?_⟩; simp only [fzV, fz1, fzC, List.map_cons, List.map_nil, keepEnv, lkp, zE, reduceCtorEq, Nat.reduceEqDiff, argEnv, Nat.reduceAdd, Mly.av]
    first
    | (rw [trim_bad ‹¬validE m = 0›]
       exact vle_tup ⟨vle1_agg ⟨.refl _, .refl _, cle_nils rfl, cle_nils rfl, trivial⟩, vle1_one (.refl _), trivial⟩)
    | (rw [trim_ok hv, hv]
       have hk3 : k = m.reach.length := by omega
       have e1 : m.tnx.take k = m.tnx := List.take_of_length_le (by simp [Mly.tnx]; omega)
       have e2 : m.tot.take k = m.tot := List.take_of_length_le (by simp [Mly.tot]; omega)
       rw [e1, e2]
       exact VLE.of_eq (by simp [fzC]; rfl))
  · (try simp only [decide_eq_true_eq, decide_eq_false_iff_not, Bool.not_true, Bool.not_false, Bool.not_eq_true, Bool.not_eq_false, Bool.not_eq_eq_eq_not, Int.not_lt, Int.not_le, reduceCtorEq, Bool.true_eq_false, Bool.false_eq_true, ne_eq, Decidable.not_not, Bool.not_eq_true', bne_iff_ne, Bool.or_eq_true, Bool.and_eq_true, Bool.or_eq_false_iff, Bool.and_eq_false_iff] at hc5)
    refine awp_skip ?_
    refine hK2 _ ?_; clear hK2; refine awp_keep [0, 1, 2, 3, 4, 18] ?_; simp only [keepEnv, lkp, zE, reduceCtorEq, Nat.reduceEqDiff, argEnv, Nat.reduceAdd]
    refine awp_seq_k fun K7 hK7 => ?_
    refine awp_reg hP hN rfl ?_
    (refine rg_step rfl fun K0 hK0 => ?_; simp only [zE, op1, ev, lkp, avOf, acOf, opLoad, readAC, isAggK, acs, Ty.dflt, zG, cellsAt, reduceCtorEq, Nat.reduceEqDiff, Nat.reduceAdd, Nat.reduceLeDiff, Nat.reduceLT, Nat.reduceMul, Nat.reduceSub, Try.st24, Try.td24, Mly.av]; (repeat refine And.intro (by omega) ?_); (first | refine hK0 _ ?_ | refine Or.inl (hK0 _ ?_)); clear hK0 K0; simp only [put, app, setAll, trOf, zE, List.set_cons_zero, List.set_cons_succ, Nat.reduceAdd])
    refine rg_step rfl fun K0 hK0 => ?_
    refine op_call (h := call_of_pure (reach_c m)) rfl rfl (by first | exact rfl | (simp only [ev, keepEnv, lkp, zE, reduceCtorEq, Nat.reduceEqDiff, argEnv, Nat.reduceAdd]; exact rfl)) (by simp only [zE, zG, op1, ev, lkp, avOf, acOf, cellsAV, acs, capAV, mv1, mvC, Ty.dflt, reduceCtorEq, Nat.reduceEqDiff, Nat.reduceAdd, Nat.reduceLeDiff, Nat.reduceLT, Nat.reduceMul, Nat.reduceSub, Mly.av]) ?_
    refine hK0 _ ?_; clear hK0 K0; simp only [put, app, setAll, trOf, zE, List.set_cons_zero, List.set_cons_succ, Nat.reduceAdd]
    (refine rg_step rfl fun K0 hK0 => ?_; simp only [zE, op1, ev, lkp, avOf, acOf, ev, reduceCtorEq, Nat.reduceEqDiff, Nat.reduceAdd, Nat.reduceLeDiff, Nat.reduceLT, Nat.reduceMul, Nat.reduceSub, Try.el30, Try.td30, Mly.av]; (repeat refine And.intro (by omega) ?_); (first | refine hK0 _ ?_ | refine Or.inl (hK0 _ ?_)); clear hK0 K0; simp only [put, app, setAll, trOf, zE, List.set_cons_zero, List.set_cons_succ, Nat.reduceAdd])
    refine rg_nil ?_
    refine hK7 _ ?_; clear hK7; refine awp_keep [0, 1, 2, 3, 4, 5, 18] ?_; simp only [keepEnv, lkp, zE, reduceCtorEq, Nat.reduceEqDiff, argEnv, Nat.reduceAdd]
    refine awp_seq_k fun K8 hK8 => ?_
    have hv : validE m = 0 := by assumption
    have hm := mok_of hv; have h3 := hm.n2; have hR := rset_reach hm; have hRl := hR.len; have hi1 := hm.i1; have hi2 := hm.i2; have hol := hm.ol
    refine awp_reg hP hN rfl ?_
    iterate 5 (refine rg_step rfl fun K0 hK0 => ?_; simp only [zE, op1, ev, lkp, avOf, acOf, opFieldAddr, opLoad, readAC, isAggK, acs, Ty.dflt, zG, cellsAt, opCallAny, opLen, lenAC, lenOk, fpAC, opAppend, srcOf, Ty.size, datOf, dite_true, opMakeSlice, reduceCtorEq, Nat.reduceEqDiff, Nat.reduceAdd, Nat.reduceLeDiff, Nat.reduceLT, Nat.reduceMul, Nat.reduceSub, Try.el22, Try.el30, Try.st24, Try.td2, Try.td22, Try.td24, Try.td3, Try.td30, Mly.av]; (repeat refine And.intro (by omega) ?_); (first | refine hK0 _ ?_ | refine Or.inl (hK0 _ ?_)); clear hK0 K0; simp only [put, app, setAll, trOf, zE, List.set_cons_zero, List.set_cons_succ, Nat.reduceAdd])
    refine rg_nil ?_
    refine hK8 _ ?_; clear hK8; refine awp_keep [0, 1, 2, 3, 4, 5, 6, 18] ?_; simp only [keepEnv, lkp, zE, reduceCtorEq, Nat.reduceEqDiff, argEnv, Nat.reduceAdd]
    refine awp_seq_k fun K9 hK9 => ?_
    refine awp_seq_k fun K10 hK10 => ?_
    refine awp_reg hP hN rfl ?_
    iterate 3 (refine rg_step rfl fun K0 hK0 => ?_; simp only [zE, op1, ev, lkp, avOf, acOf, opCallAny, opLen, lenAC, lenOk, fpAC, opAppend, srcOf, Ty.size, datOf, dite_true, reduceCtorEq, Nat.reduceEqDiff, Nat.reduceAdd, Nat.reduceLeDiff, Nat.reduceLT, Nat.reduceMul, Nat.reduceSub, Try.el30, Try.td3, Try.td30, Mly.av]; (repeat refine And.intro (by omega) ?_); (first | refine hK0 _ ?_ | refine Or.inl (hK0 _ ?_)); clear hK0 K0; simp only [put, app, setAll, trOf, zE, List.set_cons_zero, List.set_cons_succ, Nat.reduceAdd])
    refine rg_nil ?_
    refine hK10 _ ?_; clear hK10; refine awp_keep [0, 1, 2, 3, 4, 5, 6, 18, 27, 28, 29] ?_; simp only [keepEnv, lkp, zE, reduceCtorEq, Nat.reduceEqDiff, argEnv, Nat.reduceAdd]
    refine awp_block ?_
    refine awp_loop (fun n11 s11 => ∃ (k : Nat), (k ≤ m.reach.length) ∧ n11 = m.reach.length - k ∧ s11 = { env := [(1, .one (.ptr 0 0 0 0)), (2, .one (.ptr 1 0 0 0)), (5, .one (.list (.int .i64) m.reach)), (6, .one (.row 2 0)), (27, .one (.list (.int .i64) m.reach)), (28, .one (.int .i64 (m.reach.length : Int))), (29, .one (.int .i64 (k : Int)))], L := [.vars 24 [.int .i64 m.inp, .int .i64 m.st, .list (.list (.int .i64)) m.nx, .list (.list (.int .i64)) m.ot], .vars 24 [.int .i64 0, .int .i64 0, .nils, .nils], .row (.int .i64) 3 0 (numF m.nx.length m.reach k)] }) ?_ ?_
    · exact ⟨_, _, sub_keep [1, 2, 5, 6, 27, 28, 29], 0, Nat.zero_le _, rfl, rfl⟩
    · rintro n11 s11 ⟨k, hk, rfl, rfl⟩
      refine awp_seq_k fun K12 hK12 => ?_
      refine awp_reg hP hN rfl ?_
      (refine rg_step rfl fun K0 hK0 => ?_; simp only [zE, op1, ev, lkp, avOf, acOf, opBin, arith, inK_i64, reduceCtorEq, Nat.reduceEqDiff, Nat.reduceAdd, Nat.reduceLeDiff, Nat.reduceLT, Nat.reduceMul, Nat.reduceSub, Try.td3, Mly.av]; (repeat refine And.intro (by omega) ?_); (first | refine hK0 _ ?_ | refine Or.inl (hK0 _ ?_)); clear hK0 K0; simp only [put, app, setAll, trOf, zE, List.set_cons_zero, List.set_cons_succ, Nat.reduceAdd])
      refine rg_nil ?_
      refine hK12 _ ?_; clear hK12; refine awp_keep [1, 2, 5, 6, 27, 28, 29, 30] ?_; simp only [keepEnv, lkp, zE, reduceCtorEq, Nat.reduceEqDiff, argEnv, Nat.reduceAdd]
      refine awp_seq_k fun K13 hK13 => ?_
      refine awp_cond (by simp only [ev, keepEnv, lkp, zE, reduceCtorEq, Nat.reduceEqDiff, argEnv, Nat.reduceAdd]; exact rfl) (fun hc14 => ?_) (fun hc14 => ?_)
      · (try simp only [decide_eq_true_eq, decide_eq_false_iff_not, Bool.not_true, Bool.not_false, Bool.not_eq_true, Bool.not_eq_false, Bool.not_eq_eq_eq_not, Int.not_lt, Int.not_le, reduceCtorEq, Bool.true_eq_false, Bool.false_eq_true, ne_eq, Decidable.not_not, Bool.not_eq_true', bne_iff_ne, Bool.or_eq_true, Bool.and_eq_true, Bool.or_eq_false_iff, Bool.and_eq_false_iff] at hc14)
        refine awp_skip ?_
        refine hK13 _ ?_; clear hK13; refine awp_keep [1, 2, 5, 6, 27, 28, 29, 30] ?_; simp only [keepEnv, lkp, zE, reduceCtorEq, Nat.reduceEqDiff, argEnv, Nat.reduceAdd]
        refine awp_seq_k fun K15 hK15 => ?_
        refine awp_block ?_
        refine awp_seq_k fun K16 hK16 => ?_
        refine awp_reg hP hN rfl ?_
        iterate 5 (refine rg_step rfl fun K0 hK0 => ?_; simp only [zE, op1, ev, lkp, avOf, acOf, opIndexAddr, zG, Ty.dflt, Ty.size, opLoad, readAC, isAggK, acs, cellsAt, reduceCtorEq, Nat.reduceEqDiff, Nat.reduceAdd, Nat.reduceLeDiff, Nat.reduceLT, Nat.reduceMul, Nat.reduceSub, Try.el30, Try.td3, Try.td30, Mly.av]; (repeat refine And.intro (by omega) ?_); (first | refine hK0 _ ?_ | refine Or.inl (hK0 _ ?_)); clear hK0 K0; simp only [put, app, setAll, trOf, zE, List.set_cons_zero, List.set_cons_succ, Nat.reduceAdd])
        refine rg_nil ?_
        refine hK16 _ ?_; clear hK16; refine awp_keep [1, 2, 5, 6, 7, 8, 27, 28, 29, 30] ?_; simp only [keepEnv, lkp, zE, reduceCtorEq, Nat.reduceEqDiff, argEnv, Nat.reduceAdd]
        have hx := hR.at_ (i := k) (by omega); have hnl := numF_len m.nx.length m.reach k
        refine awp_reg hP hN rfl ?_
        iterate 5 (refine rg_step rfl fun K0 hK0 => ?_; simp only [zE, op1, ev, lkp, avOf, acOf, opIndexAddr, zG, Ty.dflt, Ty.size, opStore, cellsAV, writeAC, datOf, acs, reduceCtorEq, Nat.reduceEqDiff, Nat.reduceAdd, Nat.reduceLeDiff, Nat.reduceLT, Nat.reduceMul, Nat.reduceSub, Try.el30, Try.td3, Try.td30, Mly.av]; (repeat refine And.intro (by omega) ?_); (first | refine hK0 _ ?_ | refine Or.inl (hK0 _ ?_)); clear hK0 K0; simp only [put, app, setAll, trOf, zE, List.set_cons_zero, List.set_cons_succ, Nat.reduceAdd])
        refine rg_nil ?_
        refine hK15 _ ?_; clear hK15; refine awp_keep [1, 2, 5, 6, 7, 8, 27, 28, 29, 30] ?_; simp only [keepEnv, lkp, zE, reduceCtorEq, Nat.reduceEqDiff, argEnv, Nat.reduceAdd]
        refine awp_reg hP hN rfl ?_
        iterate 2 (refine rg_step rfl fun K0 hK0 => ?_; simp only [zE, op1, ev, lkp, avOf, acOf, opBin, arith, inK_i64, reduceCtorEq, Nat.reduceEqDiff, Nat.reduceAdd, Nat.reduceLeDiff, Nat.reduceLT, Nat.reduceMul, Nat.reduceSub, Try.td3, Mly.av]; (repeat refine And.intro (by omega) ?_); (first | refine hK0 _ ?_ | refine Or.inl (hK0 _ ?_)); clear hK0 K0; simp only [put, app, setAll, trOf, zE, List.set_cons_zero, List.set_cons_succ, Nat.reduceAdd])
        refine rg_nil ?_
        refine ⟨_, _, ?_, sub_keep [1, 2, 5, 6, 27, 28, 29], k + 1, by omega, rfl, rfl⟩
        · omega
      · (try simp only [decide_eq_true_eq, decide_eq_false_iff_not, Bool.not_true, Bool.not_false, Bool.not_eq_true, Bool.not_eq_false, Bool.not_eq_eq_eq_not, Int.not_lt, Int.not_le, reduceCtorEq, Bool.true_eq_false, Bool.false_eq_true, ne_eq, Decidable.not_not, Bool.not_eq_true', bne_iff_ne, Bool.or_eq_true, Bool.and_eq_true, Bool.or_eq_false_iff, Bool.and_eq_false_iff] at hc14)
        refine awp_exit ?_
        refine hK9 _ ?_; clear hK9; refine awp_keep [1, 2, 5, 6, 27, 28, 29, 30] ?_; simp only [keepEnv, lkp, zE, reduceCtorEq, Nat.reduceEqDiff, argEnv, Nat.reduceAdd]
        refine awp_seq_k fun K17 hK17 => ?_
        refine awp_reg hP hN rfl ?_
        iterate 5 (refine rg_step rfl fun K0 hK0 => ?_; simp only [zE, op1, ev, lkp, avOf, acOf, opFieldAddr, opLoad, readAC, isAggK, acs, Ty.dflt, zG, cellsAt, opBuild, fillAC, writeAC, cellsAV, opAlloc, opStore, datOf, Ty.size, reduceCtorEq, Nat.reduceEqDiff, Nat.reduceAdd, Nat.reduceLeDiff, Nat.reduceLT, Nat.reduceMul, Nat.reduceSub, Try.st24, Try.td24, Try.td3, Mly.av]; (repeat refine And.intro (by omega) ?_); (first | refine hK0 _ ?_ | refine Or.inl (hK0 _ ?_)); clear hK0 K0; simp only [put, app, setAll, trOf, zE, List.set_cons_zero, List.set_cons_succ, Nat.reduceAdd])
        refine rg_nil ?_
        refine hK17 _ ?_; clear hK17; refine awp_keep [1, 2, 5, 6, 9, 27, 28, 29, 30] ?_; simp only [keepEnv, lkp, zE, reduceCtorEq, Nat.reduceEqDiff, argEnv, Nat.reduceAdd]
        refine awp_seq_k fun K18 hK18 => ?_
        refine awp_seq_k fun K19 hK19 => ?_
        refine awp_reg hP hN rfl ?_
        iterate 3 (refine rg_step rfl fun K0 hK0 => ?_; simp only [zE, op1, ev, lkp, avOf, acOf, opCallAny, opLen, lenAC, lenOk, fpAC, opAppend, srcOf, Ty.size, datOf, dite_true, reduceCtorEq, Nat.reduceEqDiff, Nat.reduceAdd, Nat.reduceLeDiff, Nat.reduceLT, Nat.reduceMul, Nat.reduceSub, Try.el30, Try.td3, Try.td30, Mly.av]; (repeat refine And.intro (by omega) ?_); (first | refine hK0 _ ?_ | refine Or.inl (hK0 _ ?_)); clear hK0 K0; simp only [put, app, setAll, trOf, zE, List.set_cons_zero, List.set_cons_succ, Nat.reduceAdd])
        refine rg_nil ?_
        refine hK19 _ ?_; clear hK19; refine awp_keep [1, 2, 5, 6, 9, 27, 28, 29, 30, 42, 43, 44] ?_; simp only [keepEnv, lkp, zE, reduceCtorEq, Nat.reduceEqDiff, argEnv, Nat.reduceAdd]
        refine awp_block ?_
        refine awp_own_cell 3 2 (.list (.int .i64)) 30 (by decide) rfl rfl ?_; simp only [List.set_cons_zero, List.set_cons_succ, List.length_cons, List.length_nil, List.cons_append, List.nil_append, Nat.zero_add, Nat.reduceAdd]
        refine awp_own_cell 3 3 (.list (.int .i64)) 30 (by decide) rfl rfl ?_; simp only [List.set_cons_zero, List.set_cons_succ, List.length_cons, List.length_nil, List.cons_append, List.nil_append, Nat.zero_add, Nat.reduceAdd]
        have hkl : k = m.reach.length := by omega
        refine awp_loop (fun n20 s20 => ∃ (k : Nat) (v : Nat), (k ≤ m.reach.length) ∧ n20 = m.reach.length - k ∧ s20 = { env := [(1, .one (.ptr 0 0 0 0)), (2, .one (.ptr 1 0 0 0)), (6, .one (.row 2 0)), (9, .one (.ptr 3 0 0 0)), (42, .one (.list (.int .i64) m.reach)), (43, .one (.int .i64 (m.reach.length : Int))), (44, .one (.int .i64 (k : Int)))], L := [.vars 24 [.int .i64 m.inp, .int .i64 m.st, .list (.list (.int .i64)) m.nx, .list (.list (.int .i64)) m.ot], .vars 24 [.int .i64 0, .int .i64 0, .nils, .nils], .row (.int .i64) 3 0 m.num, .vars 24 [.int .i64 m.inp, .int .i64 0, .row 4 v, .row 5 v], .row (.list (.int .i64)) 30 v (m.tnx.take k), .row (.list (.int .i64)) 30 v (m.tot.take k)] }) ?_ ?_
        · refine ⟨_, _, sub_keep [1, 2, 6, 9, 42, 43, 44], 0, 0, Nat.zero_le _, rfl, ?_⟩
          rw [hkl]; rfl
        · rintro n20 s20 ⟨k, v, hk2, rfl, rfl⟩
          refine awp_seq_k fun K21 hK21 => ?_
          refine awp_reg hP hN rfl ?_
          (refine rg_step rfl fun K0 hK0 => ?_; simp only [zE, op1, ev, lkp, avOf, acOf, opBin, arith, inK_i64, reduceCtorEq, Nat.reduceEqDiff, Nat.reduceAdd, Nat.reduceLeDiff, Nat.reduceLT, Nat.reduceMul, Nat.reduceSub, Try.td3, Mly.av]; (repeat refine And.intro (by omega) ?_); (first | refine hK0 _ ?_ | refine Or.inl (hK0 _ ?_)); clear hK0 K0; simp only [put, app, setAll, trOf, zE, List.set_cons_zero, List.set_cons_succ, Nat.reduceAdd])
          refine rg_nil ?_
          refine hK21 _ ?_; clear hK21; refine awp_keep [1, 2, 6, 9, 42, 43, 44, 45] ?_; simp only [keepEnv, lkp, zE, reduceCtorEq, Nat.reduceEqDiff, argEnv, Nat.reduceAdd]
          refine awp_seq_k fun K22 hK22 => ?_
          refine awp_cond (by simp only [ev, keepEnv, lkp, zE, reduceCtorEq, Nat.reduceEqDiff, argEnv, Nat.reduceAdd]; exact rfl) (fun hc23 => ?_) (fun hc23 => ?_)
          · (try simp only [decide_eq_true_eq, decide_eq_false_iff_not, Bool.not_true, Bool.not_false, Bool.not_eq_true, Bool.not_eq_false, Bool.not_eq_eq_eq_not, Int.not_lt, Int.not_le, reduceCtorEq, Bool.true_eq_false, Bool.false_eq_true, ne_eq, Decidable.not_not, Bool.not_eq_true', bne_iff_ne, Bool.or_eq_true, Bool.and_eq_true, Bool.or_eq_false_iff, Bool.and_eq_false_iff] at hc23)
            refine awp_skip ?_
            refine hK22 _ ?_; clear hK22; refine awp_keep [1, 2, 6, 9, 42, 43, 44, 45] ?_; simp only [keepEnv, lkp, zE, reduceCtorEq, Nat.reduceEqDiff, argEnv, Nat.reduceAdd]
            refine awp_seq_k fun K24 hK24 => ?_
            refine awp_block ?_
            refine awp_seq_k fun K25 hK25 => ?_
            have hx := hR.at_ (i := k) (by omega)
            refine awp_reg hP hN rfl ?_
            iterate 3 (refine rg_step rfl fun K0 hK0 => ?_; simp only [zE, op1, ev, lkp, avOf, acOf, opIndexAddr, zG, Ty.dflt, Ty.size, opLoad, readAC, isAggK, acs, cellsAt, reduceCtorEq, Nat.reduceEqDiff, Nat.reduceAdd, Nat.reduceLeDiff, Nat.reduceLT, Nat.reduceMul, Nat.reduceSub, Try.el30, Try.td3, Try.td30, Mly.av]; (repeat refine And.intro (by omega) ?_); (first | refine hK0 _ ?_ | refine Or.inl (hK0 _ ?_)); clear hK0 K0; simp only [put, app, setAll, trOf, zE, List.set_cons_zero, List.set_cons_succ, Nat.reduceAdd])
            refine rg_nil ?_
            refine hK25 _ ?_; clear hK25; refine awp_keep [1, 2, 6, 9, 11, 42, 43, 44, 45] ?_; simp only [keepEnv, lkp, zE, reduceCtorEq, Nat.reduceEqDiff, argEnv, Nat.reduceAdd]
            refine awp_seq_k fun K26 hK26 => ?_
            have hrow : ((m.row (m.reach.getD k 0)).length : Int) = m.inp := hm.rl (m.reach.getD k 0).toNat (by omega); have hrot := hm.ql (m.reach.getD k 0).toNat (by omega)
            refine awp_reg hP hN rfl ?_
            iterate 4 (refine rg_step rfl fun K0 hK0 => ?_; simp only [zE, op1, ev, lkp, avOf, acOf, opFieldAddr, opLoad, readAC, isAggK, acs, Ty.dflt, zG, cellsAt, opMakeSlice, datOf, Ty.size, reduceCtorEq, Nat.reduceEqDiff, Nat.reduceAdd, Nat.reduceLeDiff, Nat.reduceLT, Nat.reduceMul, Nat.reduceSub, Try.el30, Try.st24, Try.td24, Try.td3, Try.td30, Mly.av]; (repeat refine And.intro (by omega) ?_); (first | refine hK0 _ ?_ | refine Or.inl (hK0 _ ?_)); clear hK0 K0; simp only [put, app, setAll, trOf, zE, List.set_cons_zero, List.set_cons_succ, Nat.reduceAdd])
            refine rg_nil ?_
            refine hK26 _ ?_; clear hK26; refine awp_keep [1, 2, 6, 9, 11, 12, 42, 43, 44, 45] ?_; simp only [keepEnv, lkp, zE, reduceCtorEq, Nat.reduceEqDiff, argEnv, Nat.reduceAdd]
            refine awp_seq_k fun K27 hK27 => ?_
            refine awp_seq_k fun K28 hK28 => ?_
            refine awp_reg hP hN rfl ?_
            iterate 7 (refine rg_step rfl fun K0 hK0 => ?_; simp only [zE, op1, ev, lkp, avOf, acOf, opFieldAddr, opLoad, readAC, isAggK, acs, Ty.dflt, zG, cellsAt, opIndexAddr, Ty.size, opCallAny, opLen, lenAC, lenOk, fpAC, opAppend, srcOf, datOf, dite_true, reduceCtorEq, Nat.reduceEqDiff, Nat.reduceAdd, Nat.reduceLeDiff, Nat.reduceLT, Nat.reduceMul, Nat.reduceSub, Try.el22, Try.el30, Try.st24, Try.td2, Try.td22, Try.td24, Try.td3, Try.td30, Mly.av]; (repeat refine And.intro (by omega) ?_); (first | refine hK0 _ ?_ | refine Or.inl (hK0 _ ?_)); clear hK0 K0; simp only [put, app, setAll, trOf, zE, List.set_cons_zero, List.set_cons_succ, Nat.reduceAdd])
            refine rg_nil ?_
            refine hK28 _ ?_; clear hK28; refine awp_keep [1, 2, 6, 9, 11, 12, 42, 43, 44, 45, 55, 56, 57] ?_; simp only [keepEnv, lkp, zE, reduceCtorEq, Nat.reduceEqDiff, argEnv, Nat.reduceAdd]
            refine awp_block ?_
            refine awp_loop (fun n29 s29 => ∃ (j : Nat), (j ≤ (m.row (m.reach.getD k 0)).length) ∧ n29 = (m.row (m.reach.getD k 0)).length - j ∧ s29 = { env := [(1, .one (.ptr 0 0 0 0)), (2, .one (.ptr 1 0 0 0)), (6, .one (.row 2 0)), (9, .one (.ptr 3 0 0 0)), (11, .one (.int .i64 (m.reach.getD k 0))), (12, .one (.row 6 0)), (42, .one (.list (.int .i64) m.reach)), (43, .one (.int .i64 (m.reach.length : Int))), (44, .one (.int .i64 (k : Int))), (55, .one (.list (.int .i64) (m.row (m.reach.getD k 0)))), (56, .one (.int .i64 ((m.row (m.reach.getD k 0)).length : Int))), (57, .one (.int .i64 (j : Int)))], L := [.vars 24 [.int .i64 m.inp, .int .i64 m.st, .list (.list (.int .i64)) m.nx, .list (.list (.int .i64)) m.ot], .vars 24 [.int .i64 0, .int .i64 0, .nils, .nils], .row (.int .i64) 3 0 m.num, .vars 24 [.int .i64 m.inp, .int .i64 0, .row 4 v, .row 5 v], .row (.list (.int .i64)) 30 v (m.tnx.take k), .row (.list (.int .i64)) 30 v (m.tot.take k), .row (.int .i64) 3 0 (nextF m.num (m.row (m.reach.getD k 0)) j)] }) ?_ ?_
            · refine ⟨_, _, sub_keep [1, 2, 6, 9, 11, 12, 42, 43, 44, 55, 56, 57], 0, Nat.zero_le _, rfl, ?_⟩
              rw [nextF_zero, show (m.row (m.reach.getD k 0)).length = m.inp.toNat by omega]; rfl
            · rintro n29 s29 ⟨j, hj, rfl, rfl⟩
              refine awp_seq_k fun K30 hK30 => ?_
              refine awp_reg hP hN rfl ?_
              (refine rg_step rfl fun K0 hK0 => ?_; simp only [zE, op1, ev, lkp, avOf, acOf, opBin, arith, inK_i64, reduceCtorEq, Nat.reduceEqDiff, Nat.reduceAdd, Nat.reduceLeDiff, Nat.reduceLT, Nat.reduceMul, Nat.reduceSub, Try.td3, Mly.av]; (repeat refine And.intro (by omega) ?_); (first | refine hK0 _ ?_ | refine Or.inl (hK0 _ ?_)); clear hK0 K0; simp only [put, app, setAll, trOf, zE, List.set_cons_zero, List.set_cons_succ, Nat.reduceAdd])
              refine rg_nil ?_
              refine hK30 _ ?_; clear hK30; refine awp_keep [1, 2, 6, 9, 11, 12, 42, 43, 44, 55, 56, 57, 58] ?_; simp only [keepEnv, lkp, zE, reduceCtorEq, Nat.reduceEqDiff, argEnv, Nat.reduceAdd]
              refine awp_seq_k fun K31 hK31 => ?_
              refine awp_cond (by simp only [ev, keepEnv, lkp, zE, reduceCtorEq, Nat.reduceEqDiff, argEnv, Nat.reduceAdd]; exact rfl) (fun hc32 => ?_) (fun hc32 => ?_)
              · (try simp only [decide_eq_true_eq, decide_eq_false_iff_not, Bool.not_true, Bool.not_false, Bool.not_eq_true, Bool.not_eq_false, Bool.not_eq_eq_eq_not, Int.not_lt, Int.not_le, reduceCtorEq, Bool.true_eq_false, Bool.false_eq_true, ne_eq, Decidable.not_not, Bool.not_eq_true', bne_iff_ne, Bool.or_eq_true, Bool.and_eq_true, Bool.or_eq_false_iff, Bool.and_eq_false_iff] at hc32)
                refine awp_skip ?_
                refine hK31 _ ?_; clear hK31; refine awp_keep [1, 2, 6, 9, 11, 12, 42, 43, 44, 55, 56, 57, 58] ?_; simp only [keepEnv, lkp, zE, reduceCtorEq, Nat.reduceEqDiff, argEnv, Nat.reduceAdd]
                refine awp_seq_k fun K33 hK33 => ?_
                refine awp_block ?_
                refine awp_seq_k fun K34 hK34 => ?_
                refine awp_reg hP hN rfl ?_
                iterate 5 (refine rg_step rfl fun K0 hK0 => ?_; simp only [zE, op1, ev, lkp, avOf, acOf, opIndexAddr, zG, Ty.dflt, Ty.size, opLoad, readAC, isAggK, acs, cellsAt, reduceCtorEq, Nat.reduceEqDiff, Nat.reduceAdd, Nat.reduceLeDiff, Nat.reduceLT, Nat.reduceMul, Nat.reduceSub, Try.el30, Try.td3, Try.td30, Mly.av]; (repeat refine And.intro (by omega) ?_); (first | refine hK0 _ ?_ | refine Or.inl (hK0 _ ?_)); clear hK0 K0; simp only [put, app, setAll, trOf, zE, List.set_cons_zero, List.set_cons_succ, Nat.reduceAdd])
                refine rg_nil ?_
                refine hK34 _ ?_; clear hK34; refine awp_keep [1, 2, 6, 9, 11, 12, 13, 14, 42, 43, 44, 55, 56, 57, 58] ?_; simp only [keepEnv, lkp, zE, reduceCtorEq, Nat.reduceEqDiff, argEnv, Nat.reduceAdd]
                have ht := row_rng hm hx.1 hx.2 ((m.row (m.reach.getD k 0)).getD j 0) (getD_mem (by omega)); have hnl : m.num.length = m.nx.length := numF_len _ _ _; have hnf := nextF_len m.num (m.row (m.reach.getD k 0)) hj
                refine awp_reg hP hN rfl ?_
                iterate 8 (refine rg_step rfl fun K0 hK0 => ?_; simp only [zE, op1, ev, lkp, avOf, acOf, opIndexAddr, zG, Ty.dflt, Ty.size, opLoad, readAC, isAggK, acs, cellsAt, opStore, cellsAV, writeAC, datOf, reduceCtorEq, Nat.reduceEqDiff, Nat.reduceAdd, Nat.reduceLeDiff, Nat.reduceLT, Nat.reduceMul, Nat.reduceSub, Try.el30, Try.td3, Try.td30, Mly.av]; (repeat refine And.intro (by omega) ?_); (first | refine hK0 _ ?_ | refine Or.inl (hK0 _ ?_)); clear hK0 K0; simp only [put, app, setAll, trOf, zE, List.set_cons_zero, List.set_cons_succ, Nat.reduceAdd])
                refine rg_nil ?_
                refine hK33 _ ?_; clear hK33; refine awp_keep [1, 2, 6, 9, 11, 12, 13, 14, 42, 43, 44, 55, 56, 57, 58] ?_; simp only [keepEnv, lkp, zE, reduceCtorEq, Nat.reduceEqDiff, argEnv, Nat.reduceAdd]
                refine awp_reg hP hN rfl ?_
                iterate 2 (refine rg_step rfl fun K0 hK0 => ?_; simp only [zE, op1, ev, lkp, avOf, acOf, opBin, arith, inK_i64, reduceCtorEq, Nat.reduceEqDiff, Nat.reduceAdd, Nat.reduceLeDiff, Nat.reduceLT, Nat.reduceMul, Nat.reduceSub, Try.td3, Mly.av]; (repeat refine And.intro (by omega) ?_); (first | refine hK0 _ ?_ | refine Or.inl (hK0 _ ?_)); clear hK0 K0; simp only [put, app, setAll, trOf, zE, List.set_cons_zero, List.set_cons_succ, Nat.reduceAdd])
                refine rg_nil ?_
                refine ⟨_, _, ?_, sub_keep [1, 2, 6, 9, 11, 12, 42, 43, 44, 55, 56, 57], j + 1, by omega, rfl, ?_⟩
                · omega
                · rw [← nextF_set _ _ (by omega)]; rfl
              · (try simp only [decide_eq_true_eq, decide_eq_false_iff_not, Bool.not_true, Bool.not_false, Bool.not_eq_true, Bool.not_eq_false, Bool.not_eq_eq_eq_not, Int.not_lt, Int.not_le, reduceCtorEq, Bool.true_eq_false, Bool.false_eq_true, ne_eq, Decidable.not_not, Bool.not_eq_true', bne_iff_ne, Bool.or_eq_true, Bool.and_eq_true, Bool.or_eq_false_iff, Bool.and_eq_false_iff] at hc32)
                refine awp_exit ?_
                refine hK27 _ ?_; clear hK27; refine awp_keep [1, 2, 6, 9, 11, 12, 42, 43, 44, 55, 56, 57, 58] ?_; simp only [keepEnv, lkp, zE, reduceCtorEq, Nat.reduceEqDiff, argEnv, Nat.reduceAdd]
                refine awp_seq_k fun K35 hK35 => ?_
                refine awp_freeze 6 rfl ?_; simp only [List.map_cons, List.map_nil, List.set_cons_zero, List.set_cons_succ, Nat.reduceEqDiff, and_self, and_true, true_and, and_false, false_and, if_true, if_false, eq_self, reduceCtorEq, Nat.one_ne_zero, Nat.zero_ne_one]
                have htl : (m.tnx.take k).length = k := by simp [Mly.tnx]; omega
                have hol2 : (m.tot.take k).length = k := by simp [Mly.tot]; omega
                refine awp_reg hP hN rfl ?_
                iterate 7 (refine rg_step rfl fun K0 hK0 => ?_; simp only [zE, op1, ev, lkp, avOf, acOf, opFieldAddr, opLoad, readAC, isAggK, acs, Ty.dflt, zG, cellsAt, opBuildSlice, fillAC, chunk, rep, datOf, writeAC, cellsAV, Ty.size, opCallAny, opLen, lenAC, lenOk, fpAC, opAppend, srcOf, dite_true, opStore, reduceCtorEq, Nat.reduceEqDiff, Nat.reduceAdd, Nat.reduceLeDiff, Nat.reduceLT, Nat.reduceMul, Nat.reduceSub, Try.el22, Try.el30, Try.st24, Try.td2, Try.td22, Try.td24, Try.td30, Mly.av]; (repeat refine And.intro (by omega) ?_); (first | refine hK0 _ ?_ | refine Or.inl (hK0 _ ?_)); clear hK0 K0; simp only [put, app, setAll, trOf, zE, List.set_cons_zero, List.set_cons_succ, Nat.reduceAdd])
                refine rg_nil ?_
                refine hK35 _ ?_; clear hK35; refine awp_keep [1, 2, 6, 9, 11, 12, 42, 43, 44, 55, 56, 57, 58] ?_; simp only [keepEnv, lkp, zE, reduceCtorEq, Nat.reduceEqDiff, argEnv, Nat.reduceAdd]
                refine awp_drw hP hN Try.mixed rfl ?_
                iterate 7 (refine rg_step rfl fun K0 hK0 => ?_; simp only [zE, op1, ev, lkp, avOf, acOf, opFieldAddr, opLoad, readAC, isAggK, acs, Ty.dflt, zG, cellsAt, opIndexAddr, Ty.size, reduceCtorEq, Nat.reduceEqDiff, Nat.reduceAdd, Nat.reduceLeDiff, Nat.reduceLT, Nat.reduceMul, Nat.reduceSub, Try.el22, Try.el30, Try.st24, Try.td22, Try.td24, Try.td3, Try.td30, Mly.av]; (repeat refine And.intro (by omega) ?_); (first | refine hK0 _ ?_ | refine Or.inl (hK0 _ ?_)); clear hK0 K0; simp only [put, app, setAll, trOf, zE, List.set_cons_zero, List.set_cons_succ, Nat.reduceAdd])
                refine rg_step rfl fun K0 hK0 => ?_
                refine op_call (h := call_of_pure (clone_c (m.ot.getD (m.reach.getD k 0).toNat []) (by omega))) rfl rfl (by first | exact rfl | (simp only [ev, keepEnv, lkp, zE, reduceCtorEq, Nat.reduceEqDiff, argEnv, Nat.reduceAdd]; exact rfl)) (by simp only [zE, zG, op1, ev, lkp, avOf, acOf, cellsAV, acs, capAV, mv1, mvC, Ty.dflt, reduceCtorEq, Nat.reduceEqDiff, Nat.reduceAdd, Nat.reduceLeDiff, Nat.reduceLT, Nat.reduceMul, Nat.reduceSub, Mly.av]) ?_
                refine hK0 _ ?_; clear hK0 K0; simp only [put, app, setAll, trOf, zE, List.set_cons_zero, List.set_cons_succ, Nat.reduceAdd]
                iterate 4 (refine rg_step rfl fun K0 hK0 => ?_; simp only [zE, op1, ev, lkp, avOf, acOf, opBuildSlice, fillAC, chunk, rep, datOf, writeAC, cellsAV, Ty.size, opCallAny, opLen, lenAC, lenOk, fpAC, opAppend, srcOf, dite_true, opFieldAddr, opStore, acs, Ty.dflt, zG, reduceCtorEq, Nat.reduceEqDiff, Nat.reduceAdd, Nat.reduceLeDiff, Nat.reduceLT, Nat.reduceMul, Nat.reduceSub, Try.el22, Try.st24, Try.td22, Try.td24, Try.td3, Mly.av]; (repeat refine And.intro (by omega) ?_); (first | refine hK0 _ ?_ | refine Or.inl (hK0 _ ?_)); clear hK0 K0; simp only [put, app, setAll, trOf, zE, List.set_cons_zero, List.set_cons_succ, Nat.reduceAdd])
                refine rg_nil ?_
                refine ⟨by kernel_rfl, ?_⟩
                refine hK24 _ ?_; clear hK24; refine awp_keep [1, 2, 6, 9, 11, 12, 42, 43, 44, 55, 56, 57, 58] ?_; simp only [keepEnv, lkp, zE, reduceCtorEq, Nat.reduceEqDiff, argEnv, Nat.reduceAdd]
                refine awp_drop (n := 6) (L1 := [_, _, _, _, _, _]) rfl rfl (by rw [hB]; decide) rfl rfl ?_
                refine awp_reg hP hN rfl ?_
                iterate 2 (refine rg_step rfl fun K0 hK0 => ?_; simp only [zE, op1, ev, lkp, avOf, acOf, opBin, arith, inK_i64, reduceCtorEq, Nat.reduceEqDiff, Nat.reduceAdd, Nat.reduceLeDiff, Nat.reduceLT, Nat.reduceMul, Nat.reduceSub, Try.td3, Mly.av]; (repeat refine And.intro (by omega) ?_); (first | refine hK0 _ ?_ | refine Or.inl (hK0 _ ?_)); clear hK0 K0; simp only [put, app, setAll, trOf, zE, List.set_cons_zero, List.set_cons_succ, Nat.reduceAdd])
                refine rg_nil ?_
                have hjr : j = (m.row (m.reach.getD k 0)).length := by omega
                refine ⟨_, _, ?_, sub_keep [1, 2, 6, 9, 42, 43, 44], k + 1, v + 1, by omega, rfl, ?_⟩
                · omega
                · rw [show m.tnx.take (k + 1) = m.tnx.take k ++ [nextF m.num (m.row (m.reach.getD k 0)) j] by rw [hjr, nextF_all]; exact take_map_succ _ 0 (by omega), show m.tot.take (k + 1) = m.tot.take k ++ [m.ot.getD (m.reach.getD k 0).toNat []] from take_map_succ _ 0 (by omega)]; rfl
          · (try simp only [decide_eq_true_eq, decide_eq_false_iff_not, Bool.not_true, Bool.not_false, Bool.not_eq_true, Bool.not_eq_false, Bool.not_eq_eq_eq_not, Int.not_lt, Int.not_le, reduceCtorEq, Bool.true_eq_false, Bool.false_eq_true, ne_eq, Decidable.not_not, Bool.not_eq_true', bne_iff_ne, Bool.or_eq_true, Bool.and_eq_true, Bool.or_eq_false_iff, Bool.and_eq_false_iff] at hc23)
            refine awp_exit ?_
            refine hK18 _ ?_; clear hK18; refine awp_keep [1, 2, 6, 9, 42, 43, 44, 45] ?_; simp only [keepEnv, lkp, zE, reduceCtorEq, Nat.reduceEqDiff, argEnv, Nat.reduceAdd]
            refine awp_seq_k fun K36 hK36 => ?_
            refine awp_reg hP hN rfl ?_
            iterate 3 (refine rg_step rfl fun K0 hK0 => ?_; simp only [zE, op1, ev, lkp, avOf, acOf, opLoad, readAC, isAggK, acs, Ty.dflt, zG, cellsAt, opStore, cellsAV, writeAC, datOf, Ty.size, reduceCtorEq, Nat.reduceEqDiff, Nat.reduceAdd, Nat.reduceLeDiff, Nat.reduceLT, Nat.reduceMul, Nat.reduceSub, Try.st24, Try.td24, Try.td25, Mly.av]; (repeat refine And.intro (by omega) ?_); (first | refine hK0 _ ?_ | refine Or.inl (hK0 _ ?_)); clear hK0 K0; simp only [put, app, setAll, trOf, zE, List.set_cons_zero, List.set_cons_succ, Nat.reduceAdd])
            refine rg_nil ?_
            refine hK36 _ ?_; clear hK36; refine awp_keep [1, 2, 3, 6, 9, 42, 43, 44, 45] ?_; simp only [keepEnv, lkp, zE, reduceCtorEq, Nat.reduceEqDiff, argEnv, Nat.reduceAdd]
            refine awp_ret ?_
            refine ⟨by first | exact .inl rfl | exact .inr rfl, _, rfl, ?_⟩; simp only [fzV, fz1, fzC, List.map_cons, List.map_nil, keepEnv, lkp, zE, reduceCtorEq, Nat.reduceEqDiff, argEnv, Nat.reduceAdd, Mly.av]
            first
            | (rw [trim_bad ‹¬validE m = 0›]
               exact vle_tup ⟨vle1_agg ⟨.refl _, .refl _, cle_nils rfl, cle_nils rfl, trivial⟩, vle1_one (.refl _), trivial⟩)
            | (rw [trim_ok hv, hv]
               have hk3 : k = m.reach.length := by omega
               have e1 : m.tnx.take k = m.tnx := List.take_of_length_le (by simp [Mly.tnx]; omega)
               have e2 : m.tot.take k = m.tot := List.take_of_length_le (by simp [Mly.tot]; omega)
               rw [e1, e2]
               exact VLE.of_eq (by simp [fzC]; rfl))

end Go.Proofs.Ytcbkfkgagcfcoaa
