/- Contracts of functions of this package, each out of a walk through its code. Conditions: those that each theorem names. -/
import Derived.Test.YtcbkfkgagcfcoaaWc
set_option linter.unusedSimpArgs false
set_option linter.unusedVariables false
namespace Go.Proofs.Ytcbkfkgagcfcoaa
open Go Go.AV
set_option maxRecDepth 100000 in
theorem move_c (m : Mly) (s a : Int) (hm : MOK m) (h0 : 0 ≤ s) (hs : s < m.nx.length) (a0 : 0 ≤ a) (ha : a < m.inp) : PURE Try.prog 39 [m.av, .one (.int .i64 s), .one (.int .i64 a)] (.tup [.one (.int .i64 (m.nxt s a)), .one (.int .i64 (m.out s a))]) := by
  have h1 := hm.rl s.toNat (by omega); have h2 := hm.ql s.toNat (by omega); have h3 := hm.ol
  refine pure_of_le Try.func39 rfl (by kernel_rfl) (Nat.le_of_ble_eq_true rfl) rfl fun C hP hN hB => ?_
  replace hN : C.N = 26 := hN
  simp only [argEnv, Nat.reduceAdd]
  refine awp_seq_k fun K1 hK1 => ?_
  refine awp_reg hP hN rfl ?_
  iterate 3 (refine rg_step rfl fun K0 hK0 => ?_; simp only [zE, op1, ev, lkp, avOf, acOf, opBox, cellsAV, reduceCtorEq, Nat.reduceEqDiff, Nat.reduceAdd, Nat.reduceLeDiff, Nat.reduceLT, Nat.reduceMul, Nat.reduceSub, Try.st68, Try.td3, Try.td68, Mly.av]; (repeat refine And.intro (by omega) ?_); (first | refine hK0 _ ?_ | refine Or.inl (hK0 _ ?_)); clear hK0 K0; simp only [put, app, setAll, trOf, zE, List.set_cons_zero, List.set_cons_succ, Nat.reduceAdd])
  refine rg_nil ?_
  refine hK1 _ ?_; clear hK1; refine awp_keep [0, 1, 2, 3, 6, 7] ?_; simp only [keepEnv, lkp, zE, reduceCtorEq, Nat.reduceEqDiff, argEnv, Nat.reduceAdd]
  refine awp_seq_k fun K2 hK2 => ?_
  refine awp_drw hP hN Try.mixed rfl ?_
  iterate 20 (refine rg_step rfl fun K0 hK0 => ?_; simp only [zE, op1, ev, lkp, avOf, acOf, opFieldAddr, opLoad, readAC, isAggK, acs, Ty.dflt, zG, cellsAt, opIndexAddr, Ty.size, reduceCtorEq, Nat.reduceEqDiff, Nat.reduceAdd, Nat.reduceLeDiff, Nat.reduceLT, Nat.reduceMul, Nat.reduceSub, Try.el22, Try.el30, Try.st24, Try.st68, Try.td2, Try.td22, Try.td24, Try.td3, Try.td30, Try.td68, Mly.av]; (repeat refine And.intro (by omega) ?_); (first | refine hK0 _ ?_ | refine Or.inl (hK0 _ ?_)); clear hK0 K0; simp only [put, app, setAll, trOf, zE, List.set_cons_zero, List.set_cons_succ, Nat.reduceAdd])
  refine rg_nil ?_
  refine ⟨by kernel_rfl, ?_⟩
  refine hK2 _ ?_; clear hK2; refine awp_keep [0, 1, 2, 3, 6, 7] ?_; simp only [keepEnv, lkp, zE, reduceCtorEq, Nat.reduceEqDiff, argEnv, Nat.reduceAdd]
  refine awp_ret ?_
  refine ⟨by first | exact .inl rfl | exact .inr rfl, _, rfl, ?_⟩; simp only [fzV, fz1, fzC, List.map_cons, List.map_nil, keepEnv, lkp, zE, reduceCtorEq, Nat.reduceEqDiff, argEnv, Nat.reduceAdd, Mly.av]
  refine VLE.of_eq ?_
  rfl

set_option maxRecDepth 100000 in
theorem run_c (m : Mly) (s : Int) (w : List Int) (hs : SOK m s) (hw : WOK w m.inp) (L0 : List AO) (m0 : Nat) (hm0 : L0[m0]? = some (.vars 70 [.int .i64 m.inp, .int .i64 m.st, .list (.list (.int .i64)) m.nx, .list (.list (.int .i64)) m.ot, .int .i64 s])) : CALL Try.prog L0 36 (List.map (mv1 m0) [.one (.ptr 0 0 0 0), .one (.list (.int .i64) w)]) { av := .one (.list (.int .i64) (m.go s w).2), upd := [(m0, .vars 70 [.int .i64 m.inp, .int .i64 m.st, .list (.list (.int .i64)) m.nx, .list (.list (.int .i64)) m.ot, .int .i64 (m.go s w).1])], fp := [m0] } := by
  refine call_lent Try.func36 rfl (by kernel_rfl) (Nat.le_of_ble_eq_true rfl) rfl rfl (fun C hP hN hB => ?_) L0 m0 hm0
  replace hN : C.N = 39 := hN
  simp only [argEnv, Nat.reduceAdd]
  refine awp_seq_k fun K1 hK1 => ?_
  refine awp_reg hP hN rfl ?_
  (refine rg_step rfl fun K0 hK0 => ?_; simp only [zE, op1, ev, lkp, avOf, acOf, ev, reduceCtorEq, Nat.reduceEqDiff, Nat.reduceAdd, Nat.reduceLeDiff, Nat.reduceLT, Nat.reduceMul, Nat.reduceSub, Try.el30, Try.td30, Mly.av]; (repeat refine And.intro (by omega) ?_); (first | refine hK0 _ ?_ | refine Or.inl (hK0 _ ?_)); clear hK0 K0; simp only [put, app, setAll, trOf, zE, List.set_cons_zero, List.set_cons_succ, Nat.reduceAdd])
  refine rg_nil ?_
  refine hK1 _ ?_; clear hK1; refine awp_keep [0, 1, 4] ?_; simp only [keepEnv, lkp, zE, reduceCtorEq, Nat.reduceEqDiff, argEnv, Nat.reduceAdd]
  refine awp_seq_k fun K2 hK2 => ?_
  refine awp_reg hP hN rfl ?_
  (refine rg_step rfl fun K0 hK0 => ?_; simp only [zE, op1, ev, lkp, avOf, acOf, ev, reduceCtorEq, Nat.reduceEqDiff, Nat.reduceAdd, Nat.reduceLeDiff, Nat.reduceLT, Nat.reduceMul, Nat.reduceSub, Try.el30, Try.td30, Mly.av]; (repeat refine And.intro (by omega) ?_); (first | refine hK0 _ ?_ | refine Or.inl (hK0 _ ?_)); clear hK0 K0; simp only [put, app, setAll, trOf, zE, List.set_cons_zero, List.set_cons_succ, Nat.reduceAdd])
  refine rg_nil ?_
  refine hK2 _ ?_; clear hK2; refine awp_keep [0, 1, 4, 5] ?_; simp only [keepEnv, lkp, zE, reduceCtorEq, Nat.reduceEqDiff, argEnv, Nat.reduceAdd]
  refine awp_seq_k fun K3 hK3 => ?_
  refine awp_seq_k fun K4 hK4 => ?_
  refine awp_reg hP hN rfl ?_
  iterate 3 (refine rg_step rfl fun K0 hK0 => ?_; simp only [zE, op1, ev, lkp, avOf, acOf, opCallAny, opLen, lenAC, lenOk, fpAC, opAppend, srcOf, Ty.size, datOf, dite_true, reduceCtorEq, Nat.reduceEqDiff, Nat.reduceAdd, Nat.reduceLeDiff, Nat.reduceLT, Nat.reduceMul, Nat.reduceSub, Try.el30, Try.td3, Try.td30, Mly.av]; (repeat refine And.intro (by omega) ?_); (first | refine hK0 _ ?_ | refine Or.inl (hK0 _ ?_)); clear hK0 K0; simp only [put, app, setAll, trOf, zE, List.set_cons_zero, List.set_cons_succ, Nat.reduceAdd])
  refine rg_nil ?_
  refine hK4 _ ?_; clear hK4; refine awp_keep [0, 1, 4, 5, 10, 11, 12] ?_; simp only [keepEnv, lkp, zE, reduceCtorEq, Nat.reduceEqDiff, argEnv, Nat.reduceAdd]
  refine awp_block ?_
  refine awp_own 5 (.int .i64) 3 (by decide) rfl ?_; simp only [List.length_cons, List.length_nil, List.cons_append, List.nil_append, Nat.zero_add, Nat.reduceAdd]
  refine awp_loop (fun n5 s5 => ∃ (k : Nat) (v : Nat), (k ≤ w.length) ∧ n5 = w.length - k ∧ s5 = { env := [(0, .one (.ptr 0 0 0 0)), (5, .one (.row 1 v)), (10, .one (.list (.int .i64) w)), (11, .one (.int .i64 (w.length : Int))), (12, .one (.int .i64 (k : Int)))], L := [.vars 70 [.int .i64 m.inp, .int .i64 m.st, .list (.list (.int .i64)) m.nx, .list (.list (.int .i64)) m.ot, .int .i64 (m.go s (w.take k)).1], .row (.int .i64) 3 v (m.go s (w.take k)).2] }) ?_ ?_
  · exact ⟨_, _, sub_keep [0, 5, 10, 11, 12], 0, 0, Nat.zero_le _, rfl, rfl⟩
  · rintro n5 s5 ⟨k, v, hk, rfl, rfl⟩
    have hgo := go_ok hs.ok hs.s0 hs.s1 hw k hk; have hlen := hw.len; have hgl := go_len m s (w.take k); rw [List.length_take] at hgl
    refine awp_seq_k fun K6 hK6 => ?_
    refine awp_reg hP hN rfl ?_
    (refine rg_step rfl fun K0 hK0 => ?_; simp only [zE, op1, ev, lkp, avOf, acOf, opBin, arith, inK_i64, reduceCtorEq, Nat.reduceEqDiff, Nat.reduceAdd, Nat.reduceLeDiff, Nat.reduceLT, Nat.reduceMul, Nat.reduceSub, Try.td3, Mly.av]; (repeat refine And.intro (by omega) ?_); (first | refine hK0 _ ?_ | refine Or.inl (hK0 _ ?_)); clear hK0 K0; simp only [put, app, setAll, trOf, zE, List.set_cons_zero, List.set_cons_succ, Nat.reduceAdd])
    refine rg_nil ?_
    refine hK6 _ ?_; clear hK6; refine awp_keep [0, 5, 10, 11, 12, 13] ?_; simp only [keepEnv, lkp, zE, reduceCtorEq, Nat.reduceEqDiff, argEnv, Nat.reduceAdd]
    refine awp_seq_k fun K7 hK7 => ?_
    refine awp_cond (by simp only [ev, keepEnv, lkp, zE, reduceCtorEq, Nat.reduceEqDiff, argEnv, Nat.reduceAdd]; exact rfl) (fun hc8 => ?_) (fun hc8 => ?_)
    · (try simp only [decide_eq_true_eq, decide_eq_false_iff_not, Bool.not_true, Bool.not_false, Bool.not_eq_true, Bool.not_eq_false, Bool.not_eq_eq_eq_not, Int.not_lt, Int.not_le, reduceCtorEq, Bool.true_eq_false, Bool.false_eq_true, ne_eq, Decidable.not_not, Bool.not_eq_true', bne_iff_ne, Bool.or_eq_true, Bool.and_eq_true, Bool.or_eq_false_iff, Bool.and_eq_false_iff] at hc8)
      refine awp_skip ?_
      refine hK7 _ ?_; clear hK7; refine awp_keep [0, 5, 10, 11, 12, 13] ?_; simp only [keepEnv, lkp, zE, reduceCtorEq, Nat.reduceEqDiff, argEnv, Nat.reduceAdd]
      refine awp_seq_k fun K9 hK9 => ?_
      refine awp_block ?_
      refine awp_seq_k fun K10 hK10 => ?_
      refine awp_reg hP hN rfl ?_
      iterate 3 (refine rg_step rfl fun K0 hK0 => ?_; simp only [zE, op1, ev, lkp, avOf, acOf, opIndexAddr, zG, Ty.dflt, Ty.size, opLoad, readAC, isAggK, acs, cellsAt, reduceCtorEq, Nat.reduceEqDiff, Nat.reduceAdd, Nat.reduceLeDiff, Nat.reduceLT, Nat.reduceMul, Nat.reduceSub, Try.el30, Try.td3, Try.td30, Mly.av]; (repeat refine And.intro (by omega) ?_); (first | refine hK0 _ ?_ | refine Or.inl (hK0 _ ?_)); clear hK0 K0; simp only [put, app, setAll, trOf, zE, List.set_cons_zero, List.set_cons_succ, Nat.reduceAdd])
      refine rg_nil ?_
      refine hK10 _ ?_; clear hK10; refine awp_keep [0, 5, 7, 10, 11, 12, 13] ?_; simp only [keepEnv, lkp, zE, reduceCtorEq, Nat.reduceEqDiff, argEnv, Nat.reduceAdd]
      refine awp_seq_k fun K11 hK11 => ?_
      refine awp_drw hP hN Try.mixed rfl ?_
      iterate 9 (refine rg_step rfl fun K0 hK0 => ?_; simp only [zE, op1, ev, lkp, avOf, acOf, opNil, opFieldAddr, opLoad, readAC, isAggK, acs, Ty.dflt, zG, cellsAt, reduceCtorEq, Nat.reduceEqDiff, Nat.reduceAdd, Nat.reduceLeDiff, Nat.reduceLT, Nat.reduceMul, Nat.reduceSub, Try.st68, Try.st70, Try.td3, Try.td66, Try.td68, Try.td70, Mly.av]; (repeat refine And.intro (by omega) ?_); (first | refine hK0 _ ?_ | refine Or.inl (hK0 _ ?_)); clear hK0 K0; simp only [put, app, setAll, trOf, zE, List.set_cons_zero, List.set_cons_succ, Nat.reduceAdd])
      refine rg_step rfl fun K0 hK0 => ?_
      refine op_call (h := call_of_pure (move_c m (m.go s (w.take k)).1 (w.getD k 0) hs.ok hgo.1 hgo.2 (hw.sym k (by omega)).1 (hw.sym k (by omega)).2)) rfl rfl (by first | exact rfl | (simp only [ev, keepEnv, lkp, zE, reduceCtorEq, Nat.reduceEqDiff, argEnv, Nat.reduceAdd]; exact rfl)) (by simp only [zE, zG, op1, ev, lkp, avOf, acOf, cellsAV, acs, capAV, mv1, mvC, Ty.dflt, reduceCtorEq, Nat.reduceEqDiff, Nat.reduceAdd, Nat.reduceLeDiff, Nat.reduceLT, Nat.reduceMul, Nat.reduceSub, Mly.av]) ?_
      refine hK0 _ ?_; clear hK0 K0; simp only [put, app, setAll, trOf, zE, List.set_cons_zero, List.set_cons_succ, Nat.reduceAdd]
      iterate 5 (refine rg_step rfl fun K0 hK0 => ?_; simp only [zE, op1, ev, lkp, avOf, acOf, opExtract, reduceCtorEq, Nat.reduceEqDiff, Nat.reduceAdd, Nat.reduceLeDiff, Nat.reduceLT, Nat.reduceMul, Nat.reduceSub, Try.td3, Mly.av]; (repeat refine And.intro (by omega) ?_); (first | refine hK0 _ ?_ | refine Or.inl (hK0 _ ?_)); clear hK0 K0; simp only [put, app, setAll, trOf, zE, List.set_cons_zero, List.set_cons_succ, Nat.reduceAdd])
      refine rg_nil ?_
      refine ⟨by kernel_rfl, ?_⟩
      refine hK11 _ ?_; clear hK11; refine awp_keep [0, 5, 7, 8, 9, 10, 11, 12, 13] ?_; simp only [keepEnv, lkp, zE, reduceCtorEq, Nat.reduceEqDiff, argEnv, Nat.reduceAdd]
      refine awp_seq_k fun K12 hK12 => ?_
      refine awp_reg hP hN rfl ?_
      iterate 5 (refine rg_step rfl fun K0 hK0 => ?_; simp only [zE, op1, ev, lkp, avOf, acOf, opNil, opFieldAddr, opStore, cellsAV, writeAC, datOf, acs, Ty.size, Ty.dflt, zG, reduceCtorEq, Nat.reduceEqDiff, Nat.reduceAdd, Nat.reduceLeDiff, Nat.reduceLT, Nat.reduceMul, Nat.reduceSub, Try.st70, Try.td3, Try.td66, Try.td70, Mly.av]; (repeat refine And.intro (by omega) ?_); (first | refine hK0 _ ?_ | refine Or.inl (hK0 _ ?_)); clear hK0 K0; simp only [put, app, setAll, trOf, zE, List.set_cons_zero, List.set_cons_succ, Nat.reduceAdd])
      refine rg_nil ?_
      refine hK12 _ ?_; clear hK12; refine awp_keep [0, 5, 7, 8, 9, 10, 11, 12, 13] ?_; simp only [keepEnv, lkp, zE, reduceCtorEq, Nat.reduceEqDiff, argEnv, Nat.reduceAdd]
      refine awp_reg hP hN rfl ?_
      iterate 5 (refine rg_step rfl fun K0 hK0 => ?_; simp only [zE, op1, ev, lkp, avOf, acOf, opBuildSlice, fillAC, chunk, rep, datOf, writeAC, cellsAV, Ty.size, opCallAny, opLen, lenAC, lenOk, fpAC, opAppend, srcOf, dite_true, reduceCtorEq, Nat.reduceEqDiff, Nat.reduceAdd, Nat.reduceLeDiff, Nat.reduceLT, Nat.reduceMul, Nat.reduceSub, Try.el30, Try.td3, Try.td30, Mly.av]; (repeat refine And.intro (by omega) ?_); (first | refine hK0 _ ?_ | refine Or.inl (hK0 _ ?_)); clear hK0 K0; simp only [put, app, setAll, trOf, zE, List.set_cons_zero, List.set_cons_succ, Nat.reduceAdd])
      refine rg_nil ?_
      refine hK9 _ ?_; clear hK9; refine awp_keep [0, 5, 7, 8, 9, 10, 11, 12, 13] ?_; simp only [keepEnv, lkp, zE, reduceCtorEq, Nat.reduceEqDiff, argEnv, Nat.reduceAdd]
      refine awp_reg hP hN rfl ?_
      iterate 2 (refine rg_step rfl fun K0 hK0 => ?_; simp only [zE, op1, ev, lkp, avOf, acOf, opBin, arith, inK_i64, reduceCtorEq, Nat.reduceEqDiff, Nat.reduceAdd, Nat.reduceLeDiff, Nat.reduceLT, Nat.reduceMul, Nat.reduceSub, Try.td3, Mly.av]; (repeat refine And.intro (by omega) ?_); (first | refine hK0 _ ?_ | refine Or.inl (hK0 _ ?_)); clear hK0 K0; simp only [put, app, setAll, trOf, zE, List.set_cons_zero, List.set_cons_succ, Nat.reduceAdd])
      refine rg_nil ?_
      refine ⟨_, _, ?_, sub_keep [0, 5, 10, 11, 12], k + 1, v + 1, by omega, rfl, ?_⟩
      · omega
      · rw [go_succ m s (by omega)]; rfl
    · (try simp only [decide_eq_true_eq, decide_eq_false_iff_not, Bool.not_true, Bool.not_false, Bool.not_eq_true, Bool.not_eq_false, Bool.not_eq_eq_eq_not, Int.not_lt, Int.not_le, reduceCtorEq, Bool.true_eq_false, Bool.false_eq_true, ne_eq, Decidable.not_not, Bool.not_eq_true', bne_iff_ne, Bool.or_eq_true, Bool.and_eq_true, Bool.or_eq_false_iff, Bool.and_eq_false_iff] at hc8)
      refine awp_exit ?_
      refine hK3 _ ?_; clear hK3; refine awp_keep [0, 5, 10, 11, 12, 13] ?_; simp only [keepEnv, lkp, zE, reduceCtorEq, Nat.reduceEqDiff, argEnv, Nat.reduceAdd]
      refine awp_seq_k fun K13 hK13 => ?_
      refine awp_reg hP hN rfl ?_
      iterate 2 (refine rg_step rfl fun K0 hK0 => ?_; simp only [zE, op1, ev, lkp, avOf, acOf, ev, reduceCtorEq, Nat.reduceEqDiff, Nat.reduceAdd, Nat.reduceLeDiff, Nat.reduceLT, Nat.reduceMul, Nat.reduceSub, Try.el30, Try.td30, Mly.av]; (repeat refine And.intro (by omega) ?_); (first | refine hK0 _ ?_ | refine Or.inl (hK0 _ ?_)); clear hK0 K0; simp only [put, app, setAll, trOf, zE, List.set_cons_zero, List.set_cons_succ, Nat.reduceAdd])
      refine rg_nil ?_
      refine hK13 _ ?_; clear hK13; refine awp_keep [0, 4, 5, 10, 11, 12, 13] ?_; simp only [keepEnv, lkp, zE, reduceCtorEq, Nat.reduceEqDiff, argEnv, Nat.reduceAdd]
      refine awp_ret ?_
      refine ⟨by first | exact .inl rfl | exact .inr rfl, _, rfl, _, _, rfl, ?_, ?_⟩ <;> simp only [fzV, fz1, fzC, List.map_cons, List.map_nil, keepEnv, lkp, zE, reduceCtorEq, Nat.reduceEqDiff, argEnv, Nat.reduceAdd, Mly.av]
      all_goals (have htk : w.take k = w := by rw [show k = w.length by omega, List.take_length])
      all_goals (rw [htk]; try simp)

end Go.Proofs.Ytcbkfkgagcfcoaa
