/- Contracts of functions of this seat, each out of a walk through its code, and plain facts on what they compute. Conditions: those that each theorem names. -/
import Derived.Test.YtceafldjjedhcaaW01
set_option linter.unusedSimpArgs false
set_option linter.unusedVariables false
namespace Go.Proofs.Ytceafldjjedhcaa
open Go Go.AV
open Nat (reduceEqDiff reduceAdd reduceLeDiff reduceLT reduceMul reduceSub)
open List (set_cons_zero set_cons_succ)
set_option maxRecDepth 100000 in
set_option maxHeartbeats 1000000 in
theorem step_c2 (m : Mly) (cl : List Int) : PURE Try.prog 14 [m.av, .one (.list (.int .i64) cl)] (.tup [.one (.list (.int .i64) (stpL m cl)), .one (.bool (stpB m cl)), .one (.int .i64 (chkE m cl))]) := by
  obtain ⟨p, hpt, hpn⟩ : ∃ p : Nat × Nat × Nat, ((finI m cl).isSome = true → finI m cl = some p) ∧ ((finI m cl).isSome = false → p = (0, 0, 0)) := by
    cases hf : finI m cl with
    | none => exact ⟨(0, 0, 0), fun h => by simp at h, fun _ => rfl⟩
    | some q => exact ⟨q, fun _ => rfl, fun h => by simp at h⟩
  refine pure_of_le Try.func14 rfl (by kernel_rfl) (Nat.le_of_ble_eq_true rfl) rfl fun C hP hN hB => ?_
  replace hN : C.N = 41 := hN
  simp only [argEnv, reduceAdd]
  refine awp_seq_k fun K1 hK1 => ?_
  refine awp_reg hP hN rfl ?_
  iterate 5 (refine rg_step rfl fun K0 hK0 => ?_; simp only [zE, op1, ev, lkp, avOf, acOf, opBox, cellsAV, reduceCtorEq, reduceEqDiff, reduceAdd, reduceLeDiff, reduceLT, reduceMul, reduceSub, Try.el25, Try.st24, Try.td24, Try.td25, Try.td28, Try.td4, Mly.av]; (repeat refine And.intro (by first | omega | assumption | exact rfl) ?_); (first | refine hK0 _ ?_ | refine Or.inl (hK0 _ ?_)); clear hK0 K0; simp only [put, app, setAll, trOf, zE, zS, reduceAdd])
  refine rg_nil ?_
  refine hK1 _ ?_; clear hK1; refine awp_keep [0, 1, 2, 3, 4, 5, 6] ?_; simp only [keepEnv, lkp, zE, reduceCtorEq, reduceEqDiff, argEnv, reduceAdd]
  refine awp_seq_k fun K2 hK2 => ?_
  refine awp_seq_k fun K3 hK3 => ?_
  refine awp_reg hP hN rfl ?_
  iterate 2 (refine rg_step rfl fun K0 hK0 => ?_; simp only [zE, op1, ev, lkp, avOf, acOf, opLoad, Nat.mul_one, readAC, isAggK, acs, Ty.dflt, zG, cellsAt, reduceCtorEq, reduceEqDiff, reduceAdd, reduceLeDiff, reduceLT, reduceMul, reduceSub, Try.el25, Try.st24, Try.td24, Try.td25, Mly.av]; (repeat refine And.intro (by first | omega | assumption | exact rfl) ?_); (first | refine hK0 _ ?_ | refine Or.inl (hK0 _ ?_)); clear hK0 K0; simp only [put, app, setAll, trOf, zE, zS, reduceAdd])
  refine rg_step rfl fun K0 hK0 => ?_
  refine op_call (h := call_of_pure (rchk_c m cl)) rfl rfl (by first | exact rfl | (simp only [ev, keepEnv, lkp, zE, reduceCtorEq, reduceEqDiff, argEnv, reduceAdd]; exact rfl)) (by simp only [zE, zG, op1, ev, lkp, avOf, acOf, cellsAV, acs, capAV, mv1, mvC, Ty.dflt, reduceCtorEq, reduceEqDiff, reduceAdd, reduceLeDiff, reduceLT, reduceMul, reduceSub, Mly.av]) ?_
  refine hK0 _ ?_; clear hK0 K0; simp only [put, app, setAll, trOf, zE, zS, reduceAdd]
  (refine rg_step rfl fun K0 hK0 => ?_; simp only [zE, op1, ev, lkp, avOf, acOf, ev, reduceCtorEq, reduceEqDiff, reduceAdd, reduceLeDiff, reduceLT, reduceMul, reduceSub, Try.td28, Mly.av]; (repeat refine And.intro (by first | omega | assumption | exact rfl) ?_); (first | refine hK0 _ ?_ | refine Or.inl (hK0 _ ?_)); clear hK0 K0; simp only [put, app, setAll, trOf, zE, zS, reduceAdd])
  refine rg_nil ?_
  refine hK3 _ ?_; clear hK3; refine awp_keep [0, 1, 2, 3, 4, 5, 6, 7] ?_; simp only [keepEnv, lkp, zE, reduceCtorEq, reduceEqDiff, argEnv, reduceAdd]
  refine awp_seq_k fun K4 hK4 => ?_
  refine awp_reg hP hN rfl ?_
  iterate 2 (refine rg_step rfl fun K0 hK0 => ?_; simp only [zE, op1, ev, lkp, avOf, acOf, opBin, arith, inK_i64, eqACs, eqAC, reduceCtorEq, reduceEqDiff, reduceAdd, reduceLeDiff, reduceLT, reduceMul, reduceSub, Try.td28, Try.td4, Mly.av]; (repeat refine And.intro (by first | omega | assumption | exact rfl) ?_); (first | refine hK0 _ ?_ | refine Or.inl (hK0 _ ?_)); clear hK0 K0; simp only [put, app, setAll, trOf, zE, zS, reduceAdd])
  refine rg_nil ?_
  refine hK4 _ ?_; clear hK4; refine awp_keep [0, 1, 2, 3, 4, 5, 6, 7, 18] ?_; simp only [keepEnv, lkp, zE, reduceCtorEq, reduceEqDiff, argEnv, reduceAdd]
  refine awp_cond (by simp only [ev, keepEnv, lkp, zE, reduceCtorEq, reduceEqDiff, argEnv, reduceAdd]; exact rfl) (fun hc5 => ?_) (fun hc5 => ?_)
  · (try simp only [zB, reduceCtorEq] at hc5)
    refine awp_seq_k fun K6 hK6 => ?_
    refine awp_reg hP hN rfl ?_
    iterate 4 (refine rg_step rfl fun K0 hK0 => ?_; simp only [zE, op1, ev, lkp, avOf, acOf, ev, reduceCtorEq, reduceEqDiff, reduceAdd, reduceLeDiff, reduceLT, reduceMul, reduceSub, Try.el25, Try.td25, Try.td28, Try.td4, Mly.av]; (repeat refine And.intro (by first | omega | assumption | exact rfl) ?_); (first | refine hK0 _ ?_ | refine Or.inl (hK0 _ ?_)); clear hK0 K0; simp only [put, app, setAll, trOf, zE, zS, reduceAdd])
    refine rg_nil ?_
    refine hK6 _ ?_; clear hK6; refine awp_keep [0, 1, 2, 3, 4, 5, 6, 7, 18] ?_; simp only [keepEnv, lkp, zE, reduceCtorEq, reduceEqDiff, argEnv, reduceAdd]
    refine awp_ret ?_
    refine ⟨by first | exact .inl rfl | exact .inr rfl, _, rfl, ?_⟩; simp only [fzV, fz1, fzC, List.map_cons, List.map_nil, keepEnv, lkp, zE, reduceCtorEq, reduceEqDiff, argEnv, reduceAdd, Mly.av]
    unfold stpL stpB
    first
    | (rw [if_neg ‹¬chkE m cl = 0›, if_neg ‹¬chkE m cl = 0›]; exact vle_tup ⟨vle1_one (cle_nils rfl), vle1_one (.refl _), vle1_one (.refl _), trivial⟩)
    | (rw [if_pos ‹chkE m cl = 0›, if_pos ‹chkE m cl = 0›, ‹chkE m cl = 0›, hfs]; exact VLE.of_eq rfl)
    | (rw [if_pos ‹chkE m cl = 0›, if_pos ‹chkE m cl = 0›, ‹chkE m cl = 0›, hfn]; exact VLE.of_eq rfl)
  · (try simp only [zB, reduceCtorEq] at hc5)
    refine awp_skip ?_
    refine hK2 _ ?_; clear hK2; refine awp_keep [0, 1, 2, 3, 4, 5, 6, 7, 18] ?_; simp only [keepEnv, lkp, zE, reduceCtorEq, reduceEqDiff, argEnv, reduceAdd]
    refine awp_seq_k fun K7 hK7 => ?_
    refine awp_reg hP hN rfl ?_
    (refine rg_step rfl fun K0 hK0 => ?_; simp only [zE, op1, ev, lkp, avOf, acOf, opLoad, Nat.mul_one, readAC, isAggK, acs, Ty.dflt, zG, cellsAt, reduceCtorEq, reduceEqDiff, reduceAdd, reduceLeDiff, reduceLT, reduceMul, reduceSub, Try.st24, Try.td24, Mly.av]; (repeat refine And.intro (by first | omega | assumption | exact rfl) ?_); (first | refine hK0 _ ?_ | refine Or.inl (hK0 _ ?_)); clear hK0 K0; simp only [put, app, setAll, trOf, zE, zS, reduceAdd])
    refine rg_step rfl fun K0 hK0 => ?_
    refine op_call (h := call_of_pure (explore_c m (validE_of (cok_of (by assumption)).ok))) rfl rfl (by first | exact rfl | (simp only [ev, keepEnv, lkp, zE, reduceCtorEq, reduceEqDiff, argEnv, reduceAdd]; exact rfl)) (by simp only [zE, zG, op1, ev, lkp, avOf, acOf, cellsAV, acs, capAV, mv1, mvC, Ty.dflt, reduceCtorEq, reduceEqDiff, reduceAdd, reduceLeDiff, reduceLT, reduceMul, reduceSub, Mly.av]) ?_
    refine hK0 _ ?_; clear hK0 K0; simp only [put, app, setAll, trOf, zE, zS, reduceAdd]
    iterate 2 (refine rg_step rfl fun K0 hK0 => ?_; simp only [zE, op1, ev, lkp, avOf, acOf, opAlloc, opStore, Nat.mul_one, cellsAV, writeAC, datOf, acs, Ty.size, Ty.dflt, zG, reduceCtorEq, reduceEqDiff, reduceAdd, reduceLeDiff, reduceLT, reduceMul, reduceSub, Try.st57, Try.td57, Mly.av]; (repeat refine And.intro (by first | omega | assumption | exact rfl) ?_); (first | refine hK0 _ ?_ | refine Or.inl (hK0 _ ?_)); clear hK0 K0; simp only [put, app, setAll, trOf, zE, zS, reduceAdd])
    refine rg_nil ?_
    refine hK7 _ ?_; clear hK7; refine awp_keep [0, 1, 2, 3, 4, 5, 6, 7, 8, 18] ?_; simp only [keepEnv, lkp, zE, reduceCtorEq, reduceEqDiff, argEnv, reduceAdd]
    refine awp_seq_k fun K8 hK8 => ?_
    refine awp_reg hP hN rfl ?_
    iterate 2 (refine rg_step rfl fun K0 hK0 => ?_; simp only [zE, op1, ev, lkp, avOf, acOf, opLoad, Nat.mul_one, readAC, isAggK, acs, Ty.dflt, zG, cellsAt, reduceCtorEq, reduceEqDiff, reduceAdd, reduceLeDiff, reduceLT, reduceMul, reduceSub, Try.el25, Try.st57, Try.td25, Try.td57, Mly.av]; (repeat refine And.intro (by first | omega | assumption | exact rfl) ?_); (first | refine hK0 _ ?_ | refine Or.inl (hK0 _ ?_)); clear hK0 K0; simp only [put, app, setAll, trOf, zE, zS, reduceAdd])
    refine rg_step rfl fun K0 hK0 => ?_
    refine op_call (h := call_of_pure (rfindS_c m cl (cok_of (by assumption)) p _ rfl hpt hpn)) rfl rfl (by first | exact rfl | (simp only [ev, keepEnv, lkp, zE, reduceCtorEq, reduceEqDiff, argEnv, reduceAdd]; exact rfl)) (by simp only [zE, zG, op1, ev, lkp, avOf, acOf, cellsAV, acs, capAV, mv1, mvC, Ty.dflt, reduceCtorEq, reduceEqDiff, reduceAdd, reduceLeDiff, reduceLT, reduceMul, reduceSub, Mly.av]) ?_
    refine hK0 _ ?_; clear hK0 K0; simp only [put, app, setAll, trOf, zE, zS, reduceAdd]
    iterate 6 (refine rg_step rfl fun K0 hK0 => ?_; simp only [zE, op1, ev, lkp, avOf, acOf, opExtract, opAlloc, opStore, Nat.mul_one, cellsAV, writeAC, datOf, acs, Ty.size, Ty.dflt, zG, reduceCtorEq, reduceEqDiff, reduceAdd, reduceLeDiff, reduceLT, reduceMul, reduceSub, Try.fl60, Try.st60, Try.td1, Try.td4, Try.td60, Mly.av]; (repeat refine And.intro (by first | omega | assumption | exact rfl) ?_); (first | refine hK0 _ ?_ | refine Or.inl (hK0 _ ?_)); clear hK0 K0; simp only [put, app, setAll, trOf, zE, zS, reduceAdd])
    refine rg_nil ?_
    refine hK8 _ ?_; clear hK8; refine awp_keep [0, 1, 2, 3, 4, 5, 6, 7, 8, 9, 10, 18] ?_; simp only [keepEnv, lkp, zE, reduceCtorEq, reduceEqDiff, argEnv, reduceAdd]
    refine awp_seq_k fun K9 hK9 => ?_
    refine awp_seq_k fun K10 hK10 => ?_
    refine awp_reg hP hN rfl ?_
    iterate 2 (refine rg_step rfl fun K0 hK0 => ?_; simp only [zE, op1, ev, lkp, avOf, acOf, opUn, reduceCtorEq, reduceEqDiff, reduceAdd, reduceLeDiff, reduceLT, reduceMul, reduceSub, Try.td4, Mly.av]; (repeat refine And.intro (by first | omega | assumption | exact rfl) ?_); (first | refine hK0 _ ?_ | refine Or.inl (hK0 _ ?_)); clear hK0 K0; simp only [put, app, setAll, trOf, zE, zS, reduceAdd])
    refine rg_nil ?_
    refine hK10 _ ?_; clear hK10; refine awp_keep [0, 1, 2, 3, 4, 5, 6, 7, 8, 9, 10, 18, 29] ?_; simp only [keepEnv, lkp, zE, reduceCtorEq, reduceEqDiff, argEnv, reduceAdd]
    refine awp_cond (by simp only [ev, keepEnv, lkp, zE, reduceCtorEq, reduceEqDiff, argEnv, reduceAdd]; exact rfl) (fun hc11 => ?_) (fun hc11 => ?_)
    · (try simp only [zB, reduceCtorEq] at hc11)
      have hfn : finI m cl = none := by simpa using hc11
      refine awp_seq_k fun K12 hK12 => ?_
      refine awp_reg hP hN rfl ?_
      (refine rg_step rfl fun K0 hK0 => ?_; simp only [zE, op1, ev, lkp, avOf, acOf, opLoad, Nat.mul_one, readAC, isAggK, acs, Ty.dflt, zG, cellsAt, reduceCtorEq, reduceEqDiff, reduceAdd, reduceLeDiff, reduceLT, reduceMul, reduceSub, Try.el25, Try.td25, Mly.av]; (repeat refine And.intro (by first | omega | assumption | exact rfl) ?_); (first | refine hK0 _ ?_ | refine Or.inl (hK0 _ ?_)); clear hK0 K0; simp only [put, app, setAll, trOf, zE, zS, reduceAdd])
      refine rg_step rfl fun K0 hK0 => ?_
      refine op_call (h := call_of_pure (clone_c cl (by have := (cntE_zero (cok_of (m := m) (cl := cl) (by assumption)).ce).1; omega))) rfl rfl (by first | exact rfl | (simp only [ev, keepEnv, lkp, zE, reduceCtorEq, reduceEqDiff, argEnv, reduceAdd]; exact rfl)) (by simp only [zE, zG, op1, ev, lkp, avOf, acOf, cellsAV, acs, capAV, mv1, mvC, Ty.dflt, reduceCtorEq, reduceEqDiff, reduceAdd, reduceLeDiff, reduceLT, reduceMul, reduceSub, Mly.av]) ?_
      refine hK0 _ ?_; clear hK0 K0; simp only [put, app, setAll, trOf, zE, zS, reduceAdd]
      iterate 3 (refine rg_step rfl fun K0 hK0 => ?_; simp only [zE, op1, ev, lkp, avOf, acOf, ev, reduceCtorEq, reduceEqDiff, reduceAdd, reduceLeDiff, reduceLT, reduceMul, reduceSub, Try.el25, Try.td25, Try.td28, Try.td4, Mly.av]; (repeat refine And.intro (by first | omega | assumption | exact rfl) ?_); (first | refine hK0 _ ?_ | refine Or.inl (hK0 _ ?_)); clear hK0 K0; simp only [put, app, setAll, trOf, zE, zS, reduceAdd])
      refine rg_nil ?_
      refine hK12 _ ?_; clear hK12; refine awp_keep [0, 1, 2, 3, 4, 5, 6, 7, 8, 9, 10, 18, 29] ?_; simp only [keepEnv, lkp, zE, reduceCtorEq, reduceEqDiff, argEnv, reduceAdd]
      refine awp_ret ?_
      refine ⟨by first | exact .inl rfl | exact .inr rfl, _, rfl, ?_⟩; simp only [fzV, fz1, fzC, List.map_cons, List.map_nil, keepEnv, lkp, zE, reduceCtorEq, reduceEqDiff, argEnv, reduceAdd, Mly.av]
      unfold stpL stpB
      first
      | (rw [if_neg ‹¬chkE m cl = 0›, if_neg ‹¬chkE m cl = 0›]; exact vle_tup ⟨vle1_one (cle_nils rfl), vle1_one (.refl _), vle1_one (.refl _), trivial⟩)
      | (rw [if_pos ‹chkE m cl = 0›, if_pos ‹chkE m cl = 0›, ‹chkE m cl = 0›, hfs]; exact VLE.of_eq rfl)
      | (rw [if_pos ‹chkE m cl = 0›, if_pos ‹chkE m cl = 0›, ‹chkE m cl = 0›, hfn]; exact VLE.of_eq rfl)
    · (try simp only [zB, reduceCtorEq] at hc11)
      have hfs : finI m cl = some p := hpt (by simpa using hc11)
      refine awp_skip ?_
      refine hK9 _ ?_; clear hK9; refine awp_keep [0, 1, 2, 3, 4, 5, 6, 7, 8, 9, 10, 18, 29] ?_; simp only [keepEnv, lkp, zE, reduceCtorEq, reduceEqDiff, argEnv, reduceAdd]
      refine awp_seq_k fun K13 hK13 => ?_
      refine awp_share 1 (.list (.int .i64)) rfl rfl ?_; simp only [List.map_cons, List.map_nil, shV, if_true, zS, if_false, eq_self, reduceEqDiff, reduceCtorEq, Nat.one_ne_zero, Nat.zero_ne_one]
      refine awp_share 2 (.pair (.pair (.int .i64) (.pair (.int .i64) (.pair (.list (.list (.int .i64))) (.pair (.list (.list (.int .i64))) .unit)))) (.pair (.list (.int .i64)) (.pair (.list (.list (.int .i64))) (.pair (.list (.int .i64)) .unit)))) rfl rfl ?_; simp only [List.map_cons, List.map_nil, shV, if_true, zS, if_false, eq_self, reduceEqDiff, reduceCtorEq, Nat.one_ne_zero, Nat.zero_ne_one]
      refine awp_share 3 (.pair (.int .i64) (.pair (.int .i64) (.pair (.int .i64) .unit))) rfl rfl ?_; simp only [List.map_cons, List.map_nil, shV, if_true, zS, if_false, eq_self, reduceEqDiff, reduceCtorEq, Nat.one_ne_zero, Nat.zero_ne_one]
      have hk := cok_of (m := m) (cl := cl) (by assumption); have hlen := hk.len; have hi1 := hk.ok.i1; have hi2 := hk.ok.i2; have hin : m.inp = ((m.inp.toNat : Nat) : Int) := by omega
      have hps := finI_spec hfs
      refine awp_reg hP hN rfl ?_
      iterate 2 (refine rg_step rfl fun K0 hK0 => ?_; simp only [zE, op1, ev, lkp, avOf, acOf, opMakeFunc, ptrsOf, capOf, reduceCtorEq, reduceEqDiff, reduceAdd, reduceLeDiff, reduceLT, reduceMul, reduceSub, Try.td70, Mly.av]; (repeat refine And.intro (by first | omega | assumption | exact rfl) ?_); (first | refine hK0 _ ?_ | refine Or.inl (hK0 _ ?_)); clear hK0 K0; simp only [put, app, setAll, trOf, zE, zS, reduceAdd])
      refine rg_nil ?_
      refine hK13 _ ?_; clear hK13; refine awp_keep [0, 1, 2, 3, 4, 5, 6, 7, 8, 9, 10, 11, 18, 29] ?_; simp only [keepEnv, lkp, zE, reduceCtorEq, reduceEqDiff, argEnv, reduceAdd]
      refine awp_seq_k fun K14 hK14 => ?_
      refine awp_reg hP hN rfl ?_
      iterate 3 (refine rg_step rfl fun K0 hK0 => ?_; simp only [zE, op1, ev, lkp, avOf, acOf, opFieldAddr, opLoad, Nat.mul_one, readAC, isAggK, acs, Ty.dflt, zG, cellsAt, reduceCtorEq, reduceEqDiff, reduceAdd, reduceLeDiff, reduceLT, reduceMul, reduceSub, Try.st24, Try.td24, Try.td3, Try.td70, Mly.av]; (repeat refine And.intro (by first | omega | assumption | exact rfl) ?_); (first | refine hK0 _ ?_ | refine Or.inl (hK0 _ ?_)); clear hK0 K0; simp only [put, app, setAll, trOf, zE, zS, reduceAdd])
      refine rg_step rfl fun K0 hK0 => ?_
      refine op_call (h := call_of_pure (numK_c m m.inp.toNat 33 [⟨.list (.int .i64), cl⟩, ⟨(.pair (.int .i64) (.pair (.int .i64) (.pair (.int .i64) .unit))), ((p.1 : Int), ((p.2.1 : Int), ((p.2.2 : Int), ())))⟩, ⟨(.pair (.pair (.int .i64) (.pair (.int .i64) (.pair (.list (.list (.int .i64))) (.pair (.list (.list (.int .i64))) .unit)))) (.pair (.list (.int .i64)) (.pair (.list (.list (.int .i64))) (.pair (.list (.int .i64)) .unit)))), ((m.inp, (m.st, (m.nx, (m.ot, ())))), (fstX m.exR, (sndX m.exR, (m.eqc, ()))))⟩] (spl m cl p) (by omega) hin (fun d c hd hc => split_c m cl p d c hk hps.1 (by omega) (by omega)))) rfl rfl (by first | exact rfl | (simp only [ev, keepEnv, lkp, zE, reduceCtorEq, reduceEqDiff, argEnv, reduceAdd]; exact rfl)) (by simp only [zE, zG, op1, ev, lkp, avOf, acOf, cellsAV, acs, capAV, mv1, mvC, Ty.dflt, reduceCtorEq, reduceEqDiff, reduceAdd, reduceLeDiff, reduceLT, reduceMul, reduceSub, Mly.av]) ?_
      refine hK0 _ ?_; clear hK0 K0; simp only [put, app, setAll, trOf, zE, zS, reduceAdd]
      iterate 5 (refine rg_step rfl fun K0 hK0 => ?_; simp only [zE, op1, ev, lkp, avOf, acOf, opExtract, reduceCtorEq, reduceEqDiff, reduceAdd, reduceLeDiff, reduceLT, reduceMul, reduceSub, Try.el25, Try.td1, Try.td25, Try.td3, Mly.av]; (repeat refine And.intro (by first | omega | assumption | exact rfl) ?_); (first | refine hK0 _ ?_ | refine Or.inl (hK0 _ ?_)); clear hK0 K0; simp only [put, app, setAll, trOf, zE, zS, reduceAdd])
      refine rg_nil ?_
      refine hK14 _ ?_; clear hK14; refine awp_keep [0, 1, 2, 3, 4, 5, 6, 7, 8, 9, 10, 11, 12, 18, 29] ?_; simp only [keepEnv, lkp, zE, reduceCtorEq, reduceEqDiff, argEnv, reduceAdd]
      refine awp_seq_k fun K15 hK15 => ?_
      refine awp_reg hP hN rfl ?_
      iterate 4 (refine rg_step rfl fun K0 hK0 => ?_; simp only [zE, op1, ev, lkp, avOf, acOf, ev, reduceCtorEq, reduceEqDiff, reduceAdd, reduceLeDiff, reduceLT, reduceMul, reduceSub, Try.el25, Try.td25, Try.td28, Try.td4, Mly.av]; (repeat refine And.intro (by first | omega | assumption | exact rfl) ?_); (first | refine hK0 _ ?_ | refine Or.inl (hK0 _ ?_)); clear hK0 K0; simp only [put, app, setAll, trOf, zE, zS, reduceAdd])
      refine rg_nil ?_
      refine hK15 _ ?_; clear hK15; refine awp_keep [0, 1, 2, 3, 4, 5, 6, 7, 8, 9, 10, 11, 12, 18, 29] ?_; simp only [keepEnv, lkp, zE, reduceCtorEq, reduceEqDiff, argEnv, reduceAdd]
      refine awp_ret ?_
      refine ⟨by first | exact .inl rfl | exact .inr rfl, _, rfl, ?_⟩; simp only [fzV, fz1, fzC, List.map_cons, List.map_nil, keepEnv, lkp, zE, reduceCtorEq, reduceEqDiff, argEnv, reduceAdd, Mly.av]
      unfold stpL stpB
      first
      | (rw [if_neg ‹¬chkE m cl = 0›, if_neg ‹¬chkE m cl = 0›]; exact vle_tup ⟨vle1_one (cle_nils rfl), vle1_one (.refl _), vle1_one (.refl _), trivial⟩)
      | (rw [if_pos ‹chkE m cl = 0›, if_pos ‹chkE m cl = 0›, ‹chkE m cl = 0›, hfs]; exact VLE.of_eq rfl)
      | (rw [if_pos ‹chkE m cl = 0›, if_pos ‹chkE m cl = 0›, ‹chkE m cl = 0›, hfn]; exact VLE.of_eq rfl)
end Go.Proofs.Ytceafldjjedhcaa
namespace Go.Proofs.Ytceafldjjedhcaa
open Go Go.AV
open Nat (reduceEqDiff reduceAdd reduceLeDiff reduceLT reduceMul reduceSub)
open List (set_cons_zero set_cons_succ)
theorem evS1 : PURE Try.prog 14 [gateM.av, .one (.list (.int .i64) [0, 0])] (.tup [.one (.list (.int .i64) [0, 1]), .one (.bool true), .one (.int .i64 0)]) := by
  have h := step_c2 gateM [0, 0]
  rw [show stpL gateM [0, 0] = [0, 1] by decide +kernel, show stpB gateM [0, 0] = true by decide +kernel, show chkE gateM [0, 0] = 0 by decide +kernel] at h
  exact h

end Go.Proofs.Ytceafldjjedhcaa
namespace Go.Proofs.Ytceafldjjedhcaa
open Go Go.AV
open Nat (reduceEqDiff reduceAdd reduceLeDiff reduceLT reduceMul reduceSub)
open List (set_cons_zero set_cons_succ)
theorem evS2 : PURE Try.prog 14 [gateM.av, .one (.list (.int .i64) [0, 1])] (.tup [.one (.list (.int .i64) [0, 1]), .one (.bool false), .one (.int .i64 0)]) := by
  have h := step_c2 gateM [0, 1]
  rw [show stpL gateM [0, 1] = [0, 1] by decide +kernel, show stpB gateM [0, 1] = false by decide +kernel, show chkE gateM [0, 1] = 0 by decide +kernel] at h
  exact h

end Go.Proofs.Ytceafldjjedhcaa
namespace Go.AV
open Nat (reduceEqDiff reduceAdd reduceLeDiff reduceLT reduceMul reduceSub)
open List (set_cons_zero set_cons_succ)
/-plain-/
theorem getD_mapE {α β : Type} {f : α → β} {l : List α} {i : Nat} (d : α) (e : β) (h : i < l.length) : (l.map f).getD i e = f (l.getD i d) := by simp [List.getD, h]
theorem inS_take {l : List S3} {q : Nat} {p r : Int} (h : q < l.length) : inS (l.take (q + 1)) p r = (inS (l.take q) p r || (decide ((l.getD q eS0).1 = p) && decide ((l.getD q eS0).2.1 = r))) := by
  have e : l.take (q + 1) = l.take q ++ [l.getD q eS0] := by rw [List.take_add_one, List.getElem?_eq_getElem h]; simp [List.getD, h]
  rw [e]
  unfold inS
  rw [List.any_append]
  simp only [List.any_cons, List.any_nil, Bool.or_false]
/-- The separating word of two states. -/
def stOkP (m : Mly) (s t : Int) : Prop := validE m = 0 ∧ (0 ≤ s ∧ s < m.nx.length) ∧ 0 ≤ t ∧ t < m.nx.length
instance (m : Mly) (s t : Int) : Decidable (stOkP m s t) := by unfold stOkP; exact inferInstance
def stW (m : Mly) (s t : Int) : Option (List Int) := if validE m = 0 ∧ (0 ≤ s ∧ s < m.nx.length) ∧ 0 ≤ t ∧ t < m.nx.length then seS m m s t else none
def stE (m : Mly) (s t : Int) : Int := if validE m = 0 then if (0 ≤ s ∧ s < m.nx.length) ∧ 0 ≤ t ∧ t < m.nx.length then 0 else 2 else validE m
theorem getD_memS {l : List S3} {i : Nat} (h : i < l.length) : l.getD i eS0 ∈ l := by simp [List.getD, h]
end Go.AV
namespace Go.AV
open Nat (reduceEqDiff reduceAdd reduceLeDiff reduceLT reduceMul reduceSub)
open List (set_cons_zero set_cons_succ)
/-plain-/
/-- Which second states were seen with a first one. -/
def snS (l : List S3) (m s : Nat) : List Bool := (List.range m).map fun (t : Nat) => inS l (s : Int) (t : Int)
theorem snS_len (l : List S3) (m s : Nat) : (snS l m s).length = m := by simp [snS]
theorem snS_at {l : List S3} {m : Nat} {p q : Int} (hp : 0 ≤ p) (hq : 0 ≤ q ∧ q < m) : (snS l m p.toNat).getD q.toNat false = inS l p q := by
  have : q.toNat < m := by omega
  unfold snS
  rw [mr_getD _ _ this, Int.toNat_of_nonneg hp, Int.toNat_of_nonneg hq.1]
theorem snS_set {l : List S3} {m : Nat} {p q : Int} {w : List Int} (hp : 0 ≤ p) (hq : 0 ≤ q ∧ q < m) : snS (l ++ [(p, q, w)]) m p.toNat = (snS l m p.toNat).set q.toNat true := by
  apply List.ext_getElem
  · simp [snS]
  · intro i h1 h2
    simp only [snS, List.getElem_set, List.getElem_map, List.getElem_range, inS, List.any_append, List.any_cons, List.any_nil, Bool.or_false]
    by_cases e : q.toNat = i
    · rw [if_pos e]
      have : q = (i : Int) := by omega
      simp [this, Int.toNat_of_nonneg hp]
    · rw [if_neg e]
      have : ¬ q = (i : Int) := by omega
      simp [this]
theorem snS_other {l : List S3} {m j : Nat} {p q : Int} {w : List Int} (hp : 0 ≤ p) (hj : j ≠ p.toNat) : snS (l ++ [(p, q, w)]) m j = snS l m j := by
  unfold snS
  refine List.map_congr_left fun t _ => ?_
  have : ¬ p = (j : Int) := by omega
  simp [inS, List.any_append, this]
theorem snS_nil (m s : Nat) : List.replicate m false = snS [] m s := by
  apply List.ext_getElem <;> simp [snS, inS]
end Go.AV
namespace Go.AV
open Nat (reduceEqDiff reduceAdd reduceLeDiff reduceLT reduceMul reduceSub)
open List (set_cons_zero set_cons_succ)
/-plain-/
theorem writeAC_one {cs : List AC} {off : Nat} {c : AC} (h : off < cs.length) : writeAC cs off [c] = cs.set off c := by
  unfold writeAC
  rw [List.set_eq_take_append_cons_drop, if_pos h]
  simp
end Go.AV
namespace Go.Proofs.Ytceafldjjedhcaa
open Go Go.AV
open Nat (reduceEqDiff reduceAdd reduceLeDiff reduceLT reduceMul reduceSub)
open List (set_cons_zero set_cons_succ)
set_option maxRecDepth 100000 in
set_option maxHeartbeats 1000000 in
theorem search_c (a b : Mly) (s t : Int) (ha : MOK a) (hb : MOK b) (hi : a.inp = b.inp) (hs : 0 ≤ s ∧ s < a.nx.length) (ht : 0 ≤ t ∧ t < b.nx.length) : PURE Try.prog 52 [a.av, b.av, .agg [.int .i64 s, .int .i64 t]] (.tup [.one (.list (.int .i64) ((seS a b s t).getD [])), .one (.bool (seS a b s t).isSome)]) := by
  have hai1 := ha.i1; have hai2 := ha.i2; have han2 := ha.n2; have hbn2 := hb.n2; have hao := ha.ol; have hbo := hb.ol; have hfu : fuS a b = a.nx.length * b.nx.length + 1 := rfl
  refine pure_of_le Try.func52 rfl (by kernel_rfl) (Nat.le_of_ble_eq_true rfl) rfl fun C hP hN hB => ?_
  replace hN : C.N = 144 := hN
  simp only [argEnv, reduceAdd]
  refine awp_seq_k fun K1 hK1 => ?_
  refine awp_reg hP hN rfl ?_
  iterate 5 (refine rg_step rfl fun K0 hK0 => ?_; simp only [zE, op1, ev, lkp, avOf, acOf, opBox, cellsAV, reduceCtorEq, reduceEqDiff, reduceAdd, reduceLeDiff, reduceLT, reduceMul, reduceSub, Try.el25, Try.fl89, Try.st24, Try.st89, Try.td24, Try.td25, Try.td4, Try.td89, Mly.av, List.length_map, gRows_len, gRows_nth, gRows_nth1, gRows_nth2, List.length_append, gcs_len, rep_one, List.length_replicate, List.getD_cons_zero]; (repeat refine And.intro (by first | omega | assumption | exact rfl) ?_); (first | refine hK0 _ ?_ | refine Or.inl (hK0 _ ?_)); clear hK0 K0; simp only [put, app, setAll, trOf, zE, zS, reduceAdd, List.append_assoc, gRows_setn, gRows_setn1, gRows_setn2])
  refine rg_nil ?_
  refine hK1 _ ?_; clear hK1; refine awp_keep [0, 1, 2, 3, 4, 5, 6, 7] ?_; simp only [keepEnv, lkp, zE, reduceCtorEq, reduceEqDiff, argEnv, reduceAdd]
  refine awp_seq_k fun K2 hK2 => ?_
  refine awp_reg hP hN rfl ?_
  iterate 3 (refine rg_step rfl fun K0 hK0 => ?_; simp only [zE, op1, ev, lkp, avOf, acOf, opFieldAddr, opLoad, Nat.mul_one, readAC, isAggK, acs, Ty.dflt, zG, cellsAt, opCallAny, opMM, opLen, lenAC, lenOk, fpAC, Nat.div_one, opAppend, srcOf, Ty.size, datOf, dite_true, reduceCtorEq, reduceEqDiff, reduceAdd, reduceLeDiff, reduceLT, reduceMul, reduceSub, Try.el22, Try.st24, Try.td2, Try.td22, Try.td24, Try.td3, Mly.av, List.length_map, gRows_len, gRows_nth, gRows_nth1, gRows_nth2, List.length_append, gcs_len, rep_one, List.length_replicate, List.getD_cons_zero]; (repeat refine And.intro (by first | omega | assumption | exact rfl) ?_); (first | refine hK0 _ ?_ | refine Or.inl (hK0 _ ?_)); clear hK0 K0; simp only [put, app, setAll, trOf, zE, zS, reduceAdd, List.append_assoc, gRows_setn, gRows_setn1, gRows_setn2])
  (refine rg_step rfl fun K0 hK0 => ?_; simp only [zE, op1, ev, lkp, avOf, acOf, opMakeSlice, datOf, Ty.size, Ty.dflt, reduceCtorEq, reduceEqDiff, reduceAdd, reduceLeDiff, reduceLT, reduceMul, reduceSub, Try.el99, Try.td99, Mly.av, List.length_map, gRows_len, gRows_nth, gRows_nth1, gRows_nth2, List.length_append, gcs_len, rep_one, List.length_replicate, List.getD_cons_zero]; (repeat refine And.intro (by first | omega | assumption | exact rfl) ?_); refine Or.inr (Or.inl (hK0 _ ?_)); clear hK0 K0; simp only [put, app, setAll, trOf, zE, zS, reduceAdd, List.append_assoc, gRows_setn, gRows_setn1, gRows_setn2])
  (refine rg_step rfl fun K0 hK0 => ?_; simp only [zE, op1, ev, lkp, avOf, acOf, ev, reduceCtorEq, reduceEqDiff, reduceAdd, reduceLeDiff, reduceLT, reduceMul, reduceSub, Try.el99, Try.td99, Mly.av, List.length_map, gRows_len, gRows_nth, gRows_nth1, gRows_nth2, List.length_append, gcs_len, rep_one, List.length_replicate, List.getD_cons_zero]; (repeat refine And.intro (by first | omega | assumption | exact rfl) ?_); (first | refine hK0 _ ?_ | refine Or.inl (hK0 _ ?_)); clear hK0 K0; simp only [put, app, setAll, trOf, zE, zS, reduceAdd, List.append_assoc, gRows_setn, gRows_setn1, gRows_setn2])
  refine rg_nil ?_
  refine hK2 _ ?_; clear hK2; refine awp_keep [0, 1, 2, 3, 4, 5, 6, 7, 8] ?_; simp only [keepEnv, lkp, zE, reduceCtorEq, reduceEqDiff, argEnv, reduceAdd]
  refine awp_seq_k fun K3 hK3 => ?_
  refine awp_seq_k fun K4 hK4 => ?_
  refine awp_reg hP hN rfl ?_
  iterate 3 (refine rg_step rfl fun K0 hK0 => ?_; simp only [zE, op1, ev, lkp, avOf, acOf, opCallAny, opMM, opLen, lenAC, lenOk, fpAC, Nat.div_one, opAppend, srcOf, Ty.size, datOf, dite_true, reduceCtorEq, reduceEqDiff, reduceAdd, reduceLeDiff, reduceLT, reduceMul, reduceSub, Try.el99, Try.td3, Try.td99, Mly.av, List.length_map, gRows_len, gRows_nth, gRows_nth1, gRows_nth2, List.length_append, gcs_len, rep_one, List.length_replicate, List.getD_cons_zero]; (repeat refine And.intro (by first | omega | assumption | exact rfl) ?_); (first | refine hK0 _ ?_ | refine Or.inl (hK0 _ ?_)); clear hK0 K0; simp only [put, app, setAll, trOf, zE, zS, reduceAdd, List.append_assoc, gRows_setn, gRows_setn1, gRows_setn2])
  refine rg_nil ?_
  refine hK4 _ ?_; clear hK4; refine awp_keep [0, 1, 2, 3, 4, 5, 6, 7, 8, 20, 21] ?_; simp only [keepEnv, lkp, zE, reduceCtorEq, reduceEqDiff, argEnv, reduceAdd]
  refine awp_block ?_
  refine awp_loop (fun n5 s5 => ∃ (k : Nat), (k ≤ a.nx.length) ∧ n5 = a.nx.length - k ∧ s5 = { env := [(3, .one (.ptr 0 0 0 0)), (4, .one (.ptr 1 0 0 0)), (5, .one (.ptr 2 0 0 0)), (8, .one (.rwc 3 0)), (20, .one (.int .i64 (a.nx.length : Int))), (21, .one (.int .i64 (k : Int)))], L := .vars 24 [.int .i64 a.inp, .int .i64 a.st, .list (.list (.int .i64)) a.nx, .list (.list (.int .i64)) a.ot] :: .vars 24 [.int .i64 b.inp, .int .i64 b.st, .list (.list (.int .i64)) b.nx, .list (.list (.int .i64)) b.ot] :: .vars 89 [.int .i64 s, .int .i64 t] :: .rowc 100 1 0 (setF (fun i => AC.row (i + 1 + 1 + 1 + 1) 0) .nils a.nx.length k) :: gRows 4 (fun _ => List.replicate b.nx.length false) k }) ?_ ?_
  · refine ⟨_, _, sub_keep [3, 4, 5, 8, 20, 21], 0, Nat.zero_le _, rfl, ?_⟩
    rw [setF_zero, ← rep_one]; rfl
  · rintro n5 s5 ⟨k, hk, rfl, rfl⟩
    refine awp_seq_k fun K6 hK6 => ?_
    refine awp_reg hP hN rfl ?_
    (refine rg_step rfl fun K0 hK0 => ?_; simp only [zE, op1, ev, lkp, avOf, acOf, opBin, arith, inK_i64, eqACs, eqAC, reduceCtorEq, reduceEqDiff, reduceAdd, reduceLeDiff, reduceLT, reduceMul, reduceSub, Try.td3, Mly.av, List.length_map, gRows_len, gRows_nth, gRows_nth1, gRows_nth2, List.length_append, gcs_len, rep_one, List.length_replicate, List.getD_cons_zero]; (repeat refine And.intro (by first | omega | assumption | exact rfl) ?_); (first | refine hK0 _ ?_ | refine Or.inl (hK0 _ ?_)); clear hK0 K0; simp only [put, app, setAll, trOf, zE, zS, reduceAdd, List.append_assoc, gRows_setn, gRows_setn1, gRows_setn2])
    refine rg_nil ?_
    refine hK6 _ ?_; clear hK6; refine awp_keep [3, 4, 5, 8, 20, 21, 22] ?_; simp only [keepEnv, lkp, zE, reduceCtorEq, reduceEqDiff, argEnv, reduceAdd]
    refine awp_seq_k fun K7 hK7 => ?_
    refine awp_cond (by simp only [ev, keepEnv, lkp, zE, reduceCtorEq, reduceEqDiff, argEnv, reduceAdd]; exact rfl) (fun hc8 => ?_) (fun hc8 => ?_)
    · (try simp only [zB, reduceCtorEq] at hc8)
      refine awp_skip ?_
      refine hK7 _ ?_; clear hK7; refine awp_keep [3, 4, 5, 8, 20, 21, 22] ?_; simp only [keepEnv, lkp, zE, reduceCtorEq, reduceEqDiff, argEnv, reduceAdd]
      refine awp_seq_k fun K9 hK9 => ?_
      refine awp_block ?_
      refine awp_seq_k fun K10 hK10 => ?_
      refine awp_reg hP hN rfl ?_
      iterate 2 (refine rg_step rfl fun K0 hK0 => ?_; simp only [zE, op1, ev, lkp, avOf, acOf, ev, reduceCtorEq, reduceEqDiff, reduceAdd, reduceLeDiff, reduceLT, reduceMul, reduceSub, Try.td3, Mly.av, List.length_map, gRows_len, gRows_nth, gRows_nth1, gRows_nth2, List.length_append, gcs_len, rep_one, List.length_replicate, List.getD_cons_zero]; (repeat refine And.intro (by first | omega | assumption | exact rfl) ?_); (first | refine hK0 _ ?_ | refine Or.inl (hK0 _ ?_)); clear hK0 K0; simp only [put, app, setAll, trOf, zE, zS, reduceAdd, List.append_assoc, gRows_setn, gRows_setn1, gRows_setn2])
      refine rg_nil ?_
      refine hK10 _ ?_; clear hK10; refine awp_keep [3, 4, 5, 8, 9, 20, 21, 22] ?_; simp only [keepEnv, lkp, zE, reduceCtorEq, reduceEqDiff, argEnv, reduceAdd]
      have hsf := setF_len (fun i => AC.row (i + 1 + 1 + 1 + 1) 0) .nils (n := a.nx.length) (k := k) (by omega); have hw : ∀ c, writeAC (setF (fun i => AC.row (i + 1 + 1 + 1 + 1) 0) .nils a.nx.length k) k [c] = (setF (fun i => AC.row (i + 1 + 1 + 1 + 1) 0) .nils a.nx.length k).set k c := fun c => writeAC_one (by omega)
      refine awp_reg hP hN rfl ?_
      iterate 8 (refine rg_step rfl fun K0 hK0 => ?_; simp only [zE, op1, ev, lkp, avOf, acOf, opFieldAddr, opLoad, Nat.mul_one, readAC, isAggK, acs, Ty.dflt, zG, cellsAt, opCallAny, opMM, opLen, lenAC, lenOk, fpAC, Nat.div_one, opAppend, srcOf, Ty.size, datOf, dite_true, opMakeSlice, opIndexAddr, ne_eq, not_false_eq_true, Int.natCast_one, Int.mul_one, opStore, cellsAV, reduceCtorEq, reduceEqDiff, reduceAdd, reduceLeDiff, reduceLT, reduceMul, reduceSub, Try.el100, Try.el22, Try.el99, Try.st24, Try.td100, Try.td2, Try.td22, Try.td24, Try.td3, Try.td99, Mly.av, List.length_map, gRows_len, gRows_nth, gRows_nth1, gRows_nth2, List.length_append, gcs_len, rep_one, List.length_replicate, List.getD_cons_zero, hsf, hw]; (repeat refine And.intro (by first | omega | assumption | exact rfl) ?_); (first | refine hK0 _ ?_ | refine Or.inl (hK0 _ ?_)); clear hK0 K0; simp only [put, app, setAll, trOf, zE, zS, reduceAdd, List.append_assoc, gRows_setn, gRows_setn1, gRows_setn2])
      refine rg_nil ?_
      refine hK9 _ ?_; clear hK9; refine awp_keep [3, 4, 5, 8, 9, 20, 21, 22] ?_; simp only [keepEnv, lkp, zE, reduceCtorEq, reduceEqDiff, argEnv, reduceAdd]
      refine awp_reg hP hN rfl ?_
      iterate 2 (refine rg_step rfl fun K0 hK0 => ?_; simp only [zE, op1, ev, lkp, avOf, acOf, opBin, arith, inK_i64, eqACs, eqAC, reduceCtorEq, reduceEqDiff, reduceAdd, reduceLeDiff, reduceLT, reduceMul, reduceSub, Try.td3, Mly.av, List.length_map, gRows_len, gRows_nth, gRows_nth1, gRows_nth2, List.length_append, gcs_len, rep_one, List.length_replicate, List.getD_cons_zero]; (repeat refine And.intro (by first | omega | assumption | exact rfl) ?_); (first | refine hK0 _ ?_ | refine Or.inl (hK0 _ ?_)); clear hK0 K0; simp only [put, app, setAll, trOf, zE, zS, reduceAdd, List.append_assoc, gRows_setn, gRows_setn1, gRows_setn2])
      refine rg_nil ?_
      refine ⟨_, _, ?_, sub_keep [3, 4, 5, 8, 20, 21], k + 1, by omega, rfl, ?_⟩
      · omega
      · rw [← setF_set _ _ (by omega), gRows_succ]; rfl
    · (try simp only [zB, reduceCtorEq] at hc8)
      refine awp_exit ?_
      refine hK3 _ ?_; clear hK3; refine awp_keep [3, 4, 5, 8, 20, 21, 22] ?_; simp only [keepEnv, lkp, zE, reduceCtorEq, reduceEqDiff, argEnv, reduceAdd]
      refine awp_seq_k fun K11 hK11 => ?_
      have hkn : k = a.nx.length := by omega
      subst hkn
      rw [setF_all]
      have hg0 := gcs_get (n := a.nx.length) (i := s.toNat) (by omega); have hr0 := gRows_get' (e := 4) (f := fun _ => List.replicate b.nx.length false) (n := a.nx.length) (i := s.toNat) (by omega)
      have hst : (gRows 4 (fun _ => List.replicate b.nx.length false) a.nx.length).set s.toNat (.row .bool 4 0 ((List.replicate b.nx.length false).set t.toNat true)) = gRows 4 (snS [(s, t, [])] b.nx.length) a.nx.length := gRows_seti' (by omega) (by rw [snS_nil b.nx.length s.toNat]; exact snS_set (l := []) hs.1 ht) (fun j hj hne => by rw [snS_nil b.nx.length j]; exact snS_other (l := []) hs.1 hne)
      rw [show (List.range a.nx.length).map (fun i => AC.row (i + 1 + 1 + 1 + 1) 0) = gcs a.nx.length from rfl]
      refine awp_drw hP hN Try.mixed rfl ?_
      iterate 9 (refine rg_step rfl fun K0 hK0 => ?_; simp only [zE, op1, ev, lkp, avOf, acOf, opFieldAddr, opLoad, Nat.mul_one, readAC, isAggK, acs, Ty.dflt, zG, cellsAt, opIndexAddr, Ty.size, ne_eq, not_false_eq_true, Int.natCast_one, Int.mul_one, opStore, cellsAV, writeAC, datOf, reduceCtorEq, reduceEqDiff, reduceAdd, reduceLeDiff, reduceLT, reduceMul, reduceSub, Try.el100, Try.el99, Try.fl89, Try.st89, Try.td1, Try.td100, Try.td3, Try.td4, Try.td89, Try.td99, Mly.av, List.length_map, gRows_len, gRows_nth, gRows_nth1, gRows_nth2, List.length_append, gcs_len, rep_one, List.length_replicate, List.getD_cons_zero, hg0, hr0, List.length_replicate]; (repeat refine And.intro (by first | omega | assumption | exact rfl) ?_); (first | refine hK0 _ ?_ | refine Or.inl (hK0 _ ?_)); clear hK0 K0; simp only [put, app, setAll, trOf, zE, zS, reduceAdd, List.append_assoc, gRows_setn, gRows_setn1, gRows_setn2, hst])
      refine rg_nil ?_
      refine ⟨by kernel_rfl, ?_⟩
      refine hK11 _ ?_; clear hK11; refine awp_keep [3, 4, 5, 8, 20, 21, 22] ?_; simp only [keepEnv, lkp, zE, reduceCtorEq, reduceEqDiff, argEnv, reduceAdd]
      refine awp_seq_k fun K12 hK12 => ?_
      refine awp_reg hP hN rfl ?_
      iterate 2 (refine rg_step rfl fun K0 hK0 => ?_; simp only [zE, op1, ev, lkp, avOf, acOf, opLoad, Nat.mul_one, readAC, isAggK, acs, Ty.dflt, zG, cellsAt, opBuild, fillAC, writeAC, cellsAV, reduceCtorEq, reduceEqDiff, reduceAdd, reduceLeDiff, reduceLT, reduceMul, reduceSub, Try.fl89, Try.st102, Try.st89, Try.td102, Try.td89, Mly.av, List.length_map, gRows_len, gRows_nth, gRows_nth1, gRows_nth2, List.length_append, gcs_len, rep_one, List.length_replicate, List.getD_cons_zero]; (repeat refine And.intro (by first | omega | assumption | exact rfl) ?_); (first | refine hK0 _ ?_ | refine Or.inl (hK0 _ ?_)); clear hK0 K0; simp only [put, app, setAll, trOf, zE, zS, reduceAdd, List.append_assoc, gRows_setn, gRows_setn1, gRows_setn2])
      (refine rg_step rfl fun K0 hK0 => ?_; simp only [zE, op1, ev, lkp, avOf, acOf, opBuildSlice, fillAC, chunk, rep, datOf, writeAC, cellsAV, Ty.size, reduceCtorEq, reduceEqDiff, reduceAdd, reduceLeDiff, reduceLT, reduceMul, reduceSub, Try.el103, Try.td1, Try.td103, Mly.av, List.length_map, gRows_len, gRows_nth, gRows_nth1, gRows_nth2, List.length_append, gcs_len, rep_one, List.length_replicate, List.getD_cons_zero]; (repeat refine And.intro (by first | omega | assumption | exact rfl) ?_); refine Or.inr (hK0 _ ?_); clear hK0 K0; simp only [put, app, setAll, trOf, zE, zS, reduceAdd, List.append_assoc, gRows_setn, gRows_setn1, gRows_setn2])
      (refine rg_step rfl fun K0 hK0 => ?_; simp only [zE, op1, ev, lkp, avOf, acOf, ev, reduceCtorEq, reduceEqDiff, reduceAdd, reduceLeDiff, reduceLT, reduceMul, reduceSub, Try.el103, Try.td103, Mly.av, List.length_map, gRows_len, gRows_nth, gRows_nth1, gRows_nth2, List.length_append, gcs_len, rep_one, List.length_replicate, List.getD_cons_zero]; (repeat refine And.intro (by first | omega | assumption | exact rfl) ?_); (first | refine hK0 _ ?_ | refine Or.inl (hK0 _ ?_)); clear hK0 K0; simp only [put, app, setAll, trOf, zE, zS, reduceAdd, List.append_assoc, gRows_setn, gRows_setn1, gRows_setn2])
      refine rg_nil ?_
      refine hK12 _ ?_; clear hK12; refine awp_keep [3, 4, 5, 8, 10, 20, 21, 22] ?_; simp only [keepEnv, lkp, zE, reduceCtorEq, reduceEqDiff, argEnv, reduceAdd]
      refine awp_seq_k fun K13 hK13 => ?_
      refine awp_seq_k fun K14 hK14 => ?_
      refine awp_reg hP hN rfl ?_
      (refine rg_step rfl fun K0 hK0 => ?_; simp only [zE, op1, ev, lkp, avOf, acOf, ev, reduceCtorEq, reduceEqDiff, reduceAdd, reduceLeDiff, reduceLT, reduceMul, reduceSub, Try.td3, Mly.av, List.length_map, gRows_len, gRows_nth, gRows_nth1, gRows_nth2, List.length_append, gcs_len, rep_one, List.length_replicate, List.getD_cons_zero]; (repeat refine And.intro (by first | omega | assumption | exact rfl) ?_); (first | refine hK0 _ ?_ | refine Or.inl (hK0 _ ?_)); clear hK0 K0; simp only [put, app, setAll, trOf, zE, zS, reduceAdd, List.append_assoc, gRows_setn, gRows_setn1, gRows_setn2])
      refine rg_nil ?_
      refine hK14 _ ?_; clear hK14; refine awp_keep [3, 4, 5, 8, 10, 11, 20, 21, 22] ?_; simp only [keepEnv, lkp, zE, reduceCtorEq, reduceEqDiff, argEnv, reduceAdd]
      refine awp_block ?_
      refine awp_loop (fun n15 s15 => ∃ (i : Nat) (l : List S3) (v : Nat), (WFS a b l) ∧ (srS a b (fuS a b - i) i l = seS a b s t) ∧ (i ≤ l.length) ∧ n15 = fuS a b - i ∧ s15 = { env := [(3, .one (.ptr 0 0 0 0)), (4, .one (.ptr 1 0 0 0)), (8, .one (.rwc 3 0)), (10, .one (.row (a.nx.length + 1 + 1 + 1 + 1) v)), (11, .one (.int .i64 (i : Int)))], L := .vars 24 [.int .i64 a.inp, .int .i64 a.st, .list (.list (.int .i64)) a.nx, .list (.list (.int .i64)) a.ot] :: .vars 24 [.int .i64 b.inp, .int .i64 b.st, .list (.list (.int .i64)) b.nx, .list (.list (.int .i64)) b.ot] :: .vars 89 [.int .i64 s, .int .i64 t] :: .rowc 100 1 0 (gcs a.nx.length) :: (gRows 4 (snS l b.nx.length) a.nx.length ++ [.row (.pair (.pair (.int .i64) (.pair (.int .i64) (.unit))) (.pair (.list (.int .i64)) (.unit))) 102 v (List.map encP l)]) }) ?_ ?_
      · refine ⟨_, _, sub_keep [3, 4, 8, 10, 11], 0, [(s, t, [])], 0, wfs_one hs ht, rfl, Nat.zero_le _, rfl, rfl⟩
      · rintro n15 s15 ⟨i, l, v, hwf, hsr, hil0, rfl, rfl⟩
        refine awp_seq_k fun K16 hK16 => ?_
        refine awp_seq_k fun K17 hK17 => ?_
        refine awp_reg hP hN rfl ?_
        iterate 4 (refine rg_step rfl fun K0 hK0 => ?_; simp only [zE, op1, ev, lkp, avOf, acOf, opCallAny, opMM, opLen, lenAC, lenOk, fpAC, Nat.div_one, opAppend, srcOf, Ty.size, datOf, dite_true, opBin, arith, inK_i64, eqACs, eqAC, reduceCtorEq, reduceEqDiff, reduceAdd, reduceLeDiff, reduceLT, reduceMul, reduceSub, Try.el103, Try.td103, Try.td3, Try.td4, Mly.av, List.length_map, gRows_len, gRows_nth, gRows_nth1, gRows_nth2, List.length_append, gcs_len, rep_one, List.length_replicate, List.getD_cons_zero]; (repeat refine And.intro (by first | omega | assumption | exact rfl) ?_); (first | refine hK0 _ ?_ | refine Or.inl (hK0 _ ?_)); clear hK0 K0; simp only [put, app, setAll, trOf, zE, zS, reduceAdd, List.append_assoc, gRows_setn, gRows_setn1, gRows_setn2])
        refine rg_nil ?_
        refine hK17 _ ?_; clear hK17; refine awp_keep [3, 4, 8, 10, 11, 46] ?_; simp only [keepEnv, lkp, zE, reduceCtorEq, reduceEqDiff, argEnv, reduceAdd]
        refine awp_cond (by simp only [ev, keepEnv, lkp, zE, reduceCtorEq, reduceEqDiff, argEnv, reduceAdd]; exact rfl) (fun hc18 => ?_) (fun hc18 => ?_)
        · (try simp only [zB, reduceCtorEq] at hc18)
          refine awp_skip ?_
          refine hK16 _ ?_; clear hK16; refine awp_keep [3, 4, 8, 10, 11, 46] ?_; simp only [keepEnv, lkp, zE, reduceCtorEq, reduceEqDiff, argEnv, reduceAdd]
          refine awp_seq_k fun K19 hK19 => ?_
          refine awp_block ?_
          refine awp_seq_k fun K20 hK20 => ?_
          have hil : i < l.length := by omega
          have hgi : ∀ d, (List.map encP l).getD i d = (((l.getD i eS0).1, ((l.getD i eS0).2.1, ())), ((l.getD i eS0).2.2, ())) := fun d => by rw [getD_mapE eS0 d (by omega)]; rfl
          refine awp_reg hP hN rfl ?_
          iterate 7 (refine rg_step rfl fun K0 hK0 => ?_; simp only [zE, op1, ev, lkp, avOf, acOf, opIndexAddr, zG, Ty.dflt, Ty.size, Nat.mul_one, ne_eq, not_false_eq_true, Int.natCast_one, Int.mul_one, opFieldAddr, opLoad, readAC, isAggK, acs, cellsAt, opAlloc, opStore, cellsAV, writeAC, datOf, reduceCtorEq, reduceEqDiff, reduceAdd, reduceLeDiff, reduceLT, reduceMul, reduceSub, Try.el103, Try.fl89, Try.st102, Try.st89, Try.td102, Try.td103, Try.td3, Try.td89, Mly.av, List.length_map, gRows_len, gRows_nth, gRows_nth1, gRows_nth2, List.length_append, gcs_len, rep_one, List.length_replicate, List.getD_cons_zero, hgi]; (repeat refine And.intro (by first | omega | assumption | exact rfl) ?_); (first | refine hK0 _ ?_ | refine Or.inl (hK0 _ ?_)); clear hK0 K0; simp only [put, app, setAll, trOf, zE, zS, reduceAdd, List.append_assoc, gRows_setn, gRows_setn1, gRows_setn2])
          refine rg_nil ?_
          refine hK20 _ ?_; clear hK20; refine awp_keep [3, 4, 8, 10, 11, 12, 46] ?_; simp only [keepEnv, lkp, zE, reduceCtorEq, reduceEqDiff, argEnv, reduceAdd]
          refine awp_seq_k fun K21 hK21 => ?_
          refine awp_reg hP hN rfl ?_
          iterate 3 (refine rg_step rfl fun K0 hK0 => ?_; simp only [zE, op1, ev, lkp, avOf, acOf, opFieldAddr, opLoad, Nat.mul_one, readAC, isAggK, acs, Ty.dflt, zG, cellsAt, reduceCtorEq, reduceEqDiff, reduceAdd, reduceLeDiff, reduceLT, reduceMul, reduceSub, Try.st24, Try.td24, Try.td3, Mly.av, List.length_map, gRows_len, gRows_nth, gRows_nth1, gRows_nth2, List.length_append, gcs_len, rep_one, List.length_replicate, List.getD_cons_zero]; (repeat refine And.intro (by first | omega | assumption | exact rfl) ?_); (first | refine hK0 _ ?_ | refine Or.inl (hK0 _ ?_)); clear hK0 K0; simp only [put, app, setAll, trOf, zE, zS, reduceAdd, List.append_assoc, gRows_setn, gRows_setn1, gRows_setn2])
          refine rg_nil ?_
          refine hK21 _ ?_; clear hK21; refine awp_keep [3, 4, 8, 10, 11, 12, 46, 55, 56] ?_; simp only [keepEnv, lkp, zE, reduceCtorEq, reduceEqDiff, argEnv, reduceAdd]
          refine awp_block ?_
          refine awp_loop (fun n22 s22 => ∃ (x : Nat) (v2 : Nat), ((x : Int) ≤ a.inp) ∧ (∀ y, y < x → difS a b (l.getD i eS0) y = false) ∧ (WFS a b (rowS a b (l.getD i eS0) l x)) ∧ n22 = a.inp.toNat - x ∧ s22 = { env := [(3, .one (.ptr 0 0 0 0)), (4, .one (.ptr 1 0 0 0)), (8, .one (.rwc 3 0)), (10, .one (.row (a.nx.length + 1 + 1 + 1 + 1) v2)), (11, .one (.int .i64 (i : Int))), (12, .one (.ptr (a.nx.length + 1 + 1 + 1 + 1 + 1) 0 0 0)), (55, .one (.int .i64 a.inp)), (56, .one (.int .i64 (x : Int)))], L := .vars 24 [.int .i64 a.inp, .int .i64 a.st, .list (.list (.int .i64)) a.nx, .list (.list (.int .i64)) a.ot] :: .vars 24 [.int .i64 b.inp, .int .i64 b.st, .list (.list (.int .i64)) b.nx, .list (.list (.int .i64)) b.ot] :: .vars 89 [.int .i64 s, .int .i64 t] :: .rowc 100 1 0 (gcs a.nx.length) :: (gRows 4 (snS (rowS a b (l.getD i eS0) l x) b.nx.length) a.nx.length ++ [.row (.pair (.pair (.int .i64) (.pair (.int .i64) (.unit))) (.pair (.list (.int .i64)) (.unit))) 102 v2 (List.map encP (rowS a b (l.getD i eS0) l x)), .vars 89 [.int .i64 (l.getD i eS0).1, .int .i64 (l.getD i eS0).2.1]]) }) ?_ ?_
          · exact ⟨_, _, sub_keep [3, 4, 8, 10, 11, 12, 55, 56], 0, v, by omega, fun y hy => by omega, hwf, rfl, rfl⟩
          · rintro n22 s22 ⟨x, v2, hx, hdf, hwr, rfl, rfl⟩
            refine awp_seq_k fun K23 hK23 => ?_
            refine awp_reg hP hN rfl ?_
            (refine rg_step rfl fun K0 hK0 => ?_; simp only [zE, op1, ev, lkp, avOf, acOf, opBin, arith, inK_i64, eqACs, eqAC, reduceCtorEq, reduceEqDiff, reduceAdd, reduceLeDiff, reduceLT, reduceMul, reduceSub, Try.td3, Try.td4, Mly.av, List.length_map, gRows_len, gRows_nth, gRows_nth1, gRows_nth2, List.length_append, gcs_len, rep_one, List.length_replicate, List.getD_cons_zero]; (repeat refine And.intro (by first | omega | assumption | exact rfl) ?_); (first | refine hK0 _ ?_ | refine Or.inl (hK0 _ ?_)); clear hK0 K0; simp only [put, app, setAll, trOf, zE, zS, reduceAdd, List.append_assoc, gRows_setn, gRows_setn1, gRows_setn2])
            refine rg_nil ?_
            refine hK23 _ ?_; clear hK23; refine awp_keep [3, 4, 8, 10, 11, 12, 55, 56, 57] ?_; simp only [keepEnv, lkp, zE, reduceCtorEq, reduceEqDiff, argEnv, reduceAdd]
            refine awp_seq_k fun K24 hK24 => ?_
            refine awp_cond (by simp only [ev, keepEnv, lkp, zE, reduceCtorEq, reduceEqDiff, argEnv, reduceAdd]; exact rfl) (fun hc25 => ?_) (fun hc25 => ?_)
            · (try simp only [zB, reduceCtorEq] at hc25)
              refine awp_skip ?_
              refine hK24 _ ?_; clear hK24; refine awp_keep [3, 4, 8, 10, 11, 12, 55, 56, 57] ?_; simp only [keepEnv, lkp, zE, reduceCtorEq, reduceEqDiff, argEnv, reduceAdd]
              refine awp_seq_k fun K26 hK26 => ?_
              refine awp_block ?_
              refine awp_seq_k fun K27 hK27 => ?_
              refine awp_reg hP hN rfl ?_
              iterate 2 (refine rg_step rfl fun K0 hK0 => ?_; simp only [zE, op1, ev, lkp, avOf, acOf, ev, reduceCtorEq, reduceEqDiff, reduceAdd, reduceLeDiff, reduceLT, reduceMul, reduceSub, Try.td3, Mly.av, List.length_map, gRows_len, gRows_nth, gRows_nth1, gRows_nth2, List.length_append, gcs_len, rep_one, List.length_replicate, List.getD_cons_zero]; (repeat refine And.intro (by first | omega | assumption | exact rfl) ?_); (first | refine hK0 _ ?_ | refine Or.inl (hK0 _ ?_)); clear hK0 K0; simp only [put, app, setAll, trOf, zE, zS, reduceAdd, List.append_assoc, gRows_setn, gRows_setn1, gRows_setn2])
              refine rg_nil ?_
              refine hK27 _ ?_; clear hK27; refine awp_keep [3, 4, 8, 10, 11, 12, 13, 55, 56, 57] ?_; simp only [keepEnv, lkp, zE, reduceCtorEq, reduceEqDiff, argEnv, reduceAdd]
              refine awp_seq_k fun K28 hK28 => ?_
              refine awp_seq_k fun K29 hK29 => ?_
              have hil : i < l.length := by omega
              have hei := hwf.at_ hil; have hwl := hwf.wl hil; have hbl := hwf.le; have hbg := hwf.big ha hb; have hbr := hwr.big ha hb; have hge := rowS_ge a b (l.getD i eS0) l x; have hat := rowS_at a b (l.getD i eS0) x hil
              have har := ha.rl (l.getD i eS0).1.toNat (by omega); have haq := ha.ql (l.getD i eS0).1.toNat (by omega); have hbr2 := hb.rl (l.getD i eS0).2.1.toNat (by omega); have hbq := hb.ql (l.getD i eS0).2.1.toNat (by omega)
              have hgi : ∀ d, (List.map encP (rowS a b (l.getD i eS0) l x)).getD i d = (((l.getD i eS0).1, ((l.getD i eS0).2.1, ())), ((l.getD i eS0).2.2, ())) := fun d => by rw [getD_mapE eS0 d (by omega), hat]; rfl
              refine awp_drw hP hN Try.mixed rfl ?_
              iterate 19 (refine rg_step rfl fun K0 hK0 => ?_; simp only [zE, op1, ev, lkp, avOf, acOf, opFieldAddr, opLoad, Nat.mul_one, readAC, isAggK, acs, Ty.dflt, zG, cellsAt, opIndexAddr, Ty.size, ne_eq, not_false_eq_true, Int.natCast_one, Int.mul_one, opBin, arith, inK_i64, eqACs, eqAC, reduceCtorEq, reduceEqDiff, reduceAdd, reduceLeDiff, reduceLT, reduceMul, reduceSub, Try.el22, Try.el25, Try.fl89, Try.st24, Try.st89, Try.td1, Try.td22, Try.td24, Try.td25, Try.td3, Try.td4, Try.td89, Mly.av, List.length_map, gRows_len, gRows_nth, gRows_nth1, gRows_nth2, List.length_append, gcs_len, rep_one, List.length_replicate, List.getD_cons_zero]; (repeat refine And.intro (by first | omega | assumption | exact rfl) ?_); (first | refine hK0 _ ?_ | refine Or.inl (hK0 _ ?_)); clear hK0 K0; simp only [put, app, setAll, trOf, zE, zS, reduceAdd, List.append_assoc, gRows_setn, gRows_setn1, gRows_setn2])
              refine rg_nil ?_
              refine ⟨by kernel_rfl, ?_⟩
              refine hK29 _ ?_; clear hK29; refine awp_keep [3, 4, 8, 10, 11, 12, 13, 55, 56, 57, 77] ?_; simp only [keepEnv, lkp, zE, reduceCtorEq, reduceEqDiff, argEnv, reduceAdd]
              refine awp_cond (by simp only [ev, keepEnv, lkp, zE, reduceCtorEq, reduceEqDiff, argEnv, reduceAdd]; exact rfl) (fun hc30 => ?_) (fun hc30 => ?_)
              · (try simp only [zB, reduceCtorEq] at hc30)
                refine awp_seq_k fun K31 hK31 => ?_
                have hdx : difS a b (l.getD i eS0) x = true := by simp only [difS, Mly.out, Int.toNat_natCast]; simp_all
                refine awp_reg hP hN rfl ?_
                iterate 8 (refine rg_step rfl fun K0 hK0 => ?_; simp only [zE, op1, ev, lkp, avOf, acOf, opIndexAddr, zG, Ty.dflt, Ty.size, Nat.mul_one, ne_eq, not_false_eq_true, Int.natCast_one, Int.mul_one, opFieldAddr, opLoad, readAC, isAggK, acs, cellsAt, opBuildSlice, fillAC, chunk, rep, datOf, writeAC, cellsAV, reduceCtorEq, reduceEqDiff, reduceAdd, reduceLeDiff, reduceLT, reduceMul, reduceSub, Try.el103, Try.el22, Try.el25, Try.st102, Try.td1, Try.td102, Try.td103, Try.td2, Try.td22, Try.td25, Try.td3, Mly.av, List.length_map, gRows_len, gRows_nth, gRows_nth1, gRows_nth2, List.length_append, gcs_len, rep_one, List.length_replicate, List.getD_cons_zero, hgi]; (repeat refine And.intro (by first | omega | assumption | exact rfl) ?_); (first | refine hK0 _ ?_ | refine Or.inl (hK0 _ ?_)); clear hK0 K0; simp only [put, app, setAll, trOf, zE, zS, reduceAdd, List.append_assoc, gRows_setn, gRows_setn1, gRows_setn2])
                refine rg_step rfl fun K0 hK0 => ?_
                refine op_call (h := call_of_pure (wjoin_c [(l.getD i eS0).2.2, [(x : Int)]] (by rw [flat2_len]; omega))) rfl rfl (by first | exact rfl | (simp only [ev, keepEnv, lkp, zE, reduceCtorEq, reduceEqDiff, argEnv, reduceAdd]; exact rfl)) (by simp only [zE, zG, op1, ev, lkp, avOf, acOf, cellsAV, acs, capAV, mv1, mvC, Ty.dflt, reduceCtorEq, reduceEqDiff, reduceAdd, reduceLeDiff, reduceLT, reduceMul, reduceSub, Mly.av, List.length_map, gRows_len, gRows_nth, gRows_nth1, gRows_nth2, List.length_append, gcs_len, rep_one, List.length_replicate, List.getD_cons_zero, hgi]) ?_
                refine hK0 _ ?_; clear hK0 K0; simp only [put, app, setAll, trOf, zE, zS, reduceAdd, List.append_assoc, gRows_setn, gRows_setn1, gRows_setn2]
                iterate 2 (refine rg_step rfl fun K0 hK0 => ?_; simp only [zE, op1, ev, lkp, avOf, acOf, ev, reduceCtorEq, reduceEqDiff, reduceAdd, reduceLeDiff, reduceLT, reduceMul, reduceSub, Try.el25, Try.td25, Try.td4, Mly.av, List.length_map, gRows_len, gRows_nth, gRows_nth1, gRows_nth2, List.length_append, gcs_len, rep_one, List.length_replicate, List.getD_cons_zero, hgi]; (repeat refine And.intro (by first | omega | assumption | exact rfl) ?_); (first | refine hK0 _ ?_ | refine Or.inl (hK0 _ ?_)); clear hK0 K0; simp only [put, app, setAll, trOf, zE, zS, reduceAdd, List.append_assoc, gRows_setn, gRows_setn1, gRows_setn2])
                refine rg_nil ?_
                refine hK31 _ ?_; clear hK31; refine awp_keep [3, 4, 6, 7, 8, 10, 11, 12, 13, 55, 56, 57, 77] ?_; simp only [keepEnv, lkp, zE, reduceCtorEq, reduceEqDiff, argEnv, reduceAdd]
                refine awp_ret ?_
                refine ⟨by first | exact .inl rfl | exact .inr rfl, _, rfl, ?_⟩; simp only [fzV, fz1, fzC, List.map_cons, List.map_nil, keepEnv, lkp, zE, reduceCtorEq, reduceEqDiff, argEnv, reduceAdd, Mly.av, List.length_map, gRows_len, gRows_nth, gRows_nth1, gRows_nth2, List.length_append, gcs_len, rep_one, List.length_replicate, List.getD_cons_zero]
                first
                | (have hx2 : x < a.inp.toNat := by omega
                   rw [← hsr, show fuS a b - i = (fuS a b - (i + 1)) + 1 by omega, srS_found hil hx2 hdx hdf]
                   exact VLE.of_eq (by simp))
                | (rw [← hsr, srS_end _ _ _ _ _ (by omega)]; exact vle_tup ⟨vle1_one (cle_nils rfl), vle1_one (.refl _), trivial⟩)
              · (try simp only [zB, reduceCtorEq] at hc30)
                refine awp_skip ?_
                refine hK28 _ ?_; clear hK28; refine awp_keep [3, 4, 8, 10, 11, 12, 13, 55, 56, 57, 77] ?_; simp only [keepEnv, lkp, zE, reduceCtorEq, reduceEqDiff, argEnv, reduceAdd]
                refine awp_seq_k fun K32 hK32 => ?_
                have hdn : difS a b (l.getD i eS0) x = false := by simp only [difS, Mly.out, Int.toNat_natCast]; simp_all
                refine awp_hole ?_; simp only [List.cons_append, List.append_assoc, List.nil_append]
                refine awp_drw hP hN Try.mixed rfl ?_
                iterate 19 (refine rg_step rfl fun K0 hK0 => ?_; simp only [zE, op1, ev, lkp, avOf, acOf, opFieldAddr, opLoad, Nat.mul_one, readAC, isAggK, acs, Ty.dflt, zG, cellsAt, opIndexAddr, Ty.size, ne_eq, not_false_eq_true, Int.natCast_one, Int.mul_one, opBuild, fillAC, writeAC, cellsAV, reduceCtorEq, reduceEqDiff, reduceAdd, reduceLeDiff, reduceLT, reduceMul, reduceSub, Try.el22, Try.el25, Try.fl89, Try.st24, Try.st89, Try.td1, Try.td2, Try.td22, Try.td24, Try.td25, Try.td3, Try.td89, Mly.av, List.length_map, gRows_len, gRows_nth, gRows_nth1, gRows_nth2, List.length_append, gcs_len, rep_one, List.length_replicate, List.getD_cons_zero]; (repeat refine And.intro (by first | omega | assumption | exact rfl) ?_); (first | refine hK0 _ ?_ | refine Or.inl (hK0 _ ?_)); clear hK0 K0; simp only [put, app, setAll, trOf, zE, zS, reduceAdd, List.append_assoc, gRows_setn, gRows_setn1, gRows_setn2])
                (refine rg_step rfl fun K0 hK0 => ?_; simp only [zE, op1, ev, lkp, avOf, acOf, opAlloc, reduceCtorEq, reduceEqDiff, reduceAdd, reduceLeDiff, reduceLT, reduceMul, reduceSub, Try.fl89, Try.st89, Try.td89, Mly.av, List.length_map, gRows_len, gRows_nth, gRows_nth1, gRows_nth2, List.length_append, gcs_len, rep_one, List.length_replicate, List.getD_cons_zero]; refine Or.inr ⟨(a.nx.length + 1 + 1 + 1 + 1 + 1 + 1), ?_, (.pair (.int .i64) (.pair (.int .i64) .unit)), (0, (0, ())), ?_⟩; (simp only [zE, gRows_nth2]); (repeat refine And.intro (by first | rfl | decide) ?_); refine hK0 _ ?_; clear hK0 K0; simp only [put, app, setAll, trOf, zE, zS, reduceAdd, List.append_assoc, gRows_setn, gRows_setn1, gRows_setn2])
                (refine rg_step rfl fun K0 hK0 => ?_; simp only [zE, op1, ev, lkp, avOf, acOf, opStore, Nat.mul_one, cellsAV, writeAC, datOf, acs, Ty.size, Ty.dflt, zG, reduceCtorEq, reduceEqDiff, reduceAdd, reduceLeDiff, reduceLT, reduceMul, reduceSub, Try.fl89, Try.st89, Try.td89, Mly.av, List.length_map, gRows_len, gRows_nth, gRows_nth1, gRows_nth2, List.length_append, gcs_len, rep_one, List.length_replicate, List.getD_cons_zero]; (repeat refine And.intro (by first | omega | assumption | exact rfl) ?_); (first | refine hK0 _ ?_ | refine Or.inl (hK0 _ ?_)); clear hK0 K0; simp only [put, app, setAll, trOf, zE, zS, reduceAdd, List.append_assoc, gRows_setn, gRows_setn1, gRows_setn2])
                refine rg_nil ?_
                refine ⟨by exact ordOk_ren (cdf_inj a.nx.length) [([], [0], 0), ([], [0], 0), ([], [5], 0), ([], [5], 0), ([], [], 0), ([], [], 0), ([], [], 0), ([], [], 0), ([], [], 0), ([], [1], 0), ([], [1], 0), ([], [5], 0), ([], [5], 0), ([], [], 0), ([], [], 0), ([], [], 0), ([], [], 0), ([], [], 0), ([], [], 0), ([6], [6], 0), ([6], [6], 0)] (by kernel_rfl), ?_⟩
                refine hK32 _ ?_; clear hK32; refine awp_keep [3, 4, 8, 10, 11, 12, 13, 14, 55, 56, 57, 77] ?_; simp only [keepEnv, lkp, zE, reduceCtorEq, reduceEqDiff, argEnv, reduceAdd]
                refine awp_seq_k fun K33 hK33 => ?_
                have hpn := ha.nr (l.getD i eS0).1.toNat x (by omega) (by omega); have hqn := hb.nr (l.getD i eS0).2.1.toNat x (by omega) (by omega)
                have hgP := gcs_get (n := a.nx.length) (i := ((a.nx.getD (l.getD i eS0).1.toNat []).getD x 0).toNat) (by omega); have hrP : ∀ X : List AO, (gRows 4 (snS (rowS a b (l.getD i eS0) l x) b.nx.length) a.nx.length ++ X)[((a.nx.getD (l.getD i eS0).1.toNat []).getD x 0).toNat]? = some (.row .bool 4 0 (snS (rowS a b (l.getD i eS0) l x) b.nx.length ((a.nx.getD (l.getD i eS0).1.toNat []).getD x 0).toNat)) := fun X => gRows_get (by omega)
                have hsL := snS_len (rowS a b (l.getD i eS0) l x) b.nx.length ((a.nx.getD (l.getD i eS0).1.toNat []).getD x 0).toNat; have hsA := snS_at (l := (rowS a b (l.getD i eS0) l x)) (m := b.nx.length) (p := ((a.nx.getD (l.getD i eS0).1.toNat []).getD x 0)) (q := ((b.nx.getD (l.getD i eS0).2.1.toNat []).getD x 0)) (by omega) (by omega)
                have hEin : (l.getD i eS0) ∈ (rowS a b (l.getD i eS0) l x) := by
                  have h9 := getD_memS (l := (rowS a b (l.getD i eS0) l x)) (i := i) (by omega)
                  rw [hat] at h9; exact h9
                refine awp_drw hP hN Try.mixed rfl ?_
                iterate 3 (refine rg_step rfl fun K0 hK0 => ?_; simp only [zE, op1, ev, lkp, avOf, acOf, opLoad, Nat.mul_one, readAC, isAggK, acs, Ty.dflt, zG, cellsAt, opBin, arith, inK_i64, eqACs, eqAC, reduceCtorEq, reduceEqDiff, reduceAdd, reduceLeDiff, reduceLT, reduceMul, reduceSub, Try.fl89, Try.st89, Try.td4, Try.td89, Mly.av, List.length_map, gRows_len, gRows_nth, gRows_nth1, gRows_nth2, List.length_append, gcs_len, rep_one, List.length_replicate, List.getD_cons_zero, hgP, hrP, hsL, hsA]; (repeat refine And.intro (by first | omega | assumption | exact rfl) ?_); (first | refine hK0 _ ?_ | refine Or.inl (hK0 _ ?_)); clear hK0 K0; simp only [put, app, setAll, trOf, zE, zS, reduceAdd, List.append_assoc, gRows_setn, gRows_setn1, gRows_setn2])
                (refine rg_step rfl fun K0 hK0 => ?_; simp only [zE, op1, ev, lkp, avOf, acOf, ev, reduceCtorEq, reduceEqDiff, reduceAdd, reduceLeDiff, reduceLT, reduceMul, reduceSub, Try.td4, Mly.av, List.length_map, gRows_len, gRows_nth, gRows_nth1, gRows_nth2, List.length_append, gcs_len, rep_one, List.length_replicate, List.getD_cons_zero, hgP, hrP, hsL, hsA]; (repeat refine And.intro (by first | omega | assumption | exact rfl) ?_); (first | refine hK0 _ ?_ | refine Or.inl (hK0 _ ?_)); clear hK0 K0; simp only [put, app, setAll, trOf, zE, zS, reduceAdd, List.append_assoc, gRows_setn, gRows_setn1, gRows_setn2])
                refine' rg_join_n (want := true) 10 rfl (m := 109) (by simp only [keepEnv, lkp, zE, reduceCtorEq, reduceEqDiff, argEnv, reduceAdd]; exact rfl) (by kernel_rfl) rfl rfl rfl rfl rfl (fun hg34 => ?a34) ?b34 ?c34
                case a34 =>
                  have hq34 := hg34; (try simp only [zB, reduceCtorEq] at hg34); simp only [List.take_succ_cons, List.take_zero, List.cons_append, List.nil_append]
                  (refine rg_do rfl fun K0 hK0 => ?_; simp only [zE, op1, ev, lkp, avOf, acOf, ev, reduceCtorEq, reduceEqDiff, reduceAdd, reduceLeDiff, reduceLT, reduceMul, reduceSub, Try.el99, Try.td99, Mly.av, List.length_map, gRows_len, gRows_nth, gRows_nth1, gRows_nth2, List.length_append, gcs_len, rep_one, List.length_replicate, List.getD_cons_zero, hgP, hrP, hsL, hsA]; (repeat refine And.intro (by first | omega | assumption | exact rfl) ?_); (first | refine hK0 _ ?_ | refine Or.inl (hK0 _ ?_)); clear hK0 K0; simp only [put, app, setAll, trOf, zE, zS, reduceAdd, List.append_assoc, gRows_setn, gRows_setn1, gRows_setn2])
                  (refine rg_do rfl fun K0 hK0 => ?_; simp only [zE, op1, ev, lkp, avOf, acOf, opFieldAddr, reduceCtorEq, reduceEqDiff, reduceAdd, reduceLeDiff, reduceLT, reduceMul, reduceSub, Try.fl89, Try.st89, Try.td89, Mly.av, List.length_map, gRows_len, gRows_nth, gRows_nth1, gRows_nth2, List.length_append, gcs_len, rep_one, List.length_replicate, List.getD_cons_zero, hgP, hrP, hsL, hsA]; (repeat refine And.intro (by first | omega | assumption | exact rfl) ?_); (first | refine hK0 _ ?_ | refine Or.inl (hK0 _ ?_)); clear hK0 K0; simp only [put, app, setAll, trOf, zE, zS, reduceAdd, List.append_assoc, gRows_setn, gRows_setn1, gRows_setn2])
                  (refine rg_do rfl fun K0 hK0 => ?_; simp only [zE, op1, ev, lkp, avOf, acOf, opLoad, Nat.mul_one, readAC, isAggK, acs, Ty.dflt, zG, cellsAt, reduceCtorEq, reduceEqDiff, reduceAdd, reduceLeDiff, reduceLT, reduceMul, reduceSub, Try.td3, Mly.av, List.length_map, gRows_len, gRows_nth, gRows_nth1, gRows_nth2, List.length_append, gcs_len, rep_one, List.length_replicate, List.getD_cons_zero, hgP, hrP, hsL, hsA]; (repeat refine And.intro (by first | omega | assumption | exact rfl) ?_); (first | refine hK0 _ ?_ | refine Or.inl (hK0 _ ?_)); clear hK0 K0; simp only [put, app, setAll, trOf, zE, zS, reduceAdd, List.append_assoc, gRows_setn, gRows_setn1, gRows_setn2])
                  (refine rg_do rfl fun K0 hK0 => ?_; simp only [zE, op1, ev, lkp, avOf, acOf, opIndexAddr, zG, Ty.dflt, Ty.size, Nat.mul_one, ne_eq, not_false_eq_true, Int.natCast_one, Int.mul_one, reduceCtorEq, reduceEqDiff, reduceAdd, reduceLeDiff, reduceLT, reduceMul, reduceSub, Try.el99, Try.td99, Mly.av, List.length_map, gRows_len, gRows_nth, gRows_nth1, gRows_nth2, List.length_append, gcs_len, rep_one, List.length_replicate, List.getD_cons_zero, hgP, hrP, hsL, hsA]; (repeat refine And.intro (by first | omega | assumption | exact rfl) ?_); (first | refine hK0 _ ?_ | refine Or.inl (hK0 _ ?_)); clear hK0 K0; simp only [put, app, setAll, trOf, zE, zS, reduceAdd, List.append_assoc, gRows_setn, gRows_setn1, gRows_setn2])
                  (refine rg_do rfl fun K0 hK0 => ?_; simp only [zE, op1, ev, lkp, avOf, acOf, opLoad, Nat.mul_one, readAC, isAggK, acs, Ty.dflt, zG, cellsAt, reduceCtorEq, reduceEqDiff, reduceAdd, reduceLeDiff, reduceLT, reduceMul, reduceSub, Try.el100, Try.td100, Mly.av, List.length_map, gRows_len, gRows_nth, gRows_nth1, gRows_nth2, List.length_append, gcs_len, rep_one, List.length_replicate, List.getD_cons_zero, hgP, hrP, hsL, hsA]; (repeat refine And.intro (by first | omega | assumption | exact rfl) ?_); (first | refine hK0 _ ?_ | refine Or.inl (hK0 _ ?_)); clear hK0 K0; simp only [put, app, setAll, trOf, zE, zS, reduceAdd, List.append_assoc, gRows_setn, gRows_setn1, gRows_setn2])
                  (refine rg_do rfl fun K0 hK0 => ?_; simp only [zE, op1, ev, lkp, avOf, acOf, opFieldAddr, reduceCtorEq, reduceEqDiff, reduceAdd, reduceLeDiff, reduceLT, reduceMul, reduceSub, Try.fl89, Try.st89, Try.td1, Try.td89, Mly.av, List.length_map, gRows_len, gRows_nth, gRows_nth1, gRows_nth2, List.length_append, gcs_len, rep_one, List.length_replicate, List.getD_cons_zero, hgP, hrP, hsL, hsA]; (repeat refine And.intro (by first | omega | assumption | exact rfl) ?_); (first | refine hK0 _ ?_ | refine Or.inl (hK0 _ ?_)); clear hK0 K0; simp only [put, app, setAll, trOf, zE, zS, reduceAdd, List.append_assoc, gRows_setn, gRows_setn1, gRows_setn2])
                  (refine rg_do rfl fun K0 hK0 => ?_; simp only [zE, op1, ev, lkp, avOf, acOf, opLoad, Nat.mul_one, readAC, isAggK, acs, Ty.dflt, zG, cellsAt, reduceCtorEq, reduceEqDiff, reduceAdd, reduceLeDiff, reduceLT, reduceMul, reduceSub, Try.td3, Mly.av, List.length_map, gRows_len, gRows_nth, gRows_nth1, gRows_nth2, List.length_append, gcs_len, rep_one, List.length_replicate, List.getD_cons_zero, hgP, hrP, hsL, hsA]; (repeat refine And.intro (by first | omega | assumption | exact rfl) ?_); (first | refine hK0 _ ?_ | refine Or.inl (hK0 _ ?_)); clear hK0 K0; simp only [put, app, setAll, trOf, zE, zS, reduceAdd, List.append_assoc, gRows_setn, gRows_setn1, gRows_setn2])
                  (refine rg_do rfl fun K0 hK0 => ?_; simp only [zE, op1, ev, lkp, avOf, acOf, opIndexAddr, zG, Ty.dflt, Ty.size, Nat.mul_one, ne_eq, not_false_eq_true, Int.natCast_one, Int.mul_one, reduceCtorEq, reduceEqDiff, reduceAdd, reduceLeDiff, reduceLT, reduceMul, reduceSub, Try.el100, Try.td100, Mly.av, List.length_map, gRows_len, gRows_nth, gRows_nth1, gRows_nth2, List.length_append, gcs_len, rep_one, List.length_replicate, List.getD_cons_zero, hgP, hrP, hsL, hsA]; (repeat refine And.intro (by first | omega | assumption | exact rfl) ?_); (first | refine hK0 _ ?_ | refine Or.inl (hK0 _ ?_)); clear hK0 K0; simp only [put, app, setAll, trOf, zE, zS, reduceAdd, List.append_assoc, gRows_setn, gRows_setn1, gRows_setn2])
                  (refine rg_do rfl fun K0 hK0 => ?_; simp only [zE, op1, ev, lkp, avOf, acOf, opLoad, Nat.mul_one, readAC, isAggK, acs, Ty.dflt, zG, cellsAt, reduceCtorEq, reduceEqDiff, reduceAdd, reduceLeDiff, reduceLT, reduceMul, reduceSub, Try.td4, Mly.av, List.length_map, gRows_len, gRows_nth, gRows_nth1, gRows_nth2, List.length_append, gcs_len, rep_one, List.length_replicate, List.getD_cons_zero, hgP, hrP, hsL, hsA]; (repeat refine And.intro (by first | omega | assumption | exact rfl) ?_); (first | refine hK0 _ ?_ | refine Or.inl (hK0 _ ?_)); clear hK0 K0; simp only [put, app, setAll, trOf, zE, zS, reduceAdd, List.append_assoc, gRows_setn, gRows_setn1, gRows_setn2])
                  (refine rg_do rfl fun K0 hK0 => ?_; simp only [zE, op1, ev, lkp, avOf, acOf, opUn, reduceCtorEq, reduceEqDiff, reduceAdd, reduceLeDiff, reduceLT, reduceMul, reduceSub, Try.td4, Mly.av, List.length_map, gRows_len, gRows_nth, gRows_nth1, gRows_nth2, List.length_append, gcs_len, rep_one, List.length_replicate, List.getD_cons_zero, hgP, hrP, hsL, hsA]; (repeat refine And.intro (by first | omega | assumption | exact rfl) ?_); (first | refine hK0 _ ?_ | refine Or.inl (hK0 _ ?_)); clear hK0 K0; simp only [put, app, setAll, trOf, zE, zS, reduceAdd, List.append_assoc, gRows_setn, gRows_setn1, gRows_setn2])
                  (refine rg_step rfl fun K0 hK0 => ?_; simp only [zE, op1, ev, lkp, avOf, acOf, opPick, reduceCtorEq, reduceEqDiff, reduceAdd, reduceLeDiff, reduceLT, reduceMul, reduceSub, Try.td4, Mly.av, List.length_map, gRows_len, gRows_nth, gRows_nth1, gRows_nth2, List.length_append, gcs_len, rep_one, List.length_replicate, List.getD_cons_zero, hgP, hrP, hsL, hsA]; (repeat refine And.intro (by first | omega | assumption | exact rfl) ?_); (first | refine hK0 _ ?_ | refine Or.inl (hK0 _ ?_)); clear hK0 K0; simp only [put, app, setAll, trOf, zE, zS, reduceAdd, List.append_assoc, gRows_setn, gRows_setn1, gRows_setn2])
                  refine rg_nil ?_
                  refine ⟨by simp only [keepEnv, lkp, zE, reduceCtorEq, reduceEqDiff, argEnv, reduceAdd]; exact rfl, rfl, ?_, rfl⟩; (repeat refine keep_cons rfl ?_); exact keep_m (by exact rfl) hq34
                case b34 => exact tle_of (by first | rfl | (simp [tleB]; done) | decide)
                simp only [join_or, join_and]
                refine rg_nil ?_
                refine ⟨by kernel_rfl, ?_⟩
                refine hK33 _ ?_; clear hK33; refine awp_keep [3, 4, 8, 10, 11, 12, 13, 14, 55, 56, 57, 77, 120] ?_; simp only [keepEnv, lkp, zE, reduceCtorEq, reduceEqDiff, argEnv, reduceAdd]
                refine awp_cond (by simp only [ev, keepEnv, lkp, zE, reduceCtorEq, reduceEqDiff, argEnv, reduceAdd]; exact rfl) (fun hc35 => ?_) (fun hc35 => ?_)
                · (try simp only [zB, reduceCtorEq] at hc35)
                  have hkn : inS (rowS a b (l.getD i eS0) l x) ((a.nx.getD (l.getD i eS0).1.toNat []).getD x 0) ((b.nx.getD (l.getD i eS0).2.1.toNat []).getD x 0) = false := by simp_all
                  refine awp_seq_k fun K36 hK36 => ?_
                  have hset : ∀ X : List AO, (gRows 4 (snS (rowS a b (l.getD i eS0) l x) b.nx.length) a.nx.length ++ X).set ((a.nx.getD (l.getD i eS0).1.toNat []).getD x 0).toNat (.row .bool 4 0 ((snS (rowS a b (l.getD i eS0) l x) b.nx.length ((a.nx.getD (l.getD i eS0).1.toNat []).getD x 0).toNat).set ((b.nx.getD (l.getD i eS0).2.1.toNat []).getD x 0).toNat true)) = gRows 4 (snS ((rowS a b (l.getD i eS0) l x) ++ [(((a.nx.getD (l.getD i eS0).1.toNat []).getD x 0), ((b.nx.getD (l.getD i eS0).2.1.toNat []).getD x 0), (l.getD i eS0).2.2 ++ [(x : Int)])]) b.nx.length) a.nx.length ++ X := fun X => gRows_seti (by omega) (snS_set (by omega) (by omega)) (fun j hj hne => snS_other (by omega) hne)
                  refine awp_drw hP hN Try.mixed rfl ?_
                  iterate 9 (refine rg_step rfl fun K0 hK0 => ?_; simp only [zE, op1, ev, lkp, avOf, acOf, opFieldAddr, opLoad, Nat.mul_one, readAC, isAggK, acs, Ty.dflt, zG, cellsAt, opIndexAddr, Ty.size, ne_eq, not_false_eq_true, Int.natCast_one, Int.mul_one, opStore, cellsAV, writeAC, datOf, reduceCtorEq, reduceEqDiff, reduceAdd, reduceLeDiff, reduceLT, reduceMul, reduceSub, Try.el100, Try.el99, Try.fl89, Try.st89, Try.td1, Try.td100, Try.td3, Try.td4, Try.td89, Try.td99, Mly.av, List.length_map, gRows_len, gRows_nth, gRows_nth1, gRows_nth2, List.length_append, gcs_len, rep_one, List.length_replicate, List.getD_cons_zero, hgP, hrP, hsL]; (repeat refine And.intro (by first | omega | assumption | exact rfl) ?_); (first | refine hK0 _ ?_ | refine Or.inl (hK0 _ ?_)); clear hK0 K0; simp only [put, app, setAll, trOf, zE, zS, reduceAdd, List.append_assoc, gRows_setn, gRows_setn1, gRows_setn2, hset])
                  refine rg_nil ?_
                  refine ⟨by kernel_rfl, ?_⟩
                  refine hK36 _ ?_; clear hK36; refine awp_keep [3, 4, 8, 10, 11, 12, 13, 14, 55, 56, 57, 77, 120] ?_; simp only [keepEnv, lkp, zE, reduceCtorEq, reduceEqDiff, argEnv, reduceAdd]
                  refine awp_drw hP hN Try.mixed rfl ?_
                  iterate 10 (refine rg_step rfl fun K0 hK0 => ?_; simp only [zE, op1, ev, lkp, avOf, acOf, opLoad, Nat.mul_one, readAC, isAggK, acs, Ty.dflt, zG, cellsAt, opIndexAddr, Ty.size, ne_eq, not_false_eq_true, Int.natCast_one, Int.mul_one, opFieldAddr, opBuildSlice, fillAC, chunk, rep, datOf, writeAC, cellsAV, reduceCtorEq, reduceEqDiff, reduceAdd, reduceLeDiff, reduceLT, reduceMul, reduceSub, Try.el103, Try.el22, Try.el25, Try.fl89, Try.st102, Try.st89, Try.td1, Try.td102, Try.td103, Try.td2, Try.td22, Try.td25, Try.td3, Try.td89, Mly.av, List.length_map, gRows_len, gRows_nth, gRows_nth1, gRows_nth2, List.length_append, gcs_len, rep_one, List.length_replicate, List.getD_cons_zero, hgi]; (repeat refine And.intro (by first | omega | assumption | exact rfl) ?_); (first | refine hK0 _ ?_ | refine Or.inl (hK0 _ ?_)); clear hK0 K0; simp only [put, app, setAll, trOf, zE, zS, reduceAdd, List.append_assoc, gRows_setn, gRows_setn1, gRows_setn2])
                  refine rg_step rfl fun K0 hK0 => ?_
                  refine op_call (h := call_of_pure (wjoin_c [(l.getD i eS0).2.2, [(x : Int)]] (by rw [flat2_len]; omega))) rfl rfl (by first | exact rfl | (simp only [ev, keepEnv, lkp, zE, reduceCtorEq, reduceEqDiff, argEnv, reduceAdd]; exact rfl)) (by simp only [zE, zG, op1, ev, lkp, avOf, acOf, cellsAV, acs, capAV, mv1, mvC, Ty.dflt, reduceCtorEq, reduceEqDiff, reduceAdd, reduceLeDiff, reduceLT, reduceMul, reduceSub, Mly.av, List.length_map, gRows_len, gRows_nth, gRows_nth1, gRows_nth2, List.length_append, gcs_len, rep_one, List.length_replicate, List.getD_cons_zero, hgi]) ?_
                  refine hK0 _ ?_; clear hK0 K0; simp only [put, app, setAll, trOf, zE, zS, reduceAdd, List.append_assoc, gRows_setn, gRows_setn1, gRows_setn2]
                  iterate 4 (refine rg_step rfl fun K0 hK0 => ?_; simp only [zE, op1, ev, lkp, avOf, acOf, opBuild, fillAC, writeAC, cellsAV, opBuildSlice, chunk, rep, datOf, Ty.size, opCallAny, opMM, opLen, lenAC, lenOk, fpAC, Nat.div_one, opAppend, srcOf, dite_true, reduceCtorEq, reduceEqDiff, reduceAdd, reduceLeDiff, reduceLT, reduceMul, reduceSub, Try.el103, Try.st102, Try.td1, Try.td102, Try.td103, Mly.av, List.length_map, gRows_len, gRows_nth, gRows_nth1, gRows_nth2, List.length_append, gcs_len, rep_one, List.length_replicate, List.getD_cons_zero, hgi]; (repeat refine And.intro (by first | omega | assumption | exact rfl) ?_); (first | refine hK0 _ ?_ | refine Or.inl (hK0 _ ?_)); clear hK0 K0; simp only [put, app, setAll, trOf, zE, zS, reduceAdd, List.append_assoc, gRows_setn, gRows_setn1, gRows_setn2])
                  refine rg_nil ?_
                  refine ⟨by kernel_rfl, ?_⟩
                  refine hK26 _ ?_; clear hK26; refine awp_keep [3, 4, 8, 10, 11, 12, 13, 14, 55, 56, 57, 77, 120] ?_; simp only [keepEnv, lkp, zE, reduceCtorEq, reduceEqDiff, argEnv, reduceAdd]
                  refine awp_keep [3, 4, 8, 10, 11, 12, 55, 56] ?_; simp only [keepEnv, lkp, zE, reduceCtorEq, reduceEqDiff]
                  refine awp_pop (L1 := _ :: _ :: _ :: _ :: (_ ++ [_, _])) (by simp only [List.cons_append, List.append_assoc, List.nil_append]; rfl) hB (by simp [freeV, free1, freeC, gRows_len]) (by simp [freeO, freeC, gRows_free, gcs_free, gRows_len]) ?_
                  refine awp_reg hP hN rfl ?_
                  iterate 2 (refine rg_step rfl fun K0 hK0 => ?_; simp only [zE, op1, ev, lkp, avOf, acOf, opBin, arith, inK_i64, eqACs, eqAC, reduceCtorEq, reduceEqDiff, reduceAdd, reduceLeDiff, reduceLT, reduceMul, reduceSub, Try.td3, Mly.av, List.length_map, gRows_len, gRows_nth, gRows_nth1, gRows_nth2, List.length_append, gcs_len, rep_one, List.length_replicate, List.getD_cons_zero]; (repeat refine And.intro (by first | omega | assumption | exact rfl) ?_); (first | refine hK0 _ ?_ | refine Or.inl (hK0 _ ?_)); clear hK0 K0; simp only [put, app, setAll, trOf, zE, zS, reduceAdd, List.append_assoc, gRows_setn, gRows_setn1, gRows_setn2])
                  refine rg_nil ?_
                  first
                  | (have hk : inS (rowS a b (l.getD i eS0) l x) (a.nxt (l.getD i eS0).1 x) (b.nxt (l.getD i eS0).2.1 x) = true := hkk
                     refine ⟨_, _, ?_, sub_keep [3, 4, 8, 10, 11, 12, 55, 56], x + 1, v2, by omega, fun y hy => ?_, hwf.row ha hb hi hil (x + 1) (by omega), rfl, ?_⟩
                     · omega
                     · by_cases e : y = x
                       · rw [e]; exact hdn
                       · exact hdf y (by omega)
                     · rw [rowS_succ, stS, if_pos hk]; first | done | rfl)
                  | (have hk : ¬ inS (rowS a b (l.getD i eS0) l x) (a.nxt (l.getD i eS0).1 x) (b.nxt (l.getD i eS0).2.1 x) = true := fun hh => Bool.noConfusion (hkn.symm.trans hh)
                     refine ⟨_, _, ?_, sub_keep [3, 4, 8, 10, 11, 12, 55, 56], x + 1, v2 + 1, by omega, fun y hy => ?_, hwf.row ha hb hi hil (x + 1) (by omega), rfl, ?_⟩
                     · omega
                     · by_cases e : y = x
                       · rw [e]; exact hdn
                       · exact hdf y (by omega)
                     · rw [rowS_succ, stS, if_neg hk, List.map_append]; simp only [List.flatten_cons, List.flatten_nil, List.append_nil]; rfl)
                · (try simp only [zB, reduceCtorEq] at hc35)
                  have hkk : inS (rowS a b (l.getD i eS0) l x) ((a.nx.getD (l.getD i eS0).1.toNat []).getD x 0) ((b.nx.getD (l.getD i eS0).2.1.toNat []).getD x 0) = true := by
                    by_cases e1 : ((a.nx.getD (l.getD i eS0).1.toNat []).getD x 0) = (l.getD i eS0).1 ∧ ((b.nx.getD (l.getD i eS0).2.1.toNat []).getD x 0) = (l.getD i eS0).2.1
                    · exact inS_iff.2 ⟨(l.getD i eS0), hEin, e1.1.symm, e1.2.symm⟩
                    · cases hX : inS (rowS a b (l.getD i eS0) l x) ((a.nx.getD (l.getD i eS0).1.toNat []).getD x 0) ((b.nx.getD (l.getD i eS0).2.1.toNat []).getD x 0) with
                      | true => rfl
                      | false => exfalso; simp_all
                  refine awp_skip ?_
                  refine hK26 _ ?_; clear hK26; refine awp_keep [3, 4, 8, 10, 11, 12, 13, 14, 55, 56, 57, 77, 120] ?_; simp only [keepEnv, lkp, zE, reduceCtorEq, reduceEqDiff, argEnv, reduceAdd]
                  refine awp_keep [3, 4, 8, 10, 11, 12, 55, 56] ?_; simp only [keepEnv, lkp, zE, reduceCtorEq, reduceEqDiff]
                  refine awp_pop (L1 := _ :: _ :: _ :: _ :: (_ ++ [_, _])) (by simp only [List.cons_append, List.append_assoc, List.nil_append]; rfl) hB (by simp [freeV, free1, freeC, gRows_len]) (by simp [freeO, freeC, gRows_free, gcs_free, gRows_len]) ?_
                  refine awp_reg hP hN rfl ?_
                  iterate 2 (refine rg_step rfl fun K0 hK0 => ?_; simp only [zE, op1, ev, lkp, avOf, acOf, opBin, arith, inK_i64, eqACs, eqAC, reduceCtorEq, reduceEqDiff, reduceAdd, reduceLeDiff, reduceLT, reduceMul, reduceSub, Try.td3, Mly.av, List.length_map, gRows_len, gRows_nth, gRows_nth1, gRows_nth2, List.length_append, gcs_len, rep_one, List.length_replicate, List.getD_cons_zero]; (repeat refine And.intro (by first | omega | assumption | exact rfl) ?_); (first | refine hK0 _ ?_ | refine Or.inl (hK0 _ ?_)); clear hK0 K0; simp only [put, app, setAll, trOf, zE, zS, reduceAdd, List.append_assoc, gRows_setn, gRows_setn1, gRows_setn2])
                  refine rg_nil ?_
                  first
                  | (have hk : inS (rowS a b (l.getD i eS0) l x) (a.nxt (l.getD i eS0).1 x) (b.nxt (l.getD i eS0).2.1 x) = true := hkk
                     refine ⟨_, _, ?_, sub_keep [3, 4, 8, 10, 11, 12, 55, 56], x + 1, v2, by omega, fun y hy => ?_, hwf.row ha hb hi hil (x + 1) (by omega), rfl, ?_⟩
                     · omega
                     · by_cases e : y = x
                       · rw [e]; exact hdn
                       · exact hdf y (by omega)
                     · rw [rowS_succ, stS, if_pos hk]; first | done | rfl)
                  | (have hk : ¬ inS (rowS a b (l.getD i eS0) l x) (a.nxt (l.getD i eS0).1 x) (b.nxt (l.getD i eS0).2.1 x) = true := fun hh => Bool.noConfusion (hkn.symm.trans hh)
                     refine ⟨_, _, ?_, sub_keep [3, 4, 8, 10, 11, 12, 55, 56], x + 1, v2 + 1, by omega, fun y hy => ?_, hwf.row ha hb hi hil (x + 1) (by omega), rfl, ?_⟩
                     · omega
                     · by_cases e : y = x
                       · rw [e]; exact hdn
                       · exact hdf y (by omega)
                     · rw [rowS_succ, stS, if_neg hk, List.map_append]; simp only [List.flatten_cons, List.flatten_nil, List.append_nil]; rfl)
            · (try simp only [zB, reduceCtorEq] at hc25)
              refine awp_exit ?_
              refine hK19 _ ?_; clear hK19; refine awp_keep [3, 4, 8, 10, 11, 12, 55, 56, 57] ?_; simp only [keepEnv, lkp, zE, reduceCtorEq, reduceEqDiff, argEnv, reduceAdd]
              have hbg := hwf.big ha hb
              refine awp_keep [3, 4, 8, 10, 11] ?_; simp only [keepEnv, lkp, zE, reduceCtorEq, reduceEqDiff]
              refine awp_pop (L1 := _ :: _ :: _ :: _ :: (_ ++ [_])) (by simp only [List.cons_append, List.append_assoc, List.nil_append]; rfl) hB (by simp [freeV, free1, freeC, gRows_len]) (by simp [freeO, freeC, gRows_free, gcs_free, gRows_len]) ?_
              refine awp_reg hP hN rfl ?_
              iterate 3 (refine rg_step rfl fun K0 hK0 => ?_; simp only [zE, op1, ev, lkp, avOf, acOf, opBin, arith, inK_i64, eqACs, eqAC, reduceCtorEq, reduceEqDiff, reduceAdd, reduceLeDiff, reduceLT, reduceMul, reduceSub, Try.td3, Mly.av, List.length_map, gRows_len, gRows_nth, gRows_nth1, gRows_nth2, List.length_append, gcs_len, rep_one, List.length_replicate, List.getD_cons_zero]; (repeat refine And.intro (by first | omega | assumption | exact rfl) ?_); (first | refine hK0 _ ?_ | refine Or.inl (hK0 _ ?_)); clear hK0 K0; simp only [put, app, setAll, trOf, zE, zS, reduceAdd, List.append_assoc, gRows_setn, gRows_setn1, gRows_setn2])
              refine rg_nil ?_
              have hil : i < l.length := by omega
              have hbl := hwf.le
              have hge := rowS_ge a b (l.getD i eS0) l x
              have hxe : x = a.inp.toNat := by omega
              subst hxe
              refine ⟨_, _, ?_, sub_keep [3, 4, 8, 10, 11], i + 1, rowS a b (l.getD i eS0) l a.inp.toNat, v2, hwr, ?_, by omega, rfl, rfl⟩
              · omega
              · rw [← hsr, show fuS a b - i = (fuS a b - (i + 1)) + 1 by omega, srS_next hil (fun y hy => hdf y (by omega))]
        · (try simp only [zB, reduceCtorEq] at hc18)
          refine awp_exit ?_
          refine hK13 _ ?_; clear hK13; refine awp_keep [3, 4, 8, 10, 11, 46] ?_; simp only [keepEnv, lkp, zE, reduceCtorEq, reduceEqDiff, argEnv, reduceAdd]
          refine awp_seq_k fun K37 hK37 => ?_
          refine awp_reg hP hN rfl ?_
          iterate 2 (refine rg_step rfl fun K0 hK0 => ?_; simp only [zE, op1, ev, lkp, avOf, acOf, ev, reduceCtorEq, reduceEqDiff, reduceAdd, reduceLeDiff, reduceLT, reduceMul, reduceSub, Try.el25, Try.td25, Try.td4, Mly.av, List.length_map, gRows_len, gRows_nth, gRows_nth1, gRows_nth2, List.length_append, gcs_len, rep_one, List.length_replicate, List.getD_cons_zero]; (repeat refine And.intro (by first | omega | assumption | exact rfl) ?_); (first | refine hK0 _ ?_ | refine Or.inl (hK0 _ ?_)); clear hK0 K0; simp only [put, app, setAll, trOf, zE, zS, reduceAdd, List.append_assoc, gRows_setn, gRows_setn1, gRows_setn2])
          refine rg_nil ?_
          refine hK37 _ ?_; clear hK37; refine awp_keep [3, 4, 6, 7, 8, 10, 11, 46] ?_; simp only [keepEnv, lkp, zE, reduceCtorEq, reduceEqDiff, argEnv, reduceAdd]
          refine awp_ret ?_
          refine ⟨by first | exact .inl rfl | exact .inr rfl, _, rfl, ?_⟩; simp only [fzV, fz1, fzC, List.map_cons, List.map_nil, keepEnv, lkp, zE, reduceCtorEq, reduceEqDiff, argEnv, reduceAdd, Mly.av, List.length_map, gRows_len, gRows_nth, gRows_nth1, gRows_nth2, List.length_append, gcs_len, rep_one, List.length_replicate, List.getD_cons_zero]
          first
          | (have hx2 : x < a.inp.toNat := by omega
             rw [← hsr, show fuS a b - i = (fuS a b - (i + 1)) + 1 by omega, srS_found hil hx2 hdx hdf]
             exact VLE.of_eq (by simp))
          | (rw [← hsr, srS_end _ _ _ _ _ (by omega)]; exact vle_tup ⟨vle1_one (cle_nils rfl), vle1_one (.refl _), trivial⟩)
end Go.Proofs.Ytceafldjjedhcaa
namespace Go.Proofs.Ytceafldjjedhcaa
open Go Go.AV
open Nat (reduceEqDiff reduceAdd reduceLeDiff reduceLT reduceMul reduceSub)
open List (set_cons_zero set_cons_succ)
set_option maxRecDepth 100000 in
theorem est_c (m : Mly) (s t : Int) : PURE Try.prog 29 [m.av, .one (.int .i64 s), .one (.int .i64 t)] (.tup [.one (.list (.int .i64) ((stW m s t).getD [])), .one (.bool (stW m s t).isSome), .one (.int .i64 (stE m s t))]) := by
  refine pure_of_le Try.func29 rfl (by kernel_rfl) (Nat.le_of_ble_eq_true rfl) rfl fun C hP hN hB => ?_
  replace hN : C.N = 48 := hN
  simp only [argEnv, reduceAdd]
  refine awp_seq_k fun K1 hK1 => ?_
  refine awp_reg hP hN rfl ?_
  iterate 4 (refine rg_step rfl fun K0 hK0 => ?_; simp only [zE, op1, ev, lkp, avOf, acOf, opBox, cellsAV, reduceCtorEq, reduceEqDiff, reduceAdd, reduceLeDiff, reduceLT, reduceMul, reduceSub, Try.el25, Try.st24, Try.td24, Try.td25, Try.td28, Try.td4, Mly.av]; (repeat refine And.intro (by first | omega | assumption | exact rfl) ?_); (first | refine hK0 _ ?_ | refine Or.inl (hK0 _ ?_)); clear hK0 K0; simp only [put, app, setAll, trOf, zE, zS, reduceAdd])
  refine rg_nil ?_
  refine hK1 _ ?_; clear hK1; refine awp_keep [0, 1, 2, 3, 6, 7, 8] ?_; simp only [keepEnv, lkp, zE, reduceCtorEq, reduceEqDiff, argEnv, reduceAdd]
  refine awp_seq_k fun K2 hK2 => ?_
  refine awp_seq_k fun K3 hK3 => ?_
  refine awp_reg hP hN rfl ?_
  (refine rg_step rfl fun K0 hK0 => ?_; simp only [zE, op1, ev, lkp, avOf, acOf, opLoad, Nat.mul_one, readAC, isAggK, acs, Ty.dflt, zG, cellsAt, reduceCtorEq, reduceEqDiff, reduceAdd, reduceLeDiff, reduceLT, reduceMul, reduceSub, Try.st24, Try.td24, Mly.av]; (repeat refine And.intro (by first | omega | assumption | exact rfl) ?_); (first | refine hK0 _ ?_ | refine Or.inl (hK0 _ ?_)); clear hK0 K0; simp only [put, app, setAll, trOf, zE, zS, reduceAdd])
  refine rg_step rfl fun K0 hK0 => ?_
  refine op_call (h := call_of_pure (valid_c m)) rfl rfl (by first | exact rfl | (simp only [ev, keepEnv, lkp, zE, reduceCtorEq, reduceEqDiff, argEnv, reduceAdd]; exact rfl)) (by simp only [zE, zG, op1, ev, lkp, avOf, acOf, cellsAV, acs, capAV, mv1, mvC, Ty.dflt, reduceCtorEq, reduceEqDiff, reduceAdd, reduceLeDiff, reduceLT, reduceMul, reduceSub, Mly.av]) ?_
  refine hK0 _ ?_; clear hK0 K0; simp only [put, app, setAll, trOf, zE, zS, reduceAdd]
  (refine rg_step rfl fun K0 hK0 => ?_; simp only [zE, op1, ev, lkp, avOf, acOf, ev, reduceCtorEq, reduceEqDiff, reduceAdd, reduceLeDiff, reduceLT, reduceMul, reduceSub, Try.td28, Mly.av]; (repeat refine And.intro (by first | omega | assumption | exact rfl) ?_); (first | refine hK0 _ ?_ | refine Or.inl (hK0 _ ?_)); clear hK0 K0; simp only [put, app, setAll, trOf, zE, zS, reduceAdd])
  refine rg_nil ?_
  refine hK3 _ ?_; clear hK3; refine awp_keep [0, 1, 2, 3, 6, 7, 8, 9] ?_; simp only [keepEnv, lkp, zE, reduceCtorEq, reduceEqDiff, argEnv, reduceAdd]
  refine awp_seq_k fun K4 hK4 => ?_
  refine awp_reg hP hN rfl ?_
  iterate 2 (refine rg_step rfl fun K0 hK0 => ?_; simp only [zE, op1, ev, lkp, avOf, acOf, opBin, arith, inK_i64, eqACs, eqAC, reduceCtorEq, reduceEqDiff, reduceAdd, reduceLeDiff, reduceLT, reduceMul, reduceSub, Try.td28, Try.td4, Mly.av]; (repeat refine And.intro (by first | omega | assumption | exact rfl) ?_); (first | refine hK0 _ ?_ | refine Or.inl (hK0 _ ?_)); clear hK0 K0; simp only [put, app, setAll, trOf, zE, zS, reduceAdd])
  refine rg_nil ?_
  refine hK4 _ ?_; clear hK4; refine awp_keep [0, 1, 2, 3, 6, 7, 8, 9, 15] ?_; simp only [keepEnv, lkp, zE, reduceCtorEq, reduceEqDiff, argEnv, reduceAdd]
  refine awp_cond (by simp only [ev, keepEnv, lkp, zE, reduceCtorEq, reduceEqDiff, argEnv, reduceAdd]; exact rfl) (fun hc5 => ?_) (fun hc5 => ?_)
  · (try simp only [zB, reduceCtorEq] at hc5)
    refine awp_seq_k fun K6 hK6 => ?_
    refine awp_reg hP hN rfl ?_
    iterate 4 (refine rg_step rfl fun K0 hK0 => ?_; simp only [zE, op1, ev, lkp, avOf, acOf, ev, reduceCtorEq, reduceEqDiff, reduceAdd, reduceLeDiff, reduceLT, reduceMul, reduceSub, Try.el25, Try.td25, Try.td28, Try.td4, Mly.av]; (repeat refine And.intro (by first | omega | assumption | exact rfl) ?_); (first | refine hK0 _ ?_ | refine Or.inl (hK0 _ ?_)); clear hK0 K0; simp only [put, app, setAll, trOf, zE, zS, reduceAdd])
    refine rg_nil ?_
    refine hK6 _ ?_; clear hK6; refine awp_keep [0, 1, 2, 3, 6, 7, 8, 9, 15] ?_; simp only [keepEnv, lkp, zE, reduceCtorEq, reduceEqDiff, argEnv, reduceAdd]
    refine awp_ret ?_
    refine ⟨by first | exact .inl rfl | exact .inr rfl, _, rfl, ?_⟩; simp only [fzV, fz1, fzC, List.map_cons, List.map_nil, keepEnv, lkp, zE, reduceCtorEq, reduceEqDiff, argEnv, reduceAdd, Mly.av]
    unfold stW stE
    first
    | (rw [if_neg ‹¬validE m = 0›, if_neg (fun hh => ‹¬validE m = 0› hh.1)]; exact vle_tup ⟨vle1_one (cle_nils rfl), vle1_one (.refl _), vle1_one (.refl _), trivial⟩)
    | (rw [if_pos ‹validE m = 0›, if_neg (fun hh => by omega), if_neg (by omega)]; exact vle_tup ⟨vle1_one (cle_nils rfl), vle1_one (.refl _), vle1_one (.refl _), trivial⟩)
    | (rw [if_pos ‹validE m = 0›, if_pos (by refine ⟨by assumption, ?_⟩; omega), if_pos (by omega)]; exact vle_tup ⟨vle1_one (.refl _), vle1_one (.refl _), vle1_one (.refl _), trivial⟩)
  · (try simp only [zB, reduceCtorEq] at hc5)
    refine awp_skip ?_
    refine hK2 _ ?_; clear hK2; refine awp_keep [0, 1, 2, 3, 6, 7, 8, 9, 15] ?_; simp only [keepEnv, lkp, zE, reduceCtorEq, reduceEqDiff, argEnv, reduceAdd]
    refine awp_seq_k fun K7 hK7 => ?_
    refine awp_seq_k fun K8 hK8 => ?_
    refine awp_reg hP hN rfl ?_
    iterate 2 (refine rg_step rfl fun K0 hK0 => ?_; simp only [zE, op1, ev, lkp, avOf, acOf, opBin, arith, inK_i64, eqACs, eqAC, reduceCtorEq, reduceEqDiff, reduceAdd, reduceLeDiff, reduceLT, reduceMul, reduceSub, Try.td3, Try.td4, Mly.av]; (repeat refine And.intro (by first | omega | assumption | exact rfl) ?_); (first | refine hK0 _ ?_ | refine Or.inl (hK0 _ ?_)); clear hK0 K0; simp only [put, app, setAll, trOf, zE, zS, reduceAdd])
    (refine rg_step rfl fun K0 hK0 => ?_; simp only [zE, op1, ev, lkp, avOf, acOf, ev, reduceCtorEq, reduceEqDiff, reduceAdd, reduceLeDiff, reduceLT, reduceMul, reduceSub, Try.td4, Mly.av]; (repeat refine And.intro (by first | omega | assumption | exact rfl) ?_); (first | refine hK0 _ ?_ | refine Or.inl (hK0 _ ?_)); clear hK0 K0; simp only [put, app, setAll, trOf, zE, zS, reduceAdd])
    refine' rg_join_n (want := false) 5 rfl (m := 19) (by simp only [keepEnv, lkp, zE, reduceCtorEq, reduceEqDiff, argEnv, reduceAdd]; exact rfl) (by kernel_rfl) rfl rfl rfl rfl rfl (fun hg9 => ?a9) ?b9 ?c9
    case a9 =>
      have hq9 := hg9; (try simp only [zB, reduceCtorEq] at hg9); simp only [List.take_succ_cons, List.take_zero, List.cons_append, List.nil_append]
      (refine rg_do rfl fun K0 hK0 => ?_; simp only [zE, op1, ev, lkp, avOf, acOf, ev, reduceCtorEq, reduceEqDiff, reduceAdd, reduceLeDiff, reduceLT, reduceMul, reduceSub, Try.td3, Mly.av]; (repeat refine And.intro (by first | omega | assumption | exact rfl) ?_); (first | refine hK0 _ ?_ | refine Or.inl (hK0 _ ?_)); clear hK0 K0; simp only [put, app, setAll, trOf, zE, zS, reduceAdd])
      (refine rg_do rfl fun K0 hK0 => ?_; simp only [zE, op1, ev, lkp, avOf, acOf, opFieldAddr, reduceCtorEq, reduceEqDiff, reduceAdd, reduceLeDiff, reduceLT, reduceMul, reduceSub, Try.st24, Try.td2, Try.td24, Mly.av]; (repeat refine And.intro (by first | omega | assumption | exact rfl) ?_); (first | refine hK0 _ ?_ | refine Or.inl (hK0 _ ?_)); clear hK0 K0; simp only [put, app, setAll, trOf, zE, zS, reduceAdd])
      (refine rg_do rfl fun K0 hK0 => ?_; simp only [zE, op1, ev, lkp, avOf, acOf, opLoad, Nat.mul_one, readAC, isAggK, acs, Ty.dflt, zG, cellsAt, reduceCtorEq, reduceEqDiff, reduceAdd, reduceLeDiff, reduceLT, reduceMul, reduceSub, Try.el22, Try.td22, Mly.av]; (repeat refine And.intro (by first | omega | assumption | exact rfl) ?_); (first | refine hK0 _ ?_ | refine Or.inl (hK0 _ ?_)); clear hK0 K0; simp only [put, app, setAll, trOf, zE, zS, reduceAdd])
      (refine rg_do rfl fun K0 hK0 => ?_; simp only [zE, op1, ev, lkp, avOf, acOf, opCallAny, opMM, opLen, lenAC, lenOk, fpAC, Nat.div_one, opAppend, srcOf, Ty.size, datOf, dite_true, reduceCtorEq, reduceEqDiff, reduceAdd, reduceLeDiff, reduceLT, reduceMul, reduceSub, Try.el22, Try.td22, Try.td3, Mly.av]; (repeat refine And.intro (by first | omega | assumption | exact rfl) ?_); (first | refine hK0 _ ?_ | refine Or.inl (hK0 _ ?_)); clear hK0 K0; simp only [put, app, setAll, trOf, zE, zS, reduceAdd])
      (refine rg_do rfl fun K0 hK0 => ?_; simp only [zE, op1, ev, lkp, avOf, acOf, opBin, arith, inK_i64, eqACs, eqAC, reduceCtorEq, reduceEqDiff, reduceAdd, reduceLeDiff, reduceLT, reduceMul, reduceSub, Try.td3, Try.td4, Mly.av]; (repeat refine And.intro (by first | omega | assumption | exact rfl) ?_); (first | refine hK0 _ ?_ | refine Or.inl (hK0 _ ?_)); clear hK0 K0; simp only [put, app, setAll, trOf, zE, zS, reduceAdd])
      (refine rg_step rfl fun K0 hK0 => ?_; simp only [zE, op1, ev, lkp, avOf, acOf, opPick, reduceCtorEq, reduceEqDiff, reduceAdd, reduceLeDiff, reduceLT, reduceMul, reduceSub, Try.td4, Mly.av]; (repeat refine And.intro (by first | omega | assumption | exact rfl) ?_); (first | refine hK0 _ ?_ | refine Or.inl (hK0 _ ?_)); clear hK0 K0; simp only [put, app, setAll, trOf, zE, zS, reduceAdd])
      refine rg_nil ?_
      refine ⟨by simp only [keepEnv, lkp, zE, reduceCtorEq, reduceEqDiff, argEnv, reduceAdd]; exact rfl, rfl, ?_, rfl⟩; (repeat refine keep_cons rfl ?_); exact keep_m (by exact rfl) hq9
    case b9 => exact tle_of (by first | rfl | (simp [tleB]; done) | decide)
    simp only [join_or, join_and]
    (refine rg_step rfl fun K0 hK0 => ?_; simp only [zE, op1, ev, lkp, avOf, acOf, ev, reduceCtorEq, reduceEqDiff, reduceAdd, reduceLeDiff, reduceLT, reduceMul, reduceSub, Try.td4, Mly.av]; (repeat refine And.intro (by first | omega | assumption | exact rfl) ?_); (first | refine hK0 _ ?_ | refine Or.inl (hK0 _ ?_)); clear hK0 K0; simp only [put, app, setAll, trOf, zE, zS, reduceAdd])
    refine' rg_join_n (want := false) 2 rfl (m := 26) (by simp only [keepEnv, lkp, zE, reduceCtorEq, reduceEqDiff, argEnv, reduceAdd]; exact rfl) (by kernel_rfl) rfl rfl rfl rfl rfl (fun hg10 => ?a10) ?b10 ?c10
    case a10 =>
      have hq10 := hg10; (try simp only [zB, reduceCtorEq] at hg10); simp only [List.take_succ_cons, List.take_zero, List.cons_append, List.nil_append]
      (refine rg_do rfl fun K0 hK0 => ?_; simp only [zE, op1, ev, lkp, avOf, acOf, ev, reduceCtorEq, reduceEqDiff, reduceAdd, reduceLeDiff, reduceLT, reduceMul, reduceSub, Try.td3, Mly.av]; (repeat refine And.intro (by first | omega | assumption | exact rfl) ?_); (first | refine hK0 _ ?_ | refine Or.inl (hK0 _ ?_)); clear hK0 K0; simp only [put, app, setAll, trOf, zE, zS, reduceAdd])
      (refine rg_do rfl fun K0 hK0 => ?_; simp only [zE, op1, ev, lkp, avOf, acOf, opBin, arith, inK_i64, eqACs, eqAC, reduceCtorEq, reduceEqDiff, reduceAdd, reduceLeDiff, reduceLT, reduceMul, reduceSub, Try.td3, Try.td4, Mly.av]; (repeat refine And.intro (by first | omega | assumption | exact rfl) ?_); (first | refine hK0 _ ?_ | refine Or.inl (hK0 _ ?_)); clear hK0 K0; simp only [put, app, setAll, trOf, zE, zS, reduceAdd])
      (refine rg_step rfl fun K0 hK0 => ?_; simp only [zE, op1, ev, lkp, avOf, acOf, opPick, reduceCtorEq, reduceEqDiff, reduceAdd, reduceLeDiff, reduceLT, reduceMul, reduceSub, Try.td4, Mly.av]; (repeat refine And.intro (by first | omega | assumption | exact rfl) ?_); (first | refine hK0 _ ?_ | refine Or.inl (hK0 _ ?_)); clear hK0 K0; simp only [put, app, setAll, trOf, zE, zS, reduceAdd])
      refine rg_nil ?_
      refine ⟨by simp only [keepEnv, lkp, zE, reduceCtorEq, reduceEqDiff, argEnv, reduceAdd]; exact rfl, rfl, ?_, rfl⟩; (repeat refine keep_cons rfl ?_); exact keep_m (by exact rfl) hq10
    case b10 => exact tle_of (by first | rfl | (simp [tleB]; done) | decide)
    simp only [join_or, join_and]
    (refine rg_step rfl fun K0 hK0 => ?_; simp only [zE, op1, ev, lkp, avOf, acOf, ev, reduceCtorEq, reduceEqDiff, reduceAdd, reduceLeDiff, reduceLT, reduceMul, reduceSub, Try.td4, Mly.av]; (repeat refine And.intro (by first | omega | assumption | exact rfl) ?_); (first | refine hK0 _ ?_ | refine Or.inl (hK0 _ ?_)); clear hK0 K0; simp only [put, app, setAll, trOf, zE, zS, reduceAdd])
    refine' rg_join_n (want := false) 5 rfl (m := 30) (by simp only [keepEnv, lkp, zE, reduceCtorEq, reduceEqDiff, argEnv, reduceAdd]; exact rfl) (by kernel_rfl) rfl rfl rfl rfl rfl (fun hg11 => ?a11) ?b11 ?c11
    case a11 =>
      have hq11 := hg11; (try simp only [zB, reduceCtorEq] at hg11); simp only [List.take_succ_cons, List.take_zero, List.cons_append, List.nil_append]
      (refine rg_do rfl fun K0 hK0 => ?_; simp only [zE, op1, ev, lkp, avOf, acOf, ev, reduceCtorEq, reduceEqDiff, reduceAdd, reduceLeDiff, reduceLT, reduceMul, reduceSub, Try.td3, Mly.av]; (repeat refine And.intro (by first | omega | assumption | exact rfl) ?_); (first | refine hK0 _ ?_ | refine Or.inl (hK0 _ ?_)); clear hK0 K0; simp only [put, app, setAll, trOf, zE, zS, reduceAdd])
      (refine rg_do rfl fun K0 hK0 => ?_; simp only [zE, op1, ev, lkp, avOf, acOf, opFieldAddr, reduceCtorEq, reduceEqDiff, reduceAdd, reduceLeDiff, reduceLT, reduceMul, reduceSub, Try.st24, Try.td2, Try.td24, Mly.av]; (repeat refine And.intro (by first | omega | assumption | exact rfl) ?_); (first | refine hK0 _ ?_ | refine Or.inl (hK0 _ ?_)); clear hK0 K0; simp only [put, app, setAll, trOf, zE, zS, reduceAdd])
      (refine rg_do rfl fun K0 hK0 => ?_; simp only [zE, op1, ev, lkp, avOf, acOf, opLoad, Nat.mul_one, readAC, isAggK, acs, Ty.dflt, zG, cellsAt, reduceCtorEq, reduceEqDiff, reduceAdd, reduceLeDiff, reduceLT, reduceMul, reduceSub, Try.el22, Try.td22, Mly.av]; (repeat refine And.intro (by first | omega | assumption | exact rfl) ?_); (first | refine hK0 _ ?_ | refine Or.inl (hK0 _ ?_)); clear hK0 K0; simp only [put, app, setAll, trOf, zE, zS, reduceAdd])
      (refine rg_do rfl fun K0 hK0 => ?_; simp only [zE, op1, ev, lkp, avOf, acOf, opCallAny, opMM, opLen, lenAC, lenOk, fpAC, Nat.div_one, opAppend, srcOf, Ty.size, datOf, dite_true, reduceCtorEq, reduceEqDiff, reduceAdd, reduceLeDiff, reduceLT, reduceMul, reduceSub, Try.el22, Try.td22, Try.td3, Mly.av]; (repeat refine And.intro (by first | omega | assumption | exact rfl) ?_); (first | refine hK0 _ ?_ | refine Or.inl (hK0 _ ?_)); clear hK0 K0; simp only [put, app, setAll, trOf, zE, zS, reduceAdd])
      (refine rg_do rfl fun K0 hK0 => ?_; simp only [zE, op1, ev, lkp, avOf, acOf, opBin, arith, inK_i64, eqACs, eqAC, reduceCtorEq, reduceEqDiff, reduceAdd, reduceLeDiff, reduceLT, reduceMul, reduceSub, Try.td3, Try.td4, Mly.av]; (repeat refine And.intro (by first | omega | assumption | exact rfl) ?_); (first | refine hK0 _ ?_ | refine Or.inl (hK0 _ ?_)); clear hK0 K0; simp only [put, app, setAll, trOf, zE, zS, reduceAdd])
      (refine rg_step rfl fun K0 hK0 => ?_; simp only [zE, op1, ev, lkp, avOf, acOf, opPick, reduceCtorEq, reduceEqDiff, reduceAdd, reduceLeDiff, reduceLT, reduceMul, reduceSub, Try.td4, Mly.av]; (repeat refine And.intro (by first | omega | assumption | exact rfl) ?_); (first | refine hK0 _ ?_ | refine Or.inl (hK0 _ ?_)); clear hK0 K0; simp only [put, app, setAll, trOf, zE, zS, reduceAdd])
      refine rg_nil ?_
      refine ⟨by simp only [keepEnv, lkp, zE, reduceCtorEq, reduceEqDiff, argEnv, reduceAdd]; exact rfl, rfl, ?_, rfl⟩; (repeat refine keep_cons rfl ?_); exact keep_m (by exact rfl) hq11
    case b11 => exact tle_of (by first | rfl | (simp [tleB]; done) | decide)
    simp only [join_or, join_and]
    refine rg_nil ?_
    refine hK8 _ ?_; clear hK8; refine awp_keep [0, 1, 2, 3, 6, 7, 8, 9, 15, 36] ?_; simp only [keepEnv, lkp, zE, reduceCtorEq, reduceEqDiff, argEnv, reduceAdd]
    refine awp_cond (by simp only [ev, keepEnv, lkp, zE, reduceCtorEq, reduceEqDiff, argEnv, reduceAdd]; exact rfl) (fun hc12 => ?_) (fun hc12 => ?_)
    · (try simp only [zB, reduceCtorEq] at hc12)
      refine awp_seq_k fun K13 hK13 => ?_
      refine awp_reg hP hN rfl ?_
      iterate 3 (refine rg_step rfl fun K0 hK0 => ?_; simp only [zE, op1, ev, lkp, avOf, acOf, ev, reduceCtorEq, reduceEqDiff, reduceAdd, reduceLeDiff, reduceLT, reduceMul, reduceSub, Try.el25, Try.td25, Try.td28, Try.td4, Mly.av]; (repeat refine And.intro (by first | omega | assumption | exact rfl) ?_); (first | refine hK0 _ ?_ | refine Or.inl (hK0 _ ?_)); clear hK0 K0; simp only [put, app, setAll, trOf, zE, zS, reduceAdd])
      refine rg_nil ?_
      refine hK13 _ ?_; clear hK13; refine awp_keep [0, 1, 2, 3, 6, 7, 8, 9, 15, 36] ?_; simp only [keepEnv, lkp, zE, reduceCtorEq, reduceEqDiff, argEnv, reduceAdd]
      refine awp_ret ?_
      refine ⟨by first | exact .inl rfl | exact .inr rfl, _, rfl, ?_⟩; simp only [fzV, fz1, fzC, List.map_cons, List.map_nil, keepEnv, lkp, zE, reduceCtorEq, reduceEqDiff, argEnv, reduceAdd, Mly.av]
      unfold stW stE
      first
      | (rw [if_neg ‹¬validE m = 0›, if_neg (fun hh => ‹¬validE m = 0› hh.1)]; exact vle_tup ⟨vle1_one (cle_nils rfl), vle1_one (.refl _), vle1_one (.refl _), trivial⟩)
      | (rw [if_pos ‹validE m = 0›, if_neg (fun hh => by omega), if_neg (by omega)]; exact vle_tup ⟨vle1_one (cle_nils rfl), vle1_one (.refl _), vle1_one (.refl _), trivial⟩)
      | (rw [if_pos ‹validE m = 0›, if_pos (by refine ⟨by assumption, ?_⟩; omega), if_pos (by omega)]; exact vle_tup ⟨vle1_one (.refl _), vle1_one (.refl _), vle1_one (.refl _), trivial⟩)
    · (try simp only [zB, reduceCtorEq] at hc12)
      refine awp_skip ?_
      refine hK7 _ ?_; clear hK7; refine awp_keep [0, 1, 2, 3, 6, 7, 8, 9, 15, 36] ?_; simp only [keepEnv, lkp, zE, reduceCtorEq, reduceEqDiff, argEnv, reduceAdd]
      refine awp_seq_k fun K14 hK14 => ?_
      refine awp_reg hP hN rfl ?_
      iterate 5 (refine rg_step rfl fun K0 hK0 => ?_; simp only [zE, op1, ev, lkp, avOf, acOf, opLoad, Nat.mul_one, readAC, isAggK, acs, Ty.dflt, zG, cellsAt, opBuild, fillAC, writeAC, cellsAV, reduceCtorEq, reduceEqDiff, reduceAdd, reduceLeDiff, reduceLT, reduceMul, reduceSub, Try.fl89, Try.st24, Try.st89, Try.td24, Try.td3, Try.td89, Mly.av]; (repeat refine And.intro (by first | omega | assumption | exact rfl) ?_); (first | refine hK0 _ ?_ | refine Or.inl (hK0 _ ?_)); clear hK0 K0; simp only [put, app, setAll, trOf, zE, zS, reduceAdd])
      refine rg_step rfl fun K0 hK0 => ?_
      refine op_call (h := call_of_pure (search_c m m s t (mok_of (by assumption)) (mok_of (by assumption)) rfl (by omega) (by omega))) rfl rfl (by first | exact rfl | (simp only [ev, keepEnv, lkp, zE, reduceCtorEq, reduceEqDiff, argEnv, reduceAdd]; exact rfl)) (by simp only [zE, zG, op1, ev, lkp, avOf, acOf, cellsAV, acs, capAV, mv1, mvC, Ty.dflt, reduceCtorEq, reduceEqDiff, reduceAdd, reduceLeDiff, reduceLT, reduceMul, reduceSub, Mly.av]) ?_
      refine hK0 _ ?_; clear hK0 K0; simp only [put, app, setAll, trOf, zE, zS, reduceAdd]
      iterate 5 (refine rg_step rfl fun K0 hK0 => ?_; simp only [zE, op1, ev, lkp, avOf, acOf, opExtract, reduceCtorEq, reduceEqDiff, reduceAdd, reduceLeDiff, reduceLT, reduceMul, reduceSub, Try.el25, Try.td1, Try.td25, Try.td4, Mly.av]; (repeat refine And.intro (by first | omega | assumption | exact rfl) ?_); (first | refine hK0 _ ?_ | refine Or.inl (hK0 _ ?_)); clear hK0 K0; simp only [put, app, setAll, trOf, zE, zS, reduceAdd])
      refine rg_nil ?_
      refine hK14 _ ?_; clear hK14; refine awp_keep [0, 1, 2, 3, 6, 7, 8, 9, 10, 11, 15, 36] ?_; simp only [keepEnv, lkp, zE, reduceCtorEq, reduceEqDiff, argEnv, reduceAdd]
      refine awp_seq_k fun K15 hK15 => ?_
      refine awp_reg hP hN rfl ?_
      iterate 5 (refine rg_step rfl fun K0 hK0 => ?_; simp only [zE, op1, ev, lkp, avOf, acOf, ev, reduceCtorEq, reduceEqDiff, reduceAdd, reduceLeDiff, reduceLT, reduceMul, reduceSub, Try.el25, Try.td25, Try.td28, Try.td4, Mly.av]; (repeat refine And.intro (by first | omega | assumption | exact rfl) ?_); (first | refine hK0 _ ?_ | refine Or.inl (hK0 _ ?_)); clear hK0 K0; simp only [put, app, setAll, trOf, zE, zS, reduceAdd])
      refine rg_nil ?_
      refine hK15 _ ?_; clear hK15; refine awp_keep [0, 1, 2, 3, 6, 7, 8, 9, 10, 11, 15, 36] ?_; simp only [keepEnv, lkp, zE, reduceCtorEq, reduceEqDiff, argEnv, reduceAdd]
      refine awp_ret ?_
      refine ⟨by first | exact .inl rfl | exact .inr rfl, _, rfl, ?_⟩; simp only [fzV, fz1, fzC, List.map_cons, List.map_nil, keepEnv, lkp, zE, reduceCtorEq, reduceEqDiff, argEnv, reduceAdd, Mly.av]
      unfold stW stE
      first
      | (rw [if_neg ‹¬validE m = 0›, if_neg (fun hh => ‹¬validE m = 0› hh.1)]; exact vle_tup ⟨vle1_one (cle_nils rfl), vle1_one (.refl _), vle1_one (.refl _), trivial⟩)
      | (rw [if_pos ‹validE m = 0›, if_neg (fun hh => by omega), if_neg (by omega)]; exact vle_tup ⟨vle1_one (cle_nils rfl), vle1_one (.refl _), vle1_one (.refl _), trivial⟩)
      | (rw [if_pos ‹validE m = 0›, if_pos (by refine ⟨by assumption, ?_⟩; omega), if_pos (by omega)]; exact vle_tup ⟨vle1_one (.refl _), vle1_one (.refl _), vle1_one (.refl _), trivial⟩)
end Go.Proofs.Ytceafldjjedhcaa
namespace Go.Proofs.Ytceafldjjedhcaa
open Go Go.AV
open Nat (reduceEqDiff reduceAdd reduceLeDiff reduceLT reduceMul reduceSub)
open List (set_cons_zero set_cons_succ)
theorem estK_c (m : Mly) (s t : Int) (hm : MOK m) (hs : 0 ≤ s ∧ s < m.nx.length) (ht : 0 ≤ t ∧ t < m.nx.length) : PURE Try.prog 29 [m.av, .one (.int .i64 s), .one (.int .i64 t)] (.tup [.one (.list (.int .i64) ((seS m m s t).getD [])), .one (.bool (seS m m s t).isSome), .one (.int .i64 0)]) := by
  have h := est_c m s t
  unfold stW stE at h
  have hv := validE_of hm
  rw [if_pos ⟨hv, hs, ht⟩, if_pos hv, if_pos ⟨hs, ht⟩] at h
  exact h

end Go.Proofs.Ytceafldjjedhcaa
namespace Go.AV
open Nat (reduceEqDiff reduceAdd reduceLeDiff reduceLT reduceMul reduceSub)
open List (set_cons_zero set_cons_succ)
/-plain-/
theorem srS_len {a b : Mly} (ha : MOK a) (hb : MOK b) (hi : a.inp = b.inp) : ∀ (f i : Nat) (l : List S3), WFS a b l → ∀ w, srS a b f i l = some w → w.length ≤ 16385
  | 0, _, _, _, w, h => by cases h
  | f + 1, i, l, hl, w, h => by
    simp only [srS] at h
    split at h
    · rename_i hil
      have h1 := hl.wl hil
      have h2 := hl.big ha hb
      have h3 := ha.i1
      split at h
      · simp only [Option.some.injEq] at h; subst h
        rw [List.length_append]; simp only [List.length_cons, List.length_nil]; omega
      · exact srS_len ha hb hi f (i + 1) _ (hl.row ha hb hi hil a.inp.toNat (by omega)) w h
    · cases h
theorem seS_len {a b : Mly} (ha : MOK a) (hb : MOK b) (hi : a.inp = b.inp) {s t : Int} (hs : 0 ≤ s ∧ s < a.nx.length) (ht : 0 ≤ t ∧ t < b.nx.length) : ((seS a b s t).getD []).length ≤ 16385 := by
  cases h : seS a b s t with
  | none => simp
  | some w => exact srS_len ha hb hi _ _ _ (wfs_one hs ht) w h
end Go.AV
namespace Go.Proofs.Ytceafldjjedhcaa
open Go Go.AV
open Nat (reduceEqDiff reduceAdd reduceLeDiff reduceLT reduceMul reduceSub)
open List (set_cons_zero set_cons_succ)
set_option maxRecDepth 100000 in
set_option maxHeartbeats 1000000 in
theorem wit_c (m : Mly) (cl : List Int) : PURE Try.prog 11 [m.av, .one (.list (.int .i64) cl)] (.tup [.one (.list (.int .i64) (wU m cl)), .one (.list (.int .i64) (wV m cl)), .one (.bool (stpB m cl)), .one (.int .i64 (chkE m cl))]) := by
  obtain ⟨p, hpt, hpn⟩ : ∃ p : Nat × Nat × Nat, ((finI m cl).isSome = true → finI m cl = some p) ∧ ((finI m cl).isSome = false → p = (0, 0, 0)) := by
    cases hf : finI m cl with
    | none => exact ⟨(0, 0, 0), fun h => by simp at h, fun _ => rfl⟩
    | some q => exact ⟨q, fun _ => rfl, fun h => by simp at h⟩
  refine pure_of_le Try.func11 rfl (by kernel_rfl) (Nat.le_of_ble_eq_true rfl) rfl fun C hP hN hB => ?_
  replace hN : C.N = 118 := hN
  simp only [argEnv, reduceAdd]
  refine awp_seq_k fun K1 hK1 => ?_
  refine awp_reg hP hN rfl ?_
  iterate 5 (refine rg_step rfl fun K0 hK0 => ?_; simp only [zE, op1, ev, lkp, avOf, acOf, opBox, cellsAV, reduceCtorEq, reduceEqDiff, reduceAdd, reduceLeDiff, reduceLT, reduceMul, reduceSub, Try.el25, Try.st24, Try.td24, Try.td25, Try.td28, Try.td4, Mly.av]; (repeat refine And.intro (by first | omega | assumption | exact rfl) ?_); (first | refine hK0 _ ?_ | refine Or.inl (hK0 _ ?_)); clear hK0 K0; simp only [put, app, setAll, trOf, zE, zS, reduceAdd])
  refine rg_nil ?_
  refine hK1 _ ?_; clear hK1; refine awp_keep [0, 1, 2, 4, 5, 6, 7] ?_; simp only [keepEnv, lkp, zE, reduceCtorEq, reduceEqDiff, argEnv, reduceAdd]
  refine awp_seq_k fun K2 hK2 => ?_
  refine awp_seq_k fun K3 hK3 => ?_
  refine awp_reg hP hN rfl ?_
  iterate 2 (refine rg_step rfl fun K0 hK0 => ?_; simp only [zE, op1, ev, lkp, avOf, acOf, opLoad, Nat.mul_one, readAC, isAggK, acs, Ty.dflt, zG, cellsAt, reduceCtorEq, reduceEqDiff, reduceAdd, reduceLeDiff, reduceLT, reduceMul, reduceSub, Try.el25, Try.st24, Try.td24, Try.td25, Mly.av]; (repeat refine And.intro (by first | omega | assumption | exact rfl) ?_); (first | refine hK0 _ ?_ | refine Or.inl (hK0 _ ?_)); clear hK0 K0; simp only [put, app, setAll, trOf, zE, zS, reduceAdd])
  refine rg_step rfl fun K0 hK0 => ?_
  refine op_call (h := call_of_pure (rchk_c m cl)) rfl rfl (by first | exact rfl | (simp only [ev, keepEnv, lkp, zE, reduceCtorEq, reduceEqDiff, argEnv, reduceAdd]; exact rfl)) (by simp only [zE, zG, op1, ev, lkp, avOf, acOf, cellsAV, acs, capAV, mv1, mvC, Ty.dflt, reduceCtorEq, reduceEqDiff, reduceAdd, reduceLeDiff, reduceLT, reduceMul, reduceSub, Mly.av]) ?_
  refine hK0 _ ?_; clear hK0 K0; simp only [put, app, setAll, trOf, zE, zS, reduceAdd]
  (refine rg_step rfl fun K0 hK0 => ?_; simp only [zE, op1, ev, lkp, avOf, acOf, ev, reduceCtorEq, reduceEqDiff, reduceAdd, reduceLeDiff, reduceLT, reduceMul, reduceSub, Try.td28, Mly.av]; (repeat refine And.intro (by first | omega | assumption | exact rfl) ?_); (first | refine hK0 _ ?_ | refine Or.inl (hK0 _ ?_)); clear hK0 K0; simp only [put, app, setAll, trOf, zE, zS, reduceAdd])
  refine rg_nil ?_
  refine hK3 _ ?_; clear hK3; refine awp_keep [0, 1, 2, 4, 5, 6, 7, 8] ?_; simp only [keepEnv, lkp, zE, reduceCtorEq, reduceEqDiff, argEnv, reduceAdd]
  refine awp_seq_k fun K4 hK4 => ?_
  refine awp_reg hP hN rfl ?_
  iterate 2 (refine rg_step rfl fun K0 hK0 => ?_; simp only [zE, op1, ev, lkp, avOf, acOf, opBin, arith, inK_i64, eqACs, eqAC, reduceCtorEq, reduceEqDiff, reduceAdd, reduceLeDiff, reduceLT, reduceMul, reduceSub, Try.td28, Try.td4, Mly.av]; (repeat refine And.intro (by first | omega | assumption | exact rfl) ?_); (first | refine hK0 _ ?_ | refine Or.inl (hK0 _ ?_)); clear hK0 K0; simp only [put, app, setAll, trOf, zE, zS, reduceAdd])
  refine rg_nil ?_
  refine hK4 _ ?_; clear hK4; refine awp_keep [0, 1, 2, 4, 5, 6, 7, 8, 22] ?_; simp only [keepEnv, lkp, zE, reduceCtorEq, reduceEqDiff, argEnv, reduceAdd]
  refine awp_cond (by simp only [ev, keepEnv, lkp, zE, reduceCtorEq, reduceEqDiff, argEnv, reduceAdd]; exact rfl) (fun hc5 => ?_) (fun hc5 => ?_)
  · (try simp only [zB, reduceCtorEq] at hc5)
    refine awp_seq_k fun K6 hK6 => ?_
    refine awp_reg hP hN rfl ?_
    iterate 5 (refine rg_step rfl fun K0 hK0 => ?_; simp only [zE, op1, ev, lkp, avOf, acOf, ev, reduceCtorEq, reduceEqDiff, reduceAdd, reduceLeDiff, reduceLT, reduceMul, reduceSub, Try.el25, Try.td25, Try.td28, Try.td4, Mly.av]; (repeat refine And.intro (by first | omega | assumption | exact rfl) ?_); (first | refine hK0 _ ?_ | refine Or.inl (hK0 _ ?_)); clear hK0 K0; simp only [put, app, setAll, trOf, zE, zS, reduceAdd])
    refine rg_nil ?_
    refine hK6 _ ?_; clear hK6; refine awp_keep [0, 1, 2, 4, 5, 6, 7, 8, 22] ?_; simp only [keepEnv, lkp, zE, reduceCtorEq, reduceEqDiff, argEnv, reduceAdd]
    refine awp_ret ?_
    refine ⟨by first | exact .inl rfl | exact .inr rfl, _, rfl, ?_⟩; simp only [fzV, fz1, fzC, List.map_cons, List.map_nil, keepEnv, lkp, zE, reduceCtorEq, reduceEqDiff, argEnv, reduceAdd, Mly.av]
    unfold wU wV stpB
    first
    | (rw [if_neg ‹¬chkE m cl = 0›, if_neg ‹¬chkE m cl = 0›, if_neg ‹¬chkE m cl = 0›]; exact vle_tup ⟨vle1_one (cle_nils rfl), vle1_one (cle_nils rfl), vle1_one (.refl _), vle1_one (.refl _), trivial⟩)
    | (rw [if_pos ‹chkE m cl = 0›, if_pos ‹chkE m cl = 0›, if_pos ‹chkE m cl = 0›, ‹chkE m cl = 0›, hfn]; exact vle_tup ⟨vle1_one (cle_nils rfl), vle1_one (cle_nils rfl), vle1_one (.refl _), vle1_one (.refl _), trivial⟩)
    | (rw [if_pos ‹chkE m cl = 0›, if_pos ‹chkE m cl = 0›, if_pos ‹chkE m cl = 0›, ‹chkE m cl = 0›, hfs]
       have hO : m.out (m.exR.getD p.1 eX0).1 p.2.1 = m.out (m.exR.getD p.1 eX0).1 p.2.2 := by assumption
       have hT : wTl m p = _ := if_pos hO
       dsimp only; rw [hT]; refine VLE.of_eq ?_; simp [Mly.nxt, List.append_assoc])
    | (rw [if_pos ‹chkE m cl = 0›, if_pos ‹chkE m cl = 0›, if_pos ‹chkE m cl = 0›, ‹chkE m cl = 0›, hfs]
       have hO : ¬ m.out (m.exR.getD p.1 eX0).1 p.2.1 = m.out (m.exR.getD p.1 eX0).1 p.2.2 := by assumption
       have hT : wTl m p = _ := if_neg hO
       dsimp only; rw [hT]; refine VLE.of_eq ?_; simp [Mly.nxt, List.append_assoc])
  · (try simp only [zB, reduceCtorEq] at hc5)
    refine awp_skip ?_
    refine hK2 _ ?_; clear hK2; refine awp_keep [0, 1, 2, 4, 5, 6, 7, 8, 22] ?_; simp only [keepEnv, lkp, zE, reduceCtorEq, reduceEqDiff, argEnv, reduceAdd]
    refine awp_seq_k fun K7 hK7 => ?_
    refine awp_reg hP hN rfl ?_
    (refine rg_step rfl fun K0 hK0 => ?_; simp only [zE, op1, ev, lkp, avOf, acOf, opLoad, Nat.mul_one, readAC, isAggK, acs, Ty.dflt, zG, cellsAt, reduceCtorEq, reduceEqDiff, reduceAdd, reduceLeDiff, reduceLT, reduceMul, reduceSub, Try.st24, Try.td24, Mly.av]; (repeat refine And.intro (by first | omega | assumption | exact rfl) ?_); (first | refine hK0 _ ?_ | refine Or.inl (hK0 _ ?_)); clear hK0 K0; simp only [put, app, setAll, trOf, zE, zS, reduceAdd])
    refine rg_step rfl fun K0 hK0 => ?_
    refine op_call (h := call_of_pure (explore_c m (validE_of (cok_of (by assumption)).ok))) rfl rfl (by first | exact rfl | (simp only [ev, keepEnv, lkp, zE, reduceCtorEq, reduceEqDiff, argEnv, reduceAdd]; exact rfl)) (by simp only [zE, zG, op1, ev, lkp, avOf, acOf, cellsAV, acs, capAV, mv1, mvC, Ty.dflt, reduceCtorEq, reduceEqDiff, reduceAdd, reduceLeDiff, reduceLT, reduceMul, reduceSub, Mly.av]) ?_
    refine hK0 _ ?_; clear hK0 K0; simp only [put, app, setAll, trOf, zE, zS, reduceAdd]
    iterate 2 (refine rg_step rfl fun K0 hK0 => ?_; simp only [zE, op1, ev, lkp, avOf, acOf, opAlloc, opStore, Nat.mul_one, cellsAV, writeAC, datOf, acs, Ty.size, Ty.dflt, zG, reduceCtorEq, reduceEqDiff, reduceAdd, reduceLeDiff, reduceLT, reduceMul, reduceSub, Try.st57, Try.td57, Mly.av]; (repeat refine And.intro (by first | omega | assumption | exact rfl) ?_); (first | refine hK0 _ ?_ | refine Or.inl (hK0 _ ?_)); clear hK0 K0; simp only [put, app, setAll, trOf, zE, zS, reduceAdd])
    refine rg_nil ?_
    refine hK7 _ ?_; clear hK7; refine awp_keep [0, 1, 2, 4, 5, 6, 7, 8, 9, 22] ?_; simp only [keepEnv, lkp, zE, reduceCtorEq, reduceEqDiff, argEnv, reduceAdd]
    refine awp_seq_k fun K8 hK8 => ?_
    refine awp_reg hP hN rfl ?_
    iterate 2 (refine rg_step rfl fun K0 hK0 => ?_; simp only [zE, op1, ev, lkp, avOf, acOf, opLoad, Nat.mul_one, readAC, isAggK, acs, Ty.dflt, zG, cellsAt, reduceCtorEq, reduceEqDiff, reduceAdd, reduceLeDiff, reduceLT, reduceMul, reduceSub, Try.el25, Try.st57, Try.td25, Try.td57, Mly.av]; (repeat refine And.intro (by first | omega | assumption | exact rfl) ?_); (first | refine hK0 _ ?_ | refine Or.inl (hK0 _ ?_)); clear hK0 K0; simp only [put, app, setAll, trOf, zE, zS, reduceAdd])
    refine rg_step rfl fun K0 hK0 => ?_
    refine op_call (h := call_of_pure (rfindS_c m cl (cok_of (by assumption)) p _ rfl hpt hpn)) rfl rfl (by first | exact rfl | (simp only [ev, keepEnv, lkp, zE, reduceCtorEq, reduceEqDiff, argEnv, reduceAdd]; exact rfl)) (by simp only [zE, zG, op1, ev, lkp, avOf, acOf, cellsAV, acs, capAV, mv1, mvC, Ty.dflt, reduceCtorEq, reduceEqDiff, reduceAdd, reduceLeDiff, reduceLT, reduceMul, reduceSub, Mly.av]) ?_
    refine hK0 _ ?_; clear hK0 K0; simp only [put, app, setAll, trOf, zE, zS, reduceAdd]
    iterate 6 (refine rg_step rfl fun K0 hK0 => ?_; simp only [zE, op1, ev, lkp, avOf, acOf, opExtract, opAlloc, opStore, Nat.mul_one, cellsAV, writeAC, datOf, acs, Ty.size, Ty.dflt, zG, reduceCtorEq, reduceEqDiff, reduceAdd, reduceLeDiff, reduceLT, reduceMul, reduceSub, Try.fl60, Try.st60, Try.td1, Try.td4, Try.td60, Mly.av]; (repeat refine And.intro (by first | omega | assumption | exact rfl) ?_); (first | refine hK0 _ ?_ | refine Or.inl (hK0 _ ?_)); clear hK0 K0; simp only [put, app, setAll, trOf, zE, zS, reduceAdd])
    refine rg_nil ?_
    refine hK8 _ ?_; clear hK8; refine awp_keep [0, 1, 2, 4, 5, 6, 7, 8, 9, 10, 11, 22] ?_; simp only [keepEnv, lkp, zE, reduceCtorEq, reduceEqDiff, argEnv, reduceAdd]
    refine awp_seq_k fun K9 hK9 => ?_
    refine awp_seq_k fun K10 hK10 => ?_
    refine awp_reg hP hN rfl ?_
    iterate 2 (refine rg_step rfl fun K0 hK0 => ?_; simp only [zE, op1, ev, lkp, avOf, acOf, opUn, reduceCtorEq, reduceEqDiff, reduceAdd, reduceLeDiff, reduceLT, reduceMul, reduceSub, Try.td4, Mly.av]; (repeat refine And.intro (by first | omega | assumption | exact rfl) ?_); (first | refine hK0 _ ?_ | refine Or.inl (hK0 _ ?_)); clear hK0 K0; simp only [put, app, setAll, trOf, zE, zS, reduceAdd])
    refine rg_nil ?_
    refine hK10 _ ?_; clear hK10; refine awp_keep [0, 1, 2, 4, 5, 6, 7, 8, 9, 10, 11, 22, 33] ?_; simp only [keepEnv, lkp, zE, reduceCtorEq, reduceEqDiff, argEnv, reduceAdd]
    refine awp_cond (by simp only [ev, keepEnv, lkp, zE, reduceCtorEq, reduceEqDiff, argEnv, reduceAdd]; exact rfl) (fun hc11 => ?_) (fun hc11 => ?_)
    · (try simp only [zB, reduceCtorEq] at hc11)
      have hfn : finI m cl = none := by simpa using hc11
      refine awp_seq_k fun K12 hK12 => ?_
      refine awp_reg hP hN rfl ?_
      iterate 4 (refine rg_step rfl fun K0 hK0 => ?_; simp only [zE, op1, ev, lkp, avOf, acOf, ev, reduceCtorEq, reduceEqDiff, reduceAdd, reduceLeDiff, reduceLT, reduceMul, reduceSub, Try.el25, Try.td25, Try.td28, Try.td4, Mly.av]; (repeat refine And.intro (by first | omega | assumption | exact rfl) ?_); (first | refine hK0 _ ?_ | refine Or.inl (hK0 _ ?_)); clear hK0 K0; simp only [put, app, setAll, trOf, zE, zS, reduceAdd])
      refine rg_nil ?_
      refine hK12 _ ?_; clear hK12; refine awp_keep [0, 1, 2, 4, 5, 6, 7, 8, 9, 10, 11, 22, 33] ?_; simp only [keepEnv, lkp, zE, reduceCtorEq, reduceEqDiff, argEnv, reduceAdd]
      refine awp_ret ?_
      refine ⟨by first | exact .inl rfl | exact .inr rfl, _, rfl, ?_⟩; simp only [fzV, fz1, fzC, List.map_cons, List.map_nil, keepEnv, lkp, zE, reduceCtorEq, reduceEqDiff, argEnv, reduceAdd, Mly.av]
      unfold wU wV stpB
      first
      | (rw [if_neg ‹¬chkE m cl = 0›, if_neg ‹¬chkE m cl = 0›, if_neg ‹¬chkE m cl = 0›]; exact vle_tup ⟨vle1_one (cle_nils rfl), vle1_one (cle_nils rfl), vle1_one (.refl _), vle1_one (.refl _), trivial⟩)
      | (rw [if_pos ‹chkE m cl = 0›, if_pos ‹chkE m cl = 0›, if_pos ‹chkE m cl = 0›, ‹chkE m cl = 0›, hfn]; exact vle_tup ⟨vle1_one (cle_nils rfl), vle1_one (cle_nils rfl), vle1_one (.refl _), vle1_one (.refl _), trivial⟩)
      | (rw [if_pos ‹chkE m cl = 0›, if_pos ‹chkE m cl = 0›, if_pos ‹chkE m cl = 0›, ‹chkE m cl = 0›, hfs]
         have hO : m.out (m.exR.getD p.1 eX0).1 p.2.1 = m.out (m.exR.getD p.1 eX0).1 p.2.2 := by assumption
         have hT : wTl m p = _ := if_pos hO
         dsimp only; rw [hT]; refine VLE.of_eq ?_; simp [Mly.nxt, List.append_assoc])
      | (rw [if_pos ‹chkE m cl = 0›, if_pos ‹chkE m cl = 0›, if_pos ‹chkE m cl = 0›, ‹chkE m cl = 0›, hfs]
         have hO : ¬ m.out (m.exR.getD p.1 eX0).1 p.2.1 = m.out (m.exR.getD p.1 eX0).1 p.2.2 := by assumption
         have hT : wTl m p = _ := if_neg hO
         dsimp only; rw [hT]; refine VLE.of_eq ?_; simp [Mly.nxt, List.append_assoc])
    · (try simp only [zB, reduceCtorEq] at hc11)
      have hfs : finI m cl = some p := hpt (by simpa using hc11)
      have hk := cok_of (m := m) (cl := cl) (by assumption); have hm := hk.ok; have hlen := hk.len; have hi1 := hm.i1; have hi2 := hm.i2; have hn2 := hm.n2; have hol := hm.ol
      have hps := finI_spec hfs; have hwx := wfx_exR hm; have hxl := hwx.le; have hfx := fstX_len m.exR; have hsx := sndX_len m.exR; have hgx := fstX_at hps.1.1; have hgs := sndX_at hps.1.1; have hat := hwx.at_ hps.1.1; have hwl := hwx.wl _ (mem_X hps.1.1)
      have har := hm.rl (m.exR.getD p.1 eX0).1.toNat (by omega); have haq := hm.ql (m.exR.getD p.1 eX0).1.toNat (by omega)
      have hnc : 0 ≤ ((m.nx.getD (m.exR.getD p.1 eX0).1.toNat []).getD (p.2.1) 0) ∧ ((m.nx.getD (m.exR.getD p.1 eX0).1.toNat []).getD (p.2.1) 0) < m.nx.length := hm.nr (m.exR.getD p.1 eX0).1.toNat p.2.1 (by omega) (by omega)
      have hnd : 0 ≤ ((m.nx.getD (m.exR.getD p.1 eX0).1.toNat []).getD (p.2.2) 0) ∧ ((m.nx.getD (m.exR.getD p.1 eX0).1.toNat []).getD (p.2.2) 0) < m.nx.length := hm.nr (m.exR.getD p.1 eX0).1.toNat p.2.2 (by omega) (by omega)
      have hsl := seS_len hm hm rfl hnc hnd
      refine awp_skip ?_
      refine hK9 _ ?_; clear hK9; refine awp_keep [0, 1, 2, 4, 5, 6, 7, 8, 9, 10, 11, 22, 33] ?_; simp only [keepEnv, lkp, zE, reduceCtorEq, reduceEqDiff, argEnv, reduceAdd]
      refine awp_seq_k fun K13 hK13 => ?_
      refine awp_reg hP hN rfl ?_
      iterate 7 (refine rg_step rfl fun K0 hK0 => ?_; simp only [zE, op1, ev, lkp, avOf, acOf, opFieldAddr, opLoad, Nat.mul_one, readAC, isAggK, acs, Ty.dflt, zG, cellsAt, opIndexAddr, Ty.size, ne_eq, not_false_eq_true, Int.natCast_one, Int.mul_one, reduceCtorEq, reduceEqDiff, reduceAdd, reduceLeDiff, reduceLT, reduceMul, reduceSub, Try.el25, Try.fl60, Try.st57, Try.st60, Try.td1, Try.td25, Try.td3, Try.td57, Try.td60, Mly.av, hgx, fstX_len]; (repeat refine And.intro (by first | omega | assumption | exact rfl) ?_); (first | refine hK0 _ ?_ | refine Or.inl (hK0 _ ?_)); clear hK0 K0; simp only [put, app, setAll, trOf, zE, zS, reduceAdd])
      refine rg_nil ?_
      refine hK13 _ ?_; clear hK13; refine awp_keep [0, 1, 2, 4, 5, 6, 7, 8, 9, 10, 11, 12, 22, 33] ?_; simp only [keepEnv, lkp, zE, reduceCtorEq, reduceEqDiff, argEnv, reduceAdd]
      refine awp_seq_k fun K14 hK14 => ?_
      refine awp_drw hP hN Try.mixed rfl ?_
      iterate 10 (refine rg_step rfl fun K0 hK0 => ?_; simp only [zE, op1, ev, lkp, avOf, acOf, opFieldAddr, opLoad, Nat.mul_one, readAC, isAggK, acs, Ty.dflt, zG, cellsAt, opIndexAddr, Ty.size, ne_eq, not_false_eq_true, Int.natCast_one, Int.mul_one, opBuildSlice, fillAC, chunk, rep, datOf, writeAC, cellsAV, reduceCtorEq, reduceEqDiff, reduceAdd, reduceLeDiff, reduceLT, reduceMul, reduceSub, Try.el22, Try.el25, Try.fl60, Try.st57, Try.st60, Try.td1, Try.td2, Try.td22, Try.td25, Try.td3, Try.td57, Try.td60, Mly.av, hgs, sndX_len]; (repeat refine And.intro (by first | omega | assumption | exact rfl) ?_); (first | refine hK0 _ ?_ | refine Or.inl (hK0 _ ?_)); clear hK0 K0; simp only [put, app, setAll, trOf, zE, zS, reduceAdd])
      refine rg_step rfl fun K0 hK0 => ?_
      refine op_call (h := call_of_pure (wjoin_c [(m.exR.getD p.1 eX0).2, [(p.2.1 : Int)]] (by rw [flat2_len]; omega))) rfl rfl (by first | exact rfl | (simp only [ev, keepEnv, lkp, zE, reduceCtorEq, reduceEqDiff, argEnv, reduceAdd]; exact rfl)) (by simp only [zE, zG, op1, ev, lkp, avOf, acOf, cellsAV, acs, capAV, mv1, mvC, Ty.dflt, reduceCtorEq, reduceEqDiff, reduceAdd, reduceLeDiff, reduceLT, reduceMul, reduceSub, Mly.av, hgs, sndX_len]) ?_
      refine hK0 _ ?_; clear hK0 K0; simp only [put, app, setAll, trOf, zE, zS, reduceAdd]
      iterate 10 (refine rg_step rfl fun K0 hK0 => ?_; simp only [zE, op1, ev, lkp, avOf, acOf, opFieldAddr, opLoad, Nat.mul_one, readAC, isAggK, acs, Ty.dflt, zG, cellsAt, opIndexAddr, Ty.size, ne_eq, not_false_eq_true, Int.natCast_one, Int.mul_one, opBuildSlice, fillAC, chunk, rep, datOf, writeAC, cellsAV, reduceCtorEq, reduceEqDiff, reduceAdd, reduceLeDiff, reduceLT, reduceMul, reduceSub, Try.el22, Try.el25, Try.fl60, Try.st57, Try.st60, Try.td1, Try.td2, Try.td22, Try.td25, Try.td3, Try.td57, Try.td60, Mly.av, hgs, sndX_len]; (repeat refine And.intro (by first | omega | assumption | exact rfl) ?_); (first | refine hK0 _ ?_ | refine Or.inl (hK0 _ ?_)); clear hK0 K0; simp only [put, app, setAll, trOf, zE, zS, reduceAdd])
      refine rg_step rfl fun K0 hK0 => ?_
      refine op_call (h := call_of_pure (wjoin_c [(m.exR.getD p.1 eX0).2, [(p.2.2 : Int)]] (by rw [flat2_len]; omega))) rfl rfl (by first | exact rfl | (simp only [ev, keepEnv, lkp, zE, reduceCtorEq, reduceEqDiff, argEnv, reduceAdd]; exact rfl)) (by simp only [zE, zG, op1, ev, lkp, avOf, acOf, cellsAV, acs, capAV, mv1, mvC, Ty.dflt, reduceCtorEq, reduceEqDiff, reduceAdd, reduceLeDiff, reduceLT, reduceMul, reduceSub, Mly.av, hgs, sndX_len]) ?_
      refine hK0 _ ?_; clear hK0 K0; simp only [put, app, setAll, trOf, zE, zS, reduceAdd]
      iterate 2 (refine rg_step rfl fun K0 hK0 => ?_; simp only [zE, op1, ev, lkp, avOf, acOf, ev, reduceCtorEq, reduceEqDiff, reduceAdd, reduceLeDiff, reduceLT, reduceMul, reduceSub, Try.el25, Try.td25, Mly.av, hgs, sndX_len]; (repeat refine And.intro (by first | omega | assumption | exact rfl) ?_); (first | refine hK0 _ ?_ | refine Or.inl (hK0 _ ?_)); clear hK0 K0; simp only [put, app, setAll, trOf, zE, zS, reduceAdd])
      refine rg_nil ?_
      refine ⟨by kernel_rfl, ?_⟩
      refine hK14 _ ?_; clear hK14; refine awp_keep [0, 1, 2, 4, 5, 6, 7, 8, 9, 10, 11, 12, 13, 14, 22, 33] ?_; simp only [keepEnv, lkp, zE, reduceCtorEq, reduceEqDiff, argEnv, reduceAdd]
      refine awp_seq_k fun K15 hK15 => ?_
      refine awp_seq_k fun K16 hK16 => ?_
      refine awp_drw hP hN Try.mixed rfl ?_
      iterate 19 (refine rg_step rfl fun K0 hK0 => ?_; simp only [zE, op1, ev, lkp, avOf, acOf, opFieldAddr, opLoad, Nat.mul_one, readAC, isAggK, acs, Ty.dflt, zG, cellsAt, opIndexAddr, Ty.size, ne_eq, not_false_eq_true, Int.natCast_one, Int.mul_one, opBin, arith, inK_i64, eqACs, eqAC, reduceCtorEq, reduceEqDiff, reduceAdd, reduceLeDiff, reduceLT, reduceMul, reduceSub, Try.el22, Try.el25, Try.fl60, Try.st24, Try.st60, Try.td1, Try.td2, Try.td22, Try.td24, Try.td25, Try.td3, Try.td4, Try.td60, Mly.av]; (repeat refine And.intro (by first | omega | assumption | exact rfl) ?_); (first | refine hK0 _ ?_ | refine Or.inl (hK0 _ ?_)); clear hK0 K0; simp only [put, app, setAll, trOf, zE, zS, reduceAdd])
      refine rg_nil ?_
      refine ⟨by kernel_rfl, ?_⟩
      refine hK16 _ ?_; clear hK16; refine awp_keep [0, 1, 2, 4, 5, 6, 7, 8, 9, 10, 11, 12, 13, 14, 22, 33, 80] ?_; simp only [keepEnv, lkp, zE, reduceCtorEq, reduceEqDiff, argEnv, reduceAdd]
      refine awp_cond (by simp only [ev, keepEnv, lkp, zE, reduceCtorEq, reduceEqDiff, argEnv, reduceAdd]; exact rfl) (fun hc17 => ?_) (fun hc17 => ?_)
      · (try simp only [zB, reduceCtorEq] at hc17)
        refine awp_seq_k fun K18 hK18 => ?_
        refine awp_drw hP hN Try.mixed rfl ?_
        iterate 19 (refine rg_step rfl fun K0 hK0 => ?_; simp only [zE, op1, ev, lkp, avOf, acOf, opLoad, Nat.mul_one, readAC, isAggK, acs, Ty.dflt, zG, cellsAt, opFieldAddr, opIndexAddr, Ty.size, ne_eq, not_false_eq_true, Int.natCast_one, Int.mul_one, reduceCtorEq, reduceEqDiff, reduceAdd, reduceLeDiff, reduceLT, reduceMul, reduceSub, Try.el22, Try.el25, Try.fl60, Try.st24, Try.st60, Try.td1, Try.td2, Try.td22, Try.td24, Try.td25, Try.td3, Try.td60, Mly.av]; (repeat refine And.intro (by first | omega | assumption | exact rfl) ?_); (first | refine hK0 _ ?_ | refine Or.inl (hK0 _ ?_)); clear hK0 K0; simp only [put, app, setAll, trOf, zE, zS, reduceAdd])
        refine rg_step rfl fun K0 hK0 => ?_
        refine op_call (h := call_of_pure (estK_c m ((m.nx.getD (m.exR.getD p.1 eX0).1.toNat []).getD (p.2.1) 0) ((m.nx.getD (m.exR.getD p.1 eX0).1.toNat []).getD (p.2.2) 0) hm hnc hnd)) rfl rfl (by first | exact rfl | (simp only [ev, keepEnv, lkp, zE, reduceCtorEq, reduceEqDiff, argEnv, reduceAdd]; exact rfl)) (by simp only [zE, zG, op1, ev, lkp, avOf, acOf, cellsAV, acs, capAV, mv1, mvC, Ty.dflt, reduceCtorEq, reduceEqDiff, reduceAdd, reduceLeDiff, reduceLT, reduceMul, reduceSub, Mly.av]) ?_
        refine hK0 _ ?_; clear hK0 K0; simp only [put, app, setAll, trOf, zE, zS, reduceAdd]
        iterate 7 (refine rg_step rfl fun K0 hK0 => ?_; simp only [zE, op1, ev, lkp, avOf, acOf, opExtract, reduceCtorEq, reduceEqDiff, reduceAdd, reduceLeDiff, reduceLT, reduceMul, reduceSub, Try.el25, Try.td1, Try.td2, Try.td25, Try.td28, Try.td4, Mly.av]; (repeat refine And.intro (by first | omega | assumption | exact rfl) ?_); (first | refine hK0 _ ?_ | refine Or.inl (hK0 _ ?_)); clear hK0 K0; simp only [put, app, setAll, trOf, zE, zS, reduceAdd])
        refine rg_nil ?_
        refine ⟨by kernel_rfl, ?_⟩
        refine hK18 _ ?_; clear hK18; refine awp_keep [0, 1, 2, 4, 5, 6, 7, 8, 9, 10, 11, 12, 13, 14, 15, 17, 22, 33, 80] ?_; simp only [keepEnv, lkp, zE, reduceCtorEq, reduceEqDiff, argEnv, reduceAdd]
        refine awp_seq_k fun K19 hK19 => ?_
        refine awp_seq_k fun K20 hK20 => ?_
        refine awp_reg hP hN rfl ?_
        iterate 2 (refine rg_step rfl fun K0 hK0 => ?_; simp only [zE, op1, ev, lkp, avOf, acOf, opBin, arith, inK_i64, eqACs, eqAC, reduceCtorEq, reduceEqDiff, reduceAdd, reduceLeDiff, reduceLT, reduceMul, reduceSub, Try.td28, Try.td4, Mly.av]; (repeat refine And.intro (by first | omega | assumption | exact rfl) ?_); (first | refine hK0 _ ?_ | refine Or.inl (hK0 _ ?_)); clear hK0 K0; simp only [put, app, setAll, trOf, zE, zS, reduceAdd])
        refine rg_nil ?_
        refine hK20 _ ?_; clear hK20; refine awp_keep [0, 1, 2, 4, 5, 6, 7, 8, 9, 10, 11, 12, 13, 14, 15, 17, 22, 33, 80, 106] ?_; simp only [keepEnv, lkp, zE, reduceCtorEq, reduceEqDiff, argEnv, reduceAdd]
        refine awp_cond (by simp only [ev, keepEnv, lkp, zE, reduceCtorEq, reduceEqDiff, argEnv, reduceAdd]; exact rfl) (fun hc21 => ?_) (fun hc21 => ?_)
        · exfalso; (try simp only [zB, reduceCtorEq] at hc21); all_goals (first | (cases hc21; done) | omega | (simp at hc21; done) | (simp_all; done))
        · (try simp only [zB, reduceCtorEq] at hc21)
          refine awp_skip ?_
          refine hK19 _ ?_; clear hK19; refine awp_keep [0, 1, 2, 4, 5, 6, 7, 8, 9, 10, 11, 12, 13, 14, 15, 17, 22, 33, 80, 106] ?_; simp only [keepEnv, lkp, zE, reduceCtorEq, reduceEqDiff, argEnv, reduceAdd]
          refine awp_reg hP hN rfl ?_
          iterate 3 (refine rg_step rfl fun K0 hK0 => ?_; simp only [zE, op1, ev, lkp, avOf, acOf, opBuildSlice, fillAC, chunk, rep, datOf, writeAC, cellsAV, Ty.size, reduceCtorEq, reduceEqDiff, reduceAdd, reduceLeDiff, reduceLT, reduceMul, reduceSub, Try.el22, Try.el25, Try.td2, Try.td22, Try.td25, Mly.av]; (repeat refine And.intro (by first | omega | assumption | exact rfl) ?_); (first | refine hK0 _ ?_ | refine Or.inl (hK0 _ ?_)); clear hK0 K0; simp only [put, app, setAll, trOf, zE, zS, reduceAdd])
          refine rg_step rfl fun K0 hK0 => ?_
          refine op_call (h := call_of_pure (wjoin_c [[(m.exR.getD p.1 eX0).2, [(p.2.1 : Int)]].flatten, ((seS m m ((m.nx.getD (m.exR.getD p.1 eX0).1.toNat []).getD (p.2.1) 0) ((m.nx.getD (m.exR.getD p.1 eX0).1.toNat []).getD (p.2.2) 0)).getD [])] (by have hq := hsl; have hq2 := hwl; revert hq hq2; simp; omega))) rfl rfl (by first | exact rfl | (simp only [ev, keepEnv, lkp, zE, reduceCtorEq, reduceEqDiff, argEnv, reduceAdd]; exact rfl)) (by simp only [zE, zG, op1, ev, lkp, avOf, acOf, cellsAV, acs, capAV, mv1, mvC, Ty.dflt, reduceCtorEq, reduceEqDiff, reduceAdd, reduceLeDiff, reduceLT, reduceMul, reduceSub, Mly.av]) ?_
          refine hK0 _ ?_; clear hK0 K0; simp only [put, app, setAll, trOf, zE, zS, reduceAdd]
          iterate 3 (refine rg_step rfl fun K0 hK0 => ?_; simp only [zE, op1, ev, lkp, avOf, acOf, opBuildSlice, fillAC, chunk, rep, datOf, writeAC, cellsAV, Ty.size, reduceCtorEq, reduceEqDiff, reduceAdd, reduceLeDiff, reduceLT, reduceMul, reduceSub, Try.el22, Try.el25, Try.td2, Try.td22, Try.td25, Mly.av]; (repeat refine And.intro (by first | omega | assumption | exact rfl) ?_); (first | refine hK0 _ ?_ | refine Or.inl (hK0 _ ?_)); clear hK0 K0; simp only [put, app, setAll, trOf, zE, zS, reduceAdd])
          refine rg_step rfl fun K0 hK0 => ?_
          refine op_call (h := call_of_pure (wjoin_c [[(m.exR.getD p.1 eX0).2, [(p.2.2 : Int)]].flatten, ((seS m m ((m.nx.getD (m.exR.getD p.1 eX0).1.toNat []).getD (p.2.1) 0) ((m.nx.getD (m.exR.getD p.1 eX0).1.toNat []).getD (p.2.2) 0)).getD [])] (by have hq := hsl; have hq2 := hwl; revert hq hq2; simp; omega))) rfl rfl (by first | exact rfl | (simp only [ev, keepEnv, lkp, zE, reduceCtorEq, reduceEqDiff, argEnv, reduceAdd]; exact rfl)) (by simp only [zE, zG, op1, ev, lkp, avOf, acOf, cellsAV, acs, capAV, mv1, mvC, Ty.dflt, reduceCtorEq, reduceEqDiff, reduceAdd, reduceLeDiff, reduceLT, reduceMul, reduceSub, Mly.av]) ?_
          refine hK0 _ ?_; clear hK0 K0; simp only [put, app, setAll, trOf, zE, zS, reduceAdd]
          iterate 2 (refine rg_step rfl fun K0 hK0 => ?_; simp only [zE, op1, ev, lkp, avOf, acOf, ev, reduceCtorEq, reduceEqDiff, reduceAdd, reduceLeDiff, reduceLT, reduceMul, reduceSub, Try.el25, Try.td25, Mly.av]; (repeat refine And.intro (by first | omega | assumption | exact rfl) ?_); (first | refine hK0 _ ?_ | refine Or.inl (hK0 _ ?_)); clear hK0 K0; simp only [put, app, setAll, trOf, zE, zS, reduceAdd])
          refine rg_nil ?_
          refine hK15 _ ?_; clear hK15; refine awp_keep [0, 1, 2, 4, 5, 6, 7, 8, 9, 10, 11, 12, 13, 14, 15, 17, 22, 33, 80, 106] ?_; simp only [keepEnv, lkp, zE, reduceCtorEq, reduceEqDiff, argEnv, reduceAdd]
          refine awp_seq_k fun K22 hK22 => ?_
          refine awp_reg hP hN rfl ?_
          iterate 6 (refine rg_step rfl fun K0 hK0 => ?_; simp only [zE, op1, ev, lkp, avOf, acOf, ev, reduceCtorEq, reduceEqDiff, reduceAdd, reduceLeDiff, reduceLT, reduceMul, reduceSub, Try.el25, Try.td25, Try.td28, Try.td4, Mly.av]; (repeat refine And.intro (by first | omega | assumption | exact rfl) ?_); (first | refine hK0 _ ?_ | refine Or.inl (hK0 _ ?_)); clear hK0 K0; simp only [put, app, setAll, trOf, zE, zS, reduceAdd])
          refine rg_nil ?_
          refine hK22 _ ?_; clear hK22; refine awp_keep [0, 1, 2, 4, 5, 6, 7, 8, 9, 10, 11, 12, 13, 14, 15, 17, 22, 33, 80, 106] ?_; simp only [keepEnv, lkp, zE, reduceCtorEq, reduceEqDiff, argEnv, reduceAdd]
          refine awp_ret ?_
          refine ⟨by first | exact .inl rfl | exact .inr rfl, _, rfl, ?_⟩; simp only [fzV, fz1, fzC, List.map_cons, List.map_nil, keepEnv, lkp, zE, reduceCtorEq, reduceEqDiff, argEnv, reduceAdd, Mly.av]
          unfold wU wV stpB
          first
          | (rw [if_neg ‹¬chkE m cl = 0›, if_neg ‹¬chkE m cl = 0›, if_neg ‹¬chkE m cl = 0›]; exact vle_tup ⟨vle1_one (cle_nils rfl), vle1_one (cle_nils rfl), vle1_one (.refl _), vle1_one (.refl _), trivial⟩)
          | (rw [if_pos ‹chkE m cl = 0›, if_pos ‹chkE m cl = 0›, if_pos ‹chkE m cl = 0›, ‹chkE m cl = 0›, hfn]; exact vle_tup ⟨vle1_one (cle_nils rfl), vle1_one (cle_nils rfl), vle1_one (.refl _), vle1_one (.refl _), trivial⟩)
          | (rw [if_pos ‹chkE m cl = 0›, if_pos ‹chkE m cl = 0›, if_pos ‹chkE m cl = 0›, ‹chkE m cl = 0›, hfs]
             have hO : m.out (m.exR.getD p.1 eX0).1 p.2.1 = m.out (m.exR.getD p.1 eX0).1 p.2.2 := by assumption
             have hT : wTl m p = _ := if_pos hO
             dsimp only; rw [hT]; refine VLE.of_eq ?_; simp [Mly.nxt, List.append_assoc])
          | (rw [if_pos ‹chkE m cl = 0›, if_pos ‹chkE m cl = 0›, if_pos ‹chkE m cl = 0›, ‹chkE m cl = 0›, hfs]
             have hO : ¬ m.out (m.exR.getD p.1 eX0).1 p.2.1 = m.out (m.exR.getD p.1 eX0).1 p.2.2 := by assumption
             have hT : wTl m p = _ := if_neg hO
             dsimp only; rw [hT]; refine VLE.of_eq ?_; simp [Mly.nxt, List.append_assoc])
      · (try simp only [zB, reduceCtorEq] at hc17)
        refine awp_skip ?_
        refine hK15 _ ?_; clear hK15; refine awp_keep [0, 1, 2, 4, 5, 6, 7, 8, 9, 10, 11, 12, 13, 14, 22, 33, 80] ?_; simp only [keepEnv, lkp, zE, reduceCtorEq, reduceEqDiff, argEnv, reduceAdd]
        refine awp_seq_k fun K23 hK23 => ?_
        refine awp_reg hP hN rfl ?_
        iterate 6 (refine rg_step rfl fun K0 hK0 => ?_; simp only [zE, op1, ev, lkp, avOf, acOf, ev, reduceCtorEq, reduceEqDiff, reduceAdd, reduceLeDiff, reduceLT, reduceMul, reduceSub, Try.el25, Try.td25, Try.td28, Try.td4, Mly.av]; (repeat refine And.intro (by first | omega | assumption | exact rfl) ?_); (first | refine hK0 _ ?_ | refine Or.inl (hK0 _ ?_)); clear hK0 K0; simp only [put, app, setAll, trOf, zE, zS, reduceAdd])
        refine rg_nil ?_
        refine hK23 _ ?_; clear hK23; refine awp_keep [0, 1, 2, 4, 5, 6, 7, 8, 9, 10, 11, 12, 13, 14, 22, 33, 80] ?_; simp only [keepEnv, lkp, zE, reduceCtorEq, reduceEqDiff, argEnv, reduceAdd]
        refine awp_ret ?_
        refine ⟨by first | exact .inl rfl | exact .inr rfl, _, rfl, ?_⟩; simp only [fzV, fz1, fzC, List.map_cons, List.map_nil, keepEnv, lkp, zE, reduceCtorEq, reduceEqDiff, argEnv, reduceAdd, Mly.av]
        unfold wU wV stpB
        first
        | (rw [if_neg ‹¬chkE m cl = 0›, if_neg ‹¬chkE m cl = 0›, if_neg ‹¬chkE m cl = 0›]; exact vle_tup ⟨vle1_one (cle_nils rfl), vle1_one (cle_nils rfl), vle1_one (.refl _), vle1_one (.refl _), trivial⟩)
        | (rw [if_pos ‹chkE m cl = 0›, if_pos ‹chkE m cl = 0›, if_pos ‹chkE m cl = 0›, ‹chkE m cl = 0›, hfn]; exact vle_tup ⟨vle1_one (cle_nils rfl), vle1_one (cle_nils rfl), vle1_one (.refl _), vle1_one (.refl _), trivial⟩)
        | (rw [if_pos ‹chkE m cl = 0›, if_pos ‹chkE m cl = 0›, if_pos ‹chkE m cl = 0›, ‹chkE m cl = 0›, hfs]
           have hO : m.out (m.exR.getD p.1 eX0).1 p.2.1 = m.out (m.exR.getD p.1 eX0).1 p.2.2 := by assumption
           have hT : wTl m p = _ := if_pos hO
           dsimp only; rw [hT]; refine VLE.of_eq ?_; simp [Mly.nxt, List.append_assoc])
        | (rw [if_pos ‹chkE m cl = 0›, if_pos ‹chkE m cl = 0›, if_pos ‹chkE m cl = 0›, ‹chkE m cl = 0›, hfs]
           have hO : ¬ m.out (m.exR.getD p.1 eX0).1 p.2.1 = m.out (m.exR.getD p.1 eX0).1 p.2.2 := by assumption
           have hT : wTl m p = _ := if_neg hO
           dsimp only; rw [hT]; refine VLE.of_eq ?_; simp [Mly.nxt, List.append_assoc])
end Go.Proofs.Ytceafldjjedhcaa
namespace Go.Proofs.Ytceafldjjedhcaa
open Go Go.AV
open Nat (reduceEqDiff reduceAdd reduceLeDiff reduceLT reduceMul reduceSub)
open List (set_cons_zero set_cons_succ)
theorem evW1 : PURE Try.prog 11 [gateM.av, .one (.list (.int .i64) [0, 0])] (.tup [.one (.list (.int .i64) [0]), .one (.list (.int .i64) [1]), .one (.bool true), .one (.int .i64 0)]) := by
  have h := wit_c gateM [0, 0]
  rw [show wU gateM [0, 0] = [0] by decide +kernel, show wV gateM [0, 0] = [1] by decide +kernel, show stpB gateM [0, 0] = true by decide +kernel, show chkE gateM [0, 0] = 0 by decide +kernel] at h
  exact h

end Go.Proofs.Ytceafldjjedhcaa
namespace Go.Proofs.Ytceafldjjedhcaa
open Go Go.AV
open Nat (reduceEqDiff reduceAdd reduceLeDiff reduceLT reduceMul reduceSub)
open List (set_cons_zero set_cons_succ)
def mWide : Mly := ⟨3, 0, [[1, 0, 0], [1, 0, 1]], [[1, 0, 1], [1, 2, 1]]⟩
end Go.Proofs.Ytceafldjjedhcaa
namespace Go.Proofs.Ytceafldjjedhcaa
open Go Go.AV
open Nat (reduceEqDiff reduceAdd reduceLeDiff reduceLT reduceMul reduceSub)
open List (set_cons_zero set_cons_succ)
theorem evW2 : PURE Try.prog 11 [.agg [.int .i64 3, .int .i64 0, .list (.list (.int .i64)) [[1, 0, 0], [1, 0, 1]], .list (.list (.int .i64)) [[1, 0, 1], [1, 2, 1]]], .one (.list (.int .i64) [0, 1, 0])] (.tup [.one (.list (.int .i64) [0, 1]), .one (.list (.int .i64) [2, 1]), .one (.bool true), .one (.int .i64 0)]) := by
  have h := wit_c mWide [0, 1, 0]
  rw [show wU mWide [0, 1, 0] = [0, 1] by decide +kernel, show wV mWide [0, 1, 0] = [2, 1] by decide +kernel, show stpB mWide [0, 1, 0] = true by decide +kernel, show chkE mWide [0, 1, 0] = 0 by decide +kernel] at h
  exact h

end Go.Proofs.Ytceafldjjedhcaa
namespace Go.Proofs.Ytceafldjjedhcaa
open Go Go.AV
open Nat (reduceEqDiff reduceAdd reduceLeDiff reduceLT reduceMul reduceSub)
open List (set_cons_zero set_cons_succ)
set_option maxRecDepth 100000 in
theorem gate38_c  : PURE Try.prog 24 [] (gateM.av) := by
  refine pure_of_le Try.func24 rfl (by kernel_rfl) (Nat.le_of_ble_eq_true rfl) rfl fun C hP hN hB => ?_
  replace hN : C.N = 8 := hN
  simp only [argEnv, reduceAdd]
  refine awp_seq_k fun K1 hK1 => ?_
  refine awp_reg hP hN rfl ?_
  (refine rg_step rfl fun K0 hK0 => ?_; simp only [zE, op1, ev, lkp, avOf, acOf, opAlloc, reduceCtorEq, reduceEqDiff, reduceAdd, reduceLeDiff, reduceLT, reduceMul, reduceSub, Try.st24, Try.td24, Mly.av, gateM]; (repeat refine And.intro (by first | omega | assumption | exact rfl) ?_); (first | refine hK0 _ ?_ | refine Or.inl (hK0 _ ?_)); clear hK0 K0; simp only [put, app, setAll, trOf, zE, zS, reduceAdd])
  refine rg_nil ?_
  refine hK1 _ ?_; clear hK1; refine awp_keep [0] ?_; simp only [keepEnv, lkp, zE, reduceCtorEq, reduceEqDiff, argEnv, reduceAdd]
  refine awp_seq_k fun K2 hK2 => ?_
  refine awp_reg hP hN rfl ?_
  iterate 8 (refine rg_step rfl fun K0 hK0 => ?_; simp only [zE, op1, ev, lkp, avOf, acOf, opBuildSlice, fillAC, chunk, rep, datOf, writeAC, cellsAV, Ty.size, opBuild, opStore, Nat.mul_one, acs, Ty.dflt, zG, reduceCtorEq, reduceEqDiff, reduceAdd, reduceLeDiff, reduceLT, reduceMul, reduceSub, Try.el22, Try.el25, Try.st24, Try.td2, Try.td22, Try.td24, Try.td25, Mly.av, gateM]; (repeat refine And.intro (by first | omega | assumption | exact rfl) ?_); (first | refine hK0 _ ?_ | refine Or.inl (hK0 _ ?_)); clear hK0 K0; simp only [put, app, setAll, trOf, zE, zS, reduceAdd])
  refine rg_nil ?_
  refine hK2 _ ?_; clear hK2; refine awp_keep [0] ?_; simp only [keepEnv, lkp, zE, reduceCtorEq, reduceEqDiff, argEnv, reduceAdd]
  refine awp_ret ?_
  refine ⟨by first | exact .inl rfl | exact .inr rfl, _, rfl, ?_⟩; simp only [fzV, fz1, fzC, List.map_cons, List.map_nil, keepEnv, lkp, zE, reduceCtorEq, reduceEqDiff, argEnv, reduceAdd, Mly.av, gateM]
  refine VLE.of_eq ?_
  rfl
end Go.Proofs.Ytceafldjjedhcaa
namespace Go.Proofs.Ytceafldjjedhcaa
open Go Go.AV
open Nat (reduceEqDiff reduceAdd reduceLeDiff reduceLT reduceMul reduceSub)
open List (set_cons_zero set_cons_succ)
set_option maxRecDepth 100000 in
theorem ints_c (xs ys : List Int) : PURE Try.prog 13 [.one (.list (.int .i64) xs), .one (.list (.int .i64) ys)] (.one (.bool (decide (xs = ys)))) := by
  refine pure_of_le Try.func13 rfl (by kernel_rfl) (Nat.le_of_ble_eq_true rfl) rfl fun C hP hN hB => ?_
  replace hN : C.N = 26 := hN
  simp only [argEnv, reduceAdd]
  refine awp_fit 0 rfl fun hf0 => ?_; simp only [lkp, if_true, if_false, reduceCtorEq, reduceEqDiff, eq_self, Nat.one_ne_zero, Nat.zero_ne_one, fitV, fitC, fitL, Fit, and_true, implies_true, true_and] at hf0
  refine awp_seq_k fun K1 hK1 => ?_
  refine awp_reg hP hN rfl ?_
  (refine rg_step rfl fun K0 hK0 => ?_; simp only [zE, op1, ev, lkp, avOf, acOf, ev, reduceCtorEq, reduceEqDiff, reduceAdd, reduceLeDiff, reduceLT, reduceMul, reduceSub, Try.td4]; (repeat refine And.intro (by first | omega | assumption | exact rfl) ?_); (first | refine hK0 _ ?_ | refine Or.inl (hK0 _ ?_)); clear hK0 K0; simp only [put, app, setAll, trOf, zE, zS, reduceAdd])
  refine rg_nil ?_
  refine hK1 _ ?_; clear hK1; refine awp_keep [0, 1, 4] ?_; simp only [keepEnv, lkp, zE, reduceCtorEq, reduceEqDiff, argEnv, reduceAdd]
  refine awp_seq_k fun K2 hK2 => ?_
  refine awp_seq_k fun K3 hK3 => ?_
  refine awp_reg hP hN rfl ?_
  iterate 5 (refine rg_step rfl fun K0 hK0 => ?_; simp only [zE, op1, ev, lkp, avOf, acOf, opCallAny, opMM, opLen, lenAC, lenOk, fpAC, Nat.div_one, opAppend, srcOf, Ty.size, datOf, dite_true, opBin, arith, inK_i64, eqACs, eqAC, reduceCtorEq, reduceEqDiff, reduceAdd, reduceLeDiff, reduceLT, reduceMul, reduceSub, Try.el25, Try.td25, Try.td3, Try.td4]; (repeat refine And.intro (by first | omega | assumption | exact rfl) ?_); (first | refine hK0 _ ?_ | refine Or.inl (hK0 _ ?_)); clear hK0 K0; simp only [put, app, setAll, trOf, zE, zS, reduceAdd])
  refine rg_nil ?_
  refine hK3 _ ?_; clear hK3; refine awp_keep [0, 1, 4, 10] ?_; simp only [keepEnv, lkp, zE, reduceCtorEq, reduceEqDiff, argEnv, reduceAdd]
  refine awp_cond (by simp only [ev, keepEnv, lkp, zE, reduceCtorEq, reduceEqDiff, argEnv, reduceAdd]; exact rfl) (fun hc4 => ?_) (fun hc4 => ?_)
  · (try simp only [zB, reduceCtorEq] at hc4)
    refine awp_seq_k fun K5 hK5 => ?_
    refine awp_reg hP hN rfl ?_
    (refine rg_step rfl fun K0 hK0 => ?_; simp only [zE, op1, ev, lkp, avOf, acOf, ev, reduceCtorEq, reduceEqDiff, reduceAdd, reduceLeDiff, reduceLT, reduceMul, reduceSub, Try.td4]; (repeat refine And.intro (by first | omega | assumption | exact rfl) ?_); (first | refine hK0 _ ?_ | refine Or.inl (hK0 _ ?_)); clear hK0 K0; simp only [put, app, setAll, trOf, zE, zS, reduceAdd])
    refine rg_nil ?_
    refine hK5 _ ?_; clear hK5; refine awp_keep [0, 1, 4, 10] ?_; simp only [keepEnv, lkp, zE, reduceCtorEq, reduceEqDiff, argEnv, reduceAdd]
    refine awp_ret ?_
    refine ⟨by first | exact .inl rfl | exact .inr rfl, _, rfl, ?_⟩; simp only [fzV, fz1, fzC, List.map_cons, List.map_nil, keepEnv, lkp, zE, reduceCtorEq, reduceEqDiff, argEnv, reduceAdd]
    refine VLE.of_eq ?_
    first
    | (refine bool_false ?_; rintro rfl; first | exact absurd rfl ‹¬ _› | omega)
    | (refine bool_true ?_; have hk1 : k = xs.length := by omega
       have hk2 : k = ys.length := by omega
       rw [hk1, List.take_length, ← hk1, hk2, List.take_length] at hT; exact hT)
  · (try simp only [zB, reduceCtorEq] at hc4)
    refine awp_skip ?_
    refine hK2 _ ?_; clear hK2; refine awp_keep [0, 1, 4, 10] ?_; simp only [keepEnv, lkp, zE, reduceCtorEq, reduceEqDiff, argEnv, reduceAdd]
    refine awp_seq_k fun K6 hK6 => ?_
    refine awp_seq_k fun K7 hK7 => ?_
    refine awp_reg hP hN rfl ?_
    (refine rg_step rfl fun K0 hK0 => ?_; simp only [zE, op1, ev, lkp, avOf, acOf, ev, reduceCtorEq, reduceEqDiff, reduceAdd, reduceLeDiff, reduceLT, reduceMul, reduceSub, Try.td3]; (repeat refine And.intro (by first | omega | assumption | exact rfl) ?_); (first | refine hK0 _ ?_ | refine Or.inl (hK0 _ ?_)); clear hK0 K0; simp only [put, app, setAll, trOf, zE, zS, reduceAdd])
    refine rg_nil ?_
    refine hK7 _ ?_; clear hK7; refine awp_keep [0, 1, 4, 5, 10] ?_; simp only [keepEnv, lkp, zE, reduceCtorEq, reduceEqDiff, argEnv, reduceAdd]
    refine awp_block ?_
    refine awp_loop (fun n8 s8 => ∃ (k : Nat), (k ≤ xs.length) ∧ (xs.take k = ys.take k) ∧ n8 = xs.length - k ∧ s8 = { env := [(0, .one (.list (.int .i64) xs)), (1, .one (.list (.int .i64) ys)), (5, .one (.int .i64 (k : Int)))], L := [] }) ?_ ?_
    · exact ⟨_, _, sub_keep [0, 1, 5], 0, Nat.zero_le _, rfl, rfl, rfl⟩
    · rintro n8 s8 ⟨k, hk, hT, rfl, rfl⟩
      refine awp_seq_k fun K9 hK9 => ?_
      refine awp_seq_k fun K10 hK10 => ?_
      refine awp_reg hP hN rfl ?_
      iterate 4 (refine rg_step rfl fun K0 hK0 => ?_; simp only [zE, op1, ev, lkp, avOf, acOf, opCallAny, opMM, opLen, lenAC, lenOk, fpAC, Nat.div_one, opAppend, srcOf, Ty.size, datOf, dite_true, opBin, arith, inK_i64, eqACs, eqAC, reduceCtorEq, reduceEqDiff, reduceAdd, reduceLeDiff, reduceLT, reduceMul, reduceSub, Try.el25, Try.td25, Try.td3, Try.td4]; (repeat refine And.intro (by first | omega | assumption | exact rfl) ?_); (first | refine hK0 _ ?_ | refine Or.inl (hK0 _ ?_)); clear hK0 K0; simp only [put, app, setAll, trOf, zE, zS, reduceAdd])
      refine rg_nil ?_
      refine hK10 _ ?_; clear hK10; refine awp_keep [0, 1, 5, 14] ?_; simp only [keepEnv, lkp, zE, reduceCtorEq, reduceEqDiff, argEnv, reduceAdd]
      refine awp_cond (by simp only [ev, keepEnv, lkp, zE, reduceCtorEq, reduceEqDiff, argEnv, reduceAdd]; exact rfl) (fun hc11 => ?_) (fun hc11 => ?_)
      · (try simp only [zB, reduceCtorEq] at hc11)
        refine awp_skip ?_
        refine hK9 _ ?_; clear hK9; refine awp_keep [0, 1, 5, 14] ?_; simp only [keepEnv, lkp, zE, reduceCtorEq, reduceEqDiff, argEnv, reduceAdd]
        refine awp_seq_k fun K12 hK12 => ?_
        refine awp_block ?_
        refine awp_seq_k fun K13 hK13 => ?_
        refine awp_drw hP hN Try.mixed rfl ?_
        iterate 9 (refine rg_step rfl fun K0 hK0 => ?_; simp only [zE, op1, ev, lkp, avOf, acOf, opIndexAddr, zG, Ty.dflt, Ty.size, Nat.mul_one, ne_eq, not_false_eq_true, Int.natCast_one, Int.mul_one, opLoad, readAC, isAggK, acs, cellsAt, opBin, arith, inK_i64, eqACs, eqAC, reduceCtorEq, reduceEqDiff, reduceAdd, reduceLeDiff, reduceLT, reduceMul, reduceSub, Try.el25, Try.td25, Try.td3, Try.td4]; (repeat refine And.intro (by first | omega | assumption | exact rfl) ?_); (first | refine hK0 _ ?_ | refine Or.inl (hK0 _ ?_)); clear hK0 K0; simp only [put, app, setAll, trOf, zE, zS, reduceAdd])
        refine rg_nil ?_
        refine ⟨by kernel_rfl, ?_⟩
        refine hK13 _ ?_; clear hK13; refine awp_keep [0, 1, 5, 14, 25] ?_; simp only [keepEnv, lkp, zE, reduceCtorEq, reduceEqDiff, argEnv, reduceAdd]
        refine awp_cond (by simp only [ev, keepEnv, lkp, zE, reduceCtorEq, reduceEqDiff, argEnv, reduceAdd]; exact rfl) (fun hc14 => ?_) (fun hc14 => ?_)
        · (try simp only [zB, reduceCtorEq] at hc14)
          refine awp_seq_k fun K15 hK15 => ?_
          refine awp_reg hP hN rfl ?_
          (refine rg_step rfl fun K0 hK0 => ?_; simp only [zE, op1, ev, lkp, avOf, acOf, ev, reduceCtorEq, reduceEqDiff, reduceAdd, reduceLeDiff, reduceLT, reduceMul, reduceSub, Try.td4]; (repeat refine And.intro (by first | omega | assumption | exact rfl) ?_); (first | refine hK0 _ ?_ | refine Or.inl (hK0 _ ?_)); clear hK0 K0; simp only [put, app, setAll, trOf, zE, zS, reduceAdd])
          refine rg_nil ?_
          refine hK15 _ ?_; clear hK15; refine awp_keep [0, 1, 4, 5, 14, 25] ?_; simp only [keepEnv, lkp, zE, reduceCtorEq, reduceEqDiff, argEnv, reduceAdd]
          refine awp_ret ?_
          refine ⟨by first | exact .inl rfl | exact .inr rfl, _, rfl, ?_⟩; simp only [fzV, fz1, fzC, List.map_cons, List.map_nil, keepEnv, lkp, zE, reduceCtorEq, reduceEqDiff, argEnv, reduceAdd]
          refine VLE.of_eq ?_
          first
          | (refine bool_false ?_; rintro rfl; first | exact absurd rfl ‹¬ _› | omega)
          | (refine bool_true ?_; have hk1 : k = xs.length := by omega
             have hk2 : k = ys.length := by omega
             rw [hk1, List.take_length, ← hk1, hk2, List.take_length] at hT; exact hT)
        · (try simp only [zB, reduceCtorEq] at hc14)
          refine awp_skip ?_
          refine hK12 _ ?_; clear hK12; refine awp_keep [0, 1, 5, 14, 25] ?_; simp only [keepEnv, lkp, zE, reduceCtorEq, reduceEqDiff, argEnv, reduceAdd]
          refine awp_reg hP hN rfl ?_
          iterate 3 (refine rg_step rfl fun K0 hK0 => ?_; simp only [zE, op1, ev, lkp, avOf, acOf, opBin, arith, inK_i64, eqACs, eqAC, reduceCtorEq, reduceEqDiff, reduceAdd, reduceLeDiff, reduceLT, reduceMul, reduceSub, Try.td3]; (repeat refine And.intro (by first | omega | assumption | exact rfl) ?_); (first | refine hK0 _ ?_ | refine Or.inl (hK0 _ ?_)); clear hK0 K0; simp only [put, app, setAll, trOf, zE, zS, reduceAdd])
          refine rg_nil ?_
          refine ⟨_, _, ?_, sub_keep [0, 1, 5], k + 1, by omega, take_eq_succ (d := 0) hT (by omega) (by omega) ?_, rfl, rfl⟩
          · omega
          · first | assumption | omega
      · (try simp only [zB, reduceCtorEq] at hc11)
        refine awp_exit ?_
        refine hK6 _ ?_; clear hK6; refine awp_keep [0, 1, 5, 14] ?_; simp only [keepEnv, lkp, zE, reduceCtorEq, reduceEqDiff, argEnv, reduceAdd]
        refine awp_seq_k fun K16 hK16 => ?_
        refine awp_reg hP hN rfl ?_
        (refine rg_step rfl fun K0 hK0 => ?_; simp only [zE, op1, ev, lkp, avOf, acOf, ev, reduceCtorEq, reduceEqDiff, reduceAdd, reduceLeDiff, reduceLT, reduceMul, reduceSub, Try.td4]; (repeat refine And.intro (by first | omega | assumption | exact rfl) ?_); (first | refine hK0 _ ?_ | refine Or.inl (hK0 _ ?_)); clear hK0 K0; simp only [put, app, setAll, trOf, zE, zS, reduceAdd])
        refine rg_nil ?_
        refine hK16 _ ?_; clear hK16; refine awp_keep [0, 1, 4, 5, 14] ?_; simp only [keepEnv, lkp, zE, reduceCtorEq, reduceEqDiff, argEnv, reduceAdd]
        refine awp_ret ?_
        refine ⟨by first | exact .inl rfl | exact .inr rfl, _, rfl, ?_⟩; simp only [fzV, fz1, fzC, List.map_cons, List.map_nil, keepEnv, lkp, zE, reduceCtorEq, reduceEqDiff, argEnv, reduceAdd]
        refine VLE.of_eq ?_
        first
        | (refine bool_false ?_; rintro rfl; first | exact absurd rfl ‹¬ _› | omega)
        | (refine bool_true ?_; have hk1 : k = xs.length := by omega
           have hk2 : k = ys.length := by omega
           rw [hk1, List.take_length, ← hk1, hk2, List.take_length] at hT; exact hT)
end Go.Proofs.Ytceafldjjedhcaa
