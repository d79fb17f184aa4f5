/- Contracts of functions of this seat, each out of a walk through its code, and plain facts on what they compute. Conditions: those that each theorem names. -/
import Derived.Test.YtceafldjjedhcaaW03
set_option linter.unusedSimpArgs false
set_option linter.unusedVariables false
namespace Go.Proofs.Ytceafldjjedhcaa
open Go Go.AV
open Nat (reduceEqDiff reduceAdd reduceLeDiff reduceLT reduceMul reduceSub)
open List (set_cons_zero set_cons_succ)
theorem rstK_c (m : Mly) (s t : Int) (hm : MOK m) (hs : 0 ≤ s ∧ s < m.nx.length) (ht : 0 ≤ t ∧ t < m.nx.length) : PURE Try.prog 47 [m.av, .one (.int .i64 s), .one (.int .i64 t)] (.tup [.one (.list (.int .i64) ((seS m m s t).getD [])), .one (.bool (seS m m s t).isSome), .one (.int .i64 0)]) := by
  have h := rstates_c m s t
  unfold stW stE at h
  have hv := validE_of hm
  rw [if_pos ⟨hv, hs, ht⟩, if_pos hv, if_pos ⟨hs, ht⟩] at h
  exact h

end Go.Proofs.Ytceafldjjedhcaa
namespace Go.Proofs.Ytceafldjjedhcaa
open Go Go.AV
open Nat (reduceEqDiff reduceAdd reduceLeDiff reduceLT reduceMul reduceSub)
open List (set_cons_zero set_cons_succ)
set_option maxRecDepth 100000 in
theorem parting_c (m : Mly) (s : Int) (c d : Nat) (hm : MOK m) (h0 : 0 ≤ s ∧ s < m.nx.length) (hc : (c : Int) < m.inp) (hd : (d : Int) < m.inp) : PURE Try.prog 54 [m.av, .one (.int .i64 s), .one (.int .i64 (c : Int)), .one (.int .i64 (d : Int))] (.tup [.one (.list (.int .i64) (parW m s c d)), .one (.bool (!agrS m s c d))]) := by
  have h1 := hm.rl s.toNat (by omega); have h2 := hm.ql s.toNat (by omega); have h3 := hm.ol; have h4 := hm.nr s.toNat c (by omega) hc; have h5 := hm.nr s.toNat d (by omega) hd
  refine pure_of_le Try.func54 rfl (by kernel_rfl) (Nat.le_of_ble_eq_true rfl) rfl fun C hP hN hB => ?_
  replace hN : C.N = 54 := hN
  simp only [argEnv, reduceAdd]
  refine awp_seq_k fun K1 hK1 => ?_
  refine awp_reg hP hN rfl ?_
  iterate 3 (refine rg_step rfl fun K0 hK0 => ?_; simp only [zE, op1, ev, lkp, avOf, acOf, opBox, cellsAV, reduceCtorEq, reduceEqDiff, reduceAdd, reduceLeDiff, reduceLT, reduceMul, reduceSub, Try.el25, Try.st24, Try.td24, Try.td25, Try.td4, Mly.av]; (repeat refine And.intro (by first | omega | assumption | exact rfl) ?_); (first | refine hK0 _ ?_ | refine Or.inl (hK0 _ ?_)); clear hK0 K0; simp only [put, app, setAll, trOf, zE, zS, reduceAdd])
  refine rg_nil ?_
  refine hK1 _ ?_; clear hK1; refine awp_keep [0, 1, 2, 3, 4, 8, 9] ?_; simp only [keepEnv, lkp, zE, reduceCtorEq, reduceEqDiff, argEnv, reduceAdd]
  refine awp_seq_k fun K2 hK2 => ?_
  refine awp_seq_k fun K3 hK3 => ?_
  refine awp_drw hP hN Try.mixed rfl ?_
  iterate 17 (refine rg_step rfl fun K0 hK0 => ?_; simp only [zE, op1, ev, lkp, avOf, acOf, opFieldAddr, opLoad, Nat.mul_one, readAC, isAggK, acs, Ty.dflt, zG, cellsAt, opIndexAddr, Ty.size, ne_eq, not_false_eq_true, Int.natCast_one, Int.mul_one, opBin, arith, inK_i64, eqACs, eqAC, reduceCtorEq, reduceEqDiff, reduceAdd, reduceLeDiff, reduceLT, reduceMul, reduceSub, Try.el22, Try.el25, Try.st24, Try.td22, Try.td24, Try.td25, Try.td3, Try.td4, Mly.av]; (repeat refine And.intro (by first | omega | assumption | exact rfl) ?_); (first | refine hK0 _ ?_ | refine Or.inl (hK0 _ ?_)); clear hK0 K0; simp only [put, app, setAll, trOf, zE, zS, reduceAdd])
  refine rg_nil ?_
  refine ⟨by kernel_rfl, ?_⟩
  refine hK3 _ ?_; clear hK3; refine awp_keep [0, 1, 2, 3, 4, 8, 9, 29] ?_; simp only [keepEnv, lkp, zE, reduceCtorEq, reduceEqDiff, argEnv, reduceAdd]
  refine awp_cond (by simp only [ev, keepEnv, lkp, zE, reduceCtorEq, reduceEqDiff, argEnv, reduceAdd]; exact rfl) (fun hc4 => ?_) (fun hc4 => ?_)
  · (try simp only [zB, reduceCtorEq] at hc4)
    refine awp_seq_k fun K5 hK5 => ?_
    refine awp_reg hP hN rfl ?_
    iterate 2 (refine rg_step rfl fun K0 hK0 => ?_; simp only [zE, op1, ev, lkp, avOf, acOf, ev, reduceCtorEq, reduceEqDiff, reduceAdd, reduceLeDiff, reduceLT, reduceMul, reduceSub, Try.el25, Try.td25, Try.td4, Mly.av]; (repeat refine And.intro (by first | omega | assumption | exact rfl) ?_); (first | refine hK0 _ ?_ | refine Or.inl (hK0 _ ?_)); clear hK0 K0; simp only [put, app, setAll, trOf, zE, zS, reduceAdd])
    refine rg_nil ?_
    refine hK5 _ ?_; clear hK5; refine awp_keep [0, 1, 2, 3, 4, 8, 9, 29] ?_; simp only [keepEnv, lkp, zE, reduceCtorEq, reduceEqDiff, argEnv, reduceAdd]
    refine awp_ret ?_
    refine ⟨by first | exact .inl rfl | exact .inr rfl, _, rfl, ?_⟩; simp only [fzV, fz1, fzC, List.map_cons, List.map_nil, keepEnv, lkp, zE, reduceCtorEq, reduceEqDiff, argEnv, reduceAdd, Mly.av]
    first
    | (have hO : ¬ m.out s c = m.out s d := by simpa [Mly.out] using ‹¬ (_ : Int) = _›
       unfold parW agrS
       rw [if_neg hO, decide_eq_false hO]; exact vle_tup ⟨vle1_one (cle_nils rfl), vle1_one (.refl _), trivial⟩)
    | (have hO : m.out s c = m.out s d := by simp only [Mly.out, Int.toNat_natCast]; assumption
       have hq := eqc_seS hm h4 h5
       unfold parW agrS
       rw [if_pos hO, decide_eq_true hO, hq]; refine VLE.of_eq ?_; simp [Mly.nxt])
  · (try simp only [zB, reduceCtorEq] at hc4)
    refine awp_skip ?_
    refine hK2 _ ?_; clear hK2; refine awp_keep [0, 1, 2, 3, 4, 8, 9, 29] ?_; simp only [keepEnv, lkp, zE, reduceCtorEq, reduceEqDiff, argEnv, reduceAdd]
    refine awp_seq_k fun K6 hK6 => ?_
    refine awp_drw hP hN Try.mixed rfl ?_
    iterate 17 (refine rg_step rfl fun K0 hK0 => ?_; simp only [zE, op1, ev, lkp, avOf, acOf, opLoad, Nat.mul_one, readAC, isAggK, acs, Ty.dflt, zG, cellsAt, opFieldAddr, opIndexAddr, Ty.size, ne_eq, not_false_eq_true, Int.natCast_one, Int.mul_one, reduceCtorEq, reduceEqDiff, reduceAdd, reduceLeDiff, reduceLT, reduceMul, reduceSub, Try.el22, Try.el25, Try.st24, Try.td2, Try.td22, Try.td24, Try.td25, Try.td3, Mly.av]; (repeat refine And.intro (by first | omega | assumption | exact rfl) ?_); (first | refine hK0 _ ?_ | refine Or.inl (hK0 _ ?_)); clear hK0 K0; simp only [put, app, setAll, trOf, zE, zS, reduceAdd])
    refine rg_step rfl fun K0 hK0 => ?_
    refine op_call (h := call_of_pure (rstK_c m ((m.nx.getD s.toNat []).getD c 0) ((m.nx.getD s.toNat []).getD d 0) hm h4 h5)) rfl rfl (by first | exact rfl | (simp only [ev, keepEnv, lkp, zE, reduceCtorEq, reduceEqDiff, argEnv, reduceAdd]; exact rfl)) (by simp only [zE, zG, op1, ev, lkp, avOf, acOf, cellsAV, acs, capAV, mv1, mvC, Ty.dflt, reduceCtorEq, reduceEqDiff, reduceAdd, reduceLeDiff, reduceLT, reduceMul, reduceSub, Mly.av]) ?_
    refine hK0 _ ?_; clear hK0 K0; simp only [put, app, setAll, trOf, zE, zS, reduceAdd]
    iterate 7 (refine rg_step rfl fun K0 hK0 => ?_; simp only [zE, op1, ev, lkp, avOf, acOf, opExtract, reduceCtorEq, reduceEqDiff, reduceAdd, reduceLeDiff, reduceLT, reduceMul, reduceSub, Try.el25, Try.td1, Try.td2, Try.td25, Try.td3, Try.td4, Mly.av]; (repeat refine And.intro (by first | omega | assumption | exact rfl) ?_); (first | refine hK0 _ ?_ | refine Or.inl (hK0 _ ?_)); clear hK0 K0; simp only [put, app, setAll, trOf, zE, zS, reduceAdd])
    refine rg_nil ?_
    refine ⟨by kernel_rfl, ?_⟩
    refine hK6 _ ?_; clear hK6; refine awp_keep [0, 1, 2, 3, 4, 8, 9, 10, 11, 29] ?_; simp only [keepEnv, lkp, zE, reduceCtorEq, reduceEqDiff, argEnv, reduceAdd]
    refine awp_seq_k fun K7 hK7 => ?_
    refine awp_reg hP hN rfl ?_
    iterate 4 (refine rg_step rfl fun K0 hK0 => ?_; simp only [zE, op1, ev, lkp, avOf, acOf, ev, reduceCtorEq, reduceEqDiff, reduceAdd, reduceLeDiff, reduceLT, reduceMul, reduceSub, Try.el25, Try.td25, Try.td4, Mly.av]; (repeat refine And.intro (by first | omega | assumption | exact rfl) ?_); (first | refine hK0 _ ?_ | refine Or.inl (hK0 _ ?_)); clear hK0 K0; simp only [put, app, setAll, trOf, zE, zS, reduceAdd])
    refine rg_nil ?_
    refine hK7 _ ?_; clear hK7; refine awp_keep [0, 1, 2, 3, 4, 8, 9, 10, 11, 29] ?_; simp only [keepEnv, lkp, zE, reduceCtorEq, reduceEqDiff, argEnv, reduceAdd]
    refine awp_ret ?_
    refine ⟨by first | exact .inl rfl | exact .inr rfl, _, rfl, ?_⟩; simp only [fzV, fz1, fzC, List.map_cons, List.map_nil, keepEnv, lkp, zE, reduceCtorEq, reduceEqDiff, argEnv, reduceAdd, Mly.av]
    first
    | (have hO : ¬ m.out s c = m.out s d := by simpa [Mly.out] using ‹¬ (_ : Int) = _›
       unfold parW agrS
       rw [if_neg hO, decide_eq_false hO]; exact vle_tup ⟨vle1_one (cle_nils rfl), vle1_one (.refl _), trivial⟩)
    | (have hO : m.out s c = m.out s d := by simp only [Mly.out, Int.toNat_natCast]; assumption
       have hq := eqc_seS hm h4 h5
       unfold parW agrS
       rw [if_pos hO, decide_eq_true hO, hq]; refine VLE.of_eq ?_; simp [Mly.nxt])
end Go.Proofs.Ytceafldjjedhcaa
namespace Go.Proofs.Ytceafldjjedhcaa
open Go Go.AV
open Nat (reduceEqDiff reduceAdd reduceLeDiff reduceLT reduceMul reduceSub)
open List (set_cons_zero set_cons_succ)
set_option maxRecDepth 100000 in
theorem agree2_c (m : Mly) (s : Int) (c d : Nat) (hm : MOK m) (h0 : 0 ≤ s ∧ s < m.nx.length) (hc : (c : Int) < m.inp) (hd : (d : Int) < m.inp) : PURE Try.prog 37 [m.av, .one (.int .i64 s), .one (.int .i64 (c : Int)), .one (.int .i64 (d : Int))] (.one (.bool (agrS m s c d))) := by
  refine pure_of_le Try.func37 rfl (by kernel_rfl) (Nat.le_of_ble_eq_true rfl) rfl fun C hP hN hB => ?_
  replace hN : C.N = 21 := hN
  simp only [argEnv, reduceAdd]
  refine awp_seq_k fun K1 hK1 => ?_
  refine awp_reg hP hN rfl ?_
  iterate 2 (refine rg_step rfl fun K0 hK0 => ?_; simp only [zE, op1, ev, lkp, avOf, acOf, opBox, cellsAV, reduceCtorEq, reduceEqDiff, reduceAdd, reduceLeDiff, reduceLT, reduceMul, reduceSub, Try.st24, Try.td24, Try.td4, Mly.av]; (repeat refine And.intro (by first | omega | assumption | exact rfl) ?_); (first | refine hK0 _ ?_ | refine Or.inl (hK0 _ ?_)); clear hK0 K0; simp only [put, app, setAll, trOf, zE, zS, reduceAdd])
  refine rg_nil ?_
  refine hK1 _ ?_; clear hK1; refine awp_keep [0, 1, 2, 3, 4, 8] ?_; simp only [keepEnv, lkp, zE, reduceCtorEq, reduceEqDiff, argEnv, reduceAdd]
  refine awp_seq_k fun K2 hK2 => ?_
  refine awp_reg hP hN rfl ?_
  iterate 4 (refine rg_step rfl fun K0 hK0 => ?_; simp only [zE, op1, ev, lkp, avOf, acOf, opLoad, Nat.mul_one, readAC, isAggK, acs, Ty.dflt, zG, cellsAt, reduceCtorEq, reduceEqDiff, reduceAdd, reduceLeDiff, reduceLT, reduceMul, reduceSub, Try.st24, Try.td24, Try.td3, Mly.av]; (repeat refine And.intro (by first | omega | assumption | exact rfl) ?_); (first | refine hK0 _ ?_ | refine Or.inl (hK0 _ ?_)); clear hK0 K0; simp only [put, app, setAll, trOf, zE, zS, reduceAdd])
  refine rg_step rfl fun K0 hK0 => ?_
  refine op_call (h := call_of_pure (parting_c m s c d hm h0 hc hd)) rfl rfl (by first | exact rfl | (simp only [ev, keepEnv, lkp, zE, reduceCtorEq, reduceEqDiff, argEnv, reduceAdd]; exact rfl)) (by simp only [zE, zG, op1, ev, lkp, avOf, acOf, cellsAV, acs, capAV, mv1, mvC, Ty.dflt, reduceCtorEq, reduceEqDiff, reduceAdd, reduceLeDiff, reduceLT, reduceMul, reduceSub, Mly.av]) ?_
  refine hK0 _ ?_; clear hK0 K0; simp only [put, app, setAll, trOf, zE, zS, reduceAdd]
  iterate 5 (refine rg_step rfl fun K0 hK0 => ?_; simp only [zE, op1, ev, lkp, avOf, acOf, opExtract, reduceCtorEq, reduceEqDiff, reduceAdd, reduceLeDiff, reduceLT, reduceMul, reduceSub, Try.el25, Try.td1, Try.td25, Try.td4, Mly.av]; (repeat refine And.intro (by first | omega | assumption | exact rfl) ?_); (first | refine hK0 _ ?_ | refine Or.inl (hK0 _ ?_)); clear hK0 K0; simp only [put, app, setAll, trOf, zE, zS, reduceAdd])
  refine rg_nil ?_
  refine hK2 _ ?_; clear hK2; refine awp_keep [0, 1, 2, 3, 4, 8, 10] ?_; simp only [keepEnv, lkp, zE, reduceCtorEq, reduceEqDiff, argEnv, reduceAdd]
  refine awp_seq_k fun K3 hK3 => ?_
  refine awp_reg hP hN rfl ?_
  iterate 3 (refine rg_step rfl fun K0 hK0 => ?_; simp only [zE, op1, ev, lkp, avOf, acOf, opUn, reduceCtorEq, reduceEqDiff, reduceAdd, reduceLeDiff, reduceLT, reduceMul, reduceSub, Try.td4, Mly.av]; (repeat refine And.intro (by first | omega | assumption | exact rfl) ?_); (first | refine hK0 _ ?_ | refine Or.inl (hK0 _ ?_)); clear hK0 K0; simp only [put, app, setAll, trOf, zE, zS, reduceAdd])
  refine rg_nil ?_
  refine hK3 _ ?_; clear hK3; refine awp_keep [0, 1, 2, 3, 4, 8, 10] ?_; simp only [keepEnv, lkp, zE, reduceCtorEq, reduceEqDiff, argEnv, reduceAdd]
  refine awp_ret ?_
  refine ⟨by first | exact .inl rfl | exact .inr rfl, _, rfl, ?_⟩; simp only [fzV, fz1, fzC, List.map_cons, List.map_nil, keepEnv, lkp, zE, reduceCtorEq, reduceEqDiff, argEnv, reduceAdd, Mly.av]
  refine VLE.of_eq ?_
  refine congrArg (fun b => AV.one (AC.bool b)) ?_; simp
end Go.Proofs.Ytceafldjjedhcaa
namespace Go.Proofs.Ytceafldjjedhcaa
open Go Go.AV
open Nat (reduceEqDiff reduceAdd reduceLeDiff reduceLT reduceMul reduceSub)
open List (set_cons_zero set_cons_succ)
set_option maxRecDepth 100000 in
theorem count_c (cl : List Int) : PURE Try.prog 22 [.one (.list (.int .i64) cl)] (.tup [.one (.int .i64 (cntK cl)), .one (.int .i64 (cntE cl))]) := by
  refine pure_of_le Try.func22 rfl (by kernel_rfl) (Nat.le_of_ble_eq_true rfl) rfl fun C hP hN hB => ?_
  replace hN : C.N = 42 := hN
  simp only [argEnv, reduceAdd]
  refine awp_seq_k fun K1 hK1 => ?_
  refine awp_reg hP hN rfl ?_
  iterate 2 (refine rg_step rfl fun K0 hK0 => ?_; simp only [zE, op1, ev, lkp, avOf, acOf, ev, reduceCtorEq, reduceEqDiff, reduceAdd, reduceLeDiff, reduceLT, reduceMul, reduceSub, Try.td3]; (repeat refine And.intro (by first | omega | assumption | exact rfl) ?_); (first | refine hK0 _ ?_ | refine Or.inl (hK0 _ ?_)); clear hK0 K0; simp only [put, app, setAll, trOf, zE, zS, reduceAdd])
  refine rg_nil ?_
  refine hK1 _ ?_; clear hK1; refine awp_keep [0, 2, 3] ?_; simp only [keepEnv, lkp, zE, reduceCtorEq, reduceEqDiff, argEnv, reduceAdd]
  refine awp_seq_k fun K2 hK2 => ?_
  refine awp_seq_k fun K3 hK3 => ?_
  refine awp_reg hP hN rfl ?_
  iterate 3 (refine rg_step rfl fun K0 hK0 => ?_; simp only [zE, op1, ev, lkp, avOf, acOf, opCallAny, opMM, opLen, lenAC, lenOk, fpAC, Nat.div_one, opAppend, srcOf, Ty.size, datOf, dite_true, opBin, arith, inK_i64, eqACs, eqAC, reduceCtorEq, reduceEqDiff, reduceAdd, reduceLeDiff, reduceLT, reduceMul, reduceSub, Try.el25, Try.td25, Try.td3, Try.td4]; (repeat refine And.intro (by first | omega | assumption | exact rfl) ?_); (first | refine hK0 _ ?_ | refine Or.inl (hK0 _ ?_)); clear hK0 K0; simp only [put, app, setAll, trOf, zE, zS, reduceAdd])
  (refine rg_step rfl fun K0 hK0 => ?_; simp only [zE, op1, ev, lkp, avOf, acOf, ev, reduceCtorEq, reduceEqDiff, reduceAdd, reduceLeDiff, reduceLT, reduceMul, reduceSub, Try.td4]; (repeat refine And.intro (by first | omega | assumption | exact rfl) ?_); (first | refine hK0 _ ?_ | refine Or.inl (hK0 _ ?_)); clear hK0 K0; simp only [put, app, setAll, trOf, zE, zS, reduceAdd])
  refine' rg_join_n (want := false) 3 rfl (m := 9) (by simp only [keepEnv, lkp, zE, reduceCtorEq, reduceEqDiff, argEnv, reduceAdd]; exact rfl) (by kernel_rfl) rfl rfl rfl rfl rfl (fun hg4 => ?a4) ?b4 ?c4
  case a4 =>
    have hq4 := hg4; (try simp only [zB, reduceCtorEq] at hg4); simp only [List.take_succ_cons, List.take_zero, List.cons_append, List.nil_append]
    (refine rg_do rfl fun K0 hK0 => ?_; simp only [zE, op1, ev, lkp, avOf, acOf, ev, reduceCtorEq, reduceEqDiff, reduceAdd, reduceLeDiff, reduceLT, reduceMul, reduceSub, Try.el25, Try.td25]; (repeat refine And.intro (by first | omega | assumption | exact rfl) ?_); (first | refine hK0 _ ?_ | refine Or.inl (hK0 _ ?_)); clear hK0 K0; simp only [put, app, setAll, trOf, zE, zS, reduceAdd])
    (refine rg_do rfl fun K0 hK0 => ?_; simp only [zE, op1, ev, lkp, avOf, acOf, opCallAny, opMM, opLen, lenAC, lenOk, fpAC, Nat.div_one, opAppend, srcOf, Ty.size, datOf, dite_true, reduceCtorEq, reduceEqDiff, reduceAdd, reduceLeDiff, reduceLT, reduceMul, reduceSub, Try.el25, Try.td25, Try.td3]; (repeat refine And.intro (by first | omega | assumption | exact rfl) ?_); (first | refine hK0 _ ?_ | refine Or.inl (hK0 _ ?_)); clear hK0 K0; simp only [put, app, setAll, trOf, zE, zS, reduceAdd])
    (refine rg_do rfl fun K0 hK0 => ?_; simp only [zE, op1, ev, lkp, avOf, acOf, opBin, arith, inK_i64, eqACs, eqAC, reduceCtorEq, reduceEqDiff, reduceAdd, reduceLeDiff, reduceLT, reduceMul, reduceSub, Try.td3, Try.td4]; (repeat refine And.intro (by first | omega | assumption | exact rfl) ?_); (first | refine hK0 _ ?_ | refine Or.inl (hK0 _ ?_)); clear hK0 K0; simp only [put, app, setAll, trOf, zE, zS, reduceAdd])
    (refine rg_step rfl fun K0 hK0 => ?_; simp only [zE, op1, ev, lkp, avOf, acOf, opPick, reduceCtorEq, reduceEqDiff, reduceAdd, reduceLeDiff, reduceLT, reduceMul, reduceSub, Try.td4]; (repeat refine And.intro (by first | omega | assumption | exact rfl) ?_); (first | refine hK0 _ ?_ | refine Or.inl (hK0 _ ?_)); clear hK0 K0; simp only [put, app, setAll, trOf, zE, zS, reduceAdd])
    refine rg_nil ?_
    refine ⟨by simp only [keepEnv, lkp, zE, reduceCtorEq, reduceEqDiff, argEnv, reduceAdd]; exact rfl, rfl, ?_, rfl⟩; (repeat refine keep_cons rfl ?_); exact keep_m (by exact rfl) hq4
  case b4 => exact tle_of (by first | rfl | (simp [tleB]; done) | decide)
  simp only [join_or, join_and]
  refine rg_nil ?_
  refine hK3 _ ?_; clear hK3; refine awp_keep [0, 2, 3, 13] ?_; simp only [keepEnv, lkp, zE, reduceCtorEq, reduceEqDiff, argEnv, reduceAdd]
  refine awp_cond (by simp only [ev, keepEnv, lkp, zE, reduceCtorEq, reduceEqDiff, argEnv, reduceAdd]; exact rfl) (fun hc5 => ?_) (fun hc5 => ?_)
  · (try simp only [zB, reduceCtorEq] at hc5)
    refine awp_seq_k fun K6 hK6 => ?_
    refine awp_reg hP hN rfl ?_
    iterate 2 (refine rg_step rfl fun K0 hK0 => ?_; simp only [zE, op1, ev, lkp, avOf, acOf, ev, reduceCtorEq, reduceEqDiff, reduceAdd, reduceLeDiff, reduceLT, reduceMul, reduceSub, Try.td3]; (repeat refine And.intro (by first | omega | assumption | exact rfl) ?_); (first | refine hK0 _ ?_ | refine Or.inl (hK0 _ ?_)); clear hK0 K0; simp only [put, app, setAll, trOf, zE, zS, reduceAdd])
    refine rg_nil ?_
    refine hK6 _ ?_; clear hK6; refine awp_keep [0, 2, 3, 13] ?_; simp only [keepEnv, lkp, zE, reduceCtorEq, reduceEqDiff, argEnv, reduceAdd]
    refine awp_ret ?_
    refine ⟨by first | exact .inl rfl | exact .inr rfl, _, rfl, ?_⟩; simp only [fzV, fz1, fzC, List.map_cons, List.map_nil, keepEnv, lkp, zE, reduceCtorEq, reduceEqDiff, argEnv, reduceAdd]
    refine VLE.of_eq ?_
    unfold cntK
    first
    | (rw [cntE_size (by omega)]; rfl)
    | (rw [cntE_bad (by omega) (k := k) (by omega) (cBad_yes (by omega))]; rfl)
    | (have hkl : k = cl.length := by omega
       subst hkl
       rw [cntE_ok (by omega) hq]; rfl)
  · (try simp only [zB, reduceCtorEq] at hc5)
    refine awp_skip ?_
    refine hK2 _ ?_; clear hK2; refine awp_keep [0, 2, 3, 13] ?_; simp only [keepEnv, lkp, zE, reduceCtorEq, reduceEqDiff, argEnv, reduceAdd]
    refine awp_seq_k fun K7 hK7 => ?_
    refine awp_reg hP hN rfl ?_
    (refine rg_step rfl fun K0 hK0 => ?_; simp only [zE, op1, ev, lkp, avOf, acOf, ev, reduceCtorEq, reduceEqDiff, reduceAdd, reduceLeDiff, reduceLT, reduceMul, reduceSub, Try.td3]; (repeat refine And.intro (by first | omega | assumption | exact rfl) ?_); (first | refine hK0 _ ?_ | refine Or.inl (hK0 _ ?_)); clear hK0 K0; simp only [put, app, setAll, trOf, zE, zS, reduceAdd])
    refine rg_nil ?_
    refine hK7 _ ?_; clear hK7; refine awp_keep [0, 2, 3, 4, 13] ?_; simp only [keepEnv, lkp, zE, reduceCtorEq, reduceEqDiff, argEnv, reduceAdd]
    refine awp_seq_k fun K8 hK8 => ?_
    refine awp_seq_k fun K9 hK9 => ?_
    refine awp_reg hP hN rfl ?_
    (refine rg_step rfl fun K0 hK0 => ?_; simp only [zE, op1, ev, lkp, avOf, acOf, ev, reduceCtorEq, reduceEqDiff, reduceAdd, reduceLeDiff, reduceLT, reduceMul, reduceSub, Try.td3]; (repeat refine And.intro (by first | omega | assumption | exact rfl) ?_); (first | refine hK0 _ ?_ | refine Or.inl (hK0 _ ?_)); clear hK0 K0; simp only [put, app, setAll, trOf, zE, zS, reduceAdd])
    refine rg_nil ?_
    refine hK9 _ ?_; clear hK9; refine awp_keep [0, 2, 3, 4, 5, 13] ?_; simp only [keepEnv, lkp, zE, reduceCtorEq, reduceEqDiff, argEnv, reduceAdd]
    refine awp_block ?_
    refine awp_loop (fun n10 s10 => ∃ (k : Nat), (k ≤ cl.length) ∧ (∀ q, q < k → cBad cl q = false) ∧ n10 = cl.length - k ∧ s10 = { env := [(0, .one (.list (.int .i64) cl)), (4, .one (.int .i64 (cN cl k))), (5, .one (.int .i64 (k : Int)))], L := [] }) ?_ ?_
    · refine ⟨_, _, sub_keep [0, 4, 5], 0, Nat.zero_le _, fun q hq => by omega, rfl, rfl⟩
    · rintro n10 s10 ⟨k, hk, hq, rfl, rfl⟩
      refine awp_seq_k fun K11 hK11 => ?_
      refine awp_seq_k fun K12 hK12 => ?_
      refine awp_reg hP hN rfl ?_
      iterate 4 (refine rg_step rfl fun K0 hK0 => ?_; simp only [zE, op1, ev, lkp, avOf, acOf, opCallAny, opMM, opLen, lenAC, lenOk, fpAC, Nat.div_one, opAppend, srcOf, Ty.size, datOf, dite_true, opBin, arith, inK_i64, eqACs, eqAC, reduceCtorEq, reduceEqDiff, reduceAdd, reduceLeDiff, reduceLT, reduceMul, reduceSub, Try.el25, Try.td25, Try.td3, Try.td4]; (repeat refine And.intro (by first | omega | assumption | exact rfl) ?_); (first | refine hK0 _ ?_ | refine Or.inl (hK0 _ ?_)); clear hK0 K0; simp only [put, app, setAll, trOf, zE, zS, reduceAdd])
      refine rg_nil ?_
      refine hK12 _ ?_; clear hK12; refine awp_keep [0, 4, 5, 17] ?_; simp only [keepEnv, lkp, zE, reduceCtorEq, reduceEqDiff, argEnv, reduceAdd]
      refine awp_cond (by simp only [ev, keepEnv, lkp, zE, reduceCtorEq, reduceEqDiff, argEnv, reduceAdd]; exact rfl) (fun hc13 => ?_) (fun hc13 => ?_)
      · (try simp only [zB, reduceCtorEq] at hc13)
        refine awp_skip ?_
        refine hK11 _ ?_; clear hK11; refine awp_keep [0, 4, 5, 17] ?_; simp only [keepEnv, lkp, zE, reduceCtorEq, reduceEqDiff, argEnv, reduceAdd]
        refine awp_seq_k fun K14 hK14 => ?_
        refine awp_block ?_
        refine awp_seq_k fun K15 hK15 => ?_
        refine awp_seq_k fun K16 hK16 => ?_
        refine awp_reg hP hN rfl ?_
        iterate 5 (refine rg_step rfl fun K0 hK0 => ?_; simp only [zE, op1, ev, lkp, avOf, acOf, opIndexAddr, zG, Ty.dflt, Ty.size, Nat.mul_one, ne_eq, not_false_eq_true, Int.natCast_one, Int.mul_one, opLoad, readAC, isAggK, acs, cellsAt, opBin, arith, inK_i64, eqACs, eqAC, reduceCtorEq, reduceEqDiff, reduceAdd, reduceLeDiff, reduceLT, reduceMul, reduceSub, Try.el25, Try.td25, Try.td3, Try.td4]; (repeat refine And.intro (by first | omega | assumption | exact rfl) ?_); (first | refine hK0 _ ?_ | refine Or.inl (hK0 _ ?_)); clear hK0 K0; simp only [put, app, setAll, trOf, zE, zS, reduceAdd])
        (refine rg_step rfl fun K0 hK0 => ?_; simp only [zE, op1, ev, lkp, avOf, acOf, ev, reduceCtorEq, reduceEqDiff, reduceAdd, reduceLeDiff, reduceLT, reduceMul, reduceSub, Try.td4]; (repeat refine And.intro (by first | omega | assumption | exact rfl) ?_); (first | refine hK0 _ ?_ | refine Or.inl (hK0 _ ?_)); clear hK0 K0; simp only [put, app, setAll, trOf, zE, zS, reduceAdd])
        refine' rg_join_n (want := false) 6 rfl (m := 25) (by simp only [keepEnv, lkp, zE, reduceCtorEq, reduceEqDiff, argEnv, reduceAdd]; exact rfl) (by kernel_rfl) rfl rfl rfl rfl rfl (fun hg17 => ?a17) ?b17 ?c17
        case a17 =>
          have hq17 := hg17; (try simp only [zB, reduceCtorEq] at hg17); simp only [List.take_succ_cons, List.take_zero, List.cons_append, List.nil_append]
          (refine rg_do rfl fun K0 hK0 => ?_; simp only [zE, op1, ev, lkp, avOf, acOf, ev, reduceCtorEq, reduceEqDiff, reduceAdd, reduceLeDiff, reduceLT, reduceMul, reduceSub, Try.el25, Try.td25]; (repeat refine And.intro (by first | omega | assumption | exact rfl) ?_); (first | refine hK0 _ ?_ | refine Or.inl (hK0 _ ?_)); clear hK0 K0; simp only [put, app, setAll, trOf, zE, zS, reduceAdd])
          (refine rg_do rfl fun K0 hK0 => ?_; simp only [zE, op1, ev, lkp, avOf, acOf, ev, reduceCtorEq, reduceEqDiff, reduceAdd, reduceLeDiff, reduceLT, reduceMul, reduceSub, Try.td3]; (repeat refine And.intro (by first | omega | assumption | exact rfl) ?_); (first | refine hK0 _ ?_ | refine Or.inl (hK0 _ ?_)); clear hK0 K0; simp only [put, app, setAll, trOf, zE, zS, reduceAdd])
          (refine rg_do rfl fun K0 hK0 => ?_; simp only [zE, op1, ev, lkp, avOf, acOf, opIndexAddr, zG, Ty.dflt, Ty.size, Nat.mul_one, ne_eq, not_false_eq_true, Int.natCast_one, Int.mul_one, reduceCtorEq, reduceEqDiff, reduceAdd, reduceLeDiff, reduceLT, reduceMul, reduceSub, Try.el25, Try.td25]; (repeat refine And.intro (by first | omega | assumption | exact rfl) ?_); (first | refine hK0 _ ?_ | refine Or.inl (hK0 _ ?_)); clear hK0 K0; simp only [put, app, setAll, trOf, zE, zS, reduceAdd])
          (refine rg_do rfl fun K0 hK0 => ?_; simp only [zE, op1, ev, lkp, avOf, acOf, opLoad, Nat.mul_one, readAC, isAggK, acs, Ty.dflt, zG, cellsAt, reduceCtorEq, reduceEqDiff, reduceAdd, reduceLeDiff, reduceLT, reduceMul, reduceSub, Try.td3]; (repeat refine And.intro (by first | omega | assumption | exact rfl) ?_); (first | refine hK0 _ ?_ | refine Or.inl (hK0 _ ?_)); clear hK0 K0; simp only [put, app, setAll, trOf, zE, zS, reduceAdd])
          (refine rg_do rfl fun K0 hK0 => ?_; simp only [zE, op1, ev, lkp, avOf, acOf, ev, reduceCtorEq, reduceEqDiff, reduceAdd, reduceLeDiff, reduceLT, reduceMul, reduceSub, Try.td3]; (repeat refine And.intro (by first | omega | assumption | exact rfl) ?_); (first | refine hK0 _ ?_ | refine Or.inl (hK0 _ ?_)); clear hK0 K0; simp only [put, app, setAll, trOf, zE, zS, reduceAdd])
          (refine rg_do rfl fun K0 hK0 => ?_; simp only [zE, op1, ev, lkp, avOf, acOf, opBin, arith, inK_i64, eqACs, eqAC, reduceCtorEq, reduceEqDiff, reduceAdd, reduceLeDiff, reduceLT, reduceMul, reduceSub, Try.td3, Try.td4]; (repeat refine And.intro (by first | omega | assumption | exact rfl) ?_); (first | refine hK0 _ ?_ | refine Or.inl (hK0 _ ?_)); clear hK0 K0; simp only [put, app, setAll, trOf, zE, zS, reduceAdd])
          (refine rg_step rfl fun K0 hK0 => ?_; simp only [zE, op1, ev, lkp, avOf, acOf, opPick, reduceCtorEq, reduceEqDiff, reduceAdd, reduceLeDiff, reduceLT, reduceMul, reduceSub, Try.td4]; (repeat refine And.intro (by first | omega | assumption | exact rfl) ?_); (first | refine hK0 _ ?_ | refine Or.inl (hK0 _ ?_)); clear hK0 K0; simp only [put, app, setAll, trOf, zE, zS, reduceAdd])
          refine rg_nil ?_
          refine ⟨by simp only [keepEnv, lkp, zE, reduceCtorEq, reduceEqDiff, argEnv, reduceAdd]; exact rfl, rfl, ?_, rfl⟩; (repeat refine keep_cons rfl ?_); exact keep_m (by exact rfl) hq17
        case b17 => exact tle_of (by first | rfl | (simp [tleB]; done) | decide)
        simp only [join_or, join_and]
        refine rg_nil ?_
        refine hK16 _ ?_; clear hK16; refine awp_keep [0, 4, 5, 17, 32] ?_; simp only [keepEnv, lkp, zE, reduceCtorEq, reduceEqDiff, argEnv, reduceAdd]
        refine awp_cond (by simp only [ev, keepEnv, lkp, zE, reduceCtorEq, reduceEqDiff, argEnv, reduceAdd]; exact rfl) (fun hc18 => ?_) (fun hc18 => ?_)
        · (try simp only [zB, reduceCtorEq] at hc18)
          refine awp_seq_k fun K19 hK19 => ?_
          refine awp_reg hP hN rfl ?_
          iterate 2 (refine rg_step rfl fun K0 hK0 => ?_; simp only [zE, op1, ev, lkp, avOf, acOf, ev, reduceCtorEq, reduceEqDiff, reduceAdd, reduceLeDiff, reduceLT, reduceMul, reduceSub, Try.td3]; (repeat refine And.intro (by first | omega | assumption | exact rfl) ?_); (first | refine hK0 _ ?_ | refine Or.inl (hK0 _ ?_)); clear hK0 K0; simp only [put, app, setAll, trOf, zE, zS, reduceAdd])
          refine rg_nil ?_
          refine hK19 _ ?_; clear hK19; refine awp_keep [0, 2, 3, 4, 5, 17, 32] ?_; simp only [keepEnv, lkp, zE, reduceCtorEq, reduceEqDiff, argEnv, reduceAdd]
          refine awp_ret ?_
          refine ⟨by first | exact .inl rfl | exact .inr rfl, _, rfl, ?_⟩; simp only [fzV, fz1, fzC, List.map_cons, List.map_nil, keepEnv, lkp, zE, reduceCtorEq, reduceEqDiff, argEnv, reduceAdd]
          refine VLE.of_eq ?_
          unfold cntK
          first
          | (rw [cntE_size (by omega)]; rfl)
          | (rw [cntE_bad (by omega) (k := k) (by omega) (cBad_yes (by omega))]; rfl)
          | (have hkl : k = cl.length := by omega
             subst hkl
             rw [cntE_ok (by omega) hq]; rfl)
        · (try simp only [zB, reduceCtorEq] at hc18)
          refine awp_skip ?_
          refine hK15 _ ?_; clear hK15; refine awp_keep [0, 4, 5, 17, 32] ?_; simp only [keepEnv, lkp, zE, reduceCtorEq, reduceEqDiff, argEnv, reduceAdd]
          refine awp_seq_k fun K20 hK20 => ?_
          have hcnb := cN_le' hq
          refine awp_reg hP hN rfl ?_
          iterate 6 (refine rg_step rfl fun K0 hK0 => ?_; simp only [zE, op1, ev, lkp, avOf, acOf, opIndexAddr, zG, Ty.dflt, Ty.size, Nat.mul_one, ne_eq, not_false_eq_true, Int.natCast_one, Int.mul_one, opLoad, readAC, isAggK, acs, cellsAt, opBin, arith, inK_i64, eqACs, eqAC, reduceCtorEq, reduceEqDiff, reduceAdd, reduceLeDiff, reduceLT, reduceMul, reduceSub, Try.el25, Try.td25, Try.td3, Try.td4]; (repeat refine And.intro (by first | omega | assumption | exact rfl) ?_); (first | refine hK0 _ ?_ | refine Or.inl (hK0 _ ?_)); clear hK0 K0; simp only [put, app, setAll, trOf, zE, zS, reduceAdd])
          refine rg_nil ?_
          refine hK20 _ ?_; clear hK20; refine awp_keep [0, 4, 5, 17, 32, 38] ?_; simp only [keepEnv, lkp, zE, reduceCtorEq, reduceEqDiff, argEnv, reduceAdd]
          refine awp_cond (by simp only [ev, keepEnv, lkp, zE, reduceCtorEq, reduceEqDiff, argEnv, reduceAdd]; exact rfl) (fun hc21 => ?_) (fun hc21 => ?_)
          · (try simp only [zB, reduceCtorEq] at hc21)
            refine awp_reg hP hN rfl ?_
            iterate 3 (refine rg_step rfl fun K0 hK0 => ?_; simp only [zE, op1, ev, lkp, avOf, acOf, opBin, arith, inK_i64, eqACs, eqAC, reduceCtorEq, reduceEqDiff, reduceAdd, reduceLeDiff, reduceLT, reduceMul, reduceSub, Try.td3]; (repeat refine And.intro (by first | omega | assumption | exact rfl) ?_); (first | refine hK0 _ ?_ | refine Or.inl (hK0 _ ?_)); clear hK0 K0; simp only [put, app, setAll, trOf, zE, zS, reduceAdd])
            refine rg_nil ?_
            refine hK14 _ ?_; clear hK14; refine awp_keep [0, 4, 5, 17, 32, 38] ?_; simp only [keepEnv, lkp, zE, reduceCtorEq, reduceEqDiff, argEnv, reduceAdd]
            refine awp_reg hP hN rfl ?_
            iterate 3 (refine rg_step rfl fun K0 hK0 => ?_; simp only [zE, op1, ev, lkp, avOf, acOf, opBin, arith, inK_i64, eqACs, eqAC, reduceCtorEq, reduceEqDiff, reduceAdd, reduceLeDiff, reduceLT, reduceMul, reduceSub, Try.td3]; (repeat refine And.intro (by first | omega | assumption | exact rfl) ?_); (first | refine hK0 _ ?_ | refine Or.inl (hK0 _ ?_)); clear hK0 K0; simp only [put, app, setAll, trOf, zE, zS, reduceAdd])
            refine rg_nil ?_
            have hbk : cBad cl k = false := cBad_no (by omega) (by omega)
            have hcn := cN_le' hq
            refine ⟨_, _, ?_, sub_keep [0, 4, 5], k + 1, by omega, fun q hq2 => ?_, rfl, ?_⟩
            · omega
            · by_cases e : q = k
              · rw [e]; exact hbk
              · exact hq q (by omega)
            · first | rfl | (simp only [cN]; first | (rw [show max (cN cl k) (cl.getD k 0 + 1) = cN cl k + 1 by omega]; rfl) | (rw [show max (cN cl k) (cl.getD k 0 + 1) = cN cl k by omega]; rfl) | rfl)
          · (try simp only [zB, reduceCtorEq] at hc21)
            refine awp_skip ?_
            refine hK14 _ ?_; clear hK14; refine awp_keep [0, 4, 5, 17, 32, 38] ?_; simp only [keepEnv, lkp, zE, reduceCtorEq, reduceEqDiff, argEnv, reduceAdd]
            refine awp_reg hP hN rfl ?_
            iterate 3 (refine rg_step rfl fun K0 hK0 => ?_; simp only [zE, op1, ev, lkp, avOf, acOf, opBin, arith, inK_i64, eqACs, eqAC, reduceCtorEq, reduceEqDiff, reduceAdd, reduceLeDiff, reduceLT, reduceMul, reduceSub, Try.td3]; (repeat refine And.intro (by first | omega | assumption | exact rfl) ?_); (first | refine hK0 _ ?_ | refine Or.inl (hK0 _ ?_)); clear hK0 K0; simp only [put, app, setAll, trOf, zE, zS, reduceAdd])
            refine rg_nil ?_
            have hbk : cBad cl k = false := cBad_no (by omega) (by omega)
            have hcn := cN_le' hq
            refine ⟨_, _, ?_, sub_keep [0, 4, 5], k + 1, by omega, fun q hq2 => ?_, rfl, ?_⟩
            · omega
            · by_cases e : q = k
              · rw [e]; exact hbk
              · exact hq q (by omega)
            · first | rfl | (simp only [cN]; first | (rw [show max (cN cl k) (cl.getD k 0 + 1) = cN cl k + 1 by omega]; rfl) | (rw [show max (cN cl k) (cl.getD k 0 + 1) = cN cl k by omega]; rfl) | rfl)
      · (try simp only [zB, reduceCtorEq] at hc13)
        refine awp_exit ?_
        refine hK8 _ ?_; clear hK8; refine awp_keep [0, 4, 5, 17] ?_; simp only [keepEnv, lkp, zE, reduceCtorEq, reduceEqDiff, argEnv, reduceAdd]
        refine awp_seq_k fun K22 hK22 => ?_
        refine awp_reg hP hN rfl ?_
        iterate 3 (refine rg_step rfl fun K0 hK0 => ?_; simp only [zE, op1, ev, lkp, avOf, acOf, ev, reduceCtorEq, reduceEqDiff, reduceAdd, reduceLeDiff, reduceLT, reduceMul, reduceSub, Try.td3]; (repeat refine And.intro (by first | omega | assumption | exact rfl) ?_); (first | refine hK0 _ ?_ | refine Or.inl (hK0 _ ?_)); clear hK0 K0; simp only [put, app, setAll, trOf, zE, zS, reduceAdd])
        refine rg_nil ?_
        refine hK22 _ ?_; clear hK22; refine awp_keep [0, 2, 3, 4, 5, 17] ?_; simp only [keepEnv, lkp, zE, reduceCtorEq, reduceEqDiff, argEnv, reduceAdd]
        refine awp_ret ?_
        refine ⟨by first | exact .inl rfl | exact .inr rfl, _, rfl, ?_⟩; simp only [fzV, fz1, fzC, List.map_cons, List.map_nil, keepEnv, lkp, zE, reduceCtorEq, reduceEqDiff, argEnv, reduceAdd]
        refine VLE.of_eq ?_
        unfold cntK
        first
        | (rw [cntE_size (by omega)]; rfl)
        | (rw [cntE_bad (by omega) (k := k) (by omega) (cBad_yes (by omega))]; rfl)
        | (have hkl : k = cl.length := by omega
           subst hkl
           rw [cntE_ok (by omega) hq]; rfl)
end Go.Proofs.Ytceafldjjedhcaa
namespace Go.Proofs.Ytceafldjjedhcaa
open Go Go.AV
open Nat (reduceEqDiff reduceAdd reduceLeDiff reduceLT reduceMul reduceSub)
open List (set_cons_zero set_cons_succ)
set_option maxRecDepth 100000 in
theorem chk2_c (m : Mly) (cl : List Int) : PURE Try.prog 30 [m.av, .one (.list (.int .i64) cl)] (.one (.int .i64 (chkE m cl))) := by
  refine pure_of_le Try.func30 rfl (by kernel_rfl) (Nat.le_of_ble_eq_true rfl) rfl fun C hP hN hB => ?_
  replace hN : C.N = 26 := hN
  simp only [argEnv, reduceAdd]
  refine awp_seq_k fun K1 hK1 => ?_
  refine awp_reg hP hN rfl ?_
  iterate 2 (refine rg_step rfl fun K0 hK0 => ?_; simp only [zE, op1, ev, lkp, avOf, acOf, opBox, cellsAV, reduceCtorEq, reduceEqDiff, reduceAdd, reduceLeDiff, reduceLT, reduceMul, reduceSub, Try.st24, Try.td24, Try.td3, Mly.av]; (repeat refine And.intro (by first | omega | assumption | exact rfl) ?_); (first | refine hK0 _ ?_ | refine Or.inl (hK0 _ ?_)); clear hK0 K0; simp only [put, app, setAll, trOf, zE, zS, reduceAdd])
  refine rg_nil ?_
  refine hK1 _ ?_; clear hK1; refine awp_keep [0, 1, 2, 4] ?_; simp only [keepEnv, lkp, zE, reduceCtorEq, reduceEqDiff, argEnv, reduceAdd]
  refine awp_seq_k fun K2 hK2 => ?_
  refine awp_seq_k fun K3 hK3 => ?_
  refine awp_reg hP hN rfl ?_
  (refine rg_step rfl fun K0 hK0 => ?_; simp only [zE, op1, ev, lkp, avOf, acOf, opLoad, Nat.mul_one, readAC, isAggK, acs, Ty.dflt, zG, cellsAt, reduceCtorEq, reduceEqDiff, reduceAdd, reduceLeDiff, reduceLT, reduceMul, reduceSub, Try.st24, Try.td24, Mly.av]; (repeat refine And.intro (by first | omega | assumption | exact rfl) ?_); (first | refine hK0 _ ?_ | refine Or.inl (hK0 _ ?_)); clear hK0 K0; simp only [put, app, setAll, trOf, zE, zS, reduceAdd])
  refine rg_step rfl fun K0 hK0 => ?_
  refine op_call (h := call_of_pure (rvalid_c m)) rfl rfl (by first | exact rfl | (simp only [ev, keepEnv, lkp, zE, reduceCtorEq, reduceEqDiff, argEnv, reduceAdd]; exact rfl)) (by simp only [zE, zG, op1, ev, lkp, avOf, acOf, cellsAV, acs, capAV, mv1, mvC, Ty.dflt, reduceCtorEq, reduceEqDiff, reduceAdd, reduceLeDiff, reduceLT, reduceMul, reduceSub, Mly.av]) ?_
  refine hK0 _ ?_; clear hK0 K0; simp only [put, app, setAll, trOf, zE, zS, reduceAdd]
  (refine rg_step rfl fun K0 hK0 => ?_; simp only [zE, op1, ev, lkp, avOf, acOf, ev, reduceCtorEq, reduceEqDiff, reduceAdd, reduceLeDiff, reduceLT, reduceMul, reduceSub, Try.td3, Mly.av]; (repeat refine And.intro (by first | omega | assumption | exact rfl) ?_); (first | refine hK0 _ ?_ | refine Or.inl (hK0 _ ?_)); clear hK0 K0; simp only [put, app, setAll, trOf, zE, zS, reduceAdd])
  refine rg_nil ?_
  refine hK3 _ ?_; clear hK3; refine awp_keep [0, 1, 2, 4, 5] ?_; simp only [keepEnv, lkp, zE, reduceCtorEq, reduceEqDiff, argEnv, reduceAdd]
  refine awp_seq_k fun K4 hK4 => ?_
  refine awp_reg hP hN rfl ?_
  iterate 2 (refine rg_step rfl fun K0 hK0 => ?_; simp only [zE, op1, ev, lkp, avOf, acOf, opBin, arith, inK_i64, eqACs, eqAC, reduceCtorEq, reduceEqDiff, reduceAdd, reduceLeDiff, reduceLT, reduceMul, reduceSub, Try.td3, Try.td4, Mly.av]; (repeat refine And.intro (by first | omega | assumption | exact rfl) ?_); (first | refine hK0 _ ?_ | refine Or.inl (hK0 _ ?_)); clear hK0 K0; simp only [put, app, setAll, trOf, zE, zS, reduceAdd])
  refine rg_nil ?_
  refine hK4 _ ?_; clear hK4; refine awp_keep [0, 1, 2, 4, 5, 11] ?_; simp only [keepEnv, lkp, zE, reduceCtorEq, reduceEqDiff, argEnv, reduceAdd]
  refine awp_cond (by simp only [ev, keepEnv, lkp, zE, reduceCtorEq, reduceEqDiff, argEnv, reduceAdd]; exact rfl) (fun hc5 => ?_) (fun hc5 => ?_)
  · (try simp only [zB, reduceCtorEq] at hc5)
    refine awp_seq_k fun K6 hK6 => ?_
    refine awp_reg hP hN rfl ?_
    iterate 2 (refine rg_step rfl fun K0 hK0 => ?_; simp only [zE, op1, ev, lkp, avOf, acOf, ev, reduceCtorEq, reduceEqDiff, reduceAdd, reduceLeDiff, reduceLT, reduceMul, reduceSub, Try.td3, Mly.av]; (repeat refine And.intro (by first | omega | assumption | exact rfl) ?_); (first | refine hK0 _ ?_ | refine Or.inl (hK0 _ ?_)); clear hK0 K0; simp only [put, app, setAll, trOf, zE, zS, reduceAdd])
    refine rg_nil ?_
    refine hK6 _ ?_; clear hK6; refine awp_keep [0, 1, 2, 4, 5, 11] ?_; simp only [keepEnv, lkp, zE, reduceCtorEq, reduceEqDiff, argEnv, reduceAdd]
    refine awp_ret ?_
    refine ⟨by first | exact .inl rfl | exact .inr rfl, _, rfl, ?_⟩; simp only [fzV, fz1, fzC, List.map_cons, List.map_nil, keepEnv, lkp, zE, reduceCtorEq, reduceEqDiff, argEnv, reduceAdd, Mly.av]
    refine VLE.of_eq ?_
    refine congrArg (fun n => AV.one (AC.int IntKind.i64 n)) ?_
    symm
    unfold chkE
    first
    | (rw [if_pos (by omega)]; done)
    | (rw [if_neg (by omega), if_pos (by omega)]; done)
    | (rw [if_neg (by omega), if_neg (by omega), if_neg (by omega)]; done)
    | (rw [if_neg (by omega), if_neg (by omega), if_pos (by omega)]; done)
  · (try simp only [zB, reduceCtorEq] at hc5)
    refine awp_skip ?_
    refine hK2 _ ?_; clear hK2; refine awp_keep [0, 1, 2, 4, 5, 11] ?_; simp only [keepEnv, lkp, zE, reduceCtorEq, reduceEqDiff, argEnv, reduceAdd]
    refine awp_seq_k fun K7 hK7 => ?_
    refine awp_seq_k fun K8 hK8 => ?_
    refine awp_reg hP hN rfl ?_
    (refine rg_step rfl fun K0 hK0 => ?_; simp only [zE, op1, ev, lkp, avOf, acOf, ev, reduceCtorEq, reduceEqDiff, reduceAdd, reduceLeDiff, reduceLT, reduceMul, reduceSub, Try.el25, Try.td25, Mly.av]; (repeat refine And.intro (by first | omega | assumption | exact rfl) ?_); (first | refine hK0 _ ?_ | refine Or.inl (hK0 _ ?_)); clear hK0 K0; simp only [put, app, setAll, trOf, zE, zS, reduceAdd])
    refine rg_step rfl fun K0 hK0 => ?_
    refine op_call (h := call_of_pure (count_c cl)) rfl rfl (by first | exact rfl | (simp only [ev, keepEnv, lkp, zE, reduceCtorEq, reduceEqDiff, argEnv, reduceAdd]; exact rfl)) (by simp only [zE, zG, op1, ev, lkp, avOf, acOf, cellsAV, acs, capAV, mv1, mvC, Ty.dflt, reduceCtorEq, reduceEqDiff, reduceAdd, reduceLeDiff, reduceLT, reduceMul, reduceSub, Mly.av]) ?_
    refine hK0 _ ?_; clear hK0 K0; simp only [put, app, setAll, trOf, zE, zS, reduceAdd]
    iterate 5 (refine rg_step rfl fun K0 hK0 => ?_; simp only [zE, op1, ev, lkp, avOf, acOf, opExtract, reduceCtorEq, reduceEqDiff, reduceAdd, reduceLeDiff, reduceLT, reduceMul, reduceSub, Try.td1, Try.td3, Mly.av]; (repeat refine And.intro (by first | omega | assumption | exact rfl) ?_); (first | refine hK0 _ ?_ | refine Or.inl (hK0 _ ?_)); clear hK0 K0; simp only [put, app, setAll, trOf, zE, zS, reduceAdd])
    refine rg_nil ?_
    refine hK8 _ ?_; clear hK8; refine awp_keep [0, 1, 2, 4, 5, 7, 11] ?_; simp only [keepEnv, lkp, zE, reduceCtorEq, reduceEqDiff, argEnv, reduceAdd]
    refine awp_seq_k fun K9 hK9 => ?_
    refine awp_reg hP hN rfl ?_
    iterate 2 (refine rg_step rfl fun K0 hK0 => ?_; simp only [zE, op1, ev, lkp, avOf, acOf, opBin, arith, inK_i64, eqACs, eqAC, reduceCtorEq, reduceEqDiff, reduceAdd, reduceLeDiff, reduceLT, reduceMul, reduceSub, Try.td3, Try.td4, Mly.av]; (repeat refine And.intro (by first | omega | assumption | exact rfl) ?_); (first | refine hK0 _ ?_ | refine Or.inl (hK0 _ ?_)); clear hK0 K0; simp only [put, app, setAll, trOf, zE, zS, reduceAdd])
    refine rg_nil ?_
    refine hK9 _ ?_; clear hK9; refine awp_keep [0, 1, 2, 4, 5, 7, 11, 19] ?_; simp only [keepEnv, lkp, zE, reduceCtorEq, reduceEqDiff, argEnv, reduceAdd]
    refine awp_cond (by simp only [ev, keepEnv, lkp, zE, reduceCtorEq, reduceEqDiff, argEnv, reduceAdd]; exact rfl) (fun hc10 => ?_) (fun hc10 => ?_)
    · (try simp only [zB, reduceCtorEq] at hc10)
      refine awp_seq_k fun K11 hK11 => ?_
      refine awp_reg hP hN rfl ?_
      iterate 2 (refine rg_step rfl fun K0 hK0 => ?_; simp only [zE, op1, ev, lkp, avOf, acOf, ev, reduceCtorEq, reduceEqDiff, reduceAdd, reduceLeDiff, reduceLT, reduceMul, reduceSub, Try.td3, Mly.av]; (repeat refine And.intro (by first | omega | assumption | exact rfl) ?_); (first | refine hK0 _ ?_ | refine Or.inl (hK0 _ ?_)); clear hK0 K0; simp only [put, app, setAll, trOf, zE, zS, reduceAdd])
      refine rg_nil ?_
      refine hK11 _ ?_; clear hK11; refine awp_keep [0, 1, 2, 4, 5, 7, 11, 19] ?_; simp only [keepEnv, lkp, zE, reduceCtorEq, reduceEqDiff, argEnv, reduceAdd]
      refine awp_ret ?_
      refine ⟨by first | exact .inl rfl | exact .inr rfl, _, rfl, ?_⟩; simp only [fzV, fz1, fzC, List.map_cons, List.map_nil, keepEnv, lkp, zE, reduceCtorEq, reduceEqDiff, argEnv, reduceAdd, Mly.av]
      refine VLE.of_eq ?_
      refine congrArg (fun n => AV.one (AC.int IntKind.i64 n)) ?_
      symm
      unfold chkE
      first
      | (rw [if_pos (by omega)]; done)
      | (rw [if_neg (by omega), if_pos (by omega)]; done)
      | (rw [if_neg (by omega), if_neg (by omega), if_neg (by omega)]; done)
      | (rw [if_neg (by omega), if_neg (by omega), if_pos (by omega)]; done)
    · (try simp only [zB, reduceCtorEq] at hc10)
      refine awp_skip ?_
      refine hK7 _ ?_; clear hK7; refine awp_keep [0, 1, 2, 4, 5, 7, 11, 19] ?_; simp only [keepEnv, lkp, zE, reduceCtorEq, reduceEqDiff, argEnv, reduceAdd]
      refine awp_seq_k fun K12 hK12 => ?_
      refine awp_seq_k fun K13 hK13 => ?_
      refine awp_reg hP hN rfl ?_
      iterate 5 (refine rg_step rfl fun K0 hK0 => ?_; simp only [zE, op1, ev, lkp, avOf, acOf, opCallAny, opMM, opLen, lenAC, lenOk, fpAC, Nat.div_one, opAppend, srcOf, Ty.size, datOf, dite_true, opFieldAddr, opLoad, Nat.mul_one, readAC, isAggK, acs, Ty.dflt, zG, cellsAt, opBin, arith, inK_i64, eqACs, eqAC, reduceCtorEq, reduceEqDiff, reduceAdd, reduceLeDiff, reduceLT, reduceMul, reduceSub, Try.el25, Try.st24, Try.td24, Try.td25, Try.td3, Try.td4, Mly.av]; (repeat refine And.intro (by first | omega | assumption | exact rfl) ?_); (first | refine hK0 _ ?_ | refine Or.inl (hK0 _ ?_)); clear hK0 K0; simp only [put, app, setAll, trOf, zE, zS, reduceAdd])
      refine rg_nil ?_
      refine hK13 _ ?_; clear hK13; refine awp_keep [0, 1, 2, 4, 5, 7, 11, 19, 25] ?_; simp only [keepEnv, lkp, zE, reduceCtorEq, reduceEqDiff, argEnv, reduceAdd]
      refine awp_cond (by simp only [ev, keepEnv, lkp, zE, reduceCtorEq, reduceEqDiff, argEnv, reduceAdd]; exact rfl) (fun hc14 => ?_) (fun hc14 => ?_)
      · (try simp only [zB, reduceCtorEq] at hc14)
        refine awp_seq_k fun K15 hK15 => ?_
        refine awp_reg hP hN rfl ?_
        (refine rg_step rfl fun K0 hK0 => ?_; simp only [zE, op1, ev, lkp, avOf, acOf, ev, reduceCtorEq, reduceEqDiff, reduceAdd, reduceLeDiff, reduceLT, reduceMul, reduceSub, Try.td3, Mly.av]; (repeat refine And.intro (by first | omega | assumption | exact rfl) ?_); (first | refine hK0 _ ?_ | refine Or.inl (hK0 _ ?_)); clear hK0 K0; simp only [put, app, setAll, trOf, zE, zS, reduceAdd])
        refine rg_nil ?_
        refine hK15 _ ?_; clear hK15; refine awp_keep [0, 1, 2, 4, 5, 7, 11, 19, 25] ?_; simp only [keepEnv, lkp, zE, reduceCtorEq, reduceEqDiff, argEnv, reduceAdd]
        refine awp_ret ?_
        refine ⟨by first | exact .inl rfl | exact .inr rfl, _, rfl, ?_⟩; simp only [fzV, fz1, fzC, List.map_cons, List.map_nil, keepEnv, lkp, zE, reduceCtorEq, reduceEqDiff, argEnv, reduceAdd, Mly.av]
        refine VLE.of_eq ?_
        refine congrArg (fun n => AV.one (AC.int IntKind.i64 n)) ?_
        symm
        unfold chkE
        first
        | (rw [if_pos (by omega)]; done)
        | (rw [if_neg (by omega), if_pos (by omega)]; done)
        | (rw [if_neg (by omega), if_neg (by omega), if_neg (by omega)]; done)
        | (rw [if_neg (by omega), if_neg (by omega), if_pos (by omega)]; done)
      · (try simp only [zB, reduceCtorEq] at hc14)
        refine awp_skip ?_
        refine hK12 _ ?_; clear hK12; refine awp_keep [0, 1, 2, 4, 5, 7, 11, 19, 25] ?_; simp only [keepEnv, lkp, zE, reduceCtorEq, reduceEqDiff, argEnv, reduceAdd]
        refine awp_seq_k fun K16 hK16 => ?_
        refine awp_reg hP hN rfl ?_
        (refine rg_step rfl fun K0 hK0 => ?_; simp only [zE, op1, ev, lkp, avOf, acOf, ev, reduceCtorEq, reduceEqDiff, reduceAdd, reduceLeDiff, reduceLT, reduceMul, reduceSub, Try.td3, Mly.av]; (repeat refine And.intro (by first | omega | assumption | exact rfl) ?_); (first | refine hK0 _ ?_ | refine Or.inl (hK0 _ ?_)); clear hK0 K0; simp only [put, app, setAll, trOf, zE, zS, reduceAdd])
        refine rg_nil ?_
        refine hK16 _ ?_; clear hK16; refine awp_keep [0, 1, 2, 4, 5, 7, 11, 19, 25] ?_; simp only [keepEnv, lkp, zE, reduceCtorEq, reduceEqDiff, argEnv, reduceAdd]
        refine awp_ret ?_
        refine ⟨by first | exact .inl rfl | exact .inr rfl, _, rfl, ?_⟩; simp only [fzV, fz1, fzC, List.map_cons, List.map_nil, keepEnv, lkp, zE, reduceCtorEq, reduceEqDiff, argEnv, reduceAdd, Mly.av]
        refine VLE.of_eq ?_
        refine congrArg (fun n => AV.one (AC.int IntKind.i64 n)) ?_
        symm
        unfold chkE
        first
        | (rw [if_pos (by omega)]; done)
        | (rw [if_neg (by omega), if_pos (by omega)]; done)
        | (rw [if_neg (by omega), if_neg (by omega), if_neg (by omega)]; done)
        | (rw [if_neg (by omega), if_neg (by omega), if_pos (by omega)]; done)
end Go.Proofs.Ytceafldjjedhcaa
namespace Go.Proofs.Ytceafldjjedhcaa
open Go Go.AV
open Nat (reduceEqDiff reduceAdd reduceLeDiff reduceLT reduceMul reduceSub)
open List (set_cons_zero set_cons_succ)
set_option maxRecDepth 100000 in
theorem join_c (ls : List (List Int)) (hb : ls.flatten.length ≤ 1000000) : PURE Try.prog 36 [.one (.list (.list (.int .i64)) ls)] (.one (.list (.int .i64) ls.flatten)) := by
  refine pure_of_le Try.func36 rfl (by kernel_rfl) (Nat.le_of_ble_eq_true rfl) rfl fun C hP hN hB => ?_
  replace hN : C.N = 18 := hN
  simp only [argEnv, reduceAdd]
  refine awp_fit 0 rfl fun hf0 => ?_; simp only [lkp, if_true, if_false, reduceCtorEq, reduceEqDiff, eq_self, Nat.one_ne_zero, Nat.zero_ne_one, fitV, fitC, fitL, Fit, and_true, implies_true, true_and] at hf0
  refine awp_seq_k fun K1 hK1 => ?_
  refine awp_reg hP hN rfl ?_
  (refine rg_step rfl fun K0 hK0 => ?_; simp only [zE, op1, ev, lkp, avOf, acOf, ev, reduceCtorEq, reduceEqDiff, reduceAdd, reduceLeDiff, reduceLT, reduceMul, reduceSub, Try.el25, Try.td25]; (repeat refine And.intro (by first | omega | assumption | exact rfl) ?_); (first | refine hK0 _ ?_ | refine Or.inl (hK0 _ ?_)); clear hK0 K0; simp only [put, app, setAll, trOf, zE, zS, reduceAdd])
  refine rg_nil ?_
  refine hK1 _ ?_; clear hK1; refine awp_keep [0, 2] ?_; simp only [keepEnv, lkp, zE, reduceCtorEq, reduceEqDiff, argEnv, reduceAdd]
  refine awp_seq_k fun K2 hK2 => ?_
  refine awp_reg hP hN rfl ?_
  (refine rg_step rfl fun K0 hK0 => ?_; simp only [zE, op1, ev, lkp, avOf, acOf, ev, reduceCtorEq, reduceEqDiff, reduceAdd, reduceLeDiff, reduceLT, reduceMul, reduceSub, Try.el25, Try.td25]; (repeat refine And.intro (by first | omega | assumption | exact rfl) ?_); (first | refine hK0 _ ?_ | refine Or.inl (hK0 _ ?_)); clear hK0 K0; simp only [put, app, setAll, trOf, zE, zS, reduceAdd])
  refine rg_nil ?_
  refine hK2 _ ?_; clear hK2; refine awp_keep [0, 2, 3] ?_; simp only [keepEnv, lkp, zE, reduceCtorEq, reduceEqDiff, argEnv, reduceAdd]
  refine awp_seq_k fun K3 hK3 => ?_
  refine awp_seq_k fun K4 hK4 => ?_
  refine awp_reg hP hN rfl ?_
  (refine rg_step rfl fun K0 hK0 => ?_; simp only [zE, op1, ev, lkp, avOf, acOf, ev, reduceCtorEq, reduceEqDiff, reduceAdd, reduceLeDiff, reduceLT, reduceMul, reduceSub, Try.td3]; (repeat refine And.intro (by first | omega | assumption | exact rfl) ?_); (first | refine hK0 _ ?_ | refine Or.inl (hK0 _ ?_)); clear hK0 K0; simp only [put, app, setAll, trOf, zE, zS, reduceAdd])
  refine rg_nil ?_
  refine hK4 _ ?_; clear hK4; refine awp_keep [0, 2, 3, 4] ?_; simp only [keepEnv, lkp, zE, reduceCtorEq, reduceEqDiff, argEnv, reduceAdd]
  refine awp_block ?_
  refine awp_own 3 (.int .i64) 3 (by decide) rfl ?_; simp only [List.length_cons, List.length_nil, List.cons_append, List.nil_append, Nat.zero_add, reduceAdd]
  refine awp_loop (fun n5 s5 => ∃ (k : Nat) (v : Nat), (k ≤ ls.length) ∧ n5 = ls.length - k ∧ s5 = { env := [(0, .one (.list (.list (.int .i64)) ls)), (3, .one (.row 0 v)), (4, .one (.int .i64 (k : Int)))], L := [.row (.int .i64) 3 v (ls.take k).flatten] }) ?_ ?_
  · exact ⟨_, _, sub_keep [0, 3, 4], 0, 0, Nat.zero_le _, rfl, rfl⟩
  · rintro n5 s5 ⟨k, v, hk, rfl, rfl⟩
    refine awp_seq_k fun K6 hK6 => ?_
    refine awp_seq_k fun K7 hK7 => ?_
    refine awp_reg hP hN rfl ?_
    iterate 4 (refine rg_step rfl fun K0 hK0 => ?_; simp only [zE, op1, ev, lkp, avOf, acOf, opCallAny, opMM, opLen, lenAC, lenOk, fpAC, Nat.div_one, opAppend, srcOf, Ty.size, datOf, dite_true, opBin, arith, inK_i64, eqACs, eqAC, reduceCtorEq, reduceEqDiff, reduceAdd, reduceLeDiff, reduceLT, reduceMul, reduceSub, Try.el22, Try.td22, Try.td3, Try.td4]; (repeat refine And.intro (by first | omega | assumption | exact rfl) ?_); (first | refine hK0 _ ?_ | refine Or.inl (hK0 _ ?_)); clear hK0 K0; simp only [put, app, setAll, trOf, zE, zS, reduceAdd])
    refine rg_nil ?_
    refine hK7 _ ?_; clear hK7; refine awp_keep [0, 3, 4, 8] ?_; simp only [keepEnv, lkp, zE, reduceCtorEq, reduceEqDiff, argEnv, reduceAdd]
    refine awp_cond (by simp only [ev, keepEnv, lkp, zE, reduceCtorEq, reduceEqDiff, argEnv, reduceAdd]; exact rfl) (fun hc8 => ?_) (fun hc8 => ?_)
    · (try simp only [zB, reduceCtorEq] at hc8)
      refine awp_skip ?_
      refine hK6 _ ?_; clear hK6; refine awp_keep [0, 3, 4, 8] ?_; simp only [keepEnv, lkp, zE, reduceCtorEq, reduceEqDiff, argEnv, reduceAdd]
      refine awp_seq_k fun K9 hK9 => ?_
      refine awp_block ?_
      have hfl := flat_take_le ls (k + 1); rw [flat_take_succ ls (by omega), List.length_append] at hfl
      refine awp_reg hP hN rfl ?_
      iterate 7 (refine rg_step rfl fun K0 hK0 => ?_; simp only [zE, op1, ev, lkp, avOf, acOf, opIndexAddr, zG, Ty.dflt, Ty.size, Nat.mul_one, ne_eq, not_false_eq_true, Int.natCast_one, Int.mul_one, opLoad, readAC, isAggK, acs, cellsAt, opCallAny, opMM, opLen, lenAC, lenOk, fpAC, Nat.div_one, opAppend, srcOf, datOf, dite_true, reduceCtorEq, reduceEqDiff, reduceAdd, reduceLeDiff, reduceLT, reduceMul, reduceSub, Try.el22, Try.el25, Try.td22, Try.td25, Try.td3]; (repeat refine And.intro (by first | omega | assumption | exact rfl) ?_); (first | refine hK0 _ ?_ | refine Or.inl (hK0 _ ?_)); clear hK0 K0; simp only [put, app, setAll, trOf, zE, zS, reduceAdd])
      refine rg_nil ?_
      refine hK9 _ ?_; clear hK9; refine awp_keep [0, 3, 4, 8] ?_; simp only [keepEnv, lkp, zE, reduceCtorEq, reduceEqDiff, argEnv, reduceAdd]
      refine awp_reg hP hN rfl ?_
      iterate 3 (refine rg_step rfl fun K0 hK0 => ?_; simp only [zE, op1, ev, lkp, avOf, acOf, opBin, arith, inK_i64, eqACs, eqAC, reduceCtorEq, reduceEqDiff, reduceAdd, reduceLeDiff, reduceLT, reduceMul, reduceSub, Try.td3]; (repeat refine And.intro (by first | omega | assumption | exact rfl) ?_); (first | refine hK0 _ ?_ | refine Or.inl (hK0 _ ?_)); clear hK0 K0; simp only [put, app, setAll, trOf, zE, zS, reduceAdd])
      refine rg_nil ?_
      refine ⟨_, _, ?_, sub_keep [0, 3, 4], k + 1, v + 1, by omega, rfl, ?_⟩
      · omega
      · rw [flat_take_succ ls (by omega)]; rfl
    · (try simp only [zB, reduceCtorEq] at hc8)
      refine awp_exit ?_
      refine hK3 _ ?_; clear hK3; refine awp_keep [0, 3, 4, 8] ?_; simp only [keepEnv, lkp, zE, reduceCtorEq, reduceEqDiff, argEnv, reduceAdd]
      refine awp_seq_k fun K10 hK10 => ?_
      refine awp_reg hP hN rfl ?_
      iterate 2 (refine rg_step rfl fun K0 hK0 => ?_; simp only [zE, op1, ev, lkp, avOf, acOf, ev, reduceCtorEq, reduceEqDiff, reduceAdd, reduceLeDiff, reduceLT, reduceMul, reduceSub, Try.el25, Try.td25]; (repeat refine And.intro (by first | omega | assumption | exact rfl) ?_); (first | refine hK0 _ ?_ | refine Or.inl (hK0 _ ?_)); clear hK0 K0; simp only [put, app, setAll, trOf, zE, zS, reduceAdd])
      refine rg_nil ?_
      refine hK10 _ ?_; clear hK10; refine awp_keep [0, 2, 3, 4, 8] ?_; simp only [keepEnv, lkp, zE, reduceCtorEq, reduceEqDiff, argEnv, reduceAdd]
      refine awp_ret ?_
      refine ⟨by first | exact .inl rfl | exact .inr rfl, _, rfl, ?_⟩; simp only [fzV, fz1, fzC, List.map_cons, List.map_nil, keepEnv, lkp, zE, reduceCtorEq, reduceEqDiff, argEnv, reduceAdd]
      refine VLE.of_eq ?_
      have htk : ls.take k = ls := by rw [show k = ls.length by omega, List.take_length]
      rw [htk]; try simp
end Go.Proofs.Ytceafldjjedhcaa
namespace Go.Proofs.Ytceafldjjedhcaa
open Go Go.AV
open Nat (reduceEqDiff reduceAdd reduceLeDiff reduceLT reduceMul reduceSub)
open List (set_cons_zero set_cons_succ)
set_option maxRecDepth 100000 in
theorem has_c (xs : List Int) (x : Int) : PURE Try.prog 59 [.one (.list (.int .i64) xs), .one (.int .i64 x)] (.one (.bool (decide (x ∈ xs)))) := by
  refine pure_of_le Try.func59 rfl (by kernel_rfl) (Nat.le_of_ble_eq_true rfl) rfl fun C hP hN hB => ?_
  replace hN : C.N = 18 := hN
  simp only [argEnv, reduceAdd]
  refine awp_fit 0 rfl fun hf0 => ?_; simp only [lkp, if_true, if_false, reduceCtorEq, reduceEqDiff, eq_self, Nat.one_ne_zero, Nat.zero_ne_one, fitV, fitC, fitL, Fit, and_true, implies_true, true_and] at hf0
  refine awp_seq_k fun K1 hK1 => ?_
  refine awp_reg hP hN rfl ?_
  (refine rg_step rfl fun K0 hK0 => ?_; simp only [zE, op1, ev, lkp, avOf, acOf, ev, reduceCtorEq, reduceEqDiff, reduceAdd, reduceLeDiff, reduceLT, reduceMul, reduceSub, Try.td4]; (repeat refine And.intro (by first | omega | assumption | exact rfl) ?_); (first | refine hK0 _ ?_ | refine Or.inl (hK0 _ ?_)); clear hK0 K0; simp only [put, app, setAll, trOf, zE, zS, reduceAdd])
  refine rg_nil ?_
  refine hK1 _ ?_; clear hK1; refine awp_keep [0, 1, 4] ?_; simp only [keepEnv, lkp, zE, reduceCtorEq, reduceEqDiff, argEnv, reduceAdd]
  refine awp_seq_k fun K2 hK2 => ?_
  refine awp_seq_k fun K3 hK3 => ?_
  refine awp_reg hP hN rfl ?_
  (refine rg_step rfl fun K0 hK0 => ?_; simp only [zE, op1, ev, lkp, avOf, acOf, ev, reduceCtorEq, reduceEqDiff, reduceAdd, reduceLeDiff, reduceLT, reduceMul, reduceSub, Try.td3]; (repeat refine And.intro (by first | omega | assumption | exact rfl) ?_); (first | refine hK0 _ ?_ | refine Or.inl (hK0 _ ?_)); clear hK0 K0; simp only [put, app, setAll, trOf, zE, zS, reduceAdd])
  refine rg_nil ?_
  refine hK3 _ ?_; clear hK3; refine awp_keep [0, 1, 4, 5] ?_; simp only [keepEnv, lkp, zE, reduceCtorEq, reduceEqDiff, argEnv, reduceAdd]
  refine awp_block ?_
  refine awp_loop (fun n4 s4 => ∃ (k : Nat), (k ≤ xs.length) ∧ (∀ q, q < k → xs.getD q 0 ≠ x) ∧ n4 = xs.length - k ∧ s4 = { env := [(0, .one (.list (.int .i64) xs)), (1, .one (.int .i64 x)), (5, .one (.int .i64 (k : Int)))], L := [] }) ?_ ?_
  · exact ⟨_, _, sub_keep [0, 1, 5], 0, Nat.zero_le _, fun q hq => by omega, rfl, rfl⟩
  · rintro n4 s4 ⟨k, hk, hq, rfl, rfl⟩
    refine awp_seq_k fun K5 hK5 => ?_
    refine awp_seq_k fun K6 hK6 => ?_
    refine awp_reg hP hN rfl ?_
    iterate 4 (refine rg_step rfl fun K0 hK0 => ?_; simp only [zE, op1, ev, lkp, avOf, acOf, opCallAny, opMM, opLen, lenAC, lenOk, fpAC, Nat.div_one, opAppend, srcOf, Ty.size, datOf, dite_true, opBin, arith, inK_i64, eqACs, eqAC, reduceCtorEq, reduceEqDiff, reduceAdd, reduceLeDiff, reduceLT, reduceMul, reduceSub, Try.el25, Try.td25, Try.td3, Try.td4]; (repeat refine And.intro (by first | omega | assumption | exact rfl) ?_); (first | refine hK0 _ ?_ | refine Or.inl (hK0 _ ?_)); clear hK0 K0; simp only [put, app, setAll, trOf, zE, zS, reduceAdd])
    refine rg_nil ?_
    refine hK6 _ ?_; clear hK6; refine awp_keep [0, 1, 5, 9] ?_; simp only [keepEnv, lkp, zE, reduceCtorEq, reduceEqDiff, argEnv, reduceAdd]
    refine awp_cond (by simp only [ev, keepEnv, lkp, zE, reduceCtorEq, reduceEqDiff, argEnv, reduceAdd]; exact rfl) (fun hc7 => ?_) (fun hc7 => ?_)
    · (try simp only [zB, reduceCtorEq] at hc7)
      refine awp_skip ?_
      refine hK5 _ ?_; clear hK5; refine awp_keep [0, 1, 5, 9] ?_; simp only [keepEnv, lkp, zE, reduceCtorEq, reduceEqDiff, argEnv, reduceAdd]
      refine awp_seq_k fun K8 hK8 => ?_
      refine awp_block ?_
      refine awp_seq_k fun K9 hK9 => ?_
      refine awp_reg hP hN rfl ?_
      iterate 6 (refine rg_step rfl fun K0 hK0 => ?_; simp only [zE, op1, ev, lkp, avOf, acOf, opIndexAddr, zG, Ty.dflt, Ty.size, Nat.mul_one, ne_eq, not_false_eq_true, Int.natCast_one, Int.mul_one, opLoad, readAC, isAggK, acs, cellsAt, opBin, arith, inK_i64, eqACs, eqAC, reduceCtorEq, reduceEqDiff, reduceAdd, reduceLeDiff, reduceLT, reduceMul, reduceSub, Try.el25, Try.td25, Try.td3, Try.td4]; (repeat refine And.intro (by first | omega | assumption | exact rfl) ?_); (first | refine hK0 _ ?_ | refine Or.inl (hK0 _ ?_)); clear hK0 K0; simp only [put, app, setAll, trOf, zE, zS, reduceAdd])
      refine rg_nil ?_
      refine hK9 _ ?_; clear hK9; refine awp_keep [0, 1, 5, 9, 17] ?_; simp only [keepEnv, lkp, zE, reduceCtorEq, reduceEqDiff, argEnv, reduceAdd]
      refine awp_cond (by simp only [ev, keepEnv, lkp, zE, reduceCtorEq, reduceEqDiff, argEnv, reduceAdd]; exact rfl) (fun hc10 => ?_) (fun hc10 => ?_)
      · (try simp only [zB, reduceCtorEq] at hc10)
        refine awp_seq_k fun K11 hK11 => ?_
        refine awp_reg hP hN rfl ?_
        (refine rg_step rfl fun K0 hK0 => ?_; simp only [zE, op1, ev, lkp, avOf, acOf, ev, reduceCtorEq, reduceEqDiff, reduceAdd, reduceLeDiff, reduceLT, reduceMul, reduceSub, Try.td4]; (repeat refine And.intro (by first | omega | assumption | exact rfl) ?_); (first | refine hK0 _ ?_ | refine Or.inl (hK0 _ ?_)); clear hK0 K0; simp only [put, app, setAll, trOf, zE, zS, reduceAdd])
        refine rg_nil ?_
        refine hK11 _ ?_; clear hK11; refine awp_keep [0, 1, 4, 5, 9, 17] ?_; simp only [keepEnv, lkp, zE, reduceCtorEq, reduceEqDiff, argEnv, reduceAdd]
        refine awp_ret ?_
        refine ⟨by first | exact .inl rfl | exact .inr rfl, _, rfl, ?_⟩; simp only [fzV, fz1, fzC, List.map_cons, List.map_nil, keepEnv, lkp, zE, reduceCtorEq, reduceEqDiff, argEnv, reduceAdd]
        refine VLE.of_eq ?_
        refine congrArg (fun b => AV.one (AC.bool b)) ?_
        first
        | (rw [decide_eq_true (mem_of_getD (k := k) (by omega) (by omega))]; done)
        | (rw [decide_eq_false (not_mem_of hq (by omega))]; done)
      · (try simp only [zB, reduceCtorEq] at hc10)
        refine awp_skip ?_
        refine hK8 _ ?_; clear hK8; refine awp_keep [0, 1, 5, 9, 17] ?_; simp only [keepEnv, lkp, zE, reduceCtorEq, reduceEqDiff, argEnv, reduceAdd]
        refine awp_reg hP hN rfl ?_
        iterate 3 (refine rg_step rfl fun K0 hK0 => ?_; simp only [zE, op1, ev, lkp, avOf, acOf, opBin, arith, inK_i64, eqACs, eqAC, reduceCtorEq, reduceEqDiff, reduceAdd, reduceLeDiff, reduceLT, reduceMul, reduceSub, Try.td3]; (repeat refine And.intro (by first | omega | assumption | exact rfl) ?_); (first | refine hK0 _ ?_ | refine Or.inl (hK0 _ ?_)); clear hK0 K0; simp only [put, app, setAll, trOf, zE, zS, reduceAdd])
        refine rg_nil ?_
        refine ⟨_, _, ?_, sub_keep [0, 1, 5], k + 1, by omega, fun q hq2 => ?_, rfl, rfl⟩
        · omega
        · by_cases e : q = k
          · rw [e]; intro hh; simp_all
          · exact hq q (by omega)
    · (try simp only [zB, reduceCtorEq] at hc7)
      refine awp_exit ?_
      refine hK2 _ ?_; clear hK2; refine awp_keep [0, 1, 5, 9] ?_; simp only [keepEnv, lkp, zE, reduceCtorEq, reduceEqDiff, argEnv, reduceAdd]
      refine awp_seq_k fun K12 hK12 => ?_
      refine awp_reg hP hN rfl ?_
      (refine rg_step rfl fun K0 hK0 => ?_; simp only [zE, op1, ev, lkp, avOf, acOf, ev, reduceCtorEq, reduceEqDiff, reduceAdd, reduceLeDiff, reduceLT, reduceMul, reduceSub, Try.td4]; (repeat refine And.intro (by first | omega | assumption | exact rfl) ?_); (first | refine hK0 _ ?_ | refine Or.inl (hK0 _ ?_)); clear hK0 K0; simp only [put, app, setAll, trOf, zE, zS, reduceAdd])
      refine rg_nil ?_
      refine hK12 _ ?_; clear hK12; refine awp_keep [0, 1, 4, 5, 9] ?_; simp only [keepEnv, lkp, zE, reduceCtorEq, reduceEqDiff, argEnv, reduceAdd]
      refine awp_ret ?_
      refine ⟨by first | exact .inl rfl | exact .inr rfl, _, rfl, ?_⟩; simp only [fzV, fz1, fzC, List.map_cons, List.map_nil, keepEnv, lkp, zE, reduceCtorEq, reduceEqDiff, argEnv, reduceAdd]
      refine VLE.of_eq ?_
      refine congrArg (fun b => AV.one (AC.bool b)) ?_
      first
      | (rw [decide_eq_true (mem_of_getD (k := k) (by omega) (by omega))]; done)
      | (rw [decide_eq_false (not_mem_of hq (by omega))]; done)
end Go.Proofs.Ytceafldjjedhcaa
namespace Go.Proofs.Ytceafldjjedhcaa
open Go Go.AV
open Nat (reduceEqDiff reduceAdd reduceLeDiff reduceLT reduceMul reduceSub)
open List (set_cons_zero set_cons_succ)
set_option maxRecDepth 100000 in
theorem rreach_c (m : Mly) : PURE Try.prog 46 [m.av] (.one (.list (.int .i64) m.reach)) := by
  refine pure_of_le Try.func46 rfl (by kernel_rfl) (Nat.le_of_ble_eq_true rfl) rfl fun C hP hN hB => ?_
  replace hN : C.N = 53 := hN
  simp only [argEnv, reduceAdd]
  refine awp_seq_k fun K1 hK1 => ?_
  refine awp_reg hP hN rfl ?_
  iterate 2 (refine rg_step rfl fun K0 hK0 => ?_; simp only [zE, op1, ev, lkp, avOf, acOf, opBox, cellsAV, reduceCtorEq, reduceEqDiff, reduceAdd, reduceLeDiff, reduceLT, reduceMul, reduceSub, Try.el25, Try.st24, Try.td24, Try.td25, Mly.av]; (repeat refine And.intro (by first | omega | assumption | exact rfl) ?_); (first | refine hK0 _ ?_ | refine Or.inl (hK0 _ ?_)); clear hK0 K0; simp only [put, app, setAll, trOf, zE, zS, reduceAdd])
  refine rg_nil ?_
  refine hK1 _ ?_; clear hK1; refine awp_keep [0, 1, 2] ?_; simp only [keepEnv, lkp, zE, reduceCtorEq, reduceEqDiff, argEnv, reduceAdd]
  refine awp_seq_k fun K2 hK2 => ?_
  refine awp_seq_k fun K3 hK3 => ?_
  refine awp_reg hP hN rfl ?_
  (refine rg_step rfl fun K0 hK0 => ?_; simp only [zE, op1, ev, lkp, avOf, acOf, opLoad, Nat.mul_one, readAC, isAggK, acs, Ty.dflt, zG, cellsAt, reduceCtorEq, reduceEqDiff, reduceAdd, reduceLeDiff, reduceLT, reduceMul, reduceSub, Try.st24, Try.td24, Mly.av]; (repeat refine And.intro (by first | omega | assumption | exact rfl) ?_); (first | refine hK0 _ ?_ | refine Or.inl (hK0 _ ?_)); clear hK0 K0; simp only [put, app, setAll, trOf, zE, zS, reduceAdd])
  refine rg_step rfl fun K0 hK0 => ?_
  refine op_call (h := call_of_pure (rvalid_c m)) rfl rfl (by first | exact rfl | (simp only [ev, keepEnv, lkp, zE, reduceCtorEq, reduceEqDiff, argEnv, reduceAdd]; exact rfl)) (by simp only [zE, zG, op1, ev, lkp, avOf, acOf, cellsAV, acs, capAV, mv1, mvC, Ty.dflt, reduceCtorEq, reduceEqDiff, reduceAdd, reduceLeDiff, reduceLT, reduceMul, reduceSub, Mly.av]) ?_
  refine hK0 _ ?_; clear hK0 K0; simp only [put, app, setAll, trOf, zE, zS, reduceAdd]
  (refine rg_step rfl fun K0 hK0 => ?_; simp only [zE, op1, ev, lkp, avOf, acOf, opBin, arith, inK_i64, eqACs, eqAC, reduceCtorEq, reduceEqDiff, reduceAdd, reduceLeDiff, reduceLT, reduceMul, reduceSub, Try.td3, Try.td4, Mly.av]; (repeat refine And.intro (by first | omega | assumption | exact rfl) ?_); (first | refine hK0 _ ?_ | refine Or.inl (hK0 _ ?_)); clear hK0 K0; simp only [put, app, setAll, trOf, zE, zS, reduceAdd])
  refine rg_nil ?_
  refine hK3 _ ?_; clear hK3; refine awp_keep [0, 1, 2, 8] ?_; simp only [keepEnv, lkp, zE, reduceCtorEq, reduceEqDiff, argEnv, reduceAdd]
  refine awp_cond (by simp only [ev, keepEnv, lkp, zE, reduceCtorEq, reduceEqDiff, argEnv, reduceAdd]; exact rfl) (fun hc4 => ?_) (fun hc4 => ?_)
  · (try simp only [zB, reduceCtorEq] at hc4)
    refine awp_seq_k fun K5 hK5 => ?_
    refine awp_reg hP hN rfl ?_
    (refine rg_step rfl fun K0 hK0 => ?_; simp only [zE, op1, ev, lkp, avOf, acOf, ev, reduceCtorEq, reduceEqDiff, reduceAdd, reduceLeDiff, reduceLT, reduceMul, reduceSub, Try.el25, Try.td25, Mly.av]; (repeat refine And.intro (by first | omega | assumption | exact rfl) ?_); (first | refine hK0 _ ?_ | refine Or.inl (hK0 _ ?_)); clear hK0 K0; simp only [put, app, setAll, trOf, zE, zS, reduceAdd])
    refine rg_nil ?_
    refine hK5 _ ?_; clear hK5; refine awp_keep [0, 1, 2, 8] ?_; simp only [keepEnv, lkp, zE, reduceCtorEq, reduceEqDiff, argEnv, reduceAdd]
    refine awp_ret ?_
    refine ⟨by first | exact .inl rfl | exact .inr rfl, _, rfl, ?_⟩; simp only [fzV, fz1, fzC, List.map_cons, List.map_nil, keepEnv, lkp, zE, reduceCtorEq, reduceEqDiff, argEnv, reduceAdd, Mly.av]
    first
    | (rw [reach_bad ‹¬validE m = 0›]; exact vle_one (cle_nils rfl))
    | (rw [← hrf, rf_end _ _ _ _ (by omega)]; exact VLE.of_eq (by simp))
  · (try simp only [zB, reduceCtorEq] at hc4)
    refine awp_skip ?_
    refine hK2 _ ?_; clear hK2; refine awp_keep [0, 1, 2, 8] ?_; simp only [keepEnv, lkp, zE, reduceCtorEq, reduceEqDiff, argEnv, reduceAdd]
    refine awp_seq_k fun K6 hK6 => ?_
    have hv : validE m = 0 := by assumption
    have hm := mok_of hv; have h3 := hm.n2; have hi1 := hm.i1; have hi2 := hm.i2
    refine awp_reg hP hN rfl ?_
    iterate 2 (refine rg_step rfl fun K0 hK0 => ?_; simp only [zE, op1, ev, lkp, avOf, acOf, opFieldAddr, opLoad, Nat.mul_one, readAC, isAggK, acs, Ty.dflt, zG, cellsAt, reduceCtorEq, reduceEqDiff, reduceAdd, reduceLeDiff, reduceLT, reduceMul, reduceSub, Try.st24, Try.td1, Try.td24, Try.td3, Mly.av]; (repeat refine And.intro (by first | omega | assumption | exact rfl) ?_); (first | refine hK0 _ ?_ | refine Or.inl (hK0 _ ?_)); clear hK0 K0; simp only [put, app, setAll, trOf, zE, zS, reduceAdd])
    (refine rg_step rfl fun K0 hK0 => ?_; simp only [zE, op1, ev, lkp, avOf, acOf, opBuildSlice, fillAC, chunk, rep, datOf, writeAC, cellsAV, Ty.size, reduceCtorEq, reduceEqDiff, reduceAdd, reduceLeDiff, reduceLT, reduceMul, reduceSub, Try.el25, Try.td1, Try.td25, Mly.av]; (repeat refine And.intro (by first | omega | assumption | exact rfl) ?_); refine Or.inr (hK0 _ ?_); clear hK0 K0; simp only [put, app, setAll, trOf, zE, zS, reduceAdd])
    (refine rg_step rfl fun K0 hK0 => ?_; simp only [zE, op1, ev, lkp, avOf, acOf, ev, reduceCtorEq, reduceEqDiff, reduceAdd, reduceLeDiff, reduceLT, reduceMul, reduceSub, Try.el25, Try.td25, Mly.av]; (repeat refine And.intro (by first | omega | assumption | exact rfl) ?_); (first | refine hK0 _ ?_ | refine Or.inl (hK0 _ ?_)); clear hK0 K0; simp only [put, app, setAll, trOf, zE, zS, reduceAdd])
    refine rg_nil ?_
    refine hK6 _ ?_; clear hK6; refine awp_keep [0, 1, 2, 3, 8] ?_; simp only [keepEnv, lkp, zE, reduceCtorEq, reduceEqDiff, argEnv, reduceAdd]
    refine awp_seq_k fun K7 hK7 => ?_
    refine awp_seq_k fun K8 hK8 => ?_
    refine awp_reg hP hN rfl ?_
    (refine rg_step rfl fun K0 hK0 => ?_; simp only [zE, op1, ev, lkp, avOf, acOf, ev, reduceCtorEq, reduceEqDiff, reduceAdd, reduceLeDiff, reduceLT, reduceMul, reduceSub, Try.td3, Mly.av]; (repeat refine And.intro (by first | omega | assumption | exact rfl) ?_); (first | refine hK0 _ ?_ | refine Or.inl (hK0 _ ?_)); clear hK0 K0; simp only [put, app, setAll, trOf, zE, zS, reduceAdd])
    refine rg_nil ?_
    refine hK8 _ ?_; clear hK8; refine awp_keep [0, 1, 2, 3, 4, 8] ?_; simp only [keepEnv, lkp, zE, reduceCtorEq, reduceEqDiff, argEnv, reduceAdd]
    refine awp_block ?_
    refine awp_loop (fun n9 s9 => ∃ (i : Nat) (l : List Int) (v : Nat), (RSet m.nx.length l) ∧ (m.rf (m.nx.length + 1 - i) i l = m.reach) ∧ (i ≤ l.length) ∧ n9 = m.nx.length + 1 - i ∧ s9 = { env := [(1, .one (.ptr 0 0 0 0)), (3, .one (.row 1 v)), (4, .one (.int .i64 (i : Int)))], L := [.vars 24 [.int .i64 m.inp, .int .i64 m.st, .list (.list (.int .i64)) m.nx, .list (.list (.int .i64)) m.ot], .row (.int .i64) 3 v l] }) ?_ ?_
    · exact ⟨_, _, sub_keep [1, 3, 4], 0, [m.st], 0, rset_one hm, (reach_ok hv).symm, Nat.zero_le _, rfl, rfl⟩
    · rintro n9 s9 ⟨i, l, v, hR, hrf, hi, rfl, rfl⟩
      refine awp_seq_k fun K10 hK10 => ?_
      refine awp_seq_k fun K11 hK11 => ?_
      refine awp_reg hP hN rfl ?_
      iterate 4 (refine rg_step rfl fun K0 hK0 => ?_; simp only [zE, op1, ev, lkp, avOf, acOf, opCallAny, opMM, opLen, lenAC, lenOk, fpAC, Nat.div_one, opAppend, srcOf, Ty.size, datOf, dite_true, opBin, arith, inK_i64, eqACs, eqAC, reduceCtorEq, reduceEqDiff, reduceAdd, reduceLeDiff, reduceLT, reduceMul, reduceSub, Try.el25, Try.td25, Try.td3, Try.td4, Mly.av]; (repeat refine And.intro (by first | omega | assumption | exact rfl) ?_); (first | refine hK0 _ ?_ | refine Or.inl (hK0 _ ?_)); clear hK0 K0; simp only [put, app, setAll, trOf, zE, zS, reduceAdd])
      refine rg_nil ?_
      refine hK11 _ ?_; clear hK11; refine awp_keep [1, 3, 4, 15] ?_; simp only [keepEnv, lkp, zE, reduceCtorEq, reduceEqDiff, argEnv, reduceAdd]
      refine awp_cond (by simp only [ev, keepEnv, lkp, zE, reduceCtorEq, reduceEqDiff, argEnv, reduceAdd]; exact rfl) (fun hc12 => ?_) (fun hc12 => ?_)
      · (try simp only [zB, reduceCtorEq] at hc12)
        refine awp_skip ?_
        refine hK10 _ ?_; clear hK10; refine awp_keep [1, 3, 4, 15] ?_; simp only [keepEnv, lkp, zE, reduceCtorEq, reduceEqDiff, argEnv, reduceAdd]
        refine awp_seq_k fun K13 hK13 => ?_
        refine awp_block ?_
        refine awp_seq_k fun K14 hK14 => ?_
        refine awp_reg hP hN rfl ?_
        (refine rg_step rfl fun K0 hK0 => ?_; simp only [zE, op1, ev, lkp, avOf, acOf, ev, reduceCtorEq, reduceEqDiff, reduceAdd, reduceLeDiff, reduceLT, reduceMul, reduceSub, Try.td3, Mly.av]; (repeat refine And.intro (by first | omega | assumption | exact rfl) ?_); (first | refine hK0 _ ?_ | refine Or.inl (hK0 _ ?_)); clear hK0 K0; simp only [put, app, setAll, trOf, zE, zS, reduceAdd])
        refine rg_nil ?_
        refine hK14 _ ?_; clear hK14; refine awp_keep [1, 3, 4, 5, 15] ?_; simp only [keepEnv, lkp, zE, reduceCtorEq, reduceEqDiff, argEnv, reduceAdd]
        refine awp_block ?_
        refine awp_loop (fun n15 s15 => ∃ (j : Nat) (v2 : Nat), ((j : Int) ≤ m.inp) ∧ (RSet m.nx.length (((m.row (l.getD i 0)).take j).foldl addS l)) ∧ n15 = m.inp.toNat - j ∧ s15 = { env := [(1, .one (.ptr 0 0 0 0)), (3, .one (.row 1 v2)), (4, .one (.int .i64 (i : Int))), (5, .one (.int .i64 (j : Int)))], L := [.vars 24 [.int .i64 m.inp, .int .i64 m.st, .list (.list (.int .i64)) m.nx, .list (.list (.int .i64)) m.ot], .row (.int .i64) 3 v2 (((m.row (l.getD i 0)).take j).foldl addS l)] }) ?_ ?_
        · exact ⟨_, _, sub_keep [1, 3, 4, 5], 0, v, by omega, hR, rfl, rfl⟩
        · rintro n15 s15 ⟨j, v2, hj, hRc, rfl, rfl⟩
          refine awp_seq_k fun K16 hK16 => ?_
          refine awp_seq_k fun K17 hK17 => ?_
          refine awp_reg hP hN rfl ?_
          iterate 4 (refine rg_step rfl fun K0 hK0 => ?_; simp only [zE, op1, ev, lkp, avOf, acOf, opFieldAddr, opLoad, Nat.mul_one, readAC, isAggK, acs, Ty.dflt, zG, cellsAt, opBin, arith, inK_i64, eqACs, eqAC, reduceCtorEq, reduceEqDiff, reduceAdd, reduceLeDiff, reduceLT, reduceMul, reduceSub, Try.st24, Try.td24, Try.td3, Try.td4, Mly.av]; (repeat refine And.intro (by first | omega | assumption | exact rfl) ?_); (first | refine hK0 _ ?_ | refine Or.inl (hK0 _ ?_)); clear hK0 K0; simp only [put, app, setAll, trOf, zE, zS, reduceAdd])
          refine rg_nil ?_
          refine hK17 _ ?_; clear hK17; refine awp_keep [1, 3, 4, 5, 21] ?_; simp only [keepEnv, lkp, zE, reduceCtorEq, reduceEqDiff, argEnv, reduceAdd]
          refine awp_cond (by simp only [ev, keepEnv, lkp, zE, reduceCtorEq, reduceEqDiff, argEnv, reduceAdd]; exact rfl) (fun hc18 => ?_) (fun hc18 => ?_)
          · (try simp only [zB, reduceCtorEq] at hc18)
            refine awp_skip ?_
            refine hK16 _ ?_; clear hK16; refine awp_keep [1, 3, 4, 5, 21] ?_; simp only [keepEnv, lkp, zE, reduceCtorEq, reduceEqDiff, argEnv, reduceAdd]
            refine awp_seq_k fun K19 hK19 => ?_
            refine awp_block ?_
            refine awp_seq_k fun K20 hK20 => ?_
            have hil : i < l.length := by omega
            have hx := hR.at_ (i := i) (by omega); have hl := hR.len; have hrl := hm.rl (l.getD i 0).toNat (by omega); have hcl := hRc.len; have hge := fold_len_le ((m.row (l.getD i 0)).take j) l; have hgi := foldA_at ((m.row (l.getD i 0)).take j) (l := l) (i := i) (by omega)
            refine awp_drw hP hN Try.mixed rfl ?_
            iterate 12 (refine rg_step rfl fun K0 hK0 => ?_; simp only [zE, op1, ev, lkp, avOf, acOf, opFieldAddr, opLoad, Nat.mul_one, readAC, isAggK, acs, Ty.dflt, zG, cellsAt, opIndexAddr, Ty.size, ne_eq, not_false_eq_true, Int.natCast_one, Int.mul_one, reduceCtorEq, reduceEqDiff, reduceAdd, reduceLeDiff, reduceLT, reduceMul, reduceSub, Try.el22, Try.el25, Try.st24, Try.td2, Try.td22, Try.td24, Try.td25, Try.td3, Mly.av, hgi]; (repeat refine And.intro (by first | omega | assumption | exact rfl) ?_); (first | refine hK0 _ ?_ | refine Or.inl (hK0 _ ?_)); clear hK0 K0; simp only [put, app, setAll, trOf, zE, zS, reduceAdd])
            refine rg_step rfl fun K0 hK0 => ?_
            refine op_call (h := call_lend' (args := [.one (.row 1 v2), .one (.int .i64 ((m.row (l.getD i 0)).getD j 0))]) (by simp [fzV, fz1, fzC]) rfl (has_c (((m.row (l.getD i 0)).take j).foldl addS l) ((m.row (l.getD i 0)).getD j 0)) rfl) rfl rfl (by first | exact rfl | (simp only [ev, keepEnv, lkp, zE, reduceCtorEq, reduceEqDiff, argEnv, reduceAdd]; exact rfl)) (by simp only [zE, zG, op1, ev, lkp, avOf, acOf, cellsAV, acs, capAV, mv1, mvC, Ty.dflt, reduceCtorEq, reduceEqDiff, reduceAdd, reduceLeDiff, reduceLT, reduceMul, reduceSub, Mly.av, hgi]) ?_
            refine hK0 _ ?_; clear hK0 K0; simp only [put, app, setAll, trOf, zE, zS, reduceAdd]
            (refine rg_step rfl fun K0 hK0 => ?_; simp only [zE, op1, ev, lkp, avOf, acOf, opUn, reduceCtorEq, reduceEqDiff, reduceAdd, reduceLeDiff, reduceLT, reduceMul, reduceSub, Try.td4, Mly.av, hgi]; (repeat refine And.intro (by first | omega | assumption | exact rfl) ?_); (first | refine hK0 _ ?_ | refine Or.inl (hK0 _ ?_)); clear hK0 K0; simp only [put, app, setAll, trOf, zE, zS, reduceAdd])
            refine rg_nil ?_
            refine ⟨by kernel_rfl, ?_⟩
            refine hK20 _ ?_; clear hK20; refine awp_keep [1, 3, 4, 5, 21, 37] ?_; simp only [keepEnv, lkp, zE, reduceCtorEq, reduceEqDiff, argEnv, reduceAdd]
            refine awp_cond (by simp only [ev, keepEnv, lkp, zE, reduceCtorEq, reduceEqDiff, argEnv, reduceAdd]; exact rfl) (fun hc21 => ?_) (fun hc21 => ?_)
            · (try simp only [zB, reduceCtorEq] at hc21)
              refine awp_drw hP hN Try.mixed rfl ?_
              iterate 15 (refine rg_step rfl fun K0 hK0 => ?_; simp only [zE, op1, ev, lkp, avOf, acOf, opFieldAddr, opLoad, Nat.mul_one, readAC, isAggK, acs, Ty.dflt, zG, cellsAt, opIndexAddr, Ty.size, ne_eq, not_false_eq_true, Int.natCast_one, Int.mul_one, opBuildSlice, fillAC, chunk, rep, datOf, writeAC, cellsAV, opCallAny, opMM, opLen, lenAC, lenOk, fpAC, Nat.div_one, opAppend, srcOf, dite_true, reduceCtorEq, reduceEqDiff, reduceAdd, reduceLeDiff, reduceLT, reduceMul, reduceSub, Try.el22, Try.el25, Try.st24, Try.td1, Try.td2, Try.td22, Try.td24, Try.td25, Try.td3, Mly.av, hgi]; (repeat refine And.intro (by first | omega | assumption | exact rfl) ?_); (first | refine hK0 _ ?_ | refine Or.inl (hK0 _ ?_)); clear hK0 K0; simp only [put, app, setAll, trOf, zE, zS, reduceAdd])
              refine rg_nil ?_
              refine ⟨by kernel_rfl, ?_⟩
              refine hK19 _ ?_; clear hK19; refine awp_keep [1, 3, 4, 5, 21, 37] ?_; simp only [keepEnv, lkp, zE, reduceCtorEq, reduceEqDiff, argEnv, reduceAdd]
              refine awp_reg hP hN rfl ?_
              iterate 3 (refine rg_step rfl fun K0 hK0 => ?_; simp only [zE, op1, ev, lkp, avOf, acOf, opBin, arith, inK_i64, eqACs, eqAC, reduceCtorEq, reduceEqDiff, reduceAdd, reduceLeDiff, reduceLT, reduceMul, reduceSub, Try.td3, Mly.av]; (repeat refine And.intro (by first | omega | assumption | exact rfl) ?_); (first | refine hK0 _ ?_ | refine Or.inl (hK0 _ ?_)); clear hK0 K0; simp only [put, app, setAll, trOf, zE, zS, reduceAdd])
              refine rg_nil ?_
              have hrl2 : ((m.row (l.getD i 0)).length : Int) = m.inp := hrl
              first
              | (have hnin : ¬ (((m.row (l.getD i 0)).getD j 0) ∈ (((m.row (l.getD i 0)).take j).foldl addS l)) := by simp_all
                 refine ⟨_, _, ?_, sub_keep [1, 3, 4, 5], j + 1, v2 + 1, by omega, ?_, rfl, ?_⟩
                 · omega
                 · exact RSet.take hm hR hx.1 hx.2 (j + 1)
                 · rw [fold_succ (by omega), addS_out hnin]; rfl)
              | (have hin : ((m.row (l.getD i 0)).getD j 0) ∈ (((m.row (l.getD i 0)).take j).foldl addS l) := by simp_all
                 refine ⟨_, _, ?_, sub_keep [1, 3, 4, 5], j + 1, v2, by omega, ?_, rfl, ?_⟩
                 · omega
                 · exact RSet.take hm hR hx.1 hx.2 (j + 1)
                 · rw [fold_succ (by omega), addS_in hin]; rfl)
            · (try simp only [zB, reduceCtorEq] at hc21)
              refine awp_skip ?_
              refine hK19 _ ?_; clear hK19; refine awp_keep [1, 3, 4, 5, 21, 37] ?_; simp only [keepEnv, lkp, zE, reduceCtorEq, reduceEqDiff, argEnv, reduceAdd]
              refine awp_reg hP hN rfl ?_
              iterate 3 (refine rg_step rfl fun K0 hK0 => ?_; simp only [zE, op1, ev, lkp, avOf, acOf, opBin, arith, inK_i64, eqACs, eqAC, reduceCtorEq, reduceEqDiff, reduceAdd, reduceLeDiff, reduceLT, reduceMul, reduceSub, Try.td3, Mly.av]; (repeat refine And.intro (by first | omega | assumption | exact rfl) ?_); (first | refine hK0 _ ?_ | refine Or.inl (hK0 _ ?_)); clear hK0 K0; simp only [put, app, setAll, trOf, zE, zS, reduceAdd])
              refine rg_nil ?_
              have hrl2 : ((m.row (l.getD i 0)).length : Int) = m.inp := hrl
              first
              | (have hnin : ¬ (((m.row (l.getD i 0)).getD j 0) ∈ (((m.row (l.getD i 0)).take j).foldl addS l)) := by simp_all
                 refine ⟨_, _, ?_, sub_keep [1, 3, 4, 5], j + 1, v2 + 1, by omega, ?_, rfl, ?_⟩
                 · omega
                 · exact RSet.take hm hR hx.1 hx.2 (j + 1)
                 · rw [fold_succ (by omega), addS_out hnin]; rfl)
              | (have hin : ((m.row (l.getD i 0)).getD j 0) ∈ (((m.row (l.getD i 0)).take j).foldl addS l) := by simp_all
                 refine ⟨_, _, ?_, sub_keep [1, 3, 4, 5], j + 1, v2, by omega, ?_, rfl, ?_⟩
                 · omega
                 · exact RSet.take hm hR hx.1 hx.2 (j + 1)
                 · rw [fold_succ (by omega), addS_in hin]; rfl)
          · (try simp only [zB, reduceCtorEq] at hc18)
            refine awp_exit ?_
            refine hK13 _ ?_; clear hK13; refine awp_keep [1, 3, 4, 5, 21] ?_; simp only [keepEnv, lkp, zE, reduceCtorEq, reduceEqDiff, argEnv, reduceAdd]
            have hbg := hR.len
            refine awp_reg hP hN rfl ?_
            iterate 3 (refine rg_step rfl fun K0 hK0 => ?_; simp only [zE, op1, ev, lkp, avOf, acOf, opBin, arith, inK_i64, eqACs, eqAC, reduceCtorEq, reduceEqDiff, reduceAdd, reduceLeDiff, reduceLT, reduceMul, reduceSub, Try.td3, Mly.av]; (repeat refine And.intro (by first | omega | assumption | exact rfl) ?_); (first | refine hK0 _ ?_ | refine Or.inl (hK0 _ ?_)); clear hK0 K0; simp only [put, app, setAll, trOf, zE, zS, reduceAdd])
            refine rg_nil ?_
            have hil : i < l.length := by omega
            have hx := hR.at_ (i := i) (by omega); have hl := hR.len; have hrl : ((m.row (l.getD i 0)).length : Int) = m.inp := hm.rl (l.getD i 0).toNat (by omega)
            have hjr : (m.row (l.getD i 0)).take j = m.row (l.getD i 0) := List.take_of_length_le (by omega)
            rw [hjr] at hRc
            have hge := fold_len_le (m.row (l.getD i 0)) l
            refine ⟨_, _, ?_, sub_keep [1, 3, 4], i + 1, (m.row (l.getD i 0)).foldl addS l, v2, hRc, ?_, by omega, rfl, ?_⟩
            · omega
            · rw [← hrf, show m.nx.length + 1 - i = (m.nx.length + 1 - (i + 1)) + 1 by omega, rf_step m _ _ _ (by omega)]
            · rw [hjr]; rfl
      · (try simp only [zB, reduceCtorEq] at hc12)
        refine awp_exit ?_
        refine hK7 _ ?_; clear hK7; refine awp_keep [1, 3, 4, 15] ?_; simp only [keepEnv, lkp, zE, reduceCtorEq, reduceEqDiff, argEnv, reduceAdd]
        refine awp_seq_k fun K22 hK22 => ?_
        refine awp_reg hP hN rfl ?_
        iterate 2 (refine rg_step rfl fun K0 hK0 => ?_; simp only [zE, op1, ev, lkp, avOf, acOf, ev, reduceCtorEq, reduceEqDiff, reduceAdd, reduceLeDiff, reduceLT, reduceMul, reduceSub, Try.el25, Try.td25, Mly.av]; (repeat refine And.intro (by first | omega | assumption | exact rfl) ?_); (first | refine hK0 _ ?_ | refine Or.inl (hK0 _ ?_)); clear hK0 K0; simp only [put, app, setAll, trOf, zE, zS, reduceAdd])
        refine rg_nil ?_
        refine hK22 _ ?_; clear hK22; refine awp_keep [1, 2, 3, 4, 15] ?_; simp only [keepEnv, lkp, zE, reduceCtorEq, reduceEqDiff, argEnv, reduceAdd]
        refine awp_ret ?_
        refine ⟨by first | exact .inl rfl | exact .inr rfl, _, rfl, ?_⟩; simp only [fzV, fz1, fzC, List.map_cons, List.map_nil, keepEnv, lkp, zE, reduceCtorEq, reduceEqDiff, argEnv, reduceAdd, Mly.av]
        first
        | (rw [reach_bad ‹¬validE m = 0›]; exact vle_one (cle_nils rfl))
        | (rw [← hrf, rf_end _ _ _ _ (by omega)]; exact VLE.of_eq (by simp))
end Go.Proofs.Ytceafldjjedhcaa
namespace Go.Proofs.Ytceafldjjedhcaa
open Go Go.AV
open Nat (reduceEqDiff reduceAdd reduceLeDiff reduceLT reduceMul reduceSub)
open List (set_cons_zero set_cons_succ)
set_option maxRecDepth 100000 in
theorem access_c (m : Mly) (hm : MOK m) : PURE Try.prog 53 [m.av] (.tup [.one (.list (.int .i64) (fstX m.exR)), .one (.list (.list (.int .i64)) (sndX m.exR))]) := by
  have h3 := hm.n2; have hi1 := hm.i1; have hi2 := hm.i2; have hrr := (rset_reach hm).len
  refine pure_of_le Try.func53 rfl (by kernel_rfl) (Nat.le_of_ble_eq_true rfl) rfl fun C hP hN hB => ?_
  replace hN : C.N = 73 := hN
  simp only [argEnv, reduceAdd]
  refine awp_seq_k fun K1 hK1 => ?_
  refine awp_reg hP hN rfl ?_
  iterate 3 (refine rg_step rfl fun K0 hK0 => ?_; simp only [zE, op1, ev, lkp, avOf, acOf, opBox, cellsAV, reduceCtorEq, reduceEqDiff, reduceAdd, reduceLeDiff, reduceLT, reduceMul, reduceSub, Try.el22, Try.el25, Try.st24, Try.td22, Try.td24, Try.td25, Mly.av]; (repeat refine And.intro (by first | omega | assumption | exact rfl) ?_); (first | refine hK0 _ ?_ | refine Or.inl (hK0 _ ?_)); clear hK0 K0; simp only [put, app, setAll, trOf, zE, zS, reduceAdd])
  refine rg_nil ?_
  refine hK1 _ ?_; clear hK1; refine awp_keep [0, 1, 2, 3] ?_; simp only [keepEnv, lkp, zE, reduceCtorEq, reduceEqDiff, argEnv, reduceAdd]
  refine awp_seq_k fun K2 hK2 => ?_
  refine awp_reg hP hN rfl ?_
  (refine rg_step rfl fun K0 hK0 => ?_; simp only [zE, op1, ev, lkp, avOf, acOf, opLoad, Nat.mul_one, readAC, isAggK, acs, Ty.dflt, zG, cellsAt, reduceCtorEq, reduceEqDiff, reduceAdd, reduceLeDiff, reduceLT, reduceMul, reduceSub, Try.st24, Try.td24, Mly.av]; (repeat refine And.intro (by first | omega | assumption | exact rfl) ?_); (first | refine hK0 _ ?_ | refine Or.inl (hK0 _ ?_)); clear hK0 K0; simp only [put, app, setAll, trOf, zE, zS, reduceAdd])
  refine rg_step rfl fun K0 hK0 => ?_
  refine op_call (h := call_of_pure (rreach_c m)) rfl rfl (by first | exact rfl | (simp only [ev, keepEnv, lkp, zE, reduceCtorEq, reduceEqDiff, argEnv, reduceAdd]; exact rfl)) (by simp only [zE, zG, op1, ev, lkp, avOf, acOf, cellsAV, acs, capAV, mv1, mvC, Ty.dflt, reduceCtorEq, reduceEqDiff, reduceAdd, reduceLeDiff, reduceLT, reduceMul, reduceSub, Mly.av]) ?_
  refine hK0 _ ?_; clear hK0 K0; simp only [put, app, setAll, trOf, zE, zS, reduceAdd]
  (refine rg_step rfl fun K0 hK0 => ?_; simp only [zE, op1, ev, lkp, avOf, acOf, ev, reduceCtorEq, reduceEqDiff, reduceAdd, reduceLeDiff, reduceLT, reduceMul, reduceSub, Try.el25, Try.td25, Mly.av]; (repeat refine And.intro (by first | omega | assumption | exact rfl) ?_); (first | refine hK0 _ ?_ | refine Or.inl (hK0 _ ?_)); clear hK0 K0; simp only [put, app, setAll, trOf, zE, zS, reduceAdd])
  refine rg_nil ?_
  refine hK2 _ ?_; clear hK2; refine awp_keep [0, 1, 2, 3, 4] ?_; simp only [keepEnv, lkp, zE, reduceCtorEq, reduceEqDiff, argEnv, reduceAdd]
  refine awp_seq_k fun K3 hK3 => ?_
  refine awp_reg hP hN rfl ?_
  (refine rg_step rfl fun K0 hK0 => ?_; simp only [zE, op1, ev, lkp, avOf, acOf, opBuildSlice, fillAC, chunk, rep, datOf, writeAC, cellsAV, Ty.size, reduceCtorEq, reduceEqDiff, reduceAdd, reduceLeDiff, reduceLT, reduceMul, reduceSub, Try.el25, Try.td25, Mly.av]; (repeat refine And.intro (by first | omega | assumption | exact rfl) ?_); (first | refine hK0 _ ?_ | refine Or.inl (hK0 _ ?_)); clear hK0 K0; simp only [put, app, setAll, trOf, zE, zS, reduceAdd])
  (refine rg_step rfl fun K0 hK0 => ?_; simp only [zE, op1, ev, lkp, avOf, acOf, opBuildSlice, fillAC, chunk, rep, datOf, writeAC, cellsAV, Ty.size, reduceCtorEq, reduceEqDiff, reduceAdd, reduceLeDiff, reduceLT, reduceMul, reduceSub, Try.el22, Try.td1, Try.td22, Mly.av]; (repeat refine And.intro (by first | omega | assumption | exact rfl) ?_); refine Or.inr (hK0 _ ?_); clear hK0 K0; simp only [put, app, setAll, trOf, zE, zS, reduceAdd])
  (refine rg_step rfl fun K0 hK0 => ?_; simp only [zE, op1, ev, lkp, avOf, acOf, ev, reduceCtorEq, reduceEqDiff, reduceAdd, reduceLeDiff, reduceLT, reduceMul, reduceSub, Try.el22, Try.td22, Mly.av]; (repeat refine And.intro (by first | omega | assumption | exact rfl) ?_); (first | refine hK0 _ ?_ | refine Or.inl (hK0 _ ?_)); clear hK0 K0; simp only [put, app, setAll, trOf, zE, zS, reduceAdd])
  refine rg_nil ?_
  refine hK3 _ ?_; clear hK3; refine awp_keep [0, 1, 2, 3, 4, 5] ?_; simp only [keepEnv, lkp, zE, reduceCtorEq, reduceEqDiff, argEnv, reduceAdd]
  refine awp_seq_k fun K4 hK4 => ?_
  refine awp_reg hP hN rfl ?_
  iterate 2 (refine rg_step rfl fun K0 hK0 => ?_; simp only [zE, op1, ev, lkp, avOf, acOf, opFieldAddr, opLoad, Nat.mul_one, readAC, isAggK, acs, Ty.dflt, zG, cellsAt, reduceCtorEq, reduceEqDiff, reduceAdd, reduceLeDiff, reduceLT, reduceMul, reduceSub, Try.st24, Try.td1, Try.td24, Try.td3, Mly.av]; (repeat refine And.intro (by first | omega | assumption | exact rfl) ?_); (first | refine hK0 _ ?_ | refine Or.inl (hK0 _ ?_)); clear hK0 K0; simp only [put, app, setAll, trOf, zE, zS, reduceAdd])
  (refine rg_step rfl fun K0 hK0 => ?_; simp only [zE, op1, ev, lkp, avOf, acOf, opBuildSlice, fillAC, chunk, rep, datOf, writeAC, cellsAV, Ty.size, reduceCtorEq, reduceEqDiff, reduceAdd, reduceLeDiff, reduceLT, reduceMul, reduceSub, Try.el25, Try.td1, Try.td25, Mly.av]; (repeat refine And.intro (by first | omega | assumption | exact rfl) ?_); refine Or.inr (hK0 _ ?_); clear hK0 K0; simp only [put, app, setAll, trOf, zE, zS, reduceAdd])
  (refine rg_step rfl fun K0 hK0 => ?_; simp only [zE, op1, ev, lkp, avOf, acOf, ev, reduceCtorEq, reduceEqDiff, reduceAdd, reduceLeDiff, reduceLT, reduceMul, reduceSub, Try.el25, Try.td25, Mly.av]; (repeat refine And.intro (by first | omega | assumption | exact rfl) ?_); (first | refine hK0 _ ?_ | refine Or.inl (hK0 _ ?_)); clear hK0 K0; simp only [put, app, setAll, trOf, zE, zS, reduceAdd])
  refine rg_nil ?_
  refine hK4 _ ?_; clear hK4; refine awp_keep [0, 1, 2, 3, 4, 5, 6] ?_; simp only [keepEnv, lkp, zE, reduceCtorEq, reduceEqDiff, argEnv, reduceAdd]
  refine awp_seq_k fun K5 hK5 => ?_
  refine awp_seq_k fun K6 hK6 => ?_
  refine awp_reg hP hN rfl ?_
  (refine rg_step rfl fun K0 hK0 => ?_; simp only [zE, op1, ev, lkp, avOf, acOf, ev, reduceCtorEq, reduceEqDiff, reduceAdd, reduceLeDiff, reduceLT, reduceMul, reduceSub, Try.td3, Mly.av]; (repeat refine And.intro (by first | omega | assumption | exact rfl) ?_); (first | refine hK0 _ ?_ | refine Or.inl (hK0 _ ?_)); clear hK0 K0; simp only [put, app, setAll, trOf, zE, zS, reduceAdd])
  refine rg_nil ?_
  refine hK6 _ ?_; clear hK6; refine awp_keep [0, 1, 2, 3, 4, 5, 6, 7] ?_; simp only [keepEnv, lkp, zE, reduceCtorEq, reduceEqDiff, argEnv, reduceAdd]
  refine awp_block ?_
  refine awp_loop (fun n7 s7 => ∃ (i : Nat) (l : List S2) (v : Nat) (u : Nat), (WFX m l) ∧ (exF m (m.nx.length + 1 - i) i l = m.exR) ∧ (i ≤ l.length) ∧ n7 = m.nx.length + 1 - i ∧ s7 = { env := [(1, .one (.ptr 0 0 0 0)), (4, .one (.list (.int .i64) m.reach)), (5, .one (.row 1 v)), (6, .one (.row 2 u)), (7, .one (.int .i64 (i : Int)))], L := [.vars 24 [.int .i64 m.inp, .int .i64 m.st, .list (.list (.int .i64)) m.nx, .list (.list (.int .i64)) m.ot], .row (.list (.int .i64)) 25 v (sndX l), .row (.int .i64) 3 u (fstX l)] }) ?_ ?_
  · exact ⟨_, _, sub_keep [1, 4, 5, 6, 7], 0, [(m.st, [])], 0, 0, wfx_one hm, rfl, Nat.zero_le _, rfl, rfl⟩
  · rintro n7 s7 ⟨i, l, v, u, hwf, hxf, hil0, rfl, rfl⟩
    refine awp_seq_k fun K8 hK8 => ?_
    refine awp_seq_k fun K9 hK9 => ?_
    refine awp_reg hP hN rfl ?_
    iterate 4 (refine rg_step rfl fun K0 hK0 => ?_; simp only [zE, op1, ev, lkp, avOf, acOf, opCallAny, opMM, opLen, lenAC, lenOk, fpAC, Nat.div_one, opAppend, srcOf, Ty.size, datOf, dite_true, opBin, arith, inK_i64, eqACs, eqAC, reduceCtorEq, reduceEqDiff, reduceAdd, reduceLeDiff, reduceLT, reduceMul, reduceSub, Try.el25, Try.td25, Try.td3, Try.td4, Mly.av, fstX_len]; (repeat refine And.intro (by first | omega | assumption | exact rfl) ?_); (first | refine hK0 _ ?_ | refine Or.inl (hK0 _ ?_)); clear hK0 K0; simp only [put, app, setAll, trOf, zE, zS, reduceAdd])
    refine rg_nil ?_
    refine hK9 _ ?_; clear hK9; refine awp_keep [1, 4, 5, 6, 7, 19] ?_; simp only [keepEnv, lkp, zE, reduceCtorEq, reduceEqDiff, argEnv, reduceAdd]
    refine awp_cond (by simp only [ev, keepEnv, lkp, zE, reduceCtorEq, reduceEqDiff, argEnv, reduceAdd]; exact rfl) (fun hc10 => ?_) (fun hc10 => ?_)
    · (try simp only [zB, reduceCtorEq] at hc10)
      refine awp_skip ?_
      refine hK8 _ ?_; clear hK8; refine awp_keep [1, 4, 5, 6, 7, 19] ?_; simp only [keepEnv, lkp, zE, reduceCtorEq, reduceEqDiff, argEnv, reduceAdd]
      refine awp_seq_k fun K11 hK11 => ?_
      refine awp_block ?_
      refine awp_seq_k fun K12 hK12 => ?_
      refine awp_reg hP hN rfl ?_
      (refine rg_step rfl fun K0 hK0 => ?_; simp only [zE, op1, ev, lkp, avOf, acOf, ev, reduceCtorEq, reduceEqDiff, reduceAdd, reduceLeDiff, reduceLT, reduceMul, reduceSub, Try.td3, Mly.av]; (repeat refine And.intro (by first | omega | assumption | exact rfl) ?_); (first | refine hK0 _ ?_ | refine Or.inl (hK0 _ ?_)); clear hK0 K0; simp only [put, app, setAll, trOf, zE, zS, reduceAdd])
      refine rg_nil ?_
      refine hK12 _ ?_; clear hK12; refine awp_keep [1, 4, 5, 6, 7, 8, 19] ?_; simp only [keepEnv, lkp, zE, reduceCtorEq, reduceEqDiff, argEnv, reduceAdd]
      refine awp_block ?_
      refine awp_loop (fun n13 s13 => ∃ (x : Nat) (v2 : Nat) (u2 : Nat), ((x : Int) ≤ m.inp) ∧ (WFX m (rowX m (l.getD i eX0) l x)) ∧ n13 = m.inp.toNat - x ∧ s13 = { env := [(1, .one (.ptr 0 0 0 0)), (4, .one (.list (.int .i64) m.reach)), (5, .one (.row 1 v2)), (6, .one (.row 2 u2)), (7, .one (.int .i64 (i : Int))), (8, .one (.int .i64 (x : Int)))], L := [.vars 24 [.int .i64 m.inp, .int .i64 m.st, .list (.list (.int .i64)) m.nx, .list (.list (.int .i64)) m.ot], .row (.list (.int .i64)) 25 v2 (sndX (rowX m (l.getD i eX0) l x)), .row (.int .i64) 3 u2 (fstX (rowX m (l.getD i eX0) l x))] }) ?_ ?_
      · exact ⟨_, _, sub_keep [1, 4, 5, 6, 7, 8], 0, v, u, by omega, hwf, rfl, rfl⟩
      · rintro n13 s13 ⟨x, v2, u2, hx0, hwr, rfl, rfl⟩
        refine awp_seq_k fun K14 hK14 => ?_
        refine awp_seq_k fun K15 hK15 => ?_
        refine awp_reg hP hN rfl ?_
        iterate 4 (refine rg_step rfl fun K0 hK0 => ?_; simp only [zE, op1, ev, lkp, avOf, acOf, opFieldAddr, opLoad, Nat.mul_one, readAC, isAggK, acs, Ty.dflt, zG, cellsAt, opBin, arith, inK_i64, eqACs, eqAC, reduceCtorEq, reduceEqDiff, reduceAdd, reduceLeDiff, reduceLT, reduceMul, reduceSub, Try.st24, Try.td24, Try.td3, Try.td4, Mly.av]; (repeat refine And.intro (by first | omega | assumption | exact rfl) ?_); (first | refine hK0 _ ?_ | refine Or.inl (hK0 _ ?_)); clear hK0 K0; simp only [put, app, setAll, trOf, zE, zS, reduceAdd])
        refine rg_nil ?_
        refine hK15 _ ?_; clear hK15; refine awp_keep [1, 4, 5, 6, 7, 8, 25] ?_; simp only [keepEnv, lkp, zE, reduceCtorEq, reduceEqDiff, argEnv, reduceAdd]
        refine awp_cond (by simp only [ev, keepEnv, lkp, zE, reduceCtorEq, reduceEqDiff, argEnv, reduceAdd]; exact rfl) (fun hc16 => ?_) (fun hc16 => ?_)
        · (try simp only [zB, reduceCtorEq] at hc16)
          refine awp_skip ?_
          refine hK14 _ ?_; clear hK14; refine awp_keep [1, 4, 5, 6, 7, 8, 25] ?_; simp only [keepEnv, lkp, zE, reduceCtorEq, reduceEqDiff, argEnv, reduceAdd]
          refine awp_seq_k fun K17 hK17 => ?_
          refine awp_block ?_
          refine awp_seq_k fun K18 hK18 => ?_
          have hil : i < l.length := by omega
          have hx := hwf.at_ hil; have hrl := hm.rl (l.getD i eX0).1.toNat (by omega); have hfl2 := fstX_len (rowX m (l.getD i eX0) l x); have hsl2 := sndX_len (rowX m (l.getD i eX0) l x); have hge := rowX_ge m (l.getD i eX0) l x; have hbr := hwr.le
          have hgs : (sndX (rowX m (l.getD i eX0) l x)).getD i [] = (l.getD i eX0).2 := by rw [sndX_at (by omega), rowX_at m _ x hil]
          have hgf : (fstX (rowX m (l.getD i eX0) l x)).getD i 0 = (l.getD i eX0).1 := by rw [fstX_at (by omega), rowX_at m _ x hil]
          have hwl := hwf.wl _ (mem_X hil); have hbl := hwf.le
          have hxf2 : exF m ((m.nx.length - i) + 1) i l = m.exR := by rw [← hxf, show m.nx.length + 1 - i = (m.nx.length - i) + 1 by omega]
          have hai := acc_iff hm hxf2 hil (x := x) (by omega)
          refine awp_drw hP hN Try.mixed rfl ?_
          iterate 5 (refine rg_step rfl fun K0 hK0 => ?_; simp only [zE, op1, ev, lkp, avOf, acOf, opCallAny, opMM, opLen, lenAC, lenOk, fpAC, Nat.div_one, opAppend, srcOf, Ty.size, datOf, dite_true, opBin, arith, inK_i64, eqACs, eqAC, reduceCtorEq, reduceEqDiff, reduceAdd, reduceLeDiff, reduceLT, reduceMul, reduceSub, Try.el25, Try.td25, Try.td3, Try.td4, Mly.av, hgf, hgs, sndX_len, fstX_len]; (repeat refine And.intro (by first | omega | assumption | exact rfl) ?_); (first | refine hK0 _ ?_ | refine Or.inl (hK0 _ ?_)); clear hK0 K0; simp only [put, app, setAll, trOf, zE, zS, reduceAdd])
          (refine rg_step rfl fun K0 hK0 => ?_; simp only [zE, op1, ev, lkp, avOf, acOf, ev, reduceCtorEq, reduceEqDiff, reduceAdd, reduceLeDiff, reduceLT, reduceMul, reduceSub, Try.td4, Mly.av, hgf, hgs, sndX_len, fstX_len]; (repeat refine And.intro (by first | omega | assumption | exact rfl) ?_); (first | refine hK0 _ ?_ | refine Or.inl (hK0 _ ?_)); clear hK0 K0; simp only [put, app, setAll, trOf, zE, zS, reduceAdd])
          refine' rg_join_n (want := true) 17 rfl (m := 33) (by simp only [keepEnv, lkp, zE, reduceCtorEq, reduceEqDiff, argEnv, reduceAdd]; exact rfl) (by kernel_rfl) rfl rfl rfl rfl rfl (fun hg19 => ?a19) ?b19 ?c19
          case a19 =>
            have hq19 := hg19; (try simp only [zB, reduceCtorEq] at hg19); simp only [List.take_succ_cons, List.take_zero, List.cons_append, List.nil_append]
            (refine rg_do rfl fun K0 hK0 => ?_; simp only [zE, op1, ev, lkp, avOf, acOf, opFieldAddr, reduceCtorEq, reduceEqDiff, reduceAdd, reduceLeDiff, reduceLT, reduceMul, reduceSub, Try.st24, Try.td2, Try.td24, Mly.av, hgf, hgs, sndX_len, fstX_len]; (repeat refine And.intro (by first | omega | assumption | exact rfl) ?_); (first | refine hK0 _ ?_ | refine Or.inl (hK0 _ ?_)); clear hK0 K0; simp only [put, app, setAll, trOf, zE, zS, reduceAdd])
            (refine rg_do rfl fun K0 hK0 => ?_; simp only [zE, op1, ev, lkp, avOf, acOf, opLoad, Nat.mul_one, readAC, isAggK, acs, Ty.dflt, zG, cellsAt, reduceCtorEq, reduceEqDiff, reduceAdd, reduceLeDiff, reduceLT, reduceMul, reduceSub, Try.el22, Try.td22, Mly.av, hgf, hgs, sndX_len, fstX_len]; (repeat refine And.intro (by first | omega | assumption | exact rfl) ?_); (first | refine hK0 _ ?_ | refine Or.inl (hK0 _ ?_)); clear hK0 K0; simp only [put, app, setAll, trOf, zE, zS, reduceAdd])
            (refine rg_do rfl fun K0 hK0 => ?_; simp only [zE, op1, ev, lkp, avOf, acOf, ev, reduceCtorEq, reduceEqDiff, reduceAdd, reduceLeDiff, reduceLT, reduceMul, reduceSub, Try.el25, Try.td25, Mly.av, hgf, hgs, sndX_len, fstX_len]; (repeat refine And.intro (by first | omega | assumption | exact rfl) ?_); (first | refine hK0 _ ?_ | refine Or.inl (hK0 _ ?_)); clear hK0 K0; simp only [put, app, setAll, trOf, zE, zS, reduceAdd])
            (refine rg_do rfl fun K0 hK0 => ?_; simp only [zE, op1, ev, lkp, avOf, acOf, ev, reduceCtorEq, reduceEqDiff, reduceAdd, reduceLeDiff, reduceLT, reduceMul, reduceSub, Try.td3, Mly.av, hgf, hgs, sndX_len, fstX_len]; (repeat refine And.intro (by first | omega | assumption | exact rfl) ?_); (first | refine hK0 _ ?_ | refine Or.inl (hK0 _ ?_)); clear hK0 K0; simp only [put, app, setAll, trOf, zE, zS, reduceAdd])
            (refine rg_do rfl fun K0 hK0 => ?_; simp only [zE, op1, ev, lkp, avOf, acOf, opIndexAddr, zG, Ty.dflt, Ty.size, Nat.mul_one, ne_eq, not_false_eq_true, Int.natCast_one, Int.mul_one, reduceCtorEq, reduceEqDiff, reduceAdd, reduceLeDiff, reduceLT, reduceMul, reduceSub, Try.el25, Try.td25, Mly.av, hgf, hgs, sndX_len, fstX_len]; (repeat refine And.intro (by first | omega | assumption | exact rfl) ?_); (first | refine hK0 _ ?_ | refine Or.inl (hK0 _ ?_)); clear hK0 K0; simp only [put, app, setAll, trOf, zE, zS, reduceAdd])
            (refine rg_do rfl fun K0 hK0 => ?_; simp only [zE, op1, ev, lkp, avOf, acOf, opLoad, Nat.mul_one, readAC, isAggK, acs, Ty.dflt, zG, cellsAt, reduceCtorEq, reduceEqDiff, reduceAdd, reduceLeDiff, reduceLT, reduceMul, reduceSub, Try.td3, Mly.av, hgf, hgs, sndX_len, fstX_len]; (repeat refine And.intro (by first | omega | assumption | exact rfl) ?_); (first | refine hK0 _ ?_ | refine Or.inl (hK0 _ ?_)); clear hK0 K0; simp only [put, app, setAll, trOf, zE, zS, reduceAdd])
            (refine rg_do rfl fun K0 hK0 => ?_; simp only [zE, op1, ev, lkp, avOf, acOf, opIndexAddr, zG, Ty.dflt, Ty.size, Nat.mul_one, ne_eq, not_false_eq_true, Int.natCast_one, Int.mul_one, reduceCtorEq, reduceEqDiff, reduceAdd, reduceLeDiff, reduceLT, reduceMul, reduceSub, Try.el22, Try.td22, Mly.av, hgf, hgs, sndX_len, fstX_len]; (repeat refine And.intro (by first | omega | assumption | exact rfl) ?_); (first | refine hK0 _ ?_ | refine Or.inl (hK0 _ ?_)); clear hK0 K0; simp only [put, app, setAll, trOf, zE, zS, reduceAdd])
            (refine rg_do rfl fun K0 hK0 => ?_; simp only [zE, op1, ev, lkp, avOf, acOf, opLoad, Nat.mul_one, readAC, isAggK, acs, Ty.dflt, zG, cellsAt, reduceCtorEq, reduceEqDiff, reduceAdd, reduceLeDiff, reduceLT, reduceMul, reduceSub, Try.el25, Try.td25, Mly.av, hgf, hgs, sndX_len, fstX_len]; (repeat refine And.intro (by first | omega | assumption | exact rfl) ?_); (first | refine hK0 _ ?_ | refine Or.inl (hK0 _ ?_)); clear hK0 K0; simp only [put, app, setAll, trOf, zE, zS, reduceAdd])
            (refine rg_do rfl fun K0 hK0 => ?_; simp only [zE, op1, ev, lkp, avOf, acOf, ev, reduceCtorEq, reduceEqDiff, reduceAdd, reduceLeDiff, reduceLT, reduceMul, reduceSub, Try.td3, Mly.av, hgf, hgs, sndX_len, fstX_len]; (repeat refine And.intro (by first | omega | assumption | exact rfl) ?_); (first | refine hK0 _ ?_ | refine Or.inl (hK0 _ ?_)); clear hK0 K0; simp only [put, app, setAll, trOf, zE, zS, reduceAdd])
            (refine rg_do rfl fun K0 hK0 => ?_; simp only [zE, op1, ev, lkp, avOf, acOf, opIndexAddr, zG, Ty.dflt, Ty.size, Nat.mul_one, ne_eq, not_false_eq_true, Int.natCast_one, Int.mul_one, reduceCtorEq, reduceEqDiff, reduceAdd, reduceLeDiff, reduceLT, reduceMul, reduceSub, Try.el25, Try.td25, Mly.av, hgf, hgs, sndX_len, fstX_len]; (repeat refine And.intro (by first | omega | assumption | exact rfl) ?_); (first | refine hK0 _ ?_ | refine Or.inl (hK0 _ ?_)); clear hK0 K0; simp only [put, app, setAll, trOf, zE, zS, reduceAdd])
            (refine rg_do rfl fun K0 hK0 => ?_; simp only [zE, op1, ev, lkp, avOf, acOf, opLoad, Nat.mul_one, readAC, isAggK, acs, Ty.dflt, zG, cellsAt, reduceCtorEq, reduceEqDiff, reduceAdd, reduceLeDiff, reduceLT, reduceMul, reduceSub, Try.td3, Mly.av, hgf, hgs, sndX_len, fstX_len]; (repeat refine And.intro (by first | omega | assumption | exact rfl) ?_); (first | refine hK0 _ ?_ | refine Or.inl (hK0 _ ?_)); clear hK0 K0; simp only [put, app, setAll, trOf, zE, zS, reduceAdd])
            (refine rg_do rfl fun K0 hK0 => ?_; simp only [zE, op1, ev, lkp, avOf, acOf, ev, reduceCtorEq, reduceEqDiff, reduceAdd, reduceLeDiff, reduceLT, reduceMul, reduceSub, Try.el25, Try.td25, Mly.av, hgf, hgs, sndX_len, fstX_len]; (repeat refine And.intro (by first | omega | assumption | exact rfl) ?_); (first | refine hK0 _ ?_ | refine Or.inl (hK0 _ ?_)); clear hK0 K0; simp only [put, app, setAll, trOf, zE, zS, reduceAdd])
            (refine rg_do rfl fun K0 hK0 => ?_; simp only [zE, op1, ev, lkp, avOf, acOf, ev, reduceCtorEq, reduceEqDiff, reduceAdd, reduceLeDiff, reduceLT, reduceMul, reduceSub, Try.el25, Try.td25, Mly.av, hgf, hgs, sndX_len, fstX_len]; (repeat refine And.intro (by first | omega | assumption | exact rfl) ?_); (first | refine hK0 _ ?_ | refine Or.inl (hK0 _ ?_)); clear hK0 K0; simp only [put, app, setAll, trOf, zE, zS, reduceAdd])
            (refine rg_do rfl fun K0 hK0 => ?_; simp only [zE, op1, ev, lkp, avOf, acOf, opCallAny, opMM, opLen, lenAC, lenOk, fpAC, Nat.div_one, opAppend, srcOf, Ty.size, datOf, dite_true, reduceCtorEq, reduceEqDiff, reduceAdd, reduceLeDiff, reduceLT, reduceMul, reduceSub, Try.el25, Try.td25, Try.td3, Mly.av, hgf, hgs, sndX_len, fstX_len]; (repeat refine And.intro (by first | omega | assumption | exact rfl) ?_); (first | refine hK0 _ ?_ | refine Or.inl (hK0 _ ?_)); clear hK0 K0; simp only [put, app, setAll, trOf, zE, zS, reduceAdd])
            (refine rg_do rfl fun K0 hK0 => ?_; simp only [zE, op1, ev, lkp, avOf, acOf, opIndexAddr, zG, Ty.dflt, Ty.size, Nat.mul_one, ne_eq, not_false_eq_true, Int.natCast_one, Int.mul_one, reduceCtorEq, reduceEqDiff, reduceAdd, reduceLeDiff, reduceLT, reduceMul, reduceSub, Try.el25, Try.td25, Mly.av, hgf, hgs, sndX_len, fstX_len]; (repeat refine And.intro (by first | omega | assumption | exact rfl) ?_); (first | refine hK0 _ ?_ | refine Or.inl (hK0 _ ?_)); clear hK0 K0; simp only [put, app, setAll, trOf, zE, zS, reduceAdd])
            (refine rg_do rfl fun K0 hK0 => ?_; simp only [zE, op1, ev, lkp, avOf, acOf, opLoad, Nat.mul_one, readAC, isAggK, acs, Ty.dflt, zG, cellsAt, reduceCtorEq, reduceEqDiff, reduceAdd, reduceLeDiff, reduceLT, reduceMul, reduceSub, Try.td3, Mly.av, hgf, hgs, sndX_len, fstX_len]; (repeat refine And.intro (by first | omega | assumption | exact rfl) ?_); (first | refine hK0 _ ?_ | refine Or.inl (hK0 _ ?_)); clear hK0 K0; simp only [put, app, setAll, trOf, zE, zS, reduceAdd])
            (refine rg_do rfl fun K0 hK0 => ?_; simp only [zE, op1, ev, lkp, avOf, acOf, opBin, arith, inK_i64, eqACs, eqAC, reduceCtorEq, reduceEqDiff, reduceAdd, reduceLeDiff, reduceLT, reduceMul, reduceSub, Try.td3, Try.td4, Mly.av, hgf, hgs, sndX_len, fstX_len]; (repeat refine And.intro (by first | omega | assumption | exact rfl) ?_); (first | refine hK0 _ ?_ | refine Or.inl (hK0 _ ?_)); clear hK0 K0; simp only [put, app, setAll, trOf, zE, zS, reduceAdd])
            (refine rg_step rfl fun K0 hK0 => ?_; simp only [zE, op1, ev, lkp, avOf, acOf, opPick, reduceCtorEq, reduceEqDiff, reduceAdd, reduceLeDiff, reduceLT, reduceMul, reduceSub, Try.td4, Mly.av, hgf, hgs, sndX_len, fstX_len]; (repeat refine And.intro (by first | omega | assumption | exact rfl) ?_); (first | refine hK0 _ ?_ | refine Or.inl (hK0 _ ?_)); clear hK0 K0; simp only [put, app, setAll, trOf, zE, zS, reduceAdd])
            refine rg_nil ?_
            refine ⟨by simp only [keepEnv, lkp, zE, reduceCtorEq, reduceEqDiff, argEnv, reduceAdd]; exact rfl, rfl, ?_, rfl⟩; (repeat refine keep_cons rfl ?_); exact keep_m (by exact rfl) hq19
          case b19 => exact tle_of (by first | rfl | (simp [tleB]; done) | decide)
          simp only [join_or, join_and]
          refine rg_nil ?_
          refine ⟨by kernel_rfl, ?_⟩
          refine hK18 _ ?_; clear hK18; refine awp_keep [1, 4, 5, 6, 7, 8, 25, 51] ?_; simp only [keepEnv, lkp, zE, reduceCtorEq, reduceEqDiff, argEnv, reduceAdd]
          refine awp_cond (by simp only [ev, keepEnv, lkp, zE, reduceCtorEq, reduceEqDiff, argEnv, reduceAdd]; exact rfl) (fun hc20 => ?_) (fun hc20 => ?_)
          · (try simp only [zB, reduceCtorEq] at hc20)
            have hin1 : ((m.row (l.getD i eX0).1).getD x 0) ∉ fstX (rowX m (l.getD i eX0) l x) := hai.2 (by simpa using hc20)
            refine awp_seq_k fun K21 hK21 => ?_
            refine awp_reg hP hN rfl ?_
            iterate 9 (refine rg_step rfl fun K0 hK0 => ?_; simp only [zE, op1, ev, lkp, avOf, acOf, opCallAny, opMM, opLen, lenAC, lenOk, fpAC, Nat.div_one, opAppend, srcOf, Ty.size, datOf, dite_true, opIndexAddr, zG, Ty.dflt, Nat.mul_one, ne_eq, not_false_eq_true, Int.natCast_one, Int.mul_one, opLoad, readAC, isAggK, acs, cellsAt, opBuildSlice, fillAC, chunk, rep, writeAC, cellsAV, reduceCtorEq, reduceEqDiff, reduceAdd, reduceLeDiff, reduceLT, reduceMul, reduceSub, Try.el25, Try.td1, Try.td25, Try.td3, Mly.av, hgf, hgs, sndX_len, fstX_len]; (repeat refine And.intro (by first | omega | assumption | exact rfl) ?_); (first | refine hK0 _ ?_ | refine Or.inl (hK0 _ ?_)); clear hK0 K0; simp only [put, app, setAll, trOf, zE, zS, reduceAdd])
            refine rg_nil ?_
            refine hK21 _ ?_; clear hK21; refine awp_keep [1, 4, 5, 6, 7, 8, 25, 51] ?_; simp only [keepEnv, lkp, zE, reduceCtorEq, reduceEqDiff, argEnv, reduceAdd]
            refine awp_reg hP hN rfl ?_
            iterate 8 (refine rg_step rfl fun K0 hK0 => ?_; simp only [zE, op1, ev, lkp, avOf, acOf, opIndexAddr, zG, Ty.dflt, Ty.size, Nat.mul_one, ne_eq, not_false_eq_true, Int.natCast_one, Int.mul_one, opLoad, readAC, isAggK, acs, cellsAt, opBuildSlice, fillAC, chunk, rep, datOf, writeAC, cellsAV, reduceCtorEq, reduceEqDiff, reduceAdd, reduceLeDiff, reduceLT, reduceMul, reduceSub, Try.el22, Try.el25, Try.td1, Try.td2, Try.td22, Try.td25, Try.td3, Mly.av, hgf, hgs, sndX_len, fstX_len]; (repeat refine And.intro (by first | omega | assumption | exact rfl) ?_); (first | refine hK0 _ ?_ | refine Or.inl (hK0 _ ?_)); clear hK0 K0; simp only [put, app, setAll, trOf, zE, zS, reduceAdd])
            refine rg_step rfl fun K0 hK0 => ?_
            refine op_call (h := call_of_pure (join_c [(l.getD i eX0).2, [(x : Int)]] (by rw [flat2_len]; omega))) rfl rfl (by first | exact rfl | (simp only [ev, keepEnv, lkp, zE, reduceCtorEq, reduceEqDiff, argEnv, reduceAdd]; exact rfl)) (by simp only [zE, zG, op1, ev, lkp, avOf, acOf, cellsAV, acs, capAV, mv1, mvC, Ty.dflt, reduceCtorEq, reduceEqDiff, reduceAdd, reduceLeDiff, reduceLT, reduceMul, reduceSub, Mly.av, hgf, hgs, sndX_len, fstX_len]) ?_
            refine hK0 _ ?_; clear hK0 K0; simp only [put, app, setAll, trOf, zE, zS, reduceAdd]
            iterate 3 (refine rg_step rfl fun K0 hK0 => ?_; simp only [zE, op1, ev, lkp, avOf, acOf, opBuildSlice, fillAC, chunk, rep, datOf, writeAC, cellsAV, Ty.size, opCallAny, opMM, opLen, lenAC, lenOk, fpAC, Nat.div_one, opAppend, srcOf, dite_true, reduceCtorEq, reduceEqDiff, reduceAdd, reduceLeDiff, reduceLT, reduceMul, reduceSub, Try.el22, Try.td1, Try.td22, Mly.av, hgf, hgs, sndX_len, fstX_len]; (repeat refine And.intro (by first | omega | assumption | exact rfl) ?_); (first | refine hK0 _ ?_ | refine Or.inl (hK0 _ ?_)); clear hK0 K0; simp only [put, app, setAll, trOf, zE, zS, reduceAdd])
            refine rg_nil ?_
            refine hK17 _ ?_; clear hK17; refine awp_keep [1, 4, 5, 6, 7, 8, 25, 51] ?_; simp only [keepEnv, lkp, zE, reduceCtorEq, reduceEqDiff, argEnv, reduceAdd]
            refine awp_reg hP hN rfl ?_
            iterate 3 (refine rg_step rfl fun K0 hK0 => ?_; simp only [zE, op1, ev, lkp, avOf, acOf, opBin, arith, inK_i64, eqACs, eqAC, reduceCtorEq, reduceEqDiff, reduceAdd, reduceLeDiff, reduceLT, reduceMul, reduceSub, Try.td3, Mly.av]; (repeat refine And.intro (by first | omega | assumption | exact rfl) ?_); (first | refine hK0 _ ?_ | refine Or.inl (hK0 _ ?_)); clear hK0 K0; simp only [put, app, setAll, trOf, zE, zS, reduceAdd])
            refine rg_nil ?_
            first
            | (have hin : ((m.row (l.getD i eX0).1).getD x 0) ∉ fstX (rowX m (l.getD i eX0) l x) := hin1
               obtain ⟨e1, e2⟩ := stX_out hin
               refine ⟨_, _, ?_, sub_keep [1, 4, 5, 6, 7, 8], x + 1, v2 + 1, u2 + 1, by omega, hwf.row hm hil (x + 1) (by omega), rfl, ?_⟩
               · omega
               · rw [rowX_succ, e1, e2, (hai.1 hin).2]; simp only [List.flatten_cons, List.flatten_nil, List.append_nil]; rfl)
            | (have hin : ((m.row (l.getD i eX0).1).getD x 0) ∈ fstX (rowX m (l.getD i eX0) l x) := hin2
               refine ⟨_, _, ?_, sub_keep [1, 4, 5, 6, 7, 8], x + 1, v2, u2, by omega, hwf.row hm hil (x + 1) (by omega), rfl, ?_⟩
               · omega
               · rw [rowX_succ, stX_in hin]; first | done | rfl)
          · (try simp only [zB, reduceCtorEq] at hc20)
            have hin2 : ((m.row (l.getD i eX0).1).getD x 0) ∈ fstX (rowX m (l.getD i eX0) l x) := Decidable.byContradiction fun hh => absurd (hai.1 hh) (by have hq := hc20; simp at hq ⊢; omega)
            refine awp_skip ?_
            refine hK17 _ ?_; clear hK17; refine awp_keep [1, 4, 5, 6, 7, 8, 25, 51] ?_; simp only [keepEnv, lkp, zE, reduceCtorEq, reduceEqDiff, argEnv, reduceAdd]
            refine awp_reg hP hN rfl ?_
            iterate 3 (refine rg_step rfl fun K0 hK0 => ?_; simp only [zE, op1, ev, lkp, avOf, acOf, opBin, arith, inK_i64, eqACs, eqAC, reduceCtorEq, reduceEqDiff, reduceAdd, reduceLeDiff, reduceLT, reduceMul, reduceSub, Try.td3, Mly.av]; (repeat refine And.intro (by first | omega | assumption | exact rfl) ?_); (first | refine hK0 _ ?_ | refine Or.inl (hK0 _ ?_)); clear hK0 K0; simp only [put, app, setAll, trOf, zE, zS, reduceAdd])
            refine rg_nil ?_
            first
            | (have hin : ((m.row (l.getD i eX0).1).getD x 0) ∉ fstX (rowX m (l.getD i eX0) l x) := hin1
               obtain ⟨e1, e2⟩ := stX_out hin
               refine ⟨_, _, ?_, sub_keep [1, 4, 5, 6, 7, 8], x + 1, v2 + 1, u2 + 1, by omega, hwf.row hm hil (x + 1) (by omega), rfl, ?_⟩
               · omega
               · rw [rowX_succ, e1, e2, (hai.1 hin).2]; simp only [List.flatten_cons, List.flatten_nil, List.append_nil]; rfl)
            | (have hin : ((m.row (l.getD i eX0).1).getD x 0) ∈ fstX (rowX m (l.getD i eX0) l x) := hin2
               refine ⟨_, _, ?_, sub_keep [1, 4, 5, 6, 7, 8], x + 1, v2, u2, by omega, hwf.row hm hil (x + 1) (by omega), rfl, ?_⟩
               · omega
               · rw [rowX_succ, stX_in hin]; first | done | rfl)
        · (try simp only [zB, reduceCtorEq] at hc16)
          refine awp_exit ?_
          refine hK11 _ ?_; clear hK11; refine awp_keep [1, 4, 5, 6, 7, 8, 25] ?_; simp only [keepEnv, lkp, zE, reduceCtorEq, reduceEqDiff, argEnv, reduceAdd]
          have hbg := hwf.le
          refine awp_reg hP hN rfl ?_
          iterate 3 (refine rg_step rfl fun K0 hK0 => ?_; simp only [zE, op1, ev, lkp, avOf, acOf, opBin, arith, inK_i64, eqACs, eqAC, reduceCtorEq, reduceEqDiff, reduceAdd, reduceLeDiff, reduceLT, reduceMul, reduceSub, Try.td3, Mly.av]; (repeat refine And.intro (by first | omega | assumption | exact rfl) ?_); (first | refine hK0 _ ?_ | refine Or.inl (hK0 _ ?_)); clear hK0 K0; simp only [put, app, setAll, trOf, zE, zS, reduceAdd])
          refine rg_nil ?_
          have hil : i < l.length := by omega
          have hbl := hwf.le
          have hge := rowX_ge m (l.getD i eX0) l x
          have hxe : x = m.inp.toNat := by omega
          subst hxe
          refine ⟨_, _, ?_, sub_keep [1, 4, 5, 6, 7], i + 1, rowX m (l.getD i eX0) l m.inp.toNat, v2, u2, hwr, ?_, by omega, rfl, rfl⟩
          · omega
          · rw [← hxf, show m.nx.length + 1 - i = (m.nx.length + 1 - (i + 1)) + 1 by omega, exF_step m _ _ _ hil]
    · (try simp only [zB, reduceCtorEq] at hc10)
      refine awp_exit ?_
      refine hK5 _ ?_; clear hK5; refine awp_keep [1, 4, 5, 6, 7, 19] ?_; simp only [keepEnv, lkp, zE, reduceCtorEq, reduceEqDiff, argEnv, reduceAdd]
      refine awp_seq_k fun K22 hK22 => ?_
      refine awp_reg hP hN rfl ?_
      iterate 4 (refine rg_step rfl fun K0 hK0 => ?_; simp only [zE, op1, ev, lkp, avOf, acOf, ev, reduceCtorEq, reduceEqDiff, reduceAdd, reduceLeDiff, reduceLT, reduceMul, reduceSub, Try.el22, Try.el25, Try.td22, Try.td25, Mly.av]; (repeat refine And.intro (by first | omega | assumption | exact rfl) ?_); (first | refine hK0 _ ?_ | refine Or.inl (hK0 _ ?_)); clear hK0 K0; simp only [put, app, setAll, trOf, zE, zS, reduceAdd])
      refine rg_nil ?_
      refine hK22 _ ?_; clear hK22; refine awp_keep [1, 2, 3, 4, 5, 6, 7, 19] ?_; simp only [keepEnv, lkp, zE, reduceCtorEq, reduceEqDiff, argEnv, reduceAdd]
      refine awp_ret ?_
      refine ⟨by first | exact .inl rfl | exact .inr rfl, _, rfl, ?_⟩; simp only [fzV, fz1, fzC, List.map_cons, List.map_nil, keepEnv, lkp, zE, reduceCtorEq, reduceEqDiff, argEnv, reduceAdd, Mly.av]
      rw [← hxf, exF_end _ _ _ _ (by first | omega | (rw [fstX_len] at *; omega))]
      exact VLE.of_eq (by simp [fzC])
end Go.Proofs.Ytceafldjjedhcaa
namespace Go.AV
open Nat (reduceEqDiff reduceAdd reduceLeDiff reduceLT reduceMul reduceSub)
open List (set_cons_zero set_cons_succ)
/-plain-/
def fSt (m : Mly) (r : Option (Nat × Nat × Nat)) : Int := match r with | some p => (m.exR.getD p.1 eX0).1 | none => 0
def fKl (cl : List Int) (r : Option (Nat × Nat × Nat)) : Int := match r with | some p => cl.getD p.2.1 0 | none => 0
theorem parW_len {m : Mly} (hm : MOK m) {s : Int} (h0 : 0 ≤ s ∧ s < m.nx.length) {c d : Nat} (hc : (c : Int) < m.inp) (hd : (d : Int) < m.inp) : (parW m s c d).length ≤ 16385 := by
  have h4 := hm.nr s.toNat c (by omega) hc; have h5 := hm.nr s.toNat d (by omega) hd
  unfold parW
  split
  · exact seS_len hm hm rfl h4 h5
  · exact Nat.zero_le _
end Go.AV
namespace Go.Proofs.Ytceafldjjedhcaa
open Go Go.AV
open Nat (reduceEqDiff reduceAdd reduceLeDiff reduceLT reduceMul reduceSub)
open List (set_cons_zero set_cons_succ)
set_option maxRecDepth 100000 in
set_option maxHeartbeats 1000000 in
theorem find2_c (m : Mly) (cl : List Int) (hk : COK m cl) : PURE Try.prog 31 [m.av, .one (.list (.int .i64) cl)] ((match finI m cl with | some p => .tup [.one (.int .i64 (m.exR.getD p.1 eX0).1), .one (.int .i64 (cl.getD p.2.1 0)), .one (.list (.int .i64) ((m.exR.getD p.1 eX0).2 ++ [(p.2.1 : Int)] ++ (parW m (m.exR.getD p.1 eX0).1 p.2.1 p.2.2))), .one (.list (.int .i64) ((m.exR.getD p.1 eX0).2 ++ [(p.2.2 : Int)] ++ (parW m (m.exR.getD p.1 eX0).1 p.2.1 p.2.2))), .one (.bool true)] | none => .tup [.one (.int .i64 0), .one (.int .i64 0), .one (.list (.int .i64) []), .one (.list (.int .i64) []), .one (.bool false)])) := by
  have hm := hk.ok; have hlen := hk.len; have hi2 := hm.i2; have hn2 := hm.n2; have hwx := wfx_exR hm; have hxl := hwx.le; have hfx := fstX_len m.exR; have hsx := sndX_len m.exR
  refine pure_of_le Try.func31 rfl (by kernel_rfl) (Nat.le_of_ble_eq_true rfl) rfl fun C hP hN hB => ?_
  replace hN : C.N = 88 := hN
  simp only [argEnv, reduceAdd]
  refine awp_seq_k fun K1 hK1 => ?_
  refine awp_reg hP hN rfl ?_
  iterate 6 (refine rg_step rfl fun K0 hK0 => ?_; simp only [zE, op1, ev, lkp, avOf, acOf, opBox, cellsAV, reduceCtorEq, reduceEqDiff, reduceAdd, reduceLeDiff, reduceLT, reduceMul, reduceSub, Try.el25, Try.st24, Try.td24, Try.td25, Try.td3, Try.td4, Mly.av]; (repeat refine And.intro (by first | omega | assumption | exact rfl) ?_); (first | refine hK0 _ ?_ | refine Or.inl (hK0 _ ?_)); clear hK0 K0; simp only [put, app, setAll, trOf, zE, zS, reduceAdd])
  refine rg_nil ?_
  refine hK1 _ ?_; clear hK1; refine awp_keep [0, 1, 2, 4, 5, 6, 7, 8] ?_; simp only [keepEnv, lkp, zE, reduceCtorEq, reduceEqDiff, argEnv, reduceAdd]
  refine awp_seq_k fun K2 hK2 => ?_
  refine awp_reg hP hN rfl ?_
  (refine rg_step rfl fun K0 hK0 => ?_; simp only [zE, op1, ev, lkp, avOf, acOf, opLoad, Nat.mul_one, readAC, isAggK, acs, Ty.dflt, zG, cellsAt, reduceCtorEq, reduceEqDiff, reduceAdd, reduceLeDiff, reduceLT, reduceMul, reduceSub, Try.st24, Try.td24, Mly.av]; (repeat refine And.intro (by first | omega | assumption | exact rfl) ?_); (first | refine hK0 _ ?_ | refine Or.inl (hK0 _ ?_)); clear hK0 K0; simp only [put, app, setAll, trOf, zE, zS, reduceAdd])
  refine rg_step rfl fun K0 hK0 => ?_
  refine op_call (h := call_of_pure (access_c m hm)) rfl rfl (by first | exact rfl | (simp only [ev, keepEnv, lkp, zE, reduceCtorEq, reduceEqDiff, argEnv, reduceAdd]; exact rfl)) (by simp only [zE, zG, op1, ev, lkp, avOf, acOf, cellsAV, acs, capAV, mv1, mvC, Ty.dflt, reduceCtorEq, reduceEqDiff, reduceAdd, reduceLeDiff, reduceLT, reduceMul, reduceSub, Mly.av]) ?_
  refine hK0 _ ?_; clear hK0 K0; simp only [put, app, setAll, trOf, zE, zS, reduceAdd]
  iterate 5 (refine rg_step rfl fun K0 hK0 => ?_; simp only [zE, op1, ev, lkp, avOf, acOf, opExtract, reduceCtorEq, reduceEqDiff, reduceAdd, reduceLeDiff, reduceLT, reduceMul, reduceSub, Try.el22, Try.el25, Try.td1, Try.td22, Try.td25, Mly.av]; (repeat refine And.intro (by first | omega | assumption | exact rfl) ?_); (first | refine hK0 _ ?_ | refine Or.inl (hK0 _ ?_)); clear hK0 K0; simp only [put, app, setAll, trOf, zE, zS, reduceAdd])
  refine rg_nil ?_
  refine hK2 _ ?_; clear hK2; refine awp_keep [0, 1, 2, 4, 5, 6, 7, 8, 9, 10] ?_; simp only [keepEnv, lkp, zE, reduceCtorEq, reduceEqDiff, argEnv, reduceAdd]
  refine awp_seq_k fun K3 hK3 => ?_
  refine awp_seq_k fun K4 hK4 => ?_
  refine awp_reg hP hN rfl ?_
  (refine rg_step rfl fun K0 hK0 => ?_; simp only [zE, op1, ev, lkp, avOf, acOf, ev, reduceCtorEq, reduceEqDiff, reduceAdd, reduceLeDiff, reduceLT, reduceMul, reduceSub, Try.td3, Mly.av]; (repeat refine And.intro (by first | omega | assumption | exact rfl) ?_); (first | refine hK0 _ ?_ | refine Or.inl (hK0 _ ?_)); clear hK0 K0; simp only [put, app, setAll, trOf, zE, zS, reduceAdd])
  refine rg_nil ?_
  refine hK4 _ ?_; clear hK4; refine awp_keep [0, 1, 2, 4, 5, 6, 7, 8, 9, 10, 11] ?_; simp only [keepEnv, lkp, zE, reduceCtorEq, reduceEqDiff, argEnv, reduceAdd]
  refine awp_block ?_
  refine awp_loop (fun n5 s5 => ∃ (i : Nat), (i ≤ m.exR.length) ∧ (∀ q, q < i → finC m cl (m.exR.getD q eX0).1 = none) ∧ n5 = m.exR.length - i ∧ s5 = { env := [(1, .one (.list (.int .i64) cl)), (2, .one (.ptr 0 0 0 0)), (9, .one (.list (.int .i64) (fstX m.exR))), (10, .one (.list (.list (.int .i64)) (sndX m.exR))), (11, .one (.int .i64 (i : Int)))], L := [.vars 24 [.int .i64 m.inp, .int .i64 m.st, .list (.list (.int .i64)) m.nx, .list (.list (.int .i64)) m.ot]] }) ?_ ?_
  · exact ⟨_, _, sub_keep [1, 2, 9, 10, 11], 0, Nat.zero_le _, fun q hq => by omega, rfl, rfl⟩
  · rintro n5 s5 ⟨i, hi, hqi, rfl, rfl⟩
    refine awp_seq_k fun K6 hK6 => ?_
    refine awp_seq_k fun K7 hK7 => ?_
    refine awp_reg hP hN rfl ?_
    iterate 4 (refine rg_step rfl fun K0 hK0 => ?_; simp only [zE, op1, ev, lkp, avOf, acOf, opCallAny, opMM, opLen, lenAC, lenOk, fpAC, Nat.div_one, opAppend, srcOf, Ty.size, datOf, dite_true, opBin, arith, inK_i64, eqACs, eqAC, reduceCtorEq, reduceEqDiff, reduceAdd, reduceLeDiff, reduceLT, reduceMul, reduceSub, Try.el25, Try.td25, Try.td3, Try.td4, Mly.av]; (repeat refine And.intro (by first | omega | assumption | exact rfl) ?_); (first | refine hK0 _ ?_ | refine Or.inl (hK0 _ ?_)); clear hK0 K0; simp only [put, app, setAll, trOf, zE, zS, reduceAdd])
    refine rg_nil ?_
    refine hK7 _ ?_; clear hK7; refine awp_keep [1, 2, 9, 10, 11, 24] ?_; simp only [keepEnv, lkp, zE, reduceCtorEq, reduceEqDiff, argEnv, reduceAdd]
    refine awp_cond (by simp only [ev, keepEnv, lkp, zE, reduceCtorEq, reduceEqDiff, argEnv, reduceAdd]; exact rfl) (fun hc8 => ?_) (fun hc8 => ?_)
    · (try simp only [zB, reduceCtorEq] at hc8)
      refine awp_skip ?_
      refine hK6 _ ?_; clear hK6; refine awp_keep [1, 2, 9, 10, 11, 24] ?_; simp only [keepEnv, lkp, zE, reduceCtorEq, reduceEqDiff, argEnv, reduceAdd]
      refine awp_seq_k fun K9 hK9 => ?_
      refine awp_block ?_
      refine awp_seq_k fun K10 hK10 => ?_
      refine awp_reg hP hN rfl ?_
      (refine rg_step rfl fun K0 hK0 => ?_; simp only [zE, op1, ev, lkp, avOf, acOf, ev, reduceCtorEq, reduceEqDiff, reduceAdd, reduceLeDiff, reduceLT, reduceMul, reduceSub, Try.td3, Mly.av]; (repeat refine And.intro (by first | omega | assumption | exact rfl) ?_); (first | refine hK0 _ ?_ | refine Or.inl (hK0 _ ?_)); clear hK0 K0; simp only [put, app, setAll, trOf, zE, zS, reduceAdd])
      refine rg_nil ?_
      refine hK10 _ ?_; clear hK10; refine awp_keep [1, 2, 9, 10, 11, 12, 24] ?_; simp only [keepEnv, lkp, zE, reduceCtorEq, reduceEqDiff, argEnv, reduceAdd]
      refine awp_block ?_
      refine awp_loop (fun n11 s11 => ∃ (c : Nat), (c ≤ cl.length) ∧ (∀ q, q < c → finD m cl (m.exR.getD i eX0).1 q = none) ∧ n11 = cl.length - c ∧ s11 = { env := [(1, .one (.list (.int .i64) cl)), (2, .one (.ptr 0 0 0 0)), (9, .one (.list (.int .i64) (fstX m.exR))), (10, .one (.list (.list (.int .i64)) (sndX m.exR))), (11, .one (.int .i64 (i : Int))), (12, .one (.int .i64 (c : Int)))], L := [.vars 24 [.int .i64 m.inp, .int .i64 m.st, .list (.list (.int .i64)) m.nx, .list (.list (.int .i64)) m.ot]] }) ?_ ?_
      · exact ⟨_, _, sub_keep [1, 2, 9, 10, 11, 12], 0, Nat.zero_le _, fun q hq => by omega, rfl, rfl⟩
      · rintro n11 s11 ⟨c, hcl, hqc, rfl, rfl⟩
        refine awp_seq_k fun K12 hK12 => ?_
        refine awp_seq_k fun K13 hK13 => ?_
        refine awp_reg hP hN rfl ?_
        iterate 4 (refine rg_step rfl fun K0 hK0 => ?_; simp only [zE, op1, ev, lkp, avOf, acOf, opFieldAddr, opLoad, Nat.mul_one, readAC, isAggK, acs, Ty.dflt, zG, cellsAt, opBin, arith, inK_i64, eqACs, eqAC, reduceCtorEq, reduceEqDiff, reduceAdd, reduceLeDiff, reduceLT, reduceMul, reduceSub, Try.st24, Try.td24, Try.td3, Try.td4, Mly.av]; (repeat refine And.intro (by first | omega | assumption | exact rfl) ?_); (first | refine hK0 _ ?_ | refine Or.inl (hK0 _ ?_)); clear hK0 K0; simp only [put, app, setAll, trOf, zE, zS, reduceAdd])
        refine rg_nil ?_
        refine hK13 _ ?_; clear hK13; refine awp_keep [1, 2, 9, 10, 11, 12, 30] ?_; simp only [keepEnv, lkp, zE, reduceCtorEq, reduceEqDiff, argEnv, reduceAdd]
        refine awp_cond (by simp only [ev, keepEnv, lkp, zE, reduceCtorEq, reduceEqDiff, argEnv, reduceAdd]; exact rfl) (fun hc14 => ?_) (fun hc14 => ?_)
        · (try simp only [zB, reduceCtorEq] at hc14)
          refine awp_skip ?_
          refine hK12 _ ?_; clear hK12; refine awp_keep [1, 2, 9, 10, 11, 12, 30] ?_; simp only [keepEnv, lkp, zE, reduceCtorEq, reduceEqDiff, argEnv, reduceAdd]
          refine awp_seq_k fun K15 hK15 => ?_
          refine awp_block ?_
          refine awp_seq_k fun K16 hK16 => ?_
          refine awp_reg hP hN rfl ?_
          iterate 3 (refine rg_step rfl fun K0 hK0 => ?_; simp only [zE, op1, ev, lkp, avOf, acOf, opBin, arith, inK_i64, eqACs, eqAC, reduceCtorEq, reduceEqDiff, reduceAdd, reduceLeDiff, reduceLT, reduceMul, reduceSub, Try.td3, Mly.av]; (repeat refine And.intro (by first | omega | assumption | exact rfl) ?_); (first | refine hK0 _ ?_ | refine Or.inl (hK0 _ ?_)); clear hK0 K0; simp only [put, app, setAll, trOf, zE, zS, reduceAdd])
          refine rg_nil ?_
          refine hK16 _ ?_; clear hK16; refine awp_keep [1, 2, 9, 10, 11, 12, 13, 30] ?_; simp only [keepEnv, lkp, zE, reduceCtorEq, reduceEqDiff, argEnv, reduceAdd]
          refine awp_block ?_
          refine awp_loop (fun n17 s17 => ∃ (d : Nat), (c < d) ∧ (d ≤ cl.length) ∧ (∀ q, c < q → q < d → parS m cl (m.exR.getD i eX0).1 c q = false) ∧ n17 = cl.length - d ∧ s17 = { env := [(1, .one (.list (.int .i64) cl)), (2, .one (.ptr 0 0 0 0)), (9, .one (.list (.int .i64) (fstX m.exR))), (10, .one (.list (.list (.int .i64)) (sndX m.exR))), (11, .one (.int .i64 (i : Int))), (12, .one (.int .i64 (c : Int))), (13, .one (.int .i64 (d : Int)))], L := [.vars 24 [.int .i64 m.inp, .int .i64 m.st, .list (.list (.int .i64)) m.nx, .list (.list (.int .i64)) m.ot]] }) ?_ ?_
          · exact ⟨_, _, sub_keep [1, 2, 9, 10, 11, 12, 13], c + 1, by omega, by omega, fun q h1 h2 => by omega, rfl, rfl⟩
          · rintro n17 s17 ⟨d, hcd, hdl, hqd, rfl, rfl⟩
            refine awp_seq_k fun K18 hK18 => ?_
            refine awp_seq_k fun K19 hK19 => ?_
            refine awp_reg hP hN rfl ?_
            iterate 4 (refine rg_step rfl fun K0 hK0 => ?_; simp only [zE, op1, ev, lkp, avOf, acOf, opFieldAddr, opLoad, Nat.mul_one, readAC, isAggK, acs, Ty.dflt, zG, cellsAt, opBin, arith, inK_i64, eqACs, eqAC, reduceCtorEq, reduceEqDiff, reduceAdd, reduceLeDiff, reduceLT, reduceMul, reduceSub, Try.st24, Try.td24, Try.td3, Try.td4, Mly.av]; (repeat refine And.intro (by first | omega | assumption | exact rfl) ?_); (first | refine hK0 _ ?_ | refine Or.inl (hK0 _ ?_)); clear hK0 K0; simp only [put, app, setAll, trOf, zE, zS, reduceAdd])
            refine rg_nil ?_
            refine hK19 _ ?_; clear hK19; refine awp_keep [1, 2, 9, 10, 11, 12, 13, 38] ?_; simp only [keepEnv, lkp, zE, reduceCtorEq, reduceEqDiff, argEnv, reduceAdd]
            refine awp_cond (by simp only [ev, keepEnv, lkp, zE, reduceCtorEq, reduceEqDiff, argEnv, reduceAdd]; exact rfl) (fun hc20 => ?_) (fun hc20 => ?_)
            · (try simp only [zB, reduceCtorEq] at hc20)
              refine awp_skip ?_
              refine hK18 _ ?_; clear hK18; refine awp_keep [1, 2, 9, 10, 11, 12, 13, 38] ?_; simp only [keepEnv, lkp, zE, reduceCtorEq, reduceEqDiff, argEnv, reduceAdd]
              refine awp_seq_k fun K21 hK21 => ?_
              refine awp_block ?_
              refine awp_seq_k fun K22 hK22 => ?_
              refine awp_seq_k fun K23 hK23 => ?_
              refine awp_drw hP hN Try.mixed rfl ?_
              iterate 9 (refine rg_step rfl fun K0 hK0 => ?_; simp only [zE, op1, ev, lkp, avOf, acOf, opIndexAddr, zG, Ty.dflt, Ty.size, Nat.mul_one, ne_eq, not_false_eq_true, Int.natCast_one, Int.mul_one, opLoad, readAC, isAggK, acs, cellsAt, opBin, arith, inK_i64, eqACs, eqAC, reduceCtorEq, reduceEqDiff, reduceAdd, reduceLeDiff, reduceLT, reduceMul, reduceSub, Try.el25, Try.td25, Try.td3, Try.td4, Mly.av]; (repeat refine And.intro (by first | omega | assumption | exact rfl) ?_); (first | refine hK0 _ ?_ | refine Or.inl (hK0 _ ?_)); clear hK0 K0; simp only [put, app, setAll, trOf, zE, zS, reduceAdd])
              refine rg_nil ?_
              refine ⟨by kernel_rfl, ?_⟩
              refine hK23 _ ?_; clear hK23; refine awp_keep [1, 2, 9, 10, 11, 12, 13, 38, 49] ?_; simp only [keepEnv, lkp, zE, reduceCtorEq, reduceEqDiff, argEnv, reduceAdd]
              refine awp_cond (by simp only [ev, keepEnv, lkp, zE, reduceCtorEq, reduceEqDiff, argEnv, reduceAdd]; exact rfl) (fun hc24 => ?_) (fun hc24 => ?_)
              · (try simp only [zB, reduceCtorEq] at hc24)
                refine awp_exit ?_
                refine hK21 _ ?_; clear hK21; refine awp_keep [1, 2, 9, 10, 11, 12, 13, 38, 49] ?_; simp only [keepEnv, lkp, zE, reduceCtorEq, reduceEqDiff, argEnv, reduceAdd]
                refine awp_reg hP hN rfl ?_
                iterate 3 (refine rg_step rfl fun K0 hK0 => ?_; simp only [zE, op1, ev, lkp, avOf, acOf, opBin, arith, inK_i64, eqACs, eqAC, reduceCtorEq, reduceEqDiff, reduceAdd, reduceLeDiff, reduceLT, reduceMul, reduceSub, Try.td3, Mly.av]; (repeat refine And.intro (by first | omega | assumption | exact rfl) ?_); (first | refine hK0 _ ?_ | refine Or.inl (hK0 _ ?_)); clear hK0 K0; simp only [put, app, setAll, trOf, zE, zS, reduceAdd])
                refine rg_nil ?_
                have hp : parS m cl (m.exR.getD i eX0).1 c d = false := by
                  by_cases h1 : cl.getD c 0 = cl.getD d 0 <;> cases h2 : agrS m (m.exR.getD i eX0).1 c d <;> simp_all [parS]
                refine ⟨_, _, ?_, sub_keep [1, 2, 9, 10, 11, 12, 13], d + 1, by omega, by omega, fun q h1 h2 => ?_, rfl, rfl⟩
                · omega
                · by_cases e : q = d
                  · rw [e]; exact hp
                  · exact hqd q h1 (by omega)
              · (try simp only [zB, reduceCtorEq] at hc24)
                refine awp_skip ?_
                refine hK22 _ ?_; clear hK22; refine awp_keep [1, 2, 9, 10, 11, 12, 13, 38, 49] ?_; simp only [keepEnv, lkp, zE, reduceCtorEq, reduceEqDiff, argEnv, reduceAdd]
                refine awp_seq_k fun K25 hK25 => ?_
                have hgx := fstX_at (l := m.exR) (i := i) (by omega)
                refine awp_drw hP hN Try.mixed rfl ?_
                iterate 7 (refine rg_step rfl fun K0 hK0 => ?_; simp only [zE, op1, ev, lkp, avOf, acOf, opLoad, Nat.mul_one, readAC, isAggK, acs, Ty.dflt, zG, cellsAt, opIndexAddr, Ty.size, ne_eq, not_false_eq_true, Int.natCast_one, Int.mul_one, reduceCtorEq, reduceEqDiff, reduceAdd, reduceLeDiff, reduceLT, reduceMul, reduceSub, Try.el25, Try.st24, Try.td24, Try.td25, Try.td3, Mly.av, hgx]; (repeat refine And.intro (by first | omega | assumption | exact rfl) ?_); (first | refine hK0 _ ?_ | refine Or.inl (hK0 _ ?_)); clear hK0 K0; simp only [put, app, setAll, trOf, zE, zS, reduceAdd])
                refine rg_step rfl fun K0 hK0 => ?_
                refine op_call (h := call_of_pure (parting_c m (m.exR.getD i eX0).1 c d hm (hwx.at_ (by omega)) (by omega) (by omega))) rfl rfl (by first | exact rfl | (simp only [ev, keepEnv, lkp, zE, reduceCtorEq, reduceEqDiff, argEnv, reduceAdd]; exact rfl)) (by simp only [zE, zG, op1, ev, lkp, avOf, acOf, cellsAV, acs, capAV, mv1, mvC, Ty.dflt, reduceCtorEq, reduceEqDiff, reduceAdd, reduceLeDiff, reduceLT, reduceMul, reduceSub, Mly.av, hgx]) ?_
                refine hK0 _ ?_; clear hK0 K0; simp only [put, app, setAll, trOf, zE, zS, reduceAdd]
                iterate 5 (refine rg_step rfl fun K0 hK0 => ?_; simp only [zE, op1, ev, lkp, avOf, acOf, opExtract, reduceCtorEq, reduceEqDiff, reduceAdd, reduceLeDiff, reduceLT, reduceMul, reduceSub, Try.el25, Try.td1, Try.td25, Try.td4, Mly.av, hgx]; (repeat refine And.intro (by first | omega | assumption | exact rfl) ?_); (first | refine hK0 _ ?_ | refine Or.inl (hK0 _ ?_)); clear hK0 K0; simp only [put, app, setAll, trOf, zE, zS, reduceAdd])
                refine rg_nil ?_
                refine ⟨by kernel_rfl, ?_⟩
                refine hK25 _ ?_; clear hK25; refine awp_keep [1, 2, 9, 10, 11, 12, 13, 14, 15, 38, 49] ?_; simp only [keepEnv, lkp, zE, reduceCtorEq, reduceEqDiff, argEnv, reduceAdd]
                refine awp_seq_k fun K26 hK26 => ?_
                refine awp_reg hP hN rfl ?_
                (refine rg_step rfl fun K0 hK0 => ?_; simp only [zE, op1, ev, lkp, avOf, acOf, ev, reduceCtorEq, reduceEqDiff, reduceAdd, reduceLeDiff, reduceLT, reduceMul, reduceSub, Try.td4, Mly.av]; (repeat refine And.intro (by first | omega | assumption | exact rfl) ?_); (first | refine hK0 _ ?_ | refine Or.inl (hK0 _ ?_)); clear hK0 K0; simp only [put, app, setAll, trOf, zE, zS, reduceAdd])
                refine rg_nil ?_
                refine hK26 _ ?_; clear hK26; refine awp_keep [1, 2, 9, 10, 11, 12, 13, 14, 15, 38, 49, 61] ?_; simp only [keepEnv, lkp, zE, reduceCtorEq, reduceEqDiff, argEnv, reduceAdd]
                refine awp_cond (by simp only [ev, keepEnv, lkp, zE, reduceCtorEq, reduceEqDiff, argEnv, reduceAdd]; exact rfl) (fun hc27 => ?_) (fun hc27 => ?_)
                · (try simp only [zB, reduceCtorEq] at hc27)
                  refine awp_seq_k fun K28 hK28 => ?_
                  have hgs := sndX_at (l := m.exR) (i := i) (by omega); have hwl := hwx.wl _ (mem_X (l := m.exR) (i := i) (by omega)); have hpl := parW_len hm (hwx.at_ (l := m.exR) (i := i) (by omega)) (c := c) (d := d) (by omega) (by omega)
                  refine awp_drw hP hN Try.mixed rfl ?_
                  iterate 16 (refine rg_step rfl fun K0 hK0 => ?_; simp only [zE, op1, ev, lkp, avOf, acOf, opIndexAddr, zG, Ty.dflt, Ty.size, Nat.mul_one, ne_eq, not_false_eq_true, Int.natCast_one, Int.mul_one, opLoad, readAC, isAggK, acs, cellsAt, opBuildSlice, fillAC, chunk, rep, datOf, writeAC, cellsAV, reduceCtorEq, reduceEqDiff, reduceAdd, reduceLeDiff, reduceLT, reduceMul, reduceSub, Try.el22, Try.el25, Try.td1, Try.td22, Try.td25, Try.td3, Mly.av, hgx, hgs, sndX_len, fstX_len]; (repeat refine And.intro (by first | omega | assumption | exact rfl) ?_); (first | refine hK0 _ ?_ | refine Or.inl (hK0 _ ?_)); clear hK0 K0; simp only [put, app, setAll, trOf, zE, zS, reduceAdd])
                  refine rg_step rfl fun K0 hK0 => ?_
                  refine op_call (h := call_of_pure (join_c [(m.exR.getD i eX0).2, [(c : Int)], parW m (m.exR.getD i eX0).1 c d] (by have hq1 := hwl; have hq2 := hpl; revert hq1 hq2; simp; omega))) rfl rfl (by first | exact rfl | (simp only [ev, keepEnv, lkp, zE, reduceCtorEq, reduceEqDiff, argEnv, reduceAdd]; exact rfl)) (by simp only [zE, zG, op1, ev, lkp, avOf, acOf, cellsAV, acs, capAV, mv1, mvC, Ty.dflt, reduceCtorEq, reduceEqDiff, reduceAdd, reduceLeDiff, reduceLT, reduceMul, reduceSub, Mly.av, hgx, hgs, sndX_len, fstX_len]) ?_
                  refine hK0 _ ?_; clear hK0 K0; simp only [put, app, setAll, trOf, zE, zS, reduceAdd]
                  iterate 8 (refine rg_step rfl fun K0 hK0 => ?_; simp only [zE, op1, ev, lkp, avOf, acOf, opIndexAddr, zG, Ty.dflt, Ty.size, Nat.mul_one, ne_eq, not_false_eq_true, Int.natCast_one, Int.mul_one, opLoad, readAC, isAggK, acs, cellsAt, opBuildSlice, fillAC, chunk, rep, datOf, writeAC, cellsAV, reduceCtorEq, reduceEqDiff, reduceAdd, reduceLeDiff, reduceLT, reduceMul, reduceSub, Try.el22, Try.el25, Try.td1, Try.td22, Try.td25, Try.td3, Mly.av, hgx, hgs, sndX_len, fstX_len]; (repeat refine And.intro (by first | omega | assumption | exact rfl) ?_); (first | refine hK0 _ ?_ | refine Or.inl (hK0 _ ?_)); clear hK0 K0; simp only [put, app, setAll, trOf, zE, zS, reduceAdd])
                  refine rg_step rfl fun K0 hK0 => ?_
                  refine op_call (h := call_of_pure (join_c [(m.exR.getD i eX0).2, [(d : Int)], parW m (m.exR.getD i eX0).1 c d] (by have hq1 := hwl; have hq2 := hpl; revert hq1 hq2; simp; omega))) rfl rfl (by first | exact rfl | (simp only [ev, keepEnv, lkp, zE, reduceCtorEq, reduceEqDiff, argEnv, reduceAdd]; exact rfl)) (by simp only [zE, zG, op1, ev, lkp, avOf, acOf, cellsAV, acs, capAV, mv1, mvC, Ty.dflt, reduceCtorEq, reduceEqDiff, reduceAdd, reduceLeDiff, reduceLT, reduceMul, reduceSub, Mly.av, hgx, hgs, sndX_len, fstX_len]) ?_
                  refine hK0 _ ?_; clear hK0 K0; simp only [put, app, setAll, trOf, zE, zS, reduceAdd]
                  iterate 5 (refine rg_step rfl fun K0 hK0 => ?_; simp only [zE, op1, ev, lkp, avOf, acOf, ev, reduceCtorEq, reduceEqDiff, reduceAdd, reduceLeDiff, reduceLT, reduceMul, reduceSub, Try.el25, Try.td25, Try.td3, Try.td4, Mly.av, hgx, hgs, sndX_len, fstX_len]; (repeat refine And.intro (by first | omega | assumption | exact rfl) ?_); (first | refine hK0 _ ?_ | refine Or.inl (hK0 _ ?_)); clear hK0 K0; simp only [put, app, setAll, trOf, zE, zS, reduceAdd])
                  refine rg_nil ?_
                  refine ⟨by kernel_rfl, ?_⟩
                  refine hK28 _ ?_; clear hK28; refine awp_keep [1, 2, 4, 5, 6, 7, 8, 9, 10, 11, 12, 13, 14, 15, 38, 49, 61] ?_; simp only [keepEnv, lkp, zE, reduceCtorEq, reduceEqDiff, argEnv, reduceAdd]
                  refine awp_ret ?_
                  refine ⟨by first | exact .inl rfl | exact .inr rfl, _, rfl, ?_⟩; simp only [fzV, fz1, fzC, List.map_cons, List.map_nil, keepEnv, lkp, zE, reduceCtorEq, reduceEqDiff, argEnv, reduceAdd, Mly.av]
                  first
                  | (have hp : parS m cl (m.exR.getD i eX0).1 c d = true := by simp_all [parS]
                     have e1 := finD_some (by omega) (by omega) hp hqd
                     have e2 : finC m cl (m.exR.getD i eX0).1 = some (c, d) := fsome (k := c) (by omega) (fun q hq => by rw [hqc q hq]; rfl) (by rw [e1]; rfl)
                     have e3 : finI m cl = some (i, c, d) := fsome (k := i) (by omega) (fun q hq => by rw [hqi q hq]; rfl) (by rw [e2]; rfl)
                     rw [e3]; refine VLE.of_eq ?_; simp)
                  | (have e3 : finI m cl = none := fnone fun q hq => by rw [hqi q (by omega)]; rfl
                     rw [e3]; exact vle_tup ⟨vle1_one (.refl _), vle1_one (.refl _), vle1_one (cle_nils rfl), vle1_one (cle_nils rfl), vle1_one (.refl _), trivial⟩)
                · (try simp only [zB, reduceCtorEq] at hc27)
                  refine awp_skip ?_
                  refine hK21 _ ?_; clear hK21; refine awp_keep [1, 2, 9, 10, 11, 12, 13, 14, 15, 38, 49, 61] ?_; simp only [keepEnv, lkp, zE, reduceCtorEq, reduceEqDiff, argEnv, reduceAdd]
                  refine awp_reg hP hN rfl ?_
                  iterate 3 (refine rg_step rfl fun K0 hK0 => ?_; simp only [zE, op1, ev, lkp, avOf, acOf, opBin, arith, inK_i64, eqACs, eqAC, reduceCtorEq, reduceEqDiff, reduceAdd, reduceLeDiff, reduceLT, reduceMul, reduceSub, Try.td3, Mly.av]; (repeat refine And.intro (by first | omega | assumption | exact rfl) ?_); (first | refine hK0 _ ?_ | refine Or.inl (hK0 _ ?_)); clear hK0 K0; simp only [put, app, setAll, trOf, zE, zS, reduceAdd])
                  refine rg_nil ?_
                  have hp : parS m cl (m.exR.getD i eX0).1 c d = false := by
                    by_cases h1 : cl.getD c 0 = cl.getD d 0 <;> cases h2 : agrS m (m.exR.getD i eX0).1 c d <;> simp_all [parS]
                  refine ⟨_, _, ?_, sub_keep [1, 2, 9, 10, 11, 12, 13], d + 1, by omega, by omega, fun q h1 h2 => ?_, rfl, rfl⟩
                  · omega
                  · by_cases e : q = d
                    · rw [e]; exact hp
                    · exact hqd q h1 (by omega)
            · (try simp only [zB, reduceCtorEq] at hc20)
              refine awp_exit ?_
              refine hK15 _ ?_; clear hK15; refine awp_keep [1, 2, 9, 10, 11, 12, 13, 38] ?_; simp only [keepEnv, lkp, zE, reduceCtorEq, reduceEqDiff, argEnv, reduceAdd]
              refine awp_reg hP hN rfl ?_
              iterate 3 (refine rg_step rfl fun K0 hK0 => ?_; simp only [zE, op1, ev, lkp, avOf, acOf, opBin, arith, inK_i64, eqACs, eqAC, reduceCtorEq, reduceEqDiff, reduceAdd, reduceLeDiff, reduceLT, reduceMul, reduceSub, Try.td3, Mly.av]; (repeat refine And.intro (by first | omega | assumption | exact rfl) ?_); (first | refine hK0 _ ?_ | refine Or.inl (hK0 _ ?_)); clear hK0 K0; simp only [put, app, setAll, trOf, zE, zS, reduceAdd])
              refine rg_nil ?_
              refine ⟨_, _, ?_, sub_keep [1, 2, 9, 10, 11, 12], c + 1, by omega, fun q hq => ?_, rfl, rfl⟩
              · omega
              · by_cases e : q = c
                · rw [e]; exact finD_none fun q2 h1 h2 => hqd q2 h1 (by omega)
                · exact hqc q (by omega)
        · (try simp only [zB, reduceCtorEq] at hc14)
          refine awp_exit ?_
          refine hK9 _ ?_; clear hK9; refine awp_keep [1, 2, 9, 10, 11, 12, 30] ?_; simp only [keepEnv, lkp, zE, reduceCtorEq, reduceEqDiff, argEnv, reduceAdd]
          refine awp_reg hP hN rfl ?_
          iterate 3 (refine rg_step rfl fun K0 hK0 => ?_; simp only [zE, op1, ev, lkp, avOf, acOf, opBin, arith, inK_i64, eqACs, eqAC, reduceCtorEq, reduceEqDiff, reduceAdd, reduceLeDiff, reduceLT, reduceMul, reduceSub, Try.td3, Mly.av]; (repeat refine And.intro (by first | omega | assumption | exact rfl) ?_); (first | refine hK0 _ ?_ | refine Or.inl (hK0 _ ?_)); clear hK0 K0; simp only [put, app, setAll, trOf, zE, zS, reduceAdd])
          refine rg_nil ?_
          refine ⟨_, _, ?_, sub_keep [1, 2, 9, 10, 11], i + 1, by omega, fun q hq => ?_, rfl, rfl⟩
          · omega
          · by_cases e : q = i
            · rw [e]; exact fnone fun c2 hc2 => by rw [hqc c2 (by omega)]; rfl
            · exact hqi q (by omega)
    · (try simp only [zB, reduceCtorEq] at hc8)
      refine awp_exit ?_
      refine hK3 _ ?_; clear hK3; refine awp_keep [1, 2, 9, 10, 11, 24] ?_; simp only [keepEnv, lkp, zE, reduceCtorEq, reduceEqDiff, argEnv, reduceAdd]
      refine awp_seq_k fun K29 hK29 => ?_
      refine awp_reg hP hN rfl ?_
      iterate 5 (refine rg_step rfl fun K0 hK0 => ?_; simp only [zE, op1, ev, lkp, avOf, acOf, ev, reduceCtorEq, reduceEqDiff, reduceAdd, reduceLeDiff, reduceLT, reduceMul, reduceSub, Try.el25, Try.td25, Try.td3, Try.td4, Mly.av]; (repeat refine And.intro (by first | omega | assumption | exact rfl) ?_); (first | refine hK0 _ ?_ | refine Or.inl (hK0 _ ?_)); clear hK0 K0; simp only [put, app, setAll, trOf, zE, zS, reduceAdd])
      refine rg_nil ?_
      refine hK29 _ ?_; clear hK29; refine awp_keep [1, 2, 4, 5, 6, 7, 8, 9, 10, 11, 24] ?_; simp only [keepEnv, lkp, zE, reduceCtorEq, reduceEqDiff, argEnv, reduceAdd]
      refine awp_ret ?_
      refine ⟨by first | exact .inl rfl | exact .inr rfl, _, rfl, ?_⟩; simp only [fzV, fz1, fzC, List.map_cons, List.map_nil, keepEnv, lkp, zE, reduceCtorEq, reduceEqDiff, argEnv, reduceAdd, Mly.av]
      first
      | (have hp : parS m cl (m.exR.getD i eX0).1 c d = true := by simp_all [parS]
         have e1 := finD_some (by omega) (by omega) hp hqd
         have e2 : finC m cl (m.exR.getD i eX0).1 = some (c, d) := fsome (k := c) (by omega) (fun q hq => by rw [hqc q hq]; rfl) (by rw [e1]; rfl)
         have e3 : finI m cl = some (i, c, d) := fsome (k := i) (by omega) (fun q hq => by rw [hqi q hq]; rfl) (by rw [e2]; rfl)
         rw [e3]; refine VLE.of_eq ?_; simp)
      | (have e3 : finI m cl = none := fnone fun q hq => by rw [hqi q (by omega)]; rfl
         rw [e3]; exact vle_tup ⟨vle1_one (.refl _), vle1_one (.refl _), vle1_one (cle_nils rfl), vle1_one (cle_nils rfl), vle1_one (.refl _), trivial⟩)
end Go.Proofs.Ytceafldjjedhcaa
namespace Go.Proofs.Ytceafldjjedhcaa
open Go Go.AV
open Nat (reduceEqDiff reduceAdd reduceLeDiff reduceLT reduceMul reduceSub)
open List (set_cons_zero set_cons_succ)
theorem find3_c (m : Mly) (cl : List Int) (hk : COK m cl) (r : Option (Nat × Nat × Nat)) (hr : finI m cl = r) : PURE Try.prog 31 [m.av, .one (.list (.int .i64) cl)] (.tup [.one (.int .i64 (fSt m r)), .one (.int .i64 (fKl cl r)), .one (.list (.int .i64) (wU m cl)), .one (.list (.int .i64) (wV m cl)), .one (.bool r.isSome)]) := by
  have h := find2_c m cl hk
  have hc : chkE m cl = 0 := by
    unfold chkE
    rw [if_neg (by simp [validE_of hk.ok]), if_neg (by simp [hk.ce]), if_pos hk.len]
  rw [hr] at h
  unfold wU wV
  rw [if_pos hc, if_pos hc, hr]
  cases r with
  | none => exact h
  | some p =>
    have e : wTl m p = parW m (m.exR.getD p.1 eX0).1 p.2.1 p.2.2 := rfl
    simp only [e]
    exact h

end Go.Proofs.Ytceafldjjedhcaa
namespace Go.Proofs.Ytceafldjjedhcaa
open Go Go.AV
open Nat (reduceEqDiff reduceAdd reduceLeDiff reduceLT reduceMul reduceSub)
open List (set_cons_zero set_cons_succ)
set_option maxRecDepth 100000 in
theorem joino_c (ls : List (List Int)) (hb : ls.flatten.length ≤ 1000000) : OWNS Try.prog 36 [.one (.list (.list (.int .i64)) ls)] (.int .i64) 3 (ls.flatten) := by
  refine owns_of_awp Try.func36 rfl (by kernel_rfl) (Nat.le_of_ble_eq_true rfl) rfl fun C hP hN hB => ?_
  replace hN : C.N = 18 := hN
  simp only [argEnv, reduceAdd]
  refine awp_fit 0 rfl fun hf0 => ?_; simp only [lkp, if_true, if_false, reduceCtorEq, reduceEqDiff, eq_self, Nat.one_ne_zero, Nat.zero_ne_one, fitV, fitC, fitL, Fit, and_true, implies_true, true_and] at hf0
  refine awp_seq_k fun K1 hK1 => ?_
  refine awp_reg hP hN rfl ?_
  (refine rg_step rfl fun K0 hK0 => ?_; simp only [zE, op1, ev, lkp, avOf, acOf, ev, reduceCtorEq, reduceEqDiff, reduceAdd, reduceLeDiff, reduceLT, reduceMul, reduceSub, Try.el25, Try.td25]; (repeat refine And.intro (by first | omega | assumption | exact rfl) ?_); (first | refine hK0 _ ?_ | refine Or.inl (hK0 _ ?_)); clear hK0 K0; simp only [put, app, setAll, trOf, zE, zS, reduceAdd])
  refine rg_nil ?_
  refine hK1 _ ?_; clear hK1; refine awp_keep [0, 2] ?_; simp only [keepEnv, lkp, zE, reduceCtorEq, reduceEqDiff, argEnv, reduceAdd]
  refine awp_seq_k fun K2 hK2 => ?_
  refine awp_reg hP hN rfl ?_
  (refine rg_step rfl fun K0 hK0 => ?_; simp only [zE, op1, ev, lkp, avOf, acOf, ev, reduceCtorEq, reduceEqDiff, reduceAdd, reduceLeDiff, reduceLT, reduceMul, reduceSub, Try.el25, Try.td25]; (repeat refine And.intro (by first | omega | assumption | exact rfl) ?_); (first | refine hK0 _ ?_ | refine Or.inl (hK0 _ ?_)); clear hK0 K0; simp only [put, app, setAll, trOf, zE, zS, reduceAdd])
  refine rg_nil ?_
  refine hK2 _ ?_; clear hK2; refine awp_keep [0, 2, 3] ?_; simp only [keepEnv, lkp, zE, reduceCtorEq, reduceEqDiff, argEnv, reduceAdd]
  refine awp_seq_k fun K3 hK3 => ?_
  refine awp_seq_k fun K4 hK4 => ?_
  refine awp_reg hP hN rfl ?_
  (refine rg_step rfl fun K0 hK0 => ?_; simp only [zE, op1, ev, lkp, avOf, acOf, ev, reduceCtorEq, reduceEqDiff, reduceAdd, reduceLeDiff, reduceLT, reduceMul, reduceSub, Try.td3]; (repeat refine And.intro (by first | omega | assumption | exact rfl) ?_); (first | refine hK0 _ ?_ | refine Or.inl (hK0 _ ?_)); clear hK0 K0; simp only [put, app, setAll, trOf, zE, zS, reduceAdd])
  refine rg_nil ?_
  refine hK4 _ ?_; clear hK4; refine awp_keep [0, 2, 3, 4] ?_; simp only [keepEnv, lkp, zE, reduceCtorEq, reduceEqDiff, argEnv, reduceAdd]
  refine awp_block ?_
  refine awp_own 3 (.int .i64) 3 (by decide) rfl ?_; simp only [List.length_cons, List.length_nil, List.cons_append, List.nil_append, Nat.zero_add, reduceAdd]
  refine awp_loop (fun n5 s5 => ∃ (k : Nat) (v : Nat), (k ≤ ls.length) ∧ n5 = ls.length - k ∧ s5 = { env := [(0, .one (.list (.list (.int .i64)) ls)), (3, .one (.row 0 v)), (4, .one (.int .i64 (k : Int)))], L := [.row (.int .i64) 3 v (ls.take k).flatten] }) ?_ ?_
  · exact ⟨_, _, sub_keep [0, 3, 4], 0, 0, Nat.zero_le _, rfl, rfl⟩
  · rintro n5 s5 ⟨k, v, hk, rfl, rfl⟩
    refine awp_seq_k fun K6 hK6 => ?_
    refine awp_seq_k fun K7 hK7 => ?_
    refine awp_reg hP hN rfl ?_
    iterate 4 (refine rg_step rfl fun K0 hK0 => ?_; simp only [zE, op1, ev, lkp, avOf, acOf, opCallAny, opMM, opLen, lenAC, lenOk, fpAC, Nat.div_one, opAppend, srcOf, Ty.size, datOf, dite_true, opBin, arith, inK_i64, eqACs, eqAC, reduceCtorEq, reduceEqDiff, reduceAdd, reduceLeDiff, reduceLT, reduceMul, reduceSub, Try.el22, Try.td22, Try.td3, Try.td4]; (repeat refine And.intro (by first | omega | assumption | exact rfl) ?_); (first | refine hK0 _ ?_ | refine Or.inl (hK0 _ ?_)); clear hK0 K0; simp only [put, app, setAll, trOf, zE, zS, reduceAdd])
    refine rg_nil ?_
    refine hK7 _ ?_; clear hK7; refine awp_keep [0, 3, 4, 8] ?_; simp only [keepEnv, lkp, zE, reduceCtorEq, reduceEqDiff, argEnv, reduceAdd]
    refine awp_cond (by simp only [ev, keepEnv, lkp, zE, reduceCtorEq, reduceEqDiff, argEnv, reduceAdd]; exact rfl) (fun hc8 => ?_) (fun hc8 => ?_)
    · (try simp only [zB, reduceCtorEq] at hc8)
      refine awp_skip ?_
      refine hK6 _ ?_; clear hK6; refine awp_keep [0, 3, 4, 8] ?_; simp only [keepEnv, lkp, zE, reduceCtorEq, reduceEqDiff, argEnv, reduceAdd]
      refine awp_seq_k fun K9 hK9 => ?_
      refine awp_block ?_
      have hfl := flat_take_le ls (k + 1); rw [flat_take_succ ls (by omega), List.length_append] at hfl
      refine awp_reg hP hN rfl ?_
      iterate 7 (refine rg_step rfl fun K0 hK0 => ?_; simp only [zE, op1, ev, lkp, avOf, acOf, opIndexAddr, zG, Ty.dflt, Ty.size, Nat.mul_one, ne_eq, not_false_eq_true, Int.natCast_one, Int.mul_one, opLoad, readAC, isAggK, acs, cellsAt, opCallAny, opMM, opLen, lenAC, lenOk, fpAC, Nat.div_one, opAppend, srcOf, datOf, dite_true, reduceCtorEq, reduceEqDiff, reduceAdd, reduceLeDiff, reduceLT, reduceMul, reduceSub, Try.el22, Try.el25, Try.td22, Try.td25, Try.td3]; (repeat refine And.intro (by first | omega | assumption | exact rfl) ?_); (first | refine hK0 _ ?_ | refine Or.inl (hK0 _ ?_)); clear hK0 K0; simp only [put, app, setAll, trOf, zE, zS, reduceAdd])
      refine rg_nil ?_
      refine hK9 _ ?_; clear hK9; refine awp_keep [0, 3, 4, 8] ?_; simp only [keepEnv, lkp, zE, reduceCtorEq, reduceEqDiff, argEnv, reduceAdd]
      refine awp_reg hP hN rfl ?_
      iterate 3 (refine rg_step rfl fun K0 hK0 => ?_; simp only [zE, op1, ev, lkp, avOf, acOf, opBin, arith, inK_i64, eqACs, eqAC, reduceCtorEq, reduceEqDiff, reduceAdd, reduceLeDiff, reduceLT, reduceMul, reduceSub, Try.td3]; (repeat refine And.intro (by first | omega | assumption | exact rfl) ?_); (first | refine hK0 _ ?_ | refine Or.inl (hK0 _ ?_)); clear hK0 K0; simp only [put, app, setAll, trOf, zE, zS, reduceAdd])
      refine rg_nil ?_
      refine ⟨_, _, ?_, sub_keep [0, 3, 4], k + 1, v + 1, by omega, rfl, ?_⟩
      · omega
      · rw [flat_take_succ ls (by omega)]; rfl
    · (try simp only [zB, reduceCtorEq] at hc8)
      refine awp_exit ?_
      refine hK3 _ ?_; clear hK3; refine awp_keep [0, 3, 4, 8] ?_; simp only [keepEnv, lkp, zE, reduceCtorEq, reduceEqDiff, argEnv, reduceAdd]
      refine awp_seq_k fun K10 hK10 => ?_
      refine awp_reg hP hN rfl ?_
      iterate 2 (refine rg_step rfl fun K0 hK0 => ?_; simp only [zE, op1, ev, lkp, avOf, acOf, ev, reduceCtorEq, reduceEqDiff, reduceAdd, reduceLeDiff, reduceLT, reduceMul, reduceSub, Try.el25, Try.td25]; (repeat refine And.intro (by first | omega | assumption | exact rfl) ?_); (first | refine hK0 _ ?_ | refine Or.inl (hK0 _ ?_)); clear hK0 K0; simp only [put, app, setAll, trOf, zE, zS, reduceAdd])
      refine rg_nil ?_
      refine hK10 _ ?_; clear hK10; refine awp_keep [0, 2, 3, 4, 8] ?_; simp only [keepEnv, lkp, zE, reduceCtorEq, reduceEqDiff, argEnv, reduceAdd]
      refine awp_ret ?_
      refine ⟨by first | exact .inl rfl | exact .inr rfl, _, rfl, _, _, rfl, ?_⟩
      have htk : ls.take k = ls := by rw [show k = ls.length by omega, List.take_length]
      rw [htk]; rfl
end Go.Proofs.Ytceafldjjedhcaa
namespace Go.AV
open Nat (reduceEqDiff reduceAdd reduceLeDiff reduceLT reduceMul reduceSub)
open List (set_cons_zero set_cons_succ)
/-plain-/
/-! ### numbers of classes: an equivalence, and the list that a least member gives -/
structure EQT (T : Nat → Nat → Bool) (n : Nat) : Prop where
  rf : ∀ a, a < n → T a a = true
  sy : ∀ a b, a < n → b < n → T a b = true → T b a = true
  tr : ∀ a b c, a < n → b < n → c < n → T a b = true → T b c = true → T a c = true
theorem nmS_congr {T U : Nat → Nat → Bool} : ∀ c, (∀ d q, d < q → q < c → T d q = U d q) → nmS T c = nmS U c
  | 0, _ => rfl
  | c + 1, h => by
    have ih := nmS_congr (T := T) (U := U) c fun d q h1 h2 => h d q h1 (by omega)
    have hr := (nmS_rng U c).2.2
    have he : idxB (fun d => T d.toNat c) (nmS T c).2 = idxB (fun d => U d.toNat c) (nmS U c).2 := by
      rw [ih]
      have : ∀ xs : List Int, (∀ x, x ∈ xs → 0 ≤ x ∧ x < (c : Int)) → xs.findIdx? (fun d => T d.toNat c) = xs.findIdx? (fun d => U d.toNat c) := by
        intro xs
        induction xs with
        | nil => intro _; rfl
        | cons y ys ihy =>
          intro hy
          have h1 := hy y (by simp)
          rw [List.findIdx?_cons, List.findIdx?_cons, ihy (fun x hx => hy x (by simp [hx])), h y.toNat c (by omega) (by omega)]
      unfold idxB
      rw [this _ hr]
    show (if _ then _ else _) = (if _ then _ else _)
    rw [he, ih]
structure NMP (T : Nat → Nat → Bool) (c : Nat) : Prop where
  at_ : ∀ q, q < c → 0 ≤ (nmS T c).1.getD q 0 ∧ (nmS T c).1.getD q 0 < (nmS T c).2.length ∧ T ((nmS T c).2.getD ((nmS T c).1.getD q 0).toNat 0).toNat q = true
  ap : ∀ x y, x < y → y < (nmS T c).2.length → T ((nmS T c).2.getD x 0).toNat ((nmS T c).2.getD y 0).toNat = false
theorem getD_left {xs ys : List Int} {i : Nat} (h : i < xs.length) : (xs ++ ys).getD i 0 = xs.getD i 0 := by simp [List.getD, List.getElem?_append_left h]
theorem getD_end {xs : List Int} {x : Int} {i : Nat} (h : i = xs.length) : (xs ++ [x]).getD i 0 = x := by subst h; simp [List.getD]
theorem idxB_hit {p : Int → Bool} {xs : List Int} (h : 0 ≤ idxB p xs) : idxB p xs < xs.length ∧ p (xs.getD (idxB p xs).toNat 0) = true ∧ ∀ q, q < (idxB p xs).toNat → p (xs.getD q 0) = false := by
  unfold idxB at h ⊢
  cases hf : xs.findIdx? p with
  | none => rw [hf] at h; simp at h
  | some k =>
    obtain ⟨h1, h2, h3⟩ := List.findIdx?_eq_some_iff_getElem.1 hf
    refine ⟨by simpa using h1, by simpa [List.getD, h1] using h2, fun q hq => ?_⟩
    have hq' : q < k := by simpa using hq
    have := h3 q hq'
    simpa [List.getD, Nat.lt_trans hq' h1] using this
theorem idxB_miss {p : Int → Bool} {xs : List Int} (h : idxB p xs < 0) : ∀ q, q < xs.length → p (xs.getD q 0) = false := by
  intro q hq
  unfold idxB at h
  cases hf : xs.findIdx? p with
  | some k => rw [hf] at h; simp at h; omega
  | none =>
    have := List.findIdx?_eq_none_iff.1 hf (xs.getD q 0) (getD_mem hq)
    simpa using this
theorem nmp {T : Nat → Nat → Bool} {n : Nat} (hT : EQT T n) : ∀ c, c ≤ n → NMP T c
  | 0, _ => ⟨fun q h => by omega, fun x y _ h => by simp [nmS] at h⟩
  | c + 1, hc => by
    have ih := nmp hT c (by omega)
    obtain ⟨r1, r2, r3⟩ := nmS_rng T c
    by_cases h : idxB (fun d => T d.toNat c) (nmS T c).2 < 0
    · have hm := idxB_miss h
      rw [show NMP T (c + 1) = NMP T (c + 1) from rfl]
      refine ⟨fun q hq => ?_, fun x y hxy hy => ?_⟩
      · rw [nmS_new h]
        simp only [List.length_append, List.length_cons, List.length_nil]
        by_cases e : q = c
        · rw [e, getD_end r1.symm, getD_end (by omega)]
          exact ⟨by omega, by omega, by simpa using hT.rf c (by omega)⟩
        · have := ih.at_ q (by omega)
          rw [getD_left (by omega), getD_left (by omega)]
          exact ⟨this.1, by omega, this.2.2⟩
      · rw [nmS_new h] at hy ⊢
        simp only [List.length_append, List.length_cons, List.length_nil] at hy
        by_cases e : y = (nmS T c).2.length
        · rw [getD_end e, getD_left (by omega)]
          simpa using hm x (by omega)
        · rw [getD_left (by omega), getD_left (by omega)]
          exact ih.ap x y hxy (by omega)
    · have hh := idxB_hit (p := fun d => T d.toNat c) (xs := (nmS T c).2) (by omega)
      refine ⟨fun q hq => ?_, fun x y hxy hy => ?_⟩
      · rw [nmS_old h]
        dsimp only
        by_cases e : q = c
        · rw [e, getD_end r1.symm]
          exact ⟨by omega, hh.1, hh.2.1⟩
        · rw [getD_left (by omega)]
          exact ih.at_ q (by omega)
      · rw [nmS_old h] at hy ⊢
        exact ih.ap x y hxy hy
theorem nm_old {T : Nat → Nat → Bool} {n c q : Nat} (hT : EQT T n) (hc : c < n) (hq : q < c) (h : T q c = true) : idxB (fun d => T d.toNat c) (nmS T c).2 = (nmS T c).1.getD q 0 := by
  have hp := nmp hT c (by omega)
  obtain ⟨r1, r2, r3⟩ := nmS_rng T c
  obtain ⟨a1, a2, a3⟩ := hp.at_ q hq
  have hm := r3 _ (getD_mem (w := (nmS T c).2) (i := ((nmS T c).1.getD q 0).toNat) (by omega))
  have h1 := hT.tr _ q c (by omega) (by omega) hc a3 h
  have := idxB_at (p := fun d => T d.toNat c) (xs := (nmS T c).2) (k := ((nmS T c).1.getD q 0).toNat) (by omega) (fun x hx => ?_) h1
  · rw [this]; omega
  · have hx3 := r3 _ (getD_mem (w := (nmS T c).2) (i := x) (by omega))
    have h2 := hp.ap x _ hx (by omega)
    cases hc2 : T ((nmS T c).2.getD x 0).toNat c with
    | false => rfl
    | true =>
      have := hT.tr _ c _ (by omega) hc (by omega) hc2 (hT.sy _ _ (by omega) hc h1)
      rw [h2] at this; cases this
theorem nm_new {T : Nat → Nat → Bool} {c : Nat} (h : ∀ q, q < c → T q c = false) : idxB (fun d => T d.toNat c) (nmS T c).2 = -1 := by
  obtain ⟨r1, r2, r3⟩ := nmS_rng T c
  refine idxB_none fun x hx => ?_
  have hx3 := r3 _ (getD_mem hx)
  exact h _ (by omega)
theorem cN_app {xs : List Int} {x : Int} : ∀ {k : Nat}, k ≤ xs.length → cN (xs ++ [x]) k = cN xs k
  | 0, _ => rfl
  | k + 1, h => by
    simp only [cN]
    rw [cN_app (k := k) (by omega), getD_left (by omega)]
theorem nm_cN (T : Nat → Nat → Bool) : ∀ c, cN (nmS T c).1 c = (nmS T c).2.length ∧ ∀ k, k < c → cBad (nmS T c).1 k = false
  | 0 => ⟨rfl, fun k h => by omega⟩
  | c + 1 => by
    obtain ⟨i1, i2⟩ := nm_cN T c
    obtain ⟨r1, r2, r3⟩ := nmS_rng T c
    have key : ∀ x : Int, 0 ≤ x → x ≤ (nmS T c).2.length → ∀ k, k < c + 1 → cBad ((nmS T c).1 ++ [x]) k = false := by
      intro x h0 h1 k hk
      by_cases e : k = c
      · subst e
        refine cBad_no (by rw [getD_end r1.symm]; exact h0) (by rw [getD_end r1.symm, cN_app (by omega), i1]; exact h1)
      · have := i2 k (by omega)
        unfold cBad at this ⊢
        rw [getD_left (by omega), cN_app (by omega)]; exact this
    by_cases h : idxB (fun d => T d.toNat c) (nmS T c).2 < 0
    · rw [nmS_new h]
      refine ⟨?_, key _ (by omega) (by omega)⟩
      simp only [cN, List.length_append, List.length_cons, List.length_nil]
      rw [cN_app (by omega), getD_end r1.symm, i1]; omega
    · have hb := idxB_lt (fun d => T d.toNat c) (nmS T c).2
      rw [nmS_old h]
      refine ⟨?_, key _ (by omega) (by omega)⟩
      simp only [cN]
      rw [cN_app (by omega), getD_end r1.symm, i1]; omega
theorem nm_cnt (T : Nat → Nat → Bool) {n : Nat} (h1 : 1 ≤ n) (h2 : n ≤ 64) : cntE (nmS T n).1 = 0 ∧ cntK (nmS T n).1 = (nmS T n).2.length := by
  obtain ⟨r1, _, _⟩ := nmS_rng T n
  obtain ⟨i1, i2⟩ := nm_cN T n
  have h0 : cntE (nmS T n).1 = 0 := cntE_ok (by omega) fun k hk => i2 k (by omega)
  refine ⟨h0, ?_⟩
  unfold cntK
  rw [if_pos h0, r1, i1]
def eqL (l : List Int) (d c : Nat) : Bool := decide (l.getD d 0 = l.getD c 0)
theorem eqL_eqt (l : List Int) (n : Nat) : EQT (eqL l) n :=
  ⟨fun a _ => by simp [eqL], fun a b _ _ h => by simp only [eqL, decide_eq_true_eq] at h ⊢; exact h.symm, fun a b c _ _ _ h g => by simp only [eqL, decide_eq_true_eq] at h g ⊢; exact h.trans g⟩
/-- The inner loop of the numbering. -/
def NKP (l : List Int) (i j : Nat) (k : Int) : Prop := (k = ((nmS (eqL l) i).2.length : Int) ∧ ∀ q, q < j → ¬ l.getD q 0 = l.getD i 0) ∨ ∃ q, q < j ∧ l.getD q 0 = l.getD i 0 ∧ k = (nmS (eqL l) i).1.getD q 0
theorem nkp_zero (l : List Int) (i : Nat) : NKP l i 0 ((nmS (eqL l) i).2.length : Int) := .inl ⟨rfl, fun q h => by omega⟩
theorem nkp_hit {l : List Int} {i j : Nat} (h : l.getD j 0 = l.getD i 0) : NKP l i (j + 1) ((nmS (eqL l) i).1.getD j 0) := .inr ⟨j, by omega, h, rfl⟩
theorem nkp_miss {l : List Int} {i j : Nat} {k : Int} (h0 : NKP l i j k) (h : ¬ l.getD j 0 = l.getD i 0) : NKP l i (j + 1) k := by
  rcases h0 with ⟨h1, h2⟩ | ⟨q, h1, h2, h3⟩
  · refine .inl ⟨h1, fun q hq => ?_⟩
    by_cases e : q = j
    · rw [e]; exact h
    · exact h2 q (by omega)
  · exact .inr ⟨q, by omega, h2, h3⟩
theorem nkp_end {l : List Int} {i : Nat} {k : Int} (hi : i < l.length) (h : NKP l i i k) :
    (k = ((nmS (eqL l) i).2.length : Int) ∧ nmS (eqL l) (i + 1) = ((nmS (eqL l) i).1 ++ [k], (nmS (eqL l) i).2 ++ [(i : Int)])) ∨ (¬ k = ((nmS (eqL l) i).2.length : Int) ∧ nmS (eqL l) (i + 1) = ((nmS (eqL l) i).1 ++ [k], (nmS (eqL l) i).2)) := by
  rcases h with ⟨h1, h2⟩ | ⟨q, h1, h2, h3⟩
  · have := nm_new (T := eqL l) (c := i) fun q hq => by simp only [eqL, decide_eq_false_iff_not]; exact h2 q hq
    refine .inl ⟨h1, ?_⟩
    rw [nmS_new (by omega), h1]
  · have he := nm_old (eqL_eqt l l.length) hi h1 (by simp only [eqL, decide_eq_true_eq]; exact h2)
    have ha := (nmp (eqL_eqt l l.length) i (by omega)).at_ q h1
    refine .inr ⟨by omega, ?_⟩
    rw [nmS_old (by omega), he, h3]
/-- The least that is held together with c. -/
def lst (T : Nat → Nat → Bool) (c : Nat) : Nat := ((List.range c).find? (T c)).getD c
def LKP (T : Nat → Nat → Bool) (c e : Nat) (k : Int) : Prop := (k = (c : Int) ∧ ∀ q, e ≤ q → q < c → T c q = false) ∨ ∃ q : Nat, e ≤ q ∧ q < c ∧ T c q = true ∧ k = (q : Int) ∧ ∀ r, e ≤ r → r < q → T c r = false
theorem lkp_top (T : Nat → Nat → Bool) (c : Nat) : LKP T c c c := .inl ⟨rfl, fun q h1 h2 => by omega⟩
theorem lkp_hit {T : Nat → Nat → Bool} {c e : Nat} (hc : e < c) (h : T c e = true) : LKP T c e (e : Int) := .inr ⟨e, Nat.le_refl _, hc, h, rfl, fun r h1 h2 => by omega⟩
theorem lkp_miss {T : Nat → Nat → Bool} {c e : Nat} {k : Int} (h0 : LKP T c (e + 1) k) (h : T c e = false) : LKP T c e k := by
  rcases h0 with ⟨h1, h2⟩ | ⟨q, h1, h2, h3, h4, h5⟩
  · refine .inl ⟨h1, fun q q1 q2 => ?_⟩
    by_cases e1 : q = e
    · rw [e1]; exact h
    · exact h2 q (by omega) q2
  · refine .inr ⟨q, by omega, h2, h3, h4, fun r r1 r2 => ?_⟩
    by_cases e1 : r = e
    · rw [e1]; exact h
    · exact h5 r (by omega) r2
theorem lkp_end {T : Nat → Nat → Bool} {c : Nat} {k : Int} (h : LKP T c 0 k) : k = (lst T c : Int) := by
  unfold lst
  rcases h with ⟨h1, h2⟩ | ⟨q, h1, h2, h3, h4, h5⟩
  · rw [find_none fun y hy => h2 y (by omega) hy]; exact h1
  · rw [find_some h2 h3 fun y hy => h5 y (by omega) hy]; exact h4
theorem lst_spec {T : Nat → Nat → Bool} {n c : Nat} (hT : EQT T n) (hc : c < n) : lst T c ≤ c ∧ T c (lst T c) = true ∧ ∀ r, r < lst T c → T c r = false := by
  unfold lst
  cases hf : (List.range c).find? (T c) with
  | none =>
    have := List.find?_eq_none.1 hf
    exact ⟨Nat.le_refl _, hT.rf c hc, fun r hr => by simpa using this r (by simpa using hr)⟩
  | some q =>
    have h1 := List.find?_some hf
    have h2 : q < c := by simpa using List.mem_of_find?_eq_some hf
    refine ⟨by show q ≤ c; omega, h1, fun r hr => ?_⟩
    have hr' : r < q := hr
    cases hc2 : T c r with
    | false => rfl
    | true =>
      have h3 := (List.find?_range_eq_some.1 hf).2.2 r hr'
      rw [hc2] at h3; cases h3
theorem lst_iff {T : Nat → Nat → Bool} {n c d : Nat} (hT : EQT T n) (hc : c < n) (hd : d < n) : lst T d = lst T c ↔ T d c = true := by
  obtain ⟨c1, c2, c3⟩ := lst_spec hT hc
  obtain ⟨d1, d2, d3⟩ := lst_spec hT hd
  constructor
  · intro e
    rw [e] at d2
    exact hT.tr d _ c hd (by omega) hc d2 (hT.sy c _ hc (by omega) c2)
  · intro h
    have h1 := hT.tr c d _ hc hd (by omega) (hT.sy d c hd hc h) d2
    have h2 := hT.tr d c _ hd hc (by omega) h c2
    rcases Nat.lt_trichotomy (lst T d) (lst T c) with hh | hh | hh
    · rw [c3 _ hh] at h1; cases h1
    · exact hh
    · rw [d3 _ hh] at h2; cases h2
theorem togB_iff {m : Mly} {c d : Nat} : togB m c d = true ↔ ∀ k, k < (fstX m.exR).length → agrS m ((fstX m.exR).getD k 0) c d = true := by
  unfold togB
  constructor
  · intro h k hk
    have h1 : idxB (fun s => !agrS m s c d) (fstX m.exR) < 0 := by
      have : ¬ 0 ≤ idxB (fun s => !agrS m s c d) (fstX m.exR) := by simpa using h
      omega
    simpa using idxB_miss h1 k hk
  · intro h
    rw [idxB_none fun q hq => by rw [h q hq]; rfl]; rfl
theorem agr_iff {m : Mly} {s : Int} {c d : Nat} : agrS m s c d = true ↔ m.out s c = m.out s d ∧ m.eqc.getD (m.nxt s c).toNat 0 = m.eqc.getD (m.nxt s d).toNat 0 := by simp only [agrS, Bool.and_eq_true, decide_eq_true_eq]
theorem togB_eqt (m : Mly) (n : Nat) : EQT (togB m) n where
  rf a _ := togB_iff.2 fun k _ => agr_iff.2 ⟨rfl, rfl⟩
  sy a b _ _ h := togB_iff.2 fun k hk => by have := agr_iff.1 (togB_iff.1 h k hk); exact agr_iff.2 ⟨this.1.symm, this.2.symm⟩
  tr a b c _ _ _ h g := togB_iff.2 fun k hk => by
    have h1 := agr_iff.1 (togB_iff.1 h k hk); have h2 := agr_iff.1 (togB_iff.1 g k hk); exact agr_iff.2 ⟨h1.1.trans h2.1, h1.2.trans h2.2⟩
def lsL (T : Nat → Nat → Bool) (n : Nat) : List Int := (List.range n).map fun c => (lst T c : Int)
theorem lsL_succ (T : Nat → Nat → Bool) (n : Nat) : lsL T (n + 1) = lsL T n ++ [(lst T n : Int)] := by simp [lsL, List.range_succ]
theorem lsL_len (T : Nat → Nat → Bool) (n : Nat) : (lsL T n).length = n := by simp [lsL]
theorem lsL_at (T : Nat → Nat → Bool) {n c : Nat} (h : c < n) : (lsL T n).getD c 0 = (lst T c : Int) := by simp [lsL, List.getD, h]
theorem nm_lst {T : Nat → Nat → Bool} {n : Nat} (hT : EQT T n) : nmS (eqL (lsL T n)) n = nmS T n :=
  nmS_congr n fun d q h1 h2 => by
    unfold eqL
    rw [lsL_at T (by omega), lsL_at T (by omega)]
    have hi := lst_iff hT (c := q) (d := d) h2 (by omega)
    cases hc : T d q with
    | true => rw [hi.2 hc]; exact decide_eq_true rfl
    | false =>
      refine decide_eq_false fun hh => ?_
      rw [hi.1 (by omega)] at hc; cases hc
end Go.AV
namespace Go.Proofs.Ytceafldjjedhcaa
open Go Go.AV
open Nat (reduceEqDiff reduceAdd reduceLeDiff reduceLT reduceMul reduceSub)
open List (set_cons_zero set_cons_succ)
set_option maxRecDepth 100000 in
theorem nmd2_c (l : List Int) (hl : l.length ≤ 64) : PURE Try.prog 38 [.one (.list (.int .i64) l)] (.one (.list (.int .i64) (nmS (eqL l) l.length).1)) := by
  refine pure_of_le Try.func38 rfl (by kernel_rfl) (Nat.le_of_ble_eq_true rfl) rfl fun C hP hN hB => ?_
  replace hN : C.N = 43 := hN
  simp only [argEnv, reduceAdd]
  refine awp_seq_k fun K1 hK1 => ?_
  refine awp_reg hP hN rfl ?_
  (refine rg_step rfl fun K0 hK0 => ?_; simp only [zE, op1, ev, lkp, avOf, acOf, ev, reduceCtorEq, reduceEqDiff, reduceAdd, reduceLeDiff, reduceLT, reduceMul, reduceSub, Try.el25, Try.td25]; (repeat refine And.intro (by first | omega | assumption | exact rfl) ?_); (first | refine hK0 _ ?_ | refine Or.inl (hK0 _ ?_)); clear hK0 K0; simp only [put, app, setAll, trOf, zE, zS, reduceAdd])
  refine rg_nil ?_
  refine hK1 _ ?_; clear hK1; refine awp_keep [0, 2] ?_; simp only [keepEnv, lkp, zE, reduceCtorEq, reduceEqDiff, argEnv, reduceAdd]
  refine awp_seq_k fun K2 hK2 => ?_
  refine awp_reg hP hN rfl ?_
  (refine rg_step rfl fun K0 hK0 => ?_; simp only [zE, op1, ev, lkp, avOf, acOf, ev, reduceCtorEq, reduceEqDiff, reduceAdd, reduceLeDiff, reduceLT, reduceMul, reduceSub, Try.el25, Try.td25]; (repeat refine And.intro (by first | omega | assumption | exact rfl) ?_); (first | refine hK0 _ ?_ | refine Or.inl (hK0 _ ?_)); clear hK0 K0; simp only [put, app, setAll, trOf, zE, zS, reduceAdd])
  refine rg_nil ?_
  refine hK2 _ ?_; clear hK2; refine awp_keep [0, 2, 3] ?_; simp only [keepEnv, lkp, zE, reduceCtorEq, reduceEqDiff, argEnv, reduceAdd]
  refine awp_seq_k fun K3 hK3 => ?_
  refine awp_reg hP hN rfl ?_
  (refine rg_step rfl fun K0 hK0 => ?_; simp only [zE, op1, ev, lkp, avOf, acOf, ev, reduceCtorEq, reduceEqDiff, reduceAdd, reduceLeDiff, reduceLT, reduceMul, reduceSub, Try.td3]; (repeat refine And.intro (by first | omega | assumption | exact rfl) ?_); (first | refine hK0 _ ?_ | refine Or.inl (hK0 _ ?_)); clear hK0 K0; simp only [put, app, setAll, trOf, zE, zS, reduceAdd])
  refine rg_nil ?_
  refine hK3 _ ?_; clear hK3; refine awp_keep [0, 2, 3, 4] ?_; simp only [keepEnv, lkp, zE, reduceCtorEq, reduceEqDiff, argEnv, reduceAdd]
  refine awp_seq_k fun K4 hK4 => ?_
  refine awp_seq_k fun K5 hK5 => ?_
  refine awp_reg hP hN rfl ?_
  (refine rg_step rfl fun K0 hK0 => ?_; simp only [zE, op1, ev, lkp, avOf, acOf, ev, reduceCtorEq, reduceEqDiff, reduceAdd, reduceLeDiff, reduceLT, reduceMul, reduceSub, Try.td3]; (repeat refine And.intro (by first | omega | assumption | exact rfl) ?_); (first | refine hK0 _ ?_ | refine Or.inl (hK0 _ ?_)); clear hK0 K0; simp only [put, app, setAll, trOf, zE, zS, reduceAdd])
  refine rg_nil ?_
  refine hK5 _ ?_; clear hK5; refine awp_keep [0, 2, 3, 4, 5] ?_; simp only [keepEnv, lkp, zE, reduceCtorEq, reduceEqDiff, argEnv, reduceAdd]
  refine awp_block ?_
  refine awp_own 3 (.int .i64) 3 (by decide) rfl ?_; simp only [List.length_cons, List.length_nil, List.cons_append, List.nil_append, Nat.zero_add, reduceAdd]
  refine awp_loop (fun n6 s6 => ∃ (i : Nat) (v : Nat), (i ≤ l.length) ∧ n6 = l.length - i ∧ s6 = { env := [(0, .one (.list (.int .i64) l)), (3, .one (.row 0 v)), (4, .one (.int .i64 ((nmS (eqL l) i).2.length : Int))), (5, .one (.int .i64 (i : Int)))], L := [.row (.int .i64) 3 v (nmS (eqL l) i).1] }) ?_ ?_
  · exact ⟨_, _, sub_keep [0, 3, 4, 5], 0, 0, Nat.zero_le _, rfl, rfl⟩
  · rintro n6 s6 ⟨i, v, hi, rfl, rfl⟩
    refine awp_seq_k fun K7 hK7 => ?_
    refine awp_seq_k fun K8 hK8 => ?_
    refine awp_reg hP hN rfl ?_
    iterate 4 (refine rg_step rfl fun K0 hK0 => ?_; simp only [zE, op1, ev, lkp, avOf, acOf, opCallAny, opMM, opLen, lenAC, lenOk, fpAC, Nat.div_one, opAppend, srcOf, Ty.size, datOf, dite_true, opBin, arith, inK_i64, eqACs, eqAC, reduceCtorEq, reduceEqDiff, reduceAdd, reduceLeDiff, reduceLT, reduceMul, reduceSub, Try.el25, Try.td25, Try.td3, Try.td4]; (repeat refine And.intro (by first | omega | assumption | exact rfl) ?_); (first | refine hK0 _ ?_ | refine Or.inl (hK0 _ ?_)); clear hK0 K0; simp only [put, app, setAll, trOf, zE, zS, reduceAdd])
    refine rg_nil ?_
    refine hK8 _ ?_; clear hK8; refine awp_keep [0, 3, 4, 5, 11] ?_; simp only [keepEnv, lkp, zE, reduceCtorEq, reduceEqDiff, argEnv, reduceAdd]
    refine awp_cond (by simp only [ev, keepEnv, lkp, zE, reduceCtorEq, reduceEqDiff, argEnv, reduceAdd]; exact rfl) (fun hc9 => ?_) (fun hc9 => ?_)
    · (try simp only [zB, reduceCtorEq] at hc9)
      refine awp_skip ?_
      refine hK7 _ ?_; clear hK7; refine awp_keep [0, 3, 4, 5, 11] ?_; simp only [keepEnv, lkp, zE, reduceCtorEq, reduceEqDiff, argEnv, reduceAdd]
      refine awp_seq_k fun K10 hK10 => ?_
      refine awp_block ?_
      refine awp_seq_k fun K11 hK11 => ?_
      have hrg := nmS_rng (eqL l) i
      refine awp_reg hP hN rfl ?_
      iterate 2 (refine rg_step rfl fun K0 hK0 => ?_; simp only [zE, op1, ev, lkp, avOf, acOf, ev, reduceCtorEq, reduceEqDiff, reduceAdd, reduceLeDiff, reduceLT, reduceMul, reduceSub, Try.td3]; (repeat refine And.intro (by first | omega | assumption | exact rfl) ?_); (first | refine hK0 _ ?_ | refine Or.inl (hK0 _ ?_)); clear hK0 K0; simp only [put, app, setAll, trOf, zE, zS, reduceAdd])
      refine rg_nil ?_
      refine hK11 _ ?_; clear hK11; refine awp_keep [0, 3, 4, 5, 6, 11] ?_; simp only [keepEnv, lkp, zE, reduceCtorEq, reduceEqDiff, argEnv, reduceAdd]
      refine awp_seq_k fun K12 hK12 => ?_
      refine awp_seq_k fun K13 hK13 => ?_
      refine awp_reg hP hN rfl ?_
      (refine rg_step rfl fun K0 hK0 => ?_; simp only [zE, op1, ev, lkp, avOf, acOf, ev, reduceCtorEq, reduceEqDiff, reduceAdd, reduceLeDiff, reduceLT, reduceMul, reduceSub, Try.td3]; (repeat refine And.intro (by first | omega | assumption | exact rfl) ?_); (first | refine hK0 _ ?_ | refine Or.inl (hK0 _ ?_)); clear hK0 K0; simp only [put, app, setAll, trOf, zE, zS, reduceAdd])
      refine rg_nil ?_
      refine hK13 _ ?_; clear hK13; refine awp_keep [0, 3, 4, 5, 6, 7, 11] ?_; simp only [keepEnv, lkp, zE, reduceCtorEq, reduceEqDiff, argEnv, reduceAdd]
      refine awp_block ?_
      refine awp_loop (fun n14 s14 => ∃ (j : Nat) (k : Int), (j ≤ i) ∧ (NKP l i j k) ∧ n14 = i - j ∧ s14 = { env := [(0, .one (.list (.int .i64) l)), (3, .one (.row 0 v)), (4, .one (.int .i64 ((nmS (eqL l) i).2.length : Int))), (5, .one (.int .i64 (i : Int))), (6, .one (.int .i64 k)), (7, .one (.int .i64 (j : Int)))], L := [.row (.int .i64) 3 v (nmS (eqL l) i).1] }) ?_ ?_
      · exact ⟨_, _, sub_keep [0, 3, 4, 5, 6, 7], 0, ((nmS (eqL l) i).2.length : Int), Nat.zero_le _, nkp_zero l i, rfl, rfl⟩
      · rintro n14 s14 ⟨j, k, hj, hnk, rfl, rfl⟩
        refine awp_seq_k fun K15 hK15 => ?_
        refine awp_seq_k fun K16 hK16 => ?_
        refine awp_reg hP hN rfl ?_
        iterate 3 (refine rg_step rfl fun K0 hK0 => ?_; simp only [zE, op1, ev, lkp, avOf, acOf, opBin, arith, inK_i64, eqACs, eqAC, reduceCtorEq, reduceEqDiff, reduceAdd, reduceLeDiff, reduceLT, reduceMul, reduceSub, Try.td3, Try.td4]; (repeat refine And.intro (by first | omega | assumption | exact rfl) ?_); (first | refine hK0 _ ?_ | refine Or.inl (hK0 _ ?_)); clear hK0 K0; simp only [put, app, setAll, trOf, zE, zS, reduceAdd])
        refine rg_nil ?_
        refine hK16 _ ?_; clear hK16; refine awp_keep [0, 3, 4, 5, 6, 7, 17] ?_; simp only [keepEnv, lkp, zE, reduceCtorEq, reduceEqDiff, argEnv, reduceAdd]
        refine awp_cond (by simp only [ev, keepEnv, lkp, zE, reduceCtorEq, reduceEqDiff, argEnv, reduceAdd]; exact rfl) (fun hc17 => ?_) (fun hc17 => ?_)
        · (try simp only [zB, reduceCtorEq] at hc17)
          refine awp_skip ?_
          refine hK15 _ ?_; clear hK15; refine awp_keep [0, 3, 4, 5, 6, 7, 17] ?_; simp only [keepEnv, lkp, zE, reduceCtorEq, reduceEqDiff, argEnv, reduceAdd]
          refine awp_seq_k fun K18 hK18 => ?_
          refine awp_block ?_
          refine awp_seq_k fun K19 hK19 => ?_
          refine awp_drw hP hN Try.mixed rfl ?_
          iterate 9 (refine rg_step rfl fun K0 hK0 => ?_; simp only [zE, op1, ev, lkp, avOf, acOf, opIndexAddr, zG, Ty.dflt, Ty.size, Nat.mul_one, ne_eq, not_false_eq_true, Int.natCast_one, Int.mul_one, opLoad, readAC, isAggK, acs, cellsAt, opBin, arith, inK_i64, eqACs, eqAC, reduceCtorEq, reduceEqDiff, reduceAdd, reduceLeDiff, reduceLT, reduceMul, reduceSub, Try.el25, Try.td25, Try.td3, Try.td4]; (repeat refine And.intro (by first | omega | assumption | exact rfl) ?_); (first | refine hK0 _ ?_ | refine Or.inl (hK0 _ ?_)); clear hK0 K0; simp only [put, app, setAll, trOf, zE, zS, reduceAdd])
          refine rg_nil ?_
          refine ⟨by kernel_rfl, ?_⟩
          refine hK19 _ ?_; clear hK19; refine awp_keep [0, 3, 4, 5, 6, 7, 17, 28] ?_; simp only [keepEnv, lkp, zE, reduceCtorEq, reduceEqDiff, argEnv, reduceAdd]
          refine awp_cond (by simp only [ev, keepEnv, lkp, zE, reduceCtorEq, reduceEqDiff, argEnv, reduceAdd]; exact rfl) (fun hc20 => ?_) (fun hc20 => ?_)
          · (try simp only [zB, reduceCtorEq] at hc20)
            refine awp_reg hP hN rfl ?_
            iterate 5 (refine rg_step rfl fun K0 hK0 => ?_; simp only [zE, op1, ev, lkp, avOf, acOf, opIndexAddr, zG, Ty.dflt, Ty.size, Nat.mul_one, ne_eq, not_false_eq_true, Int.natCast_one, Int.mul_one, opLoad, readAC, isAggK, acs, cellsAt, reduceCtorEq, reduceEqDiff, reduceAdd, reduceLeDiff, reduceLT, reduceMul, reduceSub, Try.el25, Try.td25, Try.td3]; (repeat refine And.intro (by first | omega | assumption | exact rfl) ?_); (first | refine hK0 _ ?_ | refine Or.inl (hK0 _ ?_)); clear hK0 K0; simp only [put, app, setAll, trOf, zE, zS, reduceAdd])
            refine rg_nil ?_
            refine hK18 _ ?_; clear hK18; refine awp_keep [0, 3, 4, 5, 6, 7, 17, 28] ?_; simp only [keepEnv, lkp, zE, reduceCtorEq, reduceEqDiff, argEnv, reduceAdd]
            refine awp_reg hP hN rfl ?_
            iterate 3 (refine rg_step rfl fun K0 hK0 => ?_; simp only [zE, op1, ev, lkp, avOf, acOf, opBin, arith, inK_i64, eqACs, eqAC, reduceCtorEq, reduceEqDiff, reduceAdd, reduceLeDiff, reduceLT, reduceMul, reduceSub, Try.td3]; (repeat refine And.intro (by first | omega | assumption | exact rfl) ?_); (first | refine hK0 _ ?_ | refine Or.inl (hK0 _ ?_)); clear hK0 K0; simp only [put, app, setAll, trOf, zE, zS, reduceAdd])
            refine rg_nil ?_
            first
            | (refine ⟨_, _, ?_, sub_keep [0, 3, 4, 5, 6, 7], j + 1, (nmS (eqL l) i).1.getD j 0, by omega, nkp_hit (by assumption), rfl, rfl⟩
               omega)
            | (refine ⟨_, _, ?_, sub_keep [0, 3, 4, 5, 6, 7], j + 1, k, by omega, nkp_miss hnk (by assumption), rfl, rfl⟩
               omega)
          · (try simp only [zB, reduceCtorEq] at hc20)
            refine awp_skip ?_
            refine hK18 _ ?_; clear hK18; refine awp_keep [0, 3, 4, 5, 6, 7, 17, 28] ?_; simp only [keepEnv, lkp, zE, reduceCtorEq, reduceEqDiff, argEnv, reduceAdd]
            refine awp_reg hP hN rfl ?_
            iterate 3 (refine rg_step rfl fun K0 hK0 => ?_; simp only [zE, op1, ev, lkp, avOf, acOf, opBin, arith, inK_i64, eqACs, eqAC, reduceCtorEq, reduceEqDiff, reduceAdd, reduceLeDiff, reduceLT, reduceMul, reduceSub, Try.td3]; (repeat refine And.intro (by first | omega | assumption | exact rfl) ?_); (first | refine hK0 _ ?_ | refine Or.inl (hK0 _ ?_)); clear hK0 K0; simp only [put, app, setAll, trOf, zE, zS, reduceAdd])
            refine rg_nil ?_
            first
            | (refine ⟨_, _, ?_, sub_keep [0, 3, 4, 5, 6, 7], j + 1, (nmS (eqL l) i).1.getD j 0, by omega, nkp_hit (by assumption), rfl, rfl⟩
               omega)
            | (refine ⟨_, _, ?_, sub_keep [0, 3, 4, 5, 6, 7], j + 1, k, by omega, nkp_miss hnk (by assumption), rfl, rfl⟩
               omega)
        · (try simp only [zB, reduceCtorEq] at hc17)
          refine awp_exit ?_
          refine hK12 _ ?_; clear hK12; refine awp_keep [0, 3, 4, 5, 6, 7, 17] ?_; simp only [keepEnv, lkp, zE, reduceCtorEq, reduceEqDiff, argEnv, reduceAdd]
          refine awp_seq_k fun K21 hK21 => ?_
          refine awp_seq_k fun K22 hK22 => ?_
          have hrg := nmS_rng (eqL l) i
          have hji : j = i := by omega
          rw [hji] at hnk
          have hne := nkp_end (l := l) (i := i) (k := k) (by omega) hnk
          refine awp_reg hP hN rfl ?_
          iterate 3 (refine rg_step rfl fun K0 hK0 => ?_; simp only [zE, op1, ev, lkp, avOf, acOf, opBin, arith, inK_i64, eqACs, eqAC, reduceCtorEq, reduceEqDiff, reduceAdd, reduceLeDiff, reduceLT, reduceMul, reduceSub, Try.td3, Try.td4]; (repeat refine And.intro (by first | omega | assumption | exact rfl) ?_); (first | refine hK0 _ ?_ | refine Or.inl (hK0 _ ?_)); clear hK0 K0; simp only [put, app, setAll, trOf, zE, zS, reduceAdd])
          refine rg_nil ?_
          refine hK22 _ ?_; clear hK22; refine awp_keep [0, 3, 4, 5, 6, 7, 17, 35] ?_; simp only [keepEnv, lkp, zE, reduceCtorEq, reduceEqDiff, argEnv, reduceAdd]
          refine awp_cond (by simp only [ev, keepEnv, lkp, zE, reduceCtorEq, reduceEqDiff, argEnv, reduceAdd]; exact rfl) (fun hc23 => ?_) (fun hc23 => ?_)
          · (try simp only [zB, reduceCtorEq] at hc23)
            refine awp_reg hP hN rfl ?_
            iterate 3 (refine rg_step rfl fun K0 hK0 => ?_; simp only [zE, op1, ev, lkp, avOf, acOf, opBin, arith, inK_i64, eqACs, eqAC, reduceCtorEq, reduceEqDiff, reduceAdd, reduceLeDiff, reduceLT, reduceMul, reduceSub, Try.td3]; (repeat refine And.intro (by first | omega | assumption | exact rfl) ?_); (first | refine hK0 _ ?_ | refine Or.inl (hK0 _ ?_)); clear hK0 K0; simp only [put, app, setAll, trOf, zE, zS, reduceAdd])
            refine rg_nil ?_
            refine hK21 _ ?_; clear hK21; refine awp_keep [0, 3, 4, 5, 6, 7, 17, 35] ?_; simp only [keepEnv, lkp, zE, reduceCtorEq, reduceEqDiff, argEnv, reduceAdd]
            refine awp_reg hP hN rfl ?_
            iterate 5 (refine rg_step rfl fun K0 hK0 => ?_; simp only [zE, op1, ev, lkp, avOf, acOf, opBuildSlice, fillAC, chunk, rep, datOf, writeAC, cellsAV, Ty.size, opCallAny, opMM, opLen, lenAC, lenOk, fpAC, Nat.div_one, opAppend, srcOf, dite_true, reduceCtorEq, reduceEqDiff, reduceAdd, reduceLeDiff, reduceLT, reduceMul, reduceSub, Try.el25, Try.td1, Try.td25, Try.td3]; (repeat refine And.intro (by first | omega | assumption | exact rfl) ?_); (first | refine hK0 _ ?_ | refine Or.inl (hK0 _ ?_)); clear hK0 K0; simp only [put, app, setAll, trOf, zE, zS, reduceAdd])
            refine rg_nil ?_
            refine hK10 _ ?_; clear hK10; refine awp_keep [0, 3, 4, 5, 6, 7, 17, 35] ?_; simp only [keepEnv, lkp, zE, reduceCtorEq, reduceEqDiff, argEnv, reduceAdd]
            refine awp_reg hP hN rfl ?_
            iterate 3 (refine rg_step rfl fun K0 hK0 => ?_; simp only [zE, op1, ev, lkp, avOf, acOf, opBin, arith, inK_i64, eqACs, eqAC, reduceCtorEq, reduceEqDiff, reduceAdd, reduceLeDiff, reduceLT, reduceMul, reduceSub, Try.td3]; (repeat refine And.intro (by first | omega | assumption | exact rfl) ?_); (first | refine hK0 _ ?_ | refine Or.inl (hK0 _ ?_)); clear hK0 K0; simp only [put, app, setAll, trOf, zE, zS, reduceAdd])
            refine rg_nil ?_
            first
            | (obtain ⟨q1, q2⟩ : k = ((nmS (eqL l) i).2.length : Int) ∧ nmS (eqL l) (i + 1) = ((nmS (eqL l) i).1 ++ [k], (nmS (eqL l) i).2 ++ [(i : Int)]) := by
                 rcases hne with h | h
                 · exact h
                 · omega
               refine ⟨_, _, ?_, sub_keep [0, 3, 4, 5], i + 1, v + 1, by omega, rfl, ?_⟩
               · omega
               · rw [q2]; simp only [List.length_append, List.length_cons, List.length_nil]; rfl)
            | (obtain ⟨q1, q2⟩ : ¬ k = ((nmS (eqL l) i).2.length : Int) ∧ nmS (eqL l) (i + 1) = ((nmS (eqL l) i).1 ++ [k], (nmS (eqL l) i).2) := by
                 rcases hne with h | h
                 · omega
                 · exact h
               refine ⟨_, _, ?_, sub_keep [0, 3, 4, 5], i + 1, v + 1, by omega, rfl, ?_⟩
               · omega
               · rw [q2]; rfl)
          · (try simp only [zB, reduceCtorEq] at hc23)
            refine awp_skip ?_
            refine hK21 _ ?_; clear hK21; refine awp_keep [0, 3, 4, 5, 6, 7, 17, 35] ?_; simp only [keepEnv, lkp, zE, reduceCtorEq, reduceEqDiff, argEnv, reduceAdd]
            refine awp_reg hP hN rfl ?_
            iterate 5 (refine rg_step rfl fun K0 hK0 => ?_; simp only [zE, op1, ev, lkp, avOf, acOf, opBuildSlice, fillAC, chunk, rep, datOf, writeAC, cellsAV, Ty.size, opCallAny, opMM, opLen, lenAC, lenOk, fpAC, Nat.div_one, opAppend, srcOf, dite_true, reduceCtorEq, reduceEqDiff, reduceAdd, reduceLeDiff, reduceLT, reduceMul, reduceSub, Try.el25, Try.td1, Try.td25, Try.td3]; (repeat refine And.intro (by first | omega | assumption | exact rfl) ?_); (first | refine hK0 _ ?_ | refine Or.inl (hK0 _ ?_)); clear hK0 K0; simp only [put, app, setAll, trOf, zE, zS, reduceAdd])
            refine rg_nil ?_
            refine hK10 _ ?_; clear hK10; refine awp_keep [0, 3, 4, 5, 6, 7, 17, 35] ?_; simp only [keepEnv, lkp, zE, reduceCtorEq, reduceEqDiff, argEnv, reduceAdd]
            refine awp_reg hP hN rfl ?_
            iterate 3 (refine rg_step rfl fun K0 hK0 => ?_; simp only [zE, op1, ev, lkp, avOf, acOf, opBin, arith, inK_i64, eqACs, eqAC, reduceCtorEq, reduceEqDiff, reduceAdd, reduceLeDiff, reduceLT, reduceMul, reduceSub, Try.td3]; (repeat refine And.intro (by first | omega | assumption | exact rfl) ?_); (first | refine hK0 _ ?_ | refine Or.inl (hK0 _ ?_)); clear hK0 K0; simp only [put, app, setAll, trOf, zE, zS, reduceAdd])
            refine rg_nil ?_
            first
            | (obtain ⟨q1, q2⟩ : k = ((nmS (eqL l) i).2.length : Int) ∧ nmS (eqL l) (i + 1) = ((nmS (eqL l) i).1 ++ [k], (nmS (eqL l) i).2 ++ [(i : Int)]) := by
                 rcases hne with h | h
                 · exact h
                 · omega
               refine ⟨_, _, ?_, sub_keep [0, 3, 4, 5], i + 1, v + 1, by omega, rfl, ?_⟩
               · omega
               · rw [q2]; simp only [List.length_append, List.length_cons, List.length_nil]; rfl)
            | (obtain ⟨q1, q2⟩ : ¬ k = ((nmS (eqL l) i).2.length : Int) ∧ nmS (eqL l) (i + 1) = ((nmS (eqL l) i).1 ++ [k], (nmS (eqL l) i).2) := by
                 rcases hne with h | h
                 · omega
                 · exact h
               refine ⟨_, _, ?_, sub_keep [0, 3, 4, 5], i + 1, v + 1, by omega, rfl, ?_⟩
               · omega
               · rw [q2]; rfl)
    · (try simp only [zB, reduceCtorEq] at hc9)
      refine awp_exit ?_
      refine hK4 _ ?_; clear hK4; refine awp_keep [0, 3, 4, 5, 11] ?_; simp only [keepEnv, lkp, zE, reduceCtorEq, reduceEqDiff, argEnv, reduceAdd]
      refine awp_seq_k fun K24 hK24 => ?_
      refine awp_reg hP hN rfl ?_
      iterate 2 (refine rg_step rfl fun K0 hK0 => ?_; simp only [zE, op1, ev, lkp, avOf, acOf, ev, reduceCtorEq, reduceEqDiff, reduceAdd, reduceLeDiff, reduceLT, reduceMul, reduceSub, Try.el25, Try.td25]; (repeat refine And.intro (by first | omega | assumption | exact rfl) ?_); (first | refine hK0 _ ?_ | refine Or.inl (hK0 _ ?_)); clear hK0 K0; simp only [put, app, setAll, trOf, zE, zS, reduceAdd])
      refine rg_nil ?_
      refine hK24 _ ?_; clear hK24; refine awp_keep [0, 2, 3, 4, 5, 11] ?_; simp only [keepEnv, lkp, zE, reduceCtorEq, reduceEqDiff, argEnv, reduceAdd]
      refine awp_ret ?_
      refine ⟨by first | exact .inl rfl | exact .inr rfl, _, rfl, ?_⟩; simp only [fzV, fz1, fzC, List.map_cons, List.map_nil, keepEnv, lkp, zE, reduceCtorEq, reduceEqDiff, argEnv, reduceAdd]
      have hil : i = l.length := by omega
      subst hil
      exact VLE.of_eq (by simp [fzC])
end Go.Proofs.Ytceafldjjedhcaa
namespace Go.Proofs.Ytceafldjjedhcaa
open Go Go.AV
open Nat (reduceEqDiff reduceAdd reduceLeDiff reduceLT reduceMul reduceSub)
open List (set_cons_zero set_cons_succ)
theorem nmdK_c (l : List Int) (n : Nat) (e : l.length = n) (h : n ≤ 64) : PURE Try.prog 38 [.one (.list (.int .i64) l)] (.one (.list (.int .i64) (nmS (eqL l) n).1)) := by
  subst e; exact nmd2_c l h

end Go.Proofs.Ytceafldjjedhcaa
namespace Go.AV
open Nat (reduceEqDiff reduceAdd reduceLeDiff reduceLT reduceMul reduceSub)
open List (set_cons_zero set_cons_succ)
/-plain-/
theorem nm_iff {T : Nat → Nat → Bool} {n c d : Nat} (hT : EQT T n) (hc : c < n) (hd : d < n) : (nmS T n).1.getD c 0 = (nmS T n).1.getD d 0 ↔ T c d = true := by
  have hp := nmp hT n (Nat.le_refl _)
  obtain ⟨r1, r2, r3⟩ := nmS_rng T n
  obtain ⟨c1, c2, c3⟩ := hp.at_ c hc
  obtain ⟨d1, d2, d3⟩ := hp.at_ d hd
  have hmc := r3 _ (getD_mem (w := (nmS T n).2) (i := ((nmS T n).1.getD c 0).toNat) (by omega))
  have hmd := r3 _ (getD_mem (w := (nmS T n).2) (i := ((nmS T n).1.getD d 0).toNat) (by omega))
  constructor
  · intro e
    rw [← e] at d3
    exact hT.tr c _ d hc (by omega) hd (hT.sy _ c (by omega) hc c3) d3
  · intro h
    have h1 := hT.tr _ c d (by omega) hc hd c3 h
    have h2 := hT.tr _ d _ (by omega) hd (by omega) h1 (hT.sy _ d (by omega) hd d3)
    rcases Nat.lt_trichotomy ((nmS T n).1.getD c 0).toNat ((nmS T n).1.getD d 0).toNat with hh | hh | hh
    · have := hp.ap _ _ hh (by omega)
      rw [h2] at this; cases this
    · omega
    · have h3 := hT.sy _ _ (by omega) (by omega) h2
      have := hp.ap _ _ hh (by omega)
      rw [h3] at this; cases this
structure RUN (m : Mly) : Prop where
  len : (runLm m).length = m.inp.toNat
  ce : cntE (runLm m) = 0
  ck : cntK (runLm m) = runNm m
  eq : ∀ c d : Nat, c < m.inp.toNat → d < m.inp.toNat → ((runLm m).getD c 0 = (runLm m).getD d 0 ↔ togB m c d = true)
  ch : chkE m (runLm m) = 0
  no : stpB m (runLm m) = false
theorem fin_none {m : Mly} {cl : List Int} (hk : COK m cl) (h : ∀ c d : Nat, c < m.inp.toNat → d < m.inp.toNat → cl.getD c 0 = cl.getD d 0 → togB m c d = true) : stpB m cl = false := by
  have hlen := hk.len
  unfold stpB
  split
  · cases hf : finI m cl with
    | none => rfl
    | some p =>
      exfalso
      obtain ⟨⟨p1, p2, p3⟩, p4, p5⟩ := finI_spec hf
      unfold parS at p5
      simp only [Bool.and_eq_true, Bool.not_eq_true', decide_eq_true_eq] at p5
      have h1 := togB_iff.1 (h p.2.1 p.2.2 (by omega) (by omega) p5.1) p.1 (by rw [fstX_len]; exact p1)
      rw [fstX_at p1, p5.2] at h1
      cases h1
  · rfl
theorem runs {m : Mly} (hm : MOK m) : RUN m := by
  have hi1 := hm.i1; have hi2 := hm.i2
  have hv := validE_of hm
  have eL : runLm m = (nmS (togB m) m.inp.toNat).1 := by unfold runLm; rw [if_pos hv]
  have eN : runNm m = ((nmS (togB m) m.inp.toNat).2.length : Int) := by unfold runNm; rw [if_pos hv]
  have hc := nm_cnt (togB m) (n := m.inp.toNat) (by omega) (by omega)
  have hr := nmS_rng (togB m) m.inp.toNat
  have hq : ∀ c d : Nat, c < m.inp.toNat → d < m.inp.toNat → ((runLm m).getD c 0 = (runLm m).getD d 0 ↔ togB m c d = true) := fun c d h1 h2 => by rw [eL]; exact nm_iff (togB_eqt m _) h1 h2
  have hl : (runLm m).length = m.inp.toNat := by rw [eL]; exact hr.1
  have hce : cntE (runLm m) = 0 := by rw [eL]; exact hc.1
  have hch : chkE m (runLm m) = 0 := by
    unfold chkE
    rw [if_neg (by simp [hv]), if_neg (by simp [hce]), if_pos (by omega)]
  exact ⟨hl, hce, by rw [eL, eN]; exact hc.2, hq, hch, fin_none (cok_of hch) fun c d h1 h2 e => (hq c d h1 h2).1 e⟩
theorem run_dec {m : Mly} (h : RUN m) {c d : Nat} (hc : c < m.inp.toNat) (hd : d < m.inp.toNat) : decide ((runLm m).getD c 0 = (runLm m).getD d 0) = togB m c d := by
  have := h.eq c d hc hd
  cases ht : togB m c d with
  | true => exact decide_eq_true (this.2 ht)
  | false => exact decide_eq_false fun hh => by rw [this.1 hh] at ht; cases ht
end Go.AV
namespace Go.AV
open Nat (reduceEqDiff reduceAdd reduceLeDiff reduceLT reduceMul reduceSub)
open List (set_cons_zero set_cons_succ)
/-plain-/
/-! ### a witness's words: identified by the list, but told apart by the machine -/
def SYM (n : Int) (w : List Int) : Prop := ∀ a, a ∈ w → 0 ≤ a ∧ a < n
theorem sym_at {n : Int} {w : List Int} (h : SYM n w) : ∀ i : Nat, i < w.length → 0 ≤ w.getD i 0 ∧ w.getD i 0 < n := fun _ hi => h _ (getD_mem hi)
theorem sym_of {n : Int} {w : List Int} (h : ∀ i : Nat, i < w.length → 0 ≤ w.getD i 0 ∧ w.getD i 0 < n) : SYM n w := fun a ha => by
  obtain ⟨i, hi⟩ := List.getElem?_of_mem ha
  have h1 := (List.getElem?_eq_some_iff.1 hi).1
  have := h i h1
  simpa [List.getD, hi] using this
theorem sym_app {n : Int} {u v : List Int} (hu : SYM n u) (hv : SYM n v) : SYM n (u ++ v) := fun a ha => by
  rcases List.mem_append.1 ha with h | h
  · exact hu a h
  · exact hv a h
theorem sym_one {n : Int} {x : Nat} (h : (x : Int) < n) : SYM n [(x : Int)] := fun a ha => by
  have : a = (x : Int) := by simpa using ha
  omega
def AGW (m : Mly) (e : S2) : Prop := (m.go m.st e.2).1 = e.1 ∧ SYM m.inp e.2
theorem ags_st {m : Mly} {e : S2} {l : List S2} {x : Nat} (h : ∀ f, f ∈ l → AGW m f) (he : AGW m e) (hx : (x : Int) < m.inp) : ∀ f, f ∈ stX m e l x → AGW m f := by
  unfold stX
  split
  · exact h
  · intro f hf
    rcases List.mem_append.1 hf with hf | hf
    · exact h f hf
    · have e1 : f = ((m.row e.1).getD x 0, e.2 ++ [(x : Int)]) := by simpa using hf
      subst e1
      refine ⟨?_, sym_app he.2 (sym_one hx)⟩
      rw [go_append, he.1]; rfl
theorem ags_row {m : Mly} {e : S2} {l : List S2} (h : ∀ f, f ∈ l → AGW m f) (he : AGW m e) : ∀ x : Nat, (x : Int) ≤ m.inp → ∀ f, f ∈ rowX m e l x → AGW m f
  | 0, _ => by simpa [rowX] using h
  | x + 1, hx => by
    rw [rowX_succ]
    exact ags_st (ags_row h he x (by omega)) he (by omega)
theorem ags_exF {m : Mly} (hi : 0 ≤ m.inp) : ∀ (f i : Nat) (l : List S2), (∀ e, e ∈ l → AGW m e) → ∀ e, e ∈ exF m f i l → AGW m e
  | 0, _, _, h => h
  | f + 1, i, l, h => by
    simp only [exF]
    split
    · rename_i hil
      exact ags_exF hi f (i + 1) _ (ags_row h (h _ (mem_X hil)) m.inp.toNat (by omega))
    · exact h
theorem ags_exR {m : Mly} (hm : MOK m) : ∀ e, e ∈ m.exR → AGW m e := by
  have := hm.i1
  refine ags_exF (by omega) _ _ _ fun e he => ?_
  have e1 : e = (m.st, []) := by simpa using he
  subst e1
  exact ⟨rfl, fun a ha => by cases ha⟩
theorem srS_len2 {a b : Mly} (ha : MOK a) (hb : MOK b) (hi : a.inp = b.inp) {B : Nat} (hB : a.nx.length * b.nx.length ≤ B) : ∀ (f i : Nat) (l : List S3), WFS a b l → ∀ w, srS a b f i l = some w → w.length ≤ B + 1
  | 0, _, _, _, w, h => by cases h
  | f + 1, i, l, hl, w, h => by
    simp only [srS] at h
    split at h
    · rename_i hil
      have h1 := hl.wl hil
      have h2 := hl.le
      have h3 := ha.i1
      split at h
      · simp only [Option.some.injEq] at h; subst h
        rw [List.length_append]; simp only [List.length_cons, List.length_nil]; omega
      · exact srS_len2 ha hb hi hB f (i + 1) _ (hl.row ha hb hi hil a.inp.toNat (by omega)) w h
    · cases h
theorem go_one (m : Mly) (e : S2) (c : Nat) (w : List Int) (he : AGW m e) : (m.go m.st (e.2 ++ [(c : Int)] ++ w)).2 = (m.go m.st e.2).2 ++ (m.out e.1 c :: (m.go (m.nxt e.1 c) w).2) := by
  rw [List.append_assoc, go_append, he.1]
  simp only [List.cons_append, List.nil_append]
  rw [go_cons]
structure SHW (m : Mly) (cl : List Int) (u v : List Int) : Prop where
  su : SYM m.inp u
  sv : SYM m.inp v
  lu : u.length ≤ 200
  lv : v.length = u.length
  pos : 0 < u.length
  ne : (m.go m.st u).2 ≠ (m.go m.st v).2
  im : u.map (fun a => cl.getD a.toNat 0) = v.map fun a => cl.getD a.toNat 0
theorem shw {m : Mly} {cl : List Int} {p : Nat × Nat × Nat} (hk : COK m cl) (hs : m.nx.length ≤ 12) (hf : finI m cl = some p) : SHW m cl ((m.exR.getD p.1 eX0).2 ++ [(p.2.1 : Int)] ++ wTl m p) ((m.exR.getD p.1 eX0).2 ++ [(p.2.2 : Int)] ++ wTl m p) := by
  have hm := hk.ok; have hlen := hk.len
  obtain ⟨⟨p1, p2, p3⟩, p4, p5⟩ := finI_spec hf
  have hwx := wfx_exR hm
  have hat := hwx.at_ p1
  have hwl := hwx.wl _ (mem_X p1)
  have hxl := hwx.le
  have hag := ags_exR hm _ (mem_X p1)
  have hnc := hm.nr (m.exR.getD p.1 eX0).1.toNat p.2.1 (by omega) (by omega)
  have hnd := hm.nr (m.exR.getD p.1 eX0).1.toNat p.2.2 (by omega) (by omega)
  have hcl : cl.getD p.2.1 0 = cl.getD p.2.2 0 := by
    unfold parS at p5; simp only [Bool.and_eq_true, decide_eq_true_eq] at p5; exact p5.1
  have hna : agrS m (m.exR.getD p.1 eX0).1 p.2.1 p.2.2 = false := by
    unfold parS at p5; simp only [Bool.and_eq_true, Bool.not_eq_true', decide_eq_true_eq] at p5; exact p5.2
  have hT : SYM m.inp (wTl m p) ∧ (wTl m p).length ≤ 145 ∧ (m.out (m.exR.getD p.1 eX0).1 p.2.1 :: (m.go (m.nxt (m.exR.getD p.1 eX0).1 p.2.1) (wTl m p)).2) ≠ (m.out (m.exR.getD p.1 eX0).1 p.2.2 :: (m.go (m.nxt (m.exR.getD p.1 eX0).1 p.2.2) (wTl m p)).2) := by
    by_cases hO : m.out (m.exR.getD p.1 eX0).1 p.2.1 = m.out (m.exR.getD p.1 eX0).1 p.2.2
    · have e : wTl m p = (seS m m (m.nxt (m.exR.getD p.1 eX0).1 p.2.1) (m.nxt (m.exR.getD p.1 eX0).1 p.2.2)).getD [] := if_pos hO
      have hi := eqc_seS hm hnc hnd
      have hne : ¬ m.eqc.getD (m.nxt (m.exR.getD p.1 eX0).1 p.2.1).toNat 0 = m.eqc.getD (m.nxt (m.exR.getD p.1 eX0).1 p.2.2).toNat 0 := by
        intro hh
        have := agr_iff.2 ⟨hO, hh⟩
        rw [hna] at this; cases this
      have hso : (seS m m (m.nxt (m.exR.getD p.1 eX0).1 p.2.1) (m.nxt (m.exR.getD p.1 eX0).1 p.2.2)).isSome = true := by
        refine hi.trans ?_
        rw [show decide (m.eqc.getD ((m.nx.getD (m.exR.getD p.1 eX0).1.toNat []).getD p.2.1 0).toNat 0 = m.eqc.getD ((m.nx.getD (m.exR.getD p.1 eX0).1.toNat []).getD p.2.2 0).toNat 0) = false from decide_eq_false hne]; rfl
      obtain ⟨w, hw⟩ := Option.isSome_iff_exists.1 hso
      rw [e, hw]
      obtain ⟨w1, w2, w3⟩ := seS_sound hw
      refine ⟨sym_of w1, srS_len2 (B := 144) hm hm rfl (Nat.le_trans (Nat.mul_le_mul hs hs) (by omega)) _ _ _ (wfs_one hnc hnd) w hw, fun hh => w2 ?_⟩
      injection hh
    · have e : wTl m p = [] := if_neg hO
      rw [e]
      refine ⟨fun a ha => (by cases ha), Nat.zero_le _, fun hh => hO ?_⟩
      injection hh
  refine ⟨sym_app (sym_app hag.2 (sym_one (by omega))) hT.1, sym_app (sym_app hag.2 (sym_one (by omega))) hT.1, ?_, ?_, ?_, ?_, ?_⟩
  · simp only [List.length_append, List.length_cons, List.length_nil]; omega
  · simp only [List.length_append, List.length_cons, List.length_nil]
  · simp only [List.length_append, List.length_cons, List.length_nil]; omega
  · rw [go_one m _ _ _ hag, go_one m _ _ _ hag]
    intro hh
    exact hT.2.2 (List.append_cancel_left hh)
  · simp only [List.map_append, List.map_cons, List.map_nil, Int.toNat_natCast, hcl]
theorem shw_from {m : Mly} {w : List Int} (hm : MOK m) (h : SYM m.inp w) (hl : w.length ≤ 200) : fromE m m.st w = 0 ∧ fromV m m.st w = (m.go m.st w).2 := by
  have h1 := hm.s1; have h2 := hm.s2; have h3 := hm.i1; have h4 := hm.i2
  have e : fromE m m.st w = 0 := by
    unfold fromE
    rw [if_neg (by simp [validE_of hm]), if_neg (by omega)]
    exact wordE_ok h3 (by omega) ⟨by omega, sym_at h⟩
  refine ⟨e, ?_⟩
  unfold fromV
  rw [if_pos e]
theorem shw_UV {m : Mly} {cl : List Int} (hc : chkE m cl = 0) (hb : stpB m cl = true) (hs : m.nx.length ≤ 12) : SHW m cl (wU m cl) (wV m cl) := by
  have hk := cok_of hc
  unfold stpB at hb
  rw [if_pos hc] at hb
  obtain ⟨p, hp⟩ := Option.isSome_iff_exists.1 hb
  unfold wU wV
  rw [if_pos hc, if_pos hc, hp]
  exact shw hk hs hp
theorem shw_nil {m : Mly} {cl : List Int} (h : chkE m cl = 0 → stpB m cl = false) : wU m cl = [] ∧ wV m cl = [] := by
  unfold wU wV
  by_cases hc : chkE m cl = 0
  · have hb := h hc
    unfold stpB at hb
    rw [if_pos hc] at hb
    have hn : finI m cl = none := by cases hf : finI m cl with
      | none => rfl
      | some p => rw [hf] at hb; cases hb
    rw [if_pos hc, if_pos hc, hn]; exact ⟨rfl, rfl⟩
  · rw [if_neg hc, if_neg hc]; exact ⟨rfl, rfl⟩
theorem rep_at {n i : Nat} : (List.replicate n (0 : Int)).getD i 0 = 0 := by
  by_cases h : i < n
  · simp [List.getD, h]
  · simp [List.getD, Nat.le_of_not_lt h]
theorem map_take_succ {f : Int → Int} {w : List Int} {k : Nat} (h : k < w.length) : (w.map f).take k ++ [f (w.getD k 0)] = (w.map f).take (k + 1) := by
  rw [List.take_add_one]
  simp [List.getD, h]
end Go.AV
