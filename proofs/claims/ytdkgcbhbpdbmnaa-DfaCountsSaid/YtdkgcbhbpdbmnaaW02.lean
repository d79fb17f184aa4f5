/- Contracts of functions of this seat, each out of a walk through its code, and plain facts on what they compute. Conditions: those that each theorem names. -/
import Derived.Test.YtdkgcbhbpdbmnaaW01
set_option linter.unusedSimpArgs false
set_option linter.unusedVariables false
namespace Go.Proofs.Ytdkgcbhbpdbmnaa
open Go Go.AV
open Nat (reduceEqDiff reduceAdd reduceLeDiff reduceLT reduceMul reduceSub)
open List (set_cons_zero set_cons_succ)
set_option maxRecDepth 100000 in
set_option maxHeartbeats 1500000 in
theorem dsearch_c (n f g : Nat) (cf cg : List Cap) (A : STP) (G : PP → Bool) (p : PP) (n1 n2 : Nat) (N : Int) (hN : N = (n : Int)) (hcf : cf.all isPat = true) (hcg : cg.all isPat = true) (hb : n1 * n2 ≤ 100000) (hb1 : n1 ≤ 100000) (hb2 : n2 ≤ 100000) (hn : n ≤ 1024) (h0 : inR n1 n2 p) (hA : ∀ q, inR n1 n2 q → ∀ x, x < n → inR n1 n2 (A q x)) (hf : ∀ q x, inR n1 n2 q → x < n → PURE Try.prog f (.agg [.int .i64 q.1, .int .i64 q.2] :: .one (.int .i64 (x : Int)) :: cf.map capAV) (.agg [.int .i64 (A q x).1, .int .i64 (A q x).2])) (hg : ∀ q, inR n1 n2 q → PURE Try.prog g (.agg [.int .i64 q.1, .int .i64 q.2] :: cg.map capAV) (.one (.bool (G q)))) (L0 : List AO) : CALL Try.prog L0 46 [.agg [.int .i64 p.1, .int .i64 p.2], .one (.int .i64 N), .one (.fn f cf), .one (.fn g cg)] { av := .tup ([.one (.list (.pair (.pair (.int .i64) (.pair (.int .i64) .unit)) (.pair (.list (.int .i64)) .unit)) (List.map encW (dQ G (dAll A n (n1 * n2) p))))] ++ .one (.mpv L0.length) :: [.one (.bool (dB G (dAll A n (n1 * n2) p)))]), new := [.mp 84 .int (mpE (dQ G (dAll A n (n1 * n2) p)))] } := by
  subst hN
  refine call_map Try.func46 rfl (by kernel_rfl) (Nat.le_of_ble_eq_true rfl) (by simp only [List.all_cons, List.all_nil, pureV, pure1, pureC, hcf, hcg, Bool.and_true, Bool.and_self]) (fun C hP hN hB => ?_) L0
  replace hN : C.N = 80 := hN
  simp only [argEnv, reduceAdd]
  have hkv0 := inR_ok h0 hb1 hb2
  refine awp_seq_k fun K1 hK1 => ?_
  refine awp_reg hP hN rfl ?_
  iterate 4 (refine rg_step rfl fun K0 hK0 => ?_; simp only [zE, op1, ev, lkp, avOf, acOf, opBox, cellsAV, reduceCtorEq, reduceEqDiff, reduceAdd, reduceLeDiff, reduceLT, reduceMul, reduceSub, Try.ea81, Try.el83, Try.mk84, Try.sa81, Try.td4, Try.td81, Try.td83, List.length_map, List.length_append, List.length_cons, List.length_nil, keyAV.intsAC, Option.map_some, AV.valOf]; (repeat refine And.intro (by first | omega | assumption | exact rfl) ?_); (first | refine hK0 _ ?_ | refine Or.inl (hK0 _ ?_)); clear hK0 K0; simp only [put, app, setAll, trOf, zE, zS, reduceAdd])
  refine rg_nil ?_
  refine hK1 _ ?_; clear hK1; refine awp_keep [0, 1, 2, 3, 4, 8, 9, 10] ?_; simp only [keepEnv, lkp, zE, reduceCtorEq, reduceEqDiff, argEnv, reduceAdd]
  refine awp_seq_k fun K2 hK2 => ?_
  refine awp_reg hP hN rfl ?_
  iterate 5 (refine rg_step rfl fun K0 hK0 => ?_; simp only [zE, op1, ev, lkp, avOf, acOf, opMakeMap, opLoad, Nat.mul_one, readAC, isAggK, acs, Ty.dflt, zG, cellsAt, opMapUpdate, keyAV, valOf, reduceCtorEq, reduceEqDiff, reduceAdd, reduceLeDiff, reduceLT, reduceMul, reduceSub, Try.ea81, Try.mk84, Try.sa81, Try.td81, List.length_map, List.length_append, List.length_cons, List.length_nil, keyAV.intsAC, Option.map_some, AV.valOf]; (repeat refine And.intro (by first | omega | assumption | exact rfl) ?_); (first | refine hK0 _ ?_ | refine Or.inl (hK0 _ ?_)); clear hK0 K0; simp only [put, app, setAll, trOf, zE, zS, reduceAdd])
  refine rg_nil ?_
  refine hK2 _ ?_; clear hK2; refine awp_keep [0, 1, 2, 3, 4, 8, 9, 10, 11] ?_; simp only [keepEnv, lkp, zE, reduceCtorEq, reduceEqDiff, argEnv, reduceAdd]
  refine awp_seq_k fun K3 hK3 => ?_
  refine awp_reg hP hN rfl ?_
  iterate 2 (refine rg_step rfl fun K0 hK0 => ?_; simp only [zE, op1, ev, lkp, avOf, acOf, opLoad, Nat.mul_one, readAC, isAggK, acs, Ty.dflt, zG, cellsAt, opBuild, fillAC, writeAC, cellsAV, reduceCtorEq, reduceEqDiff, reduceAdd, reduceLeDiff, reduceLT, reduceMul, reduceSub, Try.ea81, Try.sa81, Try.st110, Try.td110, Try.td81, List.length_map, List.length_append, List.length_cons, List.length_nil, keyAV.intsAC, Option.map_some, AV.valOf]; (repeat refine And.intro (by first | omega | assumption | exact rfl) ?_); (first | refine hK0 _ ?_ | refine Or.inl (hK0 _ ?_)); clear hK0 K0; simp only [put, app, setAll, trOf, zE, zS, reduceAdd])
  (refine rg_step rfl fun K0 hK0 => ?_; simp only [zE, op1, ev, lkp, avOf, acOf, opBuildSlice, fillAC, chunk, rep, datOf, writeAC, cellsAV, Ty.size, reduceCtorEq, reduceEqDiff, reduceAdd, reduceLeDiff, reduceLT, reduceMul, reduceSub, Try.el83, Try.td1, Try.td83, List.length_map, List.length_append, List.length_cons, List.length_nil, keyAV.intsAC, Option.map_some, AV.valOf]; (repeat refine And.intro (by first | omega | assumption | exact rfl) ?_); refine Or.inr (Or.inl (hK0 _ ?_)); clear hK0 K0; simp only [put, app, setAll, trOf, zE, zS, reduceAdd])
  (refine rg_step rfl fun K0 hK0 => ?_; simp only [zE, op1, ev, lkp, avOf, acOf, ev, reduceCtorEq, reduceEqDiff, reduceAdd, reduceLeDiff, reduceLT, reduceMul, reduceSub, Try.el83, Try.td83, List.length_map, List.length_append, List.length_cons, List.length_nil, keyAV.intsAC, Option.map_some, AV.valOf]; (repeat refine And.intro (by first | omega | assumption | exact rfl) ?_); (first | refine hK0 _ ?_ | refine Or.inl (hK0 _ ?_)); clear hK0 K0; simp only [put, app, setAll, trOf, zE, zS, reduceAdd])
  refine rg_nil ?_
  refine hK3 _ ?_; clear hK3; refine awp_keep [0, 1, 2, 3, 4, 8, 9, 10, 11, 12] ?_; simp only [keepEnv, lkp, zE, reduceCtorEq, reduceEqDiff, argEnv, reduceAdd]
  refine awp_seq_k fun K4 hK4 => ?_
  refine awp_seq_k fun K5 hK5 => ?_
  refine awp_reg hP hN rfl ?_
  iterate 2 (refine rg_step rfl fun K0 hK0 => ?_; simp only [zE, op1, ev, lkp, avOf, acOf, opLoad, Nat.mul_one, readAC, isAggK, acs, Ty.dflt, zG, cellsAt, reduceCtorEq, reduceEqDiff, reduceAdd, reduceLeDiff, reduceLT, reduceMul, reduceSub, Try.ea81, Try.sa81, Try.td81, Try.td87, List.length_map, List.length_append, List.length_cons, List.length_nil, keyAV.intsAC, Option.map_some, AV.valOf]; (repeat refine And.intro (by first | omega | assumption | exact rfl) ?_); (first | refine hK0 _ ?_ | refine Or.inl (hK0 _ ?_)); clear hK0 K0; simp only [put, app, setAll, trOf, zE, zS, reduceAdd])
  refine rg_step rfl fun K0 hK0 => ?_
  refine op_call (h := call_of_pure (hg p h0)) rfl rfl (by first | exact rfl | (simp only [ev, keepEnv, lkp, zE, reduceCtorEq, reduceEqDiff, argEnv, reduceAdd]; exact rfl)) (by simp only [zE, zG, op1, ev, lkp, avOf, acOf, cellsAV, acs, capAV, mv1, mvC, Ty.dflt, reduceCtorEq, reduceEqDiff, reduceAdd, reduceLeDiff, reduceLT, reduceMul, reduceSub, List.length_map, List.length_append, List.length_cons, List.length_nil, keyAV.intsAC, Option.map_some, AV.valOf]) ?_
  refine hK0 _ ?_; clear hK0 K0; simp only [put, app, setAll, trOf, zE, zS, reduceAdd]
  refine rg_nil ?_
  refine hK5 _ ?_; clear hK5; refine awp_keep [0, 1, 2, 3, 4, 8, 9, 10, 11, 12, 26] ?_; simp only [keepEnv, lkp, zE, reduceCtorEq, reduceEqDiff, argEnv, reduceAdd]
  refine awp_cond (by simp only [ev, keepEnv, lkp, zE, reduceCtorEq, reduceEqDiff, argEnv, reduceAdd]; exact rfl) (fun hc6 => ?_) (fun hc6 => ?_)
  · (try simp only [zB, reduceCtorEq] at hc6)
    have hg0 : G p = true := hc6
    obtain ⟨k9, hk9⟩ := dRun_pre A n (n1 * n2 + 1) 0 [(p, [])]
    have hres : dQ G (dAll A n (n1 * n2) p) = [(p, [])] ∧ dB G (dAll A n (n1 * n2) p) = true := by unfold dAll; rw [hk9]; exact dQ_hit (l := []) (e := (p, [])) (by simp) hg0
    refine awp_seq_k fun K7 hK7 => ?_
    refine awp_reg hP hN rfl ?_
    iterate 5 (refine rg_step rfl fun K0 hK0 => ?_; simp only [zE, op1, ev, lkp, avOf, acOf, ev, reduceCtorEq, reduceEqDiff, reduceAdd, reduceLeDiff, reduceLT, reduceMul, reduceSub, Try.el83, Try.mk84, Try.td4, Try.td83, List.length_map, List.length_append, List.length_cons, List.length_nil, keyAV.intsAC, Option.map_some, AV.valOf]; (repeat refine And.intro (by first | omega | assumption | exact rfl) ?_); (first | refine hK0 _ ?_ | refine Or.inl (hK0 _ ?_)); clear hK0 K0; simp only [put, app, setAll, trOf, zE, zS, reduceAdd])
    refine rg_nil ?_
    refine hK7 _ ?_; clear hK7; refine awp_keep [0, 1, 2, 3, 4, 8, 9, 10, 11, 12, 26] ?_; simp only [keepEnv, lkp, zE, reduceCtorEq, reduceEqDiff, argEnv, reduceAdd]
    refine awp_ret ?_
    refine ⟨by first | exact .inl rfl | exact .inr rfl, _, rfl, _, [_], [_], rfl, ?_, ?_, ?_⟩
    · rw [hres.1]; rfl
    · simp only [fz1, fzC, List.map_cons, List.map_nil, keepEnv, lkp, zE, reduceCtorEq, reduceEqDiff, hres.1, List.map_append, if_true] <;> rfl
    · rw [hres.2]; rfl
  · (try simp only [zB, reduceCtorEq] at hc6)
    have hg0 : G p = false := by simpa using hc6
    refine awp_skip ?_
    refine hK4 _ ?_; clear hK4; refine awp_keep [0, 1, 2, 3, 4, 8, 9, 10, 11, 12, 26] ?_; simp only [keepEnv, lkp, zE, reduceCtorEq, reduceEqDiff, argEnv, reduceAdd]
    refine awp_seq_k fun K8 hK8 => ?_
    refine awp_seq_k fun K9 hK9 => ?_
    refine awp_reg hP hN rfl ?_
    (refine rg_step rfl fun K0 hK0 => ?_; simp only [zE, op1, ev, lkp, avOf, acOf, ev, reduceCtorEq, reduceEqDiff, reduceAdd, reduceLeDiff, reduceLT, reduceMul, reduceSub, Try.td3, List.length_map, List.length_append, List.length_cons, List.length_nil, keyAV.intsAC, Option.map_some, AV.valOf]; (repeat refine And.intro (by first | omega | assumption | exact rfl) ?_); (first | refine hK0 _ ?_ | refine Or.inl (hK0 _ ?_)); clear hK0 K0; simp only [put, app, setAll, trOf, zE, zS, reduceAdd])
    refine rg_nil ?_
    refine hK9 _ ?_; clear hK9; refine awp_keep [0, 1, 2, 3, 4, 8, 9, 10, 11, 12, 13, 26] ?_; simp only [keepEnv, lkp, zE, reduceCtorEq, reduceEqDiff, argEnv, reduceAdd]
    refine awp_block ?_
    refine awp_loop (fun n10 s10 => ∃ (k : Nat) (l : List W3) (v : Nat), (DW n1 n2 l) ∧ (dRun A n (n1 * n2 + 1 - k) k l = (dAll A n (n1 * n2) p)) ∧ (k ≤ l.length) ∧ (∀ e, e ∈ l → G e.1 = false) ∧ n10 = n1 * n2 + 1 - k ∧ s10 = { env := [(1, .one (.int .i64 (n : Int))), (2, .one (.fn f cf)), (3, .one (.fn g cg)), (8, .one .nils), (9, .one .junk), (10, .one (.bool false)), (11, .one (.mpv 1)), (12, .one (.row 2 v)), (13, .one (.int .i64 (k : Int)))], L := [.vars 81 [.int .i64 p.1, .int .i64 p.2], .mp 84 .int (mpE l), .row (.pair (.pair (.int .i64) (.pair (.int .i64) .unit)) (.pair (.list (.int .i64)) .unit)) 110 v (List.map encW l)] }) ?_ ?_
    · exact ⟨_, _, sub_keep [1, 2, 3, 8, 9, 10, 11, 12, 13], 0, [(p, [])], 0, dw_one h0, rfl, by simp, fun e he => by simp at he; subst he; exact hg0, rfl, rfl⟩
    · rintro n10 s10 ⟨k, l, v, hdw, hrun, hk, hno, rfl, rfl⟩
      refine awp_seq_k fun K11 hK11 => ?_
      refine awp_seq_k fun K12 hK12 => ?_
      have hdl := hdw.le
      refine awp_reg hP hN rfl ?_
      iterate 4 (refine rg_step rfl fun K0 hK0 => ?_; simp only [zE, op1, ev, lkp, avOf, acOf, opCallAny, opMM, opLen, lenAC, lenOk, fpAC, Nat.div_one, opAppend, srcOf, Ty.size, datOf, dite_true, opBin, arith, strOp, inK_i64, eqACs, eqAC, reduceCtorEq, reduceEqDiff, reduceAdd, reduceLeDiff, reduceLT, reduceMul, reduceSub, Try.el83, Try.td3, Try.td4, Try.td83, List.length_map, List.length_append, List.length_cons, List.length_nil, keyAV.intsAC, Option.map_some, AV.valOf]; (repeat refine And.intro (by first | omega | assumption | exact rfl) ?_); (first | refine hK0 _ ?_ | refine Or.inl (hK0 _ ?_)); clear hK0 K0; simp only [put, app, setAll, trOf, zE, zS, reduceAdd])
      refine rg_nil ?_
      refine hK12 _ ?_; clear hK12; refine awp_keep [1, 2, 3, 8, 9, 10, 11, 12, 13, 32] ?_; simp only [keepEnv, lkp, zE, reduceCtorEq, reduceEqDiff, argEnv, reduceAdd]
      refine awp_cond (by simp only [ev, keepEnv, lkp, zE, reduceCtorEq, reduceEqDiff, argEnv, reduceAdd]; exact rfl) (fun hc13 => ?_) (fun hc13 => ?_)
      · (try simp only [zB, reduceCtorEq] at hc13)
        refine awp_skip ?_
        refine hK11 _ ?_; clear hK11; refine awp_keep [1, 2, 3, 8, 9, 10, 11, 12, 13, 32] ?_; simp only [keepEnv, lkp, zE, reduceCtorEq, reduceEqDiff, argEnv, reduceAdd]
        refine awp_seq_k fun K14 hK14 => ?_
        refine awp_block ?_
        refine awp_seq_k fun K15 hK15 => ?_
        have hkl : k < l.length := by omega
        refine awp_reg hP hN rfl ?_
        iterate 2 (refine rg_step rfl fun K0 hK0 => ?_; simp only [zE, op1, ev, lkp, avOf, acOf, ev, reduceCtorEq, reduceEqDiff, reduceAdd, reduceLeDiff, reduceLT, reduceMul, reduceSub, Try.td3, List.length_map, List.length_append, List.length_cons, List.length_nil, keyAV.intsAC, Option.map_some, AV.valOf]; (repeat refine And.intro (by first | omega | assumption | exact rfl) ?_); (first | refine hK0 _ ?_ | refine Or.inl (hK0 _ ?_)); clear hK0 K0; simp only [put, app, setAll, trOf, zE, zS, reduceAdd])
        refine rg_nil ?_
        refine hK15 _ ?_; clear hK15; refine awp_keep [1, 2, 3, 8, 9, 10, 11, 12, 13, 32, 35, 36] ?_; simp only [keepEnv, lkp, zE, reduceCtorEq, reduceEqDiff, argEnv, reduceAdd]
        refine awp_block ?_
        refine awp_loop (fun n16 s16 => ∃ (x : Nat) (v2 : Nat), (x ≤ n) ∧ (DW n1 n2 (dRow A (l.getD k w30) l x)) ∧ (∀ e, e ∈ (dRow A (l.getD k w30) l x) → G e.1 = false) ∧ n16 = n - x ∧ s16 = { env := [(1, .one (.int .i64 (n : Int))), (2, .one (.fn f cf)), (3, .one (.fn g cg)), (8, .one .nils), (9, .one .junk), (10, .one (.bool false)), (11, .one (.mpv 1)), (12, .one (.row 2 v2)), (13, .one (.int .i64 (k : Int))), (35, .one (.int .i64 (n : Int))), (36, .one (.int .i64 (x : Int)))], L := [.vars 81 [.int .i64 p.1, .int .i64 p.2], .mp 84 .int (mpE (dRow A (l.getD k w30) l x)), .row (.pair (.pair (.int .i64) (.pair (.int .i64) .unit)) (.pair (.list (.int .i64)) .unit)) 110 v2 (List.map encW (dRow A (l.getD k w30) l x))] }) ?_ ?_
        · exact ⟨_, _, sub_keep [1, 2, 3, 8, 9, 10, 11, 12, 13, 35, 36], 0, v, Nat.zero_le _, hdw, hno, rfl, rfl⟩
        · rintro n16 s16 ⟨x, v2, hx, hdc, hnc, rfl, rfl⟩
          refine awp_seq_k fun K17 hK17 => ?_
          refine awp_reg hP hN rfl ?_
          (refine rg_step rfl fun K0 hK0 => ?_; simp only [zE, op1, ev, lkp, avOf, acOf, opBin, arith, strOp, inK_i64, eqACs, eqAC, reduceCtorEq, reduceEqDiff, reduceAdd, reduceLeDiff, reduceLT, reduceMul, reduceSub, Try.td3, Try.td4, List.length_map, List.length_append, List.length_cons, List.length_nil, keyAV.intsAC, Option.map_some, AV.valOf]; (repeat refine And.intro (by first | omega | assumption | exact rfl) ?_); (first | refine hK0 _ ?_ | refine Or.inl (hK0 _ ?_)); clear hK0 K0; simp only [put, app, setAll, trOf, zE, zS, reduceAdd])
          refine rg_nil ?_
          refine hK17 _ ?_; clear hK17; refine awp_keep [1, 2, 3, 8, 9, 10, 11, 12, 13, 35, 36, 37] ?_; simp only [keepEnv, lkp, zE, reduceCtorEq, reduceEqDiff, argEnv, reduceAdd]
          refine awp_seq_k fun K18 hK18 => ?_
          refine awp_cond (by simp only [ev, keepEnv, lkp, zE, reduceCtorEq, reduceEqDiff, argEnv, reduceAdd]; exact rfl) (fun hc19 => ?_) (fun hc19 => ?_)
          · (try simp only [zB, reduceCtorEq] at hc19)
            refine awp_skip ?_
            refine hK18 _ ?_; clear hK18; refine awp_keep [1, 2, 3, 8, 9, 10, 11, 12, 13, 35, 36, 37] ?_; simp only [keepEnv, lkp, zE, reduceCtorEq, reduceEqDiff, argEnv, reduceAdd]
            refine awp_seq_k fun K20 hK20 => ?_
            refine awp_block ?_
            refine awp_seq_k fun K21 hK21 => ?_
            refine awp_reg hP hN rfl ?_
            iterate 2 (refine rg_step rfl fun K0 hK0 => ?_; simp only [zE, op1, ev, lkp, avOf, acOf, ev, reduceCtorEq, reduceEqDiff, reduceAdd, reduceLeDiff, reduceLT, reduceMul, reduceSub, Try.td3, List.length_map, List.length_append, List.length_cons, List.length_nil, keyAV.intsAC, Option.map_some, AV.valOf]; (repeat refine And.intro (by first | omega | assumption | exact rfl) ?_); (first | refine hK0 _ ?_ | refine Or.inl (hK0 _ ?_)); clear hK0 K0; simp only [put, app, setAll, trOf, zE, zS, reduceAdd])
            refine rg_nil ?_
            refine hK21 _ ?_; clear hK21; refine awp_keep [1, 2, 3, 8, 9, 10, 11, 12, 13, 14, 35, 36, 37] ?_; simp only [keepEnv, lkp, zE, reduceCtorEq, reduceEqDiff, argEnv, reduceAdd]
            refine awp_seq_k fun K22 hK22 => ?_
            have hge := dRow_ge A (l.getD k w30) l x; have hgi : ∀ d, (List.map encW (dRow A (l.getD k w30) l x)).getD k d = (((l.getD k w30).1.1, ((l.getD k w30).1.2, ())), ((l.getD k w30).2, ())) := fun d => by (first | rw [encW_at (by omega), dRow_at A _ x hkl] | rw [encW_at (by omega)])
            have hcl := hdc.le; have hwl := hdw.wl _ (w3_mem hkl); have hq9 := hA _ (hdw.rg _ (w3_mem hkl)) x (by omega); have hkv := inR_ok hq9 hb1 hb2
            refine awp_reg hP hN rfl ?_
            iterate 7 (refine rg_step rfl fun K0 hK0 => ?_; simp only [zE, op1, ev, lkp, avOf, acOf, opIndexAddr, zG, Ty.dflt, Ty.size, Nat.mul_one, ne_eq, not_false_eq_true, Int.natCast_one, Int.mul_one, opFieldAddr, opLoad, readAC, isAggK, acs, cellsAt, reduceCtorEq, reduceEqDiff, reduceAdd, reduceLeDiff, reduceLT, reduceMul, reduceSub, Try.ea81, Try.el83, Try.sa81, Try.st110, Try.td110, Try.td3, Try.td81, Try.td82, Try.td83, List.length_map, List.length_append, List.length_cons, List.length_nil, keyAV.intsAC, Option.map_some, AV.valOf, hgi]; (repeat refine And.intro (by first | omega | assumption | exact rfl) ?_); (first | refine hK0 _ ?_ | refine Or.inl (hK0 _ ?_)); clear hK0 K0; simp only [put, app, setAll, trOf, zE, zS, reduceAdd])
            refine rg_step rfl fun K0 hK0 => ?_
            refine op_call (h := call_of_pure (hf (l.getD k w30).1 x (hdw.rg _ (w3_mem hkl)) (by omega))) rfl rfl (by first | exact rfl | (simp only [ev, keepEnv, lkp, zE, reduceCtorEq, reduceEqDiff, argEnv, reduceAdd]; exact rfl)) (by simp only [zE, zG, op1, ev, lkp, avOf, acOf, cellsAV, acs, capAV, mv1, mvC, Ty.dflt, reduceCtorEq, reduceEqDiff, reduceAdd, reduceLeDiff, reduceLT, reduceMul, reduceSub, List.length_map, List.length_append, List.length_cons, List.length_nil, keyAV.intsAC, Option.map_some, AV.valOf, hgi]) ?_
            refine hK0 _ ?_; clear hK0 K0; simp only [put, app, setAll, trOf, zE, zS, reduceAdd]
            iterate 2 (refine rg_step rfl fun K0 hK0 => ?_; simp only [zE, op1, ev, lkp, avOf, acOf, opAlloc, opStore, Nat.mul_one, cellsAV, writeAC, datOf, acs, Ty.size, Ty.dflt, zG, reduceCtorEq, reduceEqDiff, reduceAdd, reduceLeDiff, reduceLT, reduceMul, reduceSub, Try.ea81, Try.sa81, Try.td81, List.length_map, List.length_append, List.length_cons, List.length_nil, keyAV.intsAC, Option.map_some, AV.valOf, hgi]; (repeat refine And.intro (by first | omega | assumption | exact rfl) ?_); (first | refine hK0 _ ?_ | refine Or.inl (hK0 _ ?_)); clear hK0 K0; simp only [put, app, setAll, trOf, zE, zS, reduceAdd])
            refine rg_nil ?_
            refine hK22 _ ?_; clear hK22; refine awp_keep [1, 2, 3, 8, 9, 10, 11, 12, 13, 14, 15, 35, 36, 37] ?_; simp only [keepEnv, lkp, zE, reduceCtorEq, reduceEqDiff, argEnv, reduceAdd]
            refine awp_seq_k fun K23 hK23 => ?_
            refine awp_seq_k fun K24 hK24 => ?_
            refine awp_reg hP hN rfl ?_
            iterate 8 (refine rg_step rfl fun K0 hK0 => ?_; simp only [zE, op1, ev, lkp, avOf, acOf, opLoad, Nat.mul_one, readAC, isAggK, acs, Ty.dflt, zG, cellsAt, opLookup, keyAV, VK.ac, opExtract, reduceCtorEq, reduceEqDiff, reduceAdd, reduceLeDiff, reduceLT, reduceMul, reduceSub, Try.ea81, Try.mk84, Try.sa81, Try.td1, Try.td3, Try.td4, Try.td81, List.length_map, List.length_append, List.length_cons, List.length_nil, keyAV.intsAC, Option.map_some, AV.valOf]; (repeat refine And.intro (by first | omega | assumption | exact rfl) ?_); (first | refine hK0 _ ?_ | refine Or.inl (hK0 _ ?_)); clear hK0 K0; simp only [put, app, setAll, trOf, zE, zS, reduceAdd])
            refine rg_nil ?_
            refine hK24 _ ?_; clear hK24; refine awp_keep [1, 2, 3, 8, 9, 10, 11, 12, 13, 14, 15, 17, 35, 36, 37] ?_; simp only [keepEnv, lkp, zE, reduceCtorEq, reduceEqDiff, argEnv, reduceAdd]
            refine awp_seq_k fun K25 hK25 => ?_
            refine awp_reg hP hN rfl ?_
            (refine rg_step rfl fun K0 hK0 => ?_; simp only [zE, op1, ev, lkp, avOf, acOf, ev, reduceCtorEq, reduceEqDiff, reduceAdd, reduceLeDiff, reduceLT, reduceMul, reduceSub, Try.td4, List.length_map, List.length_append, List.length_cons, List.length_nil, keyAV.intsAC, Option.map_some, AV.valOf]; (repeat refine And.intro (by first | omega | assumption | exact rfl) ?_); (first | refine hK0 _ ?_ | refine Or.inl (hK0 _ ?_)); clear hK0 K0; simp only [put, app, setAll, trOf, zE, zS, reduceAdd])
            refine rg_nil ?_
            refine hK25 _ ?_; clear hK25; refine awp_keep [1, 2, 3, 8, 9, 10, 11, 12, 13, 14, 15, 17, 35, 36, 37, 53] ?_; simp only [keepEnv, lkp, zE, reduceCtorEq, reduceEqDiff, argEnv, reduceAdd]
            refine awp_cond (by simp only [ev, keepEnv, lkp, zE, reduceCtorEq, reduceEqDiff, argEnv, reduceAdd]; exact rfl) (fun hc26 => ?_) (fun hc26 => ?_)
            · (try simp only [zB, reduceCtorEq] at hc26)
              have hin : (A (l.getD k w30).1 x) ∈ (dRow A (l.getD k w30) l x).map Prod.fst := look_in hc26
              refine awp_exit ?_
              refine hK20 _ ?_; clear hK20; refine awp_keep [1, 2, 3, 8, 9, 10, 11, 12, 13, 14, 15, 17, 35, 36, 37, 53] ?_; simp only [keepEnv, lkp, zE, reduceCtorEq, reduceEqDiff, argEnv, reduceAdd]
              refine awp_keep [1, 2, 3, 8, 9, 10, 11, 12, 13, 35, 36] ?_; simp only [keepEnv, lkp, zE, reduceCtorEq, reduceEqDiff]
              refine awp_pop (L1 := [_, _, _]) rfl hB (by simp only [List.all_cons, List.all_nil, freeV, free1, pats_free hcf, pats_free hcg]; rfl) rfl ?_
              refine awp_reg hP hN rfl ?_
              iterate 2 (refine rg_step rfl fun K0 hK0 => ?_; simp only [zE, op1, ev, lkp, avOf, acOf, opBin, arith, strOp, inK_i64, eqACs, eqAC, reduceCtorEq, reduceEqDiff, reduceAdd, reduceLeDiff, reduceLT, reduceMul, reduceSub, Try.td3, List.length_map, List.length_append, List.length_cons, List.length_nil, keyAV.intsAC, Option.map_some, AV.valOf]; (repeat refine And.intro (by first | omega | assumption | exact rfl) ?_); (first | refine hK0 _ ?_ | refine Or.inl (hK0 _ ?_)); clear hK0 K0; simp only [put, app, setAll, trOf, zE, zS, reduceAdd])
              refine rg_nil ?_
              first
              | (have hs9 : dRow A (l.getD k w30) l (x + 1) = (dRow A (l.getD k w30) l x) := by rw [dRow_succ, dSt_in hin]
                 refine ⟨_, _, ?_, sub_keep [1, 2, 3, 8, 9, 10, 11, 12, 13, 35, 36], x + 1, v2, by omega, by rw [hs9]; exact hdc, by rw [hs9]; exact hnc, rfl, ?_⟩
                 · omega
                 · rw [hs9]; rfl)
              | (have hs9 : dRow A (l.getD k w30) l (x + 1) = (dRow A (l.getD k w30) l x) ++ [((A (l.getD k w30).1 x), (l.getD k w30).2 ++ [(x : Int)])] := by rw [dRow_succ, dSt_out hnin]
                 have hm9 : (l.getD k w30) ∈ (dRow A (l.getD k w30) l x) := by obtain ⟨k8, h8⟩ := dRow_pre A (l.getD k w30) l x; rw [h8]; exact List.mem_append.2 (.inl (w3_mem hkl))
                 refine ⟨_, _, ?_, sub_keep [1, 2, 3, 8, 9, 10, 11, 12, 13, 35, 36], x + 1, v2 + 1, by omega, by rw [dRow_succ]; exact hdc.step hA hm9 (by omega), ?_, rfl, ?_⟩
                 · omega
                 · rw [hs9]; intro e he; rcases List.mem_append.1 he with he | he
                   · exact hnc e he
                   · simp at he; subst he; exact hgx
                 · rw [hs9, List.map_append]; rfl)
            · (try simp only [zB, reduceCtorEq] at hc26)
              have hn8 : (mlook (mpE (dRow A (l.getD k w30) l x)) (.arr [(A (l.getD k w30).1 x).1, (A (l.getD k w30).1 x).2])).isSome = false := hc26
              have hnin : (A (l.getD k w30).1 x) ∉ (dRow A (l.getD k w30) l x).map Prod.fst := look_no hdc.nd hn8
              refine awp_skip ?_
              refine hK23 _ ?_; clear hK23; refine awp_keep [1, 2, 3, 8, 9, 10, 11, 12, 13, 14, 15, 17, 35, 36, 37, 53] ?_; simp only [keepEnv, lkp, zE, reduceCtorEq, reduceEqDiff, argEnv, reduceAdd]
              refine awp_seq_k fun K27 hK27 => ?_
              refine awp_reg hP hN rfl ?_
              iterate 5 (refine rg_step rfl fun K0 hK0 => ?_; simp only [zE, op1, ev, lkp, avOf, acOf, opLoad, Nat.mul_one, readAC, isAggK, acs, Ty.dflt, zG, cellsAt, opCallAny, opMM, opLen, lenAC, lenOk, fpAC, Nat.div_one, opAppend, srcOf, Ty.size, datOf, dite_true, opMapUpdate, keyAV, valOf, reduceCtorEq, reduceEqDiff, reduceAdd, reduceLeDiff, reduceLT, reduceMul, reduceSub, Try.ea81, Try.el83, Try.mk84, Try.sa81, Try.td3, Try.td81, Try.td83, List.length_map, List.length_append, List.length_cons, List.length_nil, keyAV.intsAC, Option.map_some, AV.valOf]; (repeat refine And.intro (by first | omega | assumption | exact rfl) ?_); (first | refine hK0 _ ?_ | refine Or.inl (hK0 _ ?_)); clear hK0 K0; simp only [put, app, setAll, trOf, zE, zS, reduceAdd])
              refine rg_nil ?_
              refine hK27 _ ?_; clear hK27; refine awp_keep [1, 2, 3, 8, 9, 10, 11, 12, 13, 14, 15, 17, 35, 36, 37, 53] ?_; simp only [keepEnv, lkp, zE, reduceCtorEq, reduceEqDiff, argEnv, reduceAdd]
              refine awp_seq_k fun K28 hK28 => ?_
              rw [show mput (mpE (dRow A (l.getD k w30) l x)) (.arr [(A (l.getD k w30).1 x).1, (A (l.getD k w30).1 x).2]) ((dRow A (l.getD k w30) l x).length : Int) = mpE ((dRow A (l.getD k w30) l x) ++ [((A (l.getD k w30).1 x), (l.getD k w30).2 ++ [(x : Int)])]) from mput_new' hnin]
              refine awp_drw hP hN Try.mixed rfl ?_
              iterate 10 (refine rg_step rfl fun K0 hK0 => ?_; simp only [zE, op1, ev, lkp, avOf, acOf, opLoad, Nat.mul_one, readAC, isAggK, acs, Ty.dflt, zG, cellsAt, opIndexAddr, Ty.size, ne_eq, not_false_eq_true, Int.natCast_one, Int.mul_one, opFieldAddr, opBuildSlice, fillAC, chunk, rep, datOf, writeAC, cellsAV, reduceCtorEq, reduceEqDiff, reduceAdd, reduceLeDiff, reduceLT, reduceMul, reduceSub, Try.ea81, Try.el22, Try.el26, Try.el83, Try.sa81, Try.st110, Try.td1, Try.td110, Try.td2, Try.td22, Try.td26, Try.td3, Try.td81, Try.td83, List.length_map, List.length_append, List.length_cons, List.length_nil, keyAV.intsAC, Option.map_some, AV.valOf, hgi, List.flatten_cons, List.flatten_nil, List.append_nil]; (repeat refine And.intro (by first | omega | assumption | exact rfl) ?_); (first | refine hK0 _ ?_ | refine Or.inl (hK0 _ ?_)); clear hK0 K0; simp only [put, app, setAll, trOf, zE, zS, reduceAdd, List.flatten_cons, List.flatten_nil, List.append_nil])
              refine rg_step rfl fun K0 hK0 => ?_
              refine op_call (h := call_of_pure (wjoin_c [(l.getD k w30).2, [(x : Int)]] (by rw [flat2_len]; omega))) rfl rfl (by first | exact rfl | (simp only [ev, keepEnv, lkp, zE, reduceCtorEq, reduceEqDiff, argEnv, reduceAdd]; exact rfl)) (by simp only [zE, zG, op1, ev, lkp, avOf, acOf, cellsAV, acs, capAV, mv1, mvC, Ty.dflt, reduceCtorEq, reduceEqDiff, reduceAdd, reduceLeDiff, reduceLT, reduceMul, reduceSub, List.length_map, List.length_append, List.length_cons, List.length_nil, keyAV.intsAC, Option.map_some, AV.valOf, hgi, List.flatten_cons, List.flatten_nil, List.append_nil]) ?_
              refine hK0 _ ?_; clear hK0 K0; simp only [put, app, setAll, trOf, zE, zS, reduceAdd, List.flatten_cons, List.flatten_nil, List.append_nil]
              iterate 4 (refine rg_step rfl fun K0 hK0 => ?_; simp only [zE, op1, ev, lkp, avOf, acOf, opBuild, fillAC, writeAC, cellsAV, opBuildSlice, chunk, rep, datOf, Ty.size, opCallAny, opMM, opLen, lenAC, lenOk, fpAC, Nat.div_one, opAppend, srcOf, dite_true, reduceCtorEq, reduceEqDiff, reduceAdd, reduceLeDiff, reduceLT, reduceMul, reduceSub, Try.el83, Try.st110, Try.td1, Try.td110, Try.td83, List.length_map, List.length_append, List.length_cons, List.length_nil, keyAV.intsAC, Option.map_some, AV.valOf, hgi, List.flatten_cons, List.flatten_nil, List.append_nil]; (repeat refine And.intro (by first | omega | assumption | exact rfl) ?_); (first | refine hK0 _ ?_ | refine Or.inl (hK0 _ ?_)); clear hK0 K0; simp only [put, app, setAll, trOf, zE, zS, reduceAdd, List.flatten_cons, List.flatten_nil, List.append_nil])
              refine rg_nil ?_
              refine ⟨by kernel_rfl, ?_⟩
              refine hK28 _ ?_; clear hK28; refine awp_keep [1, 2, 3, 8, 9, 10, 11, 12, 13, 14, 15, 17, 35, 36, 37, 53] ?_; simp only [keepEnv, lkp, zE, reduceCtorEq, reduceEqDiff, argEnv, reduceAdd]
              refine awp_seq_k fun K29 hK29 => ?_
              refine awp_reg hP hN rfl ?_
              iterate 2 (refine rg_step rfl fun K0 hK0 => ?_; simp only [zE, op1, ev, lkp, avOf, acOf, opLoad, Nat.mul_one, readAC, isAggK, acs, Ty.dflt, zG, cellsAt, reduceCtorEq, reduceEqDiff, reduceAdd, reduceLeDiff, reduceLT, reduceMul, reduceSub, Try.ea81, Try.sa81, Try.td81, Try.td87, List.length_map, List.length_append, List.length_cons, List.length_nil, keyAV.intsAC, Option.map_some, AV.valOf]; (repeat refine And.intro (by first | omega | assumption | exact rfl) ?_); (first | refine hK0 _ ?_ | refine Or.inl (hK0 _ ?_)); clear hK0 K0; simp only [put, app, setAll, trOf, zE, zS, reduceAdd])
              refine rg_step rfl fun K0 hK0 => ?_
              refine op_call (h := call_of_pure (hg (A (l.getD k w30).1 x) hq9)) rfl rfl (by first | exact rfl | (simp only [ev, keepEnv, lkp, zE, reduceCtorEq, reduceEqDiff, argEnv, reduceAdd]; exact rfl)) (by simp only [zE, zG, op1, ev, lkp, avOf, acOf, cellsAV, acs, capAV, mv1, mvC, Ty.dflt, reduceCtorEq, reduceEqDiff, reduceAdd, reduceLeDiff, reduceLT, reduceMul, reduceSub, List.length_map, List.length_append, List.length_cons, List.length_nil, keyAV.intsAC, Option.map_some, AV.valOf]) ?_
              refine hK0 _ ?_; clear hK0 K0; simp only [put, app, setAll, trOf, zE, zS, reduceAdd]
              refine rg_nil ?_
              refine hK29 _ ?_; clear hK29; refine awp_keep [1, 2, 3, 8, 9, 10, 11, 12, 13, 14, 15, 17, 35, 36, 37, 53, 74] ?_; simp only [keepEnv, lkp, zE, reduceCtorEq, reduceEqDiff, argEnv, reduceAdd]
              refine awp_cond (by simp only [ev, keepEnv, lkp, zE, reduceCtorEq, reduceEqDiff, argEnv, reduceAdd]; exact rfl) (fun hc30 => ?_) (fun hc30 => ?_)
              · (try simp only [zB, reduceCtorEq] at hc30)
                have hgx : G (A (l.getD k w30).1 x) = true := hc30
                obtain ⟨r9, hr9⟩ := dRun_mid (A := A) (n := n) (f := n1 * n2 - k) (x := x) hkl (by omega) hnin
                have hres : dQ G (dAll A n (n1 * n2) p) = (dRow A (l.getD k w30) l x) ++ [((A (l.getD k w30).1 x), (l.getD k w30).2 ++ [(x : Int)])] ∧ dB G (dAll A n (n1 * n2) p) = true := by rw [← hrun, show n1 * n2 + 1 - k = n1 * n2 - k + 1 by omega, hr9]; exact dQ_hit hnc hgx
                refine awp_seq_k fun K31 hK31 => ?_
                refine awp_reg hP hN rfl ?_
                iterate 5 (refine rg_step rfl fun K0 hK0 => ?_; simp only [zE, op1, ev, lkp, avOf, acOf, ev, reduceCtorEq, reduceEqDiff, reduceAdd, reduceLeDiff, reduceLT, reduceMul, reduceSub, Try.el83, Try.mk84, Try.td4, Try.td83, List.length_map, List.length_append, List.length_cons, List.length_nil, keyAV.intsAC, Option.map_some, AV.valOf]; (repeat refine And.intro (by first | omega | assumption | exact rfl) ?_); (first | refine hK0 _ ?_ | refine Or.inl (hK0 _ ?_)); clear hK0 K0; simp only [put, app, setAll, trOf, zE, zS, reduceAdd])
                refine rg_nil ?_
                refine hK31 _ ?_; clear hK31; refine awp_keep [1, 2, 3, 8, 9, 10, 11, 12, 13, 14, 15, 17, 35, 36, 37, 53, 74] ?_; simp only [keepEnv, lkp, zE, reduceCtorEq, reduceEqDiff, argEnv, reduceAdd]
                refine awp_ret ?_
                refine ⟨by first | exact .inl rfl | exact .inr rfl, _, rfl, _, [_], [_], rfl, ?_, ?_, ?_⟩
                · rw [hres.1]; rfl
                · simp only [fz1, fzC, List.map_cons, List.map_nil, keepEnv, lkp, zE, reduceCtorEq, reduceEqDiff, hres.1, List.map_append, if_true] <;> rfl
                · rw [hres.2]; rfl
              · (try simp only [zB, reduceCtorEq] at hc30)
                have hgx : G (A (l.getD k w30).1 x) = false := by simpa using hc30
                refine awp_skip ?_
                refine hK20 _ ?_; clear hK20; refine awp_keep [1, 2, 3, 8, 9, 10, 11, 12, 13, 14, 15, 17, 35, 36, 37, 53, 74] ?_; simp only [keepEnv, lkp, zE, reduceCtorEq, reduceEqDiff, argEnv, reduceAdd]
                refine awp_keep [1, 2, 3, 8, 9, 10, 11, 12, 13, 35, 36] ?_; simp only [keepEnv, lkp, zE, reduceCtorEq, reduceEqDiff]
                refine awp_pop (L1 := [_, _, _]) rfl hB (by simp only [List.all_cons, List.all_nil, freeV, free1, pats_free hcf, pats_free hcg]; rfl) rfl ?_
                refine awp_reg hP hN rfl ?_
                iterate 2 (refine rg_step rfl fun K0 hK0 => ?_; simp only [zE, op1, ev, lkp, avOf, acOf, opBin, arith, strOp, inK_i64, eqACs, eqAC, reduceCtorEq, reduceEqDiff, reduceAdd, reduceLeDiff, reduceLT, reduceMul, reduceSub, Try.td3, List.length_map, List.length_append, List.length_cons, List.length_nil, keyAV.intsAC, Option.map_some, AV.valOf]; (repeat refine And.intro (by first | omega | assumption | exact rfl) ?_); (first | refine hK0 _ ?_ | refine Or.inl (hK0 _ ?_)); clear hK0 K0; simp only [put, app, setAll, trOf, zE, zS, reduceAdd])
                refine rg_nil ?_
                first
                | (have hs9 : dRow A (l.getD k w30) l (x + 1) = (dRow A (l.getD k w30) l x) := by rw [dRow_succ, dSt_in hin]
                   refine ⟨_, _, ?_, sub_keep [1, 2, 3, 8, 9, 10, 11, 12, 13, 35, 36], x + 1, v2, by omega, by rw [hs9]; exact hdc, by rw [hs9]; exact hnc, rfl, ?_⟩
                   · omega
                   · rw [hs9]; rfl)
                | (have hs9 : dRow A (l.getD k w30) l (x + 1) = (dRow A (l.getD k w30) l x) ++ [((A (l.getD k w30).1 x), (l.getD k w30).2 ++ [(x : Int)])] := by rw [dRow_succ, dSt_out hnin]
                   have hm9 : (l.getD k w30) ∈ (dRow A (l.getD k w30) l x) := by obtain ⟨k8, h8⟩ := dRow_pre A (l.getD k w30) l x; rw [h8]; exact List.mem_append.2 (.inl (w3_mem hkl))
                   refine ⟨_, _, ?_, sub_keep [1, 2, 3, 8, 9, 10, 11, 12, 13, 35, 36], x + 1, v2 + 1, by omega, by rw [dRow_succ]; exact hdc.step hA hm9 (by omega), ?_, rfl, ?_⟩
                   · omega
                   · rw [hs9]; intro e he; rcases List.mem_append.1 he with he | he
                     · exact hnc e he
                     · simp at he; subst he; exact hgx
                   · rw [hs9, List.map_append]; rfl)
          · (try simp only [zB, reduceCtorEq] at hc19)
            refine awp_exit ?_
            refine hK14 _ ?_; clear hK14; refine awp_keep [1, 2, 3, 8, 9, 10, 11, 12, 13, 35, 36, 37] ?_; simp only [keepEnv, lkp, zE, reduceCtorEq, reduceEqDiff, argEnv, reduceAdd]
            refine awp_reg hP hN rfl ?_
            iterate 3 (refine rg_step rfl fun K0 hK0 => ?_; simp only [zE, op1, ev, lkp, avOf, acOf, opBin, arith, strOp, inK_i64, eqACs, eqAC, reduceCtorEq, reduceEqDiff, reduceAdd, reduceLeDiff, reduceLT, reduceMul, reduceSub, Try.td3, List.length_map, List.length_append, List.length_cons, List.length_nil, keyAV.intsAC, Option.map_some, AV.valOf]; (repeat refine And.intro (by first | omega | assumption | exact rfl) ?_); (first | refine hK0 _ ?_ | refine Or.inl (hK0 _ ?_)); clear hK0 K0; simp only [put, app, setAll, trOf, zE, zS, reduceAdd])
            refine rg_nil ?_
            obtain rfl : x = n := by omega
            have hge9 := dRow_ge A (l.getD k w30) l x
            refine ⟨_, _, ?_, sub_keep [1, 2, 3, 8, 9, 10, 11, 12, 13], k + 1, (dRow A (l.getD k w30) l x), v2, hdc, ?_, by omega, hnc, rfl, rfl⟩
            · omega
            · rw [← hrun, show n1 * n2 + 1 - k = n1 * n2 + 1 - (k + 1) + 1 by omega, dRun_next _ _ _ hkl]
      · (try simp only [zB, reduceCtorEq] at hc13)
        have hres : dQ G (dAll A n (n1 * n2) p) = l ∧ dB G (dAll A n (n1 * n2) p) = false := by rw [← hrun, dRun_end _ _ _ _ (by omega)]; exact dQ_miss hno
        refine awp_exit ?_
        refine hK8 _ ?_; clear hK8; refine awp_keep [1, 2, 3, 8, 9, 10, 11, 12, 13, 32] ?_; simp only [keepEnv, lkp, zE, reduceCtorEq, reduceEqDiff, argEnv, reduceAdd]
        refine awp_seq_k fun K32 hK32 => ?_
        refine awp_reg hP hN rfl ?_
        iterate 5 (refine rg_step rfl fun K0 hK0 => ?_; simp only [zE, op1, ev, lkp, avOf, acOf, ev, reduceCtorEq, reduceEqDiff, reduceAdd, reduceLeDiff, reduceLT, reduceMul, reduceSub, Try.el83, Try.mk84, Try.td4, Try.td83, List.length_map, List.length_append, List.length_cons, List.length_nil, keyAV.intsAC, Option.map_some, AV.valOf]; (repeat refine And.intro (by first | omega | assumption | exact rfl) ?_); (first | refine hK0 _ ?_ | refine Or.inl (hK0 _ ?_)); clear hK0 K0; simp only [put, app, setAll, trOf, zE, zS, reduceAdd])
        refine rg_nil ?_
        refine hK32 _ ?_; clear hK32; refine awp_keep [1, 2, 3, 8, 9, 10, 11, 12, 13, 32] ?_; simp only [keepEnv, lkp, zE, reduceCtorEq, reduceEqDiff, argEnv, reduceAdd]
        refine awp_ret ?_
        refine ⟨by first | exact .inl rfl | exact .inr rfl, _, rfl, _, [_], [_], rfl, ?_, ?_, ?_⟩
        · rw [hres.1]; rfl
        · simp only [fz1, fzC, List.map_cons, List.map_nil, keepEnv, lkp, zE, reduceCtorEq, reduceEqDiff, hres.1, List.map_append, if_true] <;> rfl
        · rw [hres.2]; rfl
end Go.Proofs.Ytdkgcbhbpdbmnaa
namespace Go.Proofs.Ytdkgcbhbpdbmnaa
open Go Go.AV
open Nat (reduceEqDiff reduceAdd reduceLeDiff reduceLT reduceMul reduceSub)
open List (set_cons_zero set_cons_succ)
set_option maxRecDepth 100000 in
set_option maxHeartbeats 1500000 in
theorem dbuild_c (n f g : Nat) (cf cg : List Cap) (A : STP) (G : PP → Bool) (p : PP) (n1 n2 : Nat) (N : Int) (hN : N = (n : Int)) (hcf : cf.all isPat = true) (hcg : cg.all isPat = true) (hb : n1 * n2 ≤ 100000) (hb1 : n1 ≤ 100000) (hb2 : n2 ≤ 100000) (hn : n ≤ 1024) (h0 : inR n1 n2 p) (hA : ∀ q, inR n1 n2 q → ∀ x, x < n → inR n1 n2 (A q x)) (hf : ∀ q x, inR n1 n2 q → x < n → PURE Try.prog f (.agg [.int .i64 q.1, .int .i64 q.2] :: .one (.int .i64 (x : Int)) :: cf.map capAV) (.agg [.int .i64 (A q x).1, .int .i64 (A q x).2])) (hg : ∀ q, inR n1 n2 q → PURE Try.prog g (.agg [.int .i64 q.1, .int .i64 q.2] :: cg.map capAV) (.one (.bool (G q)))) : PURE Try.prog 58 [.agg [.int .i64 p.1, .int .i64 p.2], .one (.int .i64 N), .one (.fn f cf), .one (.fn g cg)] (.tup [(dBD A G n (dAll A n (n1 * n2) p)).av, .one (.int .i64 (dBE (dAll A n (n1 * n2) p)))]) := by
  subst hN
  refine pure_of_le Try.func58 rfl (by kernel_rfl) (Nat.le_of_ble_eq_true rfl) (by simp only [List.all_cons, List.all_nil, pureV, pure1, pureC, hcf, hcg, Bool.and_true, Bool.and_self]) fun C hP hN hB => ?_
  replace hN : C.N = 72 := hN
  simp only [argEnv, reduceAdd]
  obtain ⟨hdw, hcls⟩ := dAll_closed hA h0
  have hdl := hdw.le
  refine awp_seq_k fun K1 hK1 => ?_
  refine awp_reg hP hN rfl ?_
  iterate 3 (refine rg_step rfl fun K0 hK0 => ?_; simp only [zE, op1, ev, lkp, avOf, acOf, opBox, cellsAV, opAlloc, reduceCtorEq, reduceEqDiff, reduceAdd, reduceLeDiff, reduceLT, reduceMul, reduceSub, Try.ea81, Try.sa81, Try.st25, Try.td25, Try.td29, Try.td81, Dfa.av, List.length_map, List.length_append, List.length_cons, List.length_nil, keyAV.intsAC, Option.map_some, AV.valOf, dRw_len, List.length_range]; (repeat refine And.intro (by first | omega | assumption | exact rfl) ?_); (first | refine hK0 _ ?_ | refine Or.inl (hK0 _ ?_)); clear hK0 K0; simp only [put, app, setAll, trOf, zE, zS, reduceAdd])
  refine rg_nil ?_
  refine hK1 _ ?_; clear hK1; refine awp_keep [0, 1, 2, 3, 4, 8, 9] ?_; simp only [keepEnv, lkp, zE, reduceCtorEq, reduceEqDiff, argEnv, reduceAdd]
  refine awp_seq_k fun K2 hK2 => ?_
  refine awp_reg hP hN rfl ?_
  iterate 3 (refine rg_step rfl fun K0 hK0 => ?_; simp only [zE, op1, ev, lkp, avOf, acOf, opLoad, Nat.mul_one, readAC, isAggK, acs, Ty.dflt, zG, cellsAt, reduceCtorEq, reduceEqDiff, reduceAdd, reduceLeDiff, reduceLT, reduceMul, reduceSub, Try.ea81, Try.sa81, Try.td3, Try.td81, Try.td82, Dfa.av, List.length_map, List.length_append, List.length_cons, List.length_nil, keyAV.intsAC, Option.map_some, AV.valOf, dRw_len, List.length_range]; (repeat refine And.intro (by first | omega | assumption | exact rfl) ?_); (first | refine hK0 _ ?_ | refine Or.inl (hK0 _ ?_)); clear hK0 K0; simp only [put, app, setAll, trOf, zE, zS, reduceAdd])
  refine rg_step rfl fun K0 hK0 => ?_
  refine op_call (h := dsearch_c n f 81 cf [] A (fun _ => false) p n1 n2 (n : Int) rfl hcf rfl hb hb1 hb2 hn h0 hA hf (fun q _ => dnever_c q) _) rfl rfl (by first | exact rfl | (simp only [ev, keepEnv, lkp, zE, reduceCtorEq, reduceEqDiff, argEnv, reduceAdd]; exact rfl)) (by simp only [zE, zG, op1, ev, lkp, avOf, acOf, cellsAV, acs, capAV, mv1, mvC, Ty.dflt, reduceCtorEq, reduceEqDiff, reduceAdd, reduceLeDiff, reduceLT, reduceMul, reduceSub, Dfa.av, List.length_map, List.length_append, List.length_cons, List.length_nil, keyAV.intsAC, Option.map_some, AV.valOf, dRw_len, List.length_range]) ?_
  refine hK0 _ ?_; clear hK0 K0; simp only [put, app, setAll, trOf, zE, zS, reduceAdd]
  iterate 7 (refine rg_step rfl fun K0 hK0 => ?_; simp only [zE, op1, ev, lkp, avOf, acOf, opExtract, reduceCtorEq, reduceEqDiff, reduceAdd, reduceLeDiff, reduceLT, reduceMul, reduceSub, Try.el83, Try.mk84, Try.td1, Try.td2, Try.td4, Try.td83, Dfa.av, List.length_map, List.length_append, List.length_cons, List.length_nil, keyAV.intsAC, Option.map_some, AV.valOf, dRw_len, List.length_range]; (repeat refine And.intro (by first | omega | assumption | exact rfl) ?_); (first | refine hK0 _ ?_ | refine Or.inl (hK0 _ ?_)); clear hK0 K0; simp only [put, app, setAll, trOf, zE, zS, reduceAdd])
  refine rg_nil ?_
  refine hK2 _ ?_; clear hK2; refine awp_keep [0, 1, 2, 3, 4, 8, 9, 10, 11] ?_; simp only [keepEnv, lkp, zE, reduceCtorEq, reduceEqDiff, argEnv, reduceAdd]
  refine awp_seq_k fun K3 hK3 => ?_
  refine awp_seq_k fun K4 hK4 => ?_
  rw [(dQ_never (dAll A n (n1 * n2) p)).1]
  refine awp_reg hP hN rfl ?_
  iterate 3 (refine rg_step rfl fun K0 hK0 => ?_; simp only [zE, op1, ev, lkp, avOf, acOf, opCallAny, opMM, opLen, lenAC, lenOk, fpAC, Nat.div_one, opAppend, srcOf, Ty.size, datOf, dite_true, opBin, arith, strOp, inK_i64, eqACs, eqAC, reduceCtorEq, reduceEqDiff, reduceAdd, reduceLeDiff, reduceLT, reduceMul, reduceSub, Try.el83, Try.td3, Try.td4, Try.td83, Dfa.av, List.length_map, List.length_append, List.length_cons, List.length_nil, keyAV.intsAC, Option.map_some, AV.valOf, dRw_len, List.length_range]; (repeat refine And.intro (by first | omega | assumption | exact rfl) ?_); (first | refine hK0 _ ?_ | refine Or.inl (hK0 _ ?_)); clear hK0 K0; simp only [put, app, setAll, trOf, zE, zS, reduceAdd])
  refine rg_nil ?_
  refine hK4 _ ?_; clear hK4; refine awp_keep [0, 1, 2, 3, 4, 8, 9, 10, 11, 28] ?_; simp only [keepEnv, lkp, zE, reduceCtorEq, reduceEqDiff, argEnv, reduceAdd]
  refine awp_cond (by simp only [ev, keepEnv, lkp, zE, reduceCtorEq, reduceEqDiff, argEnv, reduceAdd]; exact rfl) (fun hc5 => ?_) (fun hc5 => ?_)
  · (try simp only [zB, reduceCtorEq] at hc5)
    have hbig : 128 < (dAll A n (n1 * n2) p).length := by omega
    refine awp_seq_k fun K6 hK6 => ?_
    refine awp_reg hP hN rfl ?_
    iterate 3 (refine rg_step rfl fun K0 hK0 => ?_; simp only [zE, op1, ev, lkp, avOf, acOf, opBuild, fillAC, writeAC, cellsAV, opStore, Nat.mul_one, datOf, acs, Ty.size, Ty.dflt, zG, reduceCtorEq, reduceEqDiff, reduceAdd, reduceLeDiff, reduceLT, reduceMul, reduceSub, Try.st25, Try.td25, Try.td29, Dfa.av, List.length_map, List.length_append, List.length_cons, List.length_nil, keyAV.intsAC, Option.map_some, AV.valOf, dRw_len, List.length_range]; (repeat refine And.intro (by first | omega | assumption | exact rfl) ?_); (first | refine hK0 _ ?_ | refine Or.inl (hK0 _ ?_)); clear hK0 K0; simp only [put, app, setAll, trOf, zE, zS, reduceAdd])
    refine rg_nil ?_
    refine hK6 _ ?_; clear hK6; refine awp_keep [0, 1, 2, 3, 4, 8, 9, 10, 11, 28] ?_; simp only [keepEnv, lkp, zE, reduceCtorEq, reduceEqDiff, argEnv, reduceAdd]
    refine awp_ret ?_
    refine ⟨by first | exact .inl rfl | exact .inr rfl, _, rfl, ?_⟩; simp only [fzV, fz1, fzC, List.map_cons, List.map_nil, keepEnv, lkp, zE, reduceCtorEq, reduceEqDiff, argEnv, reduceAdd, Dfa.av, List.length_map, List.length_append, List.length_cons, List.length_nil, keyAV.intsAC, Option.map_some, AV.valOf, dRw_len, List.length_range]
    first
    | (have e1 : dBD A G n (dAll A n (n1 * n2) p) = dfa0 := if_pos hbig
       have e2 : dBE (dAll A n (n1 * n2) p) = 11 := if_pos hbig
       rw [e1, e2]; exact vle_tup ⟨vle1_agg ⟨.refl _, .refl _, cle_nils rfl, cle_nils rfl, trivial⟩, vle1_one (.refl _), trivial⟩)
    | (have e1 : dBD A G n (dAll A n (n1 * n2) p) = dBn A G n (dAll A n (n1 * n2) p) := if_neg hsm
       have e2 : dBE (dAll A n (n1 * n2) p) = 0 := if_neg hsm
       rw [e1, e2]; exact VLE.of_eq rfl)
  · (try simp only [zB, reduceCtorEq] at hc5)
    have hsm : ¬ 128 < (dAll A n (n1 * n2) p).length := by omega
    refine awp_skip ?_
    refine hK3 _ ?_; clear hK3; refine awp_keep [0, 1, 2, 3, 4, 8, 9, 10, 11, 28] ?_; simp only [keepEnv, lkp, zE, reduceCtorEq, reduceEqDiff, argEnv, reduceAdd]
    refine awp_seq_k fun K7 hK7 => ?_
    refine awp_reg hP hN rfl ?_
    iterate 4 (refine rg_step rfl fun K0 hK0 => ?_; simp only [zE, op1, ev, lkp, avOf, acOf, opBuild, fillAC, writeAC, cellsAV, opAlloc, opStore, Nat.mul_one, datOf, acs, Ty.size, Ty.dflt, zG, reduceCtorEq, reduceEqDiff, reduceAdd, reduceLeDiff, reduceLT, reduceMul, reduceSub, Try.st25, Try.td25, Try.td3, Dfa.av, List.length_map, List.length_append, List.length_cons, List.length_nil, keyAV.intsAC, Option.map_some, AV.valOf, dRw_len, List.length_range]; (repeat refine And.intro (by first | omega | assumption | exact rfl) ?_); (first | refine hK0 _ ?_ | refine Or.inl (hK0 _ ?_)); clear hK0 K0; simp only [put, app, setAll, trOf, zE, zS, reduceAdd])
    refine rg_nil ?_
    refine hK7 _ ?_; clear hK7; refine awp_keep [0, 1, 2, 3, 4, 8, 9, 10, 11, 13, 28] ?_; simp only [keepEnv, lkp, zE, reduceCtorEq, reduceEqDiff, argEnv, reduceAdd]
    refine awp_seq_k fun K8 hK8 => ?_
    refine awp_seq_k fun K9 hK9 => ?_
    refine awp_reg hP hN rfl ?_
    iterate 3 (refine rg_step rfl fun K0 hK0 => ?_; simp only [zE, op1, ev, lkp, avOf, acOf, opCallAny, opMM, opLen, lenAC, lenOk, fpAC, Nat.div_one, opAppend, srcOf, Ty.size, datOf, dite_true, reduceCtorEq, reduceEqDiff, reduceAdd, reduceLeDiff, reduceLT, reduceMul, reduceSub, Try.el83, Try.td3, Try.td83, Dfa.av, List.length_map, List.length_append, List.length_cons, List.length_nil, keyAV.intsAC, Option.map_some, AV.valOf, dRw_len, List.length_range]; (repeat refine And.intro (by first | omega | assumption | exact rfl) ?_); (first | refine hK0 _ ?_ | refine Or.inl (hK0 _ ?_)); clear hK0 K0; simp only [put, app, setAll, trOf, zE, zS, reduceAdd])
    refine rg_nil ?_
    refine hK9 _ ?_; clear hK9; refine awp_keep [0, 1, 2, 3, 4, 8, 9, 10, 11, 13, 28, 32, 33, 34] ?_; simp only [keepEnv, lkp, zE, reduceCtorEq, reduceEqDiff, argEnv, reduceAdd]
    refine awp_block ?_
    refine awp_own_cell 3 2 (.list (.int .i64)) 26 (by decide) rfl rfl ?_; simp only [zS, List.length_cons, List.length_nil, List.cons_append, List.nil_append, Nat.zero_add, reduceAdd]
    refine awp_own_cell 3 3 (.bool) 4 (by decide) rfl rfl ?_; simp only [zS, List.length_cons, List.length_nil, List.cons_append, List.nil_append, Nat.zero_add, reduceAdd]
    refine awp_loop (fun n10 s10 => ∃ (k : Nat) (v : Nat), (k ≤ (dAll A n (n1 * n2) p).length) ∧ n10 = (dAll A n (n1 * n2) p).length - k ∧ s10 = { env := [(1, .one (.int .i64 (n : Int))), (2, .one (.fn f cf)), (3, .one (.fn g cg)), (8, .one (.ptr 1 0 0 0)), (9, .one (.int .i64 0)), (11, .one (.mpv 2)), (13, .one (.ptr 3 0 0 0)), (32, .one (.list (.pair (.pair (.int .i64) (.pair (.int .i64) .unit)) (.pair (.list (.int .i64)) .unit)) (List.map encW (dAll A n (n1 * n2) p)))), (33, .one (.int .i64 ((dAll A n (n1 * n2) p).length : Int))), (34, .one (.int .i64 (k : Int)))], L := [.vars 81 [.int .i64 p.1, .int .i64 p.2], .vars 25 [.int .i64 0, .int .i64 0, .nils, .nils], .mp 84 .int (mpE (dAll A n (n1 * n2) p)), .vars 25 [.int .i64 (n : Int), .int .i64 0, .row 4 v, .row 5 v], .row (.list (.int .i64)) 26 v ((List.range k).map fun i => dRw A n (dAll A n (n1 * n2) p) i n), .row .bool 4 v (((dAll A n (n1 * n2) p).take k).map fun e => G e.1)] }) ?_ ?_
    · exact ⟨_, _, sub_keep [1, 2, 3, 8, 9, 11, 13, 32, 33, 34], 0, 0, Nat.zero_le _, rfl, rfl⟩
    · rintro n10 s10 ⟨k, v, hk, rfl, rfl⟩
      refine awp_seq_k fun K11 hK11 => ?_
      refine awp_reg hP hN rfl ?_
      (refine rg_step rfl fun K0 hK0 => ?_; simp only [zE, op1, ev, lkp, avOf, acOf, opBin, arith, strOp, inK_i64, eqACs, eqAC, reduceCtorEq, reduceEqDiff, reduceAdd, reduceLeDiff, reduceLT, reduceMul, reduceSub, Try.td3, Dfa.av, List.length_map, List.length_append, List.length_cons, List.length_nil, keyAV.intsAC, Option.map_some, AV.valOf, dRw_len, List.length_range]; (repeat refine And.intro (by first | omega | assumption | exact rfl) ?_); (first | refine hK0 _ ?_ | refine Or.inl (hK0 _ ?_)); clear hK0 K0; simp only [put, app, setAll, trOf, zE, zS, reduceAdd])
      refine rg_nil ?_
      refine hK11 _ ?_; clear hK11; refine awp_keep [1, 2, 3, 8, 9, 11, 13, 32, 33, 34, 35] ?_; simp only [keepEnv, lkp, zE, reduceCtorEq, reduceEqDiff, argEnv, reduceAdd]
      refine awp_seq_k fun K12 hK12 => ?_
      refine awp_cond (by simp only [ev, keepEnv, lkp, zE, reduceCtorEq, reduceEqDiff, argEnv, reduceAdd]; exact rfl) (fun hc13 => ?_) (fun hc13 => ?_)
      · (try simp only [zB, reduceCtorEq] at hc13)
        refine awp_skip ?_
        refine hK12 _ ?_; clear hK12; refine awp_keep [1, 2, 3, 8, 9, 11, 13, 32, 33, 34, 35] ?_; simp only [keepEnv, lkp, zE, reduceCtorEq, reduceEqDiff, argEnv, reduceAdd]
        refine awp_seq_k fun K14 hK14 => ?_
        refine awp_block ?_
        refine awp_seq_k fun K15 hK15 => ?_
        have hkl : k < (dAll A n (n1 * n2) p).length := by omega
        have hre := hdw.rg _ (w3_mem hkl)
        have hgi : gt (.pair (.pair (.int .i64) (.pair (.int .i64) .unit)) (.pair (.list (.int .i64)) .unit)) (List.map encW (dAll A n (n1 * n2) p)) (k : Int) = ((((dAll A n (n1 * n2) p).getD k w30).1.1, (((dAll A n (n1 * n2) p).getD k w30).1.2, ())), (((dAll A n (n1 * n2) p).getD k w30).2, ())) := encW_at hkl _
        refine awp_reg hP hN rfl ?_
        iterate 4 (refine rg_step rfl fun K0 hK0 => ?_; simp only [zE, op1, ev, lkp, avOf, acOf, opIndexAddr, zG, Ty.dflt, Ty.size, Nat.mul_one, ne_eq, not_false_eq_true, Int.natCast_one, Int.mul_one, opLoad, readAC, isAggK, acs, cellsAt, opAlloc, opStore, cellsAV, writeAC, datOf, reduceCtorEq, reduceEqDiff, reduceAdd, reduceLeDiff, reduceLT, reduceMul, reduceSub, Try.el83, Try.st110, Try.td110, Try.td83, Dfa.av, List.length_map, List.length_append, List.length_cons, List.length_nil, keyAV.intsAC, Option.map_some, AV.valOf, dRw_len, List.length_range, hgi]; (repeat refine And.intro (by first | omega | assumption | exact rfl) ?_); (first | refine hK0 _ ?_ | refine Or.inl (hK0 _ ?_)); clear hK0 K0; simp only [put, app, setAll, trOf, zE, zS, reduceAdd])
        refine rg_nil ?_
        refine hK15 _ ?_; clear hK15; refine awp_keep [1, 2, 3, 8, 9, 11, 13, 15, 32, 33, 34, 35] ?_; simp only [keepEnv, lkp, zE, reduceCtorEq, reduceEqDiff, argEnv, reduceAdd]
        refine awp_seq_k fun K16 hK16 => ?_
        refine awp_reg hP hN rfl ?_
        iterate 3 (refine rg_step rfl fun K0 hK0 => ?_; simp only [zE, op1, ev, lkp, avOf, acOf, opMakeSlice, datOf, Ty.size, Ty.dflt, reduceCtorEq, reduceEqDiff, reduceAdd, reduceLeDiff, reduceLT, reduceMul, reduceSub, Try.el26, Try.td26, Try.td3, Dfa.av, List.length_map, List.length_append, List.length_cons, List.length_nil, keyAV.intsAC, Option.map_some, AV.valOf, dRw_len, List.length_range]; (repeat refine And.intro (by first | omega | assumption | exact rfl) ?_); (first | refine hK0 _ ?_ | refine Or.inl (hK0 _ ?_)); clear hK0 K0; simp only [put, app, setAll, trOf, zE, zS, reduceAdd])
        refine rg_nil ?_
        refine hK16 _ ?_; clear hK16; refine awp_keep [1, 2, 3, 8, 9, 11, 13, 15, 16, 32, 33, 34, 35] ?_; simp only [keepEnv, lkp, zE, reduceCtorEq, reduceEqDiff, argEnv, reduceAdd]
        refine awp_seq_k fun K17 hK17 => ?_
        refine awp_seq_k fun K18 hK18 => ?_
        refine awp_reg hP hN rfl ?_
        iterate 2 (refine rg_step rfl fun K0 hK0 => ?_; simp only [zE, op1, ev, lkp, avOf, acOf, ev, reduceCtorEq, reduceEqDiff, reduceAdd, reduceLeDiff, reduceLT, reduceMul, reduceSub, Try.td3, Dfa.av, List.length_map, List.length_append, List.length_cons, List.length_nil, keyAV.intsAC, Option.map_some, AV.valOf, dRw_len, List.length_range]; (repeat refine And.intro (by first | omega | assumption | exact rfl) ?_); (first | refine hK0 _ ?_ | refine Or.inl (hK0 _ ?_)); clear hK0 K0; simp only [put, app, setAll, trOf, zE, zS, reduceAdd])
        refine rg_nil ?_
        refine hK18 _ ?_; clear hK18; refine awp_keep [1, 2, 3, 8, 9, 11, 13, 15, 16, 32, 33, 34, 35, 40, 41] ?_; simp only [keepEnv, lkp, zE, reduceCtorEq, reduceEqDiff, argEnv, reduceAdd]
        refine awp_block ?_
        refine awp_loop (fun n19 s19 => ∃ (x : Nat) (w : Nat), (x ≤ n) ∧ n19 = n - x ∧ s19 = { env := [(1, .one (.int .i64 (n : Int))), (2, .one (.fn f cf)), (3, .one (.fn g cg)), (8, .one (.ptr 1 0 0 0)), (9, .one (.int .i64 0)), (11, .one (.mpv 2)), (13, .one (.ptr 3 0 0 0)), (15, .one (.ptr 6 0 0 0)), (16, .one (.row 7 w)), (32, .one (.list (.pair (.pair (.int .i64) (.pair (.int .i64) .unit)) (.pair (.list (.int .i64)) .unit)) (List.map encW (dAll A n (n1 * n2) p)))), (33, .one (.int .i64 ((dAll A n (n1 * n2) p).length : Int))), (34, .one (.int .i64 (k : Int))), (40, .one (.int .i64 (n : Int))), (41, .one (.int .i64 (x : Int)))], L := [.vars 81 [.int .i64 p.1, .int .i64 p.2], .vars 25 [.int .i64 0, .int .i64 0, .nils, .nils], .mp 84 .int (mpE (dAll A n (n1 * n2) p)), .vars 25 [.int .i64 (n : Int), .int .i64 0, .row 4 v, .row 5 v], .row (.list (.int .i64)) 26 v ((List.range k).map fun i => dRw A n (dAll A n (n1 * n2) p) i n), .row .bool 4 v (((dAll A n (n1 * n2) p).take k).map fun e => G e.1), .vars 110 [.int .i64 ((dAll A n (n1 * n2) p).getD k w30).1.1, .int .i64 ((dAll A n (n1 * n2) p).getD k w30).1.2, .list (.int .i64) ((dAll A n (n1 * n2) p).getD k w30).2], .row (.int .i64) 3 w (dRw A n (dAll A n (n1 * n2) p) k x)] }) ?_ ?_
        · exact ⟨_, _, sub_keep [1, 2, 3, 8, 9, 11, 13, 15, 16, 32, 33, 34, 40, 41], 0, 0, Nat.zero_le _, rfl, rfl⟩
        · rintro n19 s19 ⟨x, w, hx, rfl, rfl⟩
          refine awp_seq_k fun K20 hK20 => ?_
          refine awp_reg hP hN rfl ?_
          (refine rg_step rfl fun K0 hK0 => ?_; simp only [zE, op1, ev, lkp, avOf, acOf, opBin, arith, strOp, inK_i64, eqACs, eqAC, reduceCtorEq, reduceEqDiff, reduceAdd, reduceLeDiff, reduceLT, reduceMul, reduceSub, Try.td3, Try.td4, Dfa.av, List.length_map, List.length_append, List.length_cons, List.length_nil, keyAV.intsAC, Option.map_some, AV.valOf, dRw_len, List.length_range]; (repeat refine And.intro (by first | omega | assumption | exact rfl) ?_); (first | refine hK0 _ ?_ | refine Or.inl (hK0 _ ?_)); clear hK0 K0; simp only [put, app, setAll, trOf, zE, zS, reduceAdd])
          refine rg_nil ?_
          refine hK20 _ ?_; clear hK20; refine awp_keep [1, 2, 3, 8, 9, 11, 13, 15, 16, 32, 33, 34, 40, 41, 42] ?_; simp only [keepEnv, lkp, zE, reduceCtorEq, reduceEqDiff, argEnv, reduceAdd]
          refine awp_seq_k fun K21 hK21 => ?_
          refine awp_cond (by simp only [ev, keepEnv, lkp, zE, reduceCtorEq, reduceEqDiff, argEnv, reduceAdd]; exact rfl) (fun hc22 => ?_) (fun hc22 => ?_)
          · (try simp only [zB, reduceCtorEq] at hc22)
            refine awp_skip ?_
            refine hK21 _ ?_; clear hK21; refine awp_keep [1, 2, 3, 8, 9, 11, 13, 15, 16, 32, 33, 34, 40, 41, 42] ?_; simp only [keepEnv, lkp, zE, reduceCtorEq, reduceEqDiff, argEnv, reduceAdd]
            refine awp_seq_k fun K23 hK23 => ?_
            refine awp_block ?_
            refine awp_seq_k fun K24 hK24 => ?_
            refine awp_reg hP hN rfl ?_
            iterate 2 (refine rg_step rfl fun K0 hK0 => ?_; simp only [zE, op1, ev, lkp, avOf, acOf, ev, reduceCtorEq, reduceEqDiff, reduceAdd, reduceLeDiff, reduceLT, reduceMul, reduceSub, Try.td3, Dfa.av, List.length_map, List.length_append, List.length_cons, List.length_nil, keyAV.intsAC, Option.map_some, AV.valOf, dRw_len, List.length_range]; (repeat refine And.intro (by first | omega | assumption | exact rfl) ?_); (first | refine hK0 _ ?_ | refine Or.inl (hK0 _ ?_)); clear hK0 K0; simp only [put, app, setAll, trOf, zE, zS, reduceAdd])
            refine rg_nil ?_
            refine hK24 _ ?_; clear hK24; refine awp_keep [1, 2, 3, 8, 9, 11, 13, 15, 16, 17, 32, 33, 34, 40, 41, 42] ?_; simp only [keepEnv, lkp, zE, reduceCtorEq, reduceEqDiff, argEnv, reduceAdd]
            have hq9 := hA _ hre x (by omega)
            have hkv := inR_ok hq9 hb1 hb2
            have hlk : mlook (mpE (dAll A n (n1 * n2) p)) (.arr [(A ((dAll A n (n1 * n2) p).getD k w30).1 x).1, (A ((dAll A n (n1 * n2) p).getD k w30).1 x).2]) = some (pos ((dAll A n (n1 * n2) p).map Prod.fst) (A ((dAll A n (n1 * n2) p).getD k w30).1 x) : Int) := mlook_pos hdw.nd (hcls k hkl x (by omega))
            refine awp_reg hP hN rfl ?_
            iterate 6 (refine rg_step rfl fun K0 hK0 => ?_; simp only [zE, op1, ev, lkp, avOf, acOf, opFieldAddr, opLoad, Nat.mul_one, readAC, isAggK, acs, Ty.dflt, zG, cellsAt, reduceCtorEq, reduceEqDiff, reduceAdd, reduceLeDiff, reduceLT, reduceMul, reduceSub, Try.ea81, Try.el26, Try.mk84, Try.sa81, Try.st110, Try.td110, Try.td26, Try.td3, Try.td81, Try.td82, Dfa.av, List.length_map, List.length_append, List.length_cons, List.length_nil, keyAV.intsAC, Option.map_some, AV.valOf, dRw_len, List.length_range, hlk, Option.getD_some]; (repeat refine And.intro (by first | omega | assumption | exact rfl) ?_); (first | refine hK0 _ ?_ | refine Or.inl (hK0 _ ?_)); clear hK0 K0; simp only [put, app, setAll, trOf, zE, zS, reduceAdd])
            refine rg_step rfl fun K0 hK0 => ?_
            refine op_call (h := call_of_pure (hf ((dAll A n (n1 * n2) p).getD k w30).1 x hre (by omega))) rfl rfl (by first | exact rfl | (simp only [ev, keepEnv, lkp, zE, reduceCtorEq, reduceEqDiff, argEnv, reduceAdd]; exact rfl)) (by simp only [zE, zG, op1, ev, lkp, avOf, acOf, cellsAV, acs, capAV, mv1, mvC, Ty.dflt, reduceCtorEq, reduceEqDiff, reduceAdd, reduceLeDiff, reduceLT, reduceMul, reduceSub, Dfa.av, List.length_map, List.length_append, List.length_cons, List.length_nil, keyAV.intsAC, Option.map_some, AV.valOf, dRw_len, List.length_range, hlk, Option.getD_some]) ?_
            refine hK0 _ ?_; clear hK0 K0; simp only [put, app, setAll, trOf, zE, zS, reduceAdd]
            iterate 4 (refine rg_step rfl fun K0 hK0 => ?_; simp only [zE, op1, ev, lkp, avOf, acOf, opLookup, keyAV, VK.ac, opBuildSlice, fillAC, chunk, rep, datOf, writeAC, cellsAV, Ty.size, opCallAny, opMM, opLen, lenAC, lenOk, fpAC, Nat.div_one, opAppend, srcOf, dite_true, reduceCtorEq, reduceEqDiff, reduceAdd, reduceLeDiff, reduceLT, reduceMul, reduceSub, Try.el26, Try.mk84, Try.td1, Try.td26, Try.td3, Dfa.av, List.length_map, List.length_append, List.length_cons, List.length_nil, keyAV.intsAC, Option.map_some, AV.valOf, dRw_len, List.length_range, hlk, Option.getD_some]; (repeat refine And.intro (by first | omega | assumption | exact rfl) ?_); (first | refine hK0 _ ?_ | refine Or.inl (hK0 _ ?_)); clear hK0 K0; simp only [put, app, setAll, trOf, zE, zS, reduceAdd])
            refine rg_nil ?_
            refine hK23 _ ?_; clear hK23; refine awp_keep [1, 2, 3, 8, 9, 11, 13, 15, 16, 17, 32, 33, 34, 40, 41, 42] ?_; simp only [keepEnv, lkp, zE, reduceCtorEq, reduceEqDiff, argEnv, reduceAdd]
            refine awp_reg hP hN rfl ?_
            iterate 2 (refine rg_step rfl fun K0 hK0 => ?_; simp only [zE, op1, ev, lkp, avOf, acOf, opBin, arith, strOp, inK_i64, eqACs, eqAC, reduceCtorEq, reduceEqDiff, reduceAdd, reduceLeDiff, reduceLT, reduceMul, reduceSub, Try.td3, Dfa.av, List.length_map, List.length_append, List.length_cons, List.length_nil, keyAV.intsAC, Option.map_some, AV.valOf, dRw_len, List.length_range]; (repeat refine And.intro (by first | omega | assumption | exact rfl) ?_); (first | refine hK0 _ ?_ | refine Or.inl (hK0 _ ?_)); clear hK0 K0; simp only [put, app, setAll, trOf, zE, zS, reduceAdd])
            refine rg_nil ?_
            refine ⟨_, _, ?_, sub_keep [1, 2, 3, 8, 9, 11, 13, 15, 16, 32, 33, 34, 40, 41], x + 1, w + 1, by omega, rfl, ?_⟩
            · omega
            · rw [dRw_succ]; rfl
          · (try simp only [zB, reduceCtorEq] at hc22)
            refine awp_exit ?_
            refine hK17 _ ?_; clear hK17; refine awp_keep [1, 2, 3, 8, 9, 11, 13, 15, 16, 32, 33, 34, 40, 41, 42] ?_; simp only [keepEnv, lkp, zE, reduceCtorEq, reduceEqDiff, argEnv, reduceAdd]
            refine awp_seq_k fun K25 hK25 => ?_
            refine awp_freeze 7 rfl ?_; simp only [List.map_cons, List.map_nil, zS, reduceEqDiff, and_self, and_true, true_and, and_false, false_and, if_true, if_false, eq_self, reduceCtorEq, Nat.one_ne_zero, Nat.zero_ne_one]
            have hxn : n = x := by omega
            subst hxn
            refine awp_reg hP hN rfl ?_
            iterate 7 (refine rg_step rfl fun K0 hK0 => ?_; simp only [zE, op1, ev, lkp, avOf, acOf, opFieldAddr, opLoad, Nat.mul_one, readAC, isAggK, acs, Ty.dflt, zG, cellsAt, opBuildSlice, fillAC, chunk, rep, datOf, writeAC, cellsAV, Ty.size, opCallAny, opMM, opLen, lenAC, lenOk, fpAC, Nat.div_one, opAppend, srcOf, dite_true, opStore, reduceCtorEq, reduceEqDiff, reduceAdd, reduceLeDiff, reduceLT, reduceMul, reduceSub, Try.el22, Try.el26, Try.st25, Try.td1, Try.td2, Try.td22, Try.td25, Try.td26, Dfa.av, List.length_map, List.length_append, List.length_cons, List.length_nil, keyAV.intsAC, Option.map_some, AV.valOf, dRw_len, List.length_range]; (repeat refine And.intro (by first | omega | assumption | exact rfl) ?_); (first | refine hK0 _ ?_ | refine Or.inl (hK0 _ ?_)); clear hK0 K0; simp only [put, app, setAll, trOf, zE, zS, reduceAdd])
            refine rg_nil ?_
            refine hK25 _ ?_; clear hK25; refine awp_keep [1, 2, 3, 8, 9, 11, 13, 15, 16, 32, 33, 34, 40, 41, 42] ?_; simp only [keepEnv, lkp, zE, reduceCtorEq, reduceEqDiff, argEnv, reduceAdd]
            refine awp_drw hP hN Try.mixed rfl ?_
            iterate 5 (refine rg_step rfl fun K0 hK0 => ?_; simp only [zE, op1, ev, lkp, avOf, acOf, opFieldAddr, opLoad, Nat.mul_one, readAC, isAggK, acs, Ty.dflt, zG, cellsAt, reduceCtorEq, reduceEqDiff, reduceAdd, reduceLeDiff, reduceLT, reduceMul, reduceSub, Try.ea81, Try.el23, Try.sa81, Try.st110, Try.st25, Try.td110, Try.td23, Try.td25, Try.td3, Try.td81, Try.td87, Dfa.av, List.length_map, List.length_append, List.length_cons, List.length_nil, keyAV.intsAC, Option.map_some, AV.valOf, dRw_len, List.length_range, List.length_take]; (repeat refine And.intro (by first | omega | assumption | exact rfl) ?_); (first | refine hK0 _ ?_ | refine Or.inl (hK0 _ ?_)); clear hK0 K0; simp only [put, app, setAll, trOf, zE, zS, reduceAdd])
            refine rg_step rfl fun K0 hK0 => ?_
            refine op_call (h := call_of_pure (hg ((dAll A n (n1 * n2) p).getD k w30).1 hre)) rfl rfl (by first | exact rfl | (simp only [ev, keepEnv, lkp, zE, reduceCtorEq, reduceEqDiff, argEnv, reduceAdd]; exact rfl)) (by simp only [zE, zG, op1, ev, lkp, avOf, acOf, cellsAV, acs, capAV, mv1, mvC, Ty.dflt, reduceCtorEq, reduceEqDiff, reduceAdd, reduceLeDiff, reduceLT, reduceMul, reduceSub, Dfa.av, List.length_map, List.length_append, List.length_cons, List.length_nil, keyAV.intsAC, Option.map_some, AV.valOf, dRw_len, List.length_range, List.length_take]) ?_
            refine hK0 _ ?_; clear hK0 K0; simp only [put, app, setAll, trOf, zE, zS, reduceAdd]
            iterate 4 (refine rg_step rfl fun K0 hK0 => ?_; simp only [zE, op1, ev, lkp, avOf, acOf, opBuildSlice, fillAC, chunk, rep, datOf, writeAC, cellsAV, Ty.size, opCallAny, opMM, opLen, lenAC, lenOk, fpAC, Nat.div_one, opAppend, srcOf, dite_true, opFieldAddr, opStore, Nat.mul_one, acs, Ty.dflt, zG, reduceCtorEq, reduceEqDiff, reduceAdd, reduceLeDiff, reduceLT, reduceMul, reduceSub, Try.el23, Try.st25, Try.td1, Try.td23, Try.td25, Try.td3, Dfa.av, List.length_map, List.length_append, List.length_cons, List.length_nil, keyAV.intsAC, Option.map_some, AV.valOf, dRw_len, List.length_range, List.length_take]; (repeat refine And.intro (by first | omega | assumption | exact rfl) ?_); (first | refine hK0 _ ?_ | refine Or.inl (hK0 _ ?_)); clear hK0 K0; simp only [put, app, setAll, trOf, zE, zS, reduceAdd])
            refine rg_nil ?_
            refine ⟨by kernel_rfl, ?_⟩
            refine hK14 _ ?_; clear hK14; refine awp_keep [1, 2, 3, 8, 9, 11, 13, 15, 16, 32, 33, 34, 40, 41, 42] ?_; simp only [keepEnv, lkp, zE, reduceCtorEq, reduceEqDiff, argEnv, reduceAdd]
            refine awp_keep [1, 2, 3, 8, 9, 11, 13, 32, 33, 34] ?_; simp only [keepEnv, lkp, zE, reduceCtorEq, reduceEqDiff]
            refine awp_pop (L1 := [_, _, _, _, _, _, _]) rfl hB (by simp only [List.all_cons, List.all_nil, freeV, free1, pats_free hcf, pats_free hcg]; rfl) rfl ?_
            refine awp_pop (L1 := [_, _, _, _, _, _]) rfl hB (by simp only [List.all_cons, List.all_nil, freeV, free1, pats_free hcf, pats_free hcg]; rfl) rfl ?_
            refine awp_reg hP hN rfl ?_
            iterate 2 (refine rg_step rfl fun K0 hK0 => ?_; simp only [zE, op1, ev, lkp, avOf, acOf, opBin, arith, strOp, inK_i64, eqACs, eqAC, reduceCtorEq, reduceEqDiff, reduceAdd, reduceLeDiff, reduceLT, reduceMul, reduceSub, Try.td3, Dfa.av, List.length_map, List.length_append, List.length_cons, List.length_nil, keyAV.intsAC, Option.map_some, AV.valOf, dRw_len, List.length_range]; (repeat refine And.intro (by first | omega | assumption | exact rfl) ?_); (first | refine hK0 _ ?_ | refine Or.inl (hK0 _ ?_)); clear hK0 K0; simp only [put, app, setAll, trOf, zE, zS, reduceAdd])
            refine rg_nil ?_
            refine ⟨_, _, ?_, sub_keep [1, 2, 3, 8, 9, 11, 13, 32, 33, 34], k + 1, v + 1, by omega, rfl, ?_⟩
            · omega
            · rw [range_mapS, mapL_take _ w30 hkl]; rfl
      · (try simp only [zB, reduceCtorEq] at hc13)
        refine awp_exit ?_
        refine hK8 _ ?_; clear hK8; refine awp_keep [1, 2, 3, 8, 9, 11, 13, 32, 33, 34, 35] ?_; simp only [keepEnv, lkp, zE, reduceCtorEq, reduceEqDiff, argEnv, reduceAdd]
        refine awp_seq_k fun K26 hK26 => ?_
        refine awp_freeze_var 4 3 rfl rfl ?_; simp only [List.map_cons, List.map_nil, frC, zS, reduceEqDiff, and_self, and_true, true_and, and_false, false_and, if_true, if_false, eq_self, reduceCtorEq, Nat.one_ne_zero, Nat.zero_ne_one]
        refine awp_freeze_var 5 3 rfl rfl ?_; simp only [List.map_cons, List.map_nil, frC, zS, reduceEqDiff, and_self, and_true, true_and, and_false, false_and, if_true, if_false, eq_self, reduceCtorEq, Nat.one_ne_zero, Nat.zero_ne_one]
        have hke : k = (dAll A n (n1 * n2) p).length := by omega
        rw [hke, List.take_length]
        refine awp_reg hP hN rfl ?_
        iterate 3 (refine rg_step rfl fun K0 hK0 => ?_; simp only [zE, op1, ev, lkp, avOf, acOf, opLoad, Nat.mul_one, readAC, isAggK, acs, Ty.dflt, zG, cellsAt, opStore, cellsAV, writeAC, datOf, Ty.size, reduceCtorEq, reduceEqDiff, reduceAdd, reduceLeDiff, reduceLT, reduceMul, reduceSub, Try.st25, Try.td25, Try.td29, Dfa.av, List.length_map, List.length_append, List.length_cons, List.length_nil, keyAV.intsAC, Option.map_some, AV.valOf, dRw_len, List.length_range]; (repeat refine And.intro (by first | omega | assumption | exact rfl) ?_); (first | refine hK0 _ ?_ | refine Or.inl (hK0 _ ?_)); clear hK0 K0; simp only [put, app, setAll, trOf, zE, zS, reduceAdd])
        refine rg_nil ?_
        refine hK26 _ ?_; clear hK26; refine awp_keep [1, 2, 3, 8, 9, 11, 13, 32, 33, 34, 35] ?_; simp only [keepEnv, lkp, zE, reduceCtorEq, reduceEqDiff, argEnv, reduceAdd]
        refine awp_ret ?_
        refine ⟨by first | exact .inl rfl | exact .inr rfl, _, rfl, ?_⟩; simp only [fzV, fz1, fzC, List.map_cons, List.map_nil, keepEnv, lkp, zE, reduceCtorEq, reduceEqDiff, argEnv, reduceAdd, Dfa.av, List.length_map, List.length_append, List.length_cons, List.length_nil, keyAV.intsAC, Option.map_some, AV.valOf, dRw_len, List.length_range]
        first
        | (have e1 : dBD A G n (dAll A n (n1 * n2) p) = dfa0 := if_pos hbig
           have e2 : dBE (dAll A n (n1 * n2) p) = 11 := if_pos hbig
           rw [e1, e2]; exact vle_tup ⟨vle1_agg ⟨.refl _, .refl _, cle_nils rfl, cle_nils rfl, trivial⟩, vle1_one (.refl _), trivial⟩)
        | (have e1 : dBD A G n (dAll A n (n1 * n2) p) = dBn A G n (dAll A n (n1 * n2) p) := if_neg hsm
           have e2 : dBE (dAll A n (n1 * n2) p) = 0 := if_neg hsm
           rw [e1, e2]; exact VLE.of_eq rfl)
end Go.Proofs.Ytdkgcbhbpdbmnaa
namespace Go.Proofs.Ytdkgcbhbpdbmnaa
open Go Go.AV
open Nat (reduceEqDiff reduceAdd reduceLeDiff reduceLT reduceMul reduceSub)
open List (set_cons_zero set_cons_succ)
set_option maxRecDepth 100000 in
theorem dcb1_c (a b : Dfa) (q : PP) (x : Nat) (ha : DOK a) (hb : DOK b) (hi : a.inp = b.inp) (hq : inR a.nx.length b.nx.length q) (hx : (x : Int) < a.inp) : PURE Try.prog 55 [.agg [.int .i64 q.1, .int .i64 q.2], .one (.int .i64 (x : Int)), .one (.pat (.pair (.int .i64) (.pair (.int .i64) (.pair (.list (.list (.int .i64))) (.pair (.list .bool) .unit)))) (a.inp, (a.st, (a.nx, (a.acc, ())))) 0), .one (.pat (.pair (.int .i64) (.pair (.int .i64) (.pair (.list (.list (.int .i64))) (.pair (.list .bool) .unit)))) (b.inp, (b.st, (b.nx, (b.acc, ())))) 0)] (.agg [.int .i64 (stpD a b q x).1, .int .i64 (stpD a b q x).2]) := by
  have hra := ha.rli hq.1; have hsa : ((a.nx.getD q.1.toNat []).length : Int) = a.inp := hra; have hta := hq.1; have hua := ha.al
  have hrb := hb.rli hq.2; have hsb : ((b.nx.getD q.2.toNat []).length : Int) = b.inp := hrb; have htb := hq.2; have hub := hb.al
  refine pure_of_le Try.func55 rfl (by kernel_rfl) (Nat.le_of_ble_eq_true rfl) rfl fun C hP hN hB => ?_
  replace hN : C.N = 26 := hN
  simp only [argEnv, reduceAdd]
  refine awp_seq_k fun K1 hK1 => ?_
  refine awp_reg hP hN rfl ?_
  iterate 2 (refine rg_step rfl fun K0 hK0 => ?_; simp only [zE, op1, ev, lkp, avOf, acOf, opBox, cellsAV, opAlloc, reduceCtorEq, reduceEqDiff, reduceAdd, reduceLeDiff, reduceLT, reduceMul, reduceSub, Try.ea81, Try.sa81, Try.td81]; (repeat refine And.intro (by first | omega | assumption | exact rfl) ?_); (first | refine hK0 _ ?_ | refine Or.inl (hK0 _ ?_)); clear hK0 K0; simp only [put, app, setAll, trOf, zE, zS, reduceAdd])
  refine rg_nil ?_
  refine hK1 _ ?_; clear hK1; refine awp_keep [0, 1, 2, 3, 4, 6] ?_; simp only [keepEnv, lkp, zE, reduceCtorEq, reduceEqDiff, argEnv, reduceAdd]
  refine awp_seq_k fun K2 hK2 => ?_
  refine awp_drw hP hN Try.mixed rfl ?_
  iterate 20 (refine rg_step rfl fun K0 hK0 => ?_; simp only [zE, op1, ev, lkp, avOf, acOf, opFieldAddr, opLoad, Nat.mul_one, readAC, isAggK, acs, Ty.dflt, zG, cellsAt, opIndexAddr, Ty.size, ne_eq, not_false_eq_true, Int.natCast_one, Int.mul_one, opBuild, fillAC, writeAC, cellsAV, opStore, datOf, reduceCtorEq, reduceEqDiff, reduceAdd, reduceLeDiff, reduceLT, reduceMul, reduceSub, Try.ea81, Try.el22, Try.el26, Try.sa81, Try.st25, Try.td2, Try.td22, Try.td25, Try.td26, Try.td3, Try.td81]; (repeat refine And.intro (by first | omega | assumption | exact rfl) ?_); (first | refine hK0 _ ?_ | refine Or.inl (hK0 _ ?_)); clear hK0 K0; simp only [put, app, setAll, trOf, zE, zS, reduceAdd])
  refine rg_nil ?_
  refine ⟨by kernel_rfl, ?_⟩
  refine hK2 _ ?_; clear hK2; refine awp_keep [0, 1, 2, 3, 4, 6] ?_; simp only [keepEnv, lkp, zE, reduceCtorEq, reduceEqDiff, argEnv, reduceAdd]
  refine awp_ret ?_
  refine ⟨by first | exact .inl rfl | exact .inr rfl, _, rfl, ?_⟩; simp only [fzV, fz1, fzC, List.map_cons, List.map_nil, keepEnv, lkp, zE, reduceCtorEq, reduceEqDiff, argEnv, reduceAdd]
  refine VLE.of_eq ?_
  rfl
end Go.Proofs.Ytdkgcbhbpdbmnaa
namespace Go.Proofs.Ytdkgcbhbpdbmnaa
open Go Go.AV
open Nat (reduceEqDiff reduceAdd reduceLeDiff reduceLT reduceMul reduceSub)
open List (set_cons_zero set_cons_succ)
set_option maxRecDepth 100000 in
theorem dcomb_c (op : Int) (x y : Bool) : PURE Try.prog 57 [.one (.int .i64 op), .one (.bool x), .one (.bool y)] (.one (.bool (opB op x y))) := by
  refine pure_of_le Try.func57 rfl (by kernel_rfl) (Nat.le_of_ble_eq_true rfl) rfl fun C hP hN hB => ?_
  replace hN : C.N = 30 := hN
  simp only [argEnv, reduceAdd]
  refine awp_seq_k fun K1 hK1 => ?_
  refine awp_reg hP hN rfl ?_
  (refine rg_step rfl fun K0 hK0 => ?_; simp only [zE, op1, ev, lkp, avOf, acOf, ev, reduceCtorEq, reduceEqDiff, reduceAdd, reduceLeDiff, reduceLT, reduceMul, reduceSub, Try.td4]; (repeat refine And.intro (by first | omega | assumption | exact rfl) ?_); (first | refine hK0 _ ?_ | refine Or.inl (hK0 _ ?_)); clear hK0 K0; simp only [put, app, setAll, trOf, zE, zS, reduceAdd])
  refine rg_nil ?_
  refine hK1 _ ?_; clear hK1; refine awp_keep [0, 1, 2, 6] ?_; simp only [keepEnv, lkp, zE, reduceCtorEq, reduceEqDiff, argEnv, reduceAdd]
  refine awp_seq_k fun K2 hK2 => ?_
  refine awp_seq_k fun K3 hK3 => ?_
  refine awp_reg hP hN rfl ?_
  (refine rg_step rfl fun K0 hK0 => ?_; simp only [zE, op1, ev, lkp, avOf, acOf, ev, reduceCtorEq, reduceEqDiff, reduceAdd, reduceLeDiff, reduceLT, reduceMul, reduceSub, Try.td3]; (repeat refine And.intro (by first | omega | assumption | exact rfl) ?_); (first | refine hK0 _ ?_ | refine Or.inl (hK0 _ ?_)); clear hK0 K0; simp only [put, app, setAll, trOf, zE, zS, reduceAdd])
  refine rg_nil ?_
  refine hK3 _ ?_; clear hK3; refine awp_keep [0, 1, 2, 6, 7] ?_; simp only [keepEnv, lkp, zE, reduceCtorEq, reduceEqDiff, argEnv, reduceAdd]
  refine awp_block ?_
  refine awp_seq_k fun K4 hK4 => ?_
  refine awp_reg hP hN rfl ?_
  iterate 2 (refine rg_step rfl fun K0 hK0 => ?_; simp only [zE, op1, ev, lkp, avOf, acOf, opBin, arith, strOp, inK_i64, eqACs, eqAC, reduceCtorEq, reduceEqDiff, reduceAdd, reduceLeDiff, reduceLT, reduceMul, reduceSub, Try.td3, Try.td4]; (repeat refine And.intro (by first | omega | assumption | exact rfl) ?_); (first | refine hK0 _ ?_ | refine Or.inl (hK0 _ ?_)); clear hK0 K0; simp only [put, app, setAll, trOf, zE, zS, reduceAdd])
  refine rg_nil ?_
  refine hK4 _ ?_; clear hK4; refine awp_keep [0, 1, 2, 6, 7, 8] ?_; simp only [keepEnv, lkp, zE, reduceCtorEq, reduceEqDiff, argEnv, reduceAdd]
  refine awp_cond (by simp only [ev, keepEnv, lkp, zE, reduceCtorEq, reduceEqDiff, argEnv, reduceAdd]; exact rfl) (fun hc5 => ?_) (fun hc5 => ?_)
  · (try simp only [zB, reduceCtorEq] at hc5)
    refine awp_seq_k fun K6 hK6 => ?_
    refine awp_reg hP hN rfl ?_
    (refine rg_step rfl fun K0 hK0 => ?_; simp only [zE, op1, ev, lkp, avOf, acOf, ev, reduceCtorEq, reduceEqDiff, reduceAdd, reduceLeDiff, reduceLT, reduceMul, reduceSub, Try.td4]; (repeat refine And.intro (by first | omega | assumption | exact rfl) ?_); (first | refine hK0 _ ?_ | refine Or.inl (hK0 _ ?_)); clear hK0 K0; simp only [put, app, setAll, trOf, zE, zS, reduceAdd])
    (refine rg_step rfl fun K0 hK0 => ?_; simp only [zE, op1, ev, lkp, avOf, acOf, ev, reduceCtorEq, reduceEqDiff, reduceAdd, reduceLeDiff, reduceLT, reduceMul, reduceSub, Try.td4]; (repeat refine And.intro (by first | omega | assumption | exact rfl) ?_); (first | refine hK0 _ ?_ | refine Or.inl (hK0 _ ?_)); clear hK0 K0; simp only [put, app, setAll, trOf, zE, zS, reduceAdd])
    refine' rg_join_n (want := true) 1 rfl (m := 11) (by simp only [keepEnv, lkp, zE, reduceCtorEq, reduceEqDiff, argEnv, reduceAdd]; exact rfl) (by kernel_rfl) rfl rfl rfl rfl rfl (fun hg7 => ?a7) ?b7 ?c7
    case a7 =>
      have hq7 := hg7; (try simp only [zB, reduceCtorEq] at hg7); simp only [List.take_succ_cons, List.take_zero, List.cons_append, List.nil_append]
      (refine rg_do rfl fun K0 hK0 => ?_; simp only [zE, op1, ev, lkp, avOf, acOf, ev, reduceCtorEq, reduceEqDiff, reduceAdd, reduceLeDiff, reduceLT, reduceMul, reduceSub, Try.td4]; (repeat refine And.intro (by first | omega | assumption | exact rfl) ?_); (first | refine hK0 _ ?_ | refine Or.inl (hK0 _ ?_)); clear hK0 K0; simp only [put, app, setAll, trOf, zE, zS, reduceAdd])
      (refine rg_step rfl fun K0 hK0 => ?_; simp only [zE, op1, ev, lkp, avOf, acOf, opPick, reduceCtorEq, reduceEqDiff, reduceAdd, reduceLeDiff, reduceLT, reduceMul, reduceSub, Try.td4]; (repeat refine And.intro (by first | omega | assumption | exact rfl) ?_); (first | refine hK0 _ ?_ | refine Or.inl (hK0 _ ?_)); clear hK0 K0; simp only [put, app, setAll, trOf, zE, zS, reduceAdd])
      refine rg_nil ?_
      refine ⟨by simp only [keepEnv, lkp, zE, reduceCtorEq, reduceEqDiff, argEnv, reduceAdd]; exact rfl, rfl, ?_, rfl⟩; (repeat refine keep_cons rfl ?_); exact keep_m (by exact rfl) hq7
    case b7 => exact tle_of (by first | rfl | (simp [tleB]; done) | decide)
    simp only [join_or, join_and]
    (refine rg_step rfl fun K0 hK0 => ?_; simp only [zE, op1, ev, lkp, avOf, acOf, ev, reduceCtorEq, reduceEqDiff, reduceAdd, reduceLeDiff, reduceLT, reduceMul, reduceSub, Try.td4]; (repeat refine And.intro (by first | omega | assumption | exact rfl) ?_); (first | refine hK0 _ ?_ | refine Or.inl (hK0 _ ?_)); clear hK0 K0; simp only [put, app, setAll, trOf, zE, zS, reduceAdd])
    refine rg_nil ?_
    refine hK6 _ ?_; clear hK6; refine awp_keep [0, 1, 2, 6, 7, 8] ?_; simp only [keepEnv, lkp, zE, reduceCtorEq, reduceEqDiff, argEnv, reduceAdd]
    refine awp_ret ?_
    refine ⟨by first | exact .inl rfl | exact .inr rfl, _, rfl, ?_⟩; simp only [fzV, fz1, fzC, List.map_cons, List.map_nil, keepEnv, lkp, zE, reduceCtorEq, reduceEqDiff, argEnv, reduceAdd]
    refine VLE.of_eq ?_
    refine congrArg (fun b => AV.one (AC.bool b)) ?_
    unfold opB
    symm
    first
    | (rw [if_pos (by assumption)]; done)
    | (rw [if_neg (by assumption), if_pos (by assumption)]; done)
    | (rw [if_neg (by assumption), if_neg (by assumption), if_pos (by assumption)]; done)
    | (rw [if_neg (by assumption), if_neg (by assumption), if_neg (by assumption)]; cases x <;> cases y <;> rfl)
  · (try simp only [zB, reduceCtorEq] at hc5)
    refine awp_seq_k fun K8 hK8 => ?_
    refine awp_reg hP hN rfl ?_
    iterate 2 (refine rg_step rfl fun K0 hK0 => ?_; simp only [zE, op1, ev, lkp, avOf, acOf, opBin, arith, strOp, inK_i64, eqACs, eqAC, reduceCtorEq, reduceEqDiff, reduceAdd, reduceLeDiff, reduceLT, reduceMul, reduceSub, Try.td3, Try.td4]; (repeat refine And.intro (by first | omega | assumption | exact rfl) ?_); (first | refine hK0 _ ?_ | refine Or.inl (hK0 _ ?_)); clear hK0 K0; simp only [put, app, setAll, trOf, zE, zS, reduceAdd])
    refine rg_nil ?_
    refine hK8 _ ?_; clear hK8; refine awp_keep [0, 1, 2, 6, 7, 8, 14] ?_; simp only [keepEnv, lkp, zE, reduceCtorEq, reduceEqDiff, argEnv, reduceAdd]
    refine awp_cond (by simp only [ev, keepEnv, lkp, zE, reduceCtorEq, reduceEqDiff, argEnv, reduceAdd]; exact rfl) (fun hc9 => ?_) (fun hc9 => ?_)
    · (try simp only [zB, reduceCtorEq] at hc9)
      refine awp_seq_k fun K10 hK10 => ?_
      refine awp_reg hP hN rfl ?_
      (refine rg_step rfl fun K0 hK0 => ?_; simp only [zE, op1, ev, lkp, avOf, acOf, ev, reduceCtorEq, reduceEqDiff, reduceAdd, reduceLeDiff, reduceLT, reduceMul, reduceSub, Try.td4]; (repeat refine And.intro (by first | omega | assumption | exact rfl) ?_); (first | refine hK0 _ ?_ | refine Or.inl (hK0 _ ?_)); clear hK0 K0; simp only [put, app, setAll, trOf, zE, zS, reduceAdd])
      (refine rg_step rfl fun K0 hK0 => ?_; simp only [zE, op1, ev, lkp, avOf, acOf, ev, reduceCtorEq, reduceEqDiff, reduceAdd, reduceLeDiff, reduceLT, reduceMul, reduceSub, Try.td4]; (repeat refine And.intro (by first | omega | assumption | exact rfl) ?_); (first | refine hK0 _ ?_ | refine Or.inl (hK0 _ ?_)); clear hK0 K0; simp only [put, app, setAll, trOf, zE, zS, reduceAdd])
      refine' rg_join_n (want := false) 1 rfl (m := 17) (by simp only [keepEnv, lkp, zE, reduceCtorEq, reduceEqDiff, argEnv, reduceAdd]; exact rfl) (by kernel_rfl) rfl rfl rfl rfl rfl (fun hg11 => ?a11) ?b11 ?c11
      case a11 =>
        have hq11 := hg11; (try simp only [zB, reduceCtorEq] at hg11); simp only [List.take_succ_cons, List.take_zero, List.cons_append, List.nil_append]
        (refine rg_do rfl fun K0 hK0 => ?_; simp only [zE, op1, ev, lkp, avOf, acOf, ev, reduceCtorEq, reduceEqDiff, reduceAdd, reduceLeDiff, reduceLT, reduceMul, reduceSub, Try.td4]; (repeat refine And.intro (by first | omega | assumption | exact rfl) ?_); (first | refine hK0 _ ?_ | refine Or.inl (hK0 _ ?_)); clear hK0 K0; simp only [put, app, setAll, trOf, zE, zS, reduceAdd])
        (refine rg_step rfl fun K0 hK0 => ?_; simp only [zE, op1, ev, lkp, avOf, acOf, opPick, reduceCtorEq, reduceEqDiff, reduceAdd, reduceLeDiff, reduceLT, reduceMul, reduceSub, Try.td4]; (repeat refine And.intro (by first | omega | assumption | exact rfl) ?_); (first | refine hK0 _ ?_ | refine Or.inl (hK0 _ ?_)); clear hK0 K0; simp only [put, app, setAll, trOf, zE, zS, reduceAdd])
        refine rg_nil ?_
        refine ⟨by simp only [keepEnv, lkp, zE, reduceCtorEq, reduceEqDiff, argEnv, reduceAdd]; exact rfl, rfl, ?_, rfl⟩; (repeat refine keep_cons rfl ?_); exact keep_m (by exact rfl) hq11
      case b11 => exact tle_of (by first | rfl | (simp [tleB]; done) | decide)
      simp only [join_or, join_and]
      (refine rg_step rfl fun K0 hK0 => ?_; simp only [zE, op1, ev, lkp, avOf, acOf, ev, reduceCtorEq, reduceEqDiff, reduceAdd, reduceLeDiff, reduceLT, reduceMul, reduceSub, Try.td4]; (repeat refine And.intro (by first | omega | assumption | exact rfl) ?_); (first | refine hK0 _ ?_ | refine Or.inl (hK0 _ ?_)); clear hK0 K0; simp only [put, app, setAll, trOf, zE, zS, reduceAdd])
      refine rg_nil ?_
      refine hK10 _ ?_; clear hK10; refine awp_keep [0, 1, 2, 6, 7, 8, 14] ?_; simp only [keepEnv, lkp, zE, reduceCtorEq, reduceEqDiff, argEnv, reduceAdd]
      refine awp_ret ?_
      refine ⟨by first | exact .inl rfl | exact .inr rfl, _, rfl, ?_⟩; simp only [fzV, fz1, fzC, List.map_cons, List.map_nil, keepEnv, lkp, zE, reduceCtorEq, reduceEqDiff, argEnv, reduceAdd]
      refine VLE.of_eq ?_
      refine congrArg (fun b => AV.one (AC.bool b)) ?_
      unfold opB
      symm
      first
      | (rw [if_pos (by assumption)]; done)
      | (rw [if_neg (by assumption), if_pos (by assumption)]; done)
      | (rw [if_neg (by assumption), if_neg (by assumption), if_pos (by assumption)]; done)
      | (rw [if_neg (by assumption), if_neg (by assumption), if_neg (by assumption)]; cases x <;> cases y <;> rfl)
    · (try simp only [zB, reduceCtorEq] at hc9)
      refine awp_seq_k fun K12 hK12 => ?_
      refine awp_reg hP hN rfl ?_
      iterate 2 (refine rg_step rfl fun K0 hK0 => ?_; simp only [zE, op1, ev, lkp, avOf, acOf, opBin, arith, strOp, inK_i64, eqACs, eqAC, reduceCtorEq, reduceEqDiff, reduceAdd, reduceLeDiff, reduceLT, reduceMul, reduceSub, Try.td3, Try.td4]; (repeat refine And.intro (by first | omega | assumption | exact rfl) ?_); (first | refine hK0 _ ?_ | refine Or.inl (hK0 _ ?_)); clear hK0 K0; simp only [put, app, setAll, trOf, zE, zS, reduceAdd])
      refine rg_nil ?_
      refine hK12 _ ?_; clear hK12; refine awp_keep [0, 1, 2, 6, 7, 8, 14, 20] ?_; simp only [keepEnv, lkp, zE, reduceCtorEq, reduceEqDiff, argEnv, reduceAdd]
      refine awp_cond (by simp only [ev, keepEnv, lkp, zE, reduceCtorEq, reduceEqDiff, argEnv, reduceAdd]; exact rfl) (fun hc13 => ?_) (fun hc13 => ?_)
      · (try simp only [zB, reduceCtorEq] at hc13)
        refine awp_seq_k fun K14 hK14 => ?_
        refine awp_reg hP hN rfl ?_
        (refine rg_step rfl fun K0 hK0 => ?_; simp only [zE, op1, ev, lkp, avOf, acOf, ev, reduceCtorEq, reduceEqDiff, reduceAdd, reduceLeDiff, reduceLT, reduceMul, reduceSub, Try.td4]; (repeat refine And.intro (by first | omega | assumption | exact rfl) ?_); (first | refine hK0 _ ?_ | refine Or.inl (hK0 _ ?_)); clear hK0 K0; simp only [put, app, setAll, trOf, zE, zS, reduceAdd])
        (refine rg_step rfl fun K0 hK0 => ?_; simp only [zE, op1, ev, lkp, avOf, acOf, ev, reduceCtorEq, reduceEqDiff, reduceAdd, reduceLeDiff, reduceLT, reduceMul, reduceSub, Try.td4]; (repeat refine And.intro (by first | omega | assumption | exact rfl) ?_); (first | refine hK0 _ ?_ | refine Or.inl (hK0 _ ?_)); clear hK0 K0; simp only [put, app, setAll, trOf, zE, zS, reduceAdd])
        refine' rg_join_n (want := true) 2 rfl (m := 23) (by simp only [keepEnv, lkp, zE, reduceCtorEq, reduceEqDiff, argEnv, reduceAdd]; exact rfl) (by kernel_rfl) rfl rfl rfl rfl rfl (fun hg15 => ?a15) ?b15 ?c15
        case a15 =>
          have hq15 := hg15; (try simp only [zB, reduceCtorEq] at hg15); simp only [List.take_succ_cons, List.take_zero, List.cons_append, List.nil_append]
          (refine rg_do rfl fun K0 hK0 => ?_; simp only [zE, op1, ev, lkp, avOf, acOf, ev, reduceCtorEq, reduceEqDiff, reduceAdd, reduceLeDiff, reduceLT, reduceMul, reduceSub, Try.td4]; (repeat refine And.intro (by first | omega | assumption | exact rfl) ?_); (first | refine hK0 _ ?_ | refine Or.inl (hK0 _ ?_)); clear hK0 K0; simp only [put, app, setAll, trOf, zE, zS, reduceAdd])
          (refine rg_do rfl fun K0 hK0 => ?_; simp only [zE, op1, ev, lkp, avOf, acOf, opUn, reduceCtorEq, reduceEqDiff, reduceAdd, reduceLeDiff, reduceLT, reduceMul, reduceSub, Try.td4]; (repeat refine And.intro (by first | omega | assumption | exact rfl) ?_); (first | refine hK0 _ ?_ | refine Or.inl (hK0 _ ?_)); clear hK0 K0; simp only [put, app, setAll, trOf, zE, zS, reduceAdd])
          (refine rg_step rfl fun K0 hK0 => ?_; simp only [zE, op1, ev, lkp, avOf, acOf, opPick, reduceCtorEq, reduceEqDiff, reduceAdd, reduceLeDiff, reduceLT, reduceMul, reduceSub, Try.td4]; (repeat refine And.intro (by first | omega | assumption | exact rfl) ?_); (first | refine hK0 _ ?_ | refine Or.inl (hK0 _ ?_)); clear hK0 K0; simp only [put, app, setAll, trOf, zE, zS, reduceAdd])
          refine rg_nil ?_
          refine ⟨by simp only [keepEnv, lkp, zE, reduceCtorEq, reduceEqDiff, argEnv, reduceAdd]; exact rfl, rfl, ?_, rfl⟩; (repeat refine keep_cons rfl ?_); exact keep_m (by exact rfl) hq15
        case b15 => exact tle_of (by first | rfl | (simp [tleB]; done) | decide)
        simp only [join_or, join_and]
        (refine rg_step rfl fun K0 hK0 => ?_; simp only [zE, op1, ev, lkp, avOf, acOf, ev, reduceCtorEq, reduceEqDiff, reduceAdd, reduceLeDiff, reduceLT, reduceMul, reduceSub, Try.td4]; (repeat refine And.intro (by first | omega | assumption | exact rfl) ?_); (first | refine hK0 _ ?_ | refine Or.inl (hK0 _ ?_)); clear hK0 K0; simp only [put, app, setAll, trOf, zE, zS, reduceAdd])
        refine rg_nil ?_
        refine hK14 _ ?_; clear hK14; refine awp_keep [0, 1, 2, 6, 7, 8, 14, 20] ?_; simp only [keepEnv, lkp, zE, reduceCtorEq, reduceEqDiff, argEnv, reduceAdd]
        refine awp_ret ?_
        refine ⟨by first | exact .inl rfl | exact .inr rfl, _, rfl, ?_⟩; simp only [fzV, fz1, fzC, List.map_cons, List.map_nil, keepEnv, lkp, zE, reduceCtorEq, reduceEqDiff, argEnv, reduceAdd]
        refine VLE.of_eq ?_
        refine congrArg (fun b => AV.one (AC.bool b)) ?_
        unfold opB
        symm
        first
        | (rw [if_pos (by assumption)]; done)
        | (rw [if_neg (by assumption), if_pos (by assumption)]; done)
        | (rw [if_neg (by assumption), if_neg (by assumption), if_pos (by assumption)]; done)
        | (rw [if_neg (by assumption), if_neg (by assumption), if_neg (by assumption)]; cases x <;> cases y <;> rfl)
      · (try simp only [zB, reduceCtorEq] at hc13)
        refine awp_skip ?_
        refine hK2 _ ?_; clear hK2; refine awp_keep [0, 1, 2, 6, 7, 8, 14, 20] ?_; simp only [keepEnv, lkp, zE, reduceCtorEq, reduceEqDiff, argEnv, reduceAdd]
        refine awp_seq_k fun K16 hK16 => ?_
        refine awp_reg hP hN rfl ?_
        iterate 4 (refine rg_step rfl fun K0 hK0 => ?_; simp only [zE, op1, ev, lkp, avOf, acOf, opBin, arith, strOp, inK_i64, eqACs, eqAC, reduceCtorEq, reduceEqDiff, reduceAdd, reduceLeDiff, reduceLT, reduceMul, reduceSub, Try.td4]; (repeat refine And.intro (by first | omega | assumption | exact rfl) ?_); (first | refine hK0 _ ?_ | refine Or.inl (hK0 _ ?_)); clear hK0 K0; simp only [put, app, setAll, trOf, zE, zS, reduceAdd])
        refine rg_nil ?_
        refine hK16 _ ?_; clear hK16; refine awp_keep [0, 1, 2, 6, 7, 8, 14, 20] ?_; simp only [keepEnv, lkp, zE, reduceCtorEq, reduceEqDiff, argEnv, reduceAdd]
        refine awp_ret ?_
        refine ⟨by first | exact .inl rfl | exact .inr rfl, _, rfl, ?_⟩; simp only [fzV, fz1, fzC, List.map_cons, List.map_nil, keepEnv, lkp, zE, reduceCtorEq, reduceEqDiff, argEnv, reduceAdd]
        refine VLE.of_eq ?_
        refine congrArg (fun b => AV.one (AC.bool b)) ?_
        unfold opB
        symm
        first
        | (rw [if_pos (by assumption)]; done)
        | (rw [if_neg (by assumption), if_pos (by assumption)]; done)
        | (rw [if_neg (by assumption), if_neg (by assumption), if_pos (by assumption)]; done)
        | (rw [if_neg (by assumption), if_neg (by assumption), if_neg (by assumption)]; cases x <;> cases y <;> rfl)
end Go.Proofs.Ytdkgcbhbpdbmnaa
namespace Go.Proofs.Ytdkgcbhbpdbmnaa
open Go Go.AV
open Nat (reduceEqDiff reduceAdd reduceLeDiff reduceLT reduceMul reduceSub)
open List (set_cons_zero set_cons_succ)
set_option maxRecDepth 100000 in
theorem dcb2_c (op : Int) (a b : Dfa) (q : PP) (ha : DOK a) (hb : DOK b) (hi : a.inp = b.inp) (hq : inR a.nx.length b.nx.length q) : PURE Try.prog 56 [.agg [.int .i64 q.1, .int .i64 q.2], .one (.pat (.int .i64) op 0), .one (.pat (.pair (.int .i64) (.pair (.int .i64) (.pair (.list (.list (.int .i64))) (.pair (.list .bool) .unit)))) (a.inp, (a.st, (a.nx, (a.acc, ())))) 0), .one (.pat (.pair (.int .i64) (.pair (.int .i64) (.pair (.list (.list (.int .i64))) (.pair (.list .bool) .unit)))) (b.inp, (b.st, (b.nx, (b.acc, ())))) 0)] (.one (.bool (fndC op a b q))) := by
  have hra := ha.rli hq.1; have hsa : ((a.nx.getD q.1.toNat []).length : Int) = a.inp := hra; have hta := hq.1; have hua := ha.al
  have hrb := hb.rli hq.2; have hsb : ((b.nx.getD q.2.toNat []).length : Int) = b.inp := hrb; have htb := hq.2; have hub := hb.al
  refine pure_of_le Try.func56 rfl (by kernel_rfl) (Nat.le_of_ble_eq_true rfl) rfl fun C hP hN hB => ?_
  replace hN : C.N = 20 := hN
  simp only [argEnv, reduceAdd]
  refine awp_seq_k fun K1 hK1 => ?_
  refine awp_reg hP hN rfl ?_
  iterate 2 (refine rg_step rfl fun K0 hK0 => ?_; simp only [zE, op1, ev, lkp, avOf, acOf, opBox, cellsAV, reduceCtorEq, reduceEqDiff, reduceAdd, reduceLeDiff, reduceLT, reduceMul, reduceSub, Try.ea81, Try.sa81, Try.td4, Try.td81]; (repeat refine And.intro (by first | omega | assumption | exact rfl) ?_); (first | refine hK0 _ ?_ | refine Or.inl (hK0 _ ?_)); clear hK0 K0; simp only [put, app, setAll, trOf, zE, zS, reduceAdd])
  refine rg_nil ?_
  refine hK1 _ ?_; clear hK1; refine awp_keep [0, 1, 2, 3, 4, 5] ?_; simp only [keepEnv, lkp, zE, reduceCtorEq, reduceEqDiff, argEnv, reduceAdd]
  refine awp_seq_k fun K2 hK2 => ?_
  refine awp_drw hP hN Try.mixed rfl ?_
  iterate 13 (refine rg_step rfl fun K0 hK0 => ?_; simp only [zE, op1, ev, lkp, avOf, acOf, opLoad, Nat.mul_one, readAC, isAggK, acs, Ty.dflt, zG, cellsAt, opFieldAddr, opIndexAddr, Ty.size, ne_eq, not_false_eq_true, Int.natCast_one, Int.mul_one, reduceCtorEq, reduceEqDiff, reduceAdd, reduceLeDiff, reduceLT, reduceMul, reduceSub, Try.ea81, Try.el23, Try.sa81, Try.st25, Try.td23, Try.td25, Try.td3, Try.td4, Try.td81]; (repeat refine And.intro (by first | omega | assumption | exact rfl) ?_); (first | refine hK0 _ ?_ | refine Or.inl (hK0 _ ?_)); clear hK0 K0; simp only [put, app, setAll, trOf, zE, zS, reduceAdd])
  refine rg_step rfl fun K0 hK0 => ?_
  refine op_call (h := call_of_pure (dcomb_c op (a.acc.getD q.1.toNat false) (b.acc.getD q.2.toNat false))) rfl rfl (by first | exact rfl | (simp only [ev, keepEnv, lkp, zE, reduceCtorEq, reduceEqDiff, argEnv, reduceAdd]; exact rfl)) (by simp only [zE, zG, op1, ev, lkp, avOf, acOf, cellsAV, acs, capAV, mv1, mvC, Ty.dflt, reduceCtorEq, reduceEqDiff, reduceAdd, reduceLeDiff, reduceLT, reduceMul, reduceSub]) ?_
  refine hK0 _ ?_; clear hK0 K0; simp only [put, app, setAll, trOf, zE, zS, reduceAdd]
  (refine rg_step rfl fun K0 hK0 => ?_; simp only [zE, op1, ev, lkp, avOf, acOf, ev, reduceCtorEq, reduceEqDiff, reduceAdd, reduceLeDiff, reduceLT, reduceMul, reduceSub, Try.td4]; (repeat refine And.intro (by first | omega | assumption | exact rfl) ?_); (first | refine hK0 _ ?_ | refine Or.inl (hK0 _ ?_)); clear hK0 K0; simp only [put, app, setAll, trOf, zE, zS, reduceAdd])
  refine rg_nil ?_
  refine ⟨by kernel_rfl, ?_⟩
  refine hK2 _ ?_; clear hK2; refine awp_keep [0, 1, 2, 3, 4, 5] ?_; simp only [keepEnv, lkp, zE, reduceCtorEq, reduceEqDiff, argEnv, reduceAdd]
  refine awp_ret ?_
  refine ⟨by first | exact .inl rfl | exact .inr rfl, _, rfl, ?_⟩; simp only [fzV, fz1, fzC, List.map_cons, List.map_nil, keepEnv, lkp, zE, reduceCtorEq, reduceEqDiff, argEnv, reduceAdd]
  refine VLE.of_eq ?_
  rfl
end Go.Proofs.Ytdkgcbhbpdbmnaa
namespace Go.AV
open Nat (reduceEqDiff reduceAdd reduceLeDiff reduceLT reduceMul reduceSub)
open List (set_cons_zero set_cons_succ)
/-plain-/
def allS (d : Dfa) : List W3 := dAll (stpS d) d.inp.toNat (d.nx.length * 1) (d.st, 0)
def allD (a b : Dfa) : List W3 := dAll (stpD a b) a.inp.toNat (a.nx.length * b.nx.length) (a.st, b.st)
def laW (g : PP → Bool) (L : List W3) : List Int := if dB g L = true then ((dQ g L).getD ((dQ g L).length - 1) w30).2 else []
def shoW (d : Dfa) : List Int := if validD d = 0 then laW (fndS d) (allS d) else []
def shoB (d : Dfa) : Bool := if validD d = 0 then dB (fndS d) (allS d) else false
def difW (a b : Dfa) : List Int := if twoD a b = 0 then laW (fndD a b) (allD a b) else []
def difB (a b : Dfa) : Bool := if twoD a b = 0 then dB (fndD a b) (allD a b) else false
def comD (op : Int) (a b : Dfa) : Dfa := if op < 0 ∨ 3 < op then dfa0 else if twoD a b = 0 then dBD (stpD a b) (fndC op a b) a.inp.toNat (allD a b) else dfa0
def comE (op : Int) (a b : Dfa) : Int := if op < 0 ∨ 3 < op then 2 else if twoD a b = 0 then dBE (allD a b) else twoD a b
theorem dQ_le (g : PP → Bool) (l : List W3) : (dQ g l).length ≤ l.length := by
  unfold dQ
  split
  · rw [List.length_take]; omega
  · exact Nat.le_refl _
theorem dQ_pos {g : PP → Bool} {l : List W3} (h : dB g l = true) : 0 < (dQ g l).length := by
  unfold dB at h
  obtain ⟨k, hk⟩ := Option.isSome_iff_exists.1 h
  have hlt : k < l.length := by
    unfold dFi at hk
    rw [List.findIdx?_eq_some_iff_findIdx_eq] at hk
    exact hk.1
  unfold dQ
  rw [hk]
  show 0 < (l.take (k + 1)).length
  rw [List.length_take]; omega
theorem st_inS {d : Dfa} (h : DOK d) : inR d.nx.length 1 (d.st, 0) := ⟨⟨h.s1, h.s2⟩, by simp, by simp⟩
theorem st_inD {a b : Dfa} (ha : DOK a) (hb : DOK b) : inR a.nx.length b.nx.length (a.st, b.st) := ⟨⟨ha.s1, ha.s2⟩, hb.s1, hb.s2⟩
theorem allS_le {d : Dfa} (h : DOK d) : (allS d).length ≤ 100000 := by
  have h1 := h.i1; have h2 := h.n2
  have := (dAll_closed (stpS_in h (n := d.inp.toNat) (by omega)) (st_inS h)).1.le
  unfold allS; omega
theorem mul_small {m n : Nat} (h1 : m ≤ 128) (h2 : n ≤ 128) : m * n ≤ 100000 := Nat.le_trans (Nat.mul_le_mul h1 h2) (by decide)
theorem allD_le {a b : Dfa} (ha : DOK a) (hb : DOK b) (hi : a.inp = b.inp) : (allD a b).length ≤ 100000 := by
  have h1 := ha.i1
  exact Nat.le_trans (dAll_closed (stpD_in ha hb hi (n := a.inp.toNat) (by omega)) (st_inD ha hb)).1.le (mul_small ha.n2 hb.n2)
end Go.AV
namespace Go.Proofs.Ytdkgcbhbpdbmnaa
open Go Go.AV
open Nat (reduceEqDiff reduceAdd reduceLeDiff reduceLT reduceMul reduceSub)
open List (set_cons_zero set_cons_succ)
set_option maxRecDepth 100000 in
theorem dcombine_c (op : Int) (a b : Dfa) : PURE Try.prog 22 [.one (.int .i64 op), a.av, b.av] (.tup [(comD op a b).av, .one (.int .i64 (comE op a b))]) := by
  refine pure_of_le Try.func22 rfl (by kernel_rfl) (Nat.le_of_ble_eq_true rfl) rfl fun C hP hN hB => ?_
  replace hN : C.N = 39 := hN
  simp only [argEnv, reduceAdd]
  refine awp_seq_k fun K1 hK1 => ?_
  refine awp_reg hP hN rfl ?_
  iterate 5 (refine rg_step rfl fun K0 hK0 => ?_; simp only [zE, op1, ev, lkp, avOf, acOf, opBox, cellsAV, opAlloc, reduceCtorEq, reduceEqDiff, reduceAdd, reduceLeDiff, reduceLT, reduceMul, reduceSub, Try.st25, Try.td25, Try.td29, Try.td3, Dfa.av]; (repeat refine And.intro (by first | omega | assumption | exact rfl) ?_); (first | refine hK0 _ ?_ | refine Or.inl (hK0 _ ?_)); clear hK0 K0; simp only [put, app, setAll, trOf, zE, zS, reduceAdd])
  refine rg_nil ?_
  refine hK1 _ ?_; clear hK1; refine awp_keep [0, 1, 2, 3, 4, 5, 6, 7] ?_; simp only [keepEnv, lkp, zE, reduceCtorEq, reduceEqDiff, argEnv, reduceAdd]
  refine awp_seq_k fun K2 hK2 => ?_
  refine awp_seq_k fun K3 hK3 => ?_
  refine awp_reg hP hN rfl ?_
  iterate 2 (refine rg_step rfl fun K0 hK0 => ?_; simp only [zE, op1, ev, lkp, avOf, acOf, opLoad, Nat.mul_one, readAC, isAggK, acs, Ty.dflt, zG, cellsAt, opBin, arith, strOp, inK_i64, eqACs, eqAC, reduceCtorEq, reduceEqDiff, reduceAdd, reduceLeDiff, reduceLT, reduceMul, reduceSub, Try.td3, Try.td4, Dfa.av]; (repeat refine And.intro (by first | omega | assumption | exact rfl) ?_); (first | refine hK0 _ ?_ | refine Or.inl (hK0 _ ?_)); clear hK0 K0; simp only [put, app, setAll, trOf, zE, zS, reduceAdd])
  (refine rg_step rfl fun K0 hK0 => ?_; simp only [zE, op1, ev, lkp, avOf, acOf, ev, reduceCtorEq, reduceEqDiff, reduceAdd, reduceLeDiff, reduceLT, reduceMul, reduceSub, Try.td4, Dfa.av]; (repeat refine And.intro (by first | omega | assumption | exact rfl) ?_); (first | refine hK0 _ ?_ | refine Or.inl (hK0 _ ?_)); clear hK0 K0; simp only [put, app, setAll, trOf, zE, zS, reduceAdd])
  refine' rg_join_n (want := false) 2 rfl (m := 13) (by simp only [keepEnv, lkp, zE, reduceCtorEq, reduceEqDiff, argEnv, reduceAdd]; exact rfl) (by kernel_rfl) rfl rfl rfl rfl rfl (fun hg4 => ?a4) ?b4 ?c4
  case a4 =>
    have hq4 := hg4; (try simp only [zB, reduceCtorEq] at hg4); simp only [List.take_succ_cons, List.take_zero, List.cons_append, List.nil_append]
    (refine rg_do rfl fun K0 hK0 => ?_; simp only [zE, op1, ev, lkp, avOf, acOf, opLoad, Nat.mul_one, readAC, isAggK, acs, Ty.dflt, zG, cellsAt, reduceCtorEq, reduceEqDiff, reduceAdd, reduceLeDiff, reduceLT, reduceMul, reduceSub, Try.td3, Dfa.av]; (repeat refine And.intro (by first | omega | assumption | exact rfl) ?_); (first | refine hK0 _ ?_ | refine Or.inl (hK0 _ ?_)); clear hK0 K0; simp only [put, app, setAll, trOf, zE, zS, reduceAdd])
    (refine rg_do rfl fun K0 hK0 => ?_; simp only [zE, op1, ev, lkp, avOf, acOf, opBin, arith, strOp, inK_i64, eqACs, eqAC, reduceCtorEq, reduceEqDiff, reduceAdd, reduceLeDiff, reduceLT, reduceMul, reduceSub, Try.td3, Try.td4, Dfa.av]; (repeat refine And.intro (by first | omega | assumption | exact rfl) ?_); (first | refine hK0 _ ?_ | refine Or.inl (hK0 _ ?_)); clear hK0 K0; simp only [put, app, setAll, trOf, zE, zS, reduceAdd])
    (refine rg_step rfl fun K0 hK0 => ?_; simp only [zE, op1, ev, lkp, avOf, acOf, opPick, reduceCtorEq, reduceEqDiff, reduceAdd, reduceLeDiff, reduceLT, reduceMul, reduceSub, Try.td4, Dfa.av]; (repeat refine And.intro (by first | omega | assumption | exact rfl) ?_); (first | refine hK0 _ ?_ | refine Or.inl (hK0 _ ?_)); clear hK0 K0; simp only [put, app, setAll, trOf, zE, zS, reduceAdd])
    refine rg_nil ?_
    refine ⟨by simp only [keepEnv, lkp, zE, reduceCtorEq, reduceEqDiff, argEnv, reduceAdd]; exact rfl, rfl, ?_, rfl⟩; (repeat refine keep_cons rfl ?_); exact keep_m (by exact rfl) hq4
  case b4 => exact tle_of (by first | rfl | (simp [tleB]; done) | decide)
  simp only [join_or, join_and]
  refine rg_nil ?_
  refine hK3 _ ?_; clear hK3; refine awp_keep [0, 1, 2, 3, 4, 5, 6, 7, 16] ?_; simp only [keepEnv, lkp, zE, reduceCtorEq, reduceEqDiff, argEnv, reduceAdd]
  refine awp_cond (by simp only [ev, keepEnv, lkp, zE, reduceCtorEq, reduceEqDiff, argEnv, reduceAdd]; exact rfl) (fun hc5 => ?_) (fun hc5 => ?_)
  · (try simp only [zB, reduceCtorEq] at hc5)
    have hop : op < 0 ∨ 3 < op := by omega
    refine awp_seq_k fun K6 hK6 => ?_
    refine awp_reg hP hN rfl ?_
    iterate 3 (refine rg_step rfl fun K0 hK0 => ?_; simp only [zE, op1, ev, lkp, avOf, acOf, opBuild, fillAC, writeAC, cellsAV, opStore, Nat.mul_one, datOf, acs, Ty.size, Ty.dflt, zG, reduceCtorEq, reduceEqDiff, reduceAdd, reduceLeDiff, reduceLT, reduceMul, reduceSub, Try.st25, Try.td25, Try.td29, Dfa.av]; (repeat refine And.intro (by first | omega | assumption | exact rfl) ?_); (first | refine hK0 _ ?_ | refine Or.inl (hK0 _ ?_)); clear hK0 K0; simp only [put, app, setAll, trOf, zE, zS, reduceAdd])
    refine rg_nil ?_
    refine hK6 _ ?_; clear hK6; refine awp_keep [0, 1, 2, 3, 4, 5, 6, 7, 16] ?_; simp only [keepEnv, lkp, zE, reduceCtorEq, reduceEqDiff, argEnv, reduceAdd]
    refine awp_ret ?_
    refine ⟨by first | exact .inl rfl | exact .inr rfl, _, rfl, ?_⟩; simp only [fzV, fz1, fzC, List.map_cons, List.map_nil, keepEnv, lkp, zE, reduceCtorEq, reduceEqDiff, argEnv, reduceAdd, Dfa.av]
    first
    | (have e1 : comD op a b = dfa0 := if_pos hop
       have e2 : comE op a b = 2 := if_pos hop
       rw [e1, e2]; exact vle_tup ⟨vle1_agg ⟨.refl _, .refl _, cle_nils rfl, cle_nils rfl, trivial⟩, vle1_one (.refl _), trivial⟩)
    | (have e1 : comD op a b = dfa0 := by unfold comD; rw [if_neg hop, if_neg (by assumption)]
       have e2 : comE op a b = twoD a b := by unfold comE; rw [if_neg hop, if_neg (by assumption)]
       rw [e1, e2]; exact vle_tup ⟨vle1_agg ⟨.refl _, .refl _, cle_nils rfl, cle_nils rfl, trivial⟩, vle1_one (.refl _), trivial⟩)
    | (have e1 : comD op a b = dBD (stpD a b) (fndC op a b) a.inp.toNat (allD a b) := by unfold comD; rw [if_neg hop, if_pos ht]
       have e2 : comE op a b = dBE (allD a b) := by unfold comE; rw [if_neg hop, if_pos ht]
       rw [e1, e2]; exact VLE.of_eq rfl)
  · (try simp only [zB, reduceCtorEq] at hc5)
    have hop : ¬ (op < 0 ∨ 3 < op) := by omega
    refine awp_skip ?_
    refine hK2 _ ?_; clear hK2; refine awp_keep [0, 1, 2, 3, 4, 5, 6, 7, 16] ?_; simp only [keepEnv, lkp, zE, reduceCtorEq, reduceEqDiff, argEnv, reduceAdd]
    refine awp_seq_k fun K7 hK7 => ?_
    refine awp_seq_k fun K8 hK8 => ?_
    refine awp_reg hP hN rfl ?_
    iterate 2 (refine rg_step rfl fun K0 hK0 => ?_; simp only [zE, op1, ev, lkp, avOf, acOf, opLoad, Nat.mul_one, readAC, isAggK, acs, Ty.dflt, zG, cellsAt, reduceCtorEq, reduceEqDiff, reduceAdd, reduceLeDiff, reduceLT, reduceMul, reduceSub, Try.st25, Try.td25, Dfa.av]; (repeat refine And.intro (by first | omega | assumption | exact rfl) ?_); (first | refine hK0 _ ?_ | refine Or.inl (hK0 _ ?_)); clear hK0 K0; simp only [put, app, setAll, trOf, zE, zS, reduceAdd])
    refine rg_step rfl fun K0 hK0 => ?_
    refine op_call (h := call_of_pure (dboth_c a b)) rfl rfl (by first | exact rfl | (simp only [ev, keepEnv, lkp, zE, reduceCtorEq, reduceEqDiff, argEnv, reduceAdd]; exact rfl)) (by simp only [zE, zG, op1, ev, lkp, avOf, acOf, cellsAV, acs, capAV, mv1, mvC, Ty.dflt, reduceCtorEq, reduceEqDiff, reduceAdd, reduceLeDiff, reduceLT, reduceMul, reduceSub, Dfa.av]) ?_
    refine hK0 _ ?_; clear hK0 K0; simp only [put, app, setAll, trOf, zE, zS, reduceAdd]
    (refine rg_step rfl fun K0 hK0 => ?_; simp only [zE, op1, ev, lkp, avOf, acOf, ev, reduceCtorEq, reduceEqDiff, reduceAdd, reduceLeDiff, reduceLT, reduceMul, reduceSub, Try.td29, Dfa.av]; (repeat refine And.intro (by first | omega | assumption | exact rfl) ?_); (first | refine hK0 _ ?_ | refine Or.inl (hK0 _ ?_)); clear hK0 K0; simp only [put, app, setAll, trOf, zE, zS, reduceAdd])
    refine rg_nil ?_
    refine hK8 _ ?_; clear hK8; refine awp_keep [0, 1, 2, 3, 4, 5, 6, 7, 8, 16] ?_; simp only [keepEnv, lkp, zE, reduceCtorEq, reduceEqDiff, argEnv, reduceAdd]
    refine awp_seq_k fun K9 hK9 => ?_
    refine awp_reg hP hN rfl ?_
    iterate 2 (refine rg_step rfl fun K0 hK0 => ?_; simp only [zE, op1, ev, lkp, avOf, acOf, opBin, arith, strOp, inK_i64, eqACs, eqAC, reduceCtorEq, reduceEqDiff, reduceAdd, reduceLeDiff, reduceLT, reduceMul, reduceSub, Try.td29, Try.td4, Dfa.av]; (repeat refine And.intro (by first | omega | assumption | exact rfl) ?_); (first | refine hK0 _ ?_ | refine Or.inl (hK0 _ ?_)); clear hK0 K0; simp only [put, app, setAll, trOf, zE, zS, reduceAdd])
    refine rg_nil ?_
    refine hK9 _ ?_; clear hK9; refine awp_keep [0, 1, 2, 3, 4, 5, 6, 7, 8, 16, 22] ?_; simp only [keepEnv, lkp, zE, reduceCtorEq, reduceEqDiff, argEnv, reduceAdd]
    refine awp_cond (by simp only [ev, keepEnv, lkp, zE, reduceCtorEq, reduceEqDiff, argEnv, reduceAdd]; exact rfl) (fun hc10 => ?_) (fun hc10 => ?_)
    · (try simp only [zB, reduceCtorEq] at hc10)
      refine awp_seq_k fun K11 hK11 => ?_
      refine awp_reg hP hN rfl ?_
      iterate 4 (refine rg_step rfl fun K0 hK0 => ?_; simp only [zE, op1, ev, lkp, avOf, acOf, opBuild, fillAC, writeAC, cellsAV, opStore, Nat.mul_one, datOf, acs, Ty.size, Ty.dflt, zG, reduceCtorEq, reduceEqDiff, reduceAdd, reduceLeDiff, reduceLT, reduceMul, reduceSub, Try.st25, Try.td25, Try.td29, Dfa.av]; (repeat refine And.intro (by first | omega | assumption | exact rfl) ?_); (first | refine hK0 _ ?_ | refine Or.inl (hK0 _ ?_)); clear hK0 K0; simp only [put, app, setAll, trOf, zE, zS, reduceAdd])
      refine rg_nil ?_
      refine hK11 _ ?_; clear hK11; refine awp_keep [0, 1, 2, 3, 4, 5, 6, 7, 8, 16, 22] ?_; simp only [keepEnv, lkp, zE, reduceCtorEq, reduceEqDiff, argEnv, reduceAdd]
      refine awp_ret ?_
      refine ⟨by first | exact .inl rfl | exact .inr rfl, _, rfl, ?_⟩; simp only [fzV, fz1, fzC, List.map_cons, List.map_nil, keepEnv, lkp, zE, reduceCtorEq, reduceEqDiff, argEnv, reduceAdd, Dfa.av]
      first
      | (have e1 : comD op a b = dfa0 := if_pos hop
         have e2 : comE op a b = 2 := if_pos hop
         rw [e1, e2]; exact vle_tup ⟨vle1_agg ⟨.refl _, .refl _, cle_nils rfl, cle_nils rfl, trivial⟩, vle1_one (.refl _), trivial⟩)
      | (have e1 : comD op a b = dfa0 := by unfold comD; rw [if_neg hop, if_neg (by assumption)]
         have e2 : comE op a b = twoD a b := by unfold comE; rw [if_neg hop, if_neg (by assumption)]
         rw [e1, e2]; exact vle_tup ⟨vle1_agg ⟨.refl _, .refl _, cle_nils rfl, cle_nils rfl, trivial⟩, vle1_one (.refl _), trivial⟩)
      | (have e1 : comD op a b = dBD (stpD a b) (fndC op a b) a.inp.toNat (allD a b) := by unfold comD; rw [if_neg hop, if_pos ht]
         have e2 : comE op a b = dBE (allD a b) := by unfold comE; rw [if_neg hop, if_pos ht]
         rw [e1, e2]; exact VLE.of_eq rfl)
    · (try simp only [zB, reduceCtorEq] at hc10)
      have ht : twoD a b = 0 := by omega
      obtain ⟨ha, hb, hi⟩ := twoD_ok ht
      have a1 := ha.i1; have a2 := ha.i2; have a4 := ha.n2; have b4 := hb.n2; have hm9 := mul_small a4 b4
      refine awp_skip ?_
      refine hK7 _ ?_; clear hK7; refine awp_keep [0, 1, 2, 3, 4, 5, 6, 7, 8, 16, 22] ?_; simp only [keepEnv, lkp, zE, reduceCtorEq, reduceEqDiff, argEnv, reduceAdd]
      refine awp_seq_k fun K12 hK12 => ?_
      refine awp_share 0 (.int .i64) rfl rfl ?_; simp only [List.map_cons, List.map_nil, shV, if_true, zS, if_false, eq_self, reduceEqDiff, reduceCtorEq, Nat.one_ne_zero, Nat.zero_ne_one]
      refine awp_share 1 (.pair (.int .i64) (.pair (.int .i64) (.pair (.list (.list (.int .i64))) (.pair (.list .bool) .unit)))) rfl rfl ?_; simp only [List.map_cons, List.map_nil, shV, if_true, zS, if_false, eq_self, reduceEqDiff, reduceCtorEq, Nat.one_ne_zero, Nat.zero_ne_one]
      refine awp_share 2 (.pair (.int .i64) (.pair (.int .i64) (.pair (.list (.list (.int .i64))) (.pair (.list .bool) .unit)))) rfl rfl ?_; simp only [List.map_cons, List.map_nil, shV, if_true, zS, if_false, eq_self, reduceEqDiff, reduceCtorEq, Nat.one_ne_zero, Nat.zero_ne_one]
      refine awp_reg hP hN rfl ?_
      iterate 2 (refine rg_step rfl fun K0 hK0 => ?_; simp only [zE, op1, ev, lkp, avOf, acOf, opMakeFunc, ptrsOf, capOf, reduceCtorEq, reduceEqDiff, reduceAdd, reduceLeDiff, reduceLT, reduceMul, reduceSub, Try.td82, Dfa.av]; (repeat refine And.intro (by first | omega | assumption | exact rfl) ?_); (first | refine hK0 _ ?_ | refine Or.inl (hK0 _ ?_)); clear hK0 K0; simp only [put, app, setAll, trOf, zE, zS, reduceAdd])
      refine rg_nil ?_
      refine hK12 _ ?_; clear hK12; refine awp_keep [0, 1, 2, 3, 4, 5, 6, 7, 8, 9, 16, 22] ?_; simp only [keepEnv, lkp, zE, reduceCtorEq, reduceEqDiff, argEnv, reduceAdd]
      refine awp_seq_k fun K13 hK13 => ?_
      refine awp_reg hP hN rfl ?_
      iterate 2 (refine rg_step rfl fun K0 hK0 => ?_; simp only [zE, op1, ev, lkp, avOf, acOf, opMakeFunc, ptrsOf, capOf, reduceCtorEq, reduceEqDiff, reduceAdd, reduceLeDiff, reduceLT, reduceMul, reduceSub, Try.td87, Dfa.av]; (repeat refine And.intro (by first | omega | assumption | exact rfl) ?_); (first | refine hK0 _ ?_ | refine Or.inl (hK0 _ ?_)); clear hK0 K0; simp only [put, app, setAll, trOf, zE, zS, reduceAdd])
      refine rg_nil ?_
      refine hK13 _ ?_; clear hK13; refine awp_keep [0, 1, 2, 3, 4, 5, 6, 7, 8, 9, 10, 16, 22] ?_; simp only [keepEnv, lkp, zE, reduceCtorEq, reduceEqDiff, argEnv, reduceAdd]
      refine awp_seq_k fun K14 hK14 => ?_
      refine awp_reg hP hN rfl ?_
      iterate 9 (refine rg_step rfl fun K0 hK0 => ?_; simp only [zE, op1, ev, lkp, avOf, acOf, opFieldAddr, opLoad, Nat.mul_one, readAC, isAggK, acs, Ty.dflt, zG, cellsAt, opBuild, fillAC, writeAC, cellsAV, reduceCtorEq, reduceEqDiff, reduceAdd, reduceLeDiff, reduceLT, reduceMul, reduceSub, Try.ea81, Try.sa81, Try.st25, Try.td1, Try.td25, Try.td3, Try.td81, Try.td82, Try.td87, Dfa.av]; (repeat refine And.intro (by first | omega | assumption | exact rfl) ?_); (first | refine hK0 _ ?_ | refine Or.inl (hK0 _ ?_)); clear hK0 K0; simp only [put, app, setAll, trOf, zE, zS, reduceAdd])
      refine rg_step rfl fun K0 hK0 => ?_
      refine op_call (h := call_of_pure (dbuild_c a.inp.toNat 55 56 [.pat (.pair (.int .i64) (.pair (.int .i64) (.pair (.list (.list (.int .i64))) (.pair (.list .bool) .unit)))) (a.inp, (a.st, (a.nx, (a.acc, ())))), .pat (.pair (.int .i64) (.pair (.int .i64) (.pair (.list (.list (.int .i64))) (.pair (.list .bool) .unit)))) (b.inp, (b.st, (b.nx, (b.acc, ()))))] [.pat (.int .i64) op, .pat (.pair (.int .i64) (.pair (.int .i64) (.pair (.list (.list (.int .i64))) (.pair (.list .bool) .unit)))) (a.inp, (a.st, (a.nx, (a.acc, ())))), .pat (.pair (.int .i64) (.pair (.int .i64) (.pair (.list (.list (.int .i64))) (.pair (.list .bool) .unit)))) (b.inp, (b.st, (b.nx, (b.acc, ()))))] (stpD a b) (fndC op a b) (a.st, b.st) a.nx.length b.nx.length a.inp (by omega) rfl rfl hm9 (by omega) (by omega) (by omega) (st_inD ha hb) (stpD_in ha hb hi (by omega)) (fun q x hq hx => dcb1_c a b q x ha hb hi hq (by omega)) (fun q hq => dcb2_c op a b q ha hb hi hq))) rfl rfl (by first | exact rfl | (simp only [ev, keepEnv, lkp, zE, reduceCtorEq, reduceEqDiff, argEnv, reduceAdd]; exact rfl)) (by simp only [zE, zG, op1, ev, lkp, avOf, acOf, cellsAV, acs, capAV, mv1, mvC, Ty.dflt, reduceCtorEq, reduceEqDiff, reduceAdd, reduceLeDiff, reduceLT, reduceMul, reduceSub, Dfa.av]) ?_
      refine hK0 _ ?_; clear hK0 K0; simp only [put, app, setAll, trOf, zE, zS, reduceAdd]
      iterate 4 (refine rg_step rfl fun K0 hK0 => ?_; simp only [zE, op1, ev, lkp, avOf, acOf, opExtract, opStore, Nat.mul_one, cellsAV, writeAC, datOf, acs, Ty.size, Ty.dflt, zG, reduceCtorEq, reduceEqDiff, reduceAdd, reduceLeDiff, reduceLT, reduceMul, reduceSub, Try.st25, Try.td1, Try.td25, Try.td29, Dfa.av]; (repeat refine And.intro (by first | omega | assumption | exact rfl) ?_); (first | refine hK0 _ ?_ | refine Or.inl (hK0 _ ?_)); clear hK0 K0; simp only [put, app, setAll, trOf, zE, zS, reduceAdd])
      refine rg_nil ?_
      refine hK14 _ ?_; clear hK14; refine awp_keep [0, 1, 2, 3, 4, 5, 6, 7, 8, 9, 10, 16, 22] ?_; simp only [keepEnv, lkp, zE, reduceCtorEq, reduceEqDiff, argEnv, reduceAdd]
      refine awp_ret ?_
      refine ⟨by first | exact .inl rfl | exact .inr rfl, _, rfl, ?_⟩; simp only [fzV, fz1, fzC, List.map_cons, List.map_nil, keepEnv, lkp, zE, reduceCtorEq, reduceEqDiff, argEnv, reduceAdd, Dfa.av]
      first
      | (have e1 : comD op a b = dfa0 := if_pos hop
         have e2 : comE op a b = 2 := if_pos hop
         rw [e1, e2]; exact vle_tup ⟨vle1_agg ⟨.refl _, .refl _, cle_nils rfl, cle_nils rfl, trivial⟩, vle1_one (.refl _), trivial⟩)
      | (have e1 : comD op a b = dfa0 := by unfold comD; rw [if_neg hop, if_neg (by assumption)]
         have e2 : comE op a b = twoD a b := by unfold comE; rw [if_neg hop, if_neg (by assumption)]
         rw [e1, e2]; exact vle_tup ⟨vle1_agg ⟨.refl _, .refl _, cle_nils rfl, cle_nils rfl, trivial⟩, vle1_one (.refl _), trivial⟩)
      | (have e1 : comD op a b = dBD (stpD a b) (fndC op a b) a.inp.toNat (allD a b) := by unfold comD; rw [if_neg hop, if_pos ht]
         have e2 : comE op a b = dBE (allD a b) := by unfold comE; rw [if_neg hop, if_pos ht]
         rw [e1, e2]; exact VLE.of_eq rfl)
end Go.Proofs.Ytdkgcbhbpdbmnaa
namespace Go.Proofs.Ytdkgcbhbpdbmnaa
open Go Go.AV
open Nat (reduceEqDiff reduceAdd reduceLeDiff reduceLT reduceMul reduceSub)
open List (set_cons_zero set_cons_succ)
set_option maxRecDepth 100000 in
theorem clone0  : PURE Try.prog 43 [.one .nils] (.one .nils) := by
  refine pure_of_le Try.func43 rfl (by kernel_rfl) (Nat.le_of_ble_eq_true rfl) rfl fun C hP hN hB => ?_
  replace hN : C.N = 8 := hN
  simp only [argEnv, reduceAdd]
  refine awp_seq_k fun K1 hK1 => ?_
  refine awp_reg hP hN rfl ?_
  (refine rg_step rfl fun K0 hK0 => ?_; simp only [zE, op1, ev, lkp, avOf, acOf, ev, reduceCtorEq, reduceEqDiff, reduceAdd, reduceLeDiff, reduceLT, reduceMul, reduceSub, Try.el26, Try.td26]; (repeat refine And.intro (by first | omega | assumption | exact rfl) ?_); (first | refine hK0 _ ?_ | refine Or.inl (hK0 _ ?_)); clear hK0 K0; simp only [put, app, setAll, trOf, zE, zS, reduceAdd])
  refine rg_nil ?_
  refine hK1 _ ?_; clear hK1; refine awp_keep [0, 2] ?_; simp only [keepEnv, lkp, zE, reduceCtorEq, reduceEqDiff, argEnv, reduceAdd]
  refine awp_seq_k fun K2 hK2 => ?_
  refine awp_seq_k fun K3 hK3 => ?_
  refine awp_reg hP hN rfl ?_
  iterate 2 (refine rg_step rfl fun K0 hK0 => ?_; simp only [zE, op1, ev, lkp, avOf, acOf, opBin, arith, strOp, inK_i64, eqACs, eqAC, reduceCtorEq, reduceEqDiff, reduceAdd, reduceLeDiff, reduceLT, reduceMul, reduceSub, Try.el26, Try.td26, Try.td4]; (repeat refine And.intro (by first | omega | assumption | exact rfl) ?_); (first | refine hK0 _ ?_ | refine Or.inl (hK0 _ ?_)); clear hK0 K0; simp only [put, app, setAll, trOf, zE, zS, reduceAdd])
  refine rg_nil ?_
  refine hK3 _ ?_; clear hK3; refine awp_keep [0, 2, 4] ?_; simp only [keepEnv, lkp, zE, reduceCtorEq, reduceEqDiff, argEnv, reduceAdd]
  refine awp_cond (by simp only [ev, keepEnv, lkp, zE, reduceCtorEq, reduceEqDiff, argEnv, reduceAdd]; exact rfl) (fun hc4 => ?_) (fun hc4 => ?_)
  · (try simp only [zB, reduceCtorEq] at hc4)
    refine awp_seq_k fun K5 hK5 => ?_
    refine awp_reg hP hN rfl ?_
    (refine rg_step rfl fun K0 hK0 => ?_; simp only [zE, op1, ev, lkp, avOf, acOf, ev, reduceCtorEq, reduceEqDiff, reduceAdd, reduceLeDiff, reduceLT, reduceMul, reduceSub, Try.el26, Try.td26]; (repeat refine And.intro (by first | omega | assumption | exact rfl) ?_); (first | refine hK0 _ ?_ | refine Or.inl (hK0 _ ?_)); clear hK0 K0; simp only [put, app, setAll, trOf, zE, zS, reduceAdd])
    refine rg_nil ?_
    refine hK5 _ ?_; clear hK5; refine awp_keep [0, 2, 4] ?_; simp only [keepEnv, lkp, zE, reduceCtorEq, reduceEqDiff, argEnv, reduceAdd]
    refine awp_ret ?_
    refine ⟨by first | exact .inl rfl | exact .inr rfl, _, rfl, ?_⟩; simp only [fzV, fz1, fzC, List.map_cons, List.map_nil, keepEnv, lkp, zE, reduceCtorEq, reduceEqDiff, argEnv, reduceAdd]
    refine VLE.of_eq ?_
    rfl
  · exfalso; (try simp only [zB, reduceCtorEq] at hc4); all_goals (first | (cases hc4; done) | omega | (simp at hc4; done) | (simp_all; done))
end Go.Proofs.Ytdkgcbhbpdbmnaa
namespace Go.Proofs.Ytdkgcbhbpdbmnaa
open Go Go.AV
open Nat (reduceEqDiff reduceAdd reduceLeDiff reduceLT reduceMul reduceSub)
open List (set_cons_zero set_cons_succ)
set_option maxRecDepth 100000 in
theorem clone1  : PURE Try.prog 43 [.one .emp] (.one (.list (.int .i64) [])) := by
  refine pure_of_le Try.func43 rfl (by kernel_rfl) (Nat.le_of_ble_eq_true rfl) rfl fun C hP hN hB => ?_
  replace hN : C.N = 8 := hN
  simp only [argEnv, reduceAdd]
  refine awp_seq_k fun K1 hK1 => ?_
  refine awp_reg hP hN rfl ?_
  (refine rg_step rfl fun K0 hK0 => ?_; simp only [zE, op1, ev, lkp, avOf, acOf, ev, reduceCtorEq, reduceEqDiff, reduceAdd, reduceLeDiff, reduceLT, reduceMul, reduceSub, Try.el26, Try.td26]; (repeat refine And.intro (by first | omega | assumption | exact rfl) ?_); (first | refine hK0 _ ?_ | refine Or.inl (hK0 _ ?_)); clear hK0 K0; simp only [put, app, setAll, trOf, zE, zS, reduceAdd])
  refine rg_nil ?_
  refine hK1 _ ?_; clear hK1; refine awp_keep [0, 2] ?_; simp only [keepEnv, lkp, zE, reduceCtorEq, reduceEqDiff, argEnv, reduceAdd]
  refine awp_seq_k fun K2 hK2 => ?_
  refine awp_seq_k fun K3 hK3 => ?_
  refine awp_reg hP hN rfl ?_
  iterate 2 (refine rg_step rfl fun K0 hK0 => ?_; simp only [zE, op1, ev, lkp, avOf, acOf, opBin, arith, strOp, inK_i64, eqACs, eqAC, reduceCtorEq, reduceEqDiff, reduceAdd, reduceLeDiff, reduceLT, reduceMul, reduceSub, Try.el26, Try.td26, Try.td4]; (repeat refine And.intro (by first | omega | assumption | exact rfl) ?_); (first | refine hK0 _ ?_ | refine Or.inl (hK0 _ ?_)); clear hK0 K0; simp only [put, app, setAll, trOf, zE, zS, reduceAdd])
  refine rg_nil ?_
  refine hK3 _ ?_; clear hK3; refine awp_keep [0, 2, 4] ?_; simp only [keepEnv, lkp, zE, reduceCtorEq, reduceEqDiff, argEnv, reduceAdd]
  refine awp_cond (by simp only [ev, keepEnv, lkp, zE, reduceCtorEq, reduceEqDiff, argEnv, reduceAdd]; exact rfl) (fun hc4 => ?_) (fun hc4 => ?_)
  · exfalso; (try simp only [zB, reduceCtorEq] at hc4); all_goals (first | (cases hc4; done) | omega | (simp at hc4; done) | (simp_all; done))
  · (try simp only [zB, reduceCtorEq] at hc4)
    refine awp_skip ?_
    refine hK2 _ ?_; clear hK2; refine awp_keep [0, 2, 4] ?_; simp only [keepEnv, lkp, zE, reduceCtorEq, reduceEqDiff, argEnv, reduceAdd]
    refine awp_seq_k fun K5 hK5 => ?_
    refine awp_reg hP hN rfl ?_
    (refine rg_step rfl fun K0 hK0 => ?_; simp only [zE, op1, ev, lkp, avOf, acOf, opBuildSlice, fillAC, chunk, rep, datOf, writeAC, cellsAV, Ty.size, reduceCtorEq, reduceEqDiff, reduceAdd, reduceLeDiff, reduceLT, reduceMul, reduceSub, Try.el26, Try.td26]; (repeat refine And.intro (by first | omega | assumption | exact rfl) ?_); refine Or.inr (Or.inl (hK0 _ ?_)); clear hK0 K0; simp only [put, app, setAll, trOf, zE, zS, reduceAdd])
    iterate 3 (refine rg_step rfl fun K0 hK0 => ?_; simp only [zE, op1, ev, lkp, avOf, acOf, opCallAny, opMM, opLen, lenAC, lenOk, fpAC, Nat.div_one, opAppend, srcOf, Ty.size, datOf, dite_true, reduceCtorEq, reduceEqDiff, reduceAdd, reduceLeDiff, reduceLT, reduceMul, reduceSub, Try.el26, Try.td26]; (repeat refine And.intro (by first | omega | assumption | exact rfl) ?_); (first | refine hK0 _ ?_ | refine Or.inl (hK0 _ ?_)); clear hK0 K0; simp only [put, app, setAll, trOf, zE, zS, reduceAdd])
    refine rg_nil ?_
    refine hK5 _ ?_; clear hK5; refine awp_keep [0, 2, 4] ?_; simp only [keepEnv, lkp, zE, reduceCtorEq, reduceEqDiff, argEnv, reduceAdd]
    refine awp_ret ?_
    refine ⟨by first | exact .inl rfl | exact .inr rfl, _, rfl, ?_⟩; simp only [fzV, fz1, fzC, List.map_cons, List.map_nil, keepEnv, lkp, zE, reduceCtorEq, reduceEqDiff, argEnv, reduceAdd]
    refine VLE.of_eq ?_
    rfl
end Go.Proofs.Ytdkgcbhbpdbmnaa
namespace Go.Proofs.Ytdkgcbhbpdbmnaa
open Go Go.AV
open Nat (reduceEqDiff reduceAdd reduceLeDiff reduceLT reduceMul reduceSub)
open List (set_cons_zero set_cons_succ)
set_option maxRecDepth 100000 in
theorem clone2 (xs : List Int) (h0 : 0 < xs.length) (h1 : xs.length ≤ 10000000000000) : PURE Try.prog 43 [.one (.list (.int .i64) xs)] (.one (.list (.int .i64) xs)) := by
  refine pure_of_le Try.func43 rfl (by kernel_rfl) (Nat.le_of_ble_eq_true rfl) rfl fun C hP hN hB => ?_
  replace hN : C.N = 8 := hN
  simp only [argEnv, reduceAdd]
  refine awp_seq_k fun K1 hK1 => ?_
  refine awp_reg hP hN rfl ?_
  (refine rg_step rfl fun K0 hK0 => ?_; simp only [zE, op1, ev, lkp, avOf, acOf, ev, reduceCtorEq, reduceEqDiff, reduceAdd, reduceLeDiff, reduceLT, reduceMul, reduceSub, Try.el26, Try.td26]; (repeat refine And.intro (by first | omega | assumption | exact rfl) ?_); (first | refine hK0 _ ?_ | refine Or.inl (hK0 _ ?_)); clear hK0 K0; simp only [put, app, setAll, trOf, zE, zS, reduceAdd])
  refine rg_nil ?_
  refine hK1 _ ?_; clear hK1; refine awp_keep [0, 2] ?_; simp only [keepEnv, lkp, zE, reduceCtorEq, reduceEqDiff, argEnv, reduceAdd]
  refine awp_seq_k fun K2 hK2 => ?_
  refine awp_seq_k fun K3 hK3 => ?_
  refine awp_reg hP hN rfl ?_
  iterate 2 (refine rg_step rfl fun K0 hK0 => ?_; simp only [zE, op1, ev, lkp, avOf, acOf, opBin, arith, strOp, inK_i64, eqACs, eqAC, reduceCtorEq, reduceEqDiff, reduceAdd, reduceLeDiff, reduceLT, reduceMul, reduceSub, Try.el26, Try.td26, Try.td4]; (repeat refine And.intro (by first | omega | assumption | exact rfl) ?_); (first | refine hK0 _ ?_ | refine Or.inl (hK0 _ ?_)); clear hK0 K0; simp only [put, app, setAll, trOf, zE, zS, reduceAdd])
  refine rg_nil ?_
  refine hK3 _ ?_; clear hK3; refine awp_keep [0, 2, 4] ?_; simp only [keepEnv, lkp, zE, reduceCtorEq, reduceEqDiff, argEnv, reduceAdd]
  refine awp_cond (by simp only [ev, keepEnv, lkp, zE, reduceCtorEq, reduceEqDiff, argEnv, reduceAdd]; exact rfl) (fun hc4 => ?_) (fun hc4 => ?_)
  · exfalso; (try simp only [zB, reduceCtorEq] at hc4); all_goals (first | (cases hc4; done) | omega | (simp at hc4; done) | (simp_all; done))
  · (try simp only [zB, reduceCtorEq] at hc4)
    refine awp_skip ?_
    refine hK2 _ ?_; clear hK2; refine awp_keep [0, 2, 4] ?_; simp only [keepEnv, lkp, zE, reduceCtorEq, reduceEqDiff, argEnv, reduceAdd]
    refine awp_seq_k fun K5 hK5 => ?_
    refine awp_reg hP hN rfl ?_
    (refine rg_step rfl fun K0 hK0 => ?_; simp only [zE, op1, ev, lkp, avOf, acOf, opBuildSlice, fillAC, chunk, rep, datOf, writeAC, cellsAV, Ty.size, reduceCtorEq, reduceEqDiff, reduceAdd, reduceLeDiff, reduceLT, reduceMul, reduceSub, Try.el26, Try.td26]; (repeat refine And.intro (by first | omega | assumption | exact rfl) ?_); refine Or.inr (Or.inl (hK0 _ ?_)); clear hK0 K0; simp only [put, app, setAll, trOf, zE, zS, reduceAdd])
    iterate 3 (refine rg_step rfl fun K0 hK0 => ?_; simp only [zE, op1, ev, lkp, avOf, acOf, opCallAny, opMM, opLen, lenAC, lenOk, fpAC, Nat.div_one, opAppend, srcOf, Ty.size, datOf, dite_true, reduceCtorEq, reduceEqDiff, reduceAdd, reduceLeDiff, reduceLT, reduceMul, reduceSub, Try.el26, Try.td26]; (repeat refine And.intro (by first | omega | assumption | exact rfl) ?_); (first | refine hK0 _ ?_ | refine Or.inl (hK0 _ ?_)); clear hK0 K0; simp only [put, app, setAll, trOf, zE, zS, reduceAdd])
    refine rg_nil ?_
    refine hK5 _ ?_; clear hK5; refine awp_keep [0, 2, 4] ?_; simp only [keepEnv, lkp, zE, reduceCtorEq, reduceEqDiff, argEnv, reduceAdd]
    refine awp_ret ?_
    refine ⟨by first | exact .inl rfl | exact .inr rfl, _, rfl, ?_⟩; simp only [fzV, fz1, fzC, List.map_cons, List.map_nil, keepEnv, lkp, zE, reduceCtorEq, reduceEqDiff, argEnv, reduceAdd]
    refine VLE.of_eq ?_
    rfl
end Go.Proofs.Ytdkgcbhbpdbmnaa
namespace Go.Proofs.Ytdkgcbhbpdbmnaa
open Go Go.AV
open Nat (reduceEqDiff reduceAdd reduceLeDiff reduceLT reduceMul reduceSub)
open List (set_cons_zero set_cons_succ)
theorem clone_c (xs : List Int) (h : xs.length ≤ 10000000000000) : PURE Try.prog 43 [.one (.list (.int .i64) xs)] (.one (.list (.int .i64) xs)) :=
  pure_slice (t := .int .i64) (fun e => pure_weak clone0 (vle_one (cle_nils e))) (fun e => by subst e; exact clone1) (fun h0 => clone2 xs h0 h) clone0.1

end Go.Proofs.Ytdkgcbhbpdbmnaa
namespace Go.Proofs.Ytdkgcbhbpdbmnaa
open Go Go.AV
open Nat (reduceEqDiff reduceAdd reduceLeDiff reduceLT reduceMul reduceSub)
open List (set_cons_zero set_cons_succ)
set_option maxRecDepth 100000 in
theorem dcomp_c (d : Dfa) : PURE Try.prog 14 [d.av] (.tup [(coD d).av, .one (.int .i64 (validD d))]) := by
  refine pure_of_le Try.func14 rfl (by kernel_rfl) (Nat.le_of_ble_eq_true rfl) rfl fun C hP hN hB => ?_
  replace hN : C.N = 47 := hN
  simp only [argEnv, reduceAdd]
  refine awp_seq_k fun K1 hK1 => ?_
  refine awp_reg hP hN rfl ?_
  iterate 3 (refine rg_step rfl fun K0 hK0 => ?_; simp only [zE, op1, ev, lkp, avOf, acOf, opBox, cellsAV, opAlloc, reduceCtorEq, reduceEqDiff, reduceAdd, reduceLeDiff, reduceLT, reduceMul, reduceSub, Try.st25, Try.td25, Try.td29, Dfa.av]; (repeat refine And.intro (by first | omega | assumption | exact rfl) ?_); (first | refine hK0 _ ?_ | refine Or.inl (hK0 _ ?_)); clear hK0 K0; simp only [put, app, setAll, trOf, zE, zS, reduceAdd])
  refine rg_nil ?_
  refine hK1 _ ?_; clear hK1; refine awp_keep [0, 1, 2, 3] ?_; simp only [keepEnv, lkp, zE, reduceCtorEq, reduceEqDiff, argEnv, reduceAdd]
  refine awp_seq_k fun K2 hK2 => ?_
  refine awp_seq_k fun K3 hK3 => ?_
  refine awp_reg hP hN rfl ?_
  (refine rg_step rfl fun K0 hK0 => ?_; simp only [zE, op1, ev, lkp, avOf, acOf, opLoad, Nat.mul_one, readAC, isAggK, acs, Ty.dflt, zG, cellsAt, reduceCtorEq, reduceEqDiff, reduceAdd, reduceLeDiff, reduceLT, reduceMul, reduceSub, Try.st25, Try.td25, Dfa.av]; (repeat refine And.intro (by first | omega | assumption | exact rfl) ?_); (first | refine hK0 _ ?_ | refine Or.inl (hK0 _ ?_)); clear hK0 K0; simp only [put, app, setAll, trOf, zE, zS, reduceAdd])
  refine rg_step rfl fun K0 hK0 => ?_
  refine op_call (h := call_of_pure (dvalid_c d)) rfl rfl (by first | exact rfl | (simp only [ev, keepEnv, lkp, zE, reduceCtorEq, reduceEqDiff, argEnv, reduceAdd]; exact rfl)) (by simp only [zE, zG, op1, ev, lkp, avOf, acOf, cellsAV, acs, capAV, mv1, mvC, Ty.dflt, reduceCtorEq, reduceEqDiff, reduceAdd, reduceLeDiff, reduceLT, reduceMul, reduceSub, Dfa.av]) ?_
  refine hK0 _ ?_; clear hK0 K0; simp only [put, app, setAll, trOf, zE, zS, reduceAdd]
  (refine rg_step rfl fun K0 hK0 => ?_; simp only [zE, op1, ev, lkp, avOf, acOf, ev, reduceCtorEq, reduceEqDiff, reduceAdd, reduceLeDiff, reduceLT, reduceMul, reduceSub, Try.td29, Dfa.av]; (repeat refine And.intro (by first | omega | assumption | exact rfl) ?_); (first | refine hK0 _ ?_ | refine Or.inl (hK0 _ ?_)); clear hK0 K0; simp only [put, app, setAll, trOf, zE, zS, reduceAdd])
  refine rg_nil ?_
  refine hK3 _ ?_; clear hK3; refine awp_keep [0, 1, 2, 3, 4] ?_; simp only [keepEnv, lkp, zE, reduceCtorEq, reduceEqDiff, argEnv, reduceAdd]
  refine awp_seq_k fun K4 hK4 => ?_
  refine awp_reg hP hN rfl ?_
  iterate 2 (refine rg_step rfl fun K0 hK0 => ?_; simp only [zE, op1, ev, lkp, avOf, acOf, opBin, arith, strOp, inK_i64, eqACs, eqAC, reduceCtorEq, reduceEqDiff, reduceAdd, reduceLeDiff, reduceLT, reduceMul, reduceSub, Try.td29, Try.td4, Dfa.av]; (repeat refine And.intro (by first | omega | assumption | exact rfl) ?_); (first | refine hK0 _ ?_ | refine Or.inl (hK0 _ ?_)); clear hK0 K0; simp only [put, app, setAll, trOf, zE, zS, reduceAdd])
  refine rg_nil ?_
  refine hK4 _ ?_; clear hK4; refine awp_keep [0, 1, 2, 3, 4, 11] ?_; simp only [keepEnv, lkp, zE, reduceCtorEq, reduceEqDiff, argEnv, reduceAdd]
  refine awp_cond (by simp only [ev, keepEnv, lkp, zE, reduceCtorEq, reduceEqDiff, argEnv, reduceAdd]; exact rfl) (fun hc5 => ?_) (fun hc5 => ?_)
  · (try simp only [zB, reduceCtorEq] at hc5)
    refine awp_seq_k fun K6 hK6 => ?_
    refine awp_reg hP hN rfl ?_
    iterate 4 (refine rg_step rfl fun K0 hK0 => ?_; simp only [zE, op1, ev, lkp, avOf, acOf, opBuild, fillAC, writeAC, cellsAV, opStore, Nat.mul_one, datOf, acs, Ty.size, Ty.dflt, zG, reduceCtorEq, reduceEqDiff, reduceAdd, reduceLeDiff, reduceLT, reduceMul, reduceSub, Try.st25, Try.td25, Try.td29, Dfa.av]; (repeat refine And.intro (by first | omega | assumption | exact rfl) ?_); (first | refine hK0 _ ?_ | refine Or.inl (hK0 _ ?_)); clear hK0 K0; simp only [put, app, setAll, trOf, zE, zS, reduceAdd])
    refine rg_nil ?_
    refine hK6 _ ?_; clear hK6; refine awp_keep [0, 1, 2, 3, 4, 11] ?_; simp only [keepEnv, lkp, zE, reduceCtorEq, reduceEqDiff, argEnv, reduceAdd]
    refine awp_ret ?_
    refine ⟨by first | exact .inl rfl | exact .inr rfl, _, rfl, ?_⟩; simp only [fzV, fz1, fzC, List.map_cons, List.map_nil, keepEnv, lkp, zE, reduceCtorEq, reduceEqDiff, argEnv, reduceAdd, Dfa.av]
    first
    | (rw [co_n (by assumption)]; exact vle_tup ⟨vle1_agg ⟨.refl _, .refl _, cle_nils rfl, cle_nils rfl, trivial⟩, vle1_one (.refl _), trivial⟩)
    | (rw [co_y hv, hv]; exact VLE.of_eq rfl)
  · (try simp only [zB, reduceCtorEq] at hc5)
    have hv : validD d = 0 := by omega
    have hd := dok_of hv; have a1 := hd.i1; have a2 := hd.i2; have a3 := hd.n1; have a4 := hd.n2; have a5 := hd.s1; have a6 := hd.s2; have a7 := hd.al
    refine awp_skip ?_
    refine hK2 _ ?_; clear hK2; refine awp_keep [0, 1, 2, 3, 4, 11] ?_; simp only [keepEnv, lkp, zE, reduceCtorEq, reduceEqDiff, argEnv, reduceAdd]
    refine awp_seq_k fun K7 hK7 => ?_
    refine awp_reg hP hN rfl ?_
    iterate 7 (refine rg_step rfl fun K0 hK0 => ?_; simp only [zE, op1, ev, lkp, avOf, acOf, opFieldAddr, opLoad, Nat.mul_one, readAC, isAggK, acs, Ty.dflt, zG, cellsAt, opBuild, fillAC, writeAC, cellsAV, opAlloc, opStore, datOf, Ty.size, reduceCtorEq, reduceEqDiff, reduceAdd, reduceLeDiff, reduceLT, reduceMul, reduceSub, Try.st25, Try.td1, Try.td25, Try.td3, Dfa.av]; (repeat refine And.intro (by first | omega | assumption | exact rfl) ?_); (first | refine hK0 _ ?_ | refine Or.inl (hK0 _ ?_)); clear hK0 K0; simp only [put, app, setAll, trOf, zE, zS, reduceAdd])
    refine rg_nil ?_
    refine hK7 _ ?_; clear hK7; refine awp_keep [0, 1, 2, 3, 4, 5, 11] ?_; simp only [keepEnv, lkp, zE, reduceCtorEq, reduceEqDiff, argEnv, reduceAdd]
    refine awp_seq_k fun K8 hK8 => ?_
    refine awp_seq_k fun K9 hK9 => ?_
    refine awp_reg hP hN rfl ?_
    iterate 4 (refine rg_step rfl fun K0 hK0 => ?_; simp only [zE, op1, ev, lkp, avOf, acOf, opFieldAddr, opLoad, Nat.mul_one, readAC, isAggK, acs, Ty.dflt, zG, cellsAt, opCallAny, opMM, opLen, lenAC, lenOk, fpAC, Nat.div_one, opAppend, srcOf, Ty.size, datOf, dite_true, reduceCtorEq, reduceEqDiff, reduceAdd, reduceLeDiff, reduceLT, reduceMul, reduceSub, Try.el22, Try.st25, Try.td2, Try.td22, Try.td25, Try.td3, Dfa.av]; (repeat refine And.intro (by first | omega | assumption | exact rfl) ?_); (first | refine hK0 _ ?_ | refine Or.inl (hK0 _ ?_)); clear hK0 K0; simp only [put, app, setAll, trOf, zE, zS, reduceAdd])
    refine rg_nil ?_
    refine hK9 _ ?_; clear hK9; refine awp_keep [0, 1, 2, 3, 4, 5, 11, 20, 21, 22] ?_; simp only [keepEnv, lkp, zE, reduceCtorEq, reduceEqDiff, argEnv, reduceAdd]
    refine awp_block ?_
    refine awp_own_cell 2 2 (.list (.int .i64)) 26 (by decide) rfl rfl ?_; simp only [zS, List.length_cons, List.length_nil, List.cons_append, List.nil_append, Nat.zero_add, reduceAdd]
    refine awp_own_cell 2 3 (.bool) 4 (by decide) rfl rfl ?_; simp only [zS, List.length_cons, List.length_nil, List.cons_append, List.nil_append, Nat.zero_add, reduceAdd]
    refine awp_loop (fun n10 s10 => ∃ (k : Nat) (v : Nat), (k ≤ d.nx.length) ∧ n10 = d.nx.length - k ∧ s10 = { env := [(1, .one (.ptr 0 0 0 0)), (2, .one (.ptr 1 0 0 0)), (3, .one (.int .i64 0)), (5, .one (.ptr 2 0 0 0)), (20, .one (.list (.list (.int .i64)) d.nx)), (21, .one (.int .i64 (d.nx.length : Int))), (22, .one (.int .i64 (k : Int)))], L := [.vars 25 [.int .i64 d.inp, .int .i64 d.st, .list (.list (.int .i64)) d.nx, .list .bool d.acc], .vars 25 [.int .i64 0, .int .i64 0, .nils, .nils], .vars 25 [.int .i64 d.inp, .int .i64 d.st, .row 3 v, .row 4 v], .row (.list (.int .i64)) 26 v (d.nx.take k), .row .bool 4 v ((d.acc.take k).map (!·))] }) ?_ ?_
    · exact ⟨_, _, sub_keep [1, 2, 3, 5, 20, 21, 22], 0, 0, Nat.zero_le _, rfl, rfl⟩
    · rintro n10 s10 ⟨k, v, hk, rfl, rfl⟩
      refine awp_seq_k fun K11 hK11 => ?_
      refine awp_reg hP hN rfl ?_
      (refine rg_step rfl fun K0 hK0 => ?_; simp only [zE, op1, ev, lkp, avOf, acOf, opBin, arith, strOp, inK_i64, eqACs, eqAC, reduceCtorEq, reduceEqDiff, reduceAdd, reduceLeDiff, reduceLT, reduceMul, reduceSub, Try.td3, Dfa.av]; (repeat refine And.intro (by first | omega | assumption | exact rfl) ?_); (first | refine hK0 _ ?_ | refine Or.inl (hK0 _ ?_)); clear hK0 K0; simp only [put, app, setAll, trOf, zE, zS, reduceAdd])
      refine rg_nil ?_
      refine hK11 _ ?_; clear hK11; refine awp_keep [1, 2, 3, 5, 20, 21, 22, 23] ?_; simp only [keepEnv, lkp, zE, reduceCtorEq, reduceEqDiff, argEnv, reduceAdd]
      refine awp_seq_k fun K12 hK12 => ?_
      refine awp_cond (by simp only [ev, keepEnv, lkp, zE, reduceCtorEq, reduceEqDiff, argEnv, reduceAdd]; exact rfl) (fun hc13 => ?_) (fun hc13 => ?_)
      · (try simp only [zB, reduceCtorEq] at hc13)
        refine awp_skip ?_
        refine hK12 _ ?_; clear hK12; refine awp_keep [1, 2, 3, 5, 20, 21, 22, 23] ?_; simp only [keepEnv, lkp, zE, reduceCtorEq, reduceEqDiff, argEnv, reduceAdd]
        refine awp_seq_k fun K14 hK14 => ?_
        refine awp_block ?_
        refine awp_seq_k fun K15 hK15 => ?_
        refine awp_reg hP hN rfl ?_
        iterate 5 (refine rg_step rfl fun K0 hK0 => ?_; simp only [zE, op1, ev, lkp, avOf, acOf, opIndexAddr, zG, Ty.dflt, Ty.size, Nat.mul_one, ne_eq, not_false_eq_true, Int.natCast_one, Int.mul_one, opLoad, readAC, isAggK, acs, cellsAt, reduceCtorEq, reduceEqDiff, reduceAdd, reduceLeDiff, reduceLT, reduceMul, reduceSub, Try.el22, Try.el26, Try.td22, Try.td26, Try.td3, Dfa.av]; (repeat refine And.intro (by first | omega | assumption | exact rfl) ?_); (first | refine hK0 _ ?_ | refine Or.inl (hK0 _ ?_)); clear hK0 K0; simp only [put, app, setAll, trOf, zE, zS, reduceAdd])
        refine rg_nil ?_
        refine hK15 _ ?_; clear hK15; refine awp_keep [1, 2, 3, 5, 6, 7, 20, 21, 22, 23] ?_; simp only [keepEnv, lkp, zE, reduceCtorEq, reduceEqDiff, argEnv, reduceAdd]
        refine awp_seq_k fun K16 hK16 => ?_
        have hrl : ((d.nx.getD k []).length : Int) = d.inp := hd.rl k (by omega)
        refine awp_drw hP hN Try.mixed rfl ?_
        iterate 3 (refine rg_step rfl fun K0 hK0 => ?_; simp only [zE, op1, ev, lkp, avOf, acOf, opFieldAddr, opLoad, Nat.mul_one, readAC, isAggK, acs, Ty.dflt, zG, cellsAt, reduceCtorEq, reduceEqDiff, reduceAdd, reduceLeDiff, reduceLT, reduceMul, reduceSub, Try.el22, Try.el26, Try.st25, Try.td2, Try.td22, Try.td25, Try.td26, Dfa.av, List.length_take]; (repeat refine And.intro (by first | omega | assumption | exact rfl) ?_); (first | refine hK0 _ ?_ | refine Or.inl (hK0 _ ?_)); clear hK0 K0; simp only [put, app, setAll, trOf, zE, zS, reduceAdd])
        refine rg_step rfl fun K0 hK0 => ?_
        refine op_call (h := call_of_pure (clone_c (d.nx.getD k []) (by omega))) rfl rfl (by first | exact rfl | (simp only [ev, keepEnv, lkp, zE, reduceCtorEq, reduceEqDiff, argEnv, reduceAdd]; exact rfl)) (by simp only [zE, zG, op1, ev, lkp, avOf, acOf, cellsAV, acs, capAV, mv1, mvC, Ty.dflt, reduceCtorEq, reduceEqDiff, reduceAdd, reduceLeDiff, reduceLT, reduceMul, reduceSub, Dfa.av, List.length_take]) ?_
        refine hK0 _ ?_; clear hK0 K0; simp only [put, app, setAll, trOf, zE, zS, reduceAdd]
        iterate 4 (refine rg_step rfl fun K0 hK0 => ?_; simp only [zE, op1, ev, lkp, avOf, acOf, opBuildSlice, fillAC, chunk, rep, datOf, writeAC, cellsAV, Ty.size, opCallAny, opMM, opLen, lenAC, lenOk, fpAC, Nat.div_one, opAppend, srcOf, dite_true, opFieldAddr, opStore, Nat.mul_one, acs, Ty.dflt, zG, reduceCtorEq, reduceEqDiff, reduceAdd, reduceLeDiff, reduceLT, reduceMul, reduceSub, Try.el22, Try.st25, Try.td1, Try.td2, Try.td22, Try.td25, Dfa.av, List.length_take]; (repeat refine And.intro (by first | omega | assumption | exact rfl) ?_); (first | refine hK0 _ ?_ | refine Or.inl (hK0 _ ?_)); clear hK0 K0; simp only [put, app, setAll, trOf, zE, zS, reduceAdd])
        refine rg_nil ?_
        refine ⟨by kernel_rfl, ?_⟩
        refine hK16 _ ?_; clear hK16; refine awp_keep [1, 2, 3, 5, 6, 7, 20, 21, 22, 23] ?_; simp only [keepEnv, lkp, zE, reduceCtorEq, reduceEqDiff, argEnv, reduceAdd]
        refine awp_drw hP hN Try.mixed rfl ?_
        iterate 12 (refine rg_step rfl fun K0 hK0 => ?_; simp only [zE, op1, ev, lkp, avOf, acOf, opFieldAddr, opLoad, Nat.mul_one, readAC, isAggK, acs, Ty.dflt, zG, cellsAt, opIndexAddr, Ty.size, ne_eq, not_false_eq_true, Int.natCast_one, Int.mul_one, opUn, opBuildSlice, fillAC, chunk, rep, datOf, writeAC, cellsAV, opCallAny, opMM, opLen, lenAC, lenOk, fpAC, Nat.div_one, opAppend, srcOf, dite_true, opStore, reduceCtorEq, reduceEqDiff, reduceAdd, reduceLeDiff, reduceLT, reduceMul, reduceSub, Try.el23, Try.st25, Try.td1, Try.td23, Try.td25, Try.td3, Try.td4, Dfa.av, List.length_map, List.length_take]; (repeat refine And.intro (by first | omega | assumption | exact rfl) ?_); (first | refine hK0 _ ?_ | refine Or.inl (hK0 _ ?_)); clear hK0 K0; simp only [put, app, setAll, trOf, zE, zS, reduceAdd])
        refine rg_nil ?_
        refine ⟨by kernel_rfl, ?_⟩
        refine hK14 _ ?_; clear hK14; refine awp_keep [1, 2, 3, 5, 6, 7, 20, 21, 22, 23] ?_; simp only [keepEnv, lkp, zE, reduceCtorEq, reduceEqDiff, argEnv, reduceAdd]
        refine awp_reg hP hN rfl ?_
        iterate 2 (refine rg_step rfl fun K0 hK0 => ?_; simp only [zE, op1, ev, lkp, avOf, acOf, opBin, arith, strOp, inK_i64, eqACs, eqAC, reduceCtorEq, reduceEqDiff, reduceAdd, reduceLeDiff, reduceLT, reduceMul, reduceSub, Try.td3, Dfa.av]; (repeat refine And.intro (by first | omega | assumption | exact rfl) ?_); (first | refine hK0 _ ?_ | refine Or.inl (hK0 _ ?_)); clear hK0 K0; simp only [put, app, setAll, trOf, zE, zS, reduceAdd])
        refine rg_nil ?_
        refine ⟨_, _, ?_, sub_keep [1, 2, 3, 5, 20, 21, 22], k + 1, v + 1, by omega, rfl, ?_⟩
        · omega
        · rw [takeL_succ [] (by omega), mapL_take _ false (by omega)]; rfl
      · (try simp only [zB, reduceCtorEq] at hc13)
        refine awp_exit ?_
        refine hK8 _ ?_; clear hK8; refine awp_keep [1, 2, 3, 5, 20, 21, 22, 23] ?_; simp only [keepEnv, lkp, zE, reduceCtorEq, reduceEqDiff, argEnv, reduceAdd]
        refine awp_seq_k fun K17 hK17 => ?_
        refine awp_freeze_var 3 2 rfl rfl ?_; simp only [List.map_cons, List.map_nil, frC, zS, reduceEqDiff, and_self, and_true, true_and, and_false, false_and, if_true, if_false, eq_self, reduceCtorEq, Nat.one_ne_zero, Nat.zero_ne_one]
        refine awp_freeze_var 4 2 rfl rfl ?_; simp only [List.map_cons, List.map_nil, frC, zS, reduceEqDiff, and_self, and_true, true_and, and_false, false_and, if_true, if_false, eq_self, reduceCtorEq, Nat.one_ne_zero, Nat.zero_ne_one]
        obtain rfl : k = d.nx.length := by omega
        rw [List.take_length, show d.acc.take d.nx.length = d.acc from List.take_of_length_le (by omega)]
        refine awp_reg hP hN rfl ?_
        iterate 3 (refine rg_step rfl fun K0 hK0 => ?_; simp only [zE, op1, ev, lkp, avOf, acOf, opLoad, Nat.mul_one, readAC, isAggK, acs, Ty.dflt, zG, cellsAt, opStore, cellsAV, writeAC, datOf, Ty.size, reduceCtorEq, reduceEqDiff, reduceAdd, reduceLeDiff, reduceLT, reduceMul, reduceSub, Try.st25, Try.td25, Try.td29, Dfa.av]; (repeat refine And.intro (by first | omega | assumption | exact rfl) ?_); (first | refine hK0 _ ?_ | refine Or.inl (hK0 _ ?_)); clear hK0 K0; simp only [put, app, setAll, trOf, zE, zS, reduceAdd])
        refine rg_nil ?_
        refine hK17 _ ?_; clear hK17; refine awp_keep [1, 2, 3, 5, 20, 21, 22, 23] ?_; simp only [keepEnv, lkp, zE, reduceCtorEq, reduceEqDiff, argEnv, reduceAdd]
        refine awp_ret ?_
        refine ⟨by first | exact .inl rfl | exact .inr rfl, _, rfl, ?_⟩; simp only [fzV, fz1, fzC, List.map_cons, List.map_nil, keepEnv, lkp, zE, reduceCtorEq, reduceEqDiff, argEnv, reduceAdd, Dfa.av]
        first
        | (rw [co_n (by assumption)]; exact vle_tup ⟨vle1_agg ⟨.refl _, .refl _, cle_nils rfl, cle_nils rfl, trivial⟩, vle1_one (.refl _), trivial⟩)
        | (rw [co_y hv, hv]; exact VLE.of_eq rfl)
end Go.Proofs.Ytdkgcbhbpdbmnaa
namespace Go.AV
open Nat (reduceEqDiff reduceAdd reduceLeDiff reduceLT reduceMul reduceSub)
open List (set_cons_zero set_cons_succ)
/-plain-/
def prL (f : Nat → Int) (n s : Nat) (x : Int) : List Int := (List.range n).map fun q => if q < s then f q else if q = s then x else 0
theorem prL_len (f : Nat → Int) (n s : Nat) (x : Int) : (prL f n s x).length = n := by simp [prL]
theorem prL_get {f : Nat → Int} {n s : Nat} (h : s < n) (x z : Int) : (prL f n s x).getD s z = x := by simp [prL, List.getD, h]
theorem prL_set {f : Nat → Int} {n s : Nat} (h : s < n) (x y : Int) : (prL f n s x).set s y = prL f n s y := by
  refine List.ext_getElem (by simp [prL]) fun i h1 h2 => ?_
  simp only [prL, List.getElem_set, List.getElem_map, List.getElem_range]
  by_cases e : s = i
  · subst e; simp
  · rw [if_neg e, if_neg (Ne.symm e), if_neg (Ne.symm e)]
theorem prL_next (f : Nat → Int) (n s : Nat) : prL f n s (f s) = prL f n (s + 1) 0 := by
  unfold prL
  refine List.map_congr_left fun q _ => ?_
  by_cases e : q = s
  · subst e; simp
  · by_cases e2 : q < s
    · rw [if_pos e2, if_pos (by omega)]
    · rw [if_neg e2, if_neg e, if_neg (by omega)]; split <;> rfl
theorem prL_0 (f : Nat → Int) (n : Nat) : prL f n 0 0 = List.replicate n 0 := by
  refine List.ext_getElem (by simp [prL]) fun i h1 h2 => ?_
  simp [prL]
theorem prL_end (f : Nat → Int) (n : Nat) (x : Int) : prL f n n x = (List.range n).map f := by
  unfold prL
  refine List.map_congr_left fun q hq => ?_
  rw [if_pos (List.mem_range.1 hq)]
theorem om1_t {d : Dfa} {l : List Int} {j : Nat} (h : j < l.length) (ha : d.ac (l.getD j 0) = true) : d.om1 (l.take (j + 1)) = d.om1 (l.take j) ++ [1] := by
  unfold Dfa.om1; rw [mapL_take _ 0 h, if_pos ha]
theorem om1_f {d : Dfa} {l : List Int} {j : Nat} (h : j < l.length) (ha : d.ac (l.getD j 0) = false) : d.om1 (l.take (j + 1)) = d.om1 (l.take j) ++ [0] := by
  unfold Dfa.om1; rw [mapL_take _ 0 h, if_neg (by rw [ha]; decide)]
theorem om1_len (d : Dfa) (l : List Int) : (d.om1 l).length = l.length := by simp [Dfa.om1]
theorem om_len (d : Dfa) : d.om.length = d.nx.length := by simp [Dfa.om]
theorem om_take {d : Dfa} {k : Nat} (h : k < d.nx.length) : d.om.take (k + 1) = d.om.take k ++ [d.om1 (d.nx.getD k [])] := by
  unfold Dfa.om
  rw [← List.map_take, ← List.map_take, mapL_take _ [] h]
theorem om_all (d : Dfa) : d.om.take d.nx.length = d.om := List.take_of_length_le (by rw [om_len]; exact Nat.le_refl _)
/-! Counting. -/
def MX1 : Int := 4611686018427387905
def bI1 (b : Bool) : Int := if b = true then 1 else 0
def cntS (c row : List Int) (k : Nat) : Int := (row.take k).foldl (fun x t => min (x + c.getD t.toNat 0) MX1) 0
theorem cntS_succ {c row : List Int} {k : Nat} (h : k < row.length) : cntS c row (k + 1) = min (cntS c row k + c.getD (row.getD k 0).toNat 0) MX1 := by
  unfold cntS
  rw [List.take_add_one, List.getElem?_eq_getElem h, Option.toList_some, List.foldl_append]
  simp [List.getD, h]
def CRng (c : List Int) : Prop := ∀ q : Nat, 0 ≤ c.getD q 0 ∧ c.getD q 0 ≤ MX1
theorem cntS_rng {c : List Int} (hc : CRng c) (row : List Int) : ∀ k, 0 ≤ cntS c row k ∧ cntS c row k ≤ MX1
  | 0 => by unfold cntS MX1; simp
  | k + 1 => by
    rcases Nat.lt_or_ge k row.length with h | h
    · rw [cntS_succ h]
      have := cntS_rng hc row k
      have := hc (row.getD k 0).toNat
      unfold MX1 at *; omega
    · have : cntS c row (k + 1) = cntS c row k := by unfold cntS; rw [List.take_of_length_le (by omega), List.take_of_length_le (by omega)]
      rw [this]; exact cntS_rng hc row k
theorem cntS_full {c : List Int} (hc : CRng c) {row : List Int} {k : Nat} (h : cntS c row k = MX1) : ∀ j, k ≤ j → cntS c row j = MX1
  | 0, hk => by have : k = 0 := by omega
                rw [this] at h; exact h
  | j + 1, hk => by
    rcases Nat.lt_or_ge k (j + 1) with h1 | h1
    · have ih := cntS_full hc h j (by omega)
      rcases Nat.lt_or_ge j row.length with h2 | h2
      · rw [cntS_succ h2, ih]
        have := hc (row.getD j 0).toNat
        omega
      · have : cntS c row (j + 1) = cntS c row j := by unfold cntS; rw [List.take_of_length_le (by omega), List.take_of_length_le (by omega)]
        rw [this]; exact ih
    · have : k = j + 1 := by omega
      rw [← this]; exact h
def cntF (d : Dfa) (c : List Int) (s : Nat) : Int := cntS c (d.nx.getD s []) (d.nx.getD s []).length
def cntA (d : Dfa) (s : Nat) : Int := bI1 (d.acc.getD s false)
def cntD (d : Dfa) : Nat → List Int
  | 0 => (List.range d.nx.length).map (cntA d)
  | n + 1 => (List.range d.nx.length).map (cntF d (cntD d n))
theorem cntD_len (d : Dfa) : ∀ n, (cntD d n).length = d.nx.length
  | 0 => by simp [cntD]
  | n + 1 => by simp [cntD]
theorem mapR_rng {f : Nat → Int} {n : Nat} (h : ∀ q, 0 ≤ f q ∧ f q ≤ MX1) : CRng ((List.range n).map f) := fun q => by
  by_cases hq : q < n
  · rw [mr_getD f 0 hq]; exact h q
  · have : ((List.range n).map f).getD q 0 = 0 := by simp [List.getD, hq]
    rw [this]; unfold MX1; omega
theorem cntD_rng (d : Dfa) : ∀ n, CRng (cntD d n)
  | 0 => mapR_rng fun q => by unfold cntA bI1 MX1; split <;> omega
  | n + 1 => mapR_rng fun q => cntS_rng (cntD_rng d n) _ _
def cuE (d : Dfa) (n : Int) : Int := if ¬ validD d = 0 then validD d else if n < 0 ∨ 1024 < n then 2 else if 4611686018427387904 < (cntD d n.toNat).getD d.st.toNat 0 then 17 else 0
def cuV (d : Dfa) (n : Int) : Int := if cuE d n = 0 then (cntD d n.toNat).getD d.st.toNat 0 else 0
theorem cu_a {d : Dfa} {n : Int} (h : ¬ validD d = 0) : cuE d n = validD d ∧ cuV d n = 0 := by
  have e : cuE d n = validD d := if_pos h
  exact ⟨e, by unfold cuV; rw [e, if_neg h]⟩
theorem cu_b {d : Dfa} {n : Int} (h : validD d = 0) (h2 : n < 0 ∨ 1024 < n) : cuE d n = 2 ∧ cuV d n = 0 := by
  have e : cuE d n = 2 := by unfold cuE; rw [if_neg (fun k => k h), if_pos h2]
  exact ⟨e, by unfold cuV; rw [e, if_neg (by decide)]⟩
theorem cu_c {d : Dfa} {n : Int} (h : validD d = 0) (h2 : ¬ (n < 0 ∨ 1024 < n)) (h3 : 4611686018427387904 < (cntD d n.toNat).getD d.st.toNat 0) : cuE d n = 17 ∧ cuV d n = 0 := by
  have e : cuE d n = 17 := by unfold cuE; rw [if_neg (fun k => k h), if_neg h2, if_pos h3]
  exact ⟨e, by unfold cuV; rw [e, if_neg (by decide)]⟩
theorem cu_ok {d : Dfa} {n : Int} (h : validD d = 0) (h2 : ¬ (n < 0 ∨ 1024 < n)) (h3 : ¬ 4611686018427387904 < (cntD d n.toNat).getD d.st.toNat 0) : cuE d n = 0 ∧ cuV d n = (cntD d n.toNat).getD d.st.toNat 0 := by
  have e : cuE d n = 0 := by unfold cuE; rw [if_neg (fun k => k h), if_neg h2, if_neg h3]
  exact ⟨e, by unfold cuV; rw [if_pos e]⟩
end Go.AV
namespace Go.AV
open Nat (reduceEqDiff reduceAdd reduceLeDiff reduceLT reduceMul reduceSub)
open List (set_cons_zero set_cons_succ)
/-plain-/
theorem ac0_t {d : Dfa} {k n : Nat} (hk : k < n) (h : d.acc.getD k false = true) : (prL (cntA d) n k 0).set k 1 = prL (cntA d) n (k + 1) 0 := by
  rw [prL_set hk, ← prL_next]; unfold cntA bI1; rw [if_pos h]
theorem ac0_f {d : Dfa} {k n : Nat} (h : d.acc.getD k false = false) : prL (cntA d) n k 0 = prL (cntA d) n (k + 1) 0 := by
  rw [← prL_next]; congr 1; unfold cntA bI1; rw [if_neg (by rw [h]; decide)]
end Go.AV
namespace Go.Proofs.Ytdkgcbhbpdbmnaa
open Go Go.AV
open Nat (reduceEqDiff reduceAdd reduceLeDiff reduceLT reduceMul reduceSub)
open List (set_cons_zero set_cons_succ)
set_option maxRecDepth 100000 in
set_option maxHeartbeats 1000000 in
theorem dcount_c (d : Dfa) (n : Int) : PURE Try.prog 28 [d.av, .one (.int .i64 n)] (.tup [.one (.int .i64 (cuV d n)), .one (.int .i64 (cuE d n))]) := by
  refine pure_of_le Try.func28 rfl (by kernel_rfl) (Nat.le_of_ble_eq_true rfl) rfl fun C hP hN hB => ?_
  replace hN : C.N = 101 := hN
  simp only [argEnv, reduceAdd]
  refine awp_seq_k fun K1 hK1 => ?_
  refine awp_reg hP hN rfl ?_
  iterate 3 (refine rg_step rfl fun K0 hK0 => ?_; simp only [zE, op1, ev, lkp, avOf, acOf, opBox, cellsAV, reduceCtorEq, reduceEqDiff, reduceAdd, reduceLeDiff, reduceLT, reduceMul, reduceSub, Try.st25, Try.td25, Try.td29, Try.td3, Dfa.av]; (repeat refine And.intro (by first | omega | assumption | exact rfl) ?_); (first | refine hK0 _ ?_ | refine Or.inl (hK0 _ ?_)); clear hK0 K0; simp only [put, app, setAll, trOf, zE, zS, reduceAdd])
  refine rg_nil ?_
  refine hK1 _ ?_; clear hK1; refine awp_keep [0, 1, 2, 4, 5] ?_; simp only [keepEnv, lkp, zE, reduceCtorEq, reduceEqDiff, argEnv, reduceAdd]
  refine awp_seq_k fun K2 hK2 => ?_
  refine awp_seq_k fun K3 hK3 => ?_
  refine awp_reg hP hN rfl ?_
  (refine rg_step rfl fun K0 hK0 => ?_; simp only [zE, op1, ev, lkp, avOf, acOf, opLoad, Nat.mul_one, readAC, isAggK, acs, Ty.dflt, zG, cellsAt, reduceCtorEq, reduceEqDiff, reduceAdd, reduceLeDiff, reduceLT, reduceMul, reduceSub, Try.st25, Try.td25, Dfa.av]; (repeat refine And.intro (by first | omega | assumption | exact rfl) ?_); (first | refine hK0 _ ?_ | refine Or.inl (hK0 _ ?_)); clear hK0 K0; simp only [put, app, setAll, trOf, zE, zS, reduceAdd])
  refine rg_step rfl fun K0 hK0 => ?_
  refine op_call (h := call_of_pure (dvalid_c d)) rfl rfl (by first | exact rfl | (simp only [ev, keepEnv, lkp, zE, reduceCtorEq, reduceEqDiff, argEnv, reduceAdd]; exact rfl)) (by simp only [zE, zG, op1, ev, lkp, avOf, acOf, cellsAV, acs, capAV, mv1, mvC, Ty.dflt, reduceCtorEq, reduceEqDiff, reduceAdd, reduceLeDiff, reduceLT, reduceMul, reduceSub, Dfa.av]) ?_
  refine hK0 _ ?_; clear hK0 K0; simp only [put, app, setAll, trOf, zE, zS, reduceAdd]
  (refine rg_step rfl fun K0 hK0 => ?_; simp only [zE, op1, ev, lkp, avOf, acOf, ev, reduceCtorEq, reduceEqDiff, reduceAdd, reduceLeDiff, reduceLT, reduceMul, reduceSub, Try.td29, Dfa.av]; (repeat refine And.intro (by first | omega | assumption | exact rfl) ?_); (first | refine hK0 _ ?_ | refine Or.inl (hK0 _ ?_)); clear hK0 K0; simp only [put, app, setAll, trOf, zE, zS, reduceAdd])
  refine rg_nil ?_
  refine hK3 _ ?_; clear hK3; refine awp_keep [0, 1, 2, 4, 5, 6] ?_; simp only [keepEnv, lkp, zE, reduceCtorEq, reduceEqDiff, argEnv, reduceAdd]
  refine awp_seq_k fun K4 hK4 => ?_
  refine awp_reg hP hN rfl ?_
  iterate 2 (refine rg_step rfl fun K0 hK0 => ?_; simp only [zE, op1, ev, lkp, avOf, acOf, opBin, arith, strOp, inK_i64, eqACs, eqAC, reduceCtorEq, reduceEqDiff, reduceAdd, reduceLeDiff, reduceLT, reduceMul, reduceSub, Try.td29, Try.td4, Dfa.av]; (repeat refine And.intro (by first | omega | assumption | exact rfl) ?_); (first | refine hK0 _ ?_ | refine Or.inl (hK0 _ ?_)); clear hK0 K0; simp only [put, app, setAll, trOf, zE, zS, reduceAdd])
  refine rg_nil ?_
  refine hK4 _ ?_; clear hK4; refine awp_keep [0, 1, 2, 4, 5, 6, 18] ?_; simp only [keepEnv, lkp, zE, reduceCtorEq, reduceEqDiff, argEnv, reduceAdd]
  refine awp_cond (by simp only [ev, keepEnv, lkp, zE, reduceCtorEq, reduceEqDiff, argEnv, reduceAdd]; exact rfl) (fun hc5 => ?_) (fun hc5 => ?_)
  · (try simp only [zB, reduceCtorEq] at hc5)
    refine awp_seq_k fun K6 hK6 => ?_
    refine awp_reg hP hN rfl ?_
    iterate 3 (refine rg_step rfl fun K0 hK0 => ?_; simp only [zE, op1, ev, lkp, avOf, acOf, ev, reduceCtorEq, reduceEqDiff, reduceAdd, reduceLeDiff, reduceLT, reduceMul, reduceSub, Try.td29, Try.td3, Dfa.av]; (repeat refine And.intro (by first | omega | assumption | exact rfl) ?_); (first | refine hK0 _ ?_ | refine Or.inl (hK0 _ ?_)); clear hK0 K0; simp only [put, app, setAll, trOf, zE, zS, reduceAdd])
    refine rg_nil ?_
    refine hK6 _ ?_; clear hK6; refine awp_keep [0, 1, 2, 4, 5, 6, 18] ?_; simp only [keepEnv, lkp, zE, reduceCtorEq, reduceEqDiff, argEnv, reduceAdd]
    refine awp_ret ?_
    refine ⟨by first | exact .inl rfl | exact .inr rfl, _, rfl, ?_⟩; simp only [fzV, fz1, fzC, List.map_cons, List.map_nil, keepEnv, lkp, zE, reduceCtorEq, reduceEqDiff, argEnv, reduceAdd, Dfa.av]
    refine VLE.of_eq ?_
    first
    | (have g9 := cu_a (n := n) (by assumption); obtain ⟨g1, g2⟩ := g9; rw [g1, g2])
    | (have g9 := cu_b hv (n := n) (by omega); obtain ⟨g1, g2⟩ := g9; rw [g1, g2])
    | (have g9 := cu_c hv (n := n) (by omega) (by assumption); obtain ⟨g1, g2⟩ := g9; rw [g1, g2])
    | (have g9 := cu_ok hv (n := n) (by omega) (by omega); obtain ⟨g1, g2⟩ := g9; rw [g1, g2])
  · (try simp only [zB, reduceCtorEq] at hc5)
    have hv : validD d = 0 := by omega
    have hd := dok_of hv; have a1 := hd.i1; have a2 := hd.i2; have a3 := hd.n1; have a4 := hd.n2; have a5 := hd.s1; have a6 := hd.s2; have a7 := hd.al
    refine awp_skip ?_
    refine hK2 _ ?_; clear hK2; refine awp_keep [0, 1, 2, 4, 5, 6, 18] ?_; simp only [keepEnv, lkp, zE, reduceCtorEq, reduceEqDiff, argEnv, reduceAdd]
    refine awp_seq_k fun K7 hK7 => ?_
    refine awp_seq_k fun K8 hK8 => ?_
    refine awp_reg hP hN rfl ?_
    iterate 2 (refine rg_step rfl fun K0 hK0 => ?_; simp only [zE, op1, ev, lkp, avOf, acOf, opBin, arith, strOp, inK_i64, eqACs, eqAC, reduceCtorEq, reduceEqDiff, reduceAdd, reduceLeDiff, reduceLT, reduceMul, reduceSub, Try.td3, Try.td4, Dfa.av]; (repeat refine And.intro (by first | omega | assumption | exact rfl) ?_); (first | refine hK0 _ ?_ | refine Or.inl (hK0 _ ?_)); clear hK0 K0; simp only [put, app, setAll, trOf, zE, zS, reduceAdd])
    (refine rg_step rfl fun K0 hK0 => ?_; simp only [zE, op1, ev, lkp, avOf, acOf, ev, reduceCtorEq, reduceEqDiff, reduceAdd, reduceLeDiff, reduceLT, reduceMul, reduceSub, Try.td4, Dfa.av]; (repeat refine And.intro (by first | omega | assumption | exact rfl) ?_); (first | refine hK0 _ ?_ | refine Or.inl (hK0 _ ?_)); clear hK0 K0; simp only [put, app, setAll, trOf, zE, zS, reduceAdd])
    refine' rg_join_n (want := false) 2 rfl (m := 22) (by simp only [keepEnv, lkp, zE, reduceCtorEq, reduceEqDiff, argEnv, reduceAdd]; exact rfl) (by kernel_rfl) rfl rfl rfl rfl rfl (fun hg9 => ?a9) ?b9 ?c9
    case a9 =>
      have hq9 := hg9; (try simp only [zB, reduceCtorEq] at hg9); simp only [List.take_succ_cons, List.take_zero, List.cons_append, List.nil_append]
      (refine rg_do rfl fun K0 hK0 => ?_; simp only [zE, op1, ev, lkp, avOf, acOf, ev, reduceCtorEq, reduceEqDiff, reduceAdd, reduceLeDiff, reduceLT, reduceMul, reduceSub, Try.td3, Dfa.av]; (repeat refine And.intro (by first | omega | assumption | exact rfl) ?_); (first | refine hK0 _ ?_ | refine Or.inl (hK0 _ ?_)); clear hK0 K0; simp only [put, app, setAll, trOf, zE, zS, reduceAdd])
      (refine rg_do rfl fun K0 hK0 => ?_; simp only [zE, op1, ev, lkp, avOf, acOf, opBin, arith, strOp, inK_i64, eqACs, eqAC, reduceCtorEq, reduceEqDiff, reduceAdd, reduceLeDiff, reduceLT, reduceMul, reduceSub, Try.td3, Try.td4, Dfa.av]; (repeat refine And.intro (by first | omega | assumption | exact rfl) ?_); (first | refine hK0 _ ?_ | refine Or.inl (hK0 _ ?_)); clear hK0 K0; simp only [put, app, setAll, trOf, zE, zS, reduceAdd])
      (refine rg_step rfl fun K0 hK0 => ?_; simp only [zE, op1, ev, lkp, avOf, acOf, opPick, reduceCtorEq, reduceEqDiff, reduceAdd, reduceLeDiff, reduceLT, reduceMul, reduceSub, Try.td4, Dfa.av]; (repeat refine And.intro (by first | omega | assumption | exact rfl) ?_); (first | refine hK0 _ ?_ | refine Or.inl (hK0 _ ?_)); clear hK0 K0; simp only [put, app, setAll, trOf, zE, zS, reduceAdd])
      refine rg_nil ?_
      refine ⟨by simp only [keepEnv, lkp, zE, reduceCtorEq, reduceEqDiff, argEnv, reduceAdd]; exact rfl, rfl, ?_, rfl⟩; (repeat refine keep_cons rfl ?_); exact keep_m (by exact rfl) hq9
    case b9 => exact tle_of (by first | rfl | (simp [tleB]; done) | decide)
    simp only [join_or, join_and]
    refine rg_nil ?_
    refine hK8 _ ?_; clear hK8; refine awp_keep [0, 1, 2, 4, 5, 6, 18, 25] ?_; simp only [keepEnv, lkp, zE, reduceCtorEq, reduceEqDiff, argEnv, reduceAdd]
    refine awp_cond (by simp only [ev, keepEnv, lkp, zE, reduceCtorEq, reduceEqDiff, argEnv, reduceAdd]; exact rfl) (fun hc10 => ?_) (fun hc10 => ?_)
    · (try simp only [zB, reduceCtorEq] at hc10)
      refine awp_seq_k fun K11 hK11 => ?_
      refine awp_reg hP hN rfl ?_
      iterate 2 (refine rg_step rfl fun K0 hK0 => ?_; simp only [zE, op1, ev, lkp, avOf, acOf, ev, reduceCtorEq, reduceEqDiff, reduceAdd, reduceLeDiff, reduceLT, reduceMul, reduceSub, Try.td29, Try.td3, Dfa.av]; (repeat refine And.intro (by first | omega | assumption | exact rfl) ?_); (first | refine hK0 _ ?_ | refine Or.inl (hK0 _ ?_)); clear hK0 K0; simp only [put, app, setAll, trOf, zE, zS, reduceAdd])
      refine rg_nil ?_
      refine hK11 _ ?_; clear hK11; refine awp_keep [0, 1, 2, 4, 5, 6, 18, 25] ?_; simp only [keepEnv, lkp, zE, reduceCtorEq, reduceEqDiff, argEnv, reduceAdd]
      refine awp_ret ?_
      refine ⟨by first | exact .inl rfl | exact .inr rfl, _, rfl, ?_⟩; simp only [fzV, fz1, fzC, List.map_cons, List.map_nil, keepEnv, lkp, zE, reduceCtorEq, reduceEqDiff, argEnv, reduceAdd, Dfa.av]
      refine VLE.of_eq ?_
      first
      | (have g9 := cu_a (n := n) (by assumption); obtain ⟨g1, g2⟩ := g9; rw [g1, g2])
      | (have g9 := cu_b hv (n := n) (by omega); obtain ⟨g1, g2⟩ := g9; rw [g1, g2])
      | (have g9 := cu_c hv (n := n) (by omega) (by assumption); obtain ⟨g1, g2⟩ := g9; rw [g1, g2])
      | (have g9 := cu_ok hv (n := n) (by omega) (by omega); obtain ⟨g1, g2⟩ := g9; rw [g1, g2])
    · (try simp only [zB, reduceCtorEq] at hc10)
      have hn : ¬ (n < 0 ∨ 1024 < n) := by omega
      refine awp_skip ?_
      refine hK7 _ ?_; clear hK7; refine awp_keep [0, 1, 2, 4, 5, 6, 18, 25] ?_; simp only [keepEnv, lkp, zE, reduceCtorEq, reduceEqDiff, argEnv, reduceAdd]
      refine awp_seq_k fun K12 hK12 => ?_
      refine awp_reg hP hN rfl ?_
      iterate 5 (refine rg_step rfl fun K0 hK0 => ?_; simp only [zE, op1, ev, lkp, avOf, acOf, opFieldAddr, opLoad, Nat.mul_one, readAC, isAggK, acs, Ty.dflt, zG, cellsAt, opCallAny, opMM, opLen, lenAC, lenOk, fpAC, Nat.div_one, opAppend, srcOf, Ty.size, datOf, dite_true, opMakeSlice, reduceCtorEq, reduceEqDiff, reduceAdd, reduceLeDiff, reduceLT, reduceMul, reduceSub, Try.el22, Try.el26, Try.st25, Try.td2, Try.td22, Try.td25, Try.td26, Try.td3, Dfa.av]; (repeat refine And.intro (by first | omega | assumption | exact rfl) ?_); (first | refine hK0 _ ?_ | refine Or.inl (hK0 _ ?_)); clear hK0 K0; simp only [put, app, setAll, trOf, zE, zS, reduceAdd])
      refine rg_nil ?_
      refine hK12 _ ?_; clear hK12; refine awp_keep [0, 1, 2, 4, 5, 6, 7, 18, 25] ?_; simp only [keepEnv, lkp, zE, reduceCtorEq, reduceEqDiff, argEnv, reduceAdd]
      refine awp_seq_k fun K13 hK13 => ?_
      refine awp_seq_k fun K14 hK14 => ?_
      refine awp_reg hP hN rfl ?_
      iterate 4 (refine rg_step rfl fun K0 hK0 => ?_; simp only [zE, op1, ev, lkp, avOf, acOf, opFieldAddr, opLoad, Nat.mul_one, readAC, isAggK, acs, Ty.dflt, zG, cellsAt, opCallAny, opMM, opLen, lenAC, lenOk, fpAC, Nat.div_one, opAppend, srcOf, Ty.size, datOf, dite_true, reduceCtorEq, reduceEqDiff, reduceAdd, reduceLeDiff, reduceLT, reduceMul, reduceSub, Try.el23, Try.st25, Try.td23, Try.td25, Try.td3, Dfa.av]; (repeat refine And.intro (by first | omega | assumption | exact rfl) ?_); (first | refine hK0 _ ?_ | refine Or.inl (hK0 _ ?_)); clear hK0 K0; simp only [put, app, setAll, trOf, zE, zS, reduceAdd])
      refine rg_nil ?_
      refine hK14 _ ?_; clear hK14; refine awp_keep [0, 1, 2, 4, 5, 6, 7, 18, 25, 31, 32, 33] ?_; simp only [keepEnv, lkp, zE, reduceCtorEq, reduceEqDiff, argEnv, reduceAdd]
      refine awp_block ?_
      refine awp_loop (fun n15 s15 => ∃ (k : Nat), (k ≤ d.acc.length) ∧ n15 = d.acc.length - k ∧ s15 = { env := [(1, .one (.int .i64 n)), (2, .one (.ptr 0 0 0 0)), (4, .one (.int .i64 0)), (5, .one (.int .i64 0)), (7, .one (.row 1 0)), (31, .one (.list .bool d.acc)), (32, .one (.int .i64 (d.acc.length : Int))), (33, .one (.int .i64 (k : Int)))], L := [.vars 25 [.int .i64 d.inp, .int .i64 d.st, .list (.list (.int .i64)) d.nx, .list .bool d.acc], .row (.int .i64) 3 0 (prL (cntA d) d.nx.length k 0)] }) ?_ ?_
      · exact ⟨_, _, sub_keep [1, 2, 4, 5, 7, 31, 32, 33], 0, Nat.zero_le _, rfl, by rw [prL_0]; rfl⟩
      · rintro n15 s15 ⟨k, hk, rfl, rfl⟩
        refine awp_seq_k fun K16 hK16 => ?_
        refine awp_reg hP hN rfl ?_
        (refine rg_step rfl fun K0 hK0 => ?_; simp only [zE, op1, ev, lkp, avOf, acOf, opBin, arith, strOp, inK_i64, eqACs, eqAC, reduceCtorEq, reduceEqDiff, reduceAdd, reduceLeDiff, reduceLT, reduceMul, reduceSub, Try.td3, Dfa.av]; (repeat refine And.intro (by first | omega | assumption | exact rfl) ?_); (first | refine hK0 _ ?_ | refine Or.inl (hK0 _ ?_)); clear hK0 K0; simp only [put, app, setAll, trOf, zE, zS, reduceAdd])
        refine rg_nil ?_
        refine hK16 _ ?_; clear hK16; refine awp_keep [1, 2, 4, 5, 7, 31, 32, 33, 34] ?_; simp only [keepEnv, lkp, zE, reduceCtorEq, reduceEqDiff, argEnv, reduceAdd]
        refine awp_seq_k fun K17 hK17 => ?_
        refine awp_cond (by simp only [ev, keepEnv, lkp, zE, reduceCtorEq, reduceEqDiff, argEnv, reduceAdd]; exact rfl) (fun hc18 => ?_) (fun hc18 => ?_)
        · (try simp only [zB, reduceCtorEq] at hc18)
          refine awp_skip ?_
          refine hK17 _ ?_; clear hK17; refine awp_keep [1, 2, 4, 5, 7, 31, 32, 33, 34] ?_; simp only [keepEnv, lkp, zE, reduceCtorEq, reduceEqDiff, argEnv, reduceAdd]
          refine awp_seq_k fun K19 hK19 => ?_
          refine awp_block ?_
          refine awp_seq_k fun K20 hK20 => ?_
          refine awp_reg hP hN rfl ?_
          iterate 5 (refine rg_step rfl fun K0 hK0 => ?_; simp only [zE, op1, ev, lkp, avOf, acOf, opIndexAddr, zG, Ty.dflt, Ty.size, Nat.mul_one, ne_eq, not_false_eq_true, Int.natCast_one, Int.mul_one, opLoad, readAC, isAggK, acs, cellsAt, reduceCtorEq, reduceEqDiff, reduceAdd, reduceLeDiff, reduceLT, reduceMul, reduceSub, Try.el23, Try.td23, Try.td3, Try.td4, Dfa.av]; (repeat refine And.intro (by first | omega | assumption | exact rfl) ?_); (first | refine hK0 _ ?_ | refine Or.inl (hK0 _ ?_)); clear hK0 K0; simp only [put, app, setAll, trOf, zE, zS, reduceAdd])
          refine rg_nil ?_
          refine hK20 _ ?_; clear hK20; refine awp_keep [1, 2, 4, 5, 7, 8, 9, 31, 32, 33, 34] ?_; simp only [keepEnv, lkp, zE, reduceCtorEq, reduceEqDiff, argEnv, reduceAdd]
          refine awp_seq_k fun K21 hK21 => ?_
          refine awp_reg hP hN rfl ?_
          (refine rg_step rfl fun K0 hK0 => ?_; simp only [zE, op1, ev, lkp, avOf, acOf, ev, reduceCtorEq, reduceEqDiff, reduceAdd, reduceLeDiff, reduceLT, reduceMul, reduceSub, Try.td4, Dfa.av]; (repeat refine And.intro (by first | omega | assumption | exact rfl) ?_); (first | refine hK0 _ ?_ | refine Or.inl (hK0 _ ?_)); clear hK0 K0; simp only [put, app, setAll, trOf, zE, zS, reduceAdd])
          refine rg_nil ?_
          refine hK21 _ ?_; clear hK21; refine awp_keep [1, 2, 4, 5, 7, 8, 9, 31, 32, 33, 34, 38] ?_; simp only [keepEnv, lkp, zE, reduceCtorEq, reduceEqDiff, argEnv, reduceAdd]
          refine awp_cond (by simp only [ev, keepEnv, lkp, zE, reduceCtorEq, reduceEqDiff, argEnv, reduceAdd]; exact rfl) (fun hc22 => ?_) (fun hc22 => ?_)
          · (try simp only [zB, reduceCtorEq] at hc22)
            have hat : d.acc.getD k false = true := hc22
            refine awp_reg hP hN rfl ?_
            iterate 4 (refine rg_step rfl fun K0 hK0 => ?_; simp only [zE, op1, ev, lkp, avOf, acOf, opIndexAddr, zG, Ty.dflt, Ty.size, Nat.mul_one, ne_eq, not_false_eq_true, Int.natCast_one, Int.mul_one, opStore, cellsAV, writeAC, datOf, acs, reduceCtorEq, reduceEqDiff, reduceAdd, reduceLeDiff, reduceLT, reduceMul, reduceSub, Try.el26, Try.td26, Try.td3, Dfa.av, prL_len]; (repeat refine And.intro (by first | omega | assumption | exact rfl) ?_); (first | refine hK0 _ ?_ | refine Or.inl (hK0 _ ?_)); clear hK0 K0; simp only [put, app, setAll, trOf, zE, zS, reduceAdd])
            refine rg_nil ?_
            refine hK19 _ ?_; clear hK19; refine awp_keep [1, 2, 4, 5, 7, 8, 9, 31, 32, 33, 34, 38] ?_; simp only [keepEnv, lkp, zE, reduceCtorEq, reduceEqDiff, argEnv, reduceAdd]
            refine awp_reg hP hN rfl ?_
            iterate 2 (refine rg_step rfl fun K0 hK0 => ?_; simp only [zE, op1, ev, lkp, avOf, acOf, opBin, arith, strOp, inK_i64, eqACs, eqAC, reduceCtorEq, reduceEqDiff, reduceAdd, reduceLeDiff, reduceLT, reduceMul, reduceSub, Try.td3, Dfa.av]; (repeat refine And.intro (by first | omega | assumption | exact rfl) ?_); (first | refine hK0 _ ?_ | refine Or.inl (hK0 _ ?_)); clear hK0 K0; simp only [put, app, setAll, trOf, zE, zS, reduceAdd])
            refine rg_nil ?_
            first
            | (refine ⟨_, _, ?_, sub_keep [1, 2, 4, 5, 7, 31, 32, 33], k + 1, by omega, rfl, ?_⟩
               · omega
               · rw [← ac0_t (by omega) hat]; rfl)
            | (refine ⟨_, _, ?_, sub_keep [1, 2, 4, 5, 7, 31, 32, 33], k + 1, by omega, rfl, ?_⟩
               · omega
               · rw [← ac0_f hat]; rfl)
          · (try simp only [zB, reduceCtorEq] at hc22)
            have hat : d.acc.getD k false = false := by simpa using hc22
            refine awp_skip ?_
            refine hK19 _ ?_; clear hK19; refine awp_keep [1, 2, 4, 5, 7, 8, 9, 31, 32, 33, 34, 38] ?_; simp only [keepEnv, lkp, zE, reduceCtorEq, reduceEqDiff, argEnv, reduceAdd]
            refine awp_reg hP hN rfl ?_
            iterate 2 (refine rg_step rfl fun K0 hK0 => ?_; simp only [zE, op1, ev, lkp, avOf, acOf, opBin, arith, strOp, inK_i64, eqACs, eqAC, reduceCtorEq, reduceEqDiff, reduceAdd, reduceLeDiff, reduceLT, reduceMul, reduceSub, Try.td3, Dfa.av]; (repeat refine And.intro (by first | omega | assumption | exact rfl) ?_); (first | refine hK0 _ ?_ | refine Or.inl (hK0 _ ?_)); clear hK0 K0; simp only [put, app, setAll, trOf, zE, zS, reduceAdd])
            refine rg_nil ?_
            first
            | (refine ⟨_, _, ?_, sub_keep [1, 2, 4, 5, 7, 31, 32, 33], k + 1, by omega, rfl, ?_⟩
               · omega
               · rw [← ac0_t (by omega) hat]; rfl)
            | (refine ⟨_, _, ?_, sub_keep [1, 2, 4, 5, 7, 31, 32, 33], k + 1, by omega, rfl, ?_⟩
               · omega
               · rw [← ac0_f hat]; rfl)
        · (try simp only [zB, reduceCtorEq] at hc18)
          refine awp_exit ?_
          refine hK13 _ ?_; clear hK13; refine awp_keep [1, 2, 4, 5, 7, 31, 32, 33, 34] ?_; simp only [keepEnv, lkp, zE, reduceCtorEq, reduceEqDiff, argEnv, reduceAdd]
          refine awp_seq_k fun K23 hK23 => ?_
          refine awp_seq_k fun K24 hK24 => ?_
          refine awp_reg hP hN rfl ?_
          iterate 2 (refine rg_step rfl fun K0 hK0 => ?_; simp only [zE, op1, ev, lkp, avOf, acOf, ev, reduceCtorEq, reduceEqDiff, reduceAdd, reduceLeDiff, reduceLT, reduceMul, reduceSub, Try.td3, Dfa.av]; (repeat refine And.intro (by first | omega | assumption | exact rfl) ?_); (first | refine hK0 _ ?_ | refine Or.inl (hK0 _ ?_)); clear hK0 K0; simp only [put, app, setAll, trOf, zE, zS, reduceAdd])
          refine rg_nil ?_
          refine hK24 _ ?_; clear hK24; refine awp_keep [1, 2, 4, 5, 7, 31, 32, 33, 34, 43, 44] ?_; simp only [keepEnv, lkp, zE, reduceCtorEq, reduceEqDiff, argEnv, reduceAdd]
          refine awp_block ?_
          refine awp_freeze 1 rfl ?_; simp only [List.map_cons, List.map_nil, zS, reduceEqDiff, and_self, and_true, true_and, and_false, false_and, if_true, if_false, eq_self, reduceCtorEq, Nat.one_ne_zero, Nat.zero_ne_one]
          obtain rfl : k = d.nx.length := by omega
          rw [prL_end, show (List.range d.nx.length).map (cntA d) = cntD d 0 from rfl]
          refine awp_drop (n := 1) (L1 := [_]) rfl rfl (by rw [hB]; decide) rfl rfl ?_
          refine awp_loop (fun n25 s25 => ∃ (r : Nat), ((r : Int) ≤ n) ∧ n25 = n.toNat - r ∧ s25 = { env := [(2, .one (.ptr 0 0 0 0)), (4, .one (.int .i64 0)), (5, .one (.int .i64 0)), (7, .one (.list (.int .i64) (cntD d r))), (43, .one (.int .i64 n)), (44, .one (.int .i64 (r : Int)))], L := [.vars 25 [.int .i64 d.inp, .int .i64 d.st, .list (.list (.int .i64)) d.nx, .list .bool d.acc]] }) ?_ ?_
          · exact ⟨_, _, sub_keep [2, 4, 5, 7, 43, 44], 0, by omega, rfl, rfl⟩
          · rintro n25 s25 ⟨r, hr, rfl, rfl⟩
            refine awp_seq_k fun K26 hK26 => ?_
            refine awp_reg hP hN rfl ?_
            (refine rg_step rfl fun K0 hK0 => ?_; simp only [zE, op1, ev, lkp, avOf, acOf, opBin, arith, strOp, inK_i64, eqACs, eqAC, reduceCtorEq, reduceEqDiff, reduceAdd, reduceLeDiff, reduceLT, reduceMul, reduceSub, Try.td3, Try.td4, Dfa.av]; (repeat refine And.intro (by first | omega | assumption | exact rfl) ?_); (first | refine hK0 _ ?_ | refine Or.inl (hK0 _ ?_)); clear hK0 K0; simp only [put, app, setAll, trOf, zE, zS, reduceAdd])
            refine rg_nil ?_
            refine hK26 _ ?_; clear hK26; refine awp_keep [2, 4, 5, 7, 43, 44, 45] ?_; simp only [keepEnv, lkp, zE, reduceCtorEq, reduceEqDiff, argEnv, reduceAdd]
            refine awp_seq_k fun K27 hK27 => ?_
            refine awp_cond (by simp only [ev, keepEnv, lkp, zE, reduceCtorEq, reduceEqDiff, argEnv, reduceAdd]; exact rfl) (fun hc28 => ?_) (fun hc28 => ?_)
            · (try simp only [zB, reduceCtorEq] at hc28)
              refine awp_skip ?_
              refine hK27 _ ?_; clear hK27; refine awp_keep [2, 4, 5, 7, 43, 44, 45] ?_; simp only [keepEnv, lkp, zE, reduceCtorEq, reduceEqDiff, argEnv, reduceAdd]
              refine awp_seq_k fun K29 hK29 => ?_
              refine awp_block ?_
              refine awp_seq_k fun K30 hK30 => ?_
              refine awp_reg hP hN rfl ?_
              iterate 4 (refine rg_step rfl fun K0 hK0 => ?_; simp only [zE, op1, ev, lkp, avOf, acOf, opCallAny, opMM, opLen, lenAC, lenOk, fpAC, Nat.div_one, opAppend, srcOf, Ty.size, datOf, dite_true, opMakeSlice, Ty.dflt, reduceCtorEq, reduceEqDiff, reduceAdd, reduceLeDiff, reduceLT, reduceMul, reduceSub, Try.el26, Try.td26, Try.td3, Dfa.av, cntD_len]; (repeat refine And.intro (by first | omega | assumption | exact rfl) ?_); (first | refine hK0 _ ?_ | refine Or.inl (hK0 _ ?_)); clear hK0 K0; simp only [put, app, setAll, trOf, zE, zS, reduceAdd])
              refine rg_nil ?_
              refine hK30 _ ?_; clear hK30; refine awp_keep [2, 4, 5, 7, 10, 43, 44, 45] ?_; simp only [keepEnv, lkp, zE, reduceCtorEq, reduceEqDiff, argEnv, reduceAdd]
              refine awp_seq_k fun K31 hK31 => ?_
              refine awp_seq_k fun K32 hK32 => ?_
              refine awp_reg hP hN rfl ?_
              iterate 4 (refine rg_step rfl fun K0 hK0 => ?_; simp only [zE, op1, ev, lkp, avOf, acOf, opFieldAddr, opLoad, Nat.mul_one, readAC, isAggK, acs, Ty.dflt, zG, cellsAt, opCallAny, opMM, opLen, lenAC, lenOk, fpAC, Nat.div_one, opAppend, srcOf, Ty.size, datOf, dite_true, reduceCtorEq, reduceEqDiff, reduceAdd, reduceLeDiff, reduceLT, reduceMul, reduceSub, Try.el22, Try.st25, Try.td2, Try.td22, Try.td25, Try.td3, Dfa.av]; (repeat refine And.intro (by first | omega | assumption | exact rfl) ?_); (first | refine hK0 _ ?_ | refine Or.inl (hK0 _ ?_)); clear hK0 K0; simp only [put, app, setAll, trOf, zE, zS, reduceAdd])
              refine rg_nil ?_
              refine hK32 _ ?_; clear hK32; refine awp_keep [2, 4, 5, 7, 10, 43, 44, 45, 50, 51, 52] ?_; simp only [keepEnv, lkp, zE, reduceCtorEq, reduceEqDiff, argEnv, reduceAdd]
              refine awp_block ?_
              refine awp_loop (fun n33 s33 => ∃ (s : Nat), (s ≤ d.nx.length) ∧ n33 = d.nx.length - s ∧ s33 = { env := [(2, .one (.ptr 0 0 0 0)), (4, .one (.int .i64 0)), (5, .one (.int .i64 0)), (7, .one (.list (.int .i64) (cntD d r))), (10, .one (.row 1 0)), (43, .one (.int .i64 n)), (44, .one (.int .i64 (r : Int))), (50, .one (.list (.list (.int .i64)) d.nx)), (51, .one (.int .i64 (d.nx.length : Int))), (52, .one (.int .i64 (s : Int)))], L := [.vars 25 [.int .i64 d.inp, .int .i64 d.st, .list (.list (.int .i64)) d.nx, .list .bool d.acc], .row (.int .i64) 3 0 (prL (cntF d (cntD d r)) d.nx.length s 0)] }) ?_ ?_
              · exact ⟨_, _, sub_keep [2, 4, 5, 7, 10, 43, 44, 50, 51, 52], 0, by omega, rfl, by rw [prL_0]; rfl⟩
              · rintro n33 s33 ⟨s, hs, rfl, rfl⟩
                refine awp_seq_k fun K34 hK34 => ?_
                refine awp_reg hP hN rfl ?_
                (refine rg_step rfl fun K0 hK0 => ?_; simp only [zE, op1, ev, lkp, avOf, acOf, opBin, arith, strOp, inK_i64, eqACs, eqAC, reduceCtorEq, reduceEqDiff, reduceAdd, reduceLeDiff, reduceLT, reduceMul, reduceSub, Try.td3, Dfa.av]; (repeat refine And.intro (by first | omega | assumption | exact rfl) ?_); (first | refine hK0 _ ?_ | refine Or.inl (hK0 _ ?_)); clear hK0 K0; simp only [put, app, setAll, trOf, zE, zS, reduceAdd])
                refine rg_nil ?_
                refine hK34 _ ?_; clear hK34; refine awp_keep [2, 4, 5, 7, 10, 43, 44, 50, 51, 52, 53] ?_; simp only [keepEnv, lkp, zE, reduceCtorEq, reduceEqDiff, argEnv, reduceAdd]
                refine awp_seq_k fun K35 hK35 => ?_
                refine awp_cond (by simp only [ev, keepEnv, lkp, zE, reduceCtorEq, reduceEqDiff, argEnv, reduceAdd]; exact rfl) (fun hc36 => ?_) (fun hc36 => ?_)
                · (try simp only [zB, reduceCtorEq] at hc36)
                  refine awp_skip ?_
                  refine hK35 _ ?_; clear hK35; refine awp_keep [2, 4, 5, 7, 10, 43, 44, 50, 51, 52, 53] ?_; simp only [keepEnv, lkp, zE, reduceCtorEq, reduceEqDiff, argEnv, reduceAdd]
                  refine awp_seq_k fun K37 hK37 => ?_
                  refine awp_block ?_
                  refine awp_seq_k fun K38 hK38 => ?_
                  have hs9 : s < d.nx.length := by omega
                  refine awp_reg hP hN rfl ?_
                  iterate 5 (refine rg_step rfl fun K0 hK0 => ?_; simp only [zE, op1, ev, lkp, avOf, acOf, opIndexAddr, zG, Ty.dflt, Ty.size, Nat.mul_one, ne_eq, not_false_eq_true, Int.natCast_one, Int.mul_one, opLoad, readAC, isAggK, acs, cellsAt, reduceCtorEq, reduceEqDiff, reduceAdd, reduceLeDiff, reduceLT, reduceMul, reduceSub, Try.el22, Try.el26, Try.td22, Try.td26, Try.td3, Dfa.av]; (repeat refine And.intro (by first | omega | assumption | exact rfl) ?_); (first | refine hK0 _ ?_ | refine Or.inl (hK0 _ ?_)); clear hK0 K0; simp only [put, app, setAll, trOf, zE, zS, reduceAdd])
                  refine rg_nil ?_
                  refine hK38 _ ?_; clear hK38; refine awp_keep [2, 4, 5, 7, 10, 11, 12, 43, 44, 50, 51, 52, 53] ?_; simp only [keepEnv, lkp, zE, reduceCtorEq, reduceEqDiff, argEnv, reduceAdd]
                  refine awp_seq_k fun K39 hK39 => ?_
                  refine awp_reg hP hN rfl ?_
                  iterate 3 (refine rg_step rfl fun K0 hK0 => ?_; simp only [zE, op1, ev, lkp, avOf, acOf, opCallAny, opMM, opLen, lenAC, lenOk, fpAC, Nat.div_one, opAppend, srcOf, Ty.size, datOf, dite_true, reduceCtorEq, reduceEqDiff, reduceAdd, reduceLeDiff, reduceLT, reduceMul, reduceSub, Try.el26, Try.td26, Try.td3, Dfa.av]; (repeat refine And.intro (by first | omega | assumption | exact rfl) ?_); (first | refine hK0 _ ?_ | refine Or.inl (hK0 _ ?_)); clear hK0 K0; simp only [put, app, setAll, trOf, zE, zS, reduceAdd])
                  refine rg_nil ?_
                  refine hK39 _ ?_; clear hK39; refine awp_keep [2, 4, 5, 7, 10, 11, 12, 43, 44, 50, 51, 52, 53, 57, 58, 59] ?_; simp only [keepEnv, lkp, zE, reduceCtorEq, reduceEqDiff, argEnv, reduceAdd]
                  refine awp_block ?_
                  refine awp_loop (fun n40 s40 => ∃ (j : Nat), (j ≤ (d.nx.getD s []).length) ∧ n40 = (d.nx.getD s []).length - j ∧ s40 = { env := [(2, .one (.ptr 0 0 0 0)), (4, .one (.int .i64 0)), (5, .one (.int .i64 0)), (7, .one (.list (.int .i64) (cntD d r))), (10, .one (.row 1 0)), (11, .one (.int .i64 (s : Int))), (12, .one (.list (.int .i64) (d.nx.getD s []))), (43, .one (.int .i64 n)), (44, .one (.int .i64 (r : Int))), (50, .one (.list (.list (.int .i64)) d.nx)), (51, .one (.int .i64 (d.nx.length : Int))), (52, .one (.int .i64 (s : Int))), (57, .one (.list (.int .i64) (d.nx.getD s []))), (58, .one (.int .i64 ((d.nx.getD s []).length : Int))), (59, .one (.int .i64 (j : Int)))], L := [.vars 25 [.int .i64 d.inp, .int .i64 d.st, .list (.list (.int .i64)) d.nx, .list .bool d.acc], .row (.int .i64) 3 0 (prL (cntF d (cntD d r)) d.nx.length s (cntS (cntD d r) (d.nx.getD s []) j))] }) ?_ ?_
                  · exact ⟨_, _, sub_keep [2, 4, 5, 7, 10, 11, 12, 43, 44, 50, 51, 52, 57, 58, 59], 0, by omega, rfl, rfl⟩
                  · rintro n40 s40 ⟨j, hj, rfl, rfl⟩
                    refine awp_seq_k fun K41 hK41 => ?_
                    refine awp_reg hP hN rfl ?_
                    (refine rg_step rfl fun K0 hK0 => ?_; simp only [zE, op1, ev, lkp, avOf, acOf, opBin, arith, strOp, inK_i64, eqACs, eqAC, reduceCtorEq, reduceEqDiff, reduceAdd, reduceLeDiff, reduceLT, reduceMul, reduceSub, Try.td3, Dfa.av]; (repeat refine And.intro (by first | omega | assumption | exact rfl) ?_); (first | refine hK0 _ ?_ | refine Or.inl (hK0 _ ?_)); clear hK0 K0; simp only [put, app, setAll, trOf, zE, zS, reduceAdd])
                    refine rg_nil ?_
                    refine hK41 _ ?_; clear hK41; refine awp_keep [2, 4, 5, 7, 10, 11, 12, 43, 44, 50, 51, 52, 57, 58, 59, 60] ?_; simp only [keepEnv, lkp, zE, reduceCtorEq, reduceEqDiff, argEnv, reduceAdd]
                    refine awp_seq_k fun K42 hK42 => ?_
                    refine awp_cond (by simp only [ev, keepEnv, lkp, zE, reduceCtorEq, reduceEqDiff, argEnv, reduceAdd]; exact rfl) (fun hc43 => ?_) (fun hc43 => ?_)
                    · (try simp only [zB, reduceCtorEq] at hc43)
                      refine awp_skip ?_
                      refine hK42 _ ?_; clear hK42; refine awp_keep [2, 4, 5, 7, 10, 11, 12, 43, 44, 50, 51, 52, 57, 58, 59, 60] ?_; simp only [keepEnv, lkp, zE, reduceCtorEq, reduceEqDiff, argEnv, reduceAdd]
                      refine awp_seq_k fun K44 hK44 => ?_
                      refine awp_block ?_
                      refine awp_seq_k fun K45 hK45 => ?_
                      refine awp_reg hP hN rfl ?_
                      iterate 3 (refine rg_step rfl fun K0 hK0 => ?_; simp only [zE, op1, ev, lkp, avOf, acOf, opIndexAddr, zG, Ty.dflt, Ty.size, Nat.mul_one, ne_eq, not_false_eq_true, Int.natCast_one, Int.mul_one, opLoad, readAC, isAggK, acs, cellsAt, reduceCtorEq, reduceEqDiff, reduceAdd, reduceLeDiff, reduceLT, reduceMul, reduceSub, Try.el26, Try.td26, Try.td3, Dfa.av]; (repeat refine And.intro (by first | omega | assumption | exact rfl) ?_); (first | refine hK0 _ ?_ | refine Or.inl (hK0 _ ?_)); clear hK0 K0; simp only [put, app, setAll, trOf, zE, zS, reduceAdd])
                      refine rg_nil ?_
                      refine hK45 _ ?_; clear hK45; refine awp_keep [2, 4, 5, 7, 10, 11, 12, 14, 43, 44, 50, 51, 52, 57, 58, 59, 60] ?_; simp only [keepEnv, lkp, zE, reduceCtorEq, reduceEqDiff, argEnv, reduceAdd]
                      refine awp_seq_k fun K46 hK46 => ?_
                      refine awp_seq_k fun K47 hK47 => ?_
                      have hs9 : s < d.nx.length := by omega
                      have hrl : ((d.nx.getD s []).length : Int) = d.inp := hd.rl s hs9
                      have hcl : 0 ≤ (d.nx.getD s []).getD j 0 ∧ (d.nx.getD s []).getD j 0 < d.nx.length := hd.cl s j hs9 (by omega)
                      have hx := cntS_rng (cntD_rng d r) (d.nx.getD s []) j; unfold MX1 at hx
                      have hct := cntD_rng d r ((d.nx.getD s []).getD j 0).toNat; unfold MX1 at hct
                      refine awp_drw hP hN Try.mixed rfl ?_
                      iterate 10 (refine rg_step rfl fun K0 hK0 => ?_; simp only [zE, op1, ev, lkp, avOf, acOf, opIndexAddr, zG, Ty.dflt, Ty.size, Nat.mul_one, ne_eq, not_false_eq_true, Int.natCast_one, Int.mul_one, opLoad, readAC, isAggK, acs, cellsAt, opBin, arith, strOp, inK_i64, eqACs, eqAC, reduceCtorEq, reduceEqDiff, reduceAdd, reduceLeDiff, reduceLT, reduceMul, reduceSub, Try.el26, Try.td26, Try.td3, Try.td4, Dfa.av, prL_get hs9, cntD_len, prL_len]; (repeat refine And.intro (by first | omega | assumption | exact rfl) ?_); (first | refine hK0 _ ?_ | refine Or.inl (hK0 _ ?_)); clear hK0 K0; simp only [put, app, setAll, trOf, zE, zS, reduceAdd])
                      refine rg_nil ?_
                      refine ⟨by kernel_rfl, ?_⟩
                      refine hK47 _ ?_; clear hK47; refine awp_keep [2, 4, 5, 7, 10, 11, 12, 14, 43, 44, 50, 51, 52, 57, 58, 59, 60, 72] ?_; simp only [keepEnv, lkp, zE, reduceCtorEq, reduceEqDiff, argEnv, reduceAdd]
                      refine awp_cond (by simp only [ev, keepEnv, lkp, zE, reduceCtorEq, reduceEqDiff, argEnv, reduceAdd]; exact rfl) (fun hc48 => ?_) (fun hc48 => ?_)
                      · (try simp only [zB, reduceCtorEq] at hc48)
                        have hfull : cntS (cntD d r) (d.nx.getD s []) (j + 1) = MX1 := by rw [cntS_succ (by omega)]; have h9 := hc48; unfold MX1; omega
                        refine awp_seq_k fun K49 hK49 => ?_
                        refine awp_reg hP hN rfl ?_
                        iterate 4 (refine rg_step rfl fun K0 hK0 => ?_; simp only [zE, op1, ev, lkp, avOf, acOf, opIndexAddr, zG, Ty.dflt, Ty.size, Nat.mul_one, ne_eq, not_false_eq_true, Int.natCast_one, Int.mul_one, opStore, cellsAV, writeAC, datOf, acs, reduceCtorEq, reduceEqDiff, reduceAdd, reduceLeDiff, reduceLT, reduceMul, reduceSub, Try.el26, Try.td26, Try.td3, Dfa.av, prL_len]; (repeat refine And.intro (by first | omega | assumption | exact rfl) ?_); (first | refine hK0 _ ?_ | refine Or.inl (hK0 _ ?_)); clear hK0 K0; simp only [put, app, setAll, trOf, zE, zS, reduceAdd])
                        refine rg_nil ?_
                        refine hK49 _ ?_; clear hK49; refine awp_keep [2, 4, 5, 7, 10, 11, 12, 14, 43, 44, 50, 51, 52, 57, 58, 59, 60, 72] ?_; simp only [keepEnv, lkp, zE, reduceCtorEq, reduceEqDiff, argEnv, reduceAdd]
                        refine awp_exit ?_
                        refine hK37 _ ?_; clear hK37; refine awp_keep [2, 4, 5, 7, 10, 11, 12, 14, 43, 44, 50, 51, 52, 57, 58, 59, 60, 72] ?_; simp only [keepEnv, lkp, zE, reduceCtorEq, reduceEqDiff, argEnv, reduceAdd]
                        refine awp_reg hP hN rfl ?_
                        iterate 2 (refine rg_step rfl fun K0 hK0 => ?_; simp only [zE, op1, ev, lkp, avOf, acOf, opBin, arith, strOp, inK_i64, eqACs, eqAC, reduceCtorEq, reduceEqDiff, reduceAdd, reduceLeDiff, reduceLT, reduceMul, reduceSub, Try.td3, Dfa.av]; (repeat refine And.intro (by first | omega | assumption | exact rfl) ?_); (first | refine hK0 _ ?_ | refine Or.inl (hK0 _ ?_)); clear hK0 K0; simp only [put, app, setAll, trOf, zE, zS, reduceAdd])
                        refine rg_nil ?_
                        first
                        | (refine ⟨_, _, ?_, sub_keep [2, 4, 5, 7, 10, 43, 44, 50, 51, 52], s + 1, by omega, rfl, ?_⟩
                           · omega
                           · rw [prL_set hs9, show (4611686018427387905 : Int) = cntF d (cntD d r) s from (cntS_full (cntD_rng d r) hfull _ (by omega)).symm, prL_next]; rfl)
                        | (refine ⟨_, _, ?_, sub_keep [2, 4, 5, 7, 10, 43, 44, 50, 51, 52], s + 1, by omega, rfl, ?_⟩
                           · omega
                           · rw [show (cntS (cntD d r) (d.nx.getD s []) j) = cntF d (cntD d r) s from by unfold cntF; rw [show j = (d.nx.getD s []).length by omega], prL_next]; rfl)
                      · (try simp only [zB, reduceCtorEq] at hc48)
                        have hsum : cntS (cntD d r) (d.nx.getD s []) (j + 1) = (cntS (cntD d r) (d.nx.getD s []) j) + ((cntD d r).getD ((d.nx.getD s []).getD j 0).toNat 0) := by rw [cntS_succ (by omega)]; have h9 := hc48; unfold MX1; omega
                        refine awp_skip ?_
                        refine hK46 _ ?_; clear hK46; refine awp_keep [2, 4, 5, 7, 10, 11, 12, 14, 43, 44, 50, 51, 52, 57, 58, 59, 60, 72] ?_; simp only [keepEnv, lkp, zE, reduceCtorEq, reduceEqDiff, argEnv, reduceAdd]
                        refine awp_drw hP hN Try.mixed rfl ?_
                        iterate 11 (refine rg_step rfl fun K0 hK0 => ?_; simp only [zE, op1, ev, lkp, avOf, acOf, opIndexAddr, zG, Ty.dflt, Ty.size, Nat.mul_one, ne_eq, not_false_eq_true, Int.natCast_one, Int.mul_one, opLoad, readAC, isAggK, acs, cellsAt, opBin, arith, strOp, inK_i64, eqACs, eqAC, opStore, cellsAV, writeAC, datOf, reduceCtorEq, reduceEqDiff, reduceAdd, reduceLeDiff, reduceLT, reduceMul, reduceSub, Try.el26, Try.td26, Try.td3, Dfa.av, prL_get hs9, cntD_len, prL_len]; (repeat refine And.intro (by first | omega | assumption | exact rfl) ?_); (first | refine hK0 _ ?_ | refine Or.inl (hK0 _ ?_)); clear hK0 K0; simp only [put, app, setAll, trOf, zE, zS, reduceAdd])
                        refine rg_nil ?_
                        refine ⟨by kernel_rfl, ?_⟩
                        refine hK44 _ ?_; clear hK44; refine awp_keep [2, 4, 5, 7, 10, 11, 12, 14, 43, 44, 50, 51, 52, 57, 58, 59, 60, 72] ?_; simp only [keepEnv, lkp, zE, reduceCtorEq, reduceEqDiff, argEnv, reduceAdd]
                        refine awp_reg hP hN rfl ?_
                        iterate 2 (refine rg_step rfl fun K0 hK0 => ?_; simp only [zE, op1, ev, lkp, avOf, acOf, opBin, arith, strOp, inK_i64, eqACs, eqAC, reduceCtorEq, reduceEqDiff, reduceAdd, reduceLeDiff, reduceLT, reduceMul, reduceSub, Try.td3, Dfa.av]; (repeat refine And.intro (by first | omega | assumption | exact rfl) ?_); (first | refine hK0 _ ?_ | refine Or.inl (hK0 _ ?_)); clear hK0 K0; simp only [put, app, setAll, trOf, zE, zS, reduceAdd])
                        refine rg_nil ?_
                        refine ⟨_, _, ?_, sub_keep [2, 4, 5, 7, 10, 11, 12, 43, 44, 50, 51, 52, 57, 58, 59], j + 1, by omega, rfl, ?_⟩
                        · omega
                        · rw [hsum, prL_set hs9]; rfl
                    · (try simp only [zB, reduceCtorEq] at hc43)
                      refine awp_exit ?_
                      refine hK37 _ ?_; clear hK37; refine awp_keep [2, 4, 5, 7, 10, 11, 12, 43, 44, 50, 51, 52, 57, 58, 59, 60] ?_; simp only [keepEnv, lkp, zE, reduceCtorEq, reduceEqDiff, argEnv, reduceAdd]
                      refine awp_reg hP hN rfl ?_
                      iterate 2 (refine rg_step rfl fun K0 hK0 => ?_; simp only [zE, op1, ev, lkp, avOf, acOf, opBin, arith, strOp, inK_i64, eqACs, eqAC, reduceCtorEq, reduceEqDiff, reduceAdd, reduceLeDiff, reduceLT, reduceMul, reduceSub, Try.td3, Dfa.av]; (repeat refine And.intro (by first | omega | assumption | exact rfl) ?_); (first | refine hK0 _ ?_ | refine Or.inl (hK0 _ ?_)); clear hK0 K0; simp only [put, app, setAll, trOf, zE, zS, reduceAdd])
                      refine rg_nil ?_
                      first
                      | (refine ⟨_, _, ?_, sub_keep [2, 4, 5, 7, 10, 43, 44, 50, 51, 52], s + 1, by omega, rfl, ?_⟩
                         · omega
                         · rw [prL_set hs9, show (4611686018427387905 : Int) = cntF d (cntD d r) s from (cntS_full (cntD_rng d r) hfull _ (by omega)).symm, prL_next]; rfl)
                      | (refine ⟨_, _, ?_, sub_keep [2, 4, 5, 7, 10, 43, 44, 50, 51, 52], s + 1, by omega, rfl, ?_⟩
                         · omega
                         · rw [show (cntS (cntD d r) (d.nx.getD s []) j) = cntF d (cntD d r) s from by unfold cntF; rw [show j = (d.nx.getD s []).length by omega], prL_next]; rfl)
                · (try simp only [zB, reduceCtorEq] at hc36)
                  refine awp_exit ?_
                  refine hK31 _ ?_; clear hK31; refine awp_keep [2, 4, 5, 7, 10, 43, 44, 50, 51, 52, 53] ?_; simp only [keepEnv, lkp, zE, reduceCtorEq, reduceEqDiff, argEnv, reduceAdd]
                  refine awp_freeze 1 rfl ?_; simp only [List.map_cons, List.map_nil, zS, reduceEqDiff, and_self, and_true, true_and, and_false, false_and, if_true, if_false, eq_self, reduceCtorEq, Nat.one_ne_zero, Nat.zero_ne_one]
                  have hs8 : s = d.nx.length := by omega
                  rw [hs8, prL_end, show (List.range d.nx.length).map (cntF d (cntD d r)) = cntD d (r + 1) from rfl]
                  refine awp_reg hP hN rfl ?_
                  iterate 2 (refine rg_step rfl fun K0 hK0 => ?_; simp only [zE, op1, ev, lkp, avOf, acOf, ev, reduceCtorEq, reduceEqDiff, reduceAdd, reduceLeDiff, reduceLT, reduceMul, reduceSub, Try.el26, Try.td26, Dfa.av]; (repeat refine And.intro (by first | omega | assumption | exact rfl) ?_); (first | refine hK0 _ ?_ | refine Or.inl (hK0 _ ?_)); clear hK0 K0; simp only [put, app, setAll, trOf, zE, zS, reduceAdd])
                  refine rg_nil ?_
                  refine hK29 _ ?_; clear hK29; refine awp_keep [2, 4, 5, 7, 10, 43, 44, 50, 51, 52, 53] ?_; simp only [keepEnv, lkp, zE, reduceCtorEq, reduceEqDiff, argEnv, reduceAdd]
                  refine awp_drop (n := 1) (L1 := [_]) rfl rfl (by rw [hB]; decide) rfl rfl ?_
                  refine awp_reg hP hN rfl ?_
                  iterate 2 (refine rg_step rfl fun K0 hK0 => ?_; simp only [zE, op1, ev, lkp, avOf, acOf, opBin, arith, strOp, inK_i64, eqACs, eqAC, reduceCtorEq, reduceEqDiff, reduceAdd, reduceLeDiff, reduceLT, reduceMul, reduceSub, Try.td3, Dfa.av]; (repeat refine And.intro (by first | omega | assumption | exact rfl) ?_); (first | refine hK0 _ ?_ | refine Or.inl (hK0 _ ?_)); clear hK0 K0; simp only [put, app, setAll, trOf, zE, zS, reduceAdd])
                  refine rg_nil ?_
                  refine ⟨_, _, ?_, sub_keep [2, 4, 5, 7, 43, 44], r + 1, by omega, rfl, rfl⟩
                  omega
            · (try simp only [zB, reduceCtorEq] at hc28)
              refine awp_exit ?_
              refine hK23 _ ?_; clear hK23; refine awp_keep [2, 4, 5, 7, 43, 44, 45] ?_; simp only [keepEnv, lkp, zE, reduceCtorEq, reduceEqDiff, argEnv, reduceAdd]
              refine awp_seq_k fun K50 hK50 => ?_
              refine awp_seq_k fun K51 hK51 => ?_
              have hr9 : r = n.toNat := by omega
              subst hr9
              refine awp_reg hP hN rfl ?_
              iterate 6 (refine rg_step rfl fun K0 hK0 => ?_; simp only [zE, op1, ev, lkp, avOf, acOf, opFieldAddr, opLoad, Nat.mul_one, readAC, isAggK, acs, Ty.dflt, zG, cellsAt, opIndexAddr, Ty.size, ne_eq, not_false_eq_true, Int.natCast_one, Int.mul_one, opBin, arith, strOp, inK_i64, eqACs, eqAC, reduceCtorEq, reduceEqDiff, reduceAdd, reduceLeDiff, reduceLT, reduceMul, reduceSub, Try.el26, Try.st25, Try.td1, Try.td25, Try.td26, Try.td3, Try.td4, Dfa.av, cntD_len]; (repeat refine And.intro (by first | omega | assumption | exact rfl) ?_); (first | refine hK0 _ ?_ | refine Or.inl (hK0 _ ?_)); clear hK0 K0; simp only [put, app, setAll, trOf, zE, zS, reduceAdd])
              refine rg_nil ?_
              refine hK51 _ ?_; clear hK51; refine awp_keep [2, 4, 5, 7, 43, 44, 45, 95] ?_; simp only [keepEnv, lkp, zE, reduceCtorEq, reduceEqDiff, argEnv, reduceAdd]
              refine awp_cond (by simp only [ev, keepEnv, lkp, zE, reduceCtorEq, reduceEqDiff, argEnv, reduceAdd]; exact rfl) (fun hc52 => ?_) (fun hc52 => ?_)
              · (try simp only [zB, reduceCtorEq] at hc52)
                refine awp_seq_k fun K53 hK53 => ?_
                refine awp_reg hP hN rfl ?_
                iterate 2 (refine rg_step rfl fun K0 hK0 => ?_; simp only [zE, op1, ev, lkp, avOf, acOf, ev, reduceCtorEq, reduceEqDiff, reduceAdd, reduceLeDiff, reduceLT, reduceMul, reduceSub, Try.td29, Try.td3, Dfa.av]; (repeat refine And.intro (by first | omega | assumption | exact rfl) ?_); (first | refine hK0 _ ?_ | refine Or.inl (hK0 _ ?_)); clear hK0 K0; simp only [put, app, setAll, trOf, zE, zS, reduceAdd])
                refine rg_nil ?_
                refine hK53 _ ?_; clear hK53; refine awp_keep [2, 4, 5, 7, 43, 44, 45, 95] ?_; simp only [keepEnv, lkp, zE, reduceCtorEq, reduceEqDiff, argEnv, reduceAdd]
                refine awp_ret ?_
                refine ⟨by first | exact .inl rfl | exact .inr rfl, _, rfl, ?_⟩; simp only [fzV, fz1, fzC, List.map_cons, List.map_nil, keepEnv, lkp, zE, reduceCtorEq, reduceEqDiff, argEnv, reduceAdd, Dfa.av]
                refine VLE.of_eq ?_
                first
                | (have g9 := cu_a (n := n) (by assumption); obtain ⟨g1, g2⟩ := g9; rw [g1, g2])
                | (have g9 := cu_b hv (n := n) (by omega); obtain ⟨g1, g2⟩ := g9; rw [g1, g2])
                | (have g9 := cu_c hv (n := n) (by omega) (by assumption); obtain ⟨g1, g2⟩ := g9; rw [g1, g2])
                | (have g9 := cu_ok hv (n := n) (by omega) (by omega); obtain ⟨g1, g2⟩ := g9; rw [g1, g2])
              · (try simp only [zB, reduceCtorEq] at hc52)
                refine awp_skip ?_
                refine hK50 _ ?_; clear hK50; refine awp_keep [2, 4, 5, 7, 43, 44, 45, 95] ?_; simp only [keepEnv, lkp, zE, reduceCtorEq, reduceEqDiff, argEnv, reduceAdd]
                refine awp_seq_k fun K54 hK54 => ?_
                refine awp_reg hP hN rfl ?_
                iterate 7 (refine rg_step rfl fun K0 hK0 => ?_; simp only [zE, op1, ev, lkp, avOf, acOf, opFieldAddr, opLoad, Nat.mul_one, readAC, isAggK, acs, Ty.dflt, zG, cellsAt, opIndexAddr, Ty.size, ne_eq, not_false_eq_true, Int.natCast_one, Int.mul_one, reduceCtorEq, reduceEqDiff, reduceAdd, reduceLeDiff, reduceLT, reduceMul, reduceSub, Try.el26, Try.st25, Try.td1, Try.td25, Try.td26, Try.td29, Try.td3, Dfa.av, cntD_len]; (repeat refine And.intro (by first | omega | assumption | exact rfl) ?_); (first | refine hK0 _ ?_ | refine Or.inl (hK0 _ ?_)); clear hK0 K0; simp only [put, app, setAll, trOf, zE, zS, reduceAdd])
                refine rg_nil ?_
                refine hK54 _ ?_; clear hK54; refine awp_keep [2, 4, 5, 7, 43, 44, 45, 95] ?_; simp only [keepEnv, lkp, zE, reduceCtorEq, reduceEqDiff, argEnv, reduceAdd]
                refine awp_ret ?_
                refine ⟨by first | exact .inl rfl | exact .inr rfl, _, rfl, ?_⟩; simp only [fzV, fz1, fzC, List.map_cons, List.map_nil, keepEnv, lkp, zE, reduceCtorEq, reduceEqDiff, argEnv, reduceAdd, Dfa.av]
                refine VLE.of_eq ?_
                first
                | (have g9 := cu_a (n := n) (by assumption); obtain ⟨g1, g2⟩ := g9; rw [g1, g2])
                | (have g9 := cu_b hv (n := n) (by omega); obtain ⟨g1, g2⟩ := g9; rw [g1, g2])
                | (have g9 := cu_c hv (n := n) (by omega) (by assumption); obtain ⟨g1, g2⟩ := g9; rw [g1, g2])
                | (have g9 := cu_ok hv (n := n) (by omega) (by omega); obtain ⟨g1, g2⟩ := g9; rw [g1, g2])
end Go.Proofs.Ytdkgcbhbpdbmnaa
namespace Go.Proofs.Ytdkgcbhbpdbmnaa
open Go Go.AV
open Nat (reduceEqDiff reduceAdd reduceLeDiff reduceLT reduceMul reduceSub)
open List (set_cons_zero set_cons_succ)
set_option maxRecDepth 100000 in
theorem ddf1_c (a b : Dfa) (q : PP) (x : Nat) (ha : DOK a) (hb : DOK b) (hi : a.inp = b.inp) (hq : inR a.nx.length b.nx.length q) (hx : (x : Int) < a.inp) : PURE Try.prog 62 [.agg [.int .i64 q.1, .int .i64 q.2], .one (.int .i64 (x : Int)), .one (.pat (.pair (.int .i64) (.pair (.int .i64) (.pair (.list (.list (.int .i64))) (.pair (.list .bool) .unit)))) (a.inp, (a.st, (a.nx, (a.acc, ())))) 0), .one (.pat (.pair (.int .i64) (.pair (.int .i64) (.pair (.list (.list (.int .i64))) (.pair (.list .bool) .unit)))) (b.inp, (b.st, (b.nx, (b.acc, ())))) 0)] (.agg [.int .i64 (stpD a b q x).1, .int .i64 (stpD a b q x).2]) := by
  have hra := ha.rli hq.1; have hsa : ((a.nx.getD q.1.toNat []).length : Int) = a.inp := hra; have hta := hq.1; have hua := ha.al
  have hrb := hb.rli hq.2; have hsb : ((b.nx.getD q.2.toNat []).length : Int) = b.inp := hrb; have htb := hq.2; have hub := hb.al
  refine pure_of_le Try.func62 rfl (by kernel_rfl) (Nat.le_of_ble_eq_true rfl) rfl fun C hP hN hB => ?_
  replace hN : C.N = 26 := hN
  simp only [argEnv, reduceAdd]
  refine awp_seq_k fun K1 hK1 => ?_
  refine awp_reg hP hN rfl ?_
  iterate 2 (refine rg_step rfl fun K0 hK0 => ?_; simp only [zE, op1, ev, lkp, avOf, acOf, opBox, cellsAV, opAlloc, reduceCtorEq, reduceEqDiff, reduceAdd, reduceLeDiff, reduceLT, reduceMul, reduceSub, Try.ea81, Try.sa81, Try.td81]; (repeat refine And.intro (by first | omega | assumption | exact rfl) ?_); (first | refine hK0 _ ?_ | refine Or.inl (hK0 _ ?_)); clear hK0 K0; simp only [put, app, setAll, trOf, zE, zS, reduceAdd])
  refine rg_nil ?_
  refine hK1 _ ?_; clear hK1; refine awp_keep [0, 1, 2, 3, 4, 6] ?_; simp only [keepEnv, lkp, zE, reduceCtorEq, reduceEqDiff, argEnv, reduceAdd]
  refine awp_seq_k fun K2 hK2 => ?_
  refine awp_drw hP hN Try.mixed rfl ?_
  iterate 20 (refine rg_step rfl fun K0 hK0 => ?_; simp only [zE, op1, ev, lkp, avOf, acOf, opFieldAddr, opLoad, Nat.mul_one, readAC, isAggK, acs, Ty.dflt, zG, cellsAt, opIndexAddr, Ty.size, ne_eq, not_false_eq_true, Int.natCast_one, Int.mul_one, opBuild, fillAC, writeAC, cellsAV, opStore, datOf, reduceCtorEq, reduceEqDiff, reduceAdd, reduceLeDiff, reduceLT, reduceMul, reduceSub, Try.ea81, Try.el22, Try.el26, Try.sa81, Try.st25, Try.td2, Try.td22, Try.td25, Try.td26, Try.td3, Try.td81]; (repeat refine And.intro (by first | omega | assumption | exact rfl) ?_); (first | refine hK0 _ ?_ | refine Or.inl (hK0 _ ?_)); clear hK0 K0; simp only [put, app, setAll, trOf, zE, zS, reduceAdd])
  refine rg_nil ?_
  refine ⟨by kernel_rfl, ?_⟩
  refine hK2 _ ?_; clear hK2; refine awp_keep [0, 1, 2, 3, 4, 6] ?_; simp only [keepEnv, lkp, zE, reduceCtorEq, reduceEqDiff, argEnv, reduceAdd]
  refine awp_ret ?_
  refine ⟨by first | exact .inl rfl | exact .inr rfl, _, rfl, ?_⟩; simp only [fzV, fz1, fzC, List.map_cons, List.map_nil, keepEnv, lkp, zE, reduceCtorEq, reduceEqDiff, argEnv, reduceAdd]
  refine VLE.of_eq ?_
  rfl
end Go.Proofs.Ytdkgcbhbpdbmnaa
