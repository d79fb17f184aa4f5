/- Contracts of functions of this seat, each out of a walk through its code, and plain facts on what they compute. Conditions: those that each theorem names. -/
import Derived.Test.YtfakhaagbimljaaDoorW02
set_option linter.unusedSimpArgs false
set_option linter.unusedVariables false
set_option maxRecDepth 100000
namespace Go.Proofs.YtfakhaagbimljaaDoor
open Go Go.AV
open Nat renaming reduceEqDiff → J, reduceAdd → D, reduceLeDiff → M, reduceLT → U, reduceMul → O, reduceSub → S
open List renaming set_cons_zero → bC, set_cons_succ → bD, getD_cons_zero → c9, length_append → aj, map_cons → aP, cons_append → b0, map_nil → bb, length_cons → ad, nil_append → aY, take_succ_cons → am, length_nil → aq, length_map → bJ, length_replicate → bo, take_length → az, mem_cons_self → aO, mem_cons_of_mem → aM
open Int renaming toNat_natCast → af
set_option maxHeartbeats 2000000 in
theorem tE (n : Int) (X : List TRC) (v : Nat) (xs : List TRC) (t : TRC) (hs : SRT xs) (hl : xs.length ≤ 9000) (hb : LB 100000 xs) (ht : t.1.length ≤ 100000 ∧ t.2.1.length ≤ 100000) (hn : gv xs t = true) : cF Tryd.prog [.vars 47 [.int .i64 n, .list (.pair (.list (.int .i64)) (.pair (.list (.int .i64)) .unit)) X], .vars 47 [.int .i64 0, .nils], .row (.pair (.list (.int .i64)) (.pair (.list (.int .i64)) .unit)) 60 v xs, .vars 60 [.list (.int .i64) t.1, .list (.int .i64) t.2.1]] 80 [.one (.row 2 v), .agg [.list (.int .i64) t.1, .list (.int .i64) t.2.1]] { av := .tup [.one .nils, .one (.int .i64 13)], fp := [0, 1, 2, 3] } := by
 refine cS _ _ Tryd.func80 rfl (by kernel_rfl) (Nat.le_of_ble_eq_true rfl) (by intro k hk; simp only [ad, aq, Nat.zero_add, D] at hk; simp only [List.mem_cons, List.not_mem_nil, or_false]; omega) (fun C hP hN hB => ?_)
 replace hB : C.bL.length = 4 := by rw [hB]; rfl
 replace hN : C.N = 56 := hN
 simp only [aH, D]
 refine V fun _ k1 => ?_
 refine a9 hP hN rfl ?_
 iterate 3 (refine Z rfl fun _ k0 => ?_; simp only [zO, zT, acs, reduceCtorEq, J, D, M, U, O, S]; (repeat refine an ?_); (try refine .inl ?_); apply k0; clear k0; simp only [zP, D])
 refine aa ?_
 apply k1; clear k1; refine kp [0, 1, 3, 4, 5] ?_
 refine V fun _ k2 => ?_
 refine ic 4 (.pair (.list (.int .i64)) (.pair (.list (.int .i64)) .unit)) rfl rfl ?_; simp only [aP, bb, shV, if_true, zS, if_false, eq_self, J, reduceCtorEq, Nat.one_ne_zero, Nat.zero_ne_one]
 refine aC (L1 := [_, _, _, _]) rfl (by rw [hB]; exact Nat.le_refl _) rfl rfl ?_
 refine a9 hP hN rfl ?_
 (refine Z rfl fun _ k0 => ?_; simp only [zO, zT, acs, reduceCtorEq, J, D, M, U, O, S]; (repeat refine an ?_); (try refine .inl ?_); apply k0; clear k0; simp only [zP, D])
 refine aa ?_
 apply k2; clear k2; refine kp [0, 1, 3, 4, 5, 6] ?_
 refine V fun _ k3 => ?_
 refine V fun _ k4 => ?_
 refine a9 hP hN rfl ?_
 iterate 3 (refine Z rfl fun _ k0 => ?_; simp only [zO, zT, acs, reduceCtorEq, J, D, M, U, O, S]; (repeat refine an ?_); (try refine .inl ?_); apply k0; clear k0; simp only [zP, D])
 refine aa ?_
 apply k4; clear k4; refine kp [0, 1, 3, 4, 5, 6, 11, 12, 13] ?_
 refine au ?_
 refine aU (fun n5 s5 => ∃ (k : Nat), (k ≤ xs.length) ∧ (∀ q : Nat, q < k → ¬ 0 ≤ dfO (xs.getD q aQ) t) ∧ n5 = xs.length - k ∧ s5 = { env := [(0, .one (.row 2 v)), (3, .one (.pat (.pair (.list (.int .i64)) (.pair (.list (.int .i64)) .unit)) (t.1, (t.2.1, ())) 0)), (4, .one .nils), (5, .one (.int .i64 0)), (6, .one (.bool (io xs t k))), (11, .one (.row 2 v)), (12, .one (.int .i64 (xs.length : Int))), (13, .one (.int .i64 (k : Int)))], L := [.vars 47 [.int .i64 n, .list (.pair (.list (.int .i64)) (.pair (.list (.int .i64)) .unit)) X], .vars 47 [.int .i64 0, .nils], .row (.pair (.list (.int .i64)) (.pair (.list (.int .i64)) .unit)) 60 v xs, .vars 60 [.list (.int .i64) t.1, .list (.int .i64) t.2.1]] }) ?_ ?_
 ·exact ⟨_, _, ak [0, 3, 4, 5, 6, 11, 12, 13], 0, Nat.zero_le _, fun q hq => by omega, rfl, rfl⟩
 rintro n5 s5 ⟨k, hk, hq, rfl, rfl⟩
 refine V fun _ k6 => ?_
 refine a9 hP hN rfl ?_
 (refine Z rfl fun _ k0 => ?_; simp only [zO, zT, acs, reduceCtorEq, J, D, M, U, O, S]; (repeat refine an ?_); (try refine .inl ?_); apply k0; clear k0; simp only [zP, D])
 refine aa ?_
 apply k6; clear k6; refine kp [0, 3, 4, 5, 6, 11, 12, 13, 14] ?_
 refine V fun _ k7 => ?_
 refine cd (fun hc8 => ?_) (fun hc8 => ?_)
 ·(try simp only [zB, reduceCtorEq] at hc8)
  refine ag ?_
  apply k7; clear k7; refine kp [0, 3, 4, 5, 6, 11, 12, 13, 14] ?_
  refine V fun _ k9 => ?_
  refine au ?_
  refine V fun _ k10 => ?_
  obtain ⟨x1, x2, hgx⟩ : ∃ x1 x2, ∀ d, xs.getD k d = (x1, (x2, ())) := ⟨_, _, cM (by omega)⟩
  have hbx := hb.get (k := k) (by omega) (hgx _)
  refine a9 hP hN rfl ?_
  iterate 4 (refine Z rfl fun _ k0 => ?_; simp only [zO, zT, acs, reduceCtorEq, J, D, M, U, O, S, gt, af, hgx]; (repeat refine an ?_); (try refine .inl ?_); apply k0; clear k0; simp only [zP, D])
  refine aa ?_
  apply k10; clear k10; refine kp [0, 3, 4, 5, 6, 8, 11, 12, 13, 14] ?_
  refine V fun _ k11 => ?_
  refine V fun _ k12 => ?_
  refine a9 hP hN rfl ?_
  iterate 2 (refine Z rfl fun _ k0 => ?_; simp only [zO, zT, acs, reduceCtorEq, J, D, M, U, O, S]; (repeat refine an ?_); (try refine .inl ?_); apply k0; clear k0; simp only [zP, D])
  refine Z rfl fun _ k0 => ?_
  refine ar (h := ae (ll (x1, (x2, ())) (t.1, (t.2.1, ())) hbx.1 ht.1 hbx.2 ht.2)) rfl rfl (by first | exact rfl | (simp only [ev, zP, J, D]; exact rfl)) (by simp only [zV, acs, reduceCtorEq, J, D, M, U, O, S]) ?_
  apply k0; clear k0; simp only [zP, D]
  (refine Z rfl fun _ k0 => ?_; simp only [zO, zT, acs, reduceCtorEq, J, D, M, U, O, S]; (repeat refine an ?_); (try refine .inl ?_); apply k0; clear k0; simp only [zP, D])
  refine aa ?_
  apply k12; clear k12; refine kp [0, 3, 4, 5, 6, 8, 11, 12, 13, 14, 20] ?_
  refine cd (fun hc13 => ?_) (fun hc13 => ?_)
  ·(try simp only [zB, reduceCtorEq] at hc13)
   refine V fun _ k14 => ?_
   refine a9 hP hN rfl ?_
   iterate 2 (refine Z rfl fun _ k0 => ?_; simp only [zO, zT, acs, reduceCtorEq, J, D, M, U, O, S]; (repeat refine an ?_); (try refine .inl ?_); apply k0; clear k0; simp only [zP, D])
   refine aa ?_
   apply k14; clear k14; refine kp [0, 3, 4, 5, 6, 8, 11, 12, 13, 14, 20] ?_
   refine kp [4, 5] ?_
   refine aC (L1 := [_, _, _, _]) rfl (by rw [hB]; exact Nat.le_refl _) rfl rfl ?_
   refine ah ?_
   refine ⟨by first | exact .inl rfl | exact .inr rfl, _, rfl, ?_⟩; simp only [zP, J, D]
   all_goals rfl
  (try simp only [zB, reduceCtorEq] at hc13)
  have hnd := hc13
  refine ag ?_
  apply k11; clear k11; refine kp [0, 3, 4, 5, 6, 8, 11, 12, 13, 14, 20] ?_
  refine a9 hP hN rfl ?_
  iterate 2 (refine Z rfl fun _ k0 => ?_; simp only [zO, zT, acs, reduceCtorEq, J, D, M, U, O, S]; (repeat refine an ?_); (try refine .inl ?_); apply k0; clear k0; simp only [zP, D])
  refine' aB (want := false) 5 rfl (m := 22) (by simp only [zP, J, D]; exact rfl) (by kernel_rfl) rfl rfl rfl rfl rfl (fun hg15 => ?a15) ?b15 ?c15
  case a15 =>
   have hq15 := hg15; (try simp only [zB, reduceCtorEq] at hg15); simp only [zE]
   iterate 4 (refine aL rfl fun _ k0 => ?_; simp only [zO, zT, acs, reduceCtorEq, J, D, M, U, O, S]; (repeat refine an ?_); (try refine .inl ?_); apply k0; clear k0; simp only [zP, D])
   refine aL rfl fun _ k0 => ?_
   refine ar (h := ae (pu x1 t.1 (by omega) (by omega))) rfl rfl (by first | exact rfl | (simp only [ev, zP, J, D]; exact rfl)) (by simp only [zV, acs, reduceCtorEq, J, D, M, U, O, S]) ?_
   apply k0; clear k0; simp only [zP, D]
   (refine Z rfl fun _ k0 => ?_; simp only [zO, zT, acs, reduceCtorEq, J, D, M, U, O, S]; (repeat refine an ?_); (try refine .inl ?_); apply k0; clear k0; simp only [zP, D])
   refine aa ?_
   refine ⟨by simp only [zP, J, D]; exact rfl, rfl, ?_, rfl⟩; (repeat refine aA rfl ?_); exact aN (by exact rfl) hq15
  case b15 => exact bc
  simp only [aK, aF]
  (refine Z rfl fun _ k0 => ?_; simp only [zO, zT, acs, reduceCtorEq, J, D, M, U, O, S]; (repeat refine an ?_); (try refine .inl ?_); apply k0; clear k0; simp only [zP, D])
  refine aa ?_
  apply k9; clear k9; refine kp [0, 3, 4, 5, 6, 8, 11, 12, 13, 14, 20] ?_
  refine kp [0, 3, 4, 5, 6, 11, 12, 13] ?_
  refine aC (L1 := [_, _, _, _]) rfl (by rw [hB]; exact Nat.le_refl _) rfl rfl ?_
  refine a9 hP hN rfl ?_
  iterate 2 (refine Z rfl fun _ k0 => ?_; simp only [zO, zT, acs, reduceCtorEq, J, D, M, U, O, S]; (repeat refine an ?_); (try refine .inl ?_); apply k0; clear k0; simp only [zP, D])
  refine aa ?_
  refine ⟨_, _, ?_, ak [0, 3, 4, 5, 6, 11, 12, 13], k + 1, by omega, fun q hq2 => ?_, rfl, ?_⟩
  · omega
  · by_cases e : q = k
    · rw [e, hgx]; have h8 : dfO (x1, (x2, ())) t < 0 := hnd; omega
    · exact hq q (by omega)
  · rw [jR (by omega), hgx]; rfl
 (try simp only [zB, reduceCtorEq] at hc8)
 refine aR ?_
 apply k3; clear k3; refine kp [0, 3, 4, 5, 6, 11, 12, 13, 14] ?_
 refine V fun _ k16 => ?_
 refine V fun _ k17 => ?_
 have hF : False := by rw [sk fun q hq2 => hq q (by omega)] at hn; cases hn
 refine a9 hP hN rfl ?_
 iterate 2 (refine Z rfl fun _ k0 => ?_; simp only [zO, zT, acs, reduceCtorEq, J, D, M, U, O, S]; (repeat refine an ?_); (try refine .inl ?_); apply k0; clear k0; simp only [zP, D])
 refine' aB (want := false) 4 rfl (m := 31) (by simp only [zP, J, D]; exact rfl) (by kernel_rfl) rfl rfl rfl rfl rfl (fun hg18 => ?a18) ?b18 ?c18
 case a18 =>
  have hq18 := hg18; (try simp only [zB, reduceCtorEq] at hg18); simp only [zE]
  iterate 4 (refine aL rfl fun _ k0 => ?_; simp only [zO, zT, acs, reduceCtorEq, J, D, M, U, O, S]; (repeat refine an ?_); (try refine .inl ?_); apply k0; clear k0; simp only [zP, D])
  (refine Z rfl fun _ k0 => ?_; simp only [zO, zT, acs, reduceCtorEq, J, D, M, U, O, S]; (repeat refine an ?_); (try refine .inl ?_); apply k0; clear k0; simp only [zP, D])
  refine aa ?_
  refine ⟨by simp only [zP, J, D]; exact rfl, rfl, ?_, rfl⟩; (repeat refine aA rfl ?_); exact aN (by exact rfl) hq18
 case b18 => exact bc
 simp only [aK, aF]
 refine aa ?_
 apply k17; clear k17; refine kp [0, 3, 4, 5, 6, 11, 12, 13, 14, 36] ?_
 refine cd (fun hc19 => ?_) (fun hc19 => ?_)
 ·exfalso; (try simp only [zB, reduceCtorEq] at hc19)
  exact hF
 ·exfalso; (try simp only [zB, reduceCtorEq] at hc19)
  exact hF
set_option maxHeartbeats 2000000 in
theorem tB (n : Int) (X : List TRC) (v : Nat) (xs : List TRC) (t : TRC) (hs : SRT xs) (hl : xs.length ≤ 9000) (hb : LB 100000 xs) (ht : t.1.length ≤ 100000 ∧ t.2.1.length ≤ 100000) (hn : gv xs t = false) : cF Tryd.prog [.vars 47 [.int .i64 n, .list (.pair (.list (.int .i64)) (.pair (.list (.int .i64)) .unit)) X], .vars 47 [.int .i64 0, .nils], .row (.pair (.list (.int .i64)) (.pair (.list (.int .i64)) .unit)) 60 v xs, .vars 60 [.list (.int .i64) t.1, .list (.int .i64) t.2.1]] 80 [.one (.row 2 v), .agg [.list (.int .i64) t.1, .list (.int .i64) t.2.1]] { av := .tup [.one (.row 2 (adv v xs t)), .one (.int .i64 0)], upd := [(2, .row (.pair (.list (.int .i64)) (.pair (.list (.int .i64)) .unit)) 60 (adv v xs t) (fR xs t))], fp := [0, 1, 2, 3] } := by
 refine cS _ _ Tryd.func80 rfl (by kernel_rfl) (Nat.le_of_ble_eq_true rfl) (by intro k hk; simp only [ad, aq, Nat.zero_add, D] at hk; simp only [List.mem_cons, List.not_mem_nil, or_false]; omega) (fun C hP hN hB => ?_)
 replace hB : C.bL.length = 4 := by rw [hB]; rfl
 replace hN : C.N = 56 := hN
 simp only [aH, D]
 refine V fun _ k1 => ?_
 refine a9 hP hN rfl ?_
 iterate 3 (refine Z rfl fun _ k0 => ?_; simp only [zO, zT, acs, reduceCtorEq, J, D, M, U, O, S]; (repeat refine an ?_); (try refine .inl ?_); apply k0; clear k0; simp only [zP, D])
 refine aa ?_
 apply k1; clear k1; refine kp [0, 1, 3, 4, 5] ?_
 refine V fun _ k2 => ?_
 refine ic 4 (.pair (.list (.int .i64)) (.pair (.list (.int .i64)) .unit)) rfl rfl ?_; simp only [aP, bb, shV, if_true, zS, if_false, eq_self, J, reduceCtorEq, Nat.one_ne_zero, Nat.zero_ne_one]
 refine aC (L1 := [_, _, _, _]) rfl (by rw [hB]; exact Nat.le_refl _) rfl rfl ?_
 refine a9 hP hN rfl ?_
 (refine Z rfl fun _ k0 => ?_; simp only [zO, zT, acs, reduceCtorEq, J, D, M, U, O, S]; (repeat refine an ?_); (try refine .inl ?_); apply k0; clear k0; simp only [zP, D])
 refine aa ?_
 apply k2; clear k2; refine kp [0, 1, 3, 4, 5, 6] ?_
 refine V fun _ k3 => ?_
 refine V fun _ k4 => ?_
 refine a9 hP hN rfl ?_
 iterate 3 (refine Z rfl fun _ k0 => ?_; simp only [zO, zT, acs, reduceCtorEq, J, D, M, U, O, S]; (repeat refine an ?_); (try refine .inl ?_); apply k0; clear k0; simp only [zP, D])
 refine aa ?_
 apply k4; clear k4; refine kp [0, 1, 3, 4, 5, 6, 11, 12, 13] ?_
 refine au ?_
 refine aU (fun n5 s5 => ∃ (k : Nat), (k ≤ xs.length) ∧ (∀ q : Nat, q < k → ¬ 0 ≤ dfO (xs.getD q aQ) t) ∧ n5 = xs.length - k ∧ s5 = { env := [(0, .one (.row 2 v)), (3, .one (.pat (.pair (.list (.int .i64)) (.pair (.list (.int .i64)) .unit)) (t.1, (t.2.1, ())) 0)), (4, .one .nils), (5, .one (.int .i64 0)), (6, .one (.bool (io xs t k))), (11, .one (.row 2 v)), (12, .one (.int .i64 (xs.length : Int))), (13, .one (.int .i64 (k : Int)))], L := [.vars 47 [.int .i64 n, .list (.pair (.list (.int .i64)) (.pair (.list (.int .i64)) .unit)) X], .vars 47 [.int .i64 0, .nils], .row (.pair (.list (.int .i64)) (.pair (.list (.int .i64)) .unit)) 60 v xs, .vars 60 [.list (.int .i64) t.1, .list (.int .i64) t.2.1]] }) ?_ ?_
 ·exact ⟨_, _, ak [0, 3, 4, 5, 6, 11, 12, 13], 0, Nat.zero_le _, fun q hq => by omega, rfl, rfl⟩
 rintro n5 s5 ⟨k, hk, hq, rfl, rfl⟩
 refine V fun _ k6 => ?_
 refine a9 hP hN rfl ?_
 (refine Z rfl fun _ k0 => ?_; simp only [zO, zT, acs, reduceCtorEq, J, D, M, U, O, S]; (repeat refine an ?_); (try refine .inl ?_); apply k0; clear k0; simp only [zP, D])
 refine aa ?_
 apply k6; clear k6; refine kp [0, 3, 4, 5, 6, 11, 12, 13, 14] ?_
 refine V fun _ k7 => ?_
 refine cd (fun hc8 => ?_) (fun hc8 => ?_)
 ·(try simp only [zB, reduceCtorEq] at hc8)
  refine ag ?_
  apply k7; clear k7; refine kp [0, 3, 4, 5, 6, 11, 12, 13, 14] ?_
  refine V fun _ k9 => ?_
  refine au ?_
  refine V fun _ k10 => ?_
  obtain ⟨x1, x2, hgx⟩ : ∃ x1 x2, ∀ d, xs.getD k d = (x1, (x2, ())) := ⟨_, _, cM (by omega)⟩
  have hbx := hb.get (k := k) (by omega) (hgx _)
  refine a9 hP hN rfl ?_
  iterate 4 (refine Z rfl fun _ k0 => ?_; simp only [zO, zT, acs, reduceCtorEq, J, D, M, U, O, S, gt, af, hgx]; (repeat refine an ?_); (try refine .inl ?_); apply k0; clear k0; simp only [zP, D])
  refine aa ?_
  apply k10; clear k10; refine kp [0, 3, 4, 5, 6, 8, 11, 12, 13, 14] ?_
  refine V fun _ k11 => ?_
  refine V fun _ k12 => ?_
  refine a9 hP hN rfl ?_
  iterate 2 (refine Z rfl fun _ k0 => ?_; simp only [zO, zT, acs, reduceCtorEq, J, D, M, U, O, S]; (repeat refine an ?_); (try refine .inl ?_); apply k0; clear k0; simp only [zP, D])
  refine Z rfl fun _ k0 => ?_
  refine ar (h := ae (ll (x1, (x2, ())) (t.1, (t.2.1, ())) hbx.1 ht.1 hbx.2 ht.2)) rfl rfl (by first | exact rfl | (simp only [ev, zP, J, D]; exact rfl)) (by simp only [zV, acs, reduceCtorEq, J, D, M, U, O, S]) ?_
  apply k0; clear k0; simp only [zP, D]
  (refine Z rfl fun _ k0 => ?_; simp only [zO, zT, acs, reduceCtorEq, J, D, M, U, O, S]; (repeat refine an ?_); (try refine .inl ?_); apply k0; clear k0; simp only [zP, D])
  refine aa ?_
  apply k12; clear k12; refine kp [0, 3, 4, 5, 6, 8, 11, 12, 13, 14, 20] ?_
  refine cd (fun hc13 => ?_) (fun hc13 => ?_)
  ·exfalso; (try simp only [zB, reduceCtorEq] at hc13)
   have h8 := hc13
   rw [tk (k := k) (by omega) (by rw [hgx]; exact h8)] at hn; cases hn
  (try simp only [zB, reduceCtorEq] at hc13)
  have hnd := hc13
  refine ag ?_
  apply k11; clear k11; refine kp [0, 3, 4, 5, 6, 8, 11, 12, 13, 14, 20] ?_
  refine a9 hP hN rfl ?_
  iterate 2 (refine Z rfl fun _ k0 => ?_; simp only [zO, zT, acs, reduceCtorEq, J, D, M, U, O, S]; (repeat refine an ?_); (try refine .inl ?_); apply k0; clear k0; simp only [zP, D])
  refine' aB (want := false) 5 rfl (m := 22) (by simp only [zP, J, D]; exact rfl) (by kernel_rfl) rfl rfl rfl rfl rfl (fun hg14 => ?a14) ?b14 ?c14
  case a14 =>
   have hq14 := hg14; (try simp only [zB, reduceCtorEq] at hg14); simp only [zE]
   iterate 4 (refine aL rfl fun _ k0 => ?_; simp only [zO, zT, acs, reduceCtorEq, J, D, M, U, O, S]; (repeat refine an ?_); (try refine .inl ?_); apply k0; clear k0; simp only [zP, D])
   refine aL rfl fun _ k0 => ?_
   refine ar (h := ae (pu x1 t.1 (by omega) (by omega))) rfl rfl (by first | exact rfl | (simp only [ev, zP, J, D]; exact rfl)) (by simp only [zV, acs, reduceCtorEq, J, D, M, U, O, S]) ?_
   apply k0; clear k0; simp only [zP, D]
   (refine Z rfl fun _ k0 => ?_; simp only [zO, zT, acs, reduceCtorEq, J, D, M, U, O, S]; (repeat refine an ?_); (try refine .inl ?_); apply k0; clear k0; simp only [zP, D])
   refine aa ?_
   refine ⟨by simp only [zP, J, D]; exact rfl, rfl, ?_, rfl⟩; (repeat refine aA rfl ?_); exact aN (by exact rfl) hq14
  case b14 => exact bc
  simp only [aK, aF]
  (refine Z rfl fun _ k0 => ?_; simp only [zO, zT, acs, reduceCtorEq, J, D, M, U, O, S]; (repeat refine an ?_); (try refine .inl ?_); apply k0; clear k0; simp only [zP, D])
  refine aa ?_
  apply k9; clear k9; refine kp [0, 3, 4, 5, 6, 8, 11, 12, 13, 14, 20] ?_
  refine kp [0, 3, 4, 5, 6, 11, 12, 13] ?_
  refine aC (L1 := [_, _, _, _]) rfl (by rw [hB]; exact Nat.le_refl _) rfl rfl ?_
  refine a9 hP hN rfl ?_
  iterate 2 (refine Z rfl fun _ k0 => ?_; simp only [zO, zT, acs, reduceCtorEq, J, D, M, U, O, S]; (repeat refine an ?_); (try refine .inl ?_); apply k0; clear k0; simp only [zP, D])
  refine aa ?_
  refine ⟨_, _, ?_, ak [0, 3, 4, 5, 6, 11, 12, 13], k + 1, by omega, fun q hq2 => ?_, rfl, ?_⟩
  · omega
  · by_cases e : q = k
    · rw [e, hgx]; have h8 : dfO (x1, (x2, ())) t < 0 := hnd; omega
    · exact hq q (by omega)
  · rw [jR (by omega), hgx]; rfl
 (try simp only [zB, reduceCtorEq] at hc8)
 refine aR ?_
 apply k3; clear k3; refine kp [0, 3, 4, 5, 6, 11, 12, 13, 14] ?_
 refine V fun _ k15 => ?_
 refine V fun _ k16 => ?_
 refine a9 hP hN rfl ?_
 iterate 2 (refine Z rfl fun _ k0 => ?_; simp only [zO, zT, acs, reduceCtorEq, J, D, M, U, O, S]; (repeat refine an ?_); (try refine .inl ?_); apply k0; clear k0; simp only [zP, D])
 refine' aB (want := false) 4 rfl (m := 31) (by simp only [zP, J, D]; exact rfl) (by kernel_rfl) rfl rfl rfl rfl rfl (fun hg17 => ?a17) ?b17 ?c17
 case a17 =>
  have hq17 := hg17; (try simp only [zB, reduceCtorEq] at hg17); simp only [zE]
  iterate 4 (refine aL rfl fun _ k0 => ?_; simp only [zO, zT, acs, reduceCtorEq, J, D, M, U, O, S]; (repeat refine an ?_); (try refine .inl ?_); apply k0; clear k0; simp only [zP, D])
  (refine Z rfl fun _ k0 => ?_; simp only [zO, zT, acs, reduceCtorEq, J, D, M, U, O, S]; (repeat refine an ?_); (try refine .inl ?_); apply k0; clear k0; simp only [zP, D])
  refine aa ?_
  refine ⟨by simp only [zP, J, D]; exact rfl, rfl, ?_, rfl⟩; (repeat refine aA rfl ?_); exact aN (by exact rfl) hq17
 case b17 => exact bc
 simp only [aK, aF]
 refine aa ?_
 apply k16; clear k16; refine kp [0, 3, 4, 5, 6, 11, 12, 13, 14, 36] ?_
 refine cd (fun hc18 => ?_) (fun hc18 => ?_)
 ·(try simp only [zB, reduceCtorEq] at hc18)
  have hin : fT xs t = true := by rw [l8]; rw [show k = xs.length by omega] at hc18; simpa using hc18
  obtain ⟨e1, e2⟩ := uD (v := v) hin
  refine V fun _ k19 => ?_
  refine a9 hP hN rfl ?_
  iterate 3 (refine Z rfl fun _ k0 => ?_; simp only [zO, zT, acs, reduceCtorEq, J, D, M, U, O, S]; (repeat refine an ?_); (try refine .inl ?_); apply k0; clear k0; simp only [zP, D])
  refine aa ?_
  apply k19; clear k19; refine kp [0, 3, 4, 5, 6, 11, 12, 13, 14, 36] ?_
  refine kp [4, 5] ?_
  first
  | (refine aC (L1 := [_, _, _, _]) rfl (by rw [hB]; exact Nat.le_refl _) rfl rfl ?_)
  | skip
  refine ah ?_
  refine ⟨by first | exact .inl rfl | exact .inr rfl, _, rfl, ?_⟩; simp only [zP, J, D]
  rw [e1, e2]
  first | exact ⟨rfl, rfl⟩ | rfl
 (try simp only [zB, reduceCtorEq] at hc18)
 have hin : fT xs t = false := by rw [l8]; rw [show k = xs.length by omega] at hc18; simpa using hc18
 obtain ⟨e1, e2⟩ := ud (v := v) hin
 refine ag ?_
 apply k15; clear k15; refine kp [0, 3, 4, 5, 6, 11, 12, 13, 14, 36] ?_
 refine V fun _ k20 => ?_
 refine a9 hP hN rfl ?_
 (refine Z rfl fun _ k0 => ?_; simp only [zO, zT, acs, reduceCtorEq, J, D, M, U, O, S]; (repeat refine an ?_); (try refine .inl ?_); apply k0; clear k0; simp only [zP, D])
 (refine Z rfl fun _ k0 => ?_; simp only [zE, op1, ev, lkp, ch, bg, dU, eR, jm, reduceCtorEq, J, D, M, U, O, S, Tryd.el27, Tryd.td126, Tryd.td27]; (repeat refine an ?_); (try refine .inl ?_); apply k0; clear k0; simp only [zP, D])
 refine Z rfl fun _ k0 => ?_
 refine ar (h := tJ n X v xs t (by omega) hb ht.1) rfl rfl (by first | exact rfl | (simp only [ev, zP, J, D]; exact rfl)) (by simp only [zV, acs, reduceCtorEq, J, D, M, U, O, S]) ?_
 apply k0; clear k0; simp only [zP, D]
 (refine Z rfl fun _ k0 => ?_; simp only [zO, zT, acs, reduceCtorEq, J, D, M, U, O, S]; (repeat refine an ?_); (try refine .inl ?_); apply k0; clear k0; simp only [zP, D])
 refine aa ?_
 apply k20; clear k20; refine kp [0, 3, 4, 5, 6, 11, 12, 13, 14, 36] ?_
 refine V fun _ k21 => ?_
 refine V fun _ k22 => ?_
 have hdl := mO xs t
 refine a9 hP hN rfl ?_
 iterate 3 (refine Z rfl fun _ k0 => ?_; simp only [zO, zT, acs, reduceCtorEq, J, D, M, U, O, S]; (repeat refine an ?_); (try refine .inl ?_); apply k0; clear k0; simp only [zP, D])
 refine aa ?_
 apply k22; clear k22; refine kp [0, 3, 4, 5, 6, 11, 12, 13, 14, 36, 43] ?_
 refine cd (fun hc23 => ?_) (fun hc23 => ?_)
 ·exfalso; (try simp only [zB, reduceCtorEq] at hc23)
  omega
 (try simp only [zB, reduceCtorEq] at hc23)
 refine ag ?_
 apply k21; clear k21; refine kp [0, 3, 4, 5, 6, 11, 12, 13, 14, 36, 43] ?_
 refine V fun _ k24 => ?_
 refine a9 hP hN rfl ?_
 iterate 2 (refine Z rfl fun _ k0 => ?_; simp only [zO, zT, acs, reduceCtorEq, J, D, M, U, O, S]; (repeat refine an ?_); (try refine .inl ?_); apply k0; clear k0; simp only [zP, D])
 refine Z rfl fun _ k0 => ?_
 refine ar (h := jS (args := [.one (.row 2 (dlv v xs t)), .agg [.list (.int .i64) t.1, .list (.int .i64) t.2.1], .one (.fn 95 [])]) (by simp [fzV, fz1, fzC, i5]) rfl (uG (dX xs t) (t.1, (t.2.1, ())) (sJ hs) (by omega)) rfl) rfl rfl (by first | exact rfl | (simp only [ev, zP, J, D]; exact rfl)) (by simp only [zV, acs, reduceCtorEq, J, D, M, U, O, S]) ?_
 apply k0; clear k0; simp only [zP, D]
 iterate 5 (refine Z rfl fun _ k0 => ?_; simp only [zO, zT, acs, reduceCtorEq, J, D, M, U, O, S]; (repeat refine an ?_); (try refine .inl ?_); apply k0; clear k0; simp only [zP, D])
 refine aa ?_
 apply k24; clear k24; refine kp [0, 3, 4, 5, 6, 9, 11, 12, 13, 14, 36, 43] ?_
 refine V fun _ k25 => ?_
 have hpl := qc (dX xs t) t
 refine a9 hP hN rfl ?_
 iterate 3 (refine Z rfl fun _ k0 => ?_; simp only [zO, zT, acs, reduceCtorEq, J, D, M, U, O, S]; (repeat refine an ?_); (try refine .inl ?_); apply k0; clear k0; simp only [zP, D])
 refine Z rfl fun _ k0 => ?_
 refine ar (h := ae (m3 (t.1, (t.2.1, ())) ht.1 ht.2)) rfl rfl (by first | exact rfl | (simp only [ev, zP, J, D]; exact rfl)) (by simp only [zV, acs, reduceCtorEq, J, D, M, U, O, S]) ?_
 apply k0; clear k0; simp only [zP, D]
 (refine Z rfl fun _ k0 => ?_; simp only [zO, zT, acs, reduceCtorEq, J, D, M, U, O, S]; (repeat refine an ?_); refine Or.inr (Or.inl (k0 _ ?_)); clear k0; simp only [zP, D])
 refine Z rfl fun _ k0 => ?_
 refine ar (h := uw (k := 2) (j := 4) (ver := dlv v xs t) (vj := 0) (xs := dX xs t) (x := (t.1, (t.2.1, ()))) (i := plc (dX xs t) t) rfl rfl (by decide) (by omega) (by omega)) rfl rfl (by first | exact rfl | (simp only [ev, zP, J, D]; exact rfl)) (by simp only [zV, acs, reduceCtorEq, J, D, M, U, O, S]) ?_
 apply k0; clear k0; simp only [zP, D]
 iterate 2 (refine Z rfl fun _ k0 => ?_; simp only [zO, zT, acs, reduceCtorEq, J, D, M, U, O, S]; (repeat refine an ?_); (try refine .inl ?_); apply k0; clear k0; simp only [zP, D])
 refine aa ?_
 apply k25; clear k25; refine kp [0, 3, 4, 5, 6, 9, 11, 12, 13, 14, 36, 43] ?_
 refine kp [4, 5] ?_
 first
 | (refine aC (L1 := [_, _, _, _]) rfl (by rw [hB]; exact Nat.le_refl _) rfl rfl ?_)
 | skip
 refine ah ?_
 refine ⟨by first | exact .inl rfl | exact .inr rfl, _, rfl, ?_⟩; simp only [zP, J, D]
 rw [e1, e2]
 first | exact ⟨rfl, rfl⟩ | rfl
theorem uI (a n : Int) : aV Tryd.prog 76 [.one (.int .i64 a), .one (.pat (.int .i64) n 0)] (.one (.bool (decide (a < 0) || decide (n ≤ a)))) := by
 refine aw Tryd.func76 rfl (by kernel_rfl) (Nat.le_of_ble_eq_true rfl) rfl fun C hP hN hB => ?_
 replace hN : C.N = 11 := hN
 simp only [aH, D]
 refine V fun _ k1 => ?_
 refine a9 hP hN rfl ?_
 (refine Z rfl fun _ k0 => ?_; simp only [zO, zT, acs, reduceCtorEq, J, D, M, U, O, S]; (repeat refine an ?_); (try refine .inl ?_); apply k0; clear k0; simp only [zP, D])
 refine aa ?_
 apply k1; clear k1; refine kp [0, 1, 3] ?_
 refine V fun _ k2 => ?_
 refine a9 hP hN rfl ?_
 iterate 3 (refine Z rfl fun _ k0 => ?_; simp only [zO, zT, acs, reduceCtorEq, J, D, M, U, O, S]; (repeat refine an ?_); (try refine .inl ?_); apply k0; clear k0; simp only [zP, D])
 refine' aB (want := false) 3 rfl (m := 6) (by simp only [zP, J, D]; exact rfl) (by kernel_rfl) rfl rfl rfl rfl rfl (fun hg3 => ?a3) ?b3 ?c3
 case a3 =>
  have hq3 := hg3; (try simp only [zB, reduceCtorEq] at hg3); simp only [zE]
  iterate 3 (refine aL rfl fun _ k0 => ?_; simp only [zO, zT, acs, reduceCtorEq, J, D, M, U, O, S]; (repeat refine an ?_); (try refine .inl ?_); apply k0; clear k0; simp only [zP, D])
  (refine Z rfl fun _ k0 => ?_; simp only [zO, zT, acs, reduceCtorEq, J, D, M, U, O, S]; (repeat refine an ?_); (try refine .inl ?_); apply k0; clear k0; simp only [zP, D])
  refine aa ?_
  refine ⟨by simp only [zP, J, D]; exact rfl, rfl, ?_, rfl⟩; (repeat refine aA rfl ?_); exact aN (by exact rfl) hq3
 case b3 => exact bc
 simp only [aK, aF]
 (refine Z rfl fun _ k0 => ?_; simp only [zO, zT, acs, reduceCtorEq, J, D, M, U, O, S]; (repeat refine an ?_); (try refine .inl ?_); apply k0; clear k0; simp only [zP, D])
 refine aa ?_
 apply k2; clear k2; refine kp [0, 1, 3] ?_
 refine ah ?_
 refine ⟨nr, _, rfl, ?_⟩; simp only [zF, zP, J, D]
 refine VLE.of_eq ?_
 rfl
theorem uB (w : List Int) (n : Int) (hw : w.length ≤ 1024) : aV Tryd.prog 87 [.one (.list (.int .i64) w), .one (.fn 76 [.pat (.int .i64) n])] (.one (.int .i64 (gf w n))) := by
 refine aw Tryd.func87 rfl (by kernel_rfl) (Nat.le_of_ble_eq_true rfl) rfl fun C hP hN hB => ?_
 replace hN : C.N = 19 := hN
 simp only [aH, D]
 refine V fun _ k1 => ?_
 refine a9 hP hN rfl ?_
 (refine Z rfl fun _ k0 => ?_; simp only [zO, zT, acs, reduceCtorEq, J, D, M, U, O, S]; (repeat refine an ?_); (try refine .inl ?_); apply k0; clear k0; simp only [zP, D])
 refine aa ?_
 apply k1; clear k1; refine kp [0, 1, 4] ?_
 refine V fun _ k2 => ?_
 refine V fun _ k3 => ?_
 refine a9 hP hN rfl ?_
 iterate 3 (refine Z rfl fun _ k0 => ?_; simp only [zO, zT, acs, reduceCtorEq, J, D, M, U, O, S]; (repeat refine an ?_); (try refine .inl ?_); apply k0; clear k0; simp only [zP, D])
 refine aa ?_
 apply k3; clear k3; refine kp [0, 1, 4, 7, 8] ?_
 refine au ?_
 refine aU (fun n4 s4 => ∃ (k : Nat), (k ≤ w.length) ∧ (∀ i, i < k → ¬ bK n (w.getD i 0)) ∧ n4 = w.length - k ∧ s4 = { env := [(0, .one (.list (.int .i64) w)), (1, .one (.fn 76 [.pat (.int .i64) n])), (7, .one (.int .i64 (w.length : Int))), (8, .one (.int .i64 (k : Int)))], L := [] }) ?_ ?_
 ·exact ⟨_, _, ak [0, 1, 7, 8], 0, Nat.zero_le _, fun i hi => by omega, rfl, rfl⟩
 rintro n4 s4 ⟨k, hk, hI, rfl, rfl⟩
 refine V fun _ k5 => ?_
 refine a9 hP hN rfl ?_
 (refine Z rfl fun _ k0 => ?_; simp only [zO, zT, acs, reduceCtorEq, J, D, M, U, O, S]; (repeat refine an ?_); (try refine .inl ?_); apply k0; clear k0; simp only [zP, D])
 refine aa ?_
 apply k5; clear k5; refine kp [0, 1, 7, 8, 9] ?_
 refine V fun _ k6 => ?_
 refine cd (fun hc7 => ?_) (fun hc7 => ?_)
 ·(try simp only [zB, reduceCtorEq] at hc7)
  refine ag ?_
  apply k6; clear k6; refine kp [0, 1, 7, 8, 9] ?_
  refine V fun _ k8 => ?_
  refine au ?_
  refine V fun _ k9 => ?_
  refine a9 hP hN rfl ?_
  iterate 2 (refine Z rfl fun _ k0 => ?_; simp only [zO, zT, acs, reduceCtorEq, J, D, M, U, O, S]; (repeat refine an ?_); (try refine .inl ?_); apply k0; clear k0; simp only [zP, D])
  refine aa ?_
  apply k9; clear k9; refine kp [0, 1, 5, 7, 8, 9] ?_
  refine V fun _ k10 => ?_
  refine a9 hP hN rfl ?_
  iterate 5 (refine Z rfl fun _ k0 => ?_; simp only [zO, zT, acs, reduceCtorEq, J, D, M, U, O, S]; (repeat refine an ?_); (try refine .inl ?_); apply k0; clear k0; simp only [zP, D])
  refine Z rfl fun _ k0 => ?_
  refine ar (h := ae (uI (w.getD k 0) n)) rfl rfl (by first | exact rfl | (simp only [ev, zP, J, D]; exact rfl)) (by simp only [zV, acs, reduceCtorEq, J, D, M, U, O, S]) ?_
  apply k0; clear k0; simp only [zP, D]
  refine aa ?_
  apply k10; clear k10; refine kp [0, 1, 5, 7, 8, 9, 16] ?_
  refine cd (fun hc11 => ?_) (fun hc11 => ?_)
  ·(try simp only [zB, reduceCtorEq] at hc11)
   refine V fun _ k12 => ?_
   refine a9 hP hN rfl ?_
   iterate 2 (refine Z rfl fun _ k0 => ?_; simp only [zO, zT, acs, reduceCtorEq, J, D, M, U, O, S]; (repeat refine an ?_); (try refine .inl ?_); apply k0; clear k0; simp only [zP, D])
   refine aa ?_
   apply k12; clear k12; refine kp [0, 1, 4, 5, 7, 8, 9, 16] ?_
   refine ah ?_
   refine ⟨nr, _, rfl, ?_⟩; simp only [zF, zP, J, D]
   refine VLE.of_eq ?_
   refine congrArg (fun n => AV.one (AC.int IntKind.i64 n)) ?_
   symm
   first
   | exact oy (by omega) hI (by unfold bK; omega)
   | exact ia fun i hi => hI i (by omega)
  (try simp only [zB, reduceCtorEq] at hc11)
  refine ag ?_
  apply k8; clear k8; refine kp [0, 1, 5, 7, 8, 9, 16] ?_
  refine a9 hP hN rfl ?_
  iterate 2 (refine Z rfl fun _ k0 => ?_; simp only [zO, zT, acs, reduceCtorEq, J, D, M, U, O, S]; (repeat refine an ?_); (try refine .inl ?_); apply k0; clear k0; simp only [zP, D])
  refine aa ?_
  refine ⟨_, _, ?_, ak [0, 1, 7, 8], k + 1, by omega, fun i hi => ?_, rfl, rfl⟩
  · omega
  · by_cases e : i = k
    · rw [e]; unfold bK; omega
    · exact hI i (by omega)
 (try simp only [zB, reduceCtorEq] at hc7)
 refine aR ?_
 apply k2; clear k2; refine kp [0, 1, 7, 8, 9] ?_
 refine V fun _ k13 => ?_
 refine a9 hP hN rfl ?_
 (refine Z rfl fun _ k0 => ?_; simp only [zO, zT, acs, reduceCtorEq, J, D, M, U, O, S]; (repeat refine an ?_); (try refine .inl ?_); apply k0; clear k0; simp only [zP, D])
 refine aa ?_
 apply k13; clear k13; refine kp [0, 1, 4, 7, 8, 9] ?_
 refine ah ?_
 refine ⟨nr, _, rfl, ?_⟩; simp only [zF, zP, J, D]
 refine VLE.of_eq ?_
 refine congrArg (fun n => AV.one (AC.int IntKind.i64 n)) ?_
 symm
 first
 | exact oy (by omega) hI (by unfold bK; omega)
 | exact ia fun i hi => hI i (by omega)
theorem tX (w : List Int) (n : Int) (hw : w.length ≤ 1024) : aV Tryd.prog 75 [.one (.list (.int .i64) w), .one (.fn 76 [.pat (.int .i64) n])] (.one (.bool (decide (0 ≤ gf w n)))) := by
 refine aw Tryd.func75 rfl (by kernel_rfl) (Nat.le_of_ble_eq_true rfl) rfl fun C hP hN hB => ?_
 replace hN : C.N = 9 := hN
 simp only [aH, D]
 refine V fun _ k1 => ?_
 refine a9 hP hN rfl ?_
 (refine Z rfl fun _ k0 => ?_; simp only [zO, zT, acs, reduceCtorEq, J, D, M, U, O, S]; (repeat refine an ?_); (try refine .inl ?_); apply k0; clear k0; simp only [zP, D])
 refine aa ?_
 apply k1; clear k1; refine kp [0, 1, 4] ?_
 refine V fun _ k2 => ?_
 refine a9 hP hN rfl ?_
 iterate 2 (refine Z rfl fun _ k0 => ?_; simp only [zO, zT, acs, reduceCtorEq, J, D, M, U, O, S]; (repeat refine an ?_); (try refine .inl ?_); apply k0; clear k0; simp only [zP, D])
 refine Z rfl fun _ k0 => ?_
 refine ar (h := ae (uB w n hw)) rfl rfl (by first | exact rfl | (simp only [ev, zP, J, D]; exact rfl)) (by simp only [zV, acs, reduceCtorEq, J, D, M, U, O, S]) ?_
 apply k0; clear k0; simp only [zP, D]
 iterate 2 (refine Z rfl fun _ k0 => ?_; simp only [zO, zT, acs, reduceCtorEq, J, D, M, U, O, S]; (repeat refine an ?_); (try refine .inl ?_); apply k0; clear k0; simp only [zP, D])
 refine aa ?_
 apply k2; clear k2; refine kp [0, 1, 4] ?_
 refine ah ?_
 refine ⟨nr, _, rfl, ?_⟩; simp only [zF, zP, J, D]
 refine VLE.of_eq ?_
 rfl
theorem tZ (n : Int) : aV Tryd.prog 74 [.one (.int .i64 n)] (.one (.bool (decide (1 ≤ n) && decide (n ≤ 1024)))) := by
 refine aw Tryd.func74 rfl (by kernel_rfl) (Nat.le_of_ble_eq_true rfl) rfl fun C hP hN hB => ?_
 replace hN : C.N = 9 := hN
 simp only [aH, D]
 refine V fun _ k1 => ?_
 refine a9 hP hN rfl ?_
 (refine Z rfl fun _ k0 => ?_; simp only [zO, zT, acs, reduceCtorEq, J, D, M, U, O, S]; (repeat refine an ?_); (try refine .inl ?_); apply k0; clear k0; simp only [zP, D])
 refine aa ?_
 apply k1; clear k1; refine kp [0, 2] ?_
 refine V fun _ k2 => ?_
 refine a9 hP hN rfl ?_
 iterate 3 (refine Z rfl fun _ k0 => ?_; simp only [zO, zT, acs, reduceCtorEq, J, D, M, U, O, S]; (repeat refine an ?_); (try refine .inl ?_); apply k0; clear k0; simp only [zP, D])
 refine' aB (want := true) 2 rfl (m := 5) (by simp only [zP, J, D]; exact rfl) (by kernel_rfl) rfl rfl rfl rfl rfl (fun hg3 => ?a3) ?b3 ?c3
 case a3 =>
  have hq3 := hg3; (try simp only [zB, reduceCtorEq] at hg3); simp only [zE]
  iterate 2 (refine aL rfl fun _ k0 => ?_; simp only [zO, zT, acs, reduceCtorEq, J, D, M, U, O, S]; (repeat refine an ?_); (try refine .inl ?_); apply k0; clear k0; simp only [zP, D])
  (refine Z rfl fun _ k0 => ?_; simp only [zO, zT, acs, reduceCtorEq, J, D, M, U, O, S]; (repeat refine an ?_); (try refine .inl ?_); apply k0; clear k0; simp only [zP, D])
  refine aa ?_
  refine ⟨by simp only [zP, J, D]; exact rfl, rfl, ?_, rfl⟩; (repeat refine aA rfl ?_); exact aN (by exact rfl) hq3
 case b3 => exact bc
 simp only [aK, aF]
 (refine Z rfl fun _ k0 => ?_; simp only [zO, zT, acs, reduceCtorEq, J, D, M, U, O, S]; (repeat refine an ?_); (try refine .inl ?_); apply k0; clear k0; simp only [zP, D])
 refine aa ?_
 apply k2; clear k2; refine kp [0, 2] ?_
 refine ah ?_
 refine ⟨nr, _, rfl, ?_⟩; simp only [zF, zP, J, D]
 refine VLE.of_eq ?_
 rfl
theorem nW (w : List Int) (n : Int) : aV Tryd.prog 57 [.one (.list (.int .i64) w), .one (.int .i64 n)] (.one (.int .i64 (bv w n))) := by
 refine aw Tryd.func57 rfl (by kernel_rfl) (Nat.le_of_ble_eq_true rfl) rfl fun C hP hN hB => ?_
 replace hN : C.N = 17 := hN
 simp only [aH, D]
 refine V fun _ k1 => ?_
 refine a9 hP hN rfl ?_
 iterate 2 (refine Z rfl fun _ k0 => ?_; simp only [zO, zT, acs, reduceCtorEq, J, D, M, U, O, S]; (repeat refine an ?_); (try refine .inl ?_); apply k0; clear k0; simp only [zP, D])
 refine aa ?_
 apply k1; clear k1; refine kp [0, 1, 3, 4] ?_
 refine V fun _ k2 => ?_
 refine au ?_
 refine V fun _ k3 => ?_
 refine a9 hP hN rfl ?_
 (refine Z rfl fun _ k0 => ?_; simp only [zO, zT, acs, reduceCtorEq, J, D, M, U, O, S]; (repeat refine an ?_); (try refine .inl ?_); apply k0; clear k0; simp only [zP, D])
 refine Z rfl fun _ k0 => ?_
 refine ar (h := ae (tZ n)) rfl rfl (by first | exact rfl | (simp only [ev, zP, J, D]; exact rfl)) (by simp only [zV, acs, reduceCtorEq, J, D, M, U, O, S]) ?_
 apply k0; clear k0; simp only [zP, D]
 iterate 2 (refine Z rfl fun _ k0 => ?_; simp only [zO, zT, acs, reduceCtorEq, J, D, M, U, O, S]; (repeat refine an ?_); (try refine .inl ?_); apply k0; clear k0; simp only [zP, D])
 refine aa ?_
 apply k3; clear k3; refine kp [0, 1, 3, 4, 5] ?_
 refine cd (fun hc4 => ?_) (fun hc4 => ?_)
 ·(try simp only [zB, reduceCtorEq] at hc4)
  refine V fun _ k5 => ?_
  refine a9 hP hN rfl ?_
  (refine Z rfl fun _ k0 => ?_; simp only [zO, zT, acs, reduceCtorEq, J, D, M, U, O, S]; (repeat refine an ?_); (try refine .inl ?_); apply k0; clear k0; simp only [zP, D])
  refine aa ?_
  apply k5; clear k5; refine kp [0, 1, 3, 4, 5] ?_
  refine ah ?_
  refine ⟨nr, _, rfl, ?_⟩; simp only [zF, zP, J, D]
  refine VLE.of_eq ?_
  refine congrArg (fun n => AV.one (AC.int IntKind.i64 n)) ?_
  symm
  first
  | (unfold bv; rw [if_pos (by omega)]; done)
  | (unfold bv; rw [if_neg (by omega), if_pos (by omega)]; done)
  | exact fI (by omega) (by omega) (by omega) (by omega)
  | exact ep (by omega) (by omega) (by omega) (by omega)
 (try simp only [zB, reduceCtorEq] at hc4)
 refine V fun _ k6 => ?_
 refine a9 hP hN rfl ?_
 iterate 4 (refine Z rfl fun _ k0 => ?_; simp only [zO, zT, acs, reduceCtorEq, J, D, M, U, O, S]; (repeat refine an ?_); (try refine .inl ?_); apply k0; clear k0; simp only [zP, D])
 refine aa ?_
 apply k6; clear k6; refine kp [0, 1, 3, 4, 5, 9] ?_
 refine cd (fun hc7 => ?_) (fun hc7 => ?_)
 ·(try simp only [zB, reduceCtorEq] at hc7)
  refine V fun _ k8 => ?_
  refine a9 hP hN rfl ?_
  (refine Z rfl fun _ k0 => ?_; simp only [zO, zT, acs, reduceCtorEq, J, D, M, U, O, S]; (repeat refine an ?_); (try refine .inl ?_); apply k0; clear k0; simp only [zP, D])
  refine aa ?_
  apply k8; clear k8; refine kp [0, 1, 3, 4, 5, 9] ?_
  refine ah ?_
  refine ⟨nr, _, rfl, ?_⟩; simp only [zF, zP, J, D]
  refine VLE.of_eq ?_
  refine congrArg (fun n => AV.one (AC.int IntKind.i64 n)) ?_
  symm
  first
  | (unfold bv; rw [if_pos (by omega)]; done)
  | (unfold bv; rw [if_neg (by omega), if_pos (by omega)]; done)
  | exact fI (by omega) (by omega) (by omega) (by omega)
  | exact ep (by omega) (by omega) (by omega) (by omega)
 (try simp only [zB, reduceCtorEq] at hc7)
 refine V fun _ k9 => ?_
 refine ic 0 (.int .i64) rfl rfl ?_; simp only [aP, bb, shV, if_true, bC]
 refine a9 hP hN rfl ?_
 (refine Z rfl fun _ k0 => ?_; simp only [zO, zT, acs, reduceCtorEq, J, D, M, U, O, S]; (repeat refine an ?_); (try refine .inl ?_); apply k0; clear k0; simp only [zP, D])
 (refine Z rfl fun _ k0 => ?_; simp only [zE, op1, ev, lkp, ch, bg, dU, eR, jm, reduceCtorEq, J, D, M, U, O, S, Tryd.el43, Tryd.td103, Tryd.td43]; (repeat refine an ?_); (try refine .inl ?_); apply k0; clear k0; simp only [zP, D])
 refine Z rfl fun _ k0 => ?_
 refine ar (h := ae (tX w n (by omega))) rfl rfl (by first | exact rfl | (simp only [ev, zP, J, D]; exact rfl)) (by simp only [zV, acs, reduceCtorEq, J, D, M, U, O, S]) ?_
 apply k0; clear k0; simp only [zP, D]
 (refine Z rfl fun _ k0 => ?_; simp only [zO, zT, acs, reduceCtorEq, J, D, M, U, O, S]; (repeat refine an ?_); (try refine .inl ?_); apply k0; clear k0; simp only [zP, D])
 refine aa ?_
 apply k9; clear k9; refine kp [0, 1, 3, 4, 5, 9, 13] ?_
 refine cd (fun hc10 => ?_) (fun hc10 => ?_)
 ·(try simp only [zB, reduceCtorEq] at hc10)
  refine V fun _ k11 => ?_
  refine a9 hP hN rfl ?_
  (refine Z rfl fun _ k0 => ?_; simp only [zO, zT, acs, reduceCtorEq, J, D, M, U, O, S]; (repeat refine an ?_); (try refine .inl ?_); apply k0; clear k0; simp only [zP, D])
  refine aa ?_
  apply k11; clear k11; refine kp [0, 1, 3, 4, 5, 9, 13] ?_
  refine ah ?_
  refine ⟨nr, _, rfl, ?_⟩; simp only [zF, zP, J, D]
  refine VLE.of_eq ?_
  refine congrArg (fun n => AV.one (AC.int IntKind.i64 n)) ?_
  symm
  first
  | (unfold bv; rw [if_pos (by omega)]; done)
  | (unfold bv; rw [if_neg (by omega), if_pos (by omega)]; done)
  | exact fI (by omega) (by omega) (by omega) (by omega)
  | exact ep (by omega) (by omega) (by omega) (by omega)
 (try simp only [zB, reduceCtorEq] at hc10)
 refine ag ?_
 apply k2; clear k2; refine kp [0, 1, 3, 4, 5, 9, 13] ?_
 refine V fun _ k12 => ?_
 refine a9 hP hN rfl ?_
 (refine Z rfl fun _ k0 => ?_; simp only [zO, zT, acs, reduceCtorEq, J, D, M, U, O, S]; (repeat refine an ?_); (try refine .inl ?_); apply k0; clear k0; simp only [zP, D])
 refine aa ?_
 apply k12; clear k12; refine kp [0, 1, 3, 4, 5, 9, 13] ?_
 refine ah ?_
 refine ⟨nr, _, rfl, ?_⟩; simp only [zF, zP, J, D]
 refine VLE.of_eq ?_
 refine congrArg (fun n => AV.one (AC.int IntKind.i64 n)) ?_
 symm
 first
 | (unfold bv; rw [if_pos (by omega)]; done)
 | (unfold bv; rw [if_neg (by omega), if_pos (by omega)]; done)
 | exact fI (by omega) (by omega) (by omega) (by omega)
 | exact ep (by omega) (by omega) (by omega) (by omega)
theorem tS (xs : List Int) (f : Nat) (caps : List Cap) (p : Int → Bool) (hcap : caps.all i5 = true) (hf : ∀ k, k < xs.length → aV Tryd.prog f (.one (.int .i64 (xs.getD k 0)) :: caps.map bY) (.one (.bool (p (xs.getD k 0))))) : aV Tryd.prog 87 [.one (.list (.int .i64) xs), .one (.fn f caps)] (.one (.int .i64 (gx p xs))) := by
 refine aw Tryd.func87 rfl (by kernel_rfl) (Nat.le_of_ble_eq_true rfl) (by simp only [List.all_cons, List.all_nil, fw, gn, gC, hcap, Bool.and_true]) fun C hP hN hB => ?_
 replace hN : C.N = 19 := hN
 simp only [aH, D]
 refine cQ 0 rfl fun hf0 => ?_; simp only [lkp, if_true, if_false, reduceCtorEq, J, eq_self, Nat.one_ne_zero, Nat.zero_ne_one, eP, eN, eB, Fit, and_true, implies_true, true_and] at hf0
 refine V fun _ k1 => ?_
 refine a9 hP hN rfl ?_
 (refine Z rfl fun _ k0 => ?_; simp only [zO, zT, acs, reduceCtorEq, J, D, M, U, O, S]; (repeat refine an ?_); (try refine .inl ?_); apply k0; clear k0; simp only [zP, D])
 refine aa ?_
 apply k1; clear k1; refine kp [0, 1, 4] ?_
 refine V fun _ k2 => ?_
 refine V fun _ k3 => ?_
 refine a9 hP hN rfl ?_
 iterate 3 (refine Z rfl fun _ k0 => ?_; simp only [zO, zT, acs, reduceCtorEq, J, D, M, U, O, S]; (repeat refine an ?_); (try refine .inl ?_); apply k0; clear k0; simp only [zP, D])
 refine aa ?_
 apply k3; clear k3; refine kp [0, 1, 4, 7, 8] ?_
 refine au ?_
 refine aU (fun n4 s4 => ∃ (k : Nat), (k ≤ xs.length) ∧ (∀ q, q < k → p (xs.getD q 0) = false) ∧ n4 = xs.length - k ∧ s4 = { env := [(0, .one (.list (.int .i64) xs)), (1, .one (.fn f caps)), (7, .one (.int .i64 (xs.length : Int))), (8, .one (.int .i64 (k : Int)))], L := [] }) ?_ ?_
 ·exact ⟨_, _, ak [0, 1, 7, 8], 0, Nat.zero_le _, fun i hi => by omega, rfl, rfl⟩
 rintro n4 s4 ⟨k, hk, hq, rfl, rfl⟩
 refine V fun _ k5 => ?_
 refine a9 hP hN rfl ?_
 (refine Z rfl fun _ k0 => ?_; simp only [zO, zT, acs, reduceCtorEq, J, D, M, U, O, S]; (repeat refine an ?_); (try refine .inl ?_); apply k0; clear k0; simp only [zP, D])
 refine aa ?_
 apply k5; clear k5; refine kp [0, 1, 7, 8, 9] ?_
 refine V fun _ k6 => ?_
 refine cd (fun hc7 => ?_) (fun hc7 => ?_)
 ·(try simp only [zB, reduceCtorEq] at hc7)
  refine ag ?_
  apply k6; clear k6; refine kp [0, 1, 7, 8, 9] ?_
  refine V fun _ k8 => ?_
  refine au ?_
  refine V fun _ k9 => ?_
  refine a9 hP hN rfl ?_
  iterate 2 (refine Z rfl fun _ k0 => ?_; simp only [zO, zT, acs, reduceCtorEq, J, D, M, U, O, S]; (repeat refine an ?_); (try refine .inl ?_); apply k0; clear k0; simp only [zP, D])
  refine aa ?_
  apply k9; clear k9; refine kp [0, 1, 5, 7, 8, 9] ?_
  refine V fun _ k10 => ?_
  refine a9 hP hN rfl ?_
  iterate 5 (refine Z rfl fun _ k0 => ?_; simp only [zO, zT, acs, reduceCtorEq, J, D, M, U, O, S]; (repeat refine an ?_); (try refine .inl ?_); apply k0; clear k0; simp only [zP, D])
  refine Z rfl fun _ k0 => ?_
  refine ar (h := ae (hf k (by omega))) rfl rfl (by first | exact rfl | (simp only [ev, zP, J, D]; exact rfl)) (by simp only [zV, acs, reduceCtorEq, J, D, M, U, O, S]) ?_
  apply k0; clear k0; simp only [zP, D]
  refine aa ?_
  apply k10; clear k10; refine kp [0, 1, 5, 7, 8, 9, 16] ?_
  refine cd (fun hc11 => ?_) (fun hc11 => ?_)
  ·(try simp only [zB, reduceCtorEq] at hc11)
   refine V fun _ k12 => ?_
   refine a9 hP hN rfl ?_
   iterate 2 (refine Z rfl fun _ k0 => ?_; simp only [zO, zT, acs, reduceCtorEq, J, D, M, U, O, S]; (repeat refine an ?_); (try refine .inl ?_); apply k0; clear k0; simp only [zP, D])
   refine aa ?_
   apply k12; clear k12; refine kp [0, 1, 4, 5, 7, 8, 9, 16] ?_
   refine ah ?_
   refine ⟨nr, _, rfl, ?_⟩; simp only [zF, zP, J, D]
   refine VLE.of_eq ?_
   refine congrArg (fun n => AV.one (AC.int IntKind.i64 n)) ?_
   symm
   first
   | exact nU (by omega) hq (by assumption)
   | exact la fun q hq2 => hq q (by omega)
  (try simp only [zB, reduceCtorEq] at hc11)
  refine ag ?_
  apply k8; clear k8; refine kp [0, 1, 5, 7, 8, 9, 16] ?_
  refine a9 hP hN rfl ?_
  iterate 2 (refine Z rfl fun _ k0 => ?_; simp only [zO, zT, acs, reduceCtorEq, J, D, M, U, O, S]; (repeat refine an ?_); (try refine .inl ?_); apply k0; clear k0; simp only [zP, D])
  refine aa ?_
  refine ⟨_, _, ?_, ak [0, 1, 7, 8], k + 1, by omega, fun q hq2 => ?_, rfl, rfl⟩
  · omega
  · by_cases e : q = k
    · rw [e]; assumption
    · exact hq q (by omega)
 (try simp only [zB, reduceCtorEq] at hc7)
 refine aR ?_
 apply k2; clear k2; refine kp [0, 1, 7, 8, 9] ?_
 refine V fun _ k13 => ?_
 refine a9 hP hN rfl ?_
 (refine Z rfl fun _ k0 => ?_; simp only [zO, zT, acs, reduceCtorEq, J, D, M, U, O, S]; (repeat refine an ?_); (try refine .inl ?_); apply k0; clear k0; simp only [zP, D])
 refine aa ?_
 apply k13; clear k13; refine kp [0, 1, 4, 7, 8, 9] ?_
 refine ah ?_
 refine ⟨nr, _, rfl, ?_⟩; simp only [zF, zP, J, D]
 refine VLE.of_eq ?_
 refine congrArg (fun n => AV.one (AC.int IntKind.i64 n)) ?_
 symm
 first
 | exact nU (by omega) hq (by assumption)
 | exact la fun q hq2 => hq q (by omega)
theorem sP (xs : List Int) (f : Nat) (caps : List Cap) (p : Int → Bool) (hcap : caps.all i5 = true) (hf : ∀ k, k < xs.length → aV Tryd.prog f (.one (.int .i64 (xs.getD k 0)) :: caps.map bY) (.one (.bool (p (xs.getD k 0))))) : aV Tryd.prog 75 [.one (.list (.int .i64) xs), .one (.fn f caps)] (.one (.bool (decide (0 ≤ gx p xs)))) := by
 refine aw Tryd.func75 rfl (by kernel_rfl) (Nat.le_of_ble_eq_true rfl) (by simp only [List.all_cons, List.all_nil, fw, gn, gC, hcap, Bool.and_true]) fun C hP hN hB => ?_
 replace hN : C.N = 9 := hN
 simp only [aH, D]
 refine V fun _ k1 => ?_
 refine a9 hP hN rfl ?_
 (refine Z rfl fun _ k0 => ?_; simp only [zO, zT, acs, reduceCtorEq, J, D, M, U, O, S]; (repeat refine an ?_); (try refine .inl ?_); apply k0; clear k0; simp only [zP, D])
 refine aa ?_
 apply k1; clear k1; refine kp [0, 1, 4] ?_
 refine V fun _ k2 => ?_
 refine a9 hP hN rfl ?_
 iterate 2 (refine Z rfl fun _ k0 => ?_; simp only [zO, zT, acs, reduceCtorEq, J, D, M, U, O, S]; (repeat refine an ?_); (try refine .inl ?_); apply k0; clear k0; simp only [zP, D])
 refine Z rfl fun _ k0 => ?_
 refine ar (h := ae (tS xs f caps p hcap hf)) rfl rfl (by first | exact rfl | (simp only [ev, zP, J, D]; exact rfl)) (by simp only [zV, acs, reduceCtorEq, J, D, M, U, O, S]) ?_
 apply k0; clear k0; simp only [zP, D]
 iterate 2 (refine Z rfl fun _ k0 => ?_; simp only [zO, zT, acs, reduceCtorEq, J, D, M, U, O, S]; (repeat refine an ?_); (try refine .inl ?_); apply k0; clear k0; simp only [zP, D])
 refine aa ?_
 apply k2; clear k2; refine kp [0, 1, 4] ?_
 refine ah ?_
 refine ⟨nr, _, rfl, ?_⟩; simp only [zF, zP, J, D]
 refine VLE.of_eq ?_
 rfl
theorem qY (o : Int) : aV Tryd.prog 89 [.one (.int .i64 o)] (.one (.bool (pO o))) := by
 refine aw Tryd.func89 rfl (by kernel_rfl) (Nat.le_of_ble_eq_true rfl) rfl fun C hP hN hB => ?_
 replace hN : C.N = 9 := hN
 simp only [aH, D]
 refine V fun _ k1 => ?_
 refine a9 hP hN rfl ?_
 (refine Z rfl fun _ k0 => ?_; simp only [zO, zT, acs, reduceCtorEq, J, D, M, U, O, S]; (repeat refine an ?_); (try refine .inl ?_); apply k0; clear k0; simp only [zP, D])
 refine aa ?_
 apply k1; clear k1; refine kp [0, 2] ?_
 refine V fun _ k2 => ?_
 refine a9 hP hN rfl ?_
 iterate 3 (refine Z rfl fun _ k0 => ?_; simp only [zO, zT, acs, reduceCtorEq, J, D, M, U, O, S]; (repeat refine an ?_); (try refine .inl ?_); apply k0; clear k0; simp only [zP, D])
 refine' aB (want := false) 2 rfl (m := 5) (by simp only [zP, J, D]; exact rfl) (by kernel_rfl) rfl rfl rfl rfl rfl (fun hg3 => ?a3) ?b3 ?c3
 case a3 =>
  have hq3 := hg3; (try simp only [zB, reduceCtorEq] at hg3); simp only [zE]
  iterate 2 (refine aL rfl fun _ k0 => ?_; simp only [zO, zT, acs, reduceCtorEq, J, D, M, U, O, S]; (repeat refine an ?_); (try refine .inl ?_); apply k0; clear k0; simp only [zP, D])
  (refine Z rfl fun _ k0 => ?_; simp only [zO, zT, acs, reduceCtorEq, J, D, M, U, O, S]; (repeat refine an ?_); (try refine .inl ?_); apply k0; clear k0; simp only [zP, D])
  refine aa ?_
  refine ⟨by simp only [zP, J, D]; exact rfl, rfl, ?_, rfl⟩; (repeat refine aA rfl ?_); exact aN (by exact rfl) hq3
 case b3 => exact bc
 simp only [aK, aF]
 (refine Z rfl fun _ k0 => ?_; simp only [zO, zT, acs, reduceCtorEq, J, D, M, U, O, S]; (repeat refine an ?_); (try refine .inl ?_); apply k0; clear k0; simp only [zP, D])
 refine aa ?_
 apply k2; clear k2; refine kp [0, 2] ?_
 refine ah ?_
 refine ⟨nr, _, rfl, ?_⟩; simp only [zF, zP, J, D]
 refine VLE.of_eq ?_
 unfold pO; rfl
theorem ph (t : TRC) (n : Int) : aV Tryd.prog 79 [.agg [.list (.int .i64) t.1, .list (.int .i64) t.2.1], .one (.int .i64 n)] (.one (.int .i64 (prO n t))) := by
 refine aw Tryd.func79 rfl (by kernel_rfl) (Nat.le_of_ble_eq_true rfl) rfl fun C hP hN hB => ?_
 replace hN : C.N = 25 := hN
 simp only [aH, D]
 refine V fun _ k1 => ?_
 refine a9 hP hN rfl ?_
 iterate 2 (refine Z rfl fun _ k0 => ?_; simp only [zO, zT, acs, reduceCtorEq, J, D, M, U, O, S]; (repeat refine an ?_); (try refine .inl ?_); apply k0; clear k0; simp only [zP, D])
 refine aa ?_
 apply k1; clear k1; refine kp [0, 1, 2, 4] ?_
 refine V fun _ k2 => ?_
 refine V fun _ k3 => ?_
 refine a9 hP hN rfl ?_
 iterate 3 (refine Z rfl fun _ k0 => ?_; simp only [zO, zT, acs, reduceCtorEq, J, D, M, U, O, S]; (repeat refine an ?_); (try refine .inl ?_); apply k0; clear k0; simp only [zP, D])
 refine Z rfl fun _ k0 => ?_
 refine ar (h := ae (nW t.1 n)) rfl rfl (by first | exact rfl | (simp only [ev, zP, J, D]; exact rfl)) (by simp only [zV, acs, reduceCtorEq, J, D, M, U, O, S]) ?_
 apply k0; clear k0; simp only [zP, D]
 (refine Z rfl fun _ k0 => ?_; simp only [zO, zT, acs, reduceCtorEq, J, D, M, U, O, S]; (repeat refine an ?_); (try refine .inl ?_); apply k0; clear k0; simp only [zP, D])
 refine aa ?_
 apply k3; clear k3; refine kp [0, 1, 2, 4, 5] ?_
 refine V fun _ k4 => ?_
 refine a9 hP hN rfl ?_
 iterate 2 (refine Z rfl fun _ k0 => ?_; simp only [zO, zT, acs, reduceCtorEq, J, D, M, U, O, S]; (repeat refine an ?_); (try refine .inl ?_); apply k0; clear k0; simp only [zP, D])
 refine aa ?_
 apply k4; clear k4; refine kp [0, 1, 2, 4, 5, 11] ?_
 refine cd (fun hc5 => ?_) (fun hc5 => ?_)
 ·(try simp only [zB, reduceCtorEq] at hc5)
  have h1 := hc5
  refine V fun _ k6 => ?_
  refine a9 hP hN rfl ?_
  iterate 2 (refine Z rfl fun _ k0 => ?_; simp only [zO, zT, acs, reduceCtorEq, J, D, M, U, O, S]; (repeat refine an ?_); (try refine .inl ?_); apply k0; clear k0; simp only [zP, D])
  refine aa ?_
  apply k6; clear k6; refine kp [0, 1, 2, 4, 5, 11] ?_
  refine ah ?_
  refine ⟨nr, _, rfl, ?_⟩; simp only [zF, zP, J, D]
  refine VLE.of_eq ?_
  refine congrArg (fun n => AV.one (AC.int IntKind.i64 n)) ?_
  symm
  first
  | exact lO (by omega)
  | exact lG (by omega) (by omega)
  | exact nB (by omega) (by omega) (by omega)
  | exact nu (by omega) (by omega) (by omega)
 (try simp only [zB, reduceCtorEq] at hc5)
 have h1 := hc5
 refine ag ?_
 apply k2; clear k2; refine kp [0, 1, 2, 4, 5, 11] ?_
 refine V fun _ k7 => ?_
 refine au ?_
 refine V fun _ k8 => ?_
 refine a9 hP hN rfl ?_
 iterate 8 (refine Z rfl fun _ k0 => ?_; simp only [zO, zT, acs, reduceCtorEq, J, D, M, U, O, S]; (repeat refine an ?_); (try refine .inl ?_); apply k0; clear k0; simp only [zP, D])
 refine aa ?_
 apply k8; clear k8; refine kp [0, 1, 2, 4, 5, 11, 13] ?_
 refine cd (fun hc9 => ?_) (fun hc9 => ?_)
 ·(try simp only [zB, reduceCtorEq] at hc9)
  have h2 := hc9
  refine V fun _ k10 => ?_
  refine a9 hP hN rfl ?_
  (refine Z rfl fun _ k0 => ?_; simp only [zO, zT, acs, reduceCtorEq, J, D, M, U, O, S]; (repeat refine an ?_); (try refine .inl ?_); apply k0; clear k0; simp only [zP, D])
  refine aa ?_
  apply k10; clear k10; refine kp [0, 1, 2, 4, 5, 11, 13] ?_
  refine ah ?_
  refine ⟨nr, _, rfl, ?_⟩; simp only [zF, zP, J, D]
  refine VLE.of_eq ?_
  refine congrArg (fun n => AV.one (AC.int IntKind.i64 n)) ?_
  symm
  first
  | exact lO (by omega)
  | exact lG (by omega) (by omega)
  | exact nB (by omega) (by omega) (by omega)
  | exact nu (by omega) (by omega) (by omega)
 (try simp only [zB, reduceCtorEq] at hc9)
 have h2 := hc9
 refine V fun _ k11 => ?_
 refine a9 hP hN rfl ?_
 iterate 2 (refine Z rfl fun _ k0 => ?_; simp only [zO, zT, acs, reduceCtorEq, J, D, M, U, O, S]; (repeat refine an ?_); (try refine .inl ?_); apply k0; clear k0; simp only [zP, D])
 refine Z rfl fun _ k0 => ?_
 refine ar (h := ae (sP t.2.1 89 [] pO rfl (fun k hk => qY (t.2.1.getD k 0)))) rfl rfl (by first | exact rfl | (simp only [ev, zP, J, D]; exact rfl)) (by simp only [zV, acs, reduceCtorEq, J, D, M, U, O, S]) ?_
 apply k0; clear k0; simp only [zP, D]
 (refine Z rfl fun _ k0 => ?_; simp only [zO, zT, acs, reduceCtorEq, J, D, M, U, O, S]; (repeat refine an ?_); (try refine .inl ?_); apply k0; clear k0; simp only [zP, D])
 refine aa ?_
 apply k11; clear k11; refine kp [0, 1, 2, 4, 5, 11, 13, 21] ?_
 refine cd (fun hc12 => ?_) (fun hc12 => ?_)
 ·(try simp only [zB, reduceCtorEq] at hc12)
  have h3 := hc12
  refine V fun _ k13 => ?_
  refine a9 hP hN rfl ?_
  (refine Z rfl fun _ k0 => ?_; simp only [zO, zT, acs, reduceCtorEq, J, D, M, U, O, S]; (repeat refine an ?_); (try refine .inl ?_); apply k0; clear k0; simp only [zP, D])
  refine aa ?_
  apply k13; clear k13; refine kp [0, 1, 2, 4, 5, 11, 13, 21] ?_
  refine ah ?_
  refine ⟨nr, _, rfl, ?_⟩; simp only [zF, zP, J, D]
  refine VLE.of_eq ?_
  refine congrArg (fun n => AV.one (AC.int IntKind.i64 n)) ?_
  symm
  first
  | exact lO (by omega)
  | exact lG (by omega) (by omega)
  | exact nB (by omega) (by omega) (by omega)
  | exact nu (by omega) (by omega) (by omega)
 (try simp only [zB, reduceCtorEq] at hc12)
 have h3 := hc12
 refine ag ?_
 apply k7; clear k7; refine kp [0, 1, 2, 4, 5, 11, 13, 21] ?_
 refine V fun _ k14 => ?_
 refine a9 hP hN rfl ?_
 (refine Z rfl fun _ k0 => ?_; simp only [zO, zT, acs, reduceCtorEq, J, D, M, U, O, S]; (repeat refine an ?_); (try refine .inl ?_); apply k0; clear k0; simp only [zP, D])
 refine aa ?_
 apply k14; clear k14; refine kp [0, 1, 2, 4, 5, 11, 13, 21] ?_
 refine ah ?_
 refine ⟨nr, _, rfl, ?_⟩; simp only [zF, zP, J, D]
 refine VLE.of_eq ?_
 refine congrArg (fun n => AV.one (AC.int IntKind.i64 n)) ?_
 symm
 first
 | exact lO (by omega)
 | exact lG (by omega) (by omega)
 | exact nB (by omega) (by omega) (by omega)
 | exact nu (by omega) (by omega) (by omega)
theorem sS (xs : List TRC) (hl : xs.length ≤ 1000000) (hb : LB 100000 xs) : tv Tryd.prog 78 [.one (.list (.pair (.list (.int .i64)) (.pair (.list (.int .i64)) .unit)) xs)] (.pair (.list (.int .i64)) (.pair (.list (.int .i64)) .unit)) 60 (xs) := by
 refine nh Tryd.func78 rfl (by kernel_rfl) (Nat.le_of_ble_eq_true rfl) rfl fun C hP hN hB => ?_
 replace hN : C.N = 23 := hN
 simp only [aH, D]
 refine cQ 0 rfl fun hf0 => ?_; simp only [lkp, if_true, if_false, reduceCtorEq, J, eq_self, Nat.one_ne_zero, Nat.zero_ne_one, eP, eN, eB, Fit, and_true, implies_true, true_and] at hf0
 refine V fun _ k1 => ?_
 refine a9 hP hN rfl ?_
 (refine Z rfl fun _ k0 => ?_; simp only [zO, zT, acs, reduceCtorEq, J, D, M, U, O, S]; (repeat refine an ?_); (try refine .inl ?_); apply k0; clear k0; simp only [zP, D])
 refine aa ?_
 apply k1; clear k1; refine kp [0, 2] ?_
 refine V fun _ k2 => ?_
 refine a9 hP hN rfl ?_
 iterate 3 (refine Z rfl fun _ k0 => ?_; simp only [zO, zT, acs, reduceCtorEq, J, D, M, U, O, S]; (repeat refine an ?_); (try refine .inl ?_); apply k0; clear k0; simp only [zP, D])
 (refine Z rfl fun _ k0 => ?_; simp only [zE, op1, ev, lkp, ch, bg, bZ, fV, fc, bM, cq, dm, Nat.div_one, cD, cB, Ty.size, b9, dite_true, di, bm, cA, cG, ck, d4, dz, Ty.dflt, reduceCtorEq, J, D, M, U, O, S, Tryd.el27, Tryd.td27, Tryd.td3]; (repeat refine an ?_); (try refine .inl ?_); apply k0; clear k0; simp only [zP, D])
 (refine Z rfl fun _ k0 => ?_; simp only [zO, zT, acs, reduceCtorEq, J, D, M, U, O, S]; (repeat refine an ?_); (try refine .inl ?_); apply k0; clear k0; simp only [zP, D])
 refine aa ?_
 apply k2; clear k2; refine kp [0, 2, 3] ?_
 refine V fun _ k3 => ?_
 refine V fun _ k4 => ?_
 refine a9 hP hN rfl ?_
 iterate 3 (refine Z rfl fun _ k0 => ?_; simp only [zO, zT, acs, reduceCtorEq, J, D, M, U, O, S]; (repeat refine an ?_); (try refine .inl ?_); apply k0; clear k0; simp only [zP, D])
 refine aa ?_
 apply k4; clear k4; refine kp [0, 2, 3, 10, 11, 12] ?_
 refine au ?_
 refine aU (fun n5 s5 => ∃ (k v : Nat), (k ≤ xs.length) ∧ n5 = xs.length - k ∧ s5 = { env := [(2, .one .nils), (3, .one (.row 0 v)), (10, .one (.list (.pair (.list (.int .i64)) (.pair (.list (.int .i64)) .unit)) xs)), (11, .one (.int .i64 (xs.length : Int))), (12, .one (.int .i64 (k : Int)))], L := [.row (.pair (.list (.int .i64)) (.pair (.list (.int .i64)) .unit)) 60 v (xs.take k)] }) ?_ ?_
 ·exact ⟨_, _, ak [2, 3, 10, 11, 12], 0, 0, Nat.zero_le _, rfl, rfl⟩
 rintro n5 s5 ⟨k, v, hk, rfl, rfl⟩
 refine V fun _ k6 => ?_
 refine a9 hP hN rfl ?_
 (refine Z rfl fun _ k0 => ?_; simp only [zO, zT, acs, reduceCtorEq, J, D, M, U, O, S]; (repeat refine an ?_); (try refine .inl ?_); apply k0; clear k0; simp only [zP, D])
 refine aa ?_
 apply k6; clear k6; refine kp [2, 3, 10, 11, 12, 13] ?_
 refine V fun _ k7 => ?_
 refine cd (fun hc8 => ?_) (fun hc8 => ?_)
 ·(try simp only [zB, reduceCtorEq] at hc8)
  refine ag ?_
  apply k7; clear k7; refine kp [2, 3, 10, 11, 12, 13] ?_
  refine V fun _ k9 => ?_
  refine au ?_
  refine V fun _ k10 => ?_
  obtain ⟨x1, x2, hgx⟩ : ∃ x1 x2, ∀ d, xs.getD k d = (x1, (x2, ())) := ⟨_, _, cM (by omega)⟩
  refine a9 hP hN rfl ?_
  iterate 4 (refine Z rfl fun _ k0 => ?_; simp only [zO, zT, acs, reduceCtorEq, J, D, M, U, O, S, gt, af, hgx]; (repeat refine an ?_); (try refine .inl ?_); apply k0; clear k0; simp only [zP, D])
  refine aa ?_
  apply k10; clear k10; refine kp [2, 3, 5, 10, 11, 12, 13] ?_
  refine a9 hP hN rfl ?_
  iterate 2 (refine Z rfl fun _ k0 => ?_; simp only [zO, zT, acs, reduceCtorEq, J, D, M, U, O, S, List.length_take]; (repeat refine an ?_); (try refine .inl ?_); apply k0; clear k0; simp only [zP, D])
  refine Z rfl fun _ k0 => ?_
  refine ar (h := ae (m3 (x1, (x2, ())) (hb.get (by omega) (hgx _)).1 (hb.get (by omega) (hgx _)).2)) rfl rfl (by first | exact rfl | (simp only [ev, zP, J, D]; exact rfl)) (by simp only [zV, acs, reduceCtorEq, J, D, M, U, O, S, List.length_take]) ?_
  apply k0; clear k0; simp only [zP, D]
  iterate 3 (refine Z rfl fun _ k0 => ?_; simp only [zO, zT, acs, reduceCtorEq, J, D, M, U, O, S, List.length_take]; (repeat refine an ?_); (try refine .inl ?_); apply k0; clear k0; simp only [zP, D])
  refine aa ?_
  apply k9; clear k9; refine kp [2, 3, 5, 10, 11, 12, 13] ?_
  refine kp [2, 3, 10, 11, 12] ?_
  refine aC (L1 := [_]) rfl (by rw [hB]; exact Nat.zero_le _) rfl rfl ?_
  refine a9 hP hN rfl ?_
  iterate 2 (refine Z rfl fun _ k0 => ?_; simp only [zO, zT, acs, reduceCtorEq, J, D, M, U, O, S]; (repeat refine an ?_); (try refine .inl ?_); apply k0; clear k0; simp only [zP, D])
  refine aa ?_
  refine ⟨_, _, ?_, ak [2, 3, 10, 11, 12], k + 1, v + 1, by omega, rfl, ?_⟩
  · omega
  · rw [jT (show k < xs.length by omega), hgx]; rfl
 (try simp only [zB, reduceCtorEq] at hc8)
 refine aR ?_
 apply k3; clear k3; refine kp [2, 3, 10, 11, 12, 13] ?_
 refine V fun _ k11 => ?_
 have hkl : k = xs.length := by omega
 rw [hkl, az]
 refine a9 hP hN rfl ?_
 iterate 2 (refine Z rfl fun _ k0 => ?_; simp only [zO, zT, acs, reduceCtorEq, J, D, M, U, O, S]; (repeat refine an ?_); (try refine .inl ?_); apply k0; clear k0; simp only [zP, D])
 refine aa ?_
 apply k11; clear k11; refine kp [2, 3, 10, 11, 12, 13] ?_
 refine ah ?_
 refine ⟨by first | exact .inl rfl | exact .inr rfl, _, rfl, _, _, rfl, ?_⟩
 rfl
set_option maxHeartbeats 2000000 in
theorem tC (n : Int) (X l : List TRC) (hs : SRT X) (hb : LB 100000 X) (hl : X.length + l.length ≤ 9000) : aV Tryd.prog 63 [.agg [.int .i64 n, .list (.pair (.list (.int .i64)) (.pair (.list (.int .i64)) .unit)) X], .one (.list (.pair (.list (.int .i64)) (.pair (.list (.int .i64)) .unit)) l)] (.tup [.agg [.int .i64 n, .list (.pair (.list (.int .i64)) (.pair (.list (.int .i64)) .unit)) (jO n X l)], .one (.int .i64 (hY n X l))]) := by
 refine aw Tryd.func63 rfl (by kernel_rfl) (Nat.le_of_ble_eq_true rfl) rfl fun C hP hN hB => ?_
 replace hN : C.N = 45 := hN
 simp only [aH, D]
 refine V fun _ k1 => ?_
 refine a9 hP hN rfl ?_
 iterate 3 (refine Z rfl fun _ k0 => ?_; simp only [zO, zT, acs, reduceCtorEq, J, D, M, U, O, S]; (repeat refine an ?_); (try refine .inl ?_); apply k0; clear k0; simp only [zP, D])
 refine aa ?_
 apply k1; clear k1; refine kp [0, 1, 2, 4, 5] ?_
 refine V fun _ k2 => ?_
 refine a9 hP hN rfl ?_
 iterate 2 (refine Z rfl fun _ k0 => ?_; simp only [zO, zT, acs, reduceCtorEq, J, D, M, U, O, S]; (repeat refine an ?_); (try refine .inl ?_); apply k0; clear k0; simp only [zP, D])
 refine Z rfl fun _ k0 => ?_
 refine ar (h := pz (sS X (by omega) hb)) rfl rfl (by first | exact rfl | (simp only [ev, zP, J, D]; exact rfl)) (by simp only [zV, acs, reduceCtorEq, J, D, M, U, O, S]) ?_
 apply k0; clear k0; simp only [zP, D]
 (refine Z rfl fun _ k0 => ?_; simp only [zO, zT, acs, reduceCtorEq, J, D, M, U, O, S]; (repeat refine an ?_); (try refine .inl ?_); apply k0; clear k0; simp only [zP, D])
 refine aa ?_
 apply k2; clear k2; refine kp [0, 1, 2, 4, 5, 6] ?_
 refine V fun _ k3 => ?_
 refine V fun _ k4 => ?_
 refine a9 hP hN rfl ?_
 iterate 3 (refine Z rfl fun _ k0 => ?_; simp only [zO, zT, acs, reduceCtorEq, J, D, M, U, O, S]; (repeat refine an ?_); (try refine .inl ?_); apply k0; clear k0; simp only [zP, D])
 refine aa ?_
 apply k4; clear k4; refine kp [0, 1, 2, 4, 5, 6, 15, 16, 17] ?_
 refine au ?_
 refine aU (fun n5 s5 => ∃ (k v : Nat), (k ≤ l.length) ∧ (∀ q : Nat, q < k → d9 n X l q = 0) ∧ n5 = l.length - k ∧ s5 = { env := [(2, .one (.ptr 0 0 0 0)), (4, .one (.ptr 1 0 0 0)), (5, .one (.int .i64 0)), (6, .one (.row 2 v)), (15, .one (.list (.pair (.list (.int .i64)) (.pair (.list (.int .i64)) .unit)) l)), (16, .one (.int .i64 (l.length : Int))), (17, .one (.int .i64 (k : Int)))], L := [.vars 47 [.int .i64 n, .list (.pair (.list (.int .i64)) (.pair (.list (.int .i64)) .unit)) X], .vars 47 [.int .i64 0, .nils], .row (.pair (.list (.int .i64)) (.pair (.list (.int .i64)) .unit)) 60 v (XK X l k)] }) ?_ ?_
 ·exact ⟨_, _, ak [2, 4, 5, 6, 15, 16, 17], 0, 0, Nat.zero_le _, fun q hq => by omega, rfl, rfl⟩
 rintro n5 s5 ⟨k, v, hk, hq, rfl, rfl⟩
 refine V fun _ k6 => ?_
 refine a9 hP hN rfl ?_
 (refine Z rfl fun _ k0 => ?_; simp only [zO, zT, acs, reduceCtorEq, J, D, M, U, O, S]; (repeat refine an ?_); (try refine .inl ?_); apply k0; clear k0; simp only [zP, D])
 refine aa ?_
 apply k6; clear k6; refine kp [2, 4, 5, 6, 15, 16, 17, 18] ?_
 refine V fun _ k7 => ?_
 refine cd (fun hc8 => ?_) (fun hc8 => ?_)
 ·(try simp only [zB, reduceCtorEq] at hc8)
  refine ag ?_
  apply k7; clear k7; refine kp [2, 4, 5, 6, 15, 16, 17, 18] ?_
  refine V fun _ k9 => ?_
  refine au ?_
  refine V fun _ k10 => ?_
  obtain ⟨x1, x2, hgx⟩ : ∃ x1 x2, ∀ d, l.getD k d = (x1, (x2, ())) := ⟨_, _, cM (by omega)⟩
  have hXl := mY (X := X) (l := l) (k := k) (by omega); have hXs := nn (l := l) hs (k := k) (by omega); have hXb := s7 hb (k := k) (by omega) hq
  have hlk : l.getD k aQ = (x1, (x2, ())) := hgx _
  refine a9 hP hN rfl ?_
  iterate 4 (refine Z rfl fun _ k0 => ?_; simp only [zO, zT, acs, reduceCtorEq, J, D, M, U, O, S, gt, af, hgx]; (repeat refine an ?_); (try refine .inl ?_); apply k0; clear k0; simp only [zP, D])
  refine aa ?_
  apply k10; clear k10; refine kp [2, 4, 5, 6, 8, 15, 16, 17, 18] ?_
  refine V fun _ k11 => ?_
  refine V fun _ k12 => ?_
  refine a9 hP hN rfl ?_
  iterate 3 (refine Z rfl fun _ k0 => ?_; simp only [zO, zT, acs, reduceCtorEq, J, D, M, U, O, S]; (repeat refine an ?_); (try refine .inl ?_); apply k0; clear k0; simp only [zP, D])
  refine Z rfl fun _ k0 => ?_
  refine ar (h := ae (ph (x1, (x2, ())) n)) rfl rfl (by first | exact rfl | (simp only [ev, zP, J, D]; exact rfl)) (by simp only [zV, acs, reduceCtorEq, J, D, M, U, O, S]) ?_
  apply k0; clear k0; simp only [zP, D]
  (refine Z rfl fun _ k0 => ?_; simp only [zO, zT, acs, reduceCtorEq, J, D, M, U, O, S]; (repeat refine an ?_); (try refine .inl ?_); apply k0; clear k0; simp only [zP, D])
  refine aa ?_
  apply k12; clear k12; refine kp [2, 4, 5, 6, 8, 9, 15, 16, 17, 18] ?_
  refine V fun _ k13 => ?_
  refine a9 hP hN rfl ?_
  iterate 2 (refine Z rfl fun _ k0 => ?_; simp only [zO, zT, acs, reduceCtorEq, J, D, M, U, O, S]; (repeat refine an ?_); (try refine .inl ?_); apply k0; clear k0; simp only [zP, D])
  refine aa ?_
  apply k13; clear k13; refine kp [2, 4, 5, 6, 8, 9, 15, 16, 17, 18, 26] ?_
  refine cd (fun hc14 => ?_) (fun hc14 => ?_)
  ·(try simp only [zB, reduceCtorEq] at hc14)
   have hpe : ¬ prO n (x1, (x2, ())) = 0 := hc14
   have hie : d9 n X l k = prO n (x1, (x2, ())) := by unfold d9; rw [hlk]; exact uk hpe
   obtain ⟨e1, e2⟩ := iH (n := n) (X := X) (l := l) (k := k) (by omega) hq (by rw [hie]; exact hpe)
   refine V fun _ k15 => ?_
   refine a9 hP hN rfl ?_
   iterate 4 (refine Z rfl fun _ k0 => ?_; simp only [zO, zT, acs, reduceCtorEq, J, D, M, U, O, S]; (repeat refine an ?_); (try refine .inl ?_); apply k0; clear k0; simp only [zP, D])
   refine aa ?_
   apply k15; clear k15; refine kp [2, 4, 5, 6, 8, 9, 15, 16, 17, 18, 26] ?_
   refine ah ?_
   refine ⟨nr, _, rfl, ?_⟩; simp only [zF, zP, J, D]
   refine VLE.of_eq ?_
   first
   | (rw [e1, e2, hie]; first | done | rfl)
   | (rw [e1, e2, htk]; first | done | rfl)
   | (rw [e1, e2]; first | done | rfl)
  (try simp only [zB, reduceCtorEq] at hc14)
  have hpz : prO n (x1, (x2, ())) = 0 := hc14
  have hpl : x1.length ≤ 1024 ∧ x2.length ≤ 1024 := oe hpz
  refine ag ?_
  apply k11; clear k11; refine kp [2, 4, 5, 6, 8, 9, 15, 16, 17, 18, 26] ?_
  refine V fun _ k16 => ?_
  obtain ⟨B, hB9⟩ : ∃ B, B = gv (XK X l k) (x1, (x2, ())) := ⟨_, rfl⟩
  rcases Bool.eq_false_or_eq_true (gv (XK X l k) (x1, (x2, ()))) with hnb | hnb
  ·skip
   refine a9 hP hN rfl ?_
   iterate 2 (refine Z rfl fun _ k0 => ?_; simp only [zO, zT, acs, reduceCtorEq, J, D, M, U, O, S]; (repeat refine an ?_); (try refine .inl ?_); apply k0; clear k0; simp only [zP, D])
   refine Z rfl fun _ k0 => ?_
   refine ar (h := tE n X v (XK X l k) (x1, (x2, ())) hXs (by omega) hXb ⟨by show x1.length ≤ 100000; omega, by show x2.length ≤ 100000; omega⟩ hnb) rfl rfl (by first | exact rfl | (simp only [ev, zP, J, D]; exact rfl)) (by simp only [zV, acs, reduceCtorEq, J, D, M, U, O, S]) ?_
   apply k0; clear k0; simp only [zP, D]
   iterate 5 (refine Z rfl fun _ k0 => ?_; simp only [zO, zT, acs, reduceCtorEq, J, D, M, U, O, S]; (repeat refine an ?_); (try refine .inl ?_); apply k0; clear k0; simp only [zP, D])
   refine aa ?_
   apply k16; clear k16; refine kp [2, 4, 5, 6, 8, 9, 10, 11, 15, 16, 17, 18, 26] ?_
   refine V fun _ k17 => ?_
   refine V fun _ k18 => ?_
   refine a9 hP hN rfl ?_
   iterate 2 (refine Z rfl fun _ k0 => ?_; simp only [zO, zT, acs, reduceCtorEq, J, D, M, U, O, S]; (repeat refine an ?_); (try refine .inl ?_); apply k0; clear k0; simp only [zP, D])
   refine aa ?_
   apply k18; clear k18; refine kp [2, 4, 5, 6, 8, 9, 10, 11, 15, 16, 17, 18, 26, 36] ?_
   refine cd (fun hc19 => ?_) (fun hc19 => ?_)
   ·(try simp only [zB, reduceCtorEq] at hc19)
    have hie : d9 n X l k = 13 := by unfold d9; rw [hlk]; exact sq hpz hnb
    obtain ⟨e1, e2⟩ := iH (n := n) (X := X) (l := l) (k := k) (by omega) hq (by rw [hie]; decide)
    refine V fun _ k20 => ?_
    refine a9 hP hN rfl ?_
    iterate 4 (refine Z rfl fun _ k0 => ?_; simp only [zO, zT, acs, reduceCtorEq, J, D, M, U, O, S]; (repeat refine an ?_); (try refine .inl ?_); apply k0; clear k0; simp only [zP, D])
    refine aa ?_
    apply k20; clear k20; refine kp [2, 4, 5, 6, 8, 9, 10, 11, 15, 16, 17, 18, 26, 36] ?_
    refine ah ?_
    refine ⟨nr, _, rfl, ?_⟩; simp only [zF, zP, J, D]
    refine VLE.of_eq ?_
    first
    | (rw [e1, e2, hie]; first | done | rfl)
    | (rw [e1, e2, htk]; first | done | rfl)
    | (rw [e1, e2]; first | done | rfl)
   · exfalso; (try simp only [zB, reduceCtorEq] at hc19); all_goals (first | (cases hc19; done) | omega | (simp at hc19; done) | (simp_all; done))
  ·skip
   refine a9 hP hN rfl ?_
   iterate 2 (refine Z rfl fun _ k0 => ?_; simp only [zO, zT, acs, reduceCtorEq, J, D, M, U, O, S]; (repeat refine an ?_); (try refine .inl ?_); apply k0; clear k0; simp only [zP, D])
   refine Z rfl fun _ k0 => ?_
   refine ar (h := tB n X v (XK X l k) (x1, (x2, ())) hXs (by omega) hXb ⟨by show x1.length ≤ 100000; omega, by show x2.length ≤ 100000; omega⟩ hnb) rfl rfl (by first | exact rfl | (simp only [ev, zP, J, D]; exact rfl)) (by simp only [zV, acs, reduceCtorEq, J, D, M, U, O, S]) ?_
   apply k0; clear k0; simp only [zP, D]
   iterate 5 (refine Z rfl fun _ k0 => ?_; simp only [zO, zT, acs, reduceCtorEq, J, D, M, U, O, S]; (repeat refine an ?_); (try refine .inl ?_); apply k0; clear k0; simp only [zP, D])
   refine aa ?_
   apply k16; clear k16; refine kp [2, 4, 5, 6, 8, 9, 10, 11, 15, 16, 17, 18, 26] ?_
   refine V fun _ k21 => ?_
   refine V fun _ k22 => ?_
   refine a9 hP hN rfl ?_
   iterate 2 (refine Z rfl fun _ k0 => ?_; simp only [zO, zT, acs, reduceCtorEq, J, D, M, U, O, S]; (repeat refine an ?_); (try refine .inl ?_); apply k0; clear k0; simp only [zP, D])
   refine aa ?_
   apply k22; clear k22; refine kp [2, 4, 5, 6, 8, 9, 10, 11, 15, 16, 17, 18, 26, 36] ?_
   refine cd (fun hc23 => ?_) (fun hc23 => ?_)
   · exfalso; (try simp only [zB, reduceCtorEq] at hc23); all_goals (first | (cases hc23; done) | omega | (simp at hc23; done) | (simp_all; done))
   (try simp only [zB, reduceCtorEq] at hc23)
   refine ag ?_
   apply k21; clear k21; refine kp [2, 4, 5, 6, 8, 9, 10, 11, 15, 16, 17, 18, 26, 36] ?_
   refine a9 hP hN rfl ?_
   iterate 2 (refine Z rfl fun _ k0 => ?_; simp only [zO, zT, acs, reduceCtorEq, J, D, M, U, O, S]; (repeat refine an ?_); (try refine .inl ?_); apply k0; clear k0; simp only [zP, D])
   refine aa ?_
   apply k9; clear k9; refine kp [2, 4, 5, 6, 8, 9, 10, 11, 15, 16, 17, 18, 26, 36] ?_
   refine kp [2, 4, 5, 6, 15, 16, 17] ?_
   refine aC (L1 := [_, _, _]) rfl (by rw [hB]; exact Nat.zero_le _) rfl rfl ?_
   refine a9 hP hN rfl ?_
   iterate 2 (refine Z rfl fun _ k0 => ?_; simp only [zO, zT, acs, reduceCtorEq, J, D, M, U, O, S]; (repeat refine an ?_); (try refine .inl ?_); apply k0; clear k0; simp only [zP, D])
   refine aa ?_
   have hie : d9 n X l k = 0 := by unfold d9; rw [hlk]; exact rJ hpz hnb
   refine ⟨_, _, ?_, ak [2, 4, 5, 6, 15, 16, 17], k + 1, adv v (XK X l k) (x1, (x2, ())), by omega, fun q hq2 => ?_, rfl, ?_⟩
   · omega
   · by_cases e : q = k
     · rw [e]; exact hie
     · exact hq q (by omega)
   · rw [gm (by omega), hlk]; rfl
 (try simp only [zB, reduceCtorEq] at hc8)
 refine aR ?_
 apply k3; clear k3; refine kp [2, 4, 5, 6, 15, 16, 17, 18] ?_
 refine V fun _ k24 => ?_
 refine jU 2 rfl ?_; simp only [aP, bb, zS, J, and_self, and_true, true_and, and_false, false_and, if_true, if_false, eq_self, reduceCtorEq, Nat.one_ne_zero, Nat.zero_ne_one]
 have hkl : k = l.length := by omega
 obtain ⟨e1, e2⟩ := nc (n := n) (X := X) (l := l) (fun q hq2 => hq q (by omega))
 have htk : XK X l l.length = XK X l k := by rw [hkl]
 refine a9 hP hN rfl ?_
 iterate 6 (refine Z rfl fun _ k0 => ?_; simp only [zO, zT, acs, reduceCtorEq, J, D, M, U, O, S]; (repeat refine an ?_); (try refine .inl ?_); apply k0; clear k0; simp only [zP, D])
 refine aa ?_
 apply k24; clear k24; refine kp [2, 4, 5, 6, 15, 16, 17, 18] ?_
 refine ah ?_
 refine ⟨nr, _, rfl, ?_⟩; simp only [zF, zP, J, D]
 refine VLE.of_eq ?_
 first
 | (rw [e1, e2, hie]; first | done | rfl)
 | (rw [e1, e2, htk]; first | done | rfl)
 | (rw [e1, e2]; first | done | rfl)
theorem uc (n : Int) (X : List TRC) (t : TRC) (hs : SRT X) (hb : LB 100000 X) (hl : X.length ≤ 8000) : aV Tryd.prog 44 [.agg [.int .i64 n, .list (.pair (.list (.int .i64)) (.pair (.list (.int .i64)) .unit)) X], .agg [.list (.int .i64) t.1, .list (.int .i64) t.2.1]] (.tup [.agg [.int .i64 n, .list (.pair (.list (.int .i64)) (.pair (.list (.int .i64)) .unit)) (jO n X [t])], .one (.int .i64 (hY n X [t]))]) := by
 refine aw Tryd.func44 rfl (by kernel_rfl) (Nat.le_of_ble_eq_true rfl) rfl fun C hP hN hB => ?_
 replace hN : C.N = 12 := hN
 simp only [aH, D]
 refine V fun _ k1 => ?_
 refine a9 hP hN rfl ?_
 iterate 4 (refine Z rfl fun _ k0 => ?_; simp only [zO, zT, acs, reduceCtorEq, J, D, M, U, O, S]; (repeat refine an ?_); (try refine .inl ?_); apply k0; clear k0; simp only [zP, D])
 refine aa ?_
 apply k1; clear k1; refine kp [0, 1, 2, 3, 4, 5] ?_
 refine V fun _ k2 => ?_
 refine a9 hP hN rfl ?_
 iterate 3 (refine Z rfl fun _ k0 => ?_; simp only [zO, zT, acs, reduceCtorEq, J, D, M, U, O, S]; (repeat refine an ?_); (try refine .inl ?_); apply k0; clear k0; simp only [zP, D])
 refine Z rfl fun _ k0 => ?_
 refine ar (h := ae (tC n X [t] hs hb (by simp only [ad, aq]; omega))) rfl rfl (by first | exact rfl | (simp only [ev, zP, J, D]; exact rfl)) (by simp only [zV, acs, reduceCtorEq, J, D, M, U, O, S]) ?_
 apply k0; clear k0; simp only [zP, D]
 iterate 4 (refine Z rfl fun _ k0 => ?_; simp only [zO, zT, acs, reduceCtorEq, J, D, M, U, O, S]; (repeat refine an ?_); (try refine .inl ?_); apply k0; clear k0; simp only [zP, D])
 refine aa ?_
 apply k2; clear k2; refine kp [0, 1, 2, 3, 4, 5] ?_
 refine ah ?_
 refine ⟨nr, _, rfl, ?_⟩; simp only [zF, zP, J, D]
 refine VLE.of_eq ?_
 rfl
set_option maxHeartbeats 1000000 in
theorem pa (n : Int) (X l : List TRC) (hs : SRT X) (hb : LB 100000 X) (hl : X.length + l.length ≤ 7000) : aV Tryd.prog 20 [.agg [.int .i64 n, .list (.pair (.list (.int .i64)) (.pair (.list (.int .i64)) .unit)) X], .one (.list (.pair (.list (.int .i64)) (.pair (.list (.int .i64)) .unit)) l)] (.tup [.agg [.int .i64 n, .list (.pair (.list (.int .i64)) (.pair (.list (.int .i64)) .unit)) (jO n X l)], .one (.int .i64 (jM (d9 n X l) l.length)), .one (.int .i64 (hY n X l))]) := by
 refine aw Tryd.func20 rfl (by kernel_rfl) (Nat.le_of_ble_eq_true rfl) rfl fun C hP hN hB => ?_
 replace hN : C.N = 34 := hN
 simp only [aH, D]
 refine V fun _ k1 => ?_
 refine a9 hP hN rfl ?_
 iterate 4 (refine Z rfl fun _ k0 => ?_; simp only [zO, zT, acs, reduceCtorEq, J, D, M, U, O, S]; (repeat refine an ?_); (try refine .inl ?_); apply k0; clear k0; simp only [zP, D])
 refine aa ?_
 apply k1; clear k1; refine kp [0, 1, 2, 4, 5, 6] ?_
 refine V fun _ k2 => ?_
 refine a9 hP hN rfl ?_
 iterate 3 (refine Z rfl fun _ k0 => ?_; simp only [zO, zT, acs, reduceCtorEq, J, D, M, U, O, S]; (repeat refine an ?_); (try refine .inl ?_); apply k0; clear k0; simp only [zP, D])
 refine aa ?_
 apply k2; clear k2; refine kp [0, 1, 2, 4, 5, 6, 7] ?_
 refine V fun _ k3 => ?_
 refine V fun _ k4 => ?_
 refine a9 hP hN rfl ?_
 iterate 3 (refine Z rfl fun _ k0 => ?_; simp only [zO, zT, acs, reduceCtorEq, J, D, M, U, O, S]; (repeat refine an ?_); (try refine .inl ?_); apply k0; clear k0; simp only [zP, D])
 refine aa ?_
 apply k4; clear k4; refine kp [0, 1, 2, 4, 5, 6, 7, 13, 14, 15] ?_
 refine au ?_
 refine aU (fun n5 s5 => ∃ (k : Nat), (k ≤ l.length) ∧ (∀ q : Nat, q < k → d9 n X l q = 0) ∧ n5 = l.length - k ∧ s5 = { env := [(2, .one (.ptr 0 0 0 0)), (4, .one (.ptr 1 0 0 0)), (5, .one (.int .i64 0)), (6, .one (.int .i64 0)), (7, .one (.ptr 2 0 0 0)), (13, .one (.list (.pair (.list (.int .i64)) (.pair (.list (.int .i64)) .unit)) l)), (14, .one (.int .i64 (l.length : Int))), (15, .one (.int .i64 (k : Int)))], L := [.vars 47 [.int .i64 n, .list (.pair (.list (.int .i64)) (.pair (.list (.int .i64)) .unit)) X], .vars 47 [.int .i64 0, .nils], .vars 47 [.int .i64 n, .list (.pair (.list (.int .i64)) (.pair (.list (.int .i64)) .unit)) (XK X l k)]] }) ?_ ?_
 ·exact ⟨_, _, ak [2, 4, 5, 6, 7, 13, 14, 15], 0, Nat.zero_le _, fun q hq => by omega, rfl, rfl⟩
 rintro n5 s5 ⟨k, hk, hq, rfl, rfl⟩
 refine V fun _ k6 => ?_
 refine a9 hP hN rfl ?_
 (refine Z rfl fun _ k0 => ?_; simp only [zO, zT, acs, reduceCtorEq, J, D, M, U, O, S]; (repeat refine an ?_); (try refine .inl ?_); apply k0; clear k0; simp only [zP, D])
 refine aa ?_
 apply k6; clear k6; refine kp [2, 4, 5, 6, 7, 13, 14, 15, 16] ?_
 refine V fun _ k7 => ?_
 refine cd (fun hc8 => ?_) (fun hc8 => ?_)
 ·(try simp only [zB, reduceCtorEq] at hc8)
  refine ag ?_
  apply k7; clear k7; refine kp [2, 4, 5, 6, 7, 13, 14, 15, 16] ?_
  refine V fun _ k9 => ?_
  refine au ?_
  refine V fun _ k10 => ?_
  obtain ⟨x1, x2, hgx⟩ : ∃ x1 x2, ∀ d, l.getD k d = (x1, (x2, ())) := ⟨_, _, cM (by omega)⟩
  have hXl := mY (X := X) (l := l) (k := k) (by omega); have hXs := nn (l := l) hs (k := k) (by omega); have hXb := s7 hb (k := k) (by omega) hq
  have hlk : l.getD k aQ = (x1, (x2, ())) := hgx _
  obtain ⟨a1, a2⟩ := sl n (XK X l k) (x1, (x2, ()))
  have hie : d9 n X l k = eJ n (XK X l k) (x1, (x2, ())) := by unfold d9; rw [hlk]
  refine a9 hP hN rfl ?_
  iterate 6 (refine Z rfl fun _ k0 => ?_; simp only [zO, zT, acs, reduceCtorEq, J, D, M, U, O, S, gt, af, hgx]; (repeat refine an ?_); (try refine .inl ?_); apply k0; clear k0; simp only [zP, D])
  refine aa ?_
  apply k10; clear k10; refine kp [2, 4, 5, 6, 7, 8, 9, 13, 14, 15, 16] ?_
  refine V fun _ k11 => ?_
  refine a9 hP hN rfl ?_
  iterate 2 (refine Z rfl fun _ k0 => ?_; simp only [zO, zT, acs, reduceCtorEq, J, D, M, U, O, S]; (repeat refine an ?_); (try refine .inl ?_); apply k0; clear k0; simp only [zP, D])
  refine Z rfl fun _ k0 => ?_
  refine ar (h := ae (uc n (XK X l k) (x1, (x2, ())) hXs hXb (by omega))) rfl rfl (by first | exact rfl | (simp only [ev, zP, J, D]; exact rfl)) (by simp only [zV, acs, reduceCtorEq, J, D, M, U, O, S]) ?_
  apply k0; clear k0; simp only [zP, D]
  iterate 6 (refine Z rfl fun _ k0 => ?_; simp only [zO, zT, acs, reduceCtorEq, J, D, M, U, O, S]; (repeat refine an ?_); (try refine .inl ?_); apply k0; clear k0; simp only [zP, D])
  refine aa ?_
  apply k11; clear k11; refine kp [2, 4, 5, 6, 7, 8, 9, 10, 11, 13, 14, 15, 16] ?_
  refine V fun _ k12 => ?_
  refine V fun _ k13 => ?_
  refine a9 hP hN rfl ?_
  iterate 2 (refine Z rfl fun _ k0 => ?_; simp only [zO, zT, acs, reduceCtorEq, J, D, M, U, O, S]; (repeat refine an ?_); (try refine .inl ?_); apply k0; clear k0; simp only [zP, D])
  refine aa ?_
  apply k13; clear k13; refine kp [2, 4, 5, 6, 7, 8, 9, 10, 11, 13, 14, 15, 16, 27] ?_
  refine cd (fun hc14 => ?_) (fun hc14 => ?_)
  ·(try simp only [zB, reduceCtorEq] at hc14)
   have hbd : ¬ eJ n (XK X l k) (x1, (x2, ())) = 0 := by have h9 := hc14; first | (rw [a1] at h9; exact h9) | exact h9
   obtain ⟨e1, e2⟩ := iH (n := n) (X := X) (l := l) (k := k) (by omega) hq (by rw [hie]; exact hbd)
   have e3 := o8 (f := (d9 n X l)) (k := k) hq (by rw [hie]; exact hbd) (n := l.length) (by omega)
   refine V fun _ k15 => ?_
   refine a9 hP hN rfl ?_
   iterate 6 (refine Z rfl fun _ k0 => ?_; simp only [zO, zT, acs, reduceCtorEq, J, D, M, U, O, S]; (repeat refine an ?_); (try refine .inl ?_); apply k0; clear k0; simp only [zP, D])
   refine aa ?_
   apply k15; clear k15; refine kp [2, 4, 5, 6, 7, 8, 9, 10, 11, 13, 14, 15, 16, 27] ?_
   refine ah ?_
   refine ⟨nr, _, rfl, ?_⟩; simp only [zF, zP, J, D]
   refine VLE.of_eq ?_
   first
   | (rw [e1, e2, e3, hie, a1]; first | done | rfl)
   | (rw [e1, e2, e3, hie, ← a1]; first | done | rfl)
   | (rw [e1, e2, e3, hie]; first | done | rfl)
   | (rw [e1, e2, e3, htk]; first | done | rfl)
  (try simp only [zB, reduceCtorEq] at hc14)
  have hgd : eJ n (XK X l k) (x1, (x2, ())) = 0 := by have h9 := hc14; first | (rw [a1] at h9; exact h9) | exact h9
  refine ag ?_
  apply k12; clear k12; refine kp [2, 4, 5, 6, 7, 8, 9, 10, 11, 13, 14, 15, 16, 27] ?_
  refine a9 hP hN rfl ?_
  iterate 2 (refine Z rfl fun _ k0 => ?_; simp only [zO, zT, acs, reduceCtorEq, J, D, M, U, O, S]; (repeat refine an ?_); (try refine .inl ?_); apply k0; clear k0; simp only [zP, D])
  refine aa ?_
  apply k9; clear k9; refine kp [2, 4, 5, 6, 7, 8, 9, 10, 11, 13, 14, 15, 16, 27] ?_
  refine kp [2, 4, 5, 6, 7, 13, 14, 15] ?_
  refine aC (L1 := [_, _, _, _]) rfl (by rw [hB]; exact Nat.zero_le _) rfl rfl ?_
  refine aC (L1 := [_, _, _]) rfl (by rw [hB]; exact Nat.zero_le _) rfl rfl ?_
  refine a9 hP hN rfl ?_
  iterate 2 (refine Z rfl fun _ k0 => ?_; simp only [zO, zT, acs, reduceCtorEq, J, D, M, U, O, S]; (repeat refine an ?_); (try refine .inl ?_); apply k0; clear k0; simp only [zP, D])
  refine aa ?_
  refine ⟨_, _, ?_, ak [2, 4, 5, 6, 7, 13, 14, 15], k + 1, by omega, fun q hq2 => ?_, rfl, ?_⟩
  · omega
  · by_cases e : q = k
    · rw [e, hie]; exact hgd
    · exact hq q (by omega)
  · rw [gm (by omega), hlk]
    first
    | (rw [a2, if_pos hgd]; first | done | rfl)
    | (rw [if_pos hgd]; first | done | rfl)
 (try simp only [zB, reduceCtorEq] at hc8)
 refine aR ?_
 apply k3; clear k3; refine kp [2, 4, 5, 6, 7, 13, 14, 15, 16] ?_
 refine V fun _ k16 => ?_
 have hkl : k = l.length := by omega
 obtain ⟨e1, e2⟩ := nc (n := n) (X := X) (l := l) (fun q hq2 => hq q (by omega))
 have e3 := pv (f := (d9 n X l)) (n := l.length) (fun q hq2 => hq q (by omega))
 have htk : XK X l l.length = XK X l k := by rw [hkl]
 refine a9 hP hN rfl ?_
 iterate 4 (refine Z rfl fun _ k0 => ?_; simp only [zO, zT, acs, reduceCtorEq, J, D, M, U, O, S]; (repeat refine an ?_); (try refine .inl ?_); apply k0; clear k0; simp only [zP, D])
 refine aa ?_
 apply k16; clear k16; refine kp [2, 4, 5, 6, 7, 13, 14, 15, 16] ?_
 refine ah ?_
 refine ⟨nr, _, rfl, ?_⟩; simp only [zF, zP, J, D]
 refine VLE.of_eq ?_
 first
 | (rw [e1, e2, e3, hie, a1]; first | done | rfl)
 | (rw [e1, e2, e3, hie, ← a1]; first | done | rfl)
 | (rw [e1, e2, e3, hie]; first | done | rfl)
 | (rw [e1, e2, e3, htk]; first | done | rfl)
theorem qb (xs ys : List Int) : aV Tryd.prog 65 [.one (.list (.int .i64) xs), .one (.list (.int .i64) ys)] (.one (.bool (decide (xs = ys)))) := by
 refine aw Tryd.func65 rfl (by kernel_rfl) (Nat.le_of_ble_eq_true rfl) rfl fun C hP hN hB => ?_
 replace hN : C.N = 26 := hN
 simp only [aH, D]
 refine cQ 0 rfl fun hf0 => ?_; simp only [lkp, if_true, if_false, reduceCtorEq, J, eq_self, Nat.one_ne_zero, Nat.zero_ne_one, eP, eN, eB, Fit, and_true, implies_true, true_and] at hf0
 refine V fun _ k1 => ?_
 refine a9 hP hN rfl ?_
 (refine Z rfl fun _ k0 => ?_; simp only [zO, zT, acs, reduceCtorEq, J, D, M, U, O, S]; (repeat refine an ?_); (try refine .inl ?_); apply k0; clear k0; simp only [zP, D])
 refine aa ?_
 apply k1; clear k1; refine kp [0, 1, 4] ?_
 refine V fun _ k2 => ?_
 refine V fun _ k3 => ?_
 refine a9 hP hN rfl ?_
 iterate 5 (refine Z rfl fun _ k0 => ?_; simp only [zO, zT, acs, reduceCtorEq, J, D, M, U, O, S]; (repeat refine an ?_); (try refine .inl ?_); apply k0; clear k0; simp only [zP, D])
 refine aa ?_
 apply k3; clear k3; refine kp [0, 1, 4, 10] ?_
 refine cd (fun hc4 => ?_) (fun hc4 => ?_)
 ·(try simp only [zB, reduceCtorEq] at hc4)
  refine V fun _ k5 => ?_
  refine a9 hP hN rfl ?_
  (refine Z rfl fun _ k0 => ?_; simp only [zO, zT, acs, reduceCtorEq, J, D, M, U, O, S]; (repeat refine an ?_); (try refine .inl ?_); apply k0; clear k0; simp only [zP, D])
  refine aa ?_
  apply k5; clear k5; refine kp [0, 1, 4, 10] ?_
  refine ah ?_
  refine ⟨nr, _, rfl, ?_⟩; simp only [zF, zP, J, D]
  refine VLE.of_eq ?_
  first
  | (refine ct ?_; rintro rfl; first | exact absurd rfl ‹¬ _› | omega)
  | (refine cP ?_; have hk1 : k = xs.length := by omega
     have hk2 : k = ys.length := by omega
     rw [hk1, az, ← hk1, hk2, az] at hT; exact hT)
 (try simp only [zB, reduceCtorEq] at hc4)
 refine ag ?_
 apply k2; clear k2; refine kp [0, 1, 4, 10] ?_
 refine V fun _ k6 => ?_
 refine V fun _ k7 => ?_
 refine a9 hP hN rfl ?_
 (refine Z rfl fun _ k0 => ?_; simp only [zO, zT, acs, reduceCtorEq, J, D, M, U, O, S]; (repeat refine an ?_); (try refine .inl ?_); apply k0; clear k0; simp only [zP, D])
 refine aa ?_
 apply k7; clear k7; refine kp [0, 1, 4, 5, 10] ?_
 refine au ?_
 refine aU (fun n8 s8 => ∃ (k : Nat), (k ≤ xs.length) ∧ (xs.take k = ys.take k) ∧ n8 = xs.length - k ∧ s8 = { env := [(0, .one (.list (.int .i64) xs)), (1, .one (.list (.int .i64) ys)), (5, .one (.int .i64 (k : Int)))], L := [] }) ?_ ?_
 ·exact ⟨_, _, ak [0, 1, 5], 0, Nat.zero_le _, rfl, rfl, rfl⟩
 rintro n8 s8 ⟨k, hk, hT, rfl, rfl⟩
 refine V fun _ k9 => ?_
 refine V fun _ k10 => ?_
 refine a9 hP hN rfl ?_
 iterate 4 (refine Z rfl fun _ k0 => ?_; simp only [zO, zT, acs, reduceCtorEq, J, D, M, U, O, S]; (repeat refine an ?_); (try refine .inl ?_); apply k0; clear k0; simp only [zP, D])
 refine aa ?_
 apply k10; clear k10; refine kp [0, 1, 5, 14] ?_
 refine cd (fun hc11 => ?_) (fun hc11 => ?_)
 ·(try simp only [zB, reduceCtorEq] at hc11)
  refine ag ?_
  apply k9; clear k9; refine kp [0, 1, 5, 14] ?_
  refine V fun _ k12 => ?_
  refine au ?_
  refine V fun _ k13 => ?_
  refine bS hP hN Tryd.mixed rfl ?_
  iterate 9 (refine Z rfl fun _ k0 => ?_; simp only [zO, zT, acs, reduceCtorEq, J, D, M, U, O, S]; (repeat refine an ?_); (try refine .inl ?_); apply k0; clear k0; simp only [zP, D])
  refine aa ?_
  refine ⟨by kernel_rfl, ?_⟩
  apply k13; clear k13; refine kp [0, 1, 5, 14, 25] ?_
  refine cd (fun hc14 => ?_) (fun hc14 => ?_)
  ·(try simp only [zB, reduceCtorEq] at hc14)
   refine V fun _ k15 => ?_
   refine a9 hP hN rfl ?_
   (refine Z rfl fun _ k0 => ?_; simp only [zO, zT, acs, reduceCtorEq, J, D, M, U, O, S]; (repeat refine an ?_); (try refine .inl ?_); apply k0; clear k0; simp only [zP, D])
   refine aa ?_
   apply k15; clear k15; refine kp [0, 1, 4, 5, 14, 25] ?_
   refine ah ?_
   refine ⟨nr, _, rfl, ?_⟩; simp only [zF, zP, J, D]
   refine VLE.of_eq ?_
   first
   | (refine ct ?_; rintro rfl; first | exact absurd rfl ‹¬ _› | omega)
   | (refine cP ?_; have hk1 : k = xs.length := by omega
      have hk2 : k = ys.length := by omega
      rw [hk1, az, ← hk1, hk2, az] at hT; exact hT)
  (try simp only [zB, reduceCtorEq] at hc14)
  refine ag ?_
  apply k12; clear k12; refine kp [0, 1, 5, 14, 25] ?_
  refine a9 hP hN rfl ?_
  iterate 3 (refine Z rfl fun _ k0 => ?_; simp only [zO, zT, acs, reduceCtorEq, J, D, M, U, O, S]; (repeat refine an ?_); (try refine .inl ?_); apply k0; clear k0; simp only [zP, D])
  refine aa ?_
  refine ⟨_, _, ?_, ak [0, 1, 5], k + 1, by omega, fa (d := 0) hT (by omega) (by omega) ?_, rfl, rfl⟩
  · omega
  · first | assumption | omega
 (try simp only [zB, reduceCtorEq] at hc11)
 refine aR ?_
 apply k6; clear k6; refine kp [0, 1, 5, 14] ?_
 refine V fun _ k16 => ?_
 refine a9 hP hN rfl ?_
 (refine Z rfl fun _ k0 => ?_; simp only [zO, zT, acs, reduceCtorEq, J, D, M, U, O, S]; (repeat refine an ?_); (try refine .inl ?_); apply k0; clear k0; simp only [zP, D])
 refine aa ?_
 apply k16; clear k16; refine kp [0, 1, 4, 5, 14] ?_
 refine ah ?_
 refine ⟨nr, _, rfl, ?_⟩; simp only [zF, zP, J, D]
 refine VLE.of_eq ?_
 first
 | (refine ct ?_; rintro rfl; first | exact absurd rfl ‹¬ _› | omega)
 | (refine cP ?_; have hk1 : k = xs.length := by omega
    have hk2 : k = ys.length := by omega
    rw [hk1, az, ← hk1, hk2, az] at hT; exact hT)
theorem nP (xs ys : List TRC) : aV Tryd.prog 46 [.one (.list (.pair (.list (.int .i64)) (.pair (.list (.int .i64)) .unit)) xs), .one (.list (.pair (.list (.int .i64)) (.pair (.list (.int .i64)) .unit)) ys)] (.one (.bool (decide (xs = ys)))) := by
 refine aw Tryd.func46 rfl (by kernel_rfl) (Nat.le_of_ble_eq_true rfl) rfl fun C hP hN hB => ?_
 replace hN : C.N = 43 := hN
 simp only [aH, D]
 refine cQ 0 rfl fun hf0 => ?_; simp only [lkp, if_true, if_false, reduceCtorEq, J, eq_self, Nat.one_ne_zero, Nat.zero_ne_one, eP, eN, eB, Fit, and_true, implies_true, true_and] at hf0
 refine V fun _ k1 => ?_
 refine a9 hP hN rfl ?_
 (refine Z rfl fun _ k0 => ?_; simp only [zO, zT, acs, reduceCtorEq, J, D, M, U, O, S]; (repeat refine an ?_); (try refine .inl ?_); apply k0; clear k0; simp only [zP, D])
 refine aa ?_
 apply k1; clear k1; refine kp [0, 1, 4] ?_
 refine V fun _ k2 => ?_
 refine V fun _ k3 => ?_
 refine a9 hP hN rfl ?_
 iterate 5 (refine Z rfl fun _ k0 => ?_; simp only [zO, zT, acs, reduceCtorEq, J, D, M, U, O, S]; (repeat refine an ?_); (try refine .inl ?_); apply k0; clear k0; simp only [zP, D])
 refine aa ?_
 apply k3; clear k3; refine kp [0, 1, 4, 10] ?_
 refine cd (fun hc4 => ?_) (fun hc4 => ?_)
 ·(try simp only [zB, reduceCtorEq] at hc4)
  refine V fun _ k5 => ?_
  refine a9 hP hN rfl ?_
  (refine Z rfl fun _ k0 => ?_; simp only [zO, zT, acs, reduceCtorEq, J, D, M, U, O, S]; (repeat refine an ?_); (try refine .inl ?_); apply k0; clear k0; simp only [zP, D])
  refine aa ?_
  apply k5; clear k5; refine kp [0, 1, 4, 10] ?_
  refine ah ?_
  refine ⟨nr, _, rfl, ?_⟩; simp only [zF, zP, J, D]
  refine VLE.of_eq ?_
  first
  | (refine ct ?_; rintro rfl; first | omega | (have h9 := (hgx aQ).symm.trans (hgy aQ); simp only [Prod.mk.injEq] at h9; simp_all; done))
  | (refine cP ?_; have hk1 : k = xs.length := by omega
     have hk2 : k = ys.length := by omega
     rw [hk1, az, ← hk1, hk2, az] at hT; exact hT)
 (try simp only [zB, reduceCtorEq] at hc4)
 refine ag ?_
 apply k2; clear k2; refine kp [0, 1, 4, 10] ?_
 refine V fun _ k6 => ?_
 refine V fun _ k7 => ?_
 refine a9 hP hN rfl ?_
 (refine Z rfl fun _ k0 => ?_; simp only [zO, zT, acs, reduceCtorEq, J, D, M, U, O, S]; (repeat refine an ?_); (try refine .inl ?_); apply k0; clear k0; simp only [zP, D])
 refine aa ?_
 apply k7; clear k7; refine kp [0, 1, 4, 5, 10] ?_
 refine au ?_
 refine aU (fun n8 s8 => ∃ (k : Nat), (k ≤ xs.length) ∧ (xs.take k = ys.take k) ∧ n8 = xs.length - k ∧ s8 = { env := [(0, .one (.list (.pair (.list (.int .i64)) (.pair (.list (.int .i64)) .unit)) xs)), (1, .one (.list (.pair (.list (.int .i64)) (.pair (.list (.int .i64)) .unit)) ys)), (5, .one (.int .i64 (k : Int)))], L := [] }) ?_ ?_
 ·exact ⟨_, _, ak [0, 1, 5], 0, Nat.zero_le _, rfl, rfl, rfl⟩
 rintro n8 s8 ⟨k, hk, hT, rfl, rfl⟩
 refine V fun _ k9 => ?_
 refine V fun _ k10 => ?_
 refine a9 hP hN rfl ?_
 iterate 4 (refine Z rfl fun _ k0 => ?_; simp only [zO, zT, acs, reduceCtorEq, J, D, M, U, O, S]; (repeat refine an ?_); (try refine .inl ?_); apply k0; clear k0; simp only [zP, D])
 refine aa ?_
 apply k10; clear k10; refine kp [0, 1, 5, 14] ?_
 refine cd (fun hc11 => ?_) (fun hc11 => ?_)
 ·(try simp only [zB, reduceCtorEq] at hc11)
  refine ag ?_
  apply k9; clear k9; refine kp [0, 1, 5, 14] ?_
  refine V fun _ k12 => ?_
  refine au ?_
  refine V fun _ k13 => ?_
  obtain ⟨x1, x2, hgx⟩ : ∃ x1 x2, ∀ d, xs.getD k d = (x1, (x2, ())) := ⟨_, _, cM (by omega)⟩
  obtain ⟨y1, y2, hgy⟩ : ∃ x1 x2, ∀ d, ys.getD k d = (x1, (x2, ())) := ⟨_, _, cM (by omega)⟩
  refine bS hP hN Tryd.mixed rfl ?_
  iterate 10 (refine Z rfl fun _ k0 => ?_; simp only [zO, zT, acs, reduceCtorEq, J, D, M, U, O, S, gt, af, hgx, hgy]; (repeat refine an ?_); (try refine .inl ?_); apply k0; clear k0; simp only [zP, D])
  refine Z rfl fun _ k0 => ?_
  refine ar (h := ae (qb x1 y1)) rfl rfl (by first | exact rfl | (simp only [ev, zP, J, D]; exact rfl)) (by simp only [zV, acs, reduceCtorEq, J, D, M, U, O, S, gt, af, hgx, hgy]) ?_
  apply k0; clear k0; simp only [zP, D]
  iterate 2 (refine Z rfl fun _ k0 => ?_; simp only [zO, zT, acs, reduceCtorEq, J, D, M, U, O, S, gt, af, hgx, hgy]; (repeat refine an ?_); (try refine .inl ?_); apply k0; clear k0; simp only [zP, D])
  refine' aB (want := false) 12 rfl (m := 29) (by simp only [zP, J, D]; exact rfl) (by kernel_rfl) rfl rfl rfl rfl rfl (fun hg14 => ?a14) ?b14 ?c14
  case a14 =>
   have hq14 := hg14; (try simp only [zB, reduceCtorEq] at hg14); simp only [zE]
   iterate 10 (refine aL rfl fun _ k0 => ?_; simp only [zO, zT, acs, reduceCtorEq, J, D, M, U, O, S, gt, af, hgx, hgy]; (repeat refine an ?_); (try refine .inl ?_); apply k0; clear k0; simp only [zP, D])
   refine aL rfl fun _ k0 => ?_
   refine ar (h := ae (qb x2 y2)) rfl rfl (by first | exact rfl | (simp only [ev, zP, J, D]; exact rfl)) (by simp only [zV, acs, reduceCtorEq, J, D, M, U, O, S, gt, af, hgx, hgy]) ?_
   apply k0; clear k0; simp only [zP, D]
   (refine aL rfl fun _ k0 => ?_; simp only [zO, zT, acs, reduceCtorEq, J, D, M, U, O, S, gt, af, hgx, hgy]; (repeat refine an ?_); (try refine .inl ?_); apply k0; clear k0; simp only [zP, D])
   (refine Z rfl fun _ k0 => ?_; simp only [zO, zT, acs, reduceCtorEq, J, D, M, U, O, S, gt, af, hgx, hgy]; (repeat refine an ?_); (try refine .inl ?_); apply k0; clear k0; simp only [zP, D])
   refine aa ?_
   refine ⟨by simp only [zP, J, D]; exact rfl, rfl, ?_, rfl⟩; (repeat refine aA rfl ?_); exact aN (by exact rfl) hq14
  case b14 => exact bc
  simp only [aK, aF]
  refine aa ?_
  refine ⟨by kernel_rfl, ?_⟩
  apply k13; clear k13; refine kp [0, 1, 5, 14, 42] ?_
  refine cd (fun hc15 => ?_) (fun hc15 => ?_)
  ·(try simp only [zB, reduceCtorEq] at hc15)
   refine V fun _ k16 => ?_
   refine a9 hP hN rfl ?_
   (refine Z rfl fun _ k0 => ?_; simp only [zO, zT, acs, reduceCtorEq, J, D, M, U, O, S]; (repeat refine an ?_); (try refine .inl ?_); apply k0; clear k0; simp only [zP, D])
   refine aa ?_
   apply k16; clear k16; refine kp [0, 1, 4, 5, 14, 42] ?_
   refine ah ?_
   refine ⟨nr, _, rfl, ?_⟩; simp only [zF, zP, J, D]
   refine VLE.of_eq ?_
   first
   | (refine ct ?_; rintro rfl; first | omega | (have h9 := (hgx aQ).symm.trans (hgy aQ); simp only [Prod.mk.injEq] at h9; simp_all; done))
   | (refine cP ?_; have hk1 : k = xs.length := by omega
      have hk2 : k = ys.length := by omega
      rw [hk1, az, ← hk1, hk2, az] at hT; exact hT)
  (try simp only [zB, reduceCtorEq] at hc15)
  refine ag ?_
  apply k12; clear k12; refine kp [0, 1, 5, 14, 42] ?_
  refine a9 hP hN rfl ?_
  iterate 3 (refine Z rfl fun _ k0 => ?_; simp only [zO, zT, acs, reduceCtorEq, J, D, M, U, O, S]; (repeat refine an ?_); (try refine .inl ?_); apply k0; clear k0; simp only [zP, D])
  refine aa ?_
  refine ⟨_, _, ?_, ak [0, 1, 5], k + 1, by omega, fa (d := aQ) hT (by omega) (by omega) (by rw [hgx, hgy]; simp_all), rfl, rfl⟩
  omega
 (try simp only [zB, reduceCtorEq] at hc11)
 refine aR ?_
 apply k6; clear k6; refine kp [0, 1, 5, 14] ?_
 refine V fun _ k17 => ?_
 refine a9 hP hN rfl ?_
 (refine Z rfl fun _ k0 => ?_; simp only [zO, zT, acs, reduceCtorEq, J, D, M, U, O, S]; (repeat refine an ?_); (try refine .inl ?_); apply k0; clear k0; simp only [zP, D])
 refine aa ?_
 apply k17; clear k17; refine kp [0, 1, 4, 5, 14] ?_
 refine ah ?_
 refine ⟨nr, _, rfl, ?_⟩; simp only [zF, zP, J, D]
 refine VLE.of_eq ?_
 first
 | (refine ct ?_; rintro rfl; first | omega | (have h9 := (hgx aQ).symm.trans (hgy aQ); simp only [Prod.mk.injEq] at h9; simp_all; done))
 | (refine cP ?_; have hk1 : k = xs.length := by omega
    have hk2 : k = ys.length := by omega
    rw [hk1, az, ← hk1, hk2, az] at hT; exact hT)
theorem qv (n m : Int) (X Y : List TRC) : aV Tryd.prog 22 [.agg [.int .i64 n, .list (.pair (.list (.int .i64)) (.pair (.list (.int .i64)) .unit)) X], .agg [.int .i64 m, .list (.pair (.list (.int .i64)) (.pair (.list (.int .i64)) .unit)) Y]] (.one (.bool (decide (n = m) && decide (X = Y)))) := by
 refine aw Tryd.func22 rfl (by kernel_rfl) (Nat.le_of_ble_eq_true rfl) rfl fun C hP hN hB => ?_
 replace hN : C.N = 17 := hN
 simp only [aH, D]
 refine V fun _ k1 => ?_
 refine a9 hP hN rfl ?_
 iterate 3 (refine Z rfl fun _ k0 => ?_; simp only [zO, zT, acs, reduceCtorEq, J, D, M, U, O, S]; (repeat refine an ?_); (try refine .inl ?_); apply k0; clear k0; simp only [zP, D])
 refine aa ?_
 apply k1; clear k1; refine kp [0, 1, 2, 3, 4] ?_
 refine V fun _ k2 => ?_
 refine a9 hP hN rfl ?_
 iterate 6 (refine Z rfl fun _ k0 => ?_; simp only [zO, zT, acs, reduceCtorEq, J, D, M, U, O, S]; (repeat refine an ?_); (try refine .inl ?_); apply k0; clear k0; simp only [zP, D])
 refine' aB (want := true) 5 rfl (m := 10) (by simp only [zP, J, D]; exact rfl) (by kernel_rfl) rfl rfl rfl rfl rfl (fun hg3 => ?a3) ?b3 ?c3
 case a3 =>
  have hq3 := hg3; (try simp only [zB, reduceCtorEq] at hg3); simp only [zE]
  iterate 4 (refine aL rfl fun _ k0 => ?_; simp only [zO, zT, acs, reduceCtorEq, J, D, M, U, O, S]; (repeat refine an ?_); (try refine .inl ?_); apply k0; clear k0; simp only [zP, D])
  refine aL rfl fun _ k0 => ?_
  refine ar (h := ae (nP X Y)) rfl rfl (by first | exact rfl | (simp only [ev, zP, J, D]; exact rfl)) (by simp only [zV, acs, reduceCtorEq, J, D, M, U, O, S]) ?_
  apply k0; clear k0; simp only [zP, D]
  (refine Z rfl fun _ k0 => ?_; simp only [zO, zT, acs, reduceCtorEq, J, D, M, U, O, S]; (repeat refine an ?_); (try refine .inl ?_); apply k0; clear k0; simp only [zP, D])
  refine aa ?_
  refine ⟨by simp only [zP, J, D]; exact rfl, rfl, ?_, rfl⟩; (repeat refine aA rfl ?_); exact aN (by exact rfl) hq3
 case b3 => exact bc
 simp only [aK, aF]
 (refine Z rfl fun _ k0 => ?_; simp only [zO, zT, acs, reduceCtorEq, J, D, M, U, O, S]; (repeat refine an ?_); (try refine .inl ?_); apply k0; clear k0; simp only [zP, D])
 refine aa ?_
 apply k2; clear k2; refine kp [0, 1, 2, 3, 4] ?_
 refine ah ?_
 refine ⟨nr, _, rfl, ?_⟩; simp only [zF, zP, J, D]
 refine VLE.of_eq ?_
 all_goals rfl
theorem lj {P : Program} {f : FuncId} {args args' : List AV} {r : AV} (h : aV P f args' r) (hl : aS VLE args args') : aV P f args r :=
  ⟨h.1, fun C L σ w vs hP hi ha => h.2 C L σ w vs hP hi (hl.map2 (fun _ _ _ hab hac => hab C L σ w _ hac) ha)⟩
theorem oK (l : List TRC) (hl : l.length ≤ 7000) : aV Tryd.prog 20 [.agg [.int .i64 2, .nils], .one (.list (.pair (.list (.int .i64)) (.pair (.list (.int .i64)) .unit)) l)] (.tup [.agg [.int .i64 2, .list (.pair (.list (.int .i64)) (.pair (.list (.int .i64)) .unit)) (jO 2 [] l)], .one (.int .i64 (jM (d9 2 [] l) l.length)), .one (.int .i64 (hY 2 [] l))]) :=
  lj (pa 2 [] l List.Pairwise.nil (fun u hu => by cases hu) (by simp; omega)) ⟨oE ⟨.refl _, aE rfl, trivial⟩, .of_eq rfl, trivial⟩
theorem p5 (n m : Int) (X : List TRC) : aV Tryd.prog 22 [.agg [.int .i64 n, .list (.pair (.list (.int .i64)) (.pair (.list (.int .i64)) .unit)) X], .agg [.int .i64 m, .nils]] (.one (.bool (decide (n = m) && decide (X = [])))) :=
  lj (qv n m X []) ⟨.of_eq rfl, oE ⟨.refl _, aE rfl, trivial⟩, trivial⟩
theorem pQ (l : List TRC) (n : Int) (hl : l.length ≤ 30000) (hBt : ∀ t, t ∈ l → t.1.length ≤ 3000) : aV Tryd.prog 17 [.one (.list (.pair (.list (.int .i64)) (.pair (.list (.int .i64)) .unit)) l), .one (.int .i64 n)] (.one (.list (.int .i64) (qf l n))) := by
 refine aw Tryd.func17 rfl (by kernel_rfl) (Nat.le_of_ble_eq_true rfl) rfl fun C hP hN hB => ?_
 replace hN : C.N = 47 := hN
 simp only [aH, D]
 refine V fun _ k1 => ?_
 refine a9 hP hN rfl ?_
 (refine Z rfl fun _ k0 => ?_; simp only [zO, zT, acs, reduceCtorEq, J, D, M, U, O, S]; (repeat refine an ?_); (try refine .inl ?_); apply k0; clear k0; simp only [zP, D])
 refine aa ?_
 apply k1; clear k1; refine kp [0, 1, 4] ?_
 refine V fun _ k2 => ?_
 refine V fun _ k3 => ?_
 refine a9 hP hN rfl ?_
 iterate 3 (refine Z rfl fun _ k0 => ?_; simp only [zO, zT, acs, reduceCtorEq, J, D, M, U, O, S]; (repeat refine an ?_); (try refine .inl ?_); apply k0; clear k0; simp only [zP, D])
 refine' aB (want := false) 2 rfl (m := 12) (by simp only [zP, J, D]; exact rfl) (by kernel_rfl) rfl rfl rfl rfl rfl (fun hg4 => ?a4) ?b4 ?c4
 case a4 =>
  have hq4 := hg4; (try simp only [zB, reduceCtorEq] at hg4); simp only [zE]
  iterate 2 (refine aL rfl fun _ k0 => ?_; simp only [zO, zT, acs, reduceCtorEq, J, D, M, U, O, S]; (repeat refine an ?_); (try refine .inl ?_); apply k0; clear k0; simp only [zP, D])
  (refine Z rfl fun _ k0 => ?_; simp only [zO, zT, acs, reduceCtorEq, J, D, M, U, O, S]; (repeat refine an ?_); (try refine .inl ?_); apply k0; clear k0; simp only [zP, D])
  refine aa ?_
  refine ⟨by simp only [zP, J, D]; exact rfl, rfl, ?_, rfl⟩; (repeat refine aA rfl ?_); exact aN (by exact rfl) hq4
 case b4 => exact bc
 simp only [aK, aF]
 refine aa ?_
 apply k3; clear k3; refine kp [0, 1, 4, 15] ?_
 refine cd (fun hc5 => ?_) (fun hc5 => ?_)
 ·(try simp only [zB, reduceCtorEq] at hc5)
  have hno := hc5
  refine V fun _ k6 => ?_
  refine a9 hP hN rfl ?_
  (refine Z rfl fun _ k0 => ?_; simp only [zO, zT, acs, reduceCtorEq, J, D, M, U, O, S]; (repeat refine an ?_); (try refine .inl ?_); apply k0; clear k0; simp only [zP, D])
  refine aa ?_
  apply k6; clear k6; refine kp [0, 1, 4, 15] ?_
  refine ah ?_
  refine ⟨nr, _, rfl, ?_⟩; simp only [zF, zP, J, D]
  first
  | (rw [ou (by omega)]; exact iR (aE rfl))
  | (rw [od (by omega), show k = l.length by omega, az]; exact VLE.of_eq rfl)
 (try simp only [zB, reduceCtorEq] at hc5)
 have hyes := hc5
 refine ag ?_
 apply k2; clear k2; refine kp [0, 1, 4, 15] ?_
 refine V fun _ k7 => ?_
 refine a9 hP hN rfl ?_
 (refine Z rfl fun _ k0 => ?_; simp only [zO, zT, acs, reduceCtorEq, J, D, M, U, O, S]; (repeat refine an ?_); (try refine .inl ?_); apply k0; clear k0; simp only [zP, D])
 (refine Z rfl fun _ k0 => ?_; simp only [zE, op1, ev, lkp, ch, bg, dz, b9, Ty.size, Ty.dflt, reduceCtorEq, J, D, M, U, O, S, Tryd.el43, Tryd.td3, Tryd.td43]; (repeat refine an ?_); (try refine .inl ?_); apply k0; clear k0; simp only [zP, D])
 (refine Z rfl fun _ k0 => ?_; simp only [zO, zT, acs, reduceCtorEq, J, D, M, U, O, S]; (repeat refine an ?_); (try refine .inl ?_); apply k0; clear k0; simp only [zP, D])
 refine aa ?_
 apply k7; clear k7; refine kp [0, 1, 4, 5, 15] ?_
 refine V fun _ k8 => ?_
 refine V fun _ k9 => ?_
 refine a9 hP hN rfl ?_
 iterate 3 (refine Z rfl fun _ k0 => ?_; simp only [zO, zT, acs, reduceCtorEq, J, D, M, U, O, S]; (repeat refine an ?_); (try refine .inl ?_); apply k0; clear k0; simp only [zP, D])
 refine aa ?_
 apply k9; clear k9; refine kp [0, 1, 4, 5, 15, 18, 19, 20] ?_
 refine au ?_
 refine aU (fun n10 s10 => ∃ (k : Nat), (k ≤ l.length) ∧ n10 = l.length - k ∧ s10 = { env := [(1, .one (.int .i64 n)), (4, .one .nils), (5, .one (.row 0 0)), (18, .one (.list (.pair (.list (.int .i64)) (.pair (.list (.int .i64)) .unit)) l)), (19, .one (.int .i64 (l.length : Int))), (20, .one (.int .i64 (k : Int)))], L := [.row (.int .i64) 3 0 (eh n (List.replicate n.toNat 0) (l.take k))] }) ?_ ?_
 ·exact ⟨_, _, ak [1, 4, 5, 18, 19, 20], 0, Nat.zero_le _, rfl, rfl⟩
 rintro n10 s10 ⟨k, hk, rfl, rfl⟩
 refine V fun _ k11 => ?_
 refine a9 hP hN rfl ?_
 (refine Z rfl fun _ k0 => ?_; simp only [zO, zT, acs, reduceCtorEq, J, D, M, U, O, S]; (repeat refine an ?_); (try refine .inl ?_); apply k0; clear k0; simp only [zP, D])
 refine aa ?_
 apply k11; clear k11; refine kp [1, 4, 5, 18, 19, 20, 21] ?_
 refine V fun _ k12 => ?_
 refine cd (fun hc13 => ?_) (fun hc13 => ?_)
 ·(try simp only [zB, reduceCtorEq] at hc13)
  refine ag ?_
  apply k12; clear k12; refine kp [1, 4, 5, 18, 19, 20, 21] ?_
  refine V fun _ k14 => ?_
  refine au ?_
  refine V fun _ k15 => ?_
  obtain ⟨x1, x2, hgx⟩ : ∃ x1 x2, ∀ d, l.getD k d = (x1, (x2, ())) := ⟨_, _, cM (by omega)⟩
  have hx1 : x1.length ≤ 3000 := by have h9 := hBt (l.getD k aQ) (oV (by omega)); rw [hgx] at h9; exact h9
  refine a9 hP hN rfl ?_
  iterate 4 (refine Z rfl fun _ k0 => ?_; simp only [zO, zT, acs, reduceCtorEq, J, D, M, U, O, S, gt, af, hgx]; (repeat refine an ?_); (try refine .inl ?_); apply k0; clear k0; simp only [zP, D])
  refine aa ?_
  apply k15; clear k15; refine kp [1, 4, 5, 7, 18, 19, 20, 21] ?_
  refine V fun _ k16 => ?_
  refine a9 hP hN rfl ?_
  iterate 4 (refine Z rfl fun _ k0 => ?_; simp only [zO, zT, acs, reduceCtorEq, J, D, M, U, O, S]; (repeat refine an ?_); (try refine .inl ?_); apply k0; clear k0; simp only [zP, D])
  refine aa ?_
  apply k16; clear k16; refine kp [1, 4, 5, 7, 18, 19, 20, 21, 25, 26, 27] ?_
  refine au ?_
  refine aU (fun n17 s17 => ∃ (j : Nat), (j ≤ x1.length) ∧ n17 = x1.length - j ∧ s17 = { env := [(1, .one (.int .i64 n)), (4, .one .nils), (5, .one (.row 0 0)), (7, .one (.ptr 1 0 0 0)), (18, .one (.list (.pair (.list (.int .i64)) (.pair (.list (.int .i64)) .unit)) l)), (19, .one (.int .i64 (l.length : Int))), (20, .one (.int .i64 (k : Int))), (21, .one (.bool (decide ((k : Int) < l.length)))), (25, .one (.list (.int .i64) x1)), (26, .one (.int .i64 (x1.length : Int))), (27, .one (.int .i64 (j : Int)))], L := [.row (.int .i64) 3 0 (dq n (eh n (List.replicate n.toNat 0) (l.take k)) (x1.take j)), .vars 60 [.list (.int .i64) x1, .list (.int .i64) x2]] }) ?_ ?_
  ·exact ⟨_, _, ak [1, 4, 5, 7, 18, 19, 20, 21, 25, 26, 27], 0, Nat.zero_le _, rfl, rfl⟩
  rintro n17 s17 ⟨j, hj, rfl, rfl⟩
  refine V fun _ k18 => ?_
  refine a9 hP hN rfl ?_
  (refine Z rfl fun _ k0 => ?_; simp only [zO, zT, acs, reduceCtorEq, J, D, M, U, O, S]; (repeat refine an ?_); (try refine .inl ?_); apply k0; clear k0; simp only [zP, D])
  refine aa ?_
  apply k18; clear k18; refine kp [1, 4, 5, 7, 18, 19, 20, 21, 25, 26, 27, 28] ?_
  refine V fun _ k19 => ?_
  refine cd (fun hc20 => ?_) (fun hc20 => ?_)
  ·(try simp only [zB, reduceCtorEq] at hc20)
   refine ag ?_
   apply k19; clear k19; refine kp [1, 4, 5, 7, 18, 19, 20, 21, 25, 26, 27, 28] ?_
   refine V fun _ k21 => ?_
   refine au ?_
   refine V fun _ k22 => ?_
   refine a9 hP hN rfl ?_
   iterate 3 (refine Z rfl fun _ k0 => ?_; simp only [zO, zT, acs, reduceCtorEq, J, D, M, U, O, S]; (repeat refine an ?_); (try refine .inl ?_); apply k0; clear k0; simp only [zP, D])
   refine aa ?_
   apply k22; clear k22; refine kp [1, 4, 5, 7, 9, 18, 19, 20, 21, 25, 26, 27, 28] ?_
   refine V fun _ k23 => ?_
   refine a9 hP hN rfl ?_
   iterate 3 (refine Z rfl fun _ k0 => ?_; simp only [zO, zT, acs, reduceCtorEq, J, D, M, U, O, S]; (repeat refine an ?_); (try refine .inl ?_); apply k0; clear k0; simp only [zP, D])
   refine' aB (want := true) 3 rfl (m := 33) (by simp only [zP, J, D]; exact rfl) (by kernel_rfl) rfl rfl rfl rfl rfl (fun hg24 => ?a24) ?b24 ?c24
   case a24 =>
    have hq24 := hg24; (try simp only [zB, reduceCtorEq] at hg24); simp only [zE]
    iterate 3 (refine aL rfl fun _ k0 => ?_; simp only [zO, zT, acs, reduceCtorEq, J, D, M, U, O, S]; (repeat refine an ?_); (try refine .inl ?_); apply k0; clear k0; simp only [zP, D])
    (refine Z rfl fun _ k0 => ?_; simp only [zO, zT, acs, reduceCtorEq, J, D, M, U, O, S]; (repeat refine an ?_); (try refine .inl ?_); apply k0; clear k0; simp only [zP, D])
    refine aa ?_
    refine ⟨by simp only [zP, J, D]; exact rfl, rfl, ?_, rfl⟩; (repeat refine aA rfl ?_); exact aN (by exact rfl) hq24
   case b24 => exact bc
   simp only [aK, aF]
   refine aa ?_
   apply k23; clear k23; refine kp [1, 4, 5, 7, 9, 18, 19, 20, 21, 25, 26, 27, 28, 37] ?_
   refine cd (fun hc25 => ?_) (fun hc25 => ?_)
   ·(try simp only [zB, reduceCtorEq] at hc25)
    have hin := hc25
    have hcl := ju n (x1.take j) (eh n (List.replicate n.toNat 0) (l.take k))
    have hcl2 := mn n (l.take k) (List.replicate n.toNat 0)
    rw [bo] at hcl2
    have hbn := rF (n := n) (k := k) (j := j) (x := x1) hBt (by omega) (by omega) (x1.getD j 0).toNat
    refine a9 hP hN rfl ?_
    iterate 7 (refine Z rfl fun _ k0 => ?_; simp only [zO, zT, acs, reduceCtorEq, J, D, M, U, O, S]; (repeat refine an ?_); (try refine .inl ?_); apply k0; clear k0; simp only [zP, D])
    refine aa ?_
    apply k21; clear k21; refine kp [1, 4, 5, 7, 9, 18, 19, 20, 21, 25, 26, 27, 28, 37] ?_
    refine a9 hP hN rfl ?_
    iterate 2 (refine Z rfl fun _ k0 => ?_; simp only [zO, zT, acs, reduceCtorEq, J, D, M, U, O, S]; (repeat refine an ?_); (try refine .inl ?_); apply k0; clear k0; simp only [zP, D])
    refine aa ?_
    first
    | (refine ⟨_, _, ?_, ak [1, 4, 5, 7, 18, 19, 20, 21, 25, 26, 27], j + 1, by omega, rfl, ?_⟩
       · omega
       · rw [fO (by omega), if_pos hin]; rfl)
    | (refine ⟨_, _, ?_, ak [1, 4, 5, 7, 18, 19, 20, 21, 25, 26, 27], j + 1, by omega, rfl, ?_⟩
       · omega
       · rw [fO (by omega), if_neg (by omega)]; rfl)
   (try simp only [zB, reduceCtorEq] at hc25)
   have hout := hc25
   refine ag ?_
   apply k21; clear k21; refine kp [1, 4, 5, 7, 9, 18, 19, 20, 21, 25, 26, 27, 28, 37] ?_
   refine a9 hP hN rfl ?_
   iterate 2 (refine Z rfl fun _ k0 => ?_; simp only [zO, zT, acs, reduceCtorEq, J, D, M, U, O, S]; (repeat refine an ?_); (try refine .inl ?_); apply k0; clear k0; simp only [zP, D])
   refine aa ?_
   first
   | (refine ⟨_, _, ?_, ak [1, 4, 5, 7, 18, 19, 20, 21, 25, 26, 27], j + 1, by omega, rfl, ?_⟩
      · omega
      · rw [fO (by omega), if_pos hin]; rfl)
   | (refine ⟨_, _, ?_, ak [1, 4, 5, 7, 18, 19, 20, 21, 25, 26, 27], j + 1, by omega, rfl, ?_⟩
      · omega
      · rw [fO (by omega), if_neg (by omega)]; rfl)
  (try simp only [zB, reduceCtorEq] at hc20)
  refine aR ?_
  apply k14; clear k14; refine kp [1, 4, 5, 7, 18, 19, 20, 21, 25, 26, 27, 28] ?_
  refine kp [1, 4, 5, 18, 19, 20] ?_
  refine aC (L1 := [_]) rfl (by rw [hB]; exact Nat.zero_le _) rfl rfl ?_
  refine a9 hP hN rfl ?_
  iterate 2 (refine Z rfl fun _ k0 => ?_; simp only [zO, zT, acs, reduceCtorEq, J, D, M, U, O, S]; (repeat refine an ?_); (try refine .inl ?_); apply k0; clear k0; simp only [zP, D])
  refine aa ?_
  refine ⟨_, _, ?_, ak [1, 4, 5, 18, 19, 20], k + 1, by omega, rfl, ?_⟩
  · omega
  · rw [pP (by omega) aQ, hgx, show j = x1.length by omega, az]; rfl
 (try simp only [zB, reduceCtorEq] at hc13)
 refine aR ?_
 apply k8; clear k8; refine kp [1, 4, 5, 18, 19, 20, 21] ?_
 refine V fun _ k26 => ?_
 refine a9 hP hN rfl ?_
 iterate 2 (refine Z rfl fun _ k0 => ?_; simp only [zO, zT, acs, reduceCtorEq, J, D, M, U, O, S]; (repeat refine an ?_); (try refine .inl ?_); apply k0; clear k0; simp only [zP, D])
 refine aa ?_
 apply k26; clear k26; refine kp [1, 4, 5, 18, 19, 20, 21] ?_
 refine ah ?_
 refine ⟨nr, _, rfl, ?_⟩; simp only [zF, zP, J, D]
 first
 | (rw [ou (by omega)]; exact iR (aE rfl))
 | (rw [od (by omega), show k = l.length by omega, az]; exact VLE.of_eq rfl)
open Go.Shelf in
def Tryd.lays219_ren : Go.Shelf.Ren := ⟨fun | 219 => 68 | 217 => 82 | 225 => 83 | 224 => 84 | 267 => 85 | 266 => 98 | 314 => 99 | n => n, fun | 9 => 9 | 3 => 3 | 4 => 4 | 5 => 5 | 46 => 122 | 146 => 132 | 51 => 131 | n => n, fun | 1 => 0 | n => n⟩
theorem Tryd.lays219 : Go.Proofs.Lays.n219 Tryd.prog Tryd.lays219_ren := {
  mixed := by kernel_rfl,
  f217 := Tryd.func82.trans (congrArg some (by kernel_rfl)),
  f219 := Tryd.func68.trans (congrArg some (by kernel_rfl)),
  f224 := Tryd.func84.trans (congrArg some (by kernel_rfl)),
  f225 := Tryd.func83.trans (congrArg some (by kernel_rfl)),
  f266 := Tryd.func98.trans (congrArg some (by kernel_rfl)),
  f267 := Tryd.func85.trans (congrArg some (by kernel_rfl)),
  f314 := Tryd.func99.trans (congrArg some (by kernel_rfl)),
  t3 := Tryd.underlying3,
  a3 := Tryd.isAgg3,
  z3 := Tryd.sizeOf3,
  v3 := Tryd.zeroValue3,
  t4 := Tryd.underlying4,
  a4 := Tryd.isAgg4,
  z4 := Tryd.sizeOf4,
  v4 := Tryd.zeroValue4,
  t5 := Tryd.underlying5,
  a5 := Tryd.isAgg5,
  z5 := Tryd.sizeOf5,
  v5 := Tryd.zeroValue5,
  t9 := Tryd.underlying9,
  a9 := Tryd.isAgg9,
  z9 := Tryd.sizeOf9,
  v9 := Tryd.zeroValue9,
  t46 := Tryd.underlying122,
  a46 := Tryd.isAgg122,
  z46 := Tryd.sizeOf122,
  v46 := Tryd.zeroValue122,
  t51 := Tryd.underlying131,
  a51 := Tryd.isAgg131,
  z51 := Tryd.sizeOf131,
  v51 := Tryd.zeroValue131,
  t146 := Tryd.underlying132,
  a146 := Tryd.isAgg132,
  z146 := Tryd.sizeOf132,
  v146 := Tryd.zeroValue132,
  g1 := by kernel_rfl }
theorem qy (s : List UInt8) (c : UInt8) : aV Tryd.prog 68 [.one (.str s), .one (.str [c])] (.one (.int .i64 (Lib.indexByte s c))) := by
  refine ⟨⟨Tryd.f68, Tryd.func68, by kernel_rfl, by kernel_rfl⟩, fun C L σ w vs hP hi ha => ?_⟩
  match vs, ha with
  | [v1, v2], ⟨h1, h2, _⟩ =>
  have e1 : v1 = .string ⟨s.toArray⟩ := h1.2
  have e2 := h2.2
  subst e1
  simp only [RC0] at e2
  subst e2
  refine Calls.mono (Any.stringslite_Index_one Tryd.lays219 ⟨s.toArray⟩ c w) fun e w' hh => ?_
  obtain ⟨e1, e2⟩ := hh
  subst e2
  exact ⟨_, e1, MORE.refl _, rfl, rfl⟩
theorem ry (s : Bs) (c : UInt8) (hs : s.length ≤ 1000000000000) : aV Tryd.prog 48 [.one (.str s), .one (.str [c])] (.tup [.one (.str (dB s c)), .one (.str (cW s c)), .one (.bool (nL s c))]) := by
 refine aw Tryd.func48 rfl (by kernel_rfl) (Nat.le_of_ble_eq_true rfl) rfl fun C hP hN hB => ?_
 replace hN : C.N = 23 := hN
 simp only [aH, D]
 refine V fun _ k1 => ?_
 refine a9 hP hN rfl ?_
 iterate 3 (refine Z rfl fun _ k0 => ?_; simp only [zO, zT, acs, reduceCtorEq, J, D, M, U, O, S]; (repeat refine an ?_); (try refine .inl ?_); apply k0; clear k0; simp only [zP, D])
 refine aa ?_
 apply k1; clear k1; refine kp [0, 1, 4, 5, 6] ?_
 refine V fun _ k2 => ?_
 refine V fun _ k3 => ?_
 refine a9 hP hN rfl ?_
 iterate 2 (refine Z rfl fun _ k0 => ?_; simp only [zO, zT, acs, reduceCtorEq, J, D, M, U, O, S]; (repeat refine an ?_); (try refine .inl ?_); apply k0; clear k0; simp only [zP, D])
 refine Z rfl fun _ k0 => ?_
 refine ar (h := ae (qy s c)) rfl rfl (by first | exact rfl | (simp only [ev, zP, J, D]; exact rfl)) (by simp only [zV, acs, reduceCtorEq, J, D, M, U, O, S]) ?_
 apply k0; clear k0; simp only [zP, D]
 (refine Z rfl fun _ k0 => ?_; simp only [zO, zT, acs, reduceCtorEq, J, D, M, U, O, S]; (repeat refine an ?_); (try refine .inl ?_); apply k0; clear k0; simp only [zP, D])
 refine aa ?_
 apply k3; clear k3; refine kp [0, 1, 4, 5, 6, 7] ?_
 refine V fun _ k4 => ?_
 refine a9 hP hN rfl ?_
 iterate 2 (refine Z rfl fun _ k0 => ?_; simp only [zO, zT, acs, reduceCtorEq, J, D, M, U, O, S]; (repeat refine an ?_); (try refine .inl ?_); apply k0; clear k0; simp only [zP, D])
 refine aa ?_
 apply k4; clear k4; refine kp [0, 1, 4, 5, 6, 7, 12] ?_
 refine cd (fun hc5 => ?_) (fun hc5 => ?_)
 ·(try simp only [zB, reduceCtorEq] at hc5)
  have hy := hc5
  refine V fun _ k6 => ?_
  have hix := (gi (by omega : 0 ≤ Lib.indexByte s c)).1
  have hto : (Lib.indexByte s c + 1).toNat = (Lib.indexByte s c).toNat + 1 := by omega
  refine bS hP hN Tryd.mixed rfl ?_
  iterate 2 (refine Z rfl fun _ k0 => ?_; simp only [zO, zT, acs, reduceCtorEq, J, D, M, U, O, S, ad, aq, az, hto, Nat.zero_add, Int.natCast_one]; (repeat refine an ?_); (try refine .inl ?_); apply k0; clear k0; simp only [zP, D])
  (refine Z rfl fun _ k0 => ?_; simp only [zE, op1, ev, lkp, ch, bg, bT, bnd, Ty.size, bZ, fV, fc, bM, cq, dm, Nat.div_one, cD, cB, b9, dite_true, di, bm, cA, cG, ck, d4, reduceCtorEq, J, D, M, U, O, S, Tryd.td3, Tryd.td4, Tryd.td9, ad, aq, az, hto, Nat.zero_add, Int.natCast_one]; (repeat refine an ?_); (try refine .inl ?_); apply k0; clear k0; simp only [zP, D])
  iterate 5 (refine Z rfl fun _ k0 => ?_; simp only [zO, zT, acs, reduceCtorEq, J, D, M, U, O, S, ad, aq, az, hto, Nat.zero_add, Int.natCast_one]; (repeat refine an ?_); (try refine .inl ?_); apply k0; clear k0; simp only [zP, D])
  (refine Z rfl fun _ k0 => ?_; simp only [zE, op1, ev, lkp, ch, bg, bT, bnd, Ty.size, bZ, fV, fc, bM, cq, dm, Nat.div_one, cD, cB, b9, dite_true, di, bm, cA, cG, ck, d4, reduceCtorEq, J, D, M, U, O, S, Tryd.td3, Tryd.td4, Tryd.td9, ad, aq, az, hto, Nat.zero_add, Int.natCast_one]; (repeat refine an ?_); (try refine .inl ?_); apply k0; clear k0; simp only [zP, D])
  iterate 3 (refine Z rfl fun _ k0 => ?_; simp only [zO, zT, acs, reduceCtorEq, J, D, M, U, O, S, ad, aq, az, hto, Nat.zero_add, Int.natCast_one]; (repeat refine an ?_); (try refine .inl ?_); apply k0; clear k0; simp only [zP, D])
  refine aa ?_
  refine ⟨by kernel_rfl, ?_⟩
  apply k6; clear k6; refine kp [0, 1, 4, 5, 6, 7, 12] ?_
  refine ah ?_
  refine ⟨nr, _, rfl, ?_⟩; simp only [zF, zP, J, D]
  refine VLE.of_eq ?_
  first
  | (obtain ⟨e1, e2, e3⟩ := ly (s := s) (c := c) (by omega); rw [e1, e2, e3]; done)
  | (obtain ⟨e1, e2, e3⟩ := pl (s := s) (c := c) (by omega); rw [e1, e2, e3]; done)
 (try simp only [zB, reduceCtorEq] at hc5)
 have hn := hc5
 refine ag ?_
 apply k2; clear k2; refine kp [0, 1, 4, 5, 6, 7, 12] ?_
 refine V fun _ k7 => ?_
 refine a9 hP hN rfl ?_
 iterate 4 (refine Z rfl fun _ k0 => ?_; simp only [zO, zT, acs, reduceCtorEq, J, D, M, U, O, S]; (repeat refine an ?_); (try refine .inl ?_); apply k0; clear k0; simp only [zP, D])
 refine aa ?_
 apply k7; clear k7; refine kp [0, 1, 4, 5, 6, 7, 12] ?_
 refine ah ?_
 refine ⟨nr, _, rfl, ?_⟩; simp only [zF, zP, J, D]
 refine VLE.of_eq ?_
 first
 | (obtain ⟨e1, e2, e3⟩ := ly (s := s) (c := c) (by omega); rw [e1, e2, e3]; done)
 | (obtain ⟨e1, e2, e3⟩ := pl (s := s) (c := c) (by omega); rw [e1, e2, e3]; done)
theorem qa (s : Bs) (c : UInt8) (hs : s.length ≤ 1000000000000) : aV Tryd.prog 26 [.one (.str s), .one (.str [c])] (.tup [.one (.str (dB s c)), .one (.str (cW s c)), .one (.bool (nL s c))]) := by
 refine aw Tryd.func26 rfl (by kernel_rfl) (Nat.le_of_ble_eq_true rfl) rfl fun C hP hN hB => ?_
 replace hN : C.N = 13 := hN
 simp only [aH, D]
 refine V fun _ k1 => ?_
 refine a9 hP hN rfl ?_
 iterate 3 (refine Z rfl fun _ k0 => ?_; simp only [zO, zT, acs, reduceCtorEq, J, D, M, U, O, S]; (repeat refine an ?_); (try refine .inl ?_); apply k0; clear k0; simp only [zP, D])
 refine aa ?_
 apply k1; clear k1; refine kp [0, 1, 4, 5, 6] ?_
 refine V fun _ k2 => ?_
 refine a9 hP hN rfl ?_
 iterate 2 (refine Z rfl fun _ k0 => ?_; simp only [zO, zT, acs, reduceCtorEq, J, D, M, U, O, S]; (repeat refine an ?_); (try refine .inl ?_); apply k0; clear k0; simp only [zP, D])
 refine Z rfl fun _ k0 => ?_
 refine ar (h := ae (ry s c hs)) rfl rfl (by first | exact rfl | (simp only [ev, zP, J, D]; exact rfl)) (by simp only [zV, acs, reduceCtorEq, J, D, M, U, O, S]) ?_
 apply k0; clear k0; simp only [zP, D]
 iterate 6 (refine Z rfl fun _ k0 => ?_; simp only [zO, zT, acs, reduceCtorEq, J, D, M, U, O, S]; (repeat refine an ?_); (try refine .inl ?_); apply k0; clear k0; simp only [zP, D])
 refine aa ?_
 apply k2; clear k2; refine kp [0, 1, 4, 5, 6] ?_
 refine ah ?_
 refine ⟨nr, _, rfl, ?_⟩; simp only [zF, zP, J, D]
 refine VLE.of_eq ?_
 rfl
theorem qE (s p : Bs) (hs : s.length ≤ 9223372036854775807) : aV Tryd.prog 49 [.one (.str s), .one (.str p)] (.one (.bool (dF s p))) := by
 refine aw Tryd.func49 rfl (by kernel_rfl) (Nat.le_of_ble_eq_true rfl) rfl fun C hP hN hB => ?_
 replace hN : C.N = 21 := hN
 simp only [aH, D]
 refine V fun _ k1 => ?_
 refine a9 hP hN rfl ?_
 (refine Z rfl fun _ k0 => ?_; simp only [zO, zT, acs, reduceCtorEq, J, D, M, U, O, S]; (repeat refine an ?_); (try refine .inl ?_); apply k0; clear k0; simp only [zP, D])
 refine aa ?_
 apply k1; clear k1; refine kp [0, 1, 4] ?_
 refine V fun _ k2 => ?_
 refine a9 hP hN rfl ?_
 iterate 6 (refine Z rfl fun _ k0 => ?_; simp only [zO, zT, acs, reduceCtorEq, J, D, M, U, O, S]; (repeat refine an ?_); (try refine .inl ?_); apply k0; clear k0; simp only [zP, D])
 refine' aB (want := true) 9 rfl (m := 10) (by simp only [zP, J, D]; exact rfl) (by kernel_rfl) rfl rfl rfl rfl rfl (fun hg3 => ?a3) ?b3 ?c3
 case a3 =>
  have hq3 := hg3; (try simp only [zB, reduceCtorEq] at hg3); simp only [zE]
  iterate 6 (refine aL rfl fun _ k0 => ?_; simp only [zO, zT, acs, reduceCtorEq, J, D, M, U, O, S]; (repeat refine an ?_); (try refine .inl ?_); apply k0; clear k0; simp only [zP, D])
  (refine aL rfl fun _ k0 => ?_; simp only [zE, op1, ev, lkp, ch, bg, bT, bnd, Ty.size, reduceCtorEq, J, D, M, U, O, S, Tryd.td9]; (repeat refine an ?_); (try refine .inl ?_); apply k0; clear k0; simp only [zP, D])
  iterate 2 (refine aL rfl fun _ k0 => ?_; simp only [zO, zT, acs, reduceCtorEq, J, D, M, U, O, S]; (repeat refine an ?_); (try refine .inl ?_); apply k0; clear k0; simp only [zP, D])
  (refine Z rfl fun _ k0 => ?_; simp only [zO, zT, acs, reduceCtorEq, J, D, M, U, O, S]; (repeat refine an ?_); (try refine .inl ?_); apply k0; clear k0; simp only [zP, D])
  refine aa ?_
  refine ⟨by simp only [zP, J, D]; exact rfl, rfl, ?_, rfl⟩; (repeat refine aA rfl ?_); exact aN (by exact rfl) hq3
 case b3 => exact bc
 simp only [aK, aF]
 (refine Z rfl fun _ k0 => ?_; simp only [zO, zT, acs, reduceCtorEq, J, D, M, U, O, S]; (repeat refine an ?_); (try refine .inl ?_); apply k0; clear k0; simp only [zP, D])
 refine aa ?_
 apply k2; clear k2; refine kp [0, 1, 4] ?_
 refine ah ?_
 refine ⟨nr, _, rfl, ?_⟩; simp only [zF, zP, J, D]
 refine VLE.of_eq ?_
 have e : decide ((p.length : Int) ≤ s.length) = decide (p.length ≤ s.length) := decide_eq_decide.2 Int.ofNat_le
 rw [e, az, Int.toNat_sub]; rfl
theorem rE (s p : Bs) (hs : s.length ≤ 9223372036854775807) : aV Tryd.prog 27 [.one (.str s), .one (.str p)] (.one (.bool (dF s p))) := by
 refine aw Tryd.func27 rfl (by kernel_rfl) (Nat.le_of_ble_eq_true rfl) rfl fun C hP hN hB => ?_
 replace hN : C.N = 8 := hN
 simp only [aH, D]
 refine V fun _ k1 => ?_
 refine a9 hP hN rfl ?_
 (refine Z rfl fun _ k0 => ?_; simp only [zO, zT, acs, reduceCtorEq, J, D, M, U, O, S]; (repeat refine an ?_); (try refine .inl ?_); apply k0; clear k0; simp only [zP, D])
 refine aa ?_
 apply k1; clear k1; refine kp [0, 1, 4] ?_
 refine V fun _ k2 => ?_
 refine a9 hP hN rfl ?_
 iterate 2 (refine Z rfl fun _ k0 => ?_; simp only [zO, zT, acs, reduceCtorEq, J, D, M, U, O, S]; (repeat refine an ?_); (try refine .inl ?_); apply k0; clear k0; simp only [zP, D])
 refine Z rfl fun _ k0 => ?_
 refine ar (h := ae (qE s p hs)) rfl rfl (by first | exact rfl | (simp only [ev, zP, J, D]; exact rfl)) (by simp only [zV, acs, reduceCtorEq, J, D, M, U, O, S]) ?_
 apply k0; clear k0; simp only [zP, D]
 (refine Z rfl fun _ k0 => ?_; simp only [zO, zT, acs, reduceCtorEq, J, D, M, U, O, S]; (repeat refine an ?_); (try refine .inl ?_); apply k0; clear k0; simp only [zP, D])
 refine aa ?_
 apply k2; clear k2; refine kp [0, 1, 4] ?_
 refine ah ?_
 refine ⟨nr, _, rfl, ?_⟩; simp only [zF, zP, J, D]
 refine VLE.of_eq ?_
 rfl
theorem tR (s : Bs) : aV Tryd.prog 66 [.one (.str s)] (.one (.bool (cf s))) := by
 refine aw Tryd.func66 rfl (by kernel_rfl) (Nat.le_of_ble_eq_true rfl) rfl fun C hP hN hB => ?_
 replace hN : C.N = 55 := hN
 simp only [aH, D]
 refine V fun _ k1 => ?_
 refine a9 hP hN rfl ?_
 (refine Z rfl fun _ k0 => ?_; simp only [zO, zT, acs, reduceCtorEq, J, D, M, U, O, S]; (repeat refine an ?_); (try refine .inl ?_); apply k0; clear k0; simp only [zP, D])
 refine aa ?_
 apply k1; clear k1; refine kp [0, 2] ?_
 refine V fun _ k2 => ?_
 refine V fun _ k3 => ?_
 refine a9 hP hN rfl ?_
 (refine Z rfl fun _ k0 => ?_; simp only [zO, zT, acs, reduceCtorEq, J, D, M, U, O, S]; (repeat refine an ?_); (try refine .inl ?_); apply k0; clear k0; simp only [zP, D])
 (refine Z rfl fun _ k0 => ?_; simp only [zE, op1, ev, lkp, ch, bg, lg, reduceCtorEq, J, D, M, U, O, S, Tryd.td9]; (repeat refine an ?_); (try refine .inl ?_); apply k0; clear k0; simp only [zP, D])
 refine aa ?_
 apply k3; clear k3; refine kp [0, 2, 7] ?_
 refine au ?_
 refine aU (fun n4 s4 => ∃ (k : Nat), (k ≤ s.length) ∧ (∀ j, j < k → okI (bt s j)) ∧ n4 = s.length - k ∧ s4 = { env := [(0, .one (.str s)), (2, .one (.bool false)), (7, .one (.ptr 0 0 0 0))], L := [.itr s k] }) ?_ ?_
 ·exact ⟨_, _, ak [0, 2, 7], 0, Nat.zero_le _, fun q hq => by omega, rfl, rfl⟩
 rintro n4 s4 ⟨k, hk, hI, rfl, rfl⟩
 refine V fun _ k5 => ?_
 refine a9 hP hN rfl ?_
 (refine Z rfl fun _ k0 => ?_; simp only [zE, op1, ev, lkp, ch, bg, mS, eM, reduceCtorEq, J, D, M, U, O, S, Tryd.td4]; (repeat refine an ?_); (try refine .inl ?_); apply k0; clear k0; simp only [zP, D])
 (refine Z rfl fun _ k0 => ?_; simp only [zO, zT, acs, reduceCtorEq, J, D, M, U, O, S]; (repeat refine an ?_); (try refine .inl ?_); apply k0; clear k0; simp only [zP, D])
 refine aa ?_
 apply k5; clear k5; refine kp [0, 2, 7, 8, 9] ?_
 refine V fun _ k6 => ?_
 refine cd (fun hc7 => ?_) (fun hc7 => ?_)
 ·(try simp only [zB, reduceCtorEq] at hc7)
  have hpos : k < s.length := hc7
  refine ag ?_
  apply k6; clear k6; refine kp [0, 2, 7, 8, 9] ?_
  refine au ?_
  refine V fun _ k8 => ?_
  refine a9 hP hN rfl ?_
  iterate 2 (refine Z rfl fun _ k0 => ?_; simp only [zO, zT, acs, reduceCtorEq, J, D, M, U, O, S, kt, hpos, if_true]; (repeat refine an ?_); (try refine .inl ?_); apply k0; clear k0; simp only [zP, D])
  refine aa ?_
  apply k8; clear k8; refine kp [0, 2, 4, 7, 8, 9] ?_
  refine V fun _ k9 => ?_
  refine a9 hP hN rfl ?_
  iterate 3 (refine Z rfl fun _ k0 => ?_; simp only [zO, zT, acs, reduceCtorEq, J, D, M, U, O, S]; (repeat refine an ?_); (try refine .inl ?_); apply k0; clear k0; simp only [zP, D])
  refine' aB (want := true) 2 rfl (m := 13) (by simp only [zP, J, D]; exact rfl) (by kernel_rfl) rfl rfl rfl rfl rfl (fun hg10 => ?a10) ?b10 ?c10
  case a10 =>
   have hq10 := hg10; (try simp only [zB, reduceCtorEq] at hg10); simp only [zE]
   iterate 2 (refine aL rfl fun _ k0 => ?_; simp only [zO, zT, acs, reduceCtorEq, J, D, M, U, O, S]; (repeat refine an ?_); (try refine .inl ?_); apply k0; clear k0; simp only [zP, D])
   (refine Z rfl fun _ k0 => ?_; simp only [zO, zT, acs, reduceCtorEq, J, D, M, U, O, S]; (repeat refine an ?_); (try refine .inl ?_); apply k0; clear k0; simp only [zP, D])
   refine aa ?_
   refine ⟨by simp only [zP, J, D]; exact rfl, rfl, ?_, rfl⟩; (repeat refine aA rfl ?_); exact aN (by exact rfl) hq10
  case b10 => exact bc
  simp only [aK, aF]
  (refine Z rfl fun _ k0 => ?_; simp only [zO, zT, acs, reduceCtorEq, J, D, M, U, O, S]; (repeat refine an ?_); (try refine .inl ?_); apply k0; clear k0; simp only [zP, D])
  refine' aB (want := false) 6 rfl (m := 17) (by simp only [zP, J, D]; exact rfl) (by kernel_rfl) rfl rfl rfl rfl rfl (fun hg11 => ?a11) ?b11 ?c11
  case a11 =>
   have hq11 := hg11; (try simp only [zB, reduceCtorEq] at hg11); simp only [zE]
   iterate 3 (refine aL rfl fun _ k0 => ?_; simp only [zO, zT, acs, reduceCtorEq, J, D, M, U, O, S]; (repeat refine an ?_); (try refine .inl ?_); apply k0; clear k0; simp only [zP, D])
   refine' aB (want := true) 2 rfl (m := 20) (by simp only [zP, J, D]; exact rfl) (by kernel_rfl) rfl rfl rfl rfl rfl (fun hg12 => ?a12) ?b12 ?c12
   case a12 =>
    have hq12 := hg12; (try simp only [zB, reduceCtorEq] at hg12); simp only [zE]
    iterate 3 (refine aL rfl fun _ k0 => ?_; simp only [zO, zT, acs, reduceCtorEq, J, D, M, U, O, S]; (repeat refine an ?_); (try refine .inl ?_); apply k0; clear k0; simp only [zP, D])
    refine aa ?_
    refine ⟨by simp only [zP, J, D]; exact rfl, rfl, ?_, rfl⟩; (repeat refine aA rfl ?_); exact aN (by exact rfl) hq12
   case b12 => exact bc
   simp only [aK, aF]
   (refine Z rfl fun _ k0 => ?_; simp only [zO, zT, acs, reduceCtorEq, J, D, M, U, O, S]; (repeat refine an ?_); (try refine .inl ?_); apply k0; clear k0; simp only [zP, D])
   refine aa ?_
   refine ⟨by simp only [zP, J, D]; exact rfl, rfl, ?_, rfl⟩; (repeat refine aA rfl ?_); exact aN (by exact rfl) hq11
  case b11 => exact bc
  simp only [aK, aF]
  (refine Z rfl fun _ k0 => ?_; simp only [zO, zT, acs, reduceCtorEq, J, D, M, U, O, S]; (repeat refine an ?_); (try refine .inl ?_); apply k0; clear k0; simp only [zP, D])
  refine' aB (want := false) 6 rfl (m := 25) (by simp only [zP, J, D]; exact rfl) (by kernel_rfl) rfl rfl rfl rfl rfl (fun hg13 => ?a13) ?b13 ?c13
  case a13 =>
   have hq13 := hg13; (try simp only [zB, reduceCtorEq] at hg13); simp only [zE]
   iterate 3 (refine aL rfl fun _ k0 => ?_; simp only [zO, zT, acs, reduceCtorEq, J, D, M, U, O, S]; (repeat refine an ?_); (try refine .inl ?_); apply k0; clear k0; simp only [zP, D])
   refine' aB (want := true) 2 rfl (m := 28) (by simp only [zP, J, D]; exact rfl) (by kernel_rfl) rfl rfl rfl rfl rfl (fun hg14 => ?a14) ?b14 ?c14
   case a14 =>
    have hq14 := hg14; (try simp only [zB, reduceCtorEq] at hg14); simp only [zE]
    iterate 3 (refine aL rfl fun _ k0 => ?_; simp only [zO, zT, acs, reduceCtorEq, J, D, M, U, O, S]; (repeat refine an ?_); (try refine .inl ?_); apply k0; clear k0; simp only [zP, D])
    refine aa ?_
    refine ⟨by simp only [zP, J, D]; exact rfl, rfl, ?_, rfl⟩; (repeat refine aA rfl ?_); exact aN (by exact rfl) hq14
   case b14 => exact bc
   simp only [aK, aF]
   (refine Z rfl fun _ k0 => ?_; simp only [zO, zT, acs, reduceCtorEq, J, D, M, U, O, S]; (repeat refine an ?_); (try refine .inl ?_); apply k0; clear k0; simp only [zP, D])
   refine aa ?_
   refine ⟨by simp only [zP, J, D]; exact rfl, rfl, ?_, rfl⟩; (repeat refine aA rfl ?_); exact aN (by exact rfl) hq13
  case b13 => exact bc
  simp only [aK, aF]
  (refine Z rfl fun _ k0 => ?_; simp only [zO, zT, acs, reduceCtorEq, J, D, M, U, O, S]; (repeat refine an ?_); (try refine .inl ?_); apply k0; clear k0; simp only [zP, D])
  refine aa ?_
  apply k9; clear k9; refine kp [0, 2, 4, 5, 7, 8, 9] ?_
  refine V fun _ k15 => ?_
  refine a9 hP hN rfl ?_
  iterate 3 (refine Z rfl fun _ k0 => ?_; simp only [zO, zT, acs, reduceCtorEq, J, D, M, U, O, S]; (repeat refine an ?_); (try refine .inl ?_); apply k0; clear k0; simp only [zP, D])
  refine' aB (want := true) 2 rfl (m := 35) (by simp only [zP, J, D]; exact rfl) (by kernel_rfl) rfl rfl rfl rfl rfl (fun hg16 => ?a16) ?b16 ?c16
  case a16 =>
   have hq16 := hg16; (try simp only [zB, reduceCtorEq] at hg16); simp only [zE]
   iterate 2 (refine aL rfl fun _ k0 => ?_; simp only [zO, zT, acs, reduceCtorEq, J, D, M, U, O, S]; (repeat refine an ?_); (try refine .inl ?_); apply k0; clear k0; simp only [zP, D])
   (refine Z rfl fun _ k0 => ?_; simp only [zO, zT, acs, reduceCtorEq, J, D, M, U, O, S]; (repeat refine an ?_); (try refine .inl ?_); apply k0; clear k0; simp only [zP, D])
   refine aa ?_
   refine ⟨by simp only [zP, J, D]; exact rfl, rfl, ?_, rfl⟩; (repeat refine aA rfl ?_); exact aN (by exact rfl) hq16
  case b16 => exact bc
  simp only [aK, aF]
  (refine Z rfl fun _ k0 => ?_; simp only [zO, zT, acs, reduceCtorEq, J, D, M, U, O, S]; (repeat refine an ?_); (try refine .inl ?_); apply k0; clear k0; simp only [zP, D])
  refine' aB (want := true) 2 rfl (m := 39) (by simp only [zP, J, D]; exact rfl) (by kernel_rfl) rfl rfl rfl rfl rfl (fun hg17 => ?a17) ?b17 ?c17
  case a17 =>
   have hq17 := hg17; (try simp only [zB, reduceCtorEq] at hg17); simp only [zE]
   iterate 2 (refine aL rfl fun _ k0 => ?_; simp only [zO, zT, acs, reduceCtorEq, J, D, M, U, O, S]; (repeat refine an ?_); (try refine .inl ?_); apply k0; clear k0; simp only [zP, D])
   (refine Z rfl fun _ k0 => ?_; simp only [zO, zT, acs, reduceCtorEq, J, D, M, U, O, S]; (repeat refine an ?_); (try refine .inl ?_); apply k0; clear k0; simp only [zP, D])
   refine aa ?_
   refine ⟨by simp only [zP, J, D]; exact rfl, rfl, ?_, rfl⟩; (repeat refine aA rfl ?_); exact aN (by exact rfl) hq17
  case b17 => exact bc
  simp only [aK, aF]
  (refine Z rfl fun _ k0 => ?_; simp only [zO, zT, acs, reduceCtorEq, J, D, M, U, O, S]; (repeat refine an ?_); (try refine .inl ?_); apply k0; clear k0; simp only [zP, D])
  refine' aB (want := true) 2 rfl (m := 43) (by simp only [zP, J, D]; exact rfl) (by kernel_rfl) rfl rfl rfl rfl rfl (fun hg18 => ?a18) ?b18 ?c18
  case a18 =>
   have hq18 := hg18; (try simp only [zB, reduceCtorEq] at hg18); simp only [zE]
   iterate 2 (refine aL rfl fun _ k0 => ?_; simp only [zO, zT, acs, reduceCtorEq, J, D, M, U, O, S]; (repeat refine an ?_); (try refine .inl ?_); apply k0; clear k0; simp only [zP, D])
   (refine Z rfl fun _ k0 => ?_; simp only [zO, zT, acs, reduceCtorEq, J, D, M, U, O, S]; (repeat refine an ?_); (try refine .inl ?_); apply k0; clear k0; simp only [zP, D])
   refine aa ?_
   refine ⟨by simp only [zP, J, D]; exact rfl, rfl, ?_, rfl⟩; (repeat refine aA rfl ?_); exact aN (by exact rfl) hq18
  case b18 => exact bc
  simp only [aK, aF]
  refine aa ?_
  apply k15; clear k15; refine kp [0, 2, 4, 5, 7, 8, 9, 46] ?_
  refine cd (fun hc19 => ?_) (fun hc19 => ?_)
  ·(try simp only [zB, reduceCtorEq] at hc19)
   have ho : ¬ okI (((dec s k).1 : Nat) : Int) := by unfold okI; omega
   refine V fun _ k20 => ?_
   refine a9 hP hN rfl ?_
   (refine Z rfl fun _ k0 => ?_; simp only [zO, zT, acs, reduceCtorEq, J, D, M, U, O, S]; (repeat refine an ?_); (try refine .inl ?_); apply k0; clear k0; simp only [zP, D])
   refine aa ?_
   apply k20; clear k20; refine kp [0, 2, 4, 5, 7, 8, 9, 46] ?_
   refine ah ?_
   refine ⟨nr, _, rfl, ?_⟩; simp only [zF, zP, J, D]
   refine VLE.of_eq ?_
   refine congrArg (fun b => AV.one (AC.bool b)) ?_
   symm
   first
   | exact gY hpos (pR ho)
   | exact hD fun j hj => hI j (by omega)
  (try simp only [zB, reduceCtorEq] at hc19)
  have ho : okI (((dec s k).1 : Nat) : Int) := by unfold okI; omega
  refine ag ?_
  have hd := tA ho
  have hn : i4 s k = k + 1 := by unfold i4; rw [if_pos hpos, hd.2]
  refine ⟨_, _, ?_, ak [0, 2, 7], i4 s k, by omega, fun j hj => ?_, rfl, rfl⟩
  · omega
  · by_cases e : j = k
    · rw [e]; exact hd.1
    · exact hI j (by omega)
 (try simp only [zB, reduceCtorEq] at hc7)
 refine aR ?_
 apply k2; clear k2; refine kp [0, 2, 7, 8, 9] ?_
 refine V fun _ k21 => ?_
 refine a9 hP hN rfl ?_
 iterate 4 (refine Z rfl fun _ k0 => ?_; simp only [zO, zT, acs, reduceCtorEq, J, D, M, U, O, S]; (repeat refine an ?_); (try refine .inl ?_); apply k0; clear k0; simp only [zP, D])
 refine' aB (want := true) 3 rfl (m := 50) (by simp only [zP, J, D]; exact rfl) (by kernel_rfl) rfl rfl rfl rfl rfl (fun hg22 => ?a22) ?b22 ?c22
 case a22 =>
  have hq22 := hg22; (try simp only [zB, reduceCtorEq] at hg22); simp only [zE]
  iterate 3 (refine aL rfl fun _ k0 => ?_; simp only [zO, zT, acs, reduceCtorEq, J, D, M, U, O, S]; (repeat refine an ?_); (try refine .inl ?_); apply k0; clear k0; simp only [zP, D])
  (refine Z rfl fun _ k0 => ?_; simp only [zO, zT, acs, reduceCtorEq, J, D, M, U, O, S]; (repeat refine an ?_); (try refine .inl ?_); apply k0; clear k0; simp only [zP, D])
  refine aa ?_
  refine ⟨by simp only [zP, J, D]; exact rfl, rfl, ?_, rfl⟩; (repeat refine aA rfl ?_); exact aN (by exact rfl) hq22
 case b22 => exact bc
 simp only [aK, aF]
 (refine Z rfl fun _ k0 => ?_; simp only [zO, zT, acs, reduceCtorEq, J, D, M, U, O, S]; (repeat refine an ?_); (try refine .inl ?_); apply k0; clear k0; simp only [zP, D])
 refine aa ?_
 apply k21; clear k21; refine kp [0, 2, 7, 8, 9] ?_
 refine ah ?_
 refine ⟨nr, _, rfl, ?_⟩; simp only [zF, zP, J, D]
 refine VLE.of_eq ?_
 refine congrArg (fun b => AV.one (AC.bool b)) ?_
 symm
 first
 | exact gY hpos (pR ho)
 | exact hD fun j hj => hI j (by omega)
theorem mP (xs : List Bs) (x : Bs) : aV Tryd.prog 72 [.one (.list .str xs), .one (.str x)] (.one (.int .i64 (if x ∈ xs then (pos xs x : Int) else -1))) := by
 refine aw Tryd.func72 rfl (by kernel_rfl) (Nat.le_of_ble_eq_true rfl) rfl fun C hP hN hB => ?_
 replace hN : C.N = 19 := hN
 simp only [aH, D]
 refine cQ 0 rfl fun hf0 => ?_; simp only [lkp, if_true, if_false, reduceCtorEq, J, eq_self, Nat.one_ne_zero, Nat.zero_ne_one, eP, eN, eB, Fit, and_true, implies_true, true_and] at hf0
 refine V fun _ k1 => ?_
 refine a9 hP hN rfl ?_
 (refine Z rfl fun _ k0 => ?_; simp only [zO, zT, acs, reduceCtorEq, J, D, M, U, O, S]; (repeat refine an ?_); (try refine .inl ?_); apply k0; clear k0; simp only [zP, D])
 refine aa ?_
 apply k1; clear k1; refine kp [0, 1, 4] ?_
 refine V fun _ k2 => ?_
 refine V fun _ k3 => ?_
 refine a9 hP hN rfl ?_
 iterate 3 (refine Z rfl fun _ k0 => ?_; simp only [zO, zT, acs, reduceCtorEq, J, D, M, U, O, S]; (repeat refine an ?_); (try refine .inl ?_); apply k0; clear k0; simp only [zP, D])
 refine aa ?_
 apply k3; clear k3; refine kp [0, 1, 4, 7, 8] ?_
 refine au ?_
 refine aU (fun n4 s4 => ∃ (k : Nat), (k ≤ xs.length) ∧ (∀ q, q < k → xs.getD q [] ≠ x) ∧ n4 = xs.length - k ∧ s4 = { env := [(0, .one (.list .str xs)), (1, .one (.str x)), (4, .one (.int .i64 0)), (7, .one (.int .i64 (xs.length : Int))), (8, .one (.int .i64 (k : Int)))], L := [] }) ?_ ?_
 ·exact ⟨_, _, ak [0, 1, 4, 7, 8], 0, Nat.zero_le _, fun q hq => by omega, rfl, rfl⟩
 rintro n4 s4 ⟨k, hk, hq, rfl, rfl⟩
 refine V fun _ k5 => ?_
 refine a9 hP hN rfl ?_
 (refine Z rfl fun _ k0 => ?_; simp only [zO, zT, acs, reduceCtorEq, J, D, M, U, O, S]; (repeat refine an ?_); (try refine .inl ?_); apply k0; clear k0; simp only [zP, D])
 refine aa ?_
 apply k5; clear k5; refine kp [0, 1, 4, 7, 8, 9] ?_
 refine V fun _ k6 => ?_
 refine cd (fun hc7 => ?_) (fun hc7 => ?_)
 ·(try simp only [zB, reduceCtorEq] at hc7)
  refine ag ?_
  apply k6; clear k6; refine kp [0, 1, 4, 7, 8, 9] ?_
  refine V fun _ k8 => ?_
  refine au ?_
  refine V fun _ k9 => ?_
  refine a9 hP hN rfl ?_
  iterate 2 (refine Z rfl fun _ k0 => ?_; simp only [zO, zT, acs, reduceCtorEq, J, D, M, U, O, S]; (repeat refine an ?_); (try refine .inl ?_); apply k0; clear k0; simp only [zP, D])
  refine aa ?_
  apply k9; clear k9; refine kp [0, 1, 4, 5, 7, 8, 9] ?_
  refine V fun _ k10 => ?_
  refine a9 hP hN rfl ?_
  iterate 6 (refine Z rfl fun _ k0 => ?_; simp only [zO, zT, acs, reduceCtorEq, J, D, M, U, O, S]; (repeat refine an ?_); (try refine .inl ?_); apply k0; clear k0; simp only [zP, D])
  refine aa ?_
  apply k10; clear k10; refine kp [0, 1, 4, 5, 7, 8, 9, 16] ?_
  refine cd (fun hc11 => ?_) (fun hc11 => ?_)
  ·(try simp only [zB, reduceCtorEq] at hc11)
   have hme : xs.getD k [] = x := by first | exact hc11 | exact (hc11).symm
   refine V fun _ k12 => ?_
   refine a9 hP hN rfl ?_
   iterate 2 (refine Z rfl fun _ k0 => ?_; simp only [zO, zT, acs, reduceCtorEq, J, D, M, U, O, S]; (repeat refine an ?_); (try refine .inl ?_); apply k0; clear k0; simp only [zP, D])
   refine aa ?_
   apply k12; clear k12; refine kp [0, 1, 4, 5, 7, 8, 9, 16] ?_
   refine ah ?_
   refine ⟨nr, _, rfl, ?_⟩; simp only [zF, zP, J, D]
   refine VLE.of_eq ?_
   refine congrArg (fun n => AV.one (AC.int IntKind.i64 n)) ?_
   symm
   first
   | (have g9 := jP (fun q hq2 => hq q hq2) (by omega) hme; obtain ⟨g1, g2⟩ := g9; rw [if_pos g2, g1]; done)
   | (rw [if_neg (l6 fun q hq2 => hq q (by omega))]; done)
  (try simp only [zB, reduceCtorEq] at hc11)
  have hne : xs.getD k [] ≠ x := by first | exact hc11 | exact Ne.symm hc11
  refine ag ?_
  apply k8; clear k8; refine kp [0, 1, 4, 5, 7, 8, 9, 16] ?_
  refine a9 hP hN rfl ?_
  iterate 2 (refine Z rfl fun _ k0 => ?_; simp only [zO, zT, acs, reduceCtorEq, J, D, M, U, O, S]; (repeat refine an ?_); (try refine .inl ?_); apply k0; clear k0; simp only [zP, D])
  refine aa ?_
  refine ⟨_, _, ?_, ak [0, 1, 4, 7, 8], k + 1, by omega, fun q hq2 => ?_, rfl, rfl⟩
  · omega
  · by_cases e : q = k
    · rw [e]; exact hne
    · exact hq q (by omega)
 (try simp only [zB, reduceCtorEq] at hc7)
 refine aR ?_
 apply k2; clear k2; refine kp [0, 1, 4, 7, 8, 9] ?_
 refine V fun _ k13 => ?_
 refine a9 hP hN rfl ?_
 (refine Z rfl fun _ k0 => ?_; simp only [zO, zT, acs, reduceCtorEq, J, D, M, U, O, S]; (repeat refine an ?_); (try refine .inl ?_); apply k0; clear k0; simp only [zP, D])
 refine aa ?_
 apply k13; clear k13; refine kp [0, 1, 4, 7, 8, 9] ?_
 refine ah ?_
 refine ⟨nr, _, rfl, ?_⟩; simp only [zF, zP, J, D]
 refine VLE.of_eq ?_
 refine congrArg (fun n => AV.one (AC.int IntKind.i64 n)) ?_
 symm
 first
 | (have g9 := jP (fun q hq2 => hq q hq2) (by omega) hme; obtain ⟨g1, g2⟩ := g9; rw [if_pos g2, g1]; done)
 | (rw [if_neg (l6 fun q hq2 => hq q (by omega))]; done)
theorem nF (xs : List Bs) (x : Bs) : aV Tryd.prog 67 [.one (.list .str xs), .one (.str x)] (.one (.bool (decide (x ∈ xs)))) := by
 refine aw Tryd.func67 rfl (by kernel_rfl) (Nat.le_of_ble_eq_true rfl) rfl fun C hP hN hB => ?_
 replace hN : C.N = 9 := hN
 simp only [aH, D]
 refine V fun _ k1 => ?_
 refine a9 hP hN rfl ?_
 (refine Z rfl fun _ k0 => ?_; simp only [zO, zT, acs, reduceCtorEq, J, D, M, U, O, S]; (repeat refine an ?_); (try refine .inl ?_); apply k0; clear k0; simp only [zP, D])
 refine aa ?_
 apply k1; clear k1; refine kp [0, 1, 4] ?_
 refine V fun _ k2 => ?_
 refine a9 hP hN rfl ?_
 iterate 2 (refine Z rfl fun _ k0 => ?_; simp only [zO, zT, acs, reduceCtorEq, J, D, M, U, O, S]; (repeat refine an ?_); (try refine .inl ?_); apply k0; clear k0; simp only [zP, D])
 refine Z rfl fun _ k0 => ?_
 refine ar (h := ae (mP xs x)) rfl rfl (by first | exact rfl | (simp only [ev, zP, J, D]; exact rfl)) (by simp only [zV, acs, reduceCtorEq, J, D, M, U, O, S]) ?_
 apply k0; clear k0; simp only [zP, D]
 iterate 2 (refine Z rfl fun _ k0 => ?_; simp only [zO, zT, acs, reduceCtorEq, J, D, M, U, O, S]; (repeat refine an ?_); (try refine .inl ?_); apply k0; clear k0; simp only [zP, D])
 refine aa ?_
 apply k2; clear k2; refine kp [0, 1, 4] ?_
 refine ah ?_
 refine ⟨nr, _, rfl, ?_⟩; simp only [zF, zP, J, D]
 refine VLE.of_eq ?_
 refine congrArg (fun b => AV.one (AC.bool b)) ?_
 by_cases h : x ∈ xs
 · rw [if_pos h]; simp [h]
 · rw [if_neg h]; simp [h]
theorem lA (xs : List Bs) : aV Tryd.prog 47 [.agg [.list .str xs]] (.one (.int .i64 (alE xs))) := by
 refine aw Tryd.func47 rfl (by kernel_rfl) (Nat.le_of_ble_eq_true rfl) rfl fun C hP hN hB => ?_
 replace hN : C.N = 33 := hN
 simp only [aH, D]
 refine V fun _ k1 => ?_
 refine a9 hP hN rfl ?_
 iterate 2 (refine Z rfl fun _ k0 => ?_; simp only [zO, zT, acs, reduceCtorEq, J, D, M, U, O, S]; (repeat refine an ?_); (try refine .inl ?_); apply k0; clear k0; simp only [zP, D])
 refine aa ?_
 apply k1; clear k1; refine kp [0, 1, 2] ?_
 refine V fun _ k2 => ?_
 refine au ?_
 refine V fun _ k3 => ?_
 refine a9 hP hN rfl ?_
 iterate 5 (refine Z rfl fun _ k0 => ?_; simp only [zO, zT, acs, reduceCtorEq, J, D, M, U, O, S]; (repeat refine an ?_); (try refine .inl ?_); apply k0; clear k0; simp only [zP, D])
 refine aa ?_
 apply k3; clear k3; refine kp [0, 1, 2, 5] ?_
 refine cd (fun hc4 => ?_) (fun hc4 => ?_)
 ·(try simp only [zB, reduceCtorEq] at hc4)
  refine V fun _ k5 => ?_
  refine a9 hP hN rfl ?_
  (refine Z rfl fun _ k0 => ?_; simp only [zO, zT, acs, reduceCtorEq, J, D, M, U, O, S]; (repeat refine an ?_); (try refine .inl ?_); apply k0; clear k0; simp only [zP, D])
  refine aa ?_
  apply k5; clear k5; refine kp [0, 1, 2, 5] ?_
  refine ah ?_
  refine ⟨nr, _, rfl, ?_⟩; simp only [zF, zP, J, D]
  refine VLE.of_eq ?_
  refine congrArg (fun n => AV.one (AC.int IntKind.i64 n)) ?_
  symm
  first
  | exact f8 (by omega)
  | exact dN (by omega) (by omega)
  | exact f9 (by omega) (by omega) (k := k) (by omega) hq hbad
  | exact fb (by omega) (by omega) (k := k) (by omega) hq hgood hin
  | exact dM (by omega) (by omega) fun q hq2 => hq q (by omega)
 (try simp only [zB, reduceCtorEq] at hc4)
 refine V fun _ k6 => ?_
 refine a9 hP hN rfl ?_
 iterate 5 (refine Z rfl fun _ k0 => ?_; simp only [zO, zT, acs, reduceCtorEq, J, D, M, U, O, S]; (repeat refine an ?_); (try refine .inl ?_); apply k0; clear k0; simp only [zP, D])
 refine aa ?_
 apply k6; clear k6; refine kp [0, 1, 2, 5, 10] ?_
 refine cd (fun hc7 => ?_) (fun hc7 => ?_)
 ·(try simp only [zB, reduceCtorEq] at hc7)
  refine V fun _ k8 => ?_
  refine a9 hP hN rfl ?_
  (refine Z rfl fun _ k0 => ?_; simp only [zO, zT, acs, reduceCtorEq, J, D, M, U, O, S]; (repeat refine an ?_); (try refine .inl ?_); apply k0; clear k0; simp only [zP, D])
  refine aa ?_
  apply k8; clear k8; refine kp [0, 1, 2, 5, 10] ?_
  refine ah ?_
  refine ⟨nr, _, rfl, ?_⟩; simp only [zF, zP, J, D]
  refine VLE.of_eq ?_
  refine congrArg (fun n => AV.one (AC.int IntKind.i64 n)) ?_
  symm
  first
  | exact f8 (by omega)
  | exact dN (by omega) (by omega)
  | exact f9 (by omega) (by omega) (k := k) (by omega) hq hbad
  | exact fb (by omega) (by omega) (k := k) (by omega) hq hgood hin
  | exact dM (by omega) (by omega) fun q hq2 => hq q (by omega)
 (try simp only [zB, reduceCtorEq] at hc7)
 refine ag ?_
 apply k2; clear k2; refine kp [0, 1, 2, 5, 10] ?_
 refine V fun _ k9 => ?_
 refine V fun _ k10 => ?_
 refine a9 hP hN rfl ?_
 iterate 4 (refine Z rfl fun _ k0 => ?_; simp only [zO, zT, acs, reduceCtorEq, J, D, M, U, O, S]; (repeat refine an ?_); (try refine .inl ?_); apply k0; clear k0; simp only [zP, D])
 refine aa ?_
 apply k10; clear k10; refine kp [0, 1, 2, 5, 10, 16, 17, 18] ?_
 refine au ?_
 refine aU (fun n11 s11 => ∃ (k : Nat), (k ≤ xs.length) ∧ (∀ q, q < k → nmE xs q = 0) ∧ n11 = xs.length - k ∧ s11 = { env := [(1, .one (.ptr 0 0 0 0)), (2, .one (.int .i64 0)), (16, .one (.list .str xs)), (17, .one (.int .i64 (xs.length : Int))), (18, .one (.int .i64 (k : Int)))], L := [.vars 24 [.list .str xs]] }) ?_ ?_
 ·exact ⟨_, _, ak [1, 2, 16, 17, 18], 0, Nat.zero_le _, fun q hq => by omega, rfl, rfl⟩
 rintro n11 s11 ⟨k, hk, hq, rfl, rfl⟩
 refine V fun _ k12 => ?_
 refine a9 hP hN rfl ?_
 (refine Z rfl fun _ k0 => ?_; simp only [zO, zT, acs, reduceCtorEq, J, D, M, U, O, S]; (repeat refine an ?_); (try refine .inl ?_); apply k0; clear k0; simp only [zP, D])
 refine aa ?_
 apply k12; clear k12; refine kp [1, 2, 16, 17, 18, 19] ?_
 refine V fun _ k13 => ?_
 refine cd (fun hc14 => ?_) (fun hc14 => ?_)
 ·(try simp only [zB, reduceCtorEq] at hc14)
  refine ag ?_
  apply k13; clear k13; refine kp [1, 2, 16, 17, 18, 19] ?_
  refine V fun _ k15 => ?_
  refine au ?_
  refine V fun _ k16 => ?_
  refine a9 hP hN rfl ?_
  iterate 5 (refine Z rfl fun _ k0 => ?_; simp only [zO, zT, acs, reduceCtorEq, J, D, M, U, O, S]; (repeat refine an ?_); (try refine .inl ?_); apply k0; clear k0; simp only [zP, D])
  refine aa ?_
  apply k16; clear k16; refine kp [1, 2, 3, 4, 16, 17, 18, 19] ?_
  refine V fun _ k17 => ?_
  refine V fun _ k18 => ?_
  refine a9 hP hN rfl ?_
  (refine Z rfl fun _ k0 => ?_; simp only [zO, zT, acs, reduceCtorEq, J, D, M, U, O, S]; (repeat refine an ?_); (try refine .inl ?_); apply k0; clear k0; simp only [zP, D])
  refine Z rfl fun _ k0 => ?_
  refine ar (h := ae (tR (xs.getD k []))) rfl rfl (by first | exact rfl | (simp only [ev, zP, J, D]; exact rfl)) (by simp only [zV, acs, reduceCtorEq, J, D, M, U, O, S]) ?_
  apply k0; clear k0; simp only [zP, D]
  (refine Z rfl fun _ k0 => ?_; simp only [zO, zT, acs, reduceCtorEq, J, D, M, U, O, S]; (repeat refine an ?_); (try refine .inl ?_); apply k0; clear k0; simp only [zP, D])
  refine aa ?_
  apply k18; clear k18; refine kp [1, 2, 3, 4, 16, 17, 18, 19, 25] ?_
  refine cd (fun hc19 => ?_) (fun hc19 => ?_)
  ·(try simp only [zB, reduceCtorEq] at hc19)
   have hbad : cf (xs.getD k []) = false := by simpa using hc19
   refine V fun _ k20 => ?_
   refine a9 hP hN rfl ?_
   (refine Z rfl fun _ k0 => ?_; simp only [zO, zT, acs, reduceCtorEq, J, D, M, U, O, S]; (repeat refine an ?_); (try refine .inl ?_); apply k0; clear k0; simp only [zP, D])
   refine aa ?_
   apply k20; clear k20; refine kp [1, 2, 3, 4, 16, 17, 18, 19, 25] ?_
   refine ah ?_
   refine ⟨nr, _, rfl, ?_⟩; simp only [zF, zP, J, D]
   refine VLE.of_eq ?_
   refine congrArg (fun n => AV.one (AC.int IntKind.i64 n)) ?_
   symm
   first
   | exact f8 (by omega)
   | exact dN (by omega) (by omega)
   | exact f9 (by omega) (by omega) (k := k) (by omega) hq hbad
   | exact fb (by omega) (by omega) (k := k) (by omega) hq hgood hin
   | exact dM (by omega) (by omega) fun q hq2 => hq q (by omega)
  (try simp only [zB, reduceCtorEq] at hc19)
  have hgood : cf (xs.getD k []) = true := by simpa using hc19
  refine ag ?_
  apply k17; clear k17; refine kp [1, 2, 3, 4, 16, 17, 18, 19, 25] ?_
  refine V fun _ k21 => ?_
  refine a9 hP hN rfl ?_
  iterate 3 (refine Z rfl fun _ k0 => ?_; simp only [zO, zT, acs, reduceCtorEq, J, D, M, U, O, S, List.drop_zero, af, Int.toNat_zero]; (repeat refine an ?_); (try refine .inl ?_); apply k0; clear k0; simp only [zP, D])
  (refine Z rfl fun _ k0 => ?_; simp only [zE, op1, ev, lkp, ch, bg, cu, er, Nat.mul_one, bE, cK, acs, Ty.dflt, zG, ca, bT, bnd, Ty.size, reduceCtorEq, J, D, M, U, O, S, Tryd.el22, Tryd.st24, Tryd.td22, Tryd.td24, Tryd.td3, Tryd.td9, List.drop_zero, af, Int.toNat_zero]; (repeat refine an ?_); (try refine .inl ?_); apply k0; clear k0; simp only [zP, D])
  (refine Z rfl fun _ k0 => ?_; simp only [zO, zT, acs, reduceCtorEq, J, D, M, U, O, S, List.drop_zero, af, Int.toNat_zero]; (repeat refine an ?_); (try refine .inl ?_); apply k0; clear k0; simp only [zP, D])
  refine Z rfl fun _ k0 => ?_
  refine ar (h := ae (nF (xs.take k) (xs.getD k []))) rfl rfl (by first | exact rfl | (simp only [ev, zP, J, D]; exact rfl)) (by simp only [zV, acs, reduceCtorEq, J, D, M, U, O, S, List.drop_zero, af, Int.toNat_zero]) ?_
  apply k0; clear k0; simp only [zP, D]
  refine aa ?_
  apply k21; clear k21; refine kp [1, 2, 3, 4, 16, 17, 18, 19, 25, 31] ?_
  refine cd (fun hc22 => ?_) (fun hc22 => ?_)
  ·(try simp only [zB, reduceCtorEq] at hc22)
   have hin : xs.getD k [] ∈ xs.take k := by simpa using hc22
   refine V fun _ k23 => ?_
   refine a9 hP hN rfl ?_
   (refine Z rfl fun _ k0 => ?_; simp only [zO, zT, acs, reduceCtorEq, J, D, M, U, O, S]; (repeat refine an ?_); (try refine .inl ?_); apply k0; clear k0; simp only [zP, D])
   refine aa ?_
   apply k23; clear k23; refine kp [1, 2, 3, 4, 16, 17, 18, 19, 25, 31] ?_
   refine ah ?_
   refine ⟨nr, _, rfl, ?_⟩; simp only [zF, zP, J, D]
   refine VLE.of_eq ?_
   refine congrArg (fun n => AV.one (AC.int IntKind.i64 n)) ?_
   symm
   first
   | exact f8 (by omega)
   | exact dN (by omega) (by omega)
   | exact f9 (by omega) (by omega) (k := k) (by omega) hq hbad
   | exact fb (by omega) (by omega) (k := k) (by omega) hq hgood hin
   | exact dM (by omega) (by omega) fun q hq2 => hq q (by omega)
  (try simp only [zB, reduceCtorEq] at hc22)
  have hnin : xs.getD k [] ∉ xs.take k := by simpa using hc22
  refine ag ?_
  apply k15; clear k15; refine kp [1, 2, 3, 4, 16, 17, 18, 19, 25, 31] ?_
  refine a9 hP hN rfl ?_
  iterate 2 (refine Z rfl fun _ k0 => ?_; simp only [zO, zT, acs, reduceCtorEq, J, D, M, U, O, S]; (repeat refine an ?_); (try refine .inl ?_); apply k0; clear k0; simp only [zP, D])
  refine aa ?_
  refine ⟨_, _, ?_, ak [1, 2, 16, 17, 18], k + 1, by omega, fun q hq2 => ?_, rfl, rfl⟩
  · omega
  · by_cases e : q = k
    · rw [e]; exact sQ hgood hnin
    · exact hq q (by omega)
 (try simp only [zB, reduceCtorEq] at hc14)
 refine aR ?_
 apply k9; clear k9; refine kp [1, 2, 16, 17, 18, 19] ?_
 refine V fun _ k24 => ?_
 refine a9 hP hN rfl ?_
 (refine Z rfl fun _ k0 => ?_; simp only [zO, zT, acs, reduceCtorEq, J, D, M, U, O, S]; (repeat refine an ?_); (try refine .inl ?_); apply k0; clear k0; simp only [zP, D])
 refine aa ?_
 apply k24; clear k24; refine kp [1, 2, 16, 17, 18, 19] ?_
 refine ah ?_
 refine ⟨nr, _, rfl, ?_⟩; simp only [zF, zP, J, D]
 refine VLE.of_eq ?_
 refine congrArg (fun n => AV.one (AC.int IntKind.i64 n)) ?_
 symm
 first
 | exact f8 (by omega)
 | exact dN (by omega) (by omega)
 | exact f9 (by omega) (by omega) (k := k) (by omega) hq hbad
 | exact fb (by omega) (by omega) (k := k) (by omega) hq hgood hin
 | exact dM (by omega) (by omega) fun q hq2 => hq q (by omega)
theorem m4 (xs ys : List Bs) : aV Tryd.prog 25 [.agg [.list .str xs], .agg [.list .str ys]] (.one (.int .i64 (cm xs ys))) := by
 refine aw Tryd.func25 rfl (by kernel_rfl) (Nat.le_of_ble_eq_true rfl) rfl fun C hP hN hB => ?_
 replace hN : C.N = 13 := hN
 simp only [aH, D]
 refine V fun _ k1 => ?_
 refine a9 hP hN rfl ?_
 iterate 3 (refine Z rfl fun _ k0 => ?_; simp only [zO, zT, acs, reduceCtorEq, J, D, M, U, O, S]; (repeat refine an ?_); (try refine .inl ?_); apply k0; clear k0; simp only [zP, D])
 refine aa ?_
 apply k1; clear k1; refine kp [0, 1, 2, 3, 4] ?_
 refine V fun _ k2 => ?_
 refine V fun _ k3 => ?_
 refine a9 hP hN rfl ?_
 (refine Z rfl fun _ k0 => ?_; simp only [zO, zT, acs, reduceCtorEq, J, D, M, U, O, S]; (repeat refine an ?_); (try refine .inl ?_); apply k0; clear k0; simp only [zP, D])
 refine Z rfl fun _ k0 => ?_
 refine ar (h := ae (lA xs)) rfl rfl (by first | exact rfl | (simp only [ev, zP, J, D]; exact rfl)) (by simp only [zV, acs, reduceCtorEq, J, D, M, U, O, S]) ?_
 apply k0; clear k0; simp only [zP, D]
 (refine Z rfl fun _ k0 => ?_; simp only [zO, zT, acs, reduceCtorEq, J, D, M, U, O, S]; (repeat refine an ?_); (try refine .inl ?_); apply k0; clear k0; simp only [zP, D])
 refine aa ?_
 apply k3; clear k3; refine kp [0, 1, 2, 3, 4, 5] ?_
 refine V fun _ k4 => ?_
 refine a9 hP hN rfl ?_
 iterate 2 (refine Z rfl fun _ k0 => ?_; simp only [zO, zT, acs, reduceCtorEq, J, D, M, U, O, S]; (repeat refine an ?_); (try refine .inl ?_); apply k0; clear k0; simp only [zP, D])
 refine aa ?_
 apply k4; clear k4; refine kp [0, 1, 2, 3, 4, 5, 9] ?_
 refine cd (fun hc5 => ?_) (fun hc5 => ?_)
 ·(try simp only [zB, reduceCtorEq] at hc5)
  have h0 := hc5
  refine V fun _ k6 => ?_
  refine a9 hP hN rfl ?_
  iterate 2 (refine Z rfl fun _ k0 => ?_; simp only [zO, zT, acs, reduceCtorEq, J, D, M, U, O, S]; (repeat refine an ?_); (try refine .inl ?_); apply k0; clear k0; simp only [zP, D])
  refine aa ?_
  apply k6; clear k6; refine kp [0, 1, 2, 3, 4, 5, 9] ?_
  refine ah ?_
  refine ⟨nr, _, rfl, ?_⟩; simp only [zF, zP, J, D]
  refine VLE.of_eq ?_
  unfold cm
  first
  | (rw [if_neg h0]; done)
  | (rw [if_pos h0]; done)
 (try simp only [zB, reduceCtorEq] at hc5)
 have h0 := hc5
 refine ag ?_
 apply k2; clear k2; refine kp [0, 1, 2, 3, 4, 5, 9] ?_
 refine V fun _ k7 => ?_
 refine a9 hP hN rfl ?_
 (refine Z rfl fun _ k0 => ?_; simp only [zO, zT, acs, reduceCtorEq, J, D, M, U, O, S]; (repeat refine an ?_); (try refine .inl ?_); apply k0; clear k0; simp only [zP, D])
 refine Z rfl fun _ k0 => ?_
 refine ar (h := ae (lA ys)) rfl rfl (by first | exact rfl | (simp only [ev, zP, J, D]; exact rfl)) (by simp only [zV, acs, reduceCtorEq, J, D, M, U, O, S]) ?_
 apply k0; clear k0; simp only [zP, D]
 (refine Z rfl fun _ k0 => ?_; simp only [zO, zT, acs, reduceCtorEq, J, D, M, U, O, S]; (repeat refine an ?_); (try refine .inl ?_); apply k0; clear k0; simp only [zP, D])
 refine aa ?_
 apply k7; clear k7; refine kp [0, 1, 2, 3, 4, 5, 9] ?_
 refine ah ?_
 refine ⟨nr, _, rfl, ?_⟩; simp only [zF, zP, J, D]
 refine VLE.of_eq ?_
 unfold cm
 first
 | (rw [if_neg h0]; done)
 | (rw [if_pos h0]; done)
theorem lm (xs : List Bs) (x : Bs) : aV Tryd.prog 54 [.agg [.list .str xs], .one (.str x)] (.tup [.one (.int .i64 (idA xs x)), .one (.bool (decide (x ∈ xs)))]) := by
 refine aw Tryd.func54 rfl (by kernel_rfl) (Nat.le_of_ble_eq_true rfl) rfl fun C hP hN hB => ?_
 replace hN : C.N = 15 := hN
 simp only [aH, D]
 refine V fun _ k1 => ?_
 refine a9 hP hN rfl ?_
 iterate 3 (refine Z rfl fun _ k0 => ?_; simp only [zO, zT, acs, reduceCtorEq, J, D, M, U, O, S]; (repeat refine an ?_); (try refine .inl ?_); apply k0; clear k0; simp only [zP, D])
 refine aa ?_
 apply k1; clear k1; refine kp [0, 1, 2, 4, 5] ?_
 refine V fun _ k2 => ?_
 refine a9 hP hN rfl ?_
 iterate 3 (refine Z rfl fun _ k0 => ?_; simp only [zO, zT, acs, reduceCtorEq, J, D, M, U, O, S]; (repeat refine an ?_); (try refine .inl ?_); apply k0; clear k0; simp only [zP, D])
 refine Z rfl fun _ k0 => ?_
 refine ar (h := ae (mP xs x)) rfl rfl (by first | exact rfl | (simp only [ev, zP, J, D]; exact rfl)) (by simp only [zV, acs, reduceCtorEq, J, D, M, U, O, S]) ?_
 apply k0; clear k0; simp only [zP, D]
 (refine Z rfl fun _ k0 => ?_; simp only [zO, zT, acs, reduceCtorEq, J, D, M, U, O, S]; (repeat refine an ?_); (try refine .inl ?_); apply k0; clear k0; simp only [zP, D])
 refine aa ?_
 apply k2; clear k2; refine kp [0, 1, 2, 4, 5, 6] ?_
 refine V fun _ k3 => ?_
 refine a9 hP hN rfl ?_
 iterate 6 (refine Z rfl fun _ k0 => ?_; simp only [zO, zT, acs, reduceCtorEq, J, D, M, U, O, S]; (repeat refine an ?_); (try refine .inl ?_); apply k0; clear k0; simp only [zP, D])
 refine aa ?_
 apply k3; clear k3; refine kp [0, 1, 2, 4, 5, 6] ?_
 refine ah ?_
 refine ⟨nr, _, rfl, ?_⟩; simp only [zF, zP, J, D]
 refine VLE.of_eq ?_
 unfold idA
 by_cases h : x ∈ xs
 · simp [h]
 · simp [h]; decide
open Go.Shelf in
def Tryd.lays138_ren : Go.Shelf.Ren := ⟨fun | 138 => 53 | 195 => 70 | 218 => 71 | 143 => 50 | 219 => 68 | 217 => 82 | 225 => 83 | 224 => 84 | 267 => 85 | 266 => 98 | 314 => 99 | n => n, fun | 9 => 9 | 3 => 3 | 4 => 4 | 5 => 5 | 0 => 0 | 46 => 122 | 146 => 132 | 51 => 131 | n => n, fun | 1 => 0 | n => n⟩
theorem Tryd.lays138 : Go.Proofs.Lays.n138 Tryd.prog Tryd.lays138_ren := {
  mixed := by kernel_rfl,
  f138 := Tryd.func53.trans (congrArg some (by kernel_rfl)),
  f143 := Tryd.func50.trans (congrArg some (by kernel_rfl)),
  f195 := Tryd.func70.trans (congrArg some (by kernel_rfl)),
  f217 := Tryd.func82.trans (congrArg some (by kernel_rfl)),
  f218 := Tryd.func71.trans (congrArg some (by kernel_rfl)),
  f219 := Tryd.func68.trans (congrArg some (by kernel_rfl)),
  f224 := Tryd.func84.trans (congrArg some (by kernel_rfl)),
  f225 := Tryd.func83.trans (congrArg some (by kernel_rfl)),
  f266 := Tryd.func98.trans (congrArg some (by kernel_rfl)),
  f267 := Tryd.func85.trans (congrArg some (by kernel_rfl)),
  f314 := Tryd.func99.trans (congrArg some (by kernel_rfl)),
  t0 := Tryd.underlying0,
  a0 := Tryd.isAgg0,
  z0 := Tryd.sizeOf0,
  v0 := Tryd.zeroValue0,
  t3 := Tryd.underlying3,
  a3 := Tryd.isAgg3,
  z3 := Tryd.sizeOf3,
  v3 := Tryd.zeroValue3,
  t4 := Tryd.underlying4,
  a4 := Tryd.isAgg4,
  z4 := Tryd.sizeOf4,
  v4 := Tryd.zeroValue4,
  t5 := Tryd.underlying5,
  a5 := Tryd.isAgg5,
  z5 := Tryd.sizeOf5,
  v5 := Tryd.zeroValue5,
  t9 := Tryd.underlying9,
  a9 := Tryd.isAgg9,
  z9 := Tryd.sizeOf9,
  v9 := Tryd.zeroValue9,
  t46 := Tryd.underlying122,
  a46 := Tryd.isAgg122,
  z46 := Tryd.sizeOf122,
  v46 := Tryd.zeroValue122,
  t51 := Tryd.underlying131,
  a51 := Tryd.isAgg131,
  z51 := Tryd.sizeOf131,
  v51 := Tryd.zeroValue131,
  t146 := Tryd.underlying132,
  a146 := Tryd.isAgg132,
  z146 := Tryd.sizeOf132,
  v146 := Tryd.zeroValue132,
  g1 := by kernel_rfl }
theorem pZ (s : List UInt8) (c : UInt8) : aV Tryd.prog 53 [.one (.str s), .one (.str [c])] (.one (.int .i64 (Lib.countByte s c : Int))) := by
  refine ⟨⟨Tryd.f53, Tryd.func53, by kernel_rfl, by kernel_rfl⟩, fun C L σ w vs hP hi ha => ?_⟩
  match vs, ha with
  | [v1, v2], ⟨h1, h2, _⟩ =>
  have e1 : v1 = .string ⟨s.toArray⟩ := h1.2
  have e2 := h2.2
  subst e1
  simp only [RC0] at e2
  subst e2
  refine Calls.mono (Any.strings_Count_one Tryd.lays138 ⟨s.toArray⟩ c w) fun e w' hh => ?_
  obtain ⟨e1, e2⟩ := hh
  subst e2
  exact ⟨_, e1, MORE.refl _, rfl, rfl⟩
set_option maxHeartbeats 1000000 in
theorem tw (xs ys : List Bs) (v : Nat) (A B : List Int) (p : Bs) (hp : p.length ≤ 1000000000) (hA : A.length ≤ 100000) (hBl : B.length ≤ 100000) : cF Tryd.prog [.vars 24 [.list .str xs], .vars 24 [.list .str ys], .vars 60 [.nils, .nils], .vars 60 [.row 4 v, .row 5 v], .row (.int .i64) 3 v A, .row (.int .i64) 3 v B] 52 [.one (.str p), .one (.ptr 0 0 0 0), .one (.ptr 1 0 0 0), .one (.ptr 3 0 0 0)] { av := .one (.int .i64 (da xs ys p)), upd := [(3, .vars 60 [.row 4 (md xs ys p v), .row 5 (md xs ys p v)]), (4, .row (.int .i64) 3 (md xs ys p v) (rR xs ys p A)), (5, .row (.int .i64) 3 (md xs ys p v) (rS xs ys p B))], fp := [0, 1, 2, 3, 4, 5] } := by
 refine cS _ _ Tryd.func52 rfl (by kernel_rfl) (Nat.le_of_ble_eq_true rfl) (by intro k hk; simp only [ad, aq, Nat.zero_add, D] at hk; simp only [List.mem_cons, List.not_mem_nil, or_false]; omega) (fun C hP hN hB => ?_)
 replace hB : C.bL.length = 6 := by rw [hB]; rfl
 replace hN : C.N = 52 := hN
 simp only [aH, D]
 refine V fun _ k1 => ?_
 refine a9 hP hN rfl ?_
 (refine Z rfl fun _ k0 => ?_; simp only [zO, zT, acs, reduceCtorEq, J, D, M, U, O, S]; (repeat refine an ?_); (try refine .inl ?_); apply k0; clear k0; simp only [zP, D])
 refine aa ?_
 apply k1; clear k1; refine kp [0, 1, 2, 3, 5] ?_
 refine V fun _ k2 => ?_
 refine V fun _ k3 => ?_
 refine a9 hP hN rfl ?_
 (refine Z rfl fun _ k0 => ?_; simp only [zO, zT, acs, reduceCtorEq, J, D, M, U, O, S]; (repeat refine an ?_); (try refine .inl ?_); apply k0; clear k0; simp only [zP, D])
 refine Z rfl fun _ k0 => ?_
 refine ar (h := ae (pZ p 47)) rfl rfl (by first | exact rfl | (simp only [ev, zP, J, D]; exact rfl)) (by simp only [zV, acs, reduceCtorEq, J, D, M, U, O, S]) ?_
 apply k0; clear k0; simp only [zP, D]
 (refine Z rfl fun _ k0 => ?_; simp only [zO, zT, acs, reduceCtorEq, J, D, M, U, O, S]; (repeat refine an ?_); (try refine .inl ?_); apply k0; clear k0; simp only [zP, D])
 refine aa ?_
 apply k3; clear k3; refine kp [0, 1, 2, 3, 5, 15] ?_
 refine cd (fun hc4 => ?_) (fun hc4 => ?_)
 ·(try simp only [zB, reduceCtorEq] at hc4)
  have h5 := hc4
  refine V fun _ k5 => ?_
  refine a9 hP hN rfl ?_
  (refine Z rfl fun _ k0 => ?_; simp only [zO, zT, acs, reduceCtorEq, J, D, M, U, O, S]; (repeat refine an ?_); (try refine .inl ?_); apply k0; clear k0; simp only [zP, D])
  refine aa ?_
  apply k5; clear k5; refine kp [0, 1, 2, 3, 5, 15] ?_
  refine ah ?_
  refine ⟨by first | exact .inl rfl | exact .inr rfl, _, rfl, ?_⟩; simp only [zP, J, D]
  first
  | (have hE := iP (xs := xs) (ys := ys) (p := p) (by omega)
     obtain ⟨e1, e2, e3⟩ := eg (xs := xs) (ys := ys) (p := p) (by rw [hE]; decide) v A
     obtain ⟨_, _, e4⟩ := eg (xs := xs) (ys := ys) (p := p) (by rw [hE]; decide) v B
     rw [hE, e1, e2, e4]; all_goals (first | exact ⟨rfl, rfl⟩ | rfl))
  | (have hE := kl (xs := xs) (ys := ys) (p := p) (by omega) h8
     obtain ⟨e1, e2, e3⟩ := eg (xs := xs) (ys := ys) (p := p) (by rw [hE]; decide) v A
     obtain ⟨_, _, e4⟩ := eg (xs := xs) (ys := ys) (p := p) (by rw [hE]; decide) v B
     rw [hE, e1, e2, e4]; all_goals (first | exact ⟨rfl, rfl⟩ | rfl))
  | (have hE := iL (xs := xs) (ys := ys) (p := p) (by omega) h0
     obtain ⟨e1, e2, e3⟩ := eX (xs := xs) (ys := ys) (p := p) hE v A
     obtain ⟨_, _, e4⟩ := eX (xs := xs) (ys := ys) (p := p) hE v B
     rw [hE, e1, e2, e4]; all_goals (first | exact ⟨rfl, rfl⟩ | rfl))
 (try simp only [zB, reduceCtorEq] at hc4)
 have h1 := hc4
 refine ag ?_
 apply k2; clear k2; refine kp [0, 1, 2, 3, 5, 15] ?_
 refine V fun _ k6 => ?_
 refine a9 hP hN rfl ?_
 (refine Z rfl fun _ k0 => ?_; simp only [zO, zT, acs, reduceCtorEq, J, D, M, U, O, S]; (repeat refine an ?_); (try refine .inl ?_); apply k0; clear k0; simp only [zP, D])
 refine Z rfl fun _ k0 => ?_
 refine ar (h := ae (qa p 47 (by omega))) rfl rfl (by first | exact rfl | (simp only [ev, zP, J, D]; exact rfl)) (by simp only [zV, acs, reduceCtorEq, J, D, M, U, O, S]) ?_
 apply k0; clear k0; simp only [zP, D]
 iterate 7 (refine Z rfl fun _ k0 => ?_; simp only [zO, zT, acs, reduceCtorEq, J, D, M, U, O, S]; (repeat refine an ?_); (try refine .inl ?_); apply k0; clear k0; simp only [zP, D])
 refine aa ?_
 apply k6; clear k6; refine kp [0, 1, 2, 3, 5, 6, 7, 15] ?_
 refine V fun _ k7 => ?_
 refine a9 hP hN rfl ?_
 iterate 2 (refine Z rfl fun _ k0 => ?_; simp only [zO, zT, acs, reduceCtorEq, J, D, M, U, O, S]; (repeat refine an ?_); (try refine .inl ?_); apply k0; clear k0; simp only [zP, D])
 refine Z rfl fun _ k0 => ?_
 refine ar (h := ae (lm xs (dB p 47))) rfl rfl (by first | exact rfl | (simp only [ev, zP, J, D]; exact rfl)) (by simp only [zV, acs, reduceCtorEq, J, D, M, U, O, S]) ?_
 apply k0; clear k0; simp only [zP, D]
 iterate 5 (refine Z rfl fun _ k0 => ?_; simp only [zO, zT, acs, reduceCtorEq, J, D, M, U, O, S]; (repeat refine an ?_); (try refine .inl ?_); apply k0; clear k0; simp only [zP, D])
 refine aa ?_
 apply k7; clear k7; refine kp [0, 1, 2, 3, 5, 6, 7, 9, 10, 15] ?_
 refine V fun _ k8 => ?_
 refine a9 hP hN rfl ?_
 iterate 2 (refine Z rfl fun _ k0 => ?_; simp only [zO, zT, acs, reduceCtorEq, J, D, M, U, O, S]; (repeat refine an ?_); (try refine .inl ?_); apply k0; clear k0; simp only [zP, D])
 refine Z rfl fun _ k0 => ?_
 refine ar (h := ae (lm ys (cW p 47))) rfl rfl (by first | exact rfl | (simp only [ev, zP, J, D]; exact rfl)) (by simp only [zV, acs, reduceCtorEq, J, D, M, U, O, S]) ?_
 apply k0; clear k0; simp only [zP, D]
 iterate 5 (refine Z rfl fun _ k0 => ?_; simp only [zO, zT, acs, reduceCtorEq, J, D, M, U, O, S]; (repeat refine an ?_); (try refine .inl ?_); apply k0; clear k0; simp only [zP, D])
 refine aa ?_
 apply k8; clear k8; refine kp [0, 1, 2, 3, 5, 6, 7, 9, 10, 11, 12, 15] ?_
 refine V fun _ k9 => ?_
 refine V fun _ k10 => ?_
 refine a9 hP hN rfl ?_
 iterate 3 (refine Z rfl fun _ k0 => ?_; simp only [zO, zT, acs, reduceCtorEq, J, D, M, U, O, S]; (repeat refine an ?_); (try refine .inl ?_); apply k0; clear k0; simp only [zP, D])
 refine' aB (want := false) 2 rfl (m := 36) (by simp only [zP, J, D]; exact rfl) (by kernel_rfl) rfl rfl rfl rfl rfl (fun hg11 => ?a11) ?b11 ?c11
 case a11 =>
  have hq11 := hg11; (try simp only [zB, reduceCtorEq] at hg11); simp only [zE]
  iterate 2 (refine aL rfl fun _ k0 => ?_; simp only [zO, zT, acs, reduceCtorEq, J, D, M, U, O, S]; (repeat refine an ?_); (try refine .inl ?_); apply k0; clear k0; simp only [zP, D])
  (refine Z rfl fun _ k0 => ?_; simp only [zO, zT, acs, reduceCtorEq, J, D, M, U, O, S]; (repeat refine an ?_); (try refine .inl ?_); apply k0; clear k0; simp only [zP, D])
  refine aa ?_
  refine ⟨by simp only [zP, J, D]; exact rfl, rfl, ?_, rfl⟩; (repeat refine aA rfl ?_); exact aN (by exact rfl) hq11
 case b11 => exact bc
 simp only [aK, aF]
 refine aa ?_
 apply k10; clear k10; refine kp [0, 1, 2, 3, 5, 6, 7, 9, 10, 11, 12, 15, 39] ?_
 refine cd (fun hc12 => ?_) (fun hc12 => ?_)
 ·(try simp only [zB, reduceCtorEq] at hc12)
  have h8 := hc12
  refine V fun _ k13 => ?_
  refine a9 hP hN rfl ?_
  (refine Z rfl fun _ k0 => ?_; simp only [zO, zT, acs, reduceCtorEq, J, D, M, U, O, S]; (repeat refine an ?_); (try refine .inl ?_); apply k0; clear k0; simp only [zP, D])
  refine aa ?_
  apply k13; clear k13; refine kp [0, 1, 2, 3, 5, 6, 7, 9, 10, 11, 12, 15, 39] ?_
  refine ah ?_
  refine ⟨by first | exact .inl rfl | exact .inr rfl, _, rfl, ?_⟩; simp only [zP, J, D]
  first
  | (have hE := iP (xs := xs) (ys := ys) (p := p) (by omega)
     obtain ⟨e1, e2, e3⟩ := eg (xs := xs) (ys := ys) (p := p) (by rw [hE]; decide) v A
     obtain ⟨_, _, e4⟩ := eg (xs := xs) (ys := ys) (p := p) (by rw [hE]; decide) v B
     rw [hE, e1, e2, e4]; all_goals (first | exact ⟨rfl, rfl⟩ | rfl))
  | (have hE := kl (xs := xs) (ys := ys) (p := p) (by omega) h8
     obtain ⟨e1, e2, e3⟩ := eg (xs := xs) (ys := ys) (p := p) (by rw [hE]; decide) v A
     obtain ⟨_, _, e4⟩ := eg (xs := xs) (ys := ys) (p := p) (by rw [hE]; decide) v B
     rw [hE, e1, e2, e4]; all_goals (first | exact ⟨rfl, rfl⟩ | rfl))
  | (have hE := iL (xs := xs) (ys := ys) (p := p) (by omega) h0
     obtain ⟨e1, e2, e3⟩ := eX (xs := xs) (ys := ys) (p := p) hE v A
     obtain ⟨_, _, e4⟩ := eX (xs := xs) (ys := ys) (p := p) hE v B
     rw [hE, e1, e2, e4]; all_goals (first | exact ⟨rfl, rfl⟩ | rfl))
 (try simp only [zB, reduceCtorEq] at hc12)
 have h0 := hc12
 refine ag ?_
 apply k9; clear k9; refine kp [0, 1, 2, 3, 5, 6, 7, 9, 10, 11, 12, 15, 39] ?_
 refine V fun _ k14 => ?_
 refine bS hP hN Tryd.mixed rfl ?_
 iterate 14 (refine Z rfl fun _ k0 => ?_; simp only [zO, zT, acs, reduceCtorEq, J, D, M, U, O, S]; (repeat refine an ?_); (try refine .inl ?_); apply k0; clear k0; simp only [zP, D])
 refine aa ?_
 refine ⟨by kernel_rfl, ?_⟩
 apply k14; clear k14; refine kp [0, 1, 2, 3, 5, 6, 7, 9, 10, 11, 12, 15, 39] ?_
 refine V fun _ k15 => ?_
 refine a9 hP hN rfl ?_
 (refine Z rfl fun _ k0 => ?_; simp only [zO, zT, acs, reduceCtorEq, J, D, M, U, O, S]; (repeat refine an ?_); (try refine .inl ?_); apply k0; clear k0; simp only [zP, D])
 refine aa ?_
 apply k15; clear k15; refine kp [0, 1, 2, 3, 5, 6, 7, 9, 10, 11, 12, 15, 39] ?_
 refine ah ?_
 refine ⟨by first | exact .inl rfl | exact .inr rfl, _, rfl, ?_⟩; simp only [zP, J, D]
 first
 | (have hE := iP (xs := xs) (ys := ys) (p := p) (by omega)
    obtain ⟨e1, e2, e3⟩ := eg (xs := xs) (ys := ys) (p := p) (by rw [hE]; decide) v A
    obtain ⟨_, _, e4⟩ := eg (xs := xs) (ys := ys) (p := p) (by rw [hE]; decide) v B
    rw [hE, e1, e2, e4]; all_goals (first | exact ⟨rfl, rfl⟩ | rfl))
 | (have hE := kl (xs := xs) (ys := ys) (p := p) (by omega) h8
    obtain ⟨e1, e2, e3⟩ := eg (xs := xs) (ys := ys) (p := p) (by rw [hE]; decide) v A
    obtain ⟨_, _, e4⟩ := eg (xs := xs) (ys := ys) (p := p) (by rw [hE]; decide) v B
    rw [hE, e1, e2, e4]; all_goals (first | exact ⟨rfl, rfl⟩ | rfl))
 | (have hE := iL (xs := xs) (ys := ys) (p := p) (by omega) h0
    obtain ⟨e1, e2, e3⟩ := eX (xs := xs) (ys := ys) (p := p) hE v A
    obtain ⟨_, _, e4⟩ := eX (xs := xs) (ys := ys) (p := p) hE v B
    rw [hE, e1, e2, e4]; all_goals (first | exact ⟨rfl, rfl⟩ | rfl))
open Go.Shelf in
def Tryd.lays143_ren : Go.Shelf.Ren := ⟨fun | 143 => 50 | 219 => 68 | 217 => 82 | 225 => 83 | 224 => 84 | 267 => 85 | 266 => 98 | 314 => 99 | n => n, fun | 9 => 9 | 3 => 3 | 4 => 4 | 5 => 5 | 46 => 122 | 146 => 132 | 51 => 131 | n => n, fun | 1 => 0 | n => n⟩
theorem Tryd.lays143 : Go.Proofs.Lays.n143 Tryd.prog Tryd.lays143_ren := {
  mixed := by kernel_rfl,
  f143 := Tryd.func50.trans (congrArg some (by kernel_rfl)),
  f217 := Tryd.func82.trans (congrArg some (by kernel_rfl)),
  f219 := Tryd.func68.trans (congrArg some (by kernel_rfl)),
  f224 := Tryd.func84.trans (congrArg some (by kernel_rfl)),
  f225 := Tryd.func83.trans (congrArg some (by kernel_rfl)),
  f266 := Tryd.func98.trans (congrArg some (by kernel_rfl)),
  f267 := Tryd.func85.trans (congrArg some (by kernel_rfl)),
  f314 := Tryd.func99.trans (congrArg some (by kernel_rfl)),
  t3 := Tryd.underlying3,
  a3 := Tryd.isAgg3,
  z3 := Tryd.sizeOf3,
  v3 := Tryd.zeroValue3,
  t4 := Tryd.underlying4,
  a4 := Tryd.isAgg4,
  z4 := Tryd.sizeOf4,
  v4 := Tryd.zeroValue4,
  t5 := Tryd.underlying5,
  a5 := Tryd.isAgg5,
  z5 := Tryd.sizeOf5,
  v5 := Tryd.zeroValue5,
  t9 := Tryd.underlying9,
  a9 := Tryd.isAgg9,
  z9 := Tryd.sizeOf9,
  v9 := Tryd.zeroValue9,
  t46 := Tryd.underlying122,
  a46 := Tryd.isAgg122,
  z46 := Tryd.sizeOf122,
  v46 := Tryd.zeroValue122,
  t51 := Tryd.underlying131,
  a51 := Tryd.isAgg131,
  z51 := Tryd.sizeOf131,
  v51 := Tryd.zeroValue131,
  t146 := Tryd.underlying132,
  a146 := Tryd.isAgg132,
  z146 := Tryd.sizeOf132,
  v146 := Tryd.zeroValue132,
  g1 := by kernel_rfl }
theorem tT (s : List UInt8) (c : UInt8) : aV Tryd.prog 50 [.one (.str s), .one (.str [c])] (.one (.int .i64 (Lib.indexByte s c))) := by
  refine ⟨⟨Tryd.f50, Tryd.func50, by kernel_rfl, by kernel_rfl⟩, fun C L σ w vs hP hi ha => ?_⟩
  match vs, ha with
  | [v1, v2], ⟨h1, h2, _⟩ =>
  have e1 : v1 = .string ⟨s.toArray⟩ := h1.2
  have e2 := h2.2
  subst e1
  simp only [RC0] at e2
  subst e2
  refine Calls.mono (Any.strings_Index_one Tryd.lays143 ⟨s.toArray⟩ c w) fun e w' hh => ?_
  obtain ⟨e1, e2⟩ := hh
  subst e2
  exact ⟨_, e1, MORE.refl _, rfl, rfl⟩
set_option maxHeartbeats 1000000 in
theorem rC (s : Bs) (c : UInt8) (hs : s.length ≤ 1048576) : aV Tryd.prog 69 [.one (.str s), .one (.str [c]), .one (.int .i64 0), .one (.int .i64 (-1))] (.one (.list .str (spB c s))) := by
 have hcl := rj c s; have hsl := fj c s
 refine aw Tryd.func69 rfl (by kernel_rfl) (Nat.le_of_ble_eq_true rfl) rfl fun C hP hN hB => ?_
 replace hN : C.N = 66 := hN
 simp only [aH, D]
 refine V fun _ k1 => ?_
 refine a9 hP hN rfl ?_
 (refine Z rfl fun _ k0 => ?_; simp only [zO, zT, acs, reduceCtorEq, J, D, M, U, O, S]; (repeat refine an ?_); (try refine .inl ?_); apply k0; clear k0; simp only [zP, D])
 refine aa ?_
 apply k1; clear k1; refine kp [0, 1, 2, 3, 8] ?_
 refine V fun _ k2 => ?_
 refine V fun _ k3 => ?_
 refine a9 hP hN rfl ?_
 iterate 2 (refine Z rfl fun _ k0 => ?_; simp only [zO, zT, acs, reduceCtorEq, J, D, M, U, O, S]; (repeat refine an ?_); (try refine .inl ?_); apply k0; clear k0; simp only [zP, D])
 refine aa ?_
 apply k3; clear k3; refine kp [0, 1, 2, 3, 8, 13] ?_
 refine cd (fun hc4 => ?_) (fun hc4 => ?_)
 · exfalso; (try simp only [zB, reduceCtorEq] at hc4); all_goals (first | (cases hc4; done) | omega | (simp at hc4; done) | (simp_all; done))
 (try simp only [zB, reduceCtorEq] at hc4)
 refine ag ?_
 apply k2; clear k2; refine kp [0, 1, 2, 3, 8, 13] ?_
 refine V fun _ k5 => ?_
 refine V fun _ k6 => ?_
 refine a9 hP hN rfl ?_
 iterate 2 (refine Z rfl fun _ k0 => ?_; simp only [zO, zT, acs, reduceCtorEq, J, D, M, U, O, S]; (repeat refine an ?_); (try refine .inl ?_); apply k0; clear k0; simp only [zP, D])
 refine aa ?_
 apply k6; clear k6; refine kp [0, 1, 2, 3, 8, 13, 15] ?_
 refine cd (fun hc7 => ?_) (fun hc7 => ?_)
 · exfalso; (try simp only [zB, reduceCtorEq] at hc7); all_goals (first | (cases hc7; done) | omega | (simp at hc7; done) | (simp_all; done))
 (try simp only [zB, reduceCtorEq] at hc7)
 refine ag ?_
 apply k5; clear k5; refine kp [0, 1, 2, 3, 8, 13, 15] ?_
 refine V fun _ k8 => ?_
 refine V fun _ k9 => ?_
 refine a9 hP hN rfl ?_
 iterate 2 (refine Z rfl fun _ k0 => ?_; simp only [zO, zT, acs, reduceCtorEq, J, D, M, U, O, S]; (repeat refine an ?_); (try refine .inl ?_); apply k0; clear k0; simp only [zP, D])
 refine aa ?_
 apply k9; clear k9; refine kp [0, 1, 2, 3, 8, 13, 15, 20] ?_
 refine cd (fun hc10 => ?_) (fun hc10 => ?_)
 ·(try simp only [zB, reduceCtorEq] at hc10)
  refine a9 hP hN rfl ?_
  iterate 2 (refine Z rfl fun _ k0 => ?_; simp only [zO, zT, acs, reduceCtorEq, J, D, M, U, O, S]; (repeat refine an ?_); (try refine .inl ?_); apply k0; clear k0; simp only [zP, D])
  refine Z rfl fun _ k0 => ?_
  refine ar (h := ae (pZ s c)) rfl rfl (by first | exact rfl | (simp only [ev, zP, J, D]; exact rfl)) (by simp only [zV, acs, reduceCtorEq, J, D, M, U, O, S]) ?_
  apply k0; clear k0; simp only [zP, D]
  iterate 2 (refine Z rfl fun _ k0 => ?_; simp only [zO, zT, acs, reduceCtorEq, J, D, M, U, O, S]; (repeat refine an ?_); (try refine .inl ?_); apply k0; clear k0; simp only [zP, D])
  refine aa ?_
  apply k8; clear k8; refine kp [0, 1, 2, 3, 8, 13, 15, 20] ?_
  refine V fun _ k11 => ?_
  rw [show ((Lib.countByte s c : Nat) : Int) + 1 = (spB c s).length by rw [hsl]; omega]
  refine a9 hP hN rfl ?_
  iterate 6 (refine Z rfl fun _ k0 => ?_; simp only [zO, zT, acs, reduceCtorEq, J, D, M, U, O, S]; (repeat refine an ?_); (try refine .inl ?_); apply k0; clear k0; simp only [zP, D])
  refine aa ?_
  apply k11; clear k11; refine kp [0, 1, 2, 3, 8, 13, 15, 20] ?_
  refine V fun _ k12 => ?_
  rw [show min ((spB c s).length : Int) ((s.length : Int) + 1) = (spB c s).length by rw [hsl]; omega]
  refine a9 hP hN rfl ?_
  (refine Z rfl fun _ k0 => ?_; simp only [zO, zT, acs, reduceCtorEq, J, D, M, U, O, S]; (repeat refine an ?_); (try refine .inl ?_); apply k0; clear k0; simp only [zP, D])
  (refine Z rfl fun _ k0 => ?_; simp only [zE, op1, ev, lkp, ch, bg, dz, b9, Ty.size, Ty.dflt, reduceCtorEq, J, D, M, U, O, S, Tryd.el22, Tryd.td22, Tryd.td3]; (repeat refine an ?_); (try refine .inl ?_); apply k0; clear k0; simp only [zP, D])
  (refine Z rfl fun _ k0 => ?_; simp only [zO, zT, acs, reduceCtorEq, J, D, M, U, O, S]; (repeat refine an ?_); (try refine .inl ?_); apply k0; clear k0; simp only [zP, D])
  refine aa ?_
  apply k12; clear k12; refine kp [0, 1, 2, 3, 8, 9, 13, 15, 20] ?_
  refine V fun _ k13 => ?_
  refine a9 hP hN rfl ?_
  iterate 3 (refine Z rfl fun _ k0 => ?_; simp only [zO, zT, acs, reduceCtorEq, J, D, M, U, O, S]; (repeat refine an ?_); (try refine .inl ?_); apply k0; clear k0; simp only [zP, D])
  refine aa ?_
  apply k13; clear k13; refine kp [0, 1, 2, 3, 8, 9, 13, 15, 20] ?_
  refine V fun _ k14 => ?_
  refine a9 hP hN rfl ?_
  (refine Z rfl fun _ k0 => ?_; simp only [zO, zT, acs, reduceCtorEq, J, D, M, U, O, S]; (repeat refine an ?_); (try refine .inl ?_); apply k0; clear k0; simp only [zP, D])
  refine aa ?_
  apply k14; clear k14; refine kp [0, 1, 2, 3, 8, 9, 10, 13, 15, 20] ?_
  refine V fun _ k15 => ?_
  refine au ?_
  refine aU (fun n16 s16 => ∃ (k : Nat) (v : Nat) (r : Bs), (k + 1 ≤ (spB c s).length) ∧ (spB c r = (spB c s).drop k) ∧ (r.length ≤ s.length) ∧ n16 = (spB c s).length - k ∧ s16 = { env := [(0, .one (.str r)), (1, .one (.str [c])), (2, .one (.int .i64 0)), (3, .one (.int .i64 (((spB c s).length : Int) - 1))), (8, .one .nils), (9, .one (.row 0 v)), (10, .one (.int .i64 (k : Int)))], L := [.row .str 9 v (pcs (spB c s) k)] }) ?_ ?_
  ·exact ⟨_, _, ak [0, 1, 2, 3, 8, 9, 10], 0, 0, s, by omega, by rw [List.drop_zero], Nat.le_refl _, rfl, by rw [show pcs (spB c s) 0 = List.replicate (spB c s).length [] by unfold pcs; rw [List.take_zero, Nat.sub_zero, aY]]; rfl⟩
  rintro n16 s16 ⟨k, v, r, hk, hr, hrl, rfl, rfl⟩
  refine V fun _ k17 => ?_
  refine V fun _ k18 => ?_
  refine a9 hP hN rfl ?_
  iterate 3 (refine Z rfl fun _ k0 => ?_; simp only [zO, zT, acs, reduceCtorEq, J, D, M, U, O, S]; (repeat refine an ?_); (try refine .inl ?_); apply k0; clear k0; simp only [zP, D])
  refine aa ?_
  apply k18; clear k18; refine kp [0, 1, 2, 3, 8, 9, 10, 36] ?_
  refine cd (fun hc19 => ?_) (fun hc19 => ?_)
  ·(try simp only [zB, reduceCtorEq] at hc19)
   refine ag ?_
   apply k17; clear k17; refine kp [0, 1, 2, 3, 8, 9, 10, 36] ?_
   refine au ?_
   refine V fun _ k20 => ?_
   obtain ⟨h1, h2, h3, h4⟩ := kO (P := spB c s) hr (by omega)
   have hpl := kP (P := spB c s) (k := k) (by omega)
   refine a9 hP hN rfl ?_
   iterate 2 (refine Z rfl fun _ k0 => ?_; simp only [zO, zT, acs, reduceCtorEq, J, D, M, U, O, S]; (repeat refine an ?_); (try refine .inl ?_); apply k0; clear k0; simp only [zP, D])
   refine Z rfl fun _ k0 => ?_
   refine ar (h := ae (tT r c)) rfl rfl (by first | exact rfl | (simp only [ev, zP, J, D]; exact rfl)) (by simp only [zV, acs, reduceCtorEq, J, D, M, U, O, S]) ?_
   apply k0; clear k0; simp only [zP, D]
   (refine Z rfl fun _ k0 => ?_; simp only [zO, zT, acs, reduceCtorEq, J, D, M, U, O, S]; (repeat refine an ?_); (try refine .inl ?_); apply k0; clear k0; simp only [zP, D])
   refine aa ?_
   apply k20; clear k20; refine kp [0, 1, 2, 3, 8, 9, 10, 11, 36] ?_
   refine V fun _ k21 => ?_
   refine V fun _ k22 => ?_
   refine a9 hP hN rfl ?_
   iterate 2 (refine Z rfl fun _ k0 => ?_; simp only [zO, zT, acs, reduceCtorEq, J, D, M, U, O, S]; (repeat refine an ?_); (try refine .inl ?_); apply k0; clear k0; simp only [zP, D])
   refine aa ?_
   apply k22; clear k22; refine kp [0, 1, 2, 3, 8, 9, 10, 11, 36, 41] ?_
   refine cd (fun hc23 => ?_) (fun hc23 => ?_)
   · exfalso; (try simp only [zB, reduceCtorEq] at hc23); all_goals (first | (cases hc23; done) | omega | (simp at hc23; done) | (simp_all; done))
   (try simp only [zB, reduceCtorEq] at hc23)
   refine ag ?_
   apply k21; clear k21; refine kp [0, 1, 2, 3, 8, 9, 10, 11, 36, 41] ?_
   refine V fun _ k24 => ?_
   refine a9 hP hN rfl ?_
   iterate 6 (refine Z rfl fun _ k0 => ?_; simp only [zO, zT, acs, reduceCtorEq, J, D, M, U, O, S, Int.add_zero, List.drop_zero, hpl, af]; (repeat refine an ?_); (try refine .inl ?_); apply k0; clear k0; simp only [zP, D])
   (refine Z rfl fun _ k0 => ?_; simp only [zE, op1, ev, lkp, ch, bg, di, bm, cA, cG, ck, d4, bT, bnd, Ty.size, cw, zG, Ty.dflt, Nat.mul_one, ne_eq, not_false_eq_true, Int.natCast_one, Int.mul_one, dQ, bp, bl, b9, acs, reduceCtorEq, J, D, M, U, O, S, Tryd.el22, Tryd.td22, Tryd.td3, Tryd.td9, Int.add_zero, List.drop_zero, hpl, af]; (repeat refine an ?_); (try refine .inl ?_); apply k0; clear k0; simp only [zP, D])
   iterate 2 (refine Z rfl fun _ k0 => ?_; simp only [zO, zT, acs, reduceCtorEq, J, D, M, U, O, S, Int.add_zero, List.drop_zero, hpl, af]; (repeat refine an ?_); (try refine .inl ?_); apply k0; clear k0; simp only [zP, D])
   refine aa ?_
   apply k24; clear k24; refine kp [0, 1, 2, 3, 8, 9, 10, 11, 36, 41] ?_
   refine V fun _ k25 => ?_
   refine a9 hP hN rfl ?_
   iterate 5 (refine Z rfl fun _ k0 => ?_; simp only [zO, zT, acs, reduceCtorEq, J, D, M, U, O, S, az]; (repeat refine an ?_); (try refine .inl ?_); apply k0; clear k0; simp only [zP, D])
   (refine Z rfl fun _ k0 => ?_; simp only [zE, op1, ev, lkp, ch, bg, bZ, fV, fc, bM, cq, dm, Nat.div_one, cD, cB, Ty.size, b9, dite_true, di, bm, cA, cG, ck, d4, bT, bnd, reduceCtorEq, J, D, M, U, O, S, Tryd.td3, Tryd.td9, az]; (repeat refine an ?_); (try refine .inl ?_); apply k0; clear k0; simp only [zP, D])
   (refine Z rfl fun _ k0 => ?_; simp only [zO, zT, acs, reduceCtorEq, J, D, M, U, O, S, az]; (repeat refine an ?_); (try refine .inl ?_); apply k0; clear k0; simp only [zP, D])
   refine aa ?_
   apply k25; clear k25; refine kp [0, 1, 2, 3, 8, 9, 10, 11, 36, 41] ?_
   refine a9 hP hN rfl ?_
   iterate 3 (refine Z rfl fun _ k0 => ?_; simp only [zO, zT, acs, reduceCtorEq, J, D, M, U, O, S]; (repeat refine an ?_); (try refine .inl ?_); apply k0; clear k0; simp only [zP, D])
   refine aa ?_
   refine ⟨_, _, ?_, ak [0, 1, 2, 3, 8, 9, 10], k + 1, v, r.drop ((Lib.indexByte r c).toNat + 1), by omega, h3, by rw [List.length_drop]; omega, rfl, ?_⟩
   · omega
   · rw [← oq (P := spB c s) (k := k) (by omega) h2]
     rw [show (Lib.indexByte r c + 1).toNat = (Lib.indexByte r c).toNat + 1 by omega]
     rfl
  (try simp only [zB, reduceCtorEq] at hc19)
  refine aR ?_
  apply k15; clear k15; refine kp [0, 1, 2, 3, 8, 9, 10, 36] ?_
  refine V fun _ k26 => ?_
  obtain ⟨g1, g2⟩ := gM (P := spB c s) hr (by omega)
  have hpl := kP (P := spB c s) (k := k) (by omega)
  have hpk := kP (P := spB c s) (k := k + 1) (by omega)
  have hps := oq (P := spB c s) (k := k) (by omega) g1
  refine a9 hP hN rfl ?_
  iterate 5 (refine Z rfl fun _ k0 => ?_; simp only [zO, zT, acs, reduceCtorEq, J, D, M, U, O, S, hpl, af]; (repeat refine an ?_); (try refine .inl ?_); apply k0; clear k0; simp only [zP, D])
  refine aa ?_
  apply k26; clear k26; refine kp [0, 1, 2, 3, 8, 9, 10, 36] ?_
  refine V fun _ k27 => ?_
  refine a9 hP hN rfl ?_
  iterate 3 (refine Z rfl fun _ k0 => ?_; simp only [zO, zT, acs, reduceCtorEq, J, D, M, U, O, S, List.length_set, hpl, hps]; (repeat refine an ?_); (try refine .inl ?_); apply k0; clear k0; simp only [zP, D])
  (refine Z rfl fun _ k0 => ?_; simp only [zE, op1, ev, lkp, ch, bg, di, bm, cA, cG, ck, d4, bT, bnd, Ty.size, reduceCtorEq, J, D, M, U, O, S, Tryd.el22, Tryd.td22, Tryd.td3, List.length_set, hpl, hps]; (repeat refine an ?_); (try refine .inl ?_); apply k0; clear k0; simp only [zP, D])
  (refine Z rfl fun _ k0 => ?_; simp only [zO, zT, acs, reduceCtorEq, J, D, M, U, O, S, List.length_set, hpl, hps]; (repeat refine an ?_); (try refine .inl ?_); apply k0; clear k0; simp only [zP, D])
  refine aa ?_
  apply k27; clear k27; refine kp [0, 1, 2, 3, 8, 9, 10, 36] ?_
  refine ah ?_
  refine ⟨nr, _, rfl, ?_⟩; simp only [zF, zP, J, D]
  refine VLE.of_eq ?_
  have hke : k + 1 = (spB c s).length := by omega
  rw [show ((k : Int) + 1).toNat = (spB c s).length by omega, hke, se, az]
 · exfalso; (try simp only [zB, reduceCtorEq] at hc10); all_goals (first | (cases hc10; done) | omega | (simp at hc10; done) | (simp_all; done))
theorem rn (s : Bs) (c : UInt8) (hs : s.length ≤ 1048576) : aV Tryd.prog 51 [.one (.str s), .one (.str [c])] (.one (.list .str (spB c s))) := by
 refine aw Tryd.func51 rfl (by kernel_rfl) (Nat.le_of_ble_eq_true rfl) rfl fun C hP hN hB => ?_
 replace hN : C.N = 8 := hN
 simp only [aH, D]
 refine V fun _ k1 => ?_
 refine a9 hP hN rfl ?_
 (refine Z rfl fun _ k0 => ?_; simp only [zO, zT, acs, reduceCtorEq, J, D, M, U, O, S]; (repeat refine an ?_); (try refine .inl ?_); apply k0; clear k0; simp only [zP, D])
 refine aa ?_
 apply k1; clear k1; refine kp [0, 1, 4] ?_
 refine V fun _ k2 => ?_
 refine a9 hP hN rfl ?_
 iterate 2 (refine Z rfl fun _ k0 => ?_; simp only [zO, zT, acs, reduceCtorEq, J, D, M, U, O, S]; (repeat refine an ?_); (try refine .inl ?_); apply k0; clear k0; simp only [zP, D])
 refine Z rfl fun _ k0 => ?_
 refine ar (h := ae (rC s c hs)) rfl rfl (by first | exact rfl | (simp only [ev, zP, J, D]; exact rfl)) (by simp only [zV, acs, reduceCtorEq, J, D, M, U, O, S]) ?_
 apply k0; clear k0; simp only [zP, D]
 (refine Z rfl fun _ k0 => ?_; simp only [zO, zT, acs, reduceCtorEq, J, D, M, U, O, S]; (repeat refine an ?_); (try refine .inl ?_); apply k0; clear k0; simp only [zP, D])
 refine aa ?_
 apply k2; clear k2; refine kp [0, 1, 4] ?_
 refine ah ?_
 refine ⟨nr, _, rfl, ?_⟩; simp only [zF, zP, J, D]
 refine VLE.of_eq ?_
 rfl
set_option maxHeartbeats 1000000 in
theorem ru (xs ys : List Bs) (s : Bs) (hs : s.length ≤ 1048576) : aV Tryd.prog 29 [.agg [.list .str xs], .agg [.list .str ys], .one (.str s)] (.tup [.agg [.list (.int .i64) (eY xs ys s).1, .list (.int .i64) (eY xs ys s).2.1], .one (.int .i64 (eZ xs ys s))]) := by
 have hwl := gT 32 s
 refine aw Tryd.func29 rfl (by kernel_rfl) (Nat.le_of_ble_eq_true rfl) rfl fun C hP hN hB => ?_
 replace hN : C.N = 36 := hN
 simp only [aH, D]
 refine V fun _ k1 => ?_
 refine a9 hP hN rfl ?_
 iterate 4 (refine Z rfl fun _ k0 => ?_; simp only [zO, zT, acs, reduceCtorEq, J, D, M, U, O, S]; (repeat refine an ?_); (try refine .inl ?_); apply k0; clear k0; simp only [zP, D])
 refine aa ?_
 apply k1; clear k1; refine kp [0, 1, 2, 3, 4, 6, 7] ?_
 refine V fun _ k2 => ?_
 refine a9 hP hN rfl ?_
 (refine Z rfl fun _ k0 => ?_; simp only [zO, zT, acs, reduceCtorEq, J, D, M, U, O, S]; (repeat refine an ?_); (try refine .inl ?_); apply k0; clear k0; simp only [zP, D])
 refine Z rfl fun _ k0 => ?_
 refine ar (h := ae (rn s 32 hs)) rfl rfl (by first | exact rfl | (simp only [ev, zP, J, D]; exact rfl)) (by simp only [zV, acs, reduceCtorEq, J, D, M, U, O, S]) ?_
 apply k0; clear k0; simp only [zP, D]
 (refine Z rfl fun _ k0 => ?_; simp only [zO, zT, acs, reduceCtorEq, J, D, M, U, O, S]; (repeat refine an ?_); (try refine .inl ?_); apply k0; clear k0; simp only [zP, D])
 refine aa ?_
 apply k2; clear k2; refine kp [0, 1, 2, 3, 4, 6, 7, 8] ?_
 refine V fun _ k3 => ?_
 refine V fun _ k4 => ?_
 refine a9 hP hN rfl ?_
 iterate 3 (refine Z rfl fun _ k0 => ?_; simp only [zO, zT, acs, reduceCtorEq, J, D, M, U, O, S]; (repeat refine an ?_); (try refine .inl ?_); apply k0; clear k0; simp only [zP, D])
 refine aa ?_
 apply k4; clear k4; refine kp [0, 1, 2, 3, 4, 6, 7, 8, 18] ?_
 refine cd (fun hc5 => ?_) (fun hc5 => ?_)
 ·(try simp only [zB, reduceCtorEq] at hc5)
  have hlong := hc5
  refine V fun _ k6 => ?_
  refine a9 hP hN rfl ?_
  iterate 3 (refine Z rfl fun _ k0 => ?_; simp only [zO, zT, acs, reduceCtorEq, J, D, M, U, O, S]; (repeat refine an ?_); (try refine .inl ?_); apply k0; clear k0; simp only [zP, D])
  refine aa ?_
  apply k6; clear k6; refine kp [0, 1, 2, 3, 4, 6, 7, 8, 18] ?_
  refine ah ?_
  refine ⟨nr, _, rfl, ?_⟩; simp only [zF, zP, J, D]
  first
  | (have hE := fE (xs := xs) (ys := ys) (s := s) (by omega)
     rw [hE, cv (by rw [hE]; decide)]; exact aT ⟨bV ⟨aE rfl, aE rfl, trivial⟩, fun _ _ _ _ _ h => h, trivial⟩)
  | (have hE := eK (xs := xs) (ys := ys) (s := s) (by omega) (k := k) (by omega) hq hbad
     rw [hE, cv (by rw [hE]; exact hbad)]; exact aT ⟨bV ⟨aE rfl, aE rfl, trivial⟩, fun _ _ _ _ _ h => h, trivial⟩)
  | (have hE := dP (xs := xs) (ys := ys) (s := s) (by omega) fun q hq2 => hq q (by omega)
     have htk : (spB 32 s).take k = (spB 32 s) := by rw [show k = (spB 32 s).length by omega, az]
     rw [hE, dY hE, htk]; exact VLE.of_eq rfl)
 (try simp only [zB, reduceCtorEq] at hc5)
 have hshort := hc5
 refine ag ?_
 apply k3; clear k3; refine kp [0, 1, 2, 3, 4, 6, 7, 8, 18] ?_
 refine V fun _ k7 => ?_
 refine a9 hP hN rfl ?_
 (refine Z rfl fun _ k0 => ?_; simp only [zO, zT, acs, reduceCtorEq, J, D, M, U, O, S]; (repeat refine an ?_); (try refine .inl ?_); apply k0; clear k0; simp only [zP, D])
 refine aa ?_
 apply k7; clear k7; refine kp [0, 1, 2, 3, 4, 6, 7, 8, 9, 18] ?_
 refine V fun _ k8 => ?_
 refine a9 hP hN rfl ?_
 (refine Z rfl fun _ k0 => ?_; simp only [zE, op1, ev, lkp, ch, bg, dU, eR, jm, reduceCtorEq, J, D, M, U, O, S, Tryd.td99]; (repeat refine an ?_); (try refine .inl ?_); apply k0; clear k0; simp only [zP, D])
 (refine Z rfl fun _ k0 => ?_; simp only [zO, zT, acs, reduceCtorEq, J, D, M, U, O, S]; (repeat refine an ?_); (try refine .inl ?_); apply k0; clear k0; simp only [zP, D])
 refine aa ?_
 apply k8; clear k8; refine kp [0, 1, 2, 3, 4, 6, 7, 8, 9, 10, 18] ?_
 refine V fun _ k9 => ?_
 refine V fun _ k10 => ?_
 refine a9 hP hN rfl ?_
 iterate 3 (refine Z rfl fun _ k0 => ?_; simp only [zO, zT, acs, reduceCtorEq, J, D, M, U, O, S]; (repeat refine an ?_); (try refine .inl ?_); apply k0; clear k0; simp only [zP, D])
 refine aa ?_
 apply k10; clear k10; refine kp [0, 1, 2, 3, 4, 6, 7, 8, 9, 10, 18, 21, 22, 23] ?_
 refine au ?_
 refine db 3 0 (.int .i64) 3 (by decide) rfl rfl ?_; simp only [zS, ad, aq, b0, aY, Nat.zero_add, D]
 refine db 3 1 (.int .i64) 3 (by decide) rfl rfl ?_; simp only [zS, ad, aq, b0, aY, Nat.zero_add, D]
 refine aU (fun n11 s11 => ∃ (k : Nat), (k ≤ (spB 32 s).length) ∧ (∀ q, q < k → da xs ys ((spB 32 s).getD q []) = 0) ∧ n11 = (spB 32 s).length - k ∧ s11 = { env := [(6, .one (.ptr 2 0 0 0)), (7, .one (.int .i64 0)), (9, .one (.ptr 3 0 0 0)), (10, .one (.fn 52 [.ref 0, .ref 1, .ref 3])), (21, .one (.list .str (spB 32 s))), (22, .one (.int .i64 ((spB 32 s).length : Int))), (23, .one (.int .i64 (k : Int)))], L := [.vars 24 [.list .str xs], .vars 24 [.list .str ys], .vars 60 [.nils, .nils], .vars 60 [.row 4 k, .row 5 k], .row (.int .i64) 3 k (eO xs ((spB 32 s).take k)), .row (.int .i64) 3 k (eT ys ((spB 32 s).take k))] }) ?_ ?_
 ·exact ⟨_, _, ak [6, 7, 9, 10, 21, 22, 23], 0, Nat.zero_le _, fun q hq => by omega, rfl, rfl⟩
 rintro n11 s11 ⟨k, hk, hq, rfl, rfl⟩
 refine V fun _ k12 => ?_
 refine a9 hP hN rfl ?_
 (refine Z rfl fun _ k0 => ?_; simp only [zO, zT, acs, reduceCtorEq, J, D, M, U, O, S]; (repeat refine an ?_); (try refine .inl ?_); apply k0; clear k0; simp only [zP, D])
 refine aa ?_
 apply k12; clear k12; refine kp [6, 7, 9, 10, 21, 22, 23, 24] ?_
 refine V fun _ k13 => ?_
 refine cd (fun hc14 => ?_) (fun hc14 => ?_)
 ·(try simp only [zB, reduceCtorEq] at hc14)
  refine ag ?_
  apply k13; clear k13; refine kp [6, 7, 9, 10, 21, 22, 23, 24] ?_
  refine V fun _ k15 => ?_
  refine au ?_
  refine V fun _ k16 => ?_
  refine a9 hP hN rfl ?_
  iterate 3 (refine Z rfl fun _ k0 => ?_; simp only [zO, zT, acs, reduceCtorEq, J, D, M, U, O, S]; (repeat refine an ?_); (try refine .inl ?_); apply k0; clear k0; simp only [zP, D])
  refine aa ?_
  apply k16; clear k16; refine kp [6, 7, 9, 10, 12, 21, 22, 23, 24] ?_
  refine V fun _ k17 => ?_
  have hgl := ew 32 s k
  refine a9 hP hN rfl ?_
  iterate 2 (refine Z rfl fun _ k0 => ?_; simp only [zO, zT, acs, reduceCtorEq, J, D, M, U, O, S]; (repeat refine an ?_); (try refine .inl ?_); apply k0; clear k0; simp only [zP, D])
  refine Z rfl fun _ k0 => ?_
  refine ar (h := tw xs ys k (eO xs ((spB 32 s).take k)) (eT ys ((spB 32 s).take k)) ((spB 32 s).getD k []) (by omega) (by simp only [eO, bJ, List.length_take]; omega) (by simp only [eT, bJ, List.length_take]; omega)) rfl rfl (by first | exact rfl | (simp only [ev, zP, J, D]; exact rfl)) (by simp only [zV, acs, reduceCtorEq, J, D, M, U, O, S]) ?_
  apply k0; clear k0; simp only [zP, D]
  (refine Z rfl fun _ k0 => ?_; simp only [zO, zT, acs, reduceCtorEq, J, D, M, U, O, S]; (repeat refine an ?_); (try refine .inl ?_); apply k0; clear k0; simp only [zP, D])
  refine aa ?_
  apply k17; clear k17; refine kp [6, 7, 9, 10, 12, 13, 21, 22, 23, 24] ?_
  refine V fun _ k18 => ?_
  refine a9 hP hN rfl ?_
  iterate 2 (refine Z rfl fun _ k0 => ?_; simp only [zO, zT, acs, reduceCtorEq, J, D, M, U, O, S]; (repeat refine an ?_); (try refine .inl ?_); apply k0; clear k0; simp only [zP, D])
  refine aa ?_
  apply k18; clear k18; refine kp [6, 7, 9, 10, 12, 13, 21, 22, 23, 24, 31] ?_
  refine cd (fun hc19 => ?_) (fun hc19 => ?_)
  ·(try simp only [zB, reduceCtorEq] at hc19)
   have hbad := hc19
   refine V fun _ k20 => ?_
   refine a9 hP hN rfl ?_
   iterate 4 (refine Z rfl fun _ k0 => ?_; simp only [zO, zT, acs, reduceCtorEq, J, D, M, U, O, S]; (repeat refine an ?_); (try refine .inl ?_); apply k0; clear k0; simp only [zP, D])
   refine aa ?_
   apply k20; clear k20; refine kp [6, 7, 9, 10, 12, 13, 21, 22, 23, 24, 31] ?_
   refine ah ?_
   refine ⟨nr, _, rfl, ?_⟩; simp only [zF, zP, J, D]
   first
   | (have hE := fE (xs := xs) (ys := ys) (s := s) (by omega)
      rw [hE, cv (by rw [hE]; decide)]; exact aT ⟨bV ⟨aE rfl, aE rfl, trivial⟩, fun _ _ _ _ _ h => h, trivial⟩)
   | (have hE := eK (xs := xs) (ys := ys) (s := s) (by omega) (k := k) (by omega) hq hbad
      rw [hE, cv (by rw [hE]; exact hbad)]; exact aT ⟨bV ⟨aE rfl, aE rfl, trivial⟩, fun _ _ _ _ _ h => h, trivial⟩)
   | (have hE := dP (xs := xs) (ys := ys) (s := s) (by omega) fun q hq2 => hq q (by omega)
      have htk : (spB 32 s).take k = (spB 32 s) := by rw [show k = (spB 32 s).length by omega, az]
      rw [hE, dY hE, htk]; exact VLE.of_eq rfl)
  (try simp only [zB, reduceCtorEq] at hc19)
  have hok := hc19
  obtain ⟨e1, e2, _⟩ := eX (xs := xs) (ys := ys) (p := (spB 32 s).getD k []) (by omega) k (eO xs ((spB 32 s).take k))
  obtain ⟨_, _, e3⟩ := eX (xs := xs) (ys := ys) (p := (spB 32 s).getD k []) (by omega) k (eT ys ((spB 32 s).take k))
  refine ag ?_
  apply k15; clear k15; refine kp [6, 7, 9, 10, 12, 13, 21, 22, 23, 24, 31] ?_
  refine a9 hP hN rfl ?_
  iterate 2 (refine Z rfl fun _ k0 => ?_; simp only [zO, zT, acs, reduceCtorEq, J, D, M, U, O, S]; (repeat refine an ?_); (try refine .inl ?_); apply k0; clear k0; simp only [zP, D])
  refine aa ?_
  refine ⟨_, _, ?_, ak [6, 7, 9, 10, 21, 22, 23], k + 1, by omega, fun q hq2 => ?_, rfl, ?_⟩
  · omega
  · by_cases e : q = k
    · rw [e]; omega
    · exact hq q (by omega)
  · rw [e1, e2, e3, lH (by omega), lq (by omega)]; rfl
 (try simp only [zB, reduceCtorEq] at hc14)
 refine aR ?_
 apply k9; clear k9; refine kp [6, 7, 9, 10, 21, 22, 23, 24] ?_
 refine V fun _ k21 => ?_
 refine dg 4 3 rfl rfl ?_; simp only [aP, bb, frC, zS, J, and_self, and_true, true_and, and_false, false_and, if_true, if_false, eq_self, reduceCtorEq, Nat.one_ne_zero, Nat.zero_ne_one]
 refine dg 5 3 rfl rfl ?_; simp only [aP, bb, frC, zS, J, and_self, and_true, true_and, and_false, false_and, if_true, if_false, eq_self, reduceCtorEq, Nat.one_ne_zero, Nat.zero_ne_one]
 refine a9 hP hN rfl ?_
 iterate 3 (refine Z rfl fun _ k0 => ?_; simp only [zO, zT, acs, reduceCtorEq, J, D, M, U, O, S]; (repeat refine an ?_); (try refine .inl ?_); apply k0; clear k0; simp only [zP, D])
 refine aa ?_
 apply k21; clear k21; refine kp [6, 7, 9, 10, 21, 22, 23, 24] ?_
 refine ah ?_
 refine ⟨nr, _, rfl, ?_⟩; simp only [zF, zP, J, D]
 first
 | (have hE := fE (xs := xs) (ys := ys) (s := s) (by omega)
    rw [hE, cv (by rw [hE]; decide)]; exact aT ⟨bV ⟨aE rfl, aE rfl, trivial⟩, fun _ _ _ _ _ h => h, trivial⟩)
 | (have hE := eK (xs := xs) (ys := ys) (s := s) (by omega) (k := k) (by omega) hq hbad
    rw [hE, cv (by rw [hE]; exact hbad)]; exact aT ⟨bV ⟨aE rfl, aE rfl, trivial⟩, fun _ _ _ _ _ h => h, trivial⟩)
 | (have hE := dP (xs := xs) (ys := ys) (s := s) (by omega) fun q hq2 => hq q (by omega)
    have htk : (spB 32 s).take k = (spB 32 s) := by rw [show k = (spB 32 s).length by omega, az]
    rw [hE, dY hE, htk]; exact VLE.of_eq rfl)
end Go.Proofs.YtfakhaagbimljaaDoor
