/- Contracts of functions of this seat, each out of a walk through its code, and plain facts on what they compute. Conditions: those that each theorem names. -/
import Derived.Test.YtfakhaagbimljaaDoorW03
set_option linter.unusedSimpArgs false
set_option linter.unusedVariables false
set_option maxRecDepth 100000
namespace Go.Proofs.YtfakhaagbimljaaDoor
open Go Go.AV
open Nat renaming reduceEqDiff → J, reduceAdd → D, reduceLeDiff → M, reduceLT → U, reduceMul → O, reduceSub → S
open List renaming set_cons_zero → bG, set_cons_succ → bH, getD_cons_zero → ad, length_append → ag, map_cons → aR, cons_append → b0, map_nil → bf, length_cons → af, nil_append → aD, take_succ_cons → aj, length_nil → au, length_map → bP, length_replicate → bm, take_length → aE, mem_cons_self → aM, mem_cons_of_mem → aH
open Int renaming toNat_natCast → ae
set_option maxHeartbeats 1000000 in
theorem qU (s : Bs) (c : UInt8) (hs : s.length ≤ 1048576) : aW Tryd.prog 69 [.one (.str s), .one (.str [c]), .one (.int .i64 0), .one (.int .i64 (-1))] (.one (.list .str (spB c s))) := by
 have hcl := qX c s; have hsl := hY c s
 refine aA Tryd.func69 rfl (by kernel_rfl) (Nat.le_of_ble_eq_true rfl) rfl fun C hP hN hB => ?_
 replace hN : C.N = 66 := hN
 simp only [aL, D]
 refine Z fun _ k1 => ?_
 refine a9 hP hN rfl ?_
 (refine V rfl fun _ k0 => ?_; simp only [zO, zT, acs, reduceCtorEq, J, D, M, U, O, S]; (repeat refine an ?_); (try refine .inl ?_); apply k0; clear k0; simp only [zP, D])
 refine aa ?_
 apply k1; clear k1; refine kp [0, 1, 2, 3, 8] ?_
 refine Z fun _ k2 => ?_
 refine Z fun _ k3 => ?_
 refine a9 hP hN rfl ?_
 iterate 2 (refine V rfl fun _ k0 => ?_; simp only [zO, zT, acs, reduceCtorEq, J, D, M, U, O, S]; (repeat refine an ?_); (try refine .inl ?_); apply k0; clear k0; simp only [zP, D])
 refine aa ?_
 apply k3; clear k3; refine kp [0, 1, 2, 3, 8, 13] ?_
 refine cd (fun hc4 => ?_) (fun hc4 => ?_)
 · exfalso; (try simp only [zB, reduceCtorEq] at hc4); all_goals (first | (cases hc4; done) | omega | (simp at hc4; done) | (simp_all; done))
 (try simp only [zB, reduceCtorEq] at hc4)
 refine am ?_
 apply k2; clear k2; refine kp [0, 1, 2, 3, 8, 13] ?_
 refine Z fun _ k5 => ?_
 refine Z fun _ k6 => ?_
 refine a9 hP hN rfl ?_
 iterate 2 (refine V rfl fun _ k0 => ?_; simp only [zO, zT, acs, reduceCtorEq, J, D, M, U, O, S]; (repeat refine an ?_); (try refine .inl ?_); apply k0; clear k0; simp only [zP, D])
 refine aa ?_
 apply k6; clear k6; refine kp [0, 1, 2, 3, 8, 13, 15] ?_
 refine cd (fun hc7 => ?_) (fun hc7 => ?_)
 · exfalso; (try simp only [zB, reduceCtorEq] at hc7); all_goals (first | (cases hc7; done) | omega | (simp at hc7; done) | (simp_all; done))
 (try simp only [zB, reduceCtorEq] at hc7)
 refine am ?_
 apply k5; clear k5; refine kp [0, 1, 2, 3, 8, 13, 15] ?_
 refine Z fun _ k8 => ?_
 refine Z fun _ k9 => ?_
 refine a9 hP hN rfl ?_
 iterate 2 (refine V rfl fun _ k0 => ?_; simp only [zO, zT, acs, reduceCtorEq, J, D, M, U, O, S]; (repeat refine an ?_); (try refine .inl ?_); apply k0; clear k0; simp only [zP, D])
 refine aa ?_
 apply k9; clear k9; refine kp [0, 1, 2, 3, 8, 13, 15, 20] ?_
 refine cd (fun hc10 => ?_) (fun hc10 => ?_)
 ·(try simp only [zB, reduceCtorEq] at hc10)
  refine a9 hP hN rfl ?_
  iterate 2 (refine V rfl fun _ k0 => ?_; simp only [zO, zT, acs, reduceCtorEq, J, D, M, U, O, S]; (repeat refine an ?_); (try refine .inl ?_); apply k0; clear k0; simp only [zP, D])
  refine V rfl fun _ k0 => ?_
  refine ar (h := ah (pw s c)) rfl rfl (by first | exact rfl | (simp only [ev, zP, J, D]; exact rfl)) (by simp only [zV, acs, reduceCtorEq, J, D, M, U, O, S]) ?_
  apply k0; clear k0; simp only [zP, D]
  iterate 2 (refine V rfl fun _ k0 => ?_; simp only [zO, zT, acs, reduceCtorEq, J, D, M, U, O, S]; (repeat refine an ?_); (try refine .inl ?_); apply k0; clear k0; simp only [zP, D])
  refine aa ?_
  apply k8; clear k8; refine kp [0, 1, 2, 3, 8, 13, 15, 20] ?_
  refine Z fun _ k11 => ?_
  rw [show ((Lib.countByte s c : Nat) : Int) + 1 = (spB c s).length by rw [hsl]; omega]
  refine a9 hP hN rfl ?_
  iterate 6 (refine V rfl fun _ k0 => ?_; simp only [zO, zT, acs, reduceCtorEq, J, D, M, U, O, S]; (repeat refine an ?_); (try refine .inl ?_); apply k0; clear k0; simp only [zP, D])
  refine aa ?_
  apply k11; clear k11; refine kp [0, 1, 2, 3, 8, 13, 15, 20] ?_
  refine Z fun _ k12 => ?_
  rw [show min ((spB c s).length : Int) ((s.length : Int) + 1) = (spB c s).length by rw [hsl]; omega]
  refine a9 hP hN rfl ?_
  (refine V rfl fun _ k0 => ?_; simp only [zO, zT, acs, reduceCtorEq, J, D, M, U, O, S]; (repeat refine an ?_); (try refine .inl ?_); apply k0; clear k0; simp only [zP, D])
  (refine V rfl fun _ k0 => ?_; simp only [zE, op1, ev, lkp, c9, be, dm, b9, Ty.size, Ty.dflt, reduceCtorEq, J, D, M, U, O, S, Tryd.el22, Tryd.td22, Tryd.td3]; (repeat refine an ?_); (try refine .inl ?_); apply k0; clear k0; simp only [zP, D])
  (refine V rfl fun _ k0 => ?_; simp only [zO, zT, acs, reduceCtorEq, J, D, M, U, O, S]; (repeat refine an ?_); (try refine .inl ?_); apply k0; clear k0; simp only [zP, D])
  refine aa ?_
  apply k12; clear k12; refine kp [0, 1, 2, 3, 8, 9, 13, 15, 20] ?_
  refine Z fun _ k13 => ?_
  refine a9 hP hN rfl ?_
  iterate 3 (refine V rfl fun _ k0 => ?_; simp only [zO, zT, acs, reduceCtorEq, J, D, M, U, O, S]; (repeat refine an ?_); (try refine .inl ?_); apply k0; clear k0; simp only [zP, D])
  refine aa ?_
  apply k13; clear k13; refine kp [0, 1, 2, 3, 8, 9, 13, 15, 20] ?_
  refine Z fun _ k14 => ?_
  refine a9 hP hN rfl ?_
  (refine V rfl fun _ k0 => ?_; simp only [zO, zT, acs, reduceCtorEq, J, D, M, U, O, S]; (repeat refine an ?_); (try refine .inl ?_); apply k0; clear k0; simp only [zP, D])
  refine aa ?_
  apply k14; clear k14; refine kp [0, 1, 2, 3, 8, 9, 10, 13, 15, 20] ?_
  refine Z fun _ k15 => ?_
  refine az ?_
  refine aX (fun n16 s16 => ∃ (k : Nat) (v : Nat) (r : Bs), (k + 1 ≤ (spB c s).length) ∧ (spB c r = (spB c s).drop k) ∧ (r.length ≤ s.length) ∧ n16 = (spB c s).length - k ∧ s16 = { env := [(0, .one (.str r)), (1, .one (.str [c])), (2, .one (.int .i64 0)), (3, .one (.int .i64 (((spB c s).length : Int) - 1))), (8, .one .nils), (9, .one (.row 0 v)), (10, .one (.int .i64 (k : Int)))], L := [.row .str 9 v (pcs (spB c s) k)] }) ?_ ?_
  ·exact ⟨_, _, aw [0, 1, 2, 3, 8, 9, 10], 0, 0, s, by omega, by rw [List.drop_zero], Nat.le_refl _, rfl, by rw [show pcs (spB c s) 0 = List.replicate (spB c s).length [] by unfold pcs; rw [List.take_zero, Nat.sub_zero, aD]]; rfl⟩
  rintro n16 s16 ⟨k, v, r, hk, hr, hrl, rfl, rfl⟩
  refine Z fun _ k17 => ?_
  refine Z fun _ k18 => ?_
  refine a9 hP hN rfl ?_
  iterate 3 (refine V rfl fun _ k0 => ?_; simp only [zO, zT, acs, reduceCtorEq, J, D, M, U, O, S]; (repeat refine an ?_); (try refine .inl ?_); apply k0; clear k0; simp only [zP, D])
  refine aa ?_
  apply k18; clear k18; refine kp [0, 1, 2, 3, 8, 9, 10, 36] ?_
  refine cd (fun hc19 => ?_) (fun hc19 => ?_)
  ·(try simp only [zB, reduceCtorEq] at hc19)
   refine am ?_
   apply k17; clear k17; refine kp [0, 1, 2, 3, 8, 9, 10, 36] ?_
   refine az ?_
   refine Z fun _ k20 => ?_
   obtain ⟨h1, h2, h3, h4⟩ := kN (P := spB c s) hr (by omega)
   have hpl := ka (P := spB c s) (k := k) (by omega)
   refine a9 hP hN rfl ?_
   iterate 2 (refine V rfl fun _ k0 => ?_; simp only [zO, zT, acs, reduceCtorEq, J, D, M, U, O, S]; (repeat refine an ?_); (try refine .inl ?_); apply k0; clear k0; simp only [zP, D])
   refine V rfl fun _ k0 => ?_
   refine ar (h := ah (sU r c)) rfl rfl (by first | exact rfl | (simp only [ev, zP, J, D]; exact rfl)) (by simp only [zV, acs, reduceCtorEq, J, D, M, U, O, S]) ?_
   apply k0; clear k0; simp only [zP, D]
   (refine V rfl fun _ k0 => ?_; simp only [zO, zT, acs, reduceCtorEq, J, D, M, U, O, S]; (repeat refine an ?_); (try refine .inl ?_); apply k0; clear k0; simp only [zP, D])
   refine aa ?_
   apply k20; clear k20; refine kp [0, 1, 2, 3, 8, 9, 10, 11, 36] ?_
   refine Z fun _ k21 => ?_
   refine Z fun _ k22 => ?_
   refine a9 hP hN rfl ?_
   iterate 2 (refine V rfl fun _ k0 => ?_; simp only [zO, zT, acs, reduceCtorEq, J, D, M, U, O, S]; (repeat refine an ?_); (try refine .inl ?_); apply k0; clear k0; simp only [zP, D])
   refine aa ?_
   apply k22; clear k22; refine kp [0, 1, 2, 3, 8, 9, 10, 11, 36, 41] ?_
   refine cd (fun hc23 => ?_) (fun hc23 => ?_)
   · exfalso; (try simp only [zB, reduceCtorEq] at hc23); all_goals (first | (cases hc23; done) | omega | (simp at hc23; done) | (simp_all; done))
   (try simp only [zB, reduceCtorEq] at hc23)
   refine am ?_
   apply k21; clear k21; refine kp [0, 1, 2, 3, 8, 9, 10, 11, 36, 41] ?_
   refine Z fun _ k24 => ?_
   refine a9 hP hN rfl ?_
   iterate 6 (refine V rfl fun _ k0 => ?_; simp only [zO, zT, acs, reduceCtorEq, J, D, M, U, O, S, Int.add_zero, List.drop_zero, hpl, ae]; (repeat refine an ?_); (try refine .inl ?_); apply k0; clear k0; simp only [zP, D])
   (refine V rfl fun _ k0 => ?_; simp only [zE, op1, ev, lkp, c9, be, dA, bj, cB, cS, cp, d6, bU, bnd, Ty.size, cZ, zG, Ty.dflt, Nat.mul_one, ne_eq, not_false_eq_true, Int.natCast_one, Int.mul_one, eW, bn, bl, b9, acs, reduceCtorEq, J, D, M, U, O, S, Tryd.el22, Tryd.td22, Tryd.td3, Tryd.td9, Int.add_zero, List.drop_zero, hpl, ae]; (repeat refine an ?_); (try refine .inl ?_); apply k0; clear k0; simp only [zP, D])
   iterate 2 (refine V rfl fun _ k0 => ?_; simp only [zO, zT, acs, reduceCtorEq, J, D, M, U, O, S, Int.add_zero, List.drop_zero, hpl, ae]; (repeat refine an ?_); (try refine .inl ?_); apply k0; clear k0; simp only [zP, D])
   refine aa ?_
   apply k24; clear k24; refine kp [0, 1, 2, 3, 8, 9, 10, 11, 36, 41] ?_
   refine Z fun _ k25 => ?_
   refine a9 hP hN rfl ?_
   iterate 5 (refine V rfl fun _ k0 => ?_; simp only [zO, zT, acs, reduceCtorEq, J, D, M, U, O, S, aE]; (repeat refine an ?_); (try refine .inl ?_); apply k0; clear k0; simp only [zP, D])
   (refine V rfl fun _ k0 => ?_; simp only [zE, op1, ev, lkp, c9, be, cm, gJ, fU, bJ, ci, dn, Nat.div_one, cW, cD, Ty.size, b9, dite_true, dA, bj, cB, cS, cp, d6, bU, bnd, reduceCtorEq, J, D, M, U, O, S, Tryd.td3, Tryd.td9, aE]; (repeat refine an ?_); (try refine .inl ?_); apply k0; clear k0; simp only [zP, D])
   (refine V rfl fun _ k0 => ?_; simp only [zO, zT, acs, reduceCtorEq, J, D, M, U, O, S, aE]; (repeat refine an ?_); (try refine .inl ?_); apply k0; clear k0; simp only [zP, D])
   refine aa ?_
   apply k25; clear k25; refine kp [0, 1, 2, 3, 8, 9, 10, 11, 36, 41] ?_
   refine a9 hP hN rfl ?_
   iterate 3 (refine V rfl fun _ k0 => ?_; simp only [zO, zT, acs, reduceCtorEq, J, D, M, U, O, S]; (repeat refine an ?_); (try refine .inl ?_); apply k0; clear k0; simp only [zP, D])
   refine aa ?_
   refine ⟨_, _, ?_, aw [0, 1, 2, 3, 8, 9, 10], k + 1, v, r.drop ((Lib.indexByte r c).toNat + 1), by omega, h3, by rw [List.length_drop]; omega, rfl, ?_⟩
   · omega
   · rw [← na (P := spB c s) (k := k) (by omega) h2]
     rw [show (Lib.indexByte r c + 1).toNat = (Lib.indexByte r c).toNat + 1 by omega]
     rfl
  (try simp only [zB, reduceCtorEq] at hc19)
  refine aV ?_
  apply k15; clear k15; refine kp [0, 1, 2, 3, 8, 9, 10, 36] ?_
  refine Z fun _ k26 => ?_
  obtain ⟨g1, g2⟩ := gp (P := spB c s) hr (by omega)
  have hpl := ka (P := spB c s) (k := k) (by omega)
  have hpk := ka (P := spB c s) (k := k + 1) (by omega)
  have hps := na (P := spB c s) (k := k) (by omega) g1
  refine a9 hP hN rfl ?_
  iterate 5 (refine V rfl fun _ k0 => ?_; simp only [zO, zT, acs, reduceCtorEq, J, D, M, U, O, S, hpl, ae]; (repeat refine an ?_); (try refine .inl ?_); apply k0; clear k0; simp only [zP, D])
  refine aa ?_
  apply k26; clear k26; refine kp [0, 1, 2, 3, 8, 9, 10, 36] ?_
  refine Z fun _ k27 => ?_
  refine a9 hP hN rfl ?_
  iterate 3 (refine V rfl fun _ k0 => ?_; simp only [zO, zT, acs, reduceCtorEq, J, D, M, U, O, S, List.length_set, hpl, hps]; (repeat refine an ?_); (try refine .inl ?_); apply k0; clear k0; simp only [zP, D])
  (refine V rfl fun _ k0 => ?_; simp only [zE, op1, ev, lkp, c9, be, dA, bj, cB, cS, cp, d6, bU, bnd, Ty.size, reduceCtorEq, J, D, M, U, O, S, Tryd.el22, Tryd.td22, Tryd.td3, List.length_set, hpl, hps]; (repeat refine an ?_); (try refine .inl ?_); apply k0; clear k0; simp only [zP, D])
  (refine V rfl fun _ k0 => ?_; simp only [zO, zT, acs, reduceCtorEq, J, D, M, U, O, S, List.length_set, hpl, hps]; (repeat refine an ?_); (try refine .inl ?_); apply k0; clear k0; simp only [zP, D])
  refine aa ?_
  apply k27; clear k27; refine kp [0, 1, 2, 3, 8, 9, 10, 36] ?_
  refine ak ?_
  refine ⟨nr, _, rfl, ?_⟩; simp only [zF, zP, J, D]
  refine VLE.of_eq ?_
  have hke : k + 1 = (spB c s).length := by omega
  rw [show ((k : Int) + 1).toNat = (spB c s).length by omega, hke, rZ, aE]
 · exfalso; (try simp only [zB, reduceCtorEq] at hc10); all_goals (first | (cases hc10; done) | omega | (simp at hc10; done) | (simp_all; done))
theorem qS (s : Bs) (c : UInt8) (hs : s.length ≤ 1048576) : aW Tryd.prog 51 [.one (.str s), .one (.str [c])] (.one (.list .str (spB c s))) := by
 refine aA Tryd.func51 rfl (by kernel_rfl) (Nat.le_of_ble_eq_true rfl) rfl fun C hP hN hB => ?_
 replace hN : C.N = 8 := hN
 simp only [aL, D]
 refine Z fun _ k1 => ?_
 refine a9 hP hN rfl ?_
 (refine V rfl fun _ k0 => ?_; simp only [zO, zT, acs, reduceCtorEq, J, D, M, U, O, S]; (repeat refine an ?_); (try refine .inl ?_); apply k0; clear k0; simp only [zP, D])
 refine aa ?_
 apply k1; clear k1; refine kp [0, 1, 4] ?_
 refine Z fun _ k2 => ?_
 refine a9 hP hN rfl ?_
 iterate 2 (refine V rfl fun _ k0 => ?_; simp only [zO, zT, acs, reduceCtorEq, J, D, M, U, O, S]; (repeat refine an ?_); (try refine .inl ?_); apply k0; clear k0; simp only [zP, D])
 refine V rfl fun _ k0 => ?_
 refine ar (h := ah (qU s c hs)) rfl rfl (by first | exact rfl | (simp only [ev, zP, J, D]; exact rfl)) (by simp only [zV, acs, reduceCtorEq, J, D, M, U, O, S]) ?_
 apply k0; clear k0; simp only [zP, D]
 (refine V rfl fun _ k0 => ?_; simp only [zO, zT, acs, reduceCtorEq, J, D, M, U, O, S]; (repeat refine an ?_); (try refine .inl ?_); apply k0; clear k0; simp only [zP, D])
 refine aa ?_
 apply k2; clear k2; refine kp [0, 1, 4] ?_
 refine ak ?_
 refine ⟨nr, _, rfl, ?_⟩; simp only [zF, zP, J, D]
 refine VLE.of_eq ?_
 rfl
set_option maxHeartbeats 1000000 in
theorem qd (xs ys : List Bs) (s : Bs) (hs : s.length ≤ 1048576) : aW Tryd.prog 29 [.agg [.list .str xs], .agg [.list .str ys], .one (.str s)] (.tup [.agg [.list (.int .i64) (gi xs ys s).1, .list (.int .i64) (gi xs ys s).2.1], .one (.int .i64 (eR xs ys s))]) := by
 have hwl := me 32 s
 refine aA Tryd.func29 rfl (by kernel_rfl) (Nat.le_of_ble_eq_true rfl) rfl fun C hP hN hB => ?_
 replace hN : C.N = 36 := hN
 simp only [aL, D]
 refine Z fun _ k1 => ?_
 refine a9 hP hN rfl ?_
 iterate 4 (refine V rfl fun _ k0 => ?_; simp only [zO, zT, acs, reduceCtorEq, J, D, M, U, O, S]; (repeat refine an ?_); (try refine .inl ?_); apply k0; clear k0; simp only [zP, D])
 refine aa ?_
 apply k1; clear k1; refine kp [0, 1, 2, 3, 4, 6, 7] ?_
 refine Z fun _ k2 => ?_
 refine a9 hP hN rfl ?_
 (refine V rfl fun _ k0 => ?_; simp only [zO, zT, acs, reduceCtorEq, J, D, M, U, O, S]; (repeat refine an ?_); (try refine .inl ?_); apply k0; clear k0; simp only [zP, D])
 refine V rfl fun _ k0 => ?_
 refine ar (h := ah (qS s 32 hs)) rfl rfl (by first | exact rfl | (simp only [ev, zP, J, D]; exact rfl)) (by simp only [zV, acs, reduceCtorEq, J, D, M, U, O, S]) ?_
 apply k0; clear k0; simp only [zP, D]
 (refine V rfl fun _ k0 => ?_; simp only [zO, zT, acs, reduceCtorEq, J, D, M, U, O, S]; (repeat refine an ?_); (try refine .inl ?_); apply k0; clear k0; simp only [zP, D])
 refine aa ?_
 apply k2; clear k2; refine kp [0, 1, 2, 3, 4, 6, 7, 8] ?_
 refine Z fun _ k3 => ?_
 refine Z fun _ k4 => ?_
 refine a9 hP hN rfl ?_
 iterate 3 (refine V rfl fun _ k0 => ?_; simp only [zO, zT, acs, reduceCtorEq, J, D, M, U, O, S]; (repeat refine an ?_); (try refine .inl ?_); apply k0; clear k0; simp only [zP, D])
 refine aa ?_
 apply k4; clear k4; refine kp [0, 1, 2, 3, 4, 6, 7, 8, 18] ?_
 refine cd (fun hc5 => ?_) (fun hc5 => ?_)
 ·(try simp only [zB, reduceCtorEq] at hc5)
  have hlong := hc5
  refine Z fun _ k6 => ?_
  refine a9 hP hN rfl ?_
  iterate 3 (refine V rfl fun _ k0 => ?_; simp only [zO, zT, acs, reduceCtorEq, J, D, M, U, O, S]; (repeat refine an ?_); (try refine .inl ?_); apply k0; clear k0; simp only [zP, D])
  refine aa ?_
  apply k6; clear k6; refine kp [0, 1, 2, 3, 4, 6, 7, 8, 18] ?_
  refine ak ?_
  refine ⟨nr, _, rfl, ?_⟩; simp only [zF, zP, J, D]
  first
  | (have hE := mu (xs := xs) (ys := ys) (s := s) (by omega)
     rw [hE, f8 (by rw [hE]; decide)]; exact eZ ⟨dy ⟨bp rfl, bp rfl, trivial⟩, fun _ _ _ _ _ h => h, trivial⟩)
  | (have hE := kJ (xs := xs) (ys := ys) (s := s) (by omega) (k := k) (by omega) hq hbad
     rw [hE, f8 (by rw [hE]; exact hbad)]; exact eZ ⟨dy ⟨bp rfl, bp rfl, trivial⟩, fun _ _ _ _ _ h => h, trivial⟩)
  | (have hE := iD (xs := xs) (ys := ys) (s := s) (by omega) fun q hq2 => hq q (by omega)
     have htk : (spB 32 s).take k = (spB 32 s) := by rw [show k = (spB 32 s).length by omega, aE]
     rw [hE, iL hE, htk]; exact VLE.of_eq rfl)
 (try simp only [zB, reduceCtorEq] at hc5)
 have hshort := hc5
 refine am ?_
 apply k3; clear k3; refine kp [0, 1, 2, 3, 4, 6, 7, 8, 18] ?_
 refine Z fun _ k7 => ?_
 refine a9 hP hN rfl ?_
 (refine V rfl fun _ k0 => ?_; simp only [zO, zT, acs, reduceCtorEq, J, D, M, U, O, S]; (repeat refine an ?_); (try refine .inl ?_); apply k0; clear k0; simp only [zP, D])
 refine aa ?_
 apply k7; clear k7; refine kp [0, 1, 2, 3, 4, 6, 7, 8, 9, 18] ?_
 refine Z fun _ k8 => ?_
 refine a9 hP hN rfl ?_
 (refine V rfl fun _ k0 => ?_; simp only [zE, op1, ev, lkp, c9, be, dI, eB, jd, reduceCtorEq, J, D, M, U, O, S, Tryd.td99]; (repeat refine an ?_); (try refine .inl ?_); apply k0; clear k0; simp only [zP, D])
 (refine V rfl fun _ k0 => ?_; simp only [zO, zT, acs, reduceCtorEq, J, D, M, U, O, S]; (repeat refine an ?_); (try refine .inl ?_); apply k0; clear k0; simp only [zP, D])
 refine aa ?_
 apply k8; clear k8; refine kp [0, 1, 2, 3, 4, 6, 7, 8, 9, 10, 18] ?_
 refine Z fun _ k9 => ?_
 refine Z fun _ k10 => ?_
 refine a9 hP hN rfl ?_
 iterate 3 (refine V rfl fun _ k0 => ?_; simp only [zO, zT, acs, reduceCtorEq, J, D, M, U, O, S]; (repeat refine an ?_); (try refine .inl ?_); apply k0; clear k0; simp only [zP, D])
 refine aa ?_
 apply k10; clear k10; refine kp [0, 1, 2, 3, 4, 6, 7, 8, 9, 10, 18, 21, 22, 23] ?_
 refine az ?_
 refine eI 3 0 (.int .i64) 3 (by decide) rfl rfl ?_; simp only [zS, af, au, b0, aD, Nat.zero_add, D]
 refine eI 3 1 (.int .i64) 3 (by decide) rfl rfl ?_; simp only [zS, af, au, b0, aD, Nat.zero_add, D]
 refine aX (fun n11 s11 => ∃ (k : Nat), (k ≤ (spB 32 s).length) ∧ (∀ q, q < k → dj xs ys ((spB 32 s).getD q []) = 0) ∧ n11 = (spB 32 s).length - k ∧ s11 = { env := [(6, .one (.ptr 2 0 0 0)), (7, .one (.int .i64 0)), (9, .one (.ptr 3 0 0 0)), (10, .one (.fn 52 [.ref 0, .ref 1, .ref 3])), (21, .one (.list .str (spB 32 s))), (22, .one (.int .i64 ((spB 32 s).length : Int))), (23, .one (.int .i64 (k : Int)))], L := [.vars 24 [.list .str xs], .vars 24 [.list .str ys], .vars 60 [.nils, .nils], .vars 60 [.row 4 k, .row 5 k], .row (.int .i64) 3 k (gc xs ((spB 32 s).take k)), .row (.int .i64) 3 k (gg ys ((spB 32 s).take k))] }) ?_ ?_
 ·exact ⟨_, _, aw [6, 7, 9, 10, 21, 22, 23], 0, Nat.zero_le _, fun q hq => by omega, rfl, rfl⟩
 rintro n11 s11 ⟨k, hk, hq, rfl, rfl⟩
 refine Z fun _ k12 => ?_
 refine a9 hP hN rfl ?_
 (refine V rfl fun _ k0 => ?_; simp only [zO, zT, acs, reduceCtorEq, J, D, M, U, O, S]; (repeat refine an ?_); (try refine .inl ?_); apply k0; clear k0; simp only [zP, D])
 refine aa ?_
 apply k12; clear k12; refine kp [6, 7, 9, 10, 21, 22, 23, 24] ?_
 refine Z fun _ k13 => ?_
 refine cd (fun hc14 => ?_) (fun hc14 => ?_)
 ·(try simp only [zB, reduceCtorEq] at hc14)
  refine am ?_
  apply k13; clear k13; refine kp [6, 7, 9, 10, 21, 22, 23, 24] ?_
  refine Z fun _ k15 => ?_
  refine az ?_
  refine Z fun _ k16 => ?_
  refine a9 hP hN rfl ?_
  iterate 3 (refine V rfl fun _ k0 => ?_; simp only [zO, zT, acs, reduceCtorEq, J, D, M, U, O, S]; (repeat refine an ?_); (try refine .inl ?_); apply k0; clear k0; simp only [zP, D])
  refine aa ?_
  apply k16; clear k16; refine kp [6, 7, 9, 10, 12, 21, 22, 23, 24] ?_
  refine Z fun _ k17 => ?_
  have hgl := iw 32 s k
  refine a9 hP hN rfl ?_
  iterate 2 (refine V rfl fun _ k0 => ?_; simp only [zO, zT, acs, reduceCtorEq, J, D, M, U, O, S]; (repeat refine an ?_); (try refine .inl ?_); apply k0; clear k0; simp only [zP, D])
  refine V rfl fun _ k0 => ?_
  refine ar (h := sN xs ys k (gc xs ((spB 32 s).take k)) (gg ys ((spB 32 s).take k)) ((spB 32 s).getD k []) (by omega) (by simp only [gc, bP, List.length_take]; omega) (by simp only [gg, bP, List.length_take]; omega)) rfl rfl (by first | exact rfl | (simp only [ev, zP, J, D]; exact rfl)) (by simp only [zV, acs, reduceCtorEq, J, D, M, U, O, S]) ?_
  apply k0; clear k0; simp only [zP, D]
  (refine V rfl fun _ k0 => ?_; simp only [zO, zT, acs, reduceCtorEq, J, D, M, U, O, S]; (repeat refine an ?_); (try refine .inl ?_); apply k0; clear k0; simp only [zP, D])
  refine aa ?_
  apply k17; clear k17; refine kp [6, 7, 9, 10, 12, 13, 21, 22, 23, 24] ?_
  refine Z fun _ k18 => ?_
  refine a9 hP hN rfl ?_
  iterate 2 (refine V rfl fun _ k0 => ?_; simp only [zO, zT, acs, reduceCtorEq, J, D, M, U, O, S]; (repeat refine an ?_); (try refine .inl ?_); apply k0; clear k0; simp only [zP, D])
  refine aa ?_
  apply k18; clear k18; refine kp [6, 7, 9, 10, 12, 13, 21, 22, 23, 24, 31] ?_
  refine cd (fun hc19 => ?_) (fun hc19 => ?_)
  ·(try simp only [zB, reduceCtorEq] at hc19)
   have hbad := hc19
   refine Z fun _ k20 => ?_
   refine a9 hP hN rfl ?_
   iterate 4 (refine V rfl fun _ k0 => ?_; simp only [zO, zT, acs, reduceCtorEq, J, D, M, U, O, S]; (repeat refine an ?_); (try refine .inl ?_); apply k0; clear k0; simp only [zP, D])
   refine aa ?_
   apply k20; clear k20; refine kp [6, 7, 9, 10, 12, 13, 21, 22, 23, 24, 31] ?_
   refine ak ?_
   refine ⟨nr, _, rfl, ?_⟩; simp only [zF, zP, J, D]
   first
   | (have hE := mu (xs := xs) (ys := ys) (s := s) (by omega)
      rw [hE, f8 (by rw [hE]; decide)]; exact eZ ⟨dy ⟨bp rfl, bp rfl, trivial⟩, fun _ _ _ _ _ h => h, trivial⟩)
   | (have hE := kJ (xs := xs) (ys := ys) (s := s) (by omega) (k := k) (by omega) hq hbad
      rw [hE, f8 (by rw [hE]; exact hbad)]; exact eZ ⟨dy ⟨bp rfl, bp rfl, trivial⟩, fun _ _ _ _ _ h => h, trivial⟩)
   | (have hE := iD (xs := xs) (ys := ys) (s := s) (by omega) fun q hq2 => hq q (by omega)
      have htk : (spB 32 s).take k = (spB 32 s) := by rw [show k = (spB 32 s).length by omega, aE]
      rw [hE, iL hE, htk]; exact VLE.of_eq rfl)
  (try simp only [zB, reduceCtorEq] at hc19)
  have hok := hc19
  obtain ⟨e1, e2, _⟩ := eG (xs := xs) (ys := ys) (p := (spB 32 s).getD k []) (by omega) k (gc xs ((spB 32 s).take k))
  obtain ⟨_, _, e3⟩ := eG (xs := xs) (ys := ys) (p := (spB 32 s).getD k []) (by omega) k (gg ys ((spB 32 s).take k))
  refine am ?_
  apply k15; clear k15; refine kp [6, 7, 9, 10, 12, 13, 21, 22, 23, 24, 31] ?_
  refine a9 hP hN rfl ?_
  iterate 2 (refine V rfl fun _ k0 => ?_; simp only [zO, zT, acs, reduceCtorEq, J, D, M, U, O, S]; (repeat refine an ?_); (try refine .inl ?_); apply k0; clear k0; simp only [zP, D])
  refine aa ?_
  refine ⟨_, _, ?_, aw [6, 7, 9, 10, 21, 22, 23], k + 1, by omega, fun q hq2 => ?_, rfl, ?_⟩
  · omega
  · by_cases e : q = k
    · rw [e]; omega
    · exact hq q (by omega)
  · rw [e1, e2, e3, oP (by omega), p8 (by omega)]; rfl
 (try simp only [zB, reduceCtorEq] at hc14)
 refine aV ?_
 apply k9; clear k9; refine kp [6, 7, 9, 10, 21, 22, 23, 24] ?_
 refine Z fun _ k21 => ?_
 refine fC 4 3 rfl rfl ?_; simp only [aR, bf, frC, zS, J, and_self, and_true, true_and, and_false, false_and, if_true, if_false, eq_self, reduceCtorEq, Nat.one_ne_zero, Nat.zero_ne_one]
 refine fC 5 3 rfl rfl ?_; simp only [aR, bf, frC, zS, J, and_self, and_true, true_and, and_false, false_and, if_true, if_false, eq_self, reduceCtorEq, Nat.one_ne_zero, Nat.zero_ne_one]
 refine a9 hP hN rfl ?_
 iterate 3 (refine V rfl fun _ k0 => ?_; simp only [zO, zT, acs, reduceCtorEq, J, D, M, U, O, S]; (repeat refine an ?_); (try refine .inl ?_); apply k0; clear k0; simp only [zP, D])
 refine aa ?_
 apply k21; clear k21; refine kp [6, 7, 9, 10, 21, 22, 23, 24] ?_
 refine ak ?_
 refine ⟨nr, _, rfl, ?_⟩; simp only [zF, zP, J, D]
 first
 | (have hE := mu (xs := xs) (ys := ys) (s := s) (by omega)
    rw [hE, f8 (by rw [hE]; decide)]; exact eZ ⟨dy ⟨bp rfl, bp rfl, trivial⟩, fun _ _ _ _ _ h => h, trivial⟩)
 | (have hE := kJ (xs := xs) (ys := ys) (s := s) (by omega) (k := k) (by omega) hq hbad
    rw [hE, f8 (by rw [hE]; exact hbad)]; exact eZ ⟨dy ⟨bp rfl, bp rfl, trivial⟩, fun _ _ _ _ _ h => h, trivial⟩)
 | (have hE := iD (xs := xs) (ys := ys) (s := s) (by omega) fun q hq2 => hq q (by omega)
    have htk : (spB 32 s).take k = (spB 32 s) := by rw [show k = (spB 32 s).length by omega, aE]
    rw [hE, iL hE, htk]; exact VLE.of_eq rfl)
theorem co {P : Program} {f : FuncId} {args : List AV} {r : AV} {g : Nat} {x : Obj} {E : List AO} (h : cr P [.fact g x] f args { av := r, fp := [0] }) (hargs : args.all (fm 1) = true) : cr P (.fact g x :: E) f args { av := r, fp := [0] } :=
  o9 (A := [.fact g x]) h rfl hargs rfl (fun p hp => by cases hp) (fun k hk => by simp only [af, au] at hk; exact List.mem_singleton.2 (by omega))
theorem lU {P : Program} {W : World} {g : Nat} {x : Obj} : ∀ b, ¬ avd (Ctx.start P (fun _ => False) W 0) [.fact g x] (fun _ => undef) b := by
  rintro b (hx | ⟨o, ob, e, hl, _⟩)
  · exact hx
  · cases o with
    | zero => simp only [List.getElem?_cons_zero, Option.some.injEq] at e; subst e; cases hl
    | succ o => simp at e
theorem qG {P : Program} {f : FuncId} {args : List AV} {b : Bool} {g : Nat} {x : Obj} (h : cr P [.fact g x] f args { av := .one (.bool b), fp := [0] }) {W : World} {vs : List Value} (hx : W.heap[g]? = some x)
    (ha : aS (RV (Ctx.start P (fun _ => False) W 0) [.fact g x] (fun _ => undef) W) args vs) : Calls P f vs.toArray W fun e w' => ∃ v, e = .returned v ∧ MORE W w' ∧ True ∧ v = .bool b := by
  have hn : ∀ o b, ¬ own [.fact g x] (fun _ => undef) o b := by
    rintro o b ⟨ob, e, hl, _⟩
    cases o with
    | zero => simp only [List.getElem?_cons_zero, Option.some.injEq] at e; subst e; cases hl
    | succ o => simp at e
  have hI : INV (Ctx.start P (fun _ => False) W 0) [.fact g x] (fun _ => undef) W := by
    refine ⟨fun o ob e => ?_, fun o o' b h1 _ => absurd h1 (hn o b), fun o b h1 => absurd h1 (hn o b), fun b hb => ⟨hb, rfl⟩, fun b hb => hb.elim, Nat.le_refl _, rfl, rfl, rfl⟩
    cases o with
    | zero => simp only [List.getElem?_cons_zero, Option.some.injEq] at e; subst e; exact ⟨hx, lU g⟩
    | succ o => simp at e
  refine (h.2 _ [.fact g x] _ W vs rfl hI ha (fun _ _ => rfl) rfl).mono fun e w' ⟨v, he, σ', h1, h2, h3⟩ => ⟨v, he, ⟨h1.size, h1.os, h1.tape, h1.output, fun b hb => (h1.kept b hb).2⟩, trivial, h2.2⟩
set_option maxHeartbeats 3000000 in
theorem eS {o : Obj} (hmx : MXL o) (xs ys : List Bs) (s : Bs) (hs : s.length ≤ 900000) : cr Tryd.prog [.fact 0 o] 10 [.agg [.list .str xs], .agg [.list .str ys], .one (.str s)] { av := .tup [.one (.list (.pair (.list (.int .i64)) (.pair (.list (.int .i64)) .unit)) (PG xs ys s).1), .one (.int .i64 (PG xs ys s).2.1), .one (.int .i64 (PG xs ys s).2.2)], fp := [0] } := by
 have hpl := me 10 s; have hp0 := iJ 10 s
 refine cK _ _ Tryd.func10 rfl (by kernel_rfl) (Nat.le_of_ble_eq_true rfl) (by intro k hk; simp only [af, au, Nat.zero_add, D] at hk; simp only [List.mem_cons, List.not_mem_nil, or_false]; omega) (fun C hP hN hB => ?_)
 replace hB : C.bL.length = 1 := by rw [hB]; rfl
 replace hN : C.N = 89 := hN
 simp only [aL, D]
 refine Z fun _ k1 => ?_
 refine a9 hP hN rfl ?_
 iterate 5 (refine V rfl fun _ k0 => ?_; simp only [zO, zT, acs, reduceCtorEq, J, D, M, U, O, S]; (repeat refine And.intro (by first | omega | assumption | exact rfl | exact ⟨by omega, hne0 (by assumption)⟩ | exact ⟨by omega, hne0 (And.left ‹¬ (spB 10 s).getD k [] = [] ∧ _›)⟩) ?_); (try refine .inl ?_); apply k0; clear k0; simp only [zP, D])
 refine aa ?_
 apply k1; clear k1; refine kp [0, 1, 2, 3, 4, 6, 7, 8] ?_
 refine Z fun _ k2 => ?_
 refine Z fun _ k3 => ?_
 refine a9 hP hN rfl ?_
 iterate 2 (refine V rfl fun _ k0 => ?_; simp only [zO, zT, acs, reduceCtorEq, J, D, M, U, O, S]; (repeat refine And.intro (by first | omega | assumption | exact rfl | exact ⟨by omega, hne0 (by assumption)⟩ | exact ⟨by omega, hne0 (And.left ‹¬ (spB 10 s).getD k [] = [] ∧ _›)⟩) ?_); (try refine .inl ?_); apply k0; clear k0; simp only [zP, D])
 refine V rfl fun _ k0 => ?_
 refine ar (h := ah (lE xs ys)) rfl rfl (by first | exact rfl | (simp only [ev, zP, J, D]; exact rfl)) (by simp only [zV, acs, reduceCtorEq, J, D, M, U, O, S]) ?_
 apply k0; clear k0; simp only [zP, D]
 (refine V rfl fun _ k0 => ?_; simp only [zO, zT, acs, reduceCtorEq, J, D, M, U, O, S]; (repeat refine And.intro (by first | omega | assumption | exact rfl | exact ⟨by omega, hne0 (by assumption)⟩ | exact ⟨by omega, hne0 (And.left ‹¬ (spB 10 s).getD k [] = [] ∧ _›)⟩) ?_); (try refine .inl ?_); apply k0; clear k0; simp only [zP, D])
 refine aa ?_
 apply k3; clear k3; refine kp [0, 1, 2, 3, 4, 6, 7, 8, 9] ?_
 refine Z fun _ k4 => ?_
 refine a9 hP hN rfl ?_
 iterate 2 (refine V rfl fun _ k0 => ?_; simp only [zO, zT, acs, reduceCtorEq, J, D, M, U, O, S]; (repeat refine And.intro (by first | omega | assumption | exact rfl | exact ⟨by omega, hne0 (by assumption)⟩ | exact ⟨by omega, hne0 (And.left ‹¬ (spB 10 s).getD k [] = [] ∧ _›)⟩) ?_); (try refine .inl ?_); apply k0; clear k0; simp only [zP, D])
 refine aa ?_
 apply k4; clear k4; refine kp [0, 1, 2, 3, 4, 6, 7, 8, 9, 22] ?_
 refine cd (fun hc5 => ?_) (fun hc5 => ?_)
 ·(try simp only [zB, reduceCtorEq] at hc5)
  have hb0 := hc5
  refine Z fun _ k6 => ?_
  refine a9 hP hN rfl ?_
  iterate 4 (refine V rfl fun _ k0 => ?_; simp only [zO, zT, acs, reduceCtorEq, J, D, M, U, O, S]; (repeat refine And.intro (by first | omega | assumption | exact rfl | exact ⟨by omega, hne0 (by assumption)⟩ | exact ⟨by omega, hne0 (And.left ‹¬ (spB 10 s).getD k [] = [] ∧ _›)⟩) ?_); (try refine .inl ?_); apply k0; clear k0; simp only [zP, D])
  refine aa ?_
  apply k6; clear k6; refine kp [0, 1, 2, 3, 4, 6, 7, 8, 9, 22] ?_
  first
  | (refine eh 6 (.pair (.list (.int .i64)) (.pair (.list (.int .i64)) .unit)) rfl ?_)
  | skip
  refine kp [6, 7, 8] ?_
  first
  | ((refine aq (L1 := [_, _, _, _]) rfl (by rw [hB]; exact Nat.succ_le_succ (Nat.zero_le _)) rfl rfl ?_); (refine aq (L1 := [_, _, _]) rfl (by rw [hB]; exact Nat.succ_le_succ (Nat.zero_le _)) rfl rfl ?_); (refine aq (L1 := [_, _]) rfl (by rw [hB]; exact Nat.succ_le_succ (Nat.zero_le _)) rfl rfl ?_); (refine aq (L1 := [_]) rfl (by rw [hB]; exact Nat.succ_le_succ (Nat.zero_le _)) rfl rfl ?_))
  | ((refine aq (L1 := [_, _, _]) rfl (by rw [hB]; exact Nat.succ_le_succ (Nat.zero_le _)) rfl rfl ?_); (refine aq (L1 := [_, _]) rfl (by rw [hB]; exact Nat.succ_le_succ (Nat.zero_le _)) rfl rfl ?_); (refine aq (L1 := [_]) rfl (by rw [hB]; exact Nat.succ_le_succ (Nat.zero_le _)) rfl rfl ?_))
  | ((refine aq (L1 := [_, _]) rfl (by rw [hB]; exact Nat.succ_le_succ (Nat.zero_le _)) rfl rfl ?_); (refine aq (L1 := [_]) rfl (by rw [hB]; exact Nat.succ_le_succ (Nat.zero_le _)) rfl rfl ?_))
  refine ak ?_
  refine ⟨by first | exact .inl rfl | exact .inr rfl, _, rfl, ?_⟩; simp only [zP, J, D]
  all_goals (first
  | (rw [nH hb0]; done)
  | (rw [hPM]; done)
  | (rw [hPG, cR (by omega) hns2 (by rw [dD hw9 (by omega)]; decide), dD hw9 (by omega)]; done)
  | (rw [hPG, cR (by omega) hns2 (by rw [dx hw9 (by omega)]; exact hte), dx hw9 (by omega)]; done)
  | (obtain ⟨g1, g2⟩ := iH hsp (by assumption) hk
     rw [hPG, dX g1, if_pos g2]; done))
 (try simp only [zB, reduceCtorEq] at hc5)
 have hb0 := hc5
 refine am ?_
 apply k2; clear k2; refine kp [0, 1, 2, 3, 4, 6, 7, 8, 9, 22] ?_
 refine Z fun _ k7 => ?_
 refine Z fun _ k8 => ?_
 refine a9 hP hN rfl ?_
 iterate 3 (refine V rfl fun _ k0 => ?_; simp only [zO, zT, acs, reduceCtorEq, J, D, M, U, O, S]; (repeat refine And.intro (by first | omega | assumption | exact rfl | exact ⟨by omega, hne0 (by assumption)⟩ | exact ⟨by omega, hne0 (And.left ‹¬ (spB 10 s).getD k [] = [] ∧ _›)⟩) ?_); (try refine .inl ?_); apply k0; clear k0; simp only [zP, D])
 refine aa ?_
 apply k8; clear k8; refine kp [0, 1, 2, 3, 4, 6, 7, 8, 9, 22, 26] ?_
 refine cd (fun hc9 => ?_) (fun hc9 => ?_)
 · exfalso; (try simp only [zB, reduceCtorEq] at hc9); all_goals (first | (cases hc9; done) | omega | (simp at hc9; done) | (simp_all; done))
 (try simp only [zB, reduceCtorEq] at hc9)
 refine am ?_
 apply k7; clear k7; refine kp [0, 1, 2, 3, 4, 6, 7, 8, 9, 22, 26] ?_
 refine Z fun _ k10 => ?_
 refine a9 hP hN rfl ?_
 (refine V rfl fun _ k0 => ?_; simp only [zO, zT, acs, reduceCtorEq, J, D, M, U, O, S]; (repeat refine And.intro (by first | omega | assumption | exact rfl | exact ⟨by omega, hne0 (by assumption)⟩ | exact ⟨by omega, hne0 (And.left ‹¬ (spB 10 s).getD k [] = [] ∧ _›)⟩) ?_); (try refine .inl ?_); apply k0; clear k0; simp only [zP, D])
 refine aa ?_
 apply k10; clear k10; refine kp [0, 1, 2, 3, 4, 6, 7, 8, 9, 10, 22, 26] ?_
 refine Z fun _ k11 => ?_
 refine Z fun _ k12 => ?_
 refine a9 hP hN rfl ?_
 (refine V rfl fun _ k0 => ?_; simp only [zO, zT, acs, reduceCtorEq, J, D, M, U, O, S]; (repeat refine And.intro (by first | omega | assumption | exact rfl | exact ⟨by omega, hne0 (by assumption)⟩ | exact ⟨by omega, hne0 (And.left ‹¬ (spB 10 s).getD k [] = [] ∧ _›)⟩) ?_); (try refine .inl ?_); apply k0; clear k0; simp only [zP, D])
 refine aa ?_
 apply k12; clear k12; refine kp [0, 1, 2, 3, 4, 6, 7, 8, 9, 10, 11, 22, 26] ?_
 refine az ?_
 refine sG 10 (.pair (.list (.int .i64)) (.pair (.list (.int .i64)) .unit)) 60 (by decide) rfl ?_; simp only [af, au, b0, aD, Nat.zero_add, D]
 refine aX (fun n13 s13 => ∃ (k v : Nat) (r : Bs) (R : List TRC), (k + 1 ≤ (spB 10 s).length) ∧ (spB 10 r = (spB 10 s).drop k) ∧ (r.length ≤ s.length) ∧ (R.length ≤ k) ∧ (R.length ≤ 10000) ∧ (PG xs ys s = PGL xs ys ((spB 10 s).drop k) k R) ∧ n13 = (spB 10 s).length - k ∧ s13 = { env := [(2, .one (.str r)), (3, .one (.ptr 1 0 0 0)), (4, .one (.ptr 2 0 0 0)), (6, .one .nils), (7, .one (.int .i64 0)), (8, .one (.int .i64 0)), (10, .one (.row 3 v)), (11, .one (.int .i64 ((k : Int) + 1)))], L := [.fact 0 o, .vars 24 [.list .str xs], .vars 24 [.list .str ys], .row (.pair (.list (.int .i64)) (.pair (.list (.int .i64)) .unit)) 60 v R] }) ?_ ?_
 ·exact ⟨_, _, aw [2, 3, 4, 6, 7, 8, 10, 11], 0, 0, s, [], by omega, rfl, Nat.le_refl _, by simp, by simp, rH hb0 (by omega), rfl, rfl⟩
 rintro n13 s13 ⟨k, v, r, R, hk, hsp, hrl, hRk, hR1, hPG, rfl, rfl⟩
 refine Z fun _ k14 => ?_
 refine Z fun _ k15 => ?_
 refine a9 hP hN rfl ?_
 iterate 2 (refine V rfl fun _ k0 => ?_; simp only [zO, zT, acs, reduceCtorEq, J, D, M, U, O, S]; (repeat refine And.intro (by first | omega | assumption | exact rfl | exact ⟨by omega, hne0 (by assumption)⟩ | exact ⟨by omega, hne0 (And.left ‹¬ (spB 10 s).getD k [] = [] ∧ _›)⟩) ?_); (try refine .inl ?_); apply k0; clear k0; simp only [zP, D])
 refine aa ?_
 apply k15; clear k15; refine kp [2, 3, 4, 6, 7, 8, 10, 11, 28] ?_
 refine cd (fun hc16 => ?_) (fun hc16 => ?_)
 ·(try simp only [zB, reduceCtorEq] at hc16)
  refine am ?_
  apply k14; clear k14; refine kp [2, 3, 4, 6, 7, 8, 10, 11, 28] ?_
  refine Z fun _ k17 => ?_
  refine az ?_
  refine Z fun _ k18 => ?_
  refine a9 hP hN rfl ?_
  (refine V rfl fun _ k0 => ?_; simp only [zO, zT, acs, reduceCtorEq, J, D, M, U, O, S]; (repeat refine And.intro (by first | omega | assumption | exact rfl | exact ⟨by omega, hne0 (by assumption)⟩ | exact ⟨by omega, hne0 (And.left ‹¬ (spB 10 s).getD k [] = [] ∧ _›)⟩) ?_); (try refine .inl ?_); apply k0; clear k0; simp only [zP, D])
  refine V rfl fun _ k0 => ?_
  refine ar (h := ah (pz r 10 (by omega))) rfl rfl (by first | exact rfl | (simp only [ev, zP, J, D]; exact rfl)) (by simp only [zV, acs, reduceCtorEq, J, D, M, U, O, S]) ?_
  apply k0; clear k0; simp only [zP, D]
  iterate 7 (refine V rfl fun _ k0 => ?_; simp only [zO, zT, acs, reduceCtorEq, J, D, M, U, O, S]; (repeat refine And.intro (by first | omega | assumption | exact rfl | exact ⟨by omega, hne0 (by assumption)⟩ | exact ⟨by omega, hne0 (And.left ‹¬ (spB 10 s).getD k [] = [] ∧ _›)⟩) ?_); (try refine .inl ?_); apply k0; clear k0; simp only [zP, D])
  refine aa ?_
  apply k18; clear k18; refine kp [2, 3, 4, 6, 7, 8, 10, 11, 12, 13, 14, 28] ?_
  refine Z fun _ k19 => ?_
  obtain ⟨hcl, hcb, hcr⟩ := sW hsp hk
  have hcrl := qi r 10
  rw [hcl, hcb]
  have hr9 : ¬ r = [] := by assumption
  have hlne : k + 1 = (spB 10 s).length → ¬ ((spB 10 s).getD k []) = [] := fun e q => hr9 ((gp hsp e).1.trans q)
  have hll := iw 10 s k
  have hne0 : ¬ ((spB 10 s).getD k []) = [] → 0 < ((((spB 10 s).getD k [])).length : Int) := fun e => by have := List.length_pos_iff.2 e; omega
  refine a9 hP hN rfl ?_
  iterate 2 (refine V rfl fun _ k0 => ?_; simp only [zO, zT, acs, reduceCtorEq, J, D, M, U, O, S]; (repeat refine And.intro (by first | omega | assumption | exact rfl | exact ⟨by omega, hne0 (by assumption)⟩ | exact ⟨by omega, hne0 (And.left ‹¬ (spB 10 s).getD k [] = [] ∧ _›)⟩) ?_); (try refine .inl ?_); apply k0; clear k0; simp only [zP, D])
  refine aa ?_
  apply k19; clear k19; refine kp [2, 3, 4, 6, 7, 8, 10, 11, 12, 13, 14, 28] ?_
  refine Z fun _ k20 => ?_
  refine a9 hP hN rfl ?_
  iterate 3 (refine V rfl fun _ k0 => ?_; simp only [zO, zT, acs, reduceCtorEq, J, D, M, U, O, S]; (repeat refine And.intro (by first | omega | assumption | exact rfl | exact ⟨by omega, hne0 (by assumption)⟩ | exact ⟨by omega, hne0 (And.left ‹¬ (spB 10 s).getD k [] = [] ∧ _›)⟩) ?_); (try refine .inl ?_); apply k0; clear k0; simp only [zP, D])
  refine' aC (want := false) 3 rfl (m := 40) (by simp only [zP, J, D]; exact rfl) (by kernel_rfl) rfl rfl rfl rfl rfl (fun hg21 => ?a21) ?b21 ?c21
  case a21 =>
   have hq21 := hg21; (try simp only [zB, reduceCtorEq] at hg21); simp only [zE]
   iterate 3 (refine aO rfl fun _ k0 => ?_; simp only [zO, zT, acs, reduceCtorEq, J, D, M, U, O, S]; (repeat refine And.intro (by first | omega | assumption | exact rfl | exact ⟨by omega, hne0 (by assumption)⟩ | exact ⟨by omega, hne0 (And.left ‹¬ (spB 10 s).getD k [] = [] ∧ _›)⟩) ?_); (try refine .inl ?_); apply k0; clear k0; simp only [zP, D])
   (refine V rfl fun _ k0 => ?_; simp only [zO, zT, acs, reduceCtorEq, J, D, M, U, O, S]; (repeat refine And.intro (by first | omega | assumption | exact rfl | exact ⟨by omega, hne0 (by assumption)⟩ | exact ⟨by omega, hne0 (And.left ‹¬ (spB 10 s).getD k [] = [] ∧ _›)⟩) ?_); (try refine .inl ?_); apply k0; clear k0; simp only [zP, D])
   refine aa ?_
   refine ⟨by simp only [zP, J, D]; exact rfl, rfl, ?_, rfl⟩; (repeat refine aB rfl ?_); exact aQ (by exact rfl) hq21
  case b21 => exact bg
  simp only [aN, aG]
  (refine V rfl fun _ k0 => ?_; simp only [zO, zT, acs, reduceCtorEq, J, D, M, U, O, S]; (repeat refine And.intro (by first | omega | assumption | exact rfl | exact ⟨by omega, hne0 (by assumption)⟩ | exact ⟨by omega, hne0 (And.left ‹¬ (spB 10 s).getD k [] = [] ∧ _›)⟩) ?_); (try refine .inl ?_); apply k0; clear k0; simp only [zP, D])
  refine aa ?_
  apply k20; clear k20; refine kp [2, 3, 4, 6, 7, 8, 10, 11, 12, 13, 14, 15, 28] ?_
  refine Z fun _ k22 => ?_
  refine az ?_
  refine Z fun _ k23 => ?_
  refine a9 hP hN rfl ?_
  iterate 3 (refine V rfl fun _ k0 => ?_; simp only [zO, zT, acs, reduceCtorEq, J, D, M, U, O, S]; (repeat refine And.intro (by first | omega | assumption | exact rfl | exact ⟨by omega, hne0 (by assumption)⟩ | exact ⟨by omega, hne0 (And.left ‹¬ (spB 10 s).getD k [] = [] ∧ _›)⟩) ?_); (try refine .inl ?_); apply k0; clear k0; simp only [zP, D])
  refine' aC (want := false) 15 rfl (m := 48) (by simp only [zP, J, D]; exact rfl) (by kernel_rfl) rfl rfl rfl rfl rfl (fun hg24 => ?a24) ?b24 ?c24
  case a24 =>
   have hq24 := hg24; (try simp only [zB, reduceCtorEq] at hg24); simp only [zE]
   iterate 3 (refine aO rfl fun _ k0 => ?_; simp only [zO, zT, acs, reduceCtorEq, J, D, M, U, O, S]; (repeat refine And.intro (by first | omega | assumption | exact rfl | exact ⟨by omega, hne0 (by assumption)⟩ | exact ⟨by omega, hne0 (And.left ‹¬ (spB 10 s).getD k [] = [] ∧ _›)⟩) ?_); (try refine .inl ?_); apply k0; clear k0; simp only [zP, D])
   refine' aC (want := true) 11 rfl (m := 51) (by simp only [zP, J, D]; exact rfl) (by kernel_rfl) rfl rfl rfl rfl rfl (fun hg25 => ?a25) ?b25 ?c25
   case a25 =>
    have hq25 := hg25; (try simp only [zB, reduceCtorEq] at hg25); simp only [zE]
    iterate 4 (refine aO rfl fun _ k0 => ?_; simp only [zO, zT, acs, reduceCtorEq, J, D, M, U, O, S]; (repeat refine And.intro (by first | omega | assumption | exact rfl | exact ⟨by omega, hne0 (by assumption)⟩ | exact ⟨by omega, hne0 (And.left ‹¬ (spB 10 s).getD k [] = [] ∧ _›)⟩) ?_); (try refine .inl ?_); apply k0; clear k0; simp only [zP, D])
    refine' aC (want := false) 2 rfl (m := 55) (by simp only [zP, J, D]; exact rfl) (by kernel_rfl) rfl rfl rfl rfl rfl (fun hg26 => ?a26) ?b26 ?c26
    case a26 =>
     have hq26 := hg26; (try simp only [zB, reduceCtorEq] at hg26); simp only [zE]
     (refine aO rfl fun _ k0 => ?_; simp only [zO, zT, acs, reduceCtorEq, J, D, M, U, O, S]; (repeat refine And.intro (by first | omega | assumption | exact rfl | exact ⟨by omega, hne0 (by assumption)⟩ | exact ⟨by omega, hne0 (And.left ‹¬ (spB 10 s).getD k [] = [] ∧ _›)⟩) ?_); (try refine .inl ?_); apply k0; clear k0; simp only [zP, D])
     refine aO rfl fun _ k0 => ?_
     refine ar (h := ah (sn ((spB 10 s).getD k []) [32] (by omega))) rfl rfl (by first | exact rfl | (simp only [ev, zP, J, D]; exact rfl)) (by simp only [zV, acs, reduceCtorEq, J, D, M, U, O, S]) ?_
     apply k0; clear k0; simp only [zP, D]
     (refine aO rfl fun _ k0 => ?_; simp only [zO, zT, acs, reduceCtorEq, J, D, M, U, O, S]; (repeat refine And.intro (by first | omega | assumption | exact rfl | exact ⟨by omega, hne0 (by assumption)⟩ | exact ⟨by omega, hne0 (And.left ‹¬ (spB 10 s).getD k [] = [] ∧ _›)⟩) ?_); (try refine .inl ?_); apply k0; clear k0; simp only [zP, D])
     refine aa ?_
     refine ⟨by simp only [zP, J, D]; exact rfl, rfl, ?_, rfl⟩; (repeat refine aB rfl ?_); exact aQ (by exact rfl) hq26
    case b26 => exact bg
    simp only [aN, aG]
    (refine aO rfl fun _ k0 => ?_; simp only [zO, zT, acs, reduceCtorEq, J, D, M, U, O, S]; (repeat refine And.intro (by first | omega | assumption | exact rfl | exact ⟨by omega, hne0 (by assumption)⟩ | exact ⟨by omega, hne0 (And.left ‹¬ (spB 10 s).getD k [] = [] ∧ _›)⟩) ?_); (try refine .inl ?_); apply k0; clear k0; simp only [zP, D])
    refine' aC (want := false) 2 rfl (m := 59) (by simp only [zP, J, D]; exact rfl) (by kernel_rfl) rfl rfl rfl rfl rfl (fun hg27 => ?a27) ?b27 ?c27
    case a27 =>
     have hq27 := hg27; (try simp only [zB, reduceCtorEq] at hg27); simp only [zE]
     (refine aO rfl fun _ k0 => ?_; simp only [zO, zT, acs, reduceCtorEq, J, D, M, U, O, S]; (repeat refine And.intro (by first | omega | assumption | exact rfl | exact ⟨by omega, hne0 (by assumption)⟩ | exact ⟨by omega, hne0 (And.left ‹¬ (spB 10 s).getD k [] = [] ∧ _›)⟩) ?_); (try refine .inl ?_); apply k0; clear k0; simp only [zP, D])
     refine aO rfl fun _ k0 => ?_
     refine ar (h := co (o5 hmx ((spB 10 s).getD k []) (by omega)) rfl) rfl rfl (by first | exact rfl | (simp only [ev, zP, J, D]; exact rfl)) (by simp only [zV, acs, reduceCtorEq, J, D, M, U, O, S]) ?_
     apply k0; clear k0; simp only [zP, D]
     (refine aO rfl fun _ k0 => ?_; simp only [zO, zT, acs, reduceCtorEq, J, D, M, U, O, S]; (repeat refine And.intro (by first | omega | assumption | exact rfl | exact ⟨by omega, hne0 (by assumption)⟩ | exact ⟨by omega, hne0 (And.left ‹¬ (spB 10 s).getD k [] = [] ∧ _›)⟩) ?_); (try refine .inl ?_); apply k0; clear k0; simp only [zP, D])
     refine aa ?_
     refine ⟨by simp only [zP, J, D]; exact rfl, rfl, ?_, rfl⟩; (repeat refine aB rfl ?_); exact aQ (by exact rfl) hq27
    case b27 => exact bg
    simp only [aN, aG]
    (refine aO rfl fun _ k0 => ?_; simp only [zO, zT, acs, reduceCtorEq, J, D, M, U, O, S]; (repeat refine And.intro (by first | omega | assumption | exact rfl | exact ⟨by omega, hne0 (by assumption)⟩ | exact ⟨by omega, hne0 (And.left ‹¬ (spB 10 s).getD k [] = [] ∧ _›)⟩) ?_); (try refine .inl ?_); apply k0; clear k0; simp only [zP, D])
    refine aa ?_
    refine ⟨by simp only [zP, J, D]; exact rfl, rfl, ?_, rfl⟩; (repeat refine aB rfl ?_); exact aQ (by exact rfl) hq25
   case b25 => exact bg
   simp only [aN, aG]
   (refine V rfl fun _ k0 => ?_; simp only [zO, zT, acs, reduceCtorEq, J, D, M, U, O, S]; (repeat refine And.intro (by first | omega | assumption | exact rfl | exact ⟨by omega, hne0 (by assumption)⟩ | exact ⟨by omega, hne0 (And.left ‹¬ (spB 10 s).getD k [] = [] ∧ _›)⟩) ?_); (try refine .inl ?_); apply k0; clear k0; simp only [zP, D])
   refine aa ?_
   refine ⟨by simp only [zP, J, D]; exact rfl, rfl, ?_, rfl⟩; (repeat refine aB rfl ?_); exact aQ (by exact rfl) hq24
  case b24 => exact bg
  simp only [aN, aG]
  (refine V rfl fun _ k0 => ?_; simp only [zO, zT, acs, reduceCtorEq, J, D, M, U, O, S]; (repeat refine And.intro (by first | omega | assumption | exact rfl | exact ⟨by omega, hne0 (by assumption)⟩ | exact ⟨by omega, hne0 (And.left ‹¬ (spB 10 s).getD k [] = [] ∧ _›)⟩) ?_); (try refine .inl ?_); apply k0; clear k0; simp only [zP, D])
  refine aa ?_
  apply k23; clear k23; refine kp [2, 3, 4, 6, 7, 8, 10, 11, 12, 13, 14, 15, 28, 45] ?_
  refine cd (fun hc28 => ?_) (fun hc28 => ?_)
  ·(try simp only [zB, reduceCtorEq] at hc28)
   have h45 := hc28
   have hPM := hPG.trans (rX hk hlne (rA h45))
   refine Z fun _ k29 => ?_
   refine a9 hP hN rfl ?_
   iterate 4 (refine V rfl fun _ k0 => ?_; simp only [zO, zT, acs, reduceCtorEq, J, D, M, U, O, S]; (repeat refine And.intro (by first | omega | assumption | exact rfl | exact ⟨by omega, hne0 (by assumption)⟩ | exact ⟨by omega, hne0 (And.left ‹¬ (spB 10 s).getD k [] = [] ∧ _›)⟩) ?_); (try refine .inl ?_); apply k0; clear k0; simp only [zP, D])
   refine aa ?_
   apply k29; clear k29; refine kp [2, 3, 4, 6, 7, 8, 10, 11, 12, 13, 14, 15, 28, 45] ?_
   first
   | (refine eh 6 (.pair (.list (.int .i64)) (.pair (.list (.int .i64)) .unit)) rfl ?_)
   | skip
   refine kp [6, 7, 8] ?_
   first
   | ((refine aq (L1 := [_, _, _, _]) rfl (by rw [hB]; exact Nat.succ_le_succ (Nat.zero_le _)) rfl rfl ?_); (refine aq (L1 := [_, _, _]) rfl (by rw [hB]; exact Nat.succ_le_succ (Nat.zero_le _)) rfl rfl ?_); (refine aq (L1 := [_, _]) rfl (by rw [hB]; exact Nat.succ_le_succ (Nat.zero_le _)) rfl rfl ?_); (refine aq (L1 := [_]) rfl (by rw [hB]; exact Nat.succ_le_succ (Nat.zero_le _)) rfl rfl ?_))
   | ((refine aq (L1 := [_, _, _]) rfl (by rw [hB]; exact Nat.succ_le_succ (Nat.zero_le _)) rfl rfl ?_); (refine aq (L1 := [_, _]) rfl (by rw [hB]; exact Nat.succ_le_succ (Nat.zero_le _)) rfl rfl ?_); (refine aq (L1 := [_]) rfl (by rw [hB]; exact Nat.succ_le_succ (Nat.zero_le _)) rfl rfl ?_))
   | ((refine aq (L1 := [_, _]) rfl (by rw [hB]; exact Nat.succ_le_succ (Nat.zero_le _)) rfl rfl ?_); (refine aq (L1 := [_]) rfl (by rw [hB]; exact Nat.succ_le_succ (Nat.zero_le _)) rfl rfl ?_))
   refine ak ?_
   refine ⟨by first | exact .inl rfl | exact .inr rfl, _, rfl, ?_⟩; simp only [zP, J, D]
   all_goals (first
   | (rw [nH hb0]; done)
   | (rw [hPM]; done)
   | (rw [hPG, cR (by omega) hns2 (by rw [dD hw9 (by omega)]; decide), dD hw9 (by omega)]; done)
   | (rw [hPG, cR (by omega) hns2 (by rw [dx hw9 (by omega)]; exact hte), dx hw9 (by omega)]; done)
   | (obtain ⟨g1, g2⟩ := iH hsp (by assumption) hk
      rw [hPG, dX g1, if_pos g2]; done))
  (try simp only [zB, reduceCtorEq] at hc28)
  have n45 := hc28
  refine Z fun _ k30 => ?_
  refine a9 hP hN rfl ?_
  iterate 2 (refine V rfl fun _ k0 => ?_; simp only [zO, zT, acs, reduceCtorEq, J, D, M, U, O, S]; (repeat refine And.intro (by first | omega | assumption | exact rfl | exact ⟨by omega, hne0 (by assumption)⟩ | exact ⟨by omega, hne0 (And.left ‹¬ (spB 10 s).getD k [] = [] ∧ _›)⟩) ?_); (try refine .inl ?_); apply k0; clear k0; simp only [zP, D])
  refine aa ?_
  apply k30; clear k30; refine kp [2, 3, 4, 6, 7, 8, 10, 11, 12, 13, 14, 15, 28, 45, 66] ?_
  refine cd (fun hc31 => ?_) (fun hc31 => ?_)
  ·(try simp only [zB, reduceCtorEq] at hc31)
   have hsk := hc31
   have hsk2 : skL ((spB 10 s).getD k []) := hsk.imp id pq.1
   refine aV ?_
   apply k17; clear k17; refine kp [2, 3, 4, 6, 7, 8, 10, 11, 12, 13, 14, 15, 28, 45, 66] ?_
   first | (refine kp [2, 3, 4, 6, 7, 8, 10, 11] ?_; refine aq (L1 := [_, _, _, _]) rfl (by rw [hB]; exact Nat.succ_le_succ (Nat.zero_le _)) rfl rfl ?_) | skip
   refine a9 hP hN rfl ?_
   iterate 3 (refine V rfl fun _ k0 => ?_; simp only [zO, zT, acs, reduceCtorEq, J, D, M, U, O, S]; (repeat refine And.intro (by first | omega | assumption | exact rfl | exact ⟨by omega, hne0 (by assumption)⟩ | exact ⟨by omega, hne0 (And.left ‹¬ (spB 10 s).getD k [] = [] ∧ _›)⟩) ?_); (try refine .inl ?_); apply k0; clear k0; simp only [zP, D])
   refine aa ?_
   first
   | (refine ⟨_, _, ?_, aw [2, 3, 4, 6, 7, 8, 10, 11], k + 1, v, d8 r 10, R, by omega, hcr (by omega), by omega, by omega, hR1, hPG.trans (lV (by omega) hsk2), rfl, rfl⟩
      omega)
   | (refine ⟨_, _, ?_, aw [2, 3, 4, 6, 7, 8, 10, 11], k + 1, v + 1, d8 r 10, R ++ [(gi xs ys ((spB 10 s).getD k []))], by omega, hcr (by omega), by omega, by rw [ag]; simp only [af, au]; omega, by rw [ag]; simp only [af, au]; omega, hPG.trans (pV (by omega) hns2 ((dx hw9 (by omega)).trans (by omega))), rfl, rfl⟩
      omega)
  (try simp only [zB, reduceCtorEq] at hc31)
  have hns := hc31
  have hns2 : ¬ skL ((spB 10 s).getD k []) := fun h => h.elim hns.1 (fun e => hns.2 (pq.2 e))
  have hw9 := tt hns n45.2
  refine Z fun _ k32 => ?_
  refine a9 hP hN rfl ?_
  iterate 4 (refine V rfl fun _ k0 => ?_; simp only [zO, zT, acs, reduceCtorEq, J, D, M, U, O, S]; (repeat refine And.intro (by first | omega | assumption | exact rfl | exact ⟨by omega, hne0 (by assumption)⟩ | exact ⟨by omega, hne0 (And.left ‹¬ (spB 10 s).getD k [] = [] ∧ _›)⟩) ?_); (try refine .inl ?_); apply k0; clear k0; simp only [zP, D])
  refine aa ?_
  apply k32; clear k32; refine kp [2, 3, 4, 6, 7, 8, 10, 11, 12, 13, 14, 15, 28, 45, 66, 68] ?_
  refine cd (fun hc33 => ?_) (fun hc33 => ?_)
  ·(try simp only [zB, reduceCtorEq] at hc33)
   have hlim := hc33
   refine Z fun _ k34 => ?_
   refine a9 hP hN rfl ?_
   iterate 4 (refine V rfl fun _ k0 => ?_; simp only [zO, zT, acs, reduceCtorEq, J, D, M, U, O, S]; (repeat refine And.intro (by first | omega | assumption | exact rfl | exact ⟨by omega, hne0 (by assumption)⟩ | exact ⟨by omega, hne0 (And.left ‹¬ (spB 10 s).getD k [] = [] ∧ _›)⟩) ?_); (try refine .inl ?_); apply k0; clear k0; simp only [zP, D])
   refine aa ?_
   apply k34; clear k34; refine kp [2, 3, 4, 6, 7, 8, 10, 11, 12, 13, 14, 15, 28, 45, 66, 68] ?_
   first
   | (refine eh 6 (.pair (.list (.int .i64)) (.pair (.list (.int .i64)) .unit)) rfl ?_)
   | skip
   refine kp [6, 7, 8] ?_
   first
   | ((refine aq (L1 := [_, _, _, _]) rfl (by rw [hB]; exact Nat.succ_le_succ (Nat.zero_le _)) rfl rfl ?_); (refine aq (L1 := [_, _, _]) rfl (by rw [hB]; exact Nat.succ_le_succ (Nat.zero_le _)) rfl rfl ?_); (refine aq (L1 := [_, _]) rfl (by rw [hB]; exact Nat.succ_le_succ (Nat.zero_le _)) rfl rfl ?_); (refine aq (L1 := [_]) rfl (by rw [hB]; exact Nat.succ_le_succ (Nat.zero_le _)) rfl rfl ?_))
   | ((refine aq (L1 := [_, _, _]) rfl (by rw [hB]; exact Nat.succ_le_succ (Nat.zero_le _)) rfl rfl ?_); (refine aq (L1 := [_, _]) rfl (by rw [hB]; exact Nat.succ_le_succ (Nat.zero_le _)) rfl rfl ?_); (refine aq (L1 := [_]) rfl (by rw [hB]; exact Nat.succ_le_succ (Nat.zero_le _)) rfl rfl ?_))
   | ((refine aq (L1 := [_, _]) rfl (by rw [hB]; exact Nat.succ_le_succ (Nat.zero_le _)) rfl rfl ?_); (refine aq (L1 := [_]) rfl (by rw [hB]; exact Nat.succ_le_succ (Nat.zero_le _)) rfl rfl ?_))
   refine ak ?_
   refine ⟨by first | exact .inl rfl | exact .inr rfl, _, rfl, ?_⟩; simp only [zP, J, D]
   all_goals (first
   | (rw [nH hb0]; done)
   | (rw [hPM]; done)
   | (rw [hPG, cR (by omega) hns2 (by rw [dD hw9 (by omega)]; decide), dD hw9 (by omega)]; done)
   | (rw [hPG, cR (by omega) hns2 (by rw [dx hw9 (by omega)]; exact hte), dx hw9 (by omega)]; done)
   | (obtain ⟨g1, g2⟩ := iH hsp (by assumption) hk
      rw [hPG, dX g1, if_pos g2]; done))
  (try simp only [zB, reduceCtorEq] at hc33)
  have hlim := hc33
  refine am ?_
  apply k22; clear k22; refine kp [2, 3, 4, 6, 7, 8, 10, 11, 12, 13, 14, 15, 28, 45, 66, 68] ?_
  refine Z fun _ k35 => ?_
  refine a9 hP hN rfl ?_
  iterate 3 (refine V rfl fun _ k0 => ?_; simp only [zO, zT, acs, reduceCtorEq, J, D, M, U, O, S]; (repeat refine And.intro (by first | omega | assumption | exact rfl | exact ⟨by omega, hne0 (by assumption)⟩ | exact ⟨by omega, hne0 (And.left ‹¬ (spB 10 s).getD k [] = [] ∧ _›)⟩) ?_); (try refine .inl ?_); apply k0; clear k0; simp only [zP, D])
  refine V rfl fun _ k0 => ?_
  refine ar (h := ah (qd xs ys ((spB 10 s).getD k []) (by omega))) rfl rfl (by first | exact rfl | (simp only [ev, zP, J, D]; exact rfl)) (by simp only [zV, acs, reduceCtorEq, J, D, M, U, O, S]) ?_
  apply k0; clear k0; simp only [zP, D]
  iterate 6 (refine V rfl fun _ k0 => ?_; simp only [zO, zT, acs, reduceCtorEq, J, D, M, U, O, S]; (repeat refine And.intro (by first | omega | assumption | exact rfl | exact ⟨by omega, hne0 (by assumption)⟩ | exact ⟨by omega, hne0 (And.left ‹¬ (spB 10 s).getD k [] = [] ∧ _›)⟩) ?_); (try refine .inl ?_); apply k0; clear k0; simp only [zP, D])
  refine aa ?_
  apply k35; clear k35; refine kp [2, 3, 4, 6, 7, 8, 10, 11, 12, 13, 14, 15, 16, 17, 28, 45, 66, 68] ?_
  refine Z fun _ k36 => ?_
  refine Z fun _ k37 => ?_
  refine a9 hP hN rfl ?_
  iterate 2 (refine V rfl fun _ k0 => ?_; simp only [zO, zT, acs, reduceCtorEq, J, D, M, U, O, S]; (repeat refine And.intro (by first | omega | assumption | exact rfl | exact ⟨by omega, hne0 (by assumption)⟩ | exact ⟨by omega, hne0 (And.left ‹¬ (spB 10 s).getD k [] = [] ∧ _›)⟩) ?_); (try refine .inl ?_); apply k0; clear k0; simp only [zP, D])
  refine aa ?_
  apply k37; clear k37; refine kp [2, 3, 4, 6, 7, 8, 10, 11, 12, 13, 14, 15, 16, 17, 28, 45, 66, 68, 81] ?_
  refine cd (fun hc38 => ?_) (fun hc38 => ?_)
  ·(try simp only [zB, reduceCtorEq] at hc38)
   have hte := hc38
   refine Z fun _ k39 => ?_
   refine a9 hP hN rfl ?_
   iterate 5 (refine V rfl fun _ k0 => ?_; simp only [zO, zT, acs, reduceCtorEq, J, D, M, U, O, S]; (repeat refine And.intro (by first | omega | assumption | exact rfl | exact ⟨by omega, hne0 (by assumption)⟩ | exact ⟨by omega, hne0 (And.left ‹¬ (spB 10 s).getD k [] = [] ∧ _›)⟩) ?_); (try refine .inl ?_); apply k0; clear k0; simp only [zP, D])
   refine aa ?_
   apply k39; clear k39; refine kp [2, 3, 4, 6, 7, 8, 10, 11, 12, 13, 14, 15, 16, 17, 28, 45, 66, 68, 81] ?_
   first
   | (refine eh 6 (.pair (.list (.int .i64)) (.pair (.list (.int .i64)) .unit)) rfl ?_)
   | skip
   refine kp [6, 7, 8] ?_
   first
   | ((refine aq (L1 := [_, _, _, _]) rfl (by rw [hB]; exact Nat.succ_le_succ (Nat.zero_le _)) rfl rfl ?_); (refine aq (L1 := [_, _, _]) rfl (by rw [hB]; exact Nat.succ_le_succ (Nat.zero_le _)) rfl rfl ?_); (refine aq (L1 := [_, _]) rfl (by rw [hB]; exact Nat.succ_le_succ (Nat.zero_le _)) rfl rfl ?_); (refine aq (L1 := [_]) rfl (by rw [hB]; exact Nat.succ_le_succ (Nat.zero_le _)) rfl rfl ?_))
   | ((refine aq (L1 := [_, _, _]) rfl (by rw [hB]; exact Nat.succ_le_succ (Nat.zero_le _)) rfl rfl ?_); (refine aq (L1 := [_, _]) rfl (by rw [hB]; exact Nat.succ_le_succ (Nat.zero_le _)) rfl rfl ?_); (refine aq (L1 := [_]) rfl (by rw [hB]; exact Nat.succ_le_succ (Nat.zero_le _)) rfl rfl ?_))
   | ((refine aq (L1 := [_, _]) rfl (by rw [hB]; exact Nat.succ_le_succ (Nat.zero_le _)) rfl rfl ?_); (refine aq (L1 := [_]) rfl (by rw [hB]; exact Nat.succ_le_succ (Nat.zero_le _)) rfl rfl ?_))
   refine ak ?_
   refine ⟨by first | exact .inl rfl | exact .inr rfl, _, rfl, ?_⟩; simp only [zP, J, D]
   all_goals (first
   | (rw [nH hb0]; done)
   | (rw [hPM]; done)
   | (rw [hPG, cR (by omega) hns2 (by rw [dD hw9 (by omega)]; decide), dD hw9 (by omega)]; done)
   | (rw [hPG, cR (by omega) hns2 (by rw [dx hw9 (by omega)]; exact hte), dx hw9 (by omega)]; done)
   | (obtain ⟨g1, g2⟩ := iH hsp (by assumption) hk
      rw [hPG, dX g1, if_pos g2]; done))
  (try simp only [zB, reduceCtorEq] at hc38)
  have hte := hc38
  refine am ?_
  apply k36; clear k36; refine kp [2, 3, 4, 6, 7, 8, 10, 11, 12, 13, 14, 15, 16, 17, 28, 45, 66, 68, 81] ?_
  refine a9 hP hN rfl ?_
  iterate 5 (refine V rfl fun _ k0 => ?_; simp only [zO, zT, acs, reduceCtorEq, J, D, M, U, O, S]; (repeat refine And.intro (by first | omega | assumption | exact rfl | exact ⟨by omega, hne0 (by assumption)⟩ | exact ⟨by omega, hne0 (And.left ‹¬ (spB 10 s).getD k [] = [] ∧ _›)⟩) ?_); (try refine .inl ?_); apply k0; clear k0; simp only [zP, D])
  refine aa ?_
  apply k17; clear k17; refine kp [2, 3, 4, 6, 7, 8, 10, 11, 12, 13, 14, 15, 16, 17, 28, 45, 66, 68, 81] ?_
  first | (refine kp [2, 3, 4, 6, 7, 8, 10, 11] ?_; refine aq (L1 := [_, _, _, _]) rfl (by rw [hB]; exact Nat.succ_le_succ (Nat.zero_le _)) rfl rfl ?_) | skip
  refine a9 hP hN rfl ?_
  iterate 3 (refine V rfl fun _ k0 => ?_; simp only [zO, zT, acs, reduceCtorEq, J, D, M, U, O, S]; (repeat refine And.intro (by first | omega | assumption | exact rfl | exact ⟨by omega, hne0 (by assumption)⟩ | exact ⟨by omega, hne0 (And.left ‹¬ (spB 10 s).getD k [] = [] ∧ _›)⟩) ?_); (try refine .inl ?_); apply k0; clear k0; simp only [zP, D])
  refine aa ?_
  first
  | (refine ⟨_, _, ?_, aw [2, 3, 4, 6, 7, 8, 10, 11], k + 1, v, d8 r 10, R, by omega, hcr (by omega), by omega, by omega, hR1, hPG.trans (lV (by omega) hsk2), rfl, rfl⟩
     omega)
  | (refine ⟨_, _, ?_, aw [2, 3, 4, 6, 7, 8, 10, 11], k + 1, v + 1, d8 r 10, R ++ [(gi xs ys ((spB 10 s).getD k []))], by omega, hcr (by omega), by omega, by rw [ag]; simp only [af, au]; omega, by rw [ag]; simp only [af, au]; omega, hPG.trans (pV (by omega) hns2 ((dx hw9 (by omega)).trans (by omega))), rfl, rfl⟩
     omega)
 (try simp only [zB, reduceCtorEq] at hc16)
 refine aV ?_
 apply k11; clear k11; refine kp [2, 3, 4, 6, 7, 8, 10, 11, 28] ?_
 refine Z fun _ k40 => ?_
 refine js 3 rfl ?_; simp only [aR, bf, zS, J, and_self, and_true, true_and, and_false, false_and, if_true, if_false, eq_self, reduceCtorEq, Nat.one_ne_zero, Nat.zero_ne_one]
 refine a9 hP hN rfl ?_
 iterate 4 (refine V rfl fun _ k0 => ?_; simp only [zO, zT, acs, reduceCtorEq, J, D, M, U, O, S]; (repeat refine And.intro (by first | omega | assumption | exact rfl | exact ⟨by omega, hne0 (by assumption)⟩ | exact ⟨by omega, hne0 (And.left ‹¬ (spB 10 s).getD k [] = [] ∧ _›)⟩) ?_); (try refine .inl ?_); apply k0; clear k0; simp only [zP, D])
 refine aa ?_
 apply k40; clear k40; refine kp [2, 3, 4, 6, 7, 8, 10, 11, 28] ?_
 first
 | (refine eh 6 (.pair (.list (.int .i64)) (.pair (.list (.int .i64)) .unit)) rfl ?_)
 | skip
 refine kp [6, 7, 8] ?_
 first
 | ((refine aq (L1 := [_, _, _, _]) rfl (by rw [hB]; exact Nat.succ_le_succ (Nat.zero_le _)) rfl rfl ?_); (refine aq (L1 := [_, _, _]) rfl (by rw [hB]; exact Nat.succ_le_succ (Nat.zero_le _)) rfl rfl ?_); (refine aq (L1 := [_, _]) rfl (by rw [hB]; exact Nat.succ_le_succ (Nat.zero_le _)) rfl rfl ?_); (refine aq (L1 := [_]) rfl (by rw [hB]; exact Nat.succ_le_succ (Nat.zero_le _)) rfl rfl ?_))
 | ((refine aq (L1 := [_, _, _]) rfl (by rw [hB]; exact Nat.succ_le_succ (Nat.zero_le _)) rfl rfl ?_); (refine aq (L1 := [_, _]) rfl (by rw [hB]; exact Nat.succ_le_succ (Nat.zero_le _)) rfl rfl ?_); (refine aq (L1 := [_]) rfl (by rw [hB]; exact Nat.succ_le_succ (Nat.zero_le _)) rfl rfl ?_))
 | ((refine aq (L1 := [_, _]) rfl (by rw [hB]; exact Nat.succ_le_succ (Nat.zero_le _)) rfl rfl ?_); (refine aq (L1 := [_]) rfl (by rw [hB]; exact Nat.succ_le_succ (Nat.zero_le _)) rfl rfl ?_))
 refine ak ?_
 refine ⟨by first | exact .inl rfl | exact .inr rfl, _, rfl, ?_⟩; simp only [zP, J, D]
 all_goals (first
 | (rw [nH hb0]; done)
 | (rw [hPM]; done)
 | (rw [hPG, cR (by omega) hns2 (by rw [dD hw9 (by omega)]; decide), dD hw9 (by omega)]; done)
 | (rw [hPG, cR (by omega) hns2 (by rw [dx hw9 (by omega)]; exact hte), dx hw9 (by omega)]; done)
 | (obtain ⟨g1, g2⟩ := iH hsp (by assumption) hk
    rw [hPG, dX g1, if_pos g2]; done))
/- strings.Builder; packTy, sh17Th -/
open Go.Shelf in
def Tryd.lays169_ren : Go.Shelf.Ren := ⟨fun | 169 => 37 | n => n, fun | 70 => 75 | 9 => 9 | 0 => 0 | 72 => 78 | 37 => 76 | 127 => 102 | 3 => 3 | 5 => 5 | n => n, fun | n => n⟩
theorem Tryd.lays169 : Go.Proofs.Lays.n169 Tryd.prog Tryd.lays169_ren := {
  mixed := by kernel_rfl,
  f169 := Tryd.func37.trans (congrArg some (by kernel_rfl)),
  t0 := Tryd.underlying0,
  a0 := Tryd.isAgg0,
  z0 := Tryd.sizeOf0,
  v0 := Tryd.zeroValue0,
  t3 := Tryd.underlying3,
  a3 := Tryd.isAgg3,
  z3 := Tryd.sizeOf3,
  v3 := Tryd.zeroValue3,
  t9 := Tryd.underlying9,
  a9 := Tryd.isAgg9,
  z9 := Tryd.sizeOf9,
  v9 := Tryd.zeroValue9,
  t37 := Tryd.underlying76,
  a37 := Tryd.isAgg76,
  z37 := Tryd.sizeOf76,
  v37 := Tryd.zeroValue76,
  t70 := Tryd.underlying75,
  a70 := Tryd.isAgg75,
  z70 := Tryd.sizeOf75,
  v70 := Tryd.zeroValue75,
  t72 := Tryd.underlying78,
  a72 := Tryd.isAgg78,
  z72 := Tryd.sizeOf78,
  v72 := Tryd.zeroValue78,
  t127 := Tryd.underlying102,
  a127 := Tryd.isAgg102,
  z127 := Tryd.sizeOf102,
  v127 := Tryd.zeroValue102 }
section
open Go.RowKit Go.Lib
theorem ge : Builder.Extra Tryd.prog Tryd.lays169_ren where
  sizeBuilder := by kernel_rfl
  liesBuilder := by kernel_rfl
  t5 := Tryd.underlying5
  a5 := Tryd.isAgg5
  z5 := Tryd.sizeOf5
  v5 := Tryd.zeroValue5
  infoByte := by kernel_rfl
  cellsByte := by kernel_rfl
  sizeByte := by kernel_rfl
  neB5 := by decide
theorem tU : liesAt Tryd.prog Tryd.prog.depth 78 (2 / Tryd.prog.cellsOf 78) 0 78 1 = true := by kernel_rfl
theorem sh (b : Nat) (w : World) (h0 : w.cell? ⟨b, 0, none⟩ = some (.pointer (some ⟨b, 0, none⟩))) : Calls Tryd.prog 58 #[.pointer (some ⟨b, 0, none⟩)] w fun e w' => e = .returned (.tuple #[]) ∧ w' = w := by
  obtain ⟨j, hj, _⟩ := Option.map_eq_some_iff.1 ge.sizeBuilder
  have mixed := Tryd.mixed
  go_enter Tryd.func58, Tryd.ntmps58
  go_wp2
  rw [run_neq_ptr_same w _ Tryd.underlying75 hj]
  go_wp2
  go_end0
  exact ⟨rfl, rfl⟩
theorem qK (b : Nat) (w : World) (h0 : w.cell? ⟨b, 0, none⟩ = some (.pointer none)) (hsh : w.shape? b = some (78, 2)) (hfz : w.frozen? ⟨b, 0, none⟩ = false) :
    Calls Tryd.prog 58 #[.pointer (some ⟨b, 0, none⟩)] w fun e w' => e = .returned (.tuple #[]) ∧ w' = w.setCell ⟨b, 0, none⟩ (.pointer (some ⟨b, 0, none⟩)) := by
  obtain ⟨j, hj, hjs⟩ := Option.map_eq_some_iff.1 ge.sizeBuilder
  have mixed := Tryd.mixed
  go_enter Tryd.func58, Tryd.ntmps58
  go_wp2
  rw [run_to_unsafe w ⟨b, 0, none⟩ Tryd.underlying75 Tryd.underlying114 hj (by rw [hjs]; decide) hsh (Nat.zero_lt_succ 1)]
  simp only [Result.andThen]
  rw [Oper.upon_value]
  go_wp2
  rw [run_callFunc_extern Tryd.func77 (by kernel_rfl) (by kernel_rfl) (by kernel_rfl) (e := Extern.AbiNoEscape.same) (by kernel_rfl)]
  rw [run_noEscape]
  simp only [Result.andThen]
  rw [Oper.upon_value]
  go_wp2
  rw [run_from_unsafe w ⟨b, 0, none⟩ Tryd.underlying114 Tryd.underlying75 hj hsh tU]
  simp only [Result.andThen]
  rw [Oper.upon_value]
  go_wp2
  go_end0
  exact ⟨rfl, rfl⟩
theorem mY {w : World} {b : Nat} {u0 u1 q : Value} {T : TypeId} (h : w.heap[b]? = some (.cells #[u0, u1] T (0, 0))) : (w.setCell ⟨b, 0, none⟩ q).heap[b]? = some (.cells #[q, u1] T (0, 0)) := by
  simp [World.setCell, Array.getElem?_modify, h]
theorem mZ {w : World} {b k : Nat} {q : Value} (h : k ≠ b) : (w.setCell ⟨b, 0, none⟩ q).heap[k]? = w.heap[k]? := by
  simp [World.setCell, Array.getElem?_modify, Ne.symm h]
theorem m3 {L0 : List AO} {k : Nat} {c x : AC} (hL : L0[k]? = some (.vars 78 [c, x])) (hc : c = .nilp ∨ c = .ptr k 0 0 0) : cr Tryd.prog L0 58 [.one (.ptr k 0 0 0)] { av := .tup [], upd := [(k, .vars 78 [.ptr k 0 0 0, x])], fp := [k] } := by
  refine ⟨⟨Tryd.f58, Tryd.func58, by kernel_rfl, by kernel_rfl⟩, fun C L σ w vs hP hi ha hfp hlen => ?_⟩
  match vs, ha with
  | [v1], ⟨h1, _⟩ =>
  have hob : L[k]? = some (.vars 78 [c, x]) := by rw [hfp k (by simp)]; exact hL
  obtain ⟨b, us, e1, e2, e3⟩ := hi.ob k _ hob
  have hlt : k < L.length := (List.getElem?_eq_some_iff.1 hob).1
  match us, e3, e2 with
  | [u0, u1], ⟨r0, r1, _⟩, e2 =>
  have hpt : ∀ {u : Value}, RP L σ k 0 0 0 u → u = .pointer (some ⟨b, 0, none⟩) := fun {u} ⟨ob, q1, q2, q3⟩ => by
    rw [hob] at q1; cases q1
    obtain ⟨b', q4, q5⟩ := q3 rfl rfl
    rw [e1] at q4
    have : b = b' := by simpa [blk] using q4
    subst this
    rw [q5]; simp [AO.esize]
  have hv1 := hpt h1.2
  subst hv1
  have e2' : w.heap[b]? = some (.cells #[u0, u1] 78 (0, 0)) := e2
  have hfin : ∀ w' : World, w'.os = w.os → w'.tape = w.tape → w'.output = w.output → w'.heap.size = w.heap.size → w'.heap[b]? = some (.cells #[.pointer (some ⟨b, 0, none⟩), u1] 78 (0, 0)) → (∀ j, j ≠ b → w'.heap[j]? = w.heap[j]?) →
      fD C L σ w { av := .tup [], upd := [(k, .vars 78 [.ptr k 0 0 0, x])], fp := [k] } (.tuple #[]) w' := fun w' h2 h3 h4 h5 h6 h7 => by
    refine bo (σ' := σ) hi hob (by omega) h2 h3 h4 (fun j _ hno => h7 j fun ej => hno ⟨_, hob, rfl, by rw [e1, ej]; rfl⟩) (fun _ _ => rfl) ⟨Nat.le_refl _, fun _ _ => ⟨rfl, rfl, rfl, trivial⟩⟩
      (fun _ j hj => .inl ⟨_, hob, rfl, hj⟩) (fun hp hav => ?_) (fun _ _ => ⟨[], rfl, trivial⟩)
    refine ⟨b, [.pointer (some ⟨b, 0, none⟩), u1], e1, h6, ⟨rfl, .vars 78 [.ptr k 0 0 0, x], by simp [hlt], Nat.le_refl _, fun _ _ => ⟨b, by rw [e1]; rfl, by simp [AO.esize]⟩⟩, hp _ _ r1, trivial⟩
  rcases hc with rfl | rfl
  · have hu0 : u0 = .pointer none := r0.2
    subst hu0
    refine (qK b w (by simp [World.cell?, e2']) (by simp [World.shape?, e2']) (by simp [World.frozen?, e2'])).mono fun e w' hh => ?_
    obtain ⟨rfl, rfl⟩ := hh
    exact ⟨_, rfl, hfin _ rfl rfl rfl (by simp [World.setCell]) (mY e2') fun j hj => mZ hj⟩
  · have hu0 := hpt r0.2
    subst hu0
    refine (sh b w (by simp [World.cell?, e2'])).mono fun e w' hh => ?_
    obtain ⟨rfl, rfl⟩ := hh
    exact ⟨_, rfl, hfin _ rfl rfl rfl rfl e2' fun _ _ => rfl⟩
theorem tn {w : World} {v : Value} {n : Nat} {flat : List Value} (ty : TypeId) (hown : w.ownsRow 0 5 1 v n flat) (s : ByteArray) (hb : n + s.size ≤ 140737488355328) :
    ∃ v' w', (Builtin.append_ #[76, 9] ty #[v, .string s]).run Tryd.prog w = .ok v' w' ∧ w'.ownsRow 0 5 1 v' (n + s.size) (flat ++ strCells s) ∧ w.grownBy w' v.ownBlock ∧ ∀ b, v'.ownBlock = some b → v.ownBlock = some b ∨ w.heap.size ≤ b := by
  obtain ⟨i, hi, hz, hs, hby⟩ := info_parts (show (Tryd.prog.info? 5).map (fun i => (i.zero, i.size, i.bytes)) = some (some (.int .u8 0), 1, 1) by kernel_rfl)
  rcases hown.2 with ⟨rfl, rfl⟩ | ⟨g, cap, cur, rfl, hbg, hg, hnc, hcm, hcs, htk⟩
  · obtain ⟨v', w', r1, r2, r3, _⟩ := run_append_own_string (P := Tryd.prog) (w := w) w.heap.size 76 9 ty 5 i Tryd.underlying76 Tryd.underlying9 hi hz hs hby (.slice none 0 0) 0 flat ⟨hown.1, .inl ⟨rfl, rfl⟩⟩ s (by unfold maxLen; omega) hb (Nat.le_refl _)
    refine ⟨v', w', r1, ⟨r2.1, r2.2.imp id fun ⟨g, cap, cur, q1, _, q2⟩ => ⟨g, cap, cur, q1, Nat.zero_le _, q2⟩⟩, r3, fun b hb2 => .inr ?_⟩
    rcases r2.2 with ⟨rfl, _⟩ | ⟨g, cap, cur, rfl, q1, _⟩
    · cases hb2
    · simp only [Value.ownBlock, Option.some.injEq] at hb2
      omega
  · obtain ⟨v', w', r1, r2, r3, _⟩ := run_append_own_string (P := Tryd.prog) (w := w) 0 76 9 ty 5 i Tryd.underlying76 Tryd.underlying9 hi hz hs hby (.slice (some ⟨g, 0, none⟩) n cap) n flat hown s (by unfold maxLen; omega) hb (Nat.zero_le _)
    refine ⟨v', w', r1, r2, r3, fun b hb2 => ?_⟩
    by_cases hroom : n + s.size ≤ cap
    · have hr := run_append_room_string (P := Tryd.prog) w 76 9 ty 5 i Tryd.underlying76 Tryd.underlying9 hi hs g n cap cur hg s hroom (by omega)
      rw [hr] at r1
      obtain ⟨rfl, rfl⟩ := Result.ok.inj r1
      exact .inl hb2
    · have hxl : flat.length = n := by simpa using hown.1
      have hr := run_append_grow_string (P := Tryd.prog) w 76 9 ty 5 i (.int .u8 0) Tryd.underlying76 Tryd.underlying9 hi hz ⟨g, 0, none⟩ n cap flat (by rw [hs]; omega) (hown.cells (g := g) rfl) s (by omega) (by omega) (by rw [hby]; exact growslice_fits (by omega) (by omega))
      rw [hr] at r1
      obtain ⟨rfl, rfl⟩ := Result.ok.inj r1
      simp only [Value.ownBlock, Option.some.injEq] at hb2
      exact .inr (by omega)
def bI (s : Bs) : List Int := s.map fun b => (b.toNat : Int)
theorem d9 (s : Bs) : (bI s).length = s.length := bP ..
theorem tE (s t : Bs) : bI (s ++ t) = bI s ++ bI t := List.map_append ..
theorem mU (s : Bs) (i : Nat) (h : i < s.length) : (strCells ⟨s.toArray⟩)[i]? = some (.int .u8 ((bI s).getD i 0)) := by
  unfold strCells bI
  simp [List.getD, h]
theorem p7 {C : Ctx} {L0 : List AO} {o : Oper} {opn : Operand → AV} {x y : Operand} {ats : Array TypeId} {k ver : Nat} {xs : List Int} {s : Bs} (hP : C.P = Tryd.prog)
    (ho : o.op = .call { callee := .builtin .append, args := #[x, y], argTypes := ats }) (ha : ats = #[76, 9]) (hx' : opn x = .one (.row k ver)) (hob : L0[k]? = some (.row (.int .u8) 5 ver xs)) (hy' : opn y = .one (.str s))
    (hlen : xs.length + s.length ≤ 140737488355328) : aT C L0 o opn { av := .one (.row k (ver + 1)), upd := [(k, .row (.int .u8) 5 (ver + 1) (xs ++ bI s))], fp := [k] } := by
  intro L σ w ρ hi hx hfp _
  have hx1 := hx x (by simp [ho, Op.operands, Call.operands])
  have hx2 := hx y (by simp [ho, Op.operands, Call.operands])
  rw [hx'] at hx1
  rw [hy'] at hx2
  have hob' : L[k]? = some (.row (.int .u8) 5 ver xs) := by rw [hfp k (by simp)]; exact hob
  obtain ⟨ob, h2, h3, h4⟩ := hx1.2
  rw [hob'] at h2; cases h2
  obtain ⟨_, e1⟩ := h4 rfl rfl
  have e2 : ρ y = .string ⟨s.toArray⟩ := hx2.2
  obtain ⟨flat, h5, h6, h7⟩ := hi.ob k _ hob'
  have hfl : flat.length = xs.length := by have := h5.1; simpa [Ty.size] using this
  obtain ⟨v', w', r1, r2, r3, r4⟩ := tn o.type h5 ⟨s.toArray⟩ (by show xs.length + s.toArray.size ≤ _; simpa using hlen)
  have hss : (⟨s.toArray⟩ : ByteArray).size = s.length := by show s.toArray.size = _; simp
  rw [hss] at r2
  have hblk : blk (σ k) = (σ k).ownBlock := cH (bB h5)
  have hblk' : blk v' = v'.ownBlock := cH (bB r2)
  simp only [ho, ha, execOp, resolve, invoke, builtin, e1, e2, hP, Sem.run_bind, Sem.run_pure, Result.andThen_ok, List.map_toArray, aR, bf, r1, aU]
  refine bo (σ' := sup σ k v') hi hob' r3.size r3.os r3.tape r3.output
    (fun j hj hno => r3.block j hj (fun ej => hno ⟨_, hob', rfl, by rw [hblk]; exact ej.symm⟩)) (fun j hj => bS σ v' hj) ⟨Nat.le_succ _, fun _ h => by simp [AO.ver] at h⟩
    (fun _ j hj => ?_) (fun hp hav => ?_) (fun hI _ => ?_)
  · rw [aI, hblk'] at hj
    rcases r4 j hj with q | q
    · exact .inl ⟨_, hob', rfl, by rw [hblk]; exact q⟩
    · exact .inr q
  · have hl : (xs ++ bI s).length = xs.length + s.length := by rw [ag, d9]
    refine ⟨flat ++ strCells ⟨s.toArray⟩, by rw [aI, hl]; exact r2, h6, fun i hil => ?_⟩
    rw [hl] at hil
    show ((flat ++ strCells ⟨s.toArray⟩).drop (i * 1)).take 1 = [.int .u8 ((xs ++ bI s).getD i 0)]
    rw [Nat.mul_one]
    by_cases hix : i < xs.length
    · have h8 := h7 i hix
      have h9 : (flat.drop (i * 1)).take 1 = [.int .u8 (xs.getD i 0)] := h8
      rw [Nat.mul_one] at h9
      rw [List.drop_append_of_le_length (by omega), List.take_append_of_le_length (by rw [List.length_drop]; omega), h9]
      simp [List.getD, List.getElem?_append_left hix]
    · have h9 := mU s (i - xs.length) (by omega)
      rw [List.drop_append, List.drop_of_length_le (by omega), aD, hfl]
      have hlt : i - xs.length < (strCells ⟨s.toArray⟩).length := (List.getElem?_eq_some_iff.1 h9).1
      rw [List.drop_eq_getElem_cons hlt]
      rw [List.getElem?_eq_getElem hlt] at h9
      have h10 := Option.some.inj h9
      rw [h10]
      simp [List.getD, List.getElem?_append_right (Nat.le_of_not_lt hix)]
  · have hlt : k < L.length := (List.getElem?_eq_some_iff.1 hob').1
    refine ⟨?_, .row (.int .u8) 5 (ver + 1) (xs ++ bI s), by simp [hlt], Nat.le_refl _, fun _ _ => ⟨⟨_, _, _, rfl⟩, (aI _ _ _).symm⟩⟩
    rcases r2.2 with ⟨rfl, _⟩ | ⟨g, cap, cur, rfl, _⟩ <;> rfl
theorem sJ (b g cap : Nat) (p : Value) (cur : Array Value) (l : Bs) (w : World) (h0 : l ≠ []) (hbk : w.heap[b]? = some (.cells #[p, .slice (some ⟨g, 0, none⟩) l.length cap] 78 (0, 0))) (hg : w.heap[g]? = some (.cells cur 5 (0, 0)))
    (hc : l.length ≤ cap) (hm : cap ≤ maxLen) (hcs : cur.size = cap) (ht : cur.toList.take l.length = Go.Lib.byteCells l) :
    Calls Tryd.prog 37 #[.pointer (some ⟨b, 0, none⟩)] w fun e w' => e = .returned (.string ⟨l.toArray⟩) ∧ w' = w.drew.freeze ⟨g, 0, none⟩ l.length := by
  have hl0 : l.length ≠ 0 := by simpa using h0
  have hSD : ∀ ts ty, (Builtin.unsafeSliceData_ ts ty #[.slice (some ⟨g, 0, none⟩) l.length cap]).run Tryd.prog w.drew = .ok (.pointer (some ⟨g, 0, none⟩)) w.drew := fun ts ty => run_unsafeSliceData_row _ _ _ _ _ _ (by omega)
  have hUS : (Builtin.unsafeString_ #[102, 3] 9 #[.pointer (some ⟨g, 0, none⟩), .int .i64 l.length]).run Tryd.prog w.drew = .ok (.string ⟨l.toArray⟩) (w.drew.freeze ⟨g, 0, none⟩ l.length) := by
    refine run_unsafeString_row w.drew 102 3 9 5 Tryd.underlying102 (by kernel_rfl) g cur.size (by have hg' : w.drew.heap[g]? = some (.cells cur 5 (0, 0)) := hg; simp [World.shape?, hg']) l h0 (by omega) (by unfold maxLen at hm; omega) fun j x hx => ?_
    have hg' : w.drew.heap[g]? = some (.cells cur 5 (0, 0)) := hg
    have hj := (List.getElem?_eq_some_iff.1 hx).1
    have h1 : (Go.Lib.byteCells l)[j]? = some (.int .u8 x.toNat) := by simp [Go.Lib.byteCells, hx]
    rw [← ht, List.getElem?_take_of_lt hj] at h1
    rw [Addr.add_lit, Nat.zero_add]
    simp only [World.cell?, hg']
    simpa using h1
  have c1 : w.drew.cell? ⟨b, 1, none⟩ = some (.slice (some ⟨g, 0, none⟩) l.length cap) := by
    have : w.drew.heap[b]? = some (.cells #[p, .slice (some ⟨g, 0, none⟩) l.length cap] 78 (0, 0)) := hbk
    rw [cell_of_heap this]; rfl
  have mixed := Tryd.mixed
  go_enter Tryd.func37, Tryd.ntmps37
  go_wp2
  go_region
  all_goals (go_wp2; go_ret; exact ⟨rfl, rfl⟩)
theorem pm {w : World} {g k n : Nat} (h : k ≠ g) : (w.freeze ⟨g, 0, none⟩ n).heap[k]? = w.heap[k]? := by
  unfold World.freeze
  split
  · rfl
  · simp [Array.getElem?_modify, Ne.symm h]
theorem sa (w : World) (p : Addr) (n : Nat) : (w.freeze p n).os = w.os ∧ (w.freeze p n).tape = w.tape ∧ (w.freeze p n).output = w.output ∧ (w.freeze p n).heap.size = w.heap.size := by
  unfold World.freeze
  split
  · exact ⟨rfl, rfl, rfl, rfl⟩
  · exact ⟨rfl, rfl, rfl, by simp⟩
theorem tG {L0 : List AO} {k j v : Nat} {c : AC} {l : Bs} (hL : L0[k]? = some (.vars 78 [c, .row j v])) (hj : L0[j]? = some (.row (.int .u8) 5 v (bI l))) :
    cr Tryd.prog L0 37 [.one (.ptr k 0 0 0)] { av := .one (.str l), upd := [(j, .dead (v + 1))], fp := [k, j] } := by
  refine ⟨⟨Tryd.f37, Tryd.func37, by kernel_rfl, by kernel_rfl⟩, fun C L σ w vs hP hi ha hfp hlen => ?_⟩
  match vs, ha with
  | [v1], ⟨h1, _⟩ =>
  have hob : L[k]? = some (.vars 78 [c, .row j v]) := by rw [hfp k (by simp)]; exact hL
  have hobj : L[j]? = some (.row (.int .u8) 5 v (bI l)) := by rw [hfp j (by simp)]; exact hj
  obtain ⟨b, us, e1, e2, e3⟩ := hi.ob k _ hob
  match us, e3, e2 with
  | [u0, u1], ⟨r0, r1, _⟩, e2 =>
  obtain ⟨ob, q1, q2, q3⟩ := h1.2
  rw [hob] at q1; cases q1
  obtain ⟨b', q4, q5⟩ := q3 rfl rfl
  rw [e1] at q4
  have : b = b' := by simpa [blk] using q4
  subst this
  have hv1 : v1 = .pointer (some ⟨b, 0, none⟩) := by rw [q5]; simp [AO.esize]
  subst hv1
  obtain ⟨ob, p1, p2, p3⟩ := r1.2
  rw [hobj] at p1; cases p1
  obtain ⟨_, hu1⟩ := p3 rfl rfl
  obtain ⟨flat, f1, f2, f3⟩ := hi.ob j _ hobj
  rw [d9] at f1 f3
  have hfl : flat.length = l.length := by have := f1.1; simpa [Ty.size] using this
  have hflat : flat = Go.Lib.byteCells l := by
    refine List.ext_getElem? fun i => ?_
    by_cases hi : i < l.length
    · have h9 : (flat.drop (i * 1)).take 1 = [.int .u8 ((bI l).getD i 0)] := f3 i hi
      rw [Nat.mul_one] at h9
      have h10 := congrArg (fun (x : List Value) => x[0]?) h9
      simp only [List.getElem?_take_of_lt (show 0 < 1 by omega), List.getElem?_drop, Nat.add_zero, List.getElem?_cons_zero] at h10
      rw [h10]
      simp [Go.Lib.byteCells, bI, List.getD, hi]
    · rw [List.getElem?_eq_none (by omega), List.getElem?_eq_none (by rw [Go.Lib.byteCells_length]; omega)]
  have hblk : blk (σ j) = (σ j).ownBlock := cH (bB f1)
  have e2' : w.heap[b]? = some (.cells #[u0, u1] 78 (0, 0)) := e2
  have hlt : j < L.length := (List.getElem?_eq_some_iff.1 hobj).1
  have hfin : ∀ w' : World, w'.os = w.os → w'.tape = w.tape → w'.output = w.output → w.heap.size ≤ w'.heap.size → (∀ q, q < w.heap.size → (σ j).ownBlock ≠ some q → w'.heap[q]? = w.heap[q]?) →
      fD C L σ w { av := .one (.str l), upd := [(j, .dead (v + 1))], fp := [k, j] } (.string ⟨l.toArray⟩) w' := fun w' h2 h3 h4 h5 h6 =>
    bo (σ' := σ) hi hobj h5 h2 h3 h4 (fun q hq hno => h6 q hq fun eq => hno ⟨_, hobj, rfl, by rw [hblk]; exact eq⟩) (fun _ _ => rfl) ⟨Nat.le_succ _, fun h => by cases h⟩
      (fun h => by cases h) (fun _ _ => trivial) (fun _ _ => ⟨rfl, rfl⟩)
  rcases f1.2 with ⟨hs1, hs2⟩ | ⟨g, cap, cur, hs, hbg, hg, hnc, hcm, hcs, htk⟩
  · have hl : l = [] := List.eq_nil_of_length_eq_zero hs2
    subst hl
    rw [hu1, hs1] at e2'
    refine (Any.Builder_String_nil Tryd.lays169 ge w.heap.size b u0 w e2').mono fun e w' hh => ?_
    obtain ⟨rfl, hB⟩ := hh
    exact ⟨_, rfl, hfin w' hB.os hB.tape hB.output hB.size fun q hq _ => hB.block q hq⟩
  · by_cases h0 : l = []
    · subst h0
      rw [hu1, hs] at e2'
      by_cases hc0 : cap = 0
      · subst hc0
        refine (Any.Builder_String_noroom Tryd.lays169 ge w.heap.size b g u0 cur w (Nat.le_refl _) e2' hg).mono fun e w' hh => ?_
        obtain ⟨rfl, hB⟩ := hh
        exact ⟨_, rfl, hfin w' hB.os hB.tape hB.output hB.size fun q hq _ => hB.block q hq⟩
      · refine (Any.Builder_String_room Tryd.lays169 ge w.heap.size b g cap u0 w hc0 e2').mono fun e w' hh => ?_
        obtain ⟨rfl, hB⟩ := hh
        exact ⟨_, rfl, hfin w' hB.os hB.tape hB.output hB.size fun q hq _ => hB.block q hq⟩
    · rw [hu1, hs] at e2'
      refine (sJ b g cap u0 cur l w h0 e2' hg hnc hcm (by simpa [Ty.size] using hcs) (by rw [← hflat, ← htk]; simp [Ty.size])).mono fun e w' hh => ?_
      obtain ⟨rfl, rfl⟩ := hh
      obtain ⟨z1, z2, z3, z4⟩ := sa w.drew ⟨g, 0, none⟩ l.length
      exact ⟨_, rfl, hfin _ z1 z2 z3 (Nat.le_of_eq z4.symm) fun q hq hne => (pm (w := w.drew) fun eq => hne (by rw [hs, eq]; rfl))⟩
end
theorem oF (t : TRC) (n m : Int) : aW Tryd.prog 33 [.agg [.list (.int .i64) t.1, .list (.int .i64) t.2.1], .one (.int .i64 n), .one (.int .i64 m)] (.one (.int .i64 (bE n m t))) := by
 refine aA Tryd.func33 rfl (by kernel_rfl) (Nat.le_of_ble_eq_true rfl) rfl fun C hP hN hB => ?_
 replace hN : C.N = 43 := hN
 simp only [aL, D]
 refine Z fun _ k1 => ?_
 refine a9 hP hN rfl ?_
 iterate 2 (refine V rfl fun _ k0 => ?_; simp only [zO, zT, acs, reduceCtorEq, J, D, M, U, O, S]; (repeat refine an ?_); (try refine .inl ?_); apply k0; clear k0; simp only [zP, D])
 refine aa ?_
 apply k1; clear k1; refine kp [0, 1, 2, 3, 6] ?_
 refine Z fun _ k2 => ?_
 refine Z fun _ k3 => ?_
 refine a9 hP hN rfl ?_
 iterate 4 (refine V rfl fun _ k0 => ?_; simp only [zO, zT, acs, reduceCtorEq, J, D, M, U, O, S]; (repeat refine an ?_); (try refine .inl ?_); apply k0; clear k0; simp only [zP, D])
 refine aa ?_
 apply k3; clear k3; refine kp [0, 1, 2, 3, 6, 13] ?_
 refine cd (fun hc4 => ?_) (fun hc4 => ?_)
 ·(try simp only [zB, reduceCtorEq] at hc4)
  have h0 := hc4
  refine Z fun _ k5 => ?_
  refine a9 hP hN rfl ?_
  (refine V rfl fun _ k0 => ?_; simp only [zO, zT, acs, reduceCtorEq, J, D, M, U, O, S]; (repeat refine an ?_); (try refine .inl ?_); apply k0; clear k0; simp only [zP, D])
  refine aa ?_
  apply k5; clear k5; refine kp [0, 1, 2, 3, 6, 13] ?_
  refine ak ?_
  refine ⟨nr, _, rfl, ?_⟩; simp only [zF, zP, J, D]
  refine VLE.of_eq ?_
  refine congrArg (fun n => AV.one (AC.int IntKind.i64 n)) ?_
  symm
  first
  | exact iu (by omega)
  | exact iz (by omega) h1
  | exact iv (by omega) (by omega) (by omega)
  | exact iM (i := k) (by omega) (by omega) (by omega) (by omega) (by omega)
  | exact fV (by omega) (by omega) (by omega) fun q hq2 => hq q (by omega)
 (try simp only [zB, reduceCtorEq] at hc4)
 have h0 := hc4
 refine am ?_
 apply k2; clear k2; refine kp [0, 1, 2, 3, 6, 13] ?_
 refine Z fun _ k6 => ?_
 refine Z fun _ k7 => ?_
 refine a9 hP hN rfl ?_
 iterate 3 (refine V rfl fun _ k0 => ?_; simp only [zO, zT, acs, reduceCtorEq, J, D, M, U, O, S]; (repeat refine an ?_); (try refine .inl ?_); apply k0; clear k0; simp only [zP, D])
 refine V rfl fun _ k0 => ?_
 refine ar (h := ah (nM t.1 n)) rfl rfl (by first | exact rfl | (simp only [ev, zP, J, D]; exact rfl)) (by simp only [zV, acs, reduceCtorEq, J, D, M, U, O, S]) ?_
 apply k0; clear k0; simp only [zP, D]
 (refine V rfl fun _ k0 => ?_; simp only [zO, zT, acs, reduceCtorEq, J, D, M, U, O, S]; (repeat refine an ?_); (try refine .inl ?_); apply k0; clear k0; simp only [zP, D])
 refine aa ?_
 apply k7; clear k7; refine kp [0, 1, 2, 3, 6, 7, 13] ?_
 refine Z fun _ k8 => ?_
 refine a9 hP hN rfl ?_
 iterate 2 (refine V rfl fun _ k0 => ?_; simp only [zO, zT, acs, reduceCtorEq, J, D, M, U, O, S]; (repeat refine an ?_); (try refine .inl ?_); apply k0; clear k0; simp only [zP, D])
 refine aa ?_
 apply k8; clear k8; refine kp [0, 1, 2, 3, 6, 7, 13, 19] ?_
 refine cd (fun hc9 => ?_) (fun hc9 => ?_)
 ·(try simp only [zB, reduceCtorEq] at hc9)
  have h1 := hc9
  refine Z fun _ k10 => ?_
  refine a9 hP hN rfl ?_
  iterate 2 (refine V rfl fun _ k0 => ?_; simp only [zO, zT, acs, reduceCtorEq, J, D, M, U, O, S]; (repeat refine an ?_); (try refine .inl ?_); apply k0; clear k0; simp only [zP, D])
  refine aa ?_
  apply k10; clear k10; refine kp [0, 1, 2, 3, 6, 7, 13, 19] ?_
  refine ak ?_
  refine ⟨nr, _, rfl, ?_⟩; simp only [zF, zP, J, D]
  refine VLE.of_eq ?_
  refine congrArg (fun n => AV.one (AC.int IntKind.i64 n)) ?_
  symm
  first
  | exact iu (by omega)
  | exact iz (by omega) h1
  | exact iv (by omega) (by omega) (by omega)
  | exact iM (i := k) (by omega) (by omega) (by omega) (by omega) (by omega)
  | exact fV (by omega) (by omega) (by omega) fun q hq2 => hq q (by omega)
 (try simp only [zB, reduceCtorEq] at hc9)
 have h1 := hc9
 refine am ?_
 apply k6; clear k6; refine kp [0, 1, 2, 3, 6, 7, 13, 19] ?_
 refine Z fun _ k11 => ?_
 refine Z fun _ k12 => ?_
 refine a9 hP hN rfl ?_
 iterate 7 (refine V rfl fun _ k0 => ?_; simp only [zO, zT, acs, reduceCtorEq, J, D, M, U, O, S]; (repeat refine an ?_); (try refine .inl ?_); apply k0; clear k0; simp only [zP, D])
 refine aa ?_
 apply k12; clear k12; refine kp [0, 1, 2, 3, 6, 7, 13, 19, 27] ?_
 refine cd (fun hc13 => ?_) (fun hc13 => ?_)
 ·(try simp only [zB, reduceCtorEq] at hc13)
  have h2 := hc13
  refine Z fun _ k14 => ?_
  refine a9 hP hN rfl ?_
  (refine V rfl fun _ k0 => ?_; simp only [zO, zT, acs, reduceCtorEq, J, D, M, U, O, S]; (repeat refine an ?_); (try refine .inl ?_); apply k0; clear k0; simp only [zP, D])
  refine aa ?_
  apply k14; clear k14; refine kp [0, 1, 2, 3, 6, 7, 13, 19, 27] ?_
  refine ak ?_
  refine ⟨nr, _, rfl, ?_⟩; simp only [zF, zP, J, D]
  refine VLE.of_eq ?_
  refine congrArg (fun n => AV.one (AC.int IntKind.i64 n)) ?_
  symm
  first
  | exact iu (by omega)
  | exact iz (by omega) h1
  | exact iv (by omega) (by omega) (by omega)
  | exact iM (i := k) (by omega) (by omega) (by omega) (by omega) (by omega)
  | exact fV (by omega) (by omega) (by omega) fun q hq2 => hq q (by omega)
 (try simp only [zB, reduceCtorEq] at hc13)
 have h2 := hc13
 have hlen := (ex h1).len
 refine am ?_
 apply k11; clear k11; refine kp [0, 1, 2, 3, 6, 7, 13, 19, 27] ?_
 refine Z fun _ k15 => ?_
 refine Z fun _ k16 => ?_
 refine a9 hP hN rfl ?_
 iterate 4 (refine V rfl fun _ k0 => ?_; simp only [zO, zT, acs, reduceCtorEq, J, D, M, U, O, S]; (repeat refine an ?_); (try refine .inl ?_); apply k0; clear k0; simp only [zP, D])
 refine aa ?_
 apply k16; clear k16; refine kp [0, 1, 2, 3, 6, 7, 13, 19, 27, 29, 30, 31] ?_
 refine az ?_
 refine aX (fun n17 s17 => ∃ (k : Nat), (k ≤ t.2.1.length) ∧ (∀ q, q < k → 0 ≤ t.2.1.getD q 0 ∧ t.2.1.getD q 0 < m) ∧ n17 = t.2.1.length - k ∧ s17 = { env := [(2, .one (.int .i64 m)), (6, .one (.int .i64 0)), (29, .one (.list (.int .i64) t.2.1)), (30, .one (.int .i64 (t.2.1.length : Int))), (31, .one (.int .i64 (k : Int)))], L := [.vars 60 [.list (.int .i64) t.1, .list (.int .i64) t.2.1]] }) ?_ ?_
 ·exact ⟨_, _, aw [2, 6, 29, 30, 31], 0, Nat.zero_le _, fun q hq => by omega, rfl, rfl⟩
 rintro n17 s17 ⟨k, hk, hq, rfl, rfl⟩
 refine Z fun _ k18 => ?_
 refine a9 hP hN rfl ?_
 (refine V rfl fun _ k0 => ?_; simp only [zO, zT, acs, reduceCtorEq, J, D, M, U, O, S]; (repeat refine an ?_); (try refine .inl ?_); apply k0; clear k0; simp only [zP, D])
 refine aa ?_
 apply k18; clear k18; refine kp [2, 6, 29, 30, 31, 32] ?_
 refine Z fun _ k19 => ?_
 refine cd (fun hc20 => ?_) (fun hc20 => ?_)
 ·(try simp only [zB, reduceCtorEq] at hc20)
  refine am ?_
  apply k19; clear k19; refine kp [2, 6, 29, 30, 31, 32] ?_
  refine Z fun _ k21 => ?_
  refine az ?_
  refine Z fun _ k22 => ?_
  refine a9 hP hN rfl ?_
  iterate 3 (refine V rfl fun _ k0 => ?_; simp only [zO, zT, acs, reduceCtorEq, J, D, M, U, O, S]; (repeat refine an ?_); (try refine .inl ?_); apply k0; clear k0; simp only [zP, D])
  refine aa ?_
  apply k22; clear k22; refine kp [2, 6, 9, 29, 30, 31, 32] ?_
  refine Z fun _ k23 => ?_
  refine a9 hP hN rfl ?_
  iterate 3 (refine V rfl fun _ k0 => ?_; simp only [zO, zT, acs, reduceCtorEq, J, D, M, U, O, S]; (repeat refine an ?_); (try refine .inl ?_); apply k0; clear k0; simp only [zP, D])
  refine' aC (want := false) 3 rfl (m := 37) (by simp only [zP, J, D]; exact rfl) (by kernel_rfl) rfl rfl rfl rfl rfl (fun hg24 => ?a24) ?b24 ?c24
  case a24 =>
   have hq24 := hg24; (try simp only [zB, reduceCtorEq] at hg24); simp only [zE]
   iterate 3 (refine aO rfl fun _ k0 => ?_; simp only [zO, zT, acs, reduceCtorEq, J, D, M, U, O, S]; (repeat refine an ?_); (try refine .inl ?_); apply k0; clear k0; simp only [zP, D])
   (refine V rfl fun _ k0 => ?_; simp only [zO, zT, acs, reduceCtorEq, J, D, M, U, O, S]; (repeat refine an ?_); (try refine .inl ?_); apply k0; clear k0; simp only [zP, D])
   refine aa ?_
   refine ⟨by simp only [zP, J, D]; exact rfl, rfl, ?_, rfl⟩; (repeat refine aB rfl ?_); exact aQ (by exact rfl) hq24
  case b24 => exact bg
  simp only [aN, aG]
  refine aa ?_
  apply k23; clear k23; refine kp [2, 6, 9, 29, 30, 31, 32, 41] ?_
  refine cd (fun hc25 => ?_) (fun hc25 => ?_)
  ·(try simp only [zB, reduceCtorEq] at hc25)
   have hbd := hc25
   refine Z fun _ k26 => ?_
   refine a9 hP hN rfl ?_
   (refine V rfl fun _ k0 => ?_; simp only [zO, zT, acs, reduceCtorEq, J, D, M, U, O, S]; (repeat refine an ?_); (try refine .inl ?_); apply k0; clear k0; simp only [zP, D])
   refine aa ?_
   apply k26; clear k26; refine kp [2, 6, 9, 29, 30, 31, 32, 41] ?_
   refine ak ?_
   refine ⟨nr, _, rfl, ?_⟩; simp only [zF, zP, J, D]
   refine VLE.of_eq ?_
   refine congrArg (fun n => AV.one (AC.int IntKind.i64 n)) ?_
   symm
   first
   | exact iu (by omega)
   | exact iz (by omega) h1
   | exact iv (by omega) (by omega) (by omega)
   | exact iM (i := k) (by omega) (by omega) (by omega) (by omega) (by omega)
   | exact fV (by omega) (by omega) (by omega) fun q hq2 => hq q (by omega)
  (try simp only [zB, reduceCtorEq] at hc25)
  have hgd := hc25
  refine am ?_
  apply k21; clear k21; refine kp [2, 6, 9, 29, 30, 31, 32, 41] ?_
  refine a9 hP hN rfl ?_
  iterate 2 (refine V rfl fun _ k0 => ?_; simp only [zO, zT, acs, reduceCtorEq, J, D, M, U, O, S]; (repeat refine an ?_); (try refine .inl ?_); apply k0; clear k0; simp only [zP, D])
  refine aa ?_
  refine ⟨_, _, ?_, aw [2, 6, 29, 30, 31], k + 1, by omega, fun q hq2 => ?_, rfl, rfl⟩
  · omega
  · by_cases e : q = k
    · rw [e]; omega
    · exact hq q (by omega)
 (try simp only [zB, reduceCtorEq] at hc20)
 refine aV ?_
 apply k15; clear k15; refine kp [2, 6, 29, 30, 31, 32] ?_
 refine Z fun _ k27 => ?_
 refine a9 hP hN rfl ?_
 (refine V rfl fun _ k0 => ?_; simp only [zO, zT, acs, reduceCtorEq, J, D, M, U, O, S]; (repeat refine an ?_); (try refine .inl ?_); apply k0; clear k0; simp only [zP, D])
 refine aa ?_
 apply k27; clear k27; refine kp [2, 6, 29, 30, 31, 32] ?_
 refine ak ?_
 refine ⟨nr, _, rfl, ?_⟩; simp only [zF, zP, J, D]
 refine VLE.of_eq ?_
 refine congrArg (fun n => AV.one (AC.int IntKind.i64 n)) ?_
 symm
 first
 | exact iu (by omega)
 | exact iz (by omega) h1
 | exact iv (by omega) (by omega) (by omega)
 | exact iM (i := k) (by omega) (by omega) (by omega) (by omega) (by omega)
 | exact fV (by omega) (by omega) (by omega) fun q hq2 => hq q (by omega)
/- on bld17, sw17Th -/
theorem rq {xs ys : List Bs} {t : TRC} {A : Bs} {j : Nat} (h : 0 < j) : bI (A ++ stP xs ys t (j + 1)) = bI (A ++ stP xs ys t j) ++ [32] ++ bI (xs.getD (t.1.getD j 0).toNat []) ++ [47] ++ bI (ys.getD (t.2.1.getD j 0).toNat []) := by
  rw [pb, if_pos h]
  unfold st1 bI
  simp
theorem rT {xs ys : List Bs} {t : TRC} {A : Bs} {j : Nat} (h : ¬ 0 < j) : bI (A ++ stP xs ys t (j + 1)) = bI (A ++ stP xs ys t j) ++ bI (xs.getD (t.1.getD j 0).toNat []) ++ [47] ++ bI (ys.getD (t.2.1.getD j 0).toNat []) := by
  rw [pb, if_neg h]
  unfold st1 bI
  simp
theorem uf {xs ys : List Bs} {l : List TRC} {k : Nat} (h : k < l.length) : bI (d5 xs ys l (k + 1)) = bI (d5 xs ys l k ++ stP xs ys (l.getD k aP) (l.getD k aP).1.length) ++ [10] := by
  rw [kx h, tE]; rfl
theorem iG (xs ys : List Bs) (c : AC) (hc : c = .nilp ∨ c = .ptr 2 0 0 0) (v : Nat) (bs : List Int) (t : TRC) (x : Int) (hl : bs.length ≤ 100000000) : cr Tryd.prog [.vars 24 [.list .str xs], .vars 24 [.list .str ys], .vars 78 [c, .row 3 v], .row (.int .u8) 5 v bs, .vars 60 [.list (.int .i64) t.1, .list (.int .i64) t.2.1]] 34 [.one (.ptr 2 0 0 0), .one (.int .u8 x)] { av := .one .junk, upd := [(2, .vars 78 [.ptr 2 0 0 0, .row 3 (v + 1)]), (3, .row (.int .u8) 5 (v + 1) (bs ++ [x]))], fp := [0, 1, 2, 3, 4] } := by
 refine cK _ _ Tryd.func34 rfl (by kernel_rfl) (Nat.le_of_ble_eq_true rfl) (by intro k hk; simp only [af, au, Nat.zero_add, D] at hk; simp only [List.mem_cons, List.not_mem_nil, or_false]; omega) (fun C hP hN hB => ?_)
 replace hB : C.bL.length = 5 := by rw [hB]; rfl
 replace hN : C.N = 17 := hN
 simp only [aL, D]
 refine Z fun _ k1 => ?_
 refine a9 hP hN rfl ?_
 (refine V rfl fun _ k0 => ?_; simp only [zO, zT, acs, reduceCtorEq, J, D, M, U, O, S]; (repeat refine an ?_); (try refine .inl ?_); apply k0; clear k0; simp only [zP, D])
 refine aa ?_
 apply k1; clear k1; refine kp [0, 1, 4] ?_
 refine Z fun _ k2 => ?_
 refine a9 hP hN rfl ?_
 (refine V rfl fun _ k0 => ?_; simp only [zO, zT, acs, reduceCtorEq, J, D, M, U, O, S]; (repeat refine an ?_); (try refine .inl ?_); apply k0; clear k0; simp only [zP, D])
 refine V rfl fun _ k0 => ?_
 refine ar (h := m3 (k := 2) rfl hc) rfl rfl (by first | exact rfl | (simp only [ev, zP, J, D]; exact rfl)) (by simp only [zV, acs, reduceCtorEq, J, D, M, U, O, S]) ?_
 apply k0; clear k0; simp only [zP, D]
 refine aa ?_
 apply k2; clear k2; refine kp [0, 1, 4] ?_
 refine Z fun _ k3 => ?_
 refine a9 hP hN rfl ?_
 iterate 11 (refine V rfl fun _ k0 => ?_; simp only [zO, zT, acs, reduceCtorEq, J, D, M, U, O, S]; (repeat refine an ?_); (try refine .inl ?_); apply k0; clear k0; simp only [zP, D])
 refine aa ?_
 apply k3; clear k3; refine kp [0, 1, 4] ?_
 refine Z fun _ k4 => ?_
 refine a9 hP hN rfl ?_
 (refine V rfl fun _ k0 => ?_; simp only [zO, zT, acs, reduceCtorEq, J, D, M, U, O, S]; (repeat refine an ?_); (try refine .inl ?_); apply k0; clear k0; simp only [zP, D])
 refine aa ?_
 apply k4; clear k4; refine kp [0, 1, 4] ?_
 refine ak ?_
 refine ⟨by first | exact .inl rfl | exact .inr rfl, _, rfl, ?_⟩; simp only [zP, J, D]
 all_goals rfl
theorem tl (xs ys : List Bs) (c : AC) (v : Nat) (bs : List Int) (t : TRC) (hl : bs.length ≤ 100000000) : cr Tryd.prog [.vars 24 [.list .str xs], .vars 24 [.list .str ys], .vars 78 [c, .row 3 v], .row (.int .u8) 5 v bs, .vars 60 [.list (.int .i64) t.1, .list (.int .i64) t.2.1]] 36 [.one (.ptr 2 0 0 0)] { av := .one (.int .i64 (bs.length : Int)), fp := [0, 1, 2, 3, 4] } := by
 refine cK _ _ Tryd.func36 rfl (by kernel_rfl) (Nat.le_of_ble_eq_true rfl) (by intro k hk; simp only [af, au, Nat.zero_add, D] at hk; simp only [List.mem_cons, List.not_mem_nil, or_false]; omega) (fun C hP hN hB => ?_)
 replace hB : C.bL.length = 5 := by rw [hB]; rfl
 replace hN : C.N = 8 := hN
 simp only [aL, D]
 refine Z fun _ k1 => ?_
 refine a9 hP hN rfl ?_
 (refine V rfl fun _ k0 => ?_; simp only [zO, zT, acs, reduceCtorEq, J, D, M, U, O, S]; (repeat refine an ?_); (try refine .inl ?_); apply k0; clear k0; simp only [zP, D])
 refine aa ?_
 apply k1; clear k1; refine kp [0, 2] ?_
 refine Z fun _ k2 => ?_
 refine a9 hP hN rfl ?_
 iterate 6 (refine V rfl fun _ k0 => ?_; simp only [zO, zT, acs, reduceCtorEq, J, D, M, U, O, S]; (repeat refine an ?_); (try refine .inl ?_); apply k0; clear k0; simp only [zP, D])
 refine aa ?_
 apply k2; clear k2; refine kp [0, 2] ?_
 refine ak ?_
 refine ⟨by first | exact .inl rfl | exact .inr rfl, _, rfl, ?_⟩; simp only [zP, J, D]
 all_goals rfl
theorem jQ (xs ys : List Bs) (c : AC) (hc : c = .nilp ∨ c = .ptr 2 0 0 0) (v : Nat) (bs : List Int) (t : TRC) (s : Bs) (hl : bs.length ≤ 100000000) (hs : s.length ≤ 100000000) : cr Tryd.prog [.vars 24 [.list .str xs], .vars 24 [.list .str ys], .vars 78 [c, .row 3 v], .row (.int .u8) 5 v bs, .vars 60 [.list (.int .i64) t.1, .list (.int .i64) t.2.1]] 35 [.one (.ptr 2 0 0 0), .one (.str s)] { av := .tup [.one (.int .i64 (s.length : Int)), .one .junk], upd := [(2, .vars 78 [.ptr 2 0 0 0, .row 3 (v + 1)]), (3, .row (.int .u8) 5 (v + 1) (bs ++ bI s))], fp := [0, 1, 2, 3, 4] } := by
 refine cK _ _ Tryd.func35 rfl (by kernel_rfl) (Nat.le_of_ble_eq_true rfl) (by intro k hk; simp only [af, au, Nat.zero_add, D] at hk; simp only [List.mem_cons, List.not_mem_nil, or_false]; omega) (fun C hP hN hB => ?_)
 replace hB : C.bL.length = 5 := by rw [hB]; rfl
 replace hN : C.N = 19 := hN
 simp only [aL, D]
 refine Z fun _ k1 => ?_
 refine a9 hP hN rfl ?_
 iterate 2 (refine V rfl fun _ k0 => ?_; simp only [zO, zT, acs, reduceCtorEq, J, D, M, U, O, S]; (repeat refine an ?_); (try refine .inl ?_); apply k0; clear k0; simp only [zP, D])
 refine aa ?_
 apply k1; clear k1; refine kp [0, 1, 4, 5] ?_
 refine Z fun _ k2 => ?_
 refine a9 hP hN rfl ?_
 (refine V rfl fun _ k0 => ?_; simp only [zO, zT, acs, reduceCtorEq, J, D, M, U, O, S]; (repeat refine an ?_); (try refine .inl ?_); apply k0; clear k0; simp only [zP, D])
 refine V rfl fun _ k0 => ?_
 refine ar (h := m3 (k := 2) rfl hc) rfl rfl (by first | exact rfl | (simp only [ev, zP, J, D]; exact rfl)) (by simp only [zV, acs, reduceCtorEq, J, D, M, U, O, S]) ?_
 apply k0; clear k0; simp only [zP, D]
 refine aa ?_
 apply k2; clear k2; refine kp [0, 1, 4, 5] ?_
 refine Z fun _ k3 => ?_
 refine a9 hP hN rfl ?_
 iterate 6 (refine V rfl fun _ k0 => ?_; simp only [zO, zT, acs, reduceCtorEq, J, D, M, U, O, S]; (repeat refine an ?_); (try refine .inl ?_); apply k0; clear k0; simp only [zP, D])
 refine nI (fun C9 hC9 => .inl ⟨rfl, p7 hC9 rfl rfl rfl rfl rfl (by omega)⟩) ?_; simp only [zP, D]
 iterate 3 (refine V rfl fun _ k0 => ?_; simp only [zO, zT, acs, reduceCtorEq, J, D, M, U, O, S]; (repeat refine an ?_); (try refine .inl ?_); apply k0; clear k0; simp only [zP, D])
 refine aa ?_
 apply k3; clear k3; refine kp [0, 1, 4, 5] ?_
 refine Z fun _ k4 => ?_
 refine a9 hP hN rfl ?_
 iterate 4 (refine V rfl fun _ k0 => ?_; simp only [zO, zT, acs, reduceCtorEq, J, D, M, U, O, S]; (repeat refine an ?_); (try refine .inl ?_); apply k0; clear k0; simp only [zP, D])
 refine aa ?_
 apply k4; clear k4; refine kp [0, 1, 4, 5] ?_
 refine ak ?_
 refine ⟨by first | exact .inl rfl | exact .inr rfl, _, rfl, ?_⟩; simp only [zP, J, D]
 all_goals rfl
set_option maxHeartbeats 4000000 in
theorem kK (xs ys : List Bs) (l : List TRC) : aW Tryd.prog 14 [.agg [.list .str xs], .agg [.list .str ys], .one (.list (.pair (.list (.int .i64)) (.pair (.list (.int .i64)) .unit)) l)] (.tup [.one (.str (cQ xs ys l)), .one (.int .i64 (df xs ys l))]) := by
 refine aA Tryd.func14 rfl (by kernel_rfl) (Nat.le_of_ble_eq_true rfl) rfl fun C hP hN hB => ?_
 replace hN : C.N = 84 := hN
 simp only [aL, D]
 refine Z fun _ k1 => ?_
 refine a9 hP hN rfl ?_
 iterate 4 (refine V rfl fun _ k0 => ?_; simp only [zO, zT, acs, reduceCtorEq, J, D, M, U, O, S]; (repeat refine an ?_); (try refine .inl ?_); apply k0; clear k0; simp only [zP, D])
 refine aa ?_
 apply k1; clear k1; refine kp [0, 1, 2, 3, 4, 6, 7] ?_
 refine Z fun _ k2 => ?_
 refine Z fun _ k3 => ?_
 refine a9 hP hN rfl ?_
 iterate 2 (refine V rfl fun _ k0 => ?_; simp only [zO, zT, acs, reduceCtorEq, J, D, M, U, O, S]; (repeat refine an ?_); (try refine .inl ?_); apply k0; clear k0; simp only [zP, D])
 refine V rfl fun _ k0 => ?_
 refine ar (h := ah (lE xs ys)) rfl rfl (by first | exact rfl | (simp only [ev, zP, J, D]; exact rfl)) (by simp only [zV, acs, reduceCtorEq, J, D, M, U, O, S]) ?_
 apply k0; clear k0; simp only [zP, D]
 (refine V rfl fun _ k0 => ?_; simp only [zO, zT, acs, reduceCtorEq, J, D, M, U, O, S]; (repeat refine an ?_); (try refine .inl ?_); apply k0; clear k0; simp only [zP, D])
 refine aa ?_
 apply k3; clear k3; refine kp [0, 1, 2, 3, 4, 6, 7, 8] ?_
 refine Z fun _ k4 => ?_
 refine a9 hP hN rfl ?_
 iterate 2 (refine V rfl fun _ k0 => ?_; simp only [zO, zT, acs, reduceCtorEq, J, D, M, U, O, S]; (repeat refine an ?_); (try refine .inl ?_); apply k0; clear k0; simp only [zP, D])
 refine aa ?_
 apply k4; clear k4; refine kp [0, 1, 2, 3, 4, 6, 7, 8, 21] ?_
 refine cd (fun hc5 => ?_) (fun hc5 => ?_)
 ·(try simp only [zB, reduceCtorEq] at hc5)
  have hb0 := hc5
  refine Z fun _ k6 => ?_
  refine a9 hP hN rfl ?_
  iterate 3 (refine V rfl fun _ k0 => ?_; simp only [zO, zT, acs, reduceCtorEq, J, D, M, U, O, S]; (repeat refine an ?_); (try refine .inl ?_); apply k0; clear k0; simp only [zP, D])
  refine aa ?_
  apply k6; clear k6; refine kp [0, 1, 2, 3, 4, 6, 7, 8, 21] ?_
  refine ak ?_
  refine ⟨nr, _, rfl, ?_⟩; simp only [zF, zP, J, D]
  refine VLE.of_eq ?_
  first
  | (obtain ⟨e1, e2⟩ := l9 (l := l) hb0
     rw [e1, e2]; done)
  | (obtain ⟨e1, e2⟩ := ip (l := l) hb0 (by omega)
     rw [e1, e2]; done)
  | (obtain ⟨e1, e2⟩ := l6 (l := l) hb0 (by omega) (k := k) (by omega) hq (by rw [hlk]; exact hpe)
     rw [e1, e2, hlk]; done)
  | (obtain ⟨e1, e2⟩ := ko (l := l) hb0 (by omega) hall (by have h9 := fS xs ys l (k + 1); rw [hbz] at h9; omega)
     rw [e1, e2]; done)
  | (obtain ⟨e1, e2⟩ := kl (l := l) hb0 (by omega) hall (by rw [← hPa]; omega)
     rw [e1, e2, hPa]; done)
 (try simp only [zB, reduceCtorEq] at hc5)
 have hb0 := hc5
 obtain ⟨ax, ay⟩ := fJ hb0
 refine am ?_
 apply k2; clear k2; refine kp [0, 1, 2, 3, 4, 6, 7, 8, 21] ?_
 refine Z fun _ k7 => ?_
 refine Z fun _ k8 => ?_
 refine a9 hP hN rfl ?_
 iterate 3 (refine V rfl fun _ k0 => ?_; simp only [zO, zT, acs, reduceCtorEq, J, D, M, U, O, S]; (repeat refine an ?_); (try refine .inl ?_); apply k0; clear k0; simp only [zP, D])
 refine aa ?_
 apply k8; clear k8; refine kp [0, 1, 2, 3, 4, 6, 7, 8, 21, 25] ?_
 refine cd (fun hc9 => ?_) (fun hc9 => ?_)
 ·(try simp only [zB, reduceCtorEq] at hc9)
  have hlm := hc9
  refine Z fun _ k10 => ?_
  refine a9 hP hN rfl ?_
  iterate 2 (refine V rfl fun _ k0 => ?_; simp only [zO, zT, acs, reduceCtorEq, J, D, M, U, O, S]; (repeat refine an ?_); (try refine .inl ?_); apply k0; clear k0; simp only [zP, D])
  refine aa ?_
  apply k10; clear k10; refine kp [0, 1, 2, 3, 4, 6, 7, 8, 21, 25] ?_
  refine ak ?_
  refine ⟨nr, _, rfl, ?_⟩; simp only [zF, zP, J, D]
  refine VLE.of_eq ?_
  first
  | (obtain ⟨e1, e2⟩ := l9 (l := l) hb0
     rw [e1, e2]; done)
  | (obtain ⟨e1, e2⟩ := ip (l := l) hb0 (by omega)
     rw [e1, e2]; done)
  | (obtain ⟨e1, e2⟩ := l6 (l := l) hb0 (by omega) (k := k) (by omega) hq (by rw [hlk]; exact hpe)
     rw [e1, e2, hlk]; done)
  | (obtain ⟨e1, e2⟩ := ko (l := l) hb0 (by omega) hall (by have h9 := fS xs ys l (k + 1); rw [hbz] at h9; omega)
     rw [e1, e2]; done)
  | (obtain ⟨e1, e2⟩ := kl (l := l) hb0 (by omega) hall (by rw [← hPa]; omega)
     rw [e1, e2, hPa]; done)
 (try simp only [zB, reduceCtorEq] at hc9)
 have hlm := hc9
 refine am ?_
 apply k7; clear k7; refine kp [0, 1, 2, 3, 4, 6, 7, 8, 21, 25] ?_
 refine Z fun _ k11 => ?_
 refine Z fun _ k12 => ?_
 refine a9 hP hN rfl ?_
 iterate 3 (refine V rfl fun _ k0 => ?_; simp only [zO, zT, acs, reduceCtorEq, J, D, M, U, O, S]; (repeat refine an ?_); (try refine .inl ?_); apply k0; clear k0; simp only [zP, D])
 refine aa ?_
 apply k12; clear k12; refine kp [0, 1, 2, 3, 4, 6, 7, 8, 21, 25, 26, 27, 28] ?_
 refine az ?_
 refine aX (fun n13 s13 => ∃ (k : Nat), (k ≤ l.length) ∧ (∀ q : Nat, q < k → bE xs.length ys.length (l.getD q aP) = 0) ∧ n13 = l.length - k ∧ s13 = { env := [(2, .one (.list (.pair (.list (.int .i64)) (.pair (.list (.int .i64)) .unit)) l)), (3, .one (.ptr 0 0 0 0)), (4, .one (.ptr 1 0 0 0)), (6, .one (.str [])), (7, .one (.int .i64 0)), (26, .one (.list (.pair (.list (.int .i64)) (.pair (.list (.int .i64)) .unit)) l)), (27, .one (.int .i64 (l.length : Int))), (28, .one (.int .i64 (k : Int)))], L := [.vars 24 [.list .str xs], .vars 24 [.list .str ys]] }) ?_ ?_
 ·exact ⟨_, _, aw [2, 3, 4, 6, 7, 26, 27, 28], 0, Nat.zero_le _, fun q hq => by omega, rfl, rfl⟩
 rintro n13 s13 ⟨k, hk, hq, rfl, rfl⟩
 refine Z fun _ k14 => ?_
 refine a9 hP hN rfl ?_
 (refine V rfl fun _ k0 => ?_; simp only [zO, zT, acs, reduceCtorEq, J, D, M, U, O, S]; (repeat refine an ?_); (try refine .inl ?_); apply k0; clear k0; simp only [zP, D])
 refine aa ?_
 apply k14; clear k14; refine kp [2, 3, 4, 6, 7, 26, 27, 28, 29] ?_
 refine Z fun _ k15 => ?_
 refine cd (fun hc16 => ?_) (fun hc16 => ?_)
 ·(try simp only [zB, reduceCtorEq] at hc16)
  refine am ?_
  apply k15; clear k15; refine kp [2, 3, 4, 6, 7, 26, 27, 28, 29] ?_
  refine Z fun _ k17 => ?_
  refine az ?_
  refine Z fun _ k18 => ?_
  obtain ⟨x1, x2, hgx⟩ : ∃ x1 x2, ∀ d, l.getD k d = (x1, (x2, ())) := ⟨_, _, cq (by omega)⟩
  have hlk : l.getD k aP = (x1, (x2, ())) := hgx _
  refine a9 hP hN rfl ?_
  iterate 4 (refine V rfl fun _ k0 => ?_; simp only [zO, zT, acs, reduceCtorEq, J, D, M, U, O, S, gt, ae, hgx]; (repeat refine an ?_); (try refine .inl ?_); apply k0; clear k0; simp only [zP, D])
  refine aa ?_
  apply k18; clear k18; refine kp [2, 3, 4, 6, 7, 10, 26, 27, 28, 29] ?_
  refine Z fun _ k19 => ?_
  refine a9 hP hN rfl ?_
  iterate 7 (refine V rfl fun _ k0 => ?_; simp only [zO, zT, acs, reduceCtorEq, J, D, M, U, O, S]; (repeat refine an ?_); (try refine .inl ?_); apply k0; clear k0; simp only [zP, D])
  refine V rfl fun _ k0 => ?_
  refine ar (h := ah (oF (x1, (x2, ())) xs.length ys.length)) rfl rfl (by first | exact rfl | (simp only [ev, zP, J, D]; exact rfl)) (by simp only [zV, acs, reduceCtorEq, J, D, M, U, O, S]) ?_
  apply k0; clear k0; simp only [zP, D]
  (refine V rfl fun _ k0 => ?_; simp only [zO, zT, acs, reduceCtorEq, J, D, M, U, O, S]; (repeat refine an ?_); (try refine .inl ?_); apply k0; clear k0; simp only [zP, D])
  refine aa ?_
  apply k19; clear k19; refine kp [2, 3, 4, 6, 7, 10, 11, 26, 27, 28, 29] ?_
  refine Z fun _ k20 => ?_
  refine a9 hP hN rfl ?_
  iterate 2 (refine V rfl fun _ k0 => ?_; simp only [zO, zT, acs, reduceCtorEq, J, D, M, U, O, S]; (repeat refine an ?_); (try refine .inl ?_); apply k0; clear k0; simp only [zP, D])
  refine aa ?_
  apply k20; clear k20; refine kp [2, 3, 4, 6, 7, 10, 11, 26, 27, 28, 29, 41] ?_
  refine cd (fun hc21 => ?_) (fun hc21 => ?_)
  ·(try simp only [zB, reduceCtorEq] at hc21)
   have hpe := hc21
   refine Z fun _ k22 => ?_
   refine a9 hP hN rfl ?_
   iterate 3 (refine V rfl fun _ k0 => ?_; simp only [zO, zT, acs, reduceCtorEq, J, D, M, U, O, S]; (repeat refine an ?_); (try refine .inl ?_); apply k0; clear k0; simp only [zP, D])
   refine aa ?_
   apply k22; clear k22; refine kp [2, 3, 4, 6, 7, 10, 11, 26, 27, 28, 29, 41] ?_
   refine ak ?_
   refine ⟨nr, _, rfl, ?_⟩; simp only [zF, zP, J, D]
   refine VLE.of_eq ?_
   first
   | (obtain ⟨e1, e2⟩ := l9 (l := l) hb0
      rw [e1, e2]; done)
   | (obtain ⟨e1, e2⟩ := ip (l := l) hb0 (by omega)
      rw [e1, e2]; done)
   | (obtain ⟨e1, e2⟩ := l6 (l := l) hb0 (by omega) (k := k) (by omega) hq (by rw [hlk]; exact hpe)
      rw [e1, e2, hlk]; done)
   | (obtain ⟨e1, e2⟩ := ko (l := l) hb0 (by omega) hall (by have h9 := fS xs ys l (k + 1); rw [hbz] at h9; omega)
      rw [e1, e2]; done)
   | (obtain ⟨e1, e2⟩ := kl (l := l) hb0 (by omega) hall (by rw [← hPa]; omega)
      rw [e1, e2, hPa]; done)
  (try simp only [zB, reduceCtorEq] at hc21)
  have hpz := hc21
  refine am ?_
  apply k17; clear k17; refine kp [2, 3, 4, 6, 7, 10, 11, 26, 27, 28, 29, 41] ?_
  refine kp [2, 3, 4, 6, 7, 26, 27, 28] ?_
  refine aq (L1 := [_, _]) rfl (by rw [hB]; exact Nat.zero_le _) rfl rfl ?_
  refine a9 hP hN rfl ?_
  iterate 2 (refine V rfl fun _ k0 => ?_; simp only [zO, zT, acs, reduceCtorEq, J, D, M, U, O, S]; (repeat refine an ?_); (try refine .inl ?_); apply k0; clear k0; simp only [zP, D])
  refine aa ?_
  refine ⟨_, _, ?_, aw [2, 3, 4, 6, 7, 26, 27, 28], k + 1, by omega, fun q hq2 => ?_, rfl, rfl⟩
  · omega
  · by_cases e : q = k
    · rw [e, hlk]; exact hpz
    · exact hq q (by omega)
 (try simp only [zB, reduceCtorEq] at hc16)
 refine aV ?_
 apply k11; clear k11; refine kp [2, 3, 4, 6, 7, 26, 27, 28, 29] ?_
 refine Z fun _ k23 => ?_
 have hall : ∀ q : Nat, q < l.length → bE xs.length ys.length (l.getD q aP) = 0 := fun q hq2 => hq q (by omega)
 clear hq
 refine a9 hP hN rfl ?_
 (refine V rfl fun _ k0 => ?_; simp only [zO, zT, acs, reduceCtorEq, J, D, M, U, O, S]; (repeat refine an ?_); (try refine .inl ?_); apply k0; clear k0; simp only [zP, D])
 refine aa ?_
 apply k23; clear k23; refine kp [2, 3, 4, 6, 7, 12, 26, 27, 28, 29] ?_
 refine Z fun _ k24 => ?_
 refine Z fun _ k25 => ?_
 refine a9 hP hN rfl ?_
 iterate 3 (refine V rfl fun _ k0 => ?_; simp only [zO, zT, acs, reduceCtorEq, J, D, M, U, O, S]; (repeat refine an ?_); (try refine .inl ?_); apply k0; clear k0; simp only [zP, D])
 refine aa ?_
 apply k25; clear k25; refine kp [2, 3, 4, 6, 7, 12, 26, 27, 28, 29, 44, 45, 46] ?_
 refine az ?_
 refine eI 2 1 (.int .u8) 5 (by decide) rfl rfl ?_; simp only [zS, af, au, b0, aD, Nat.zero_add, D]
 refine aX (fun n26 s26 => ∃ (k v : Nat) (c : AC), (k ≤ l.length) ∧ (c = .nilp ∨ c = .ptr 2 0 0 0) ∧ ((d5 xs ys l k).length ≤ 1048576) ∧ n26 = l.length - k ∧ s26 = { env := [(3, .one (.ptr 0 0 0 0)), (4, .one (.ptr 1 0 0 0)), (6, .one (.str [])), (7, .one (.int .i64 0)), (12, .one (.ptr 2 0 0 0)), (44, .one (.list (.pair (.list (.int .i64)) (.pair (.list (.int .i64)) .unit)) l)), (45, .one (.int .i64 (l.length : Int))), (46, .one (.int .i64 (k : Int)))], L := [.vars 24 [.list .str xs], .vars 24 [.list .str ys], .vars 78 [c, .row 3 v], .row (.int .u8) 5 v (bI (d5 xs ys l k))] }) ?_ ?_
 ·refine ⟨_, _, aw [3, 4, 6, 7, 12, 44, 45, 46], 0, 0, .nilp, Nat.zero_le _, .inl rfl, by show (d5 xs ys l 0).length ≤ 1048576; simp [d5, ca], rfl, ?_⟩
  simp only [d5, List.take_zero, bf]; rfl
 rintro n26 s26 ⟨k, v, c, hk, hc9, hsz, rfl, rfl⟩
 refine Z fun _ k27 => ?_
 refine a9 hP hN rfl ?_
 (refine V rfl fun _ k0 => ?_; simp only [zO, zT, acs, reduceCtorEq, J, D, M, U, O, S]; (repeat refine an ?_); (try refine .inl ?_); apply k0; clear k0; simp only [zP, D])
 refine aa ?_
 apply k27; clear k27; refine kp [3, 4, 6, 7, 12, 44, 45, 46, 47] ?_
 refine Z fun _ k28 => ?_
 refine cd (fun hc29 => ?_) (fun hc29 => ?_)
 ·(try simp only [zB, reduceCtorEq] at hc29)
  refine am ?_
  apply k28; clear k28; refine kp [3, 4, 6, 7, 12, 44, 45, 46, 47] ?_
  refine Z fun _ k30 => ?_
  refine az ?_
  refine Z fun _ k31 => ?_
  obtain ⟨x1, x2, hgx⟩ : ∃ x1 x2, ∀ d, l.getD k d = (x1, (x2, ())) := ⟨_, _, cq (by omega)⟩
  have hlk : l.getD k aP = (x1, (x2, ())) := hgx _
  have hq := hall
  have hpk := hq k (by omega)
  rw [hlk] at hpk
  obtain ⟨g1, g2, g3, g4⟩ := gh hpk
  have g3b : x2.length = x1.length := g3
  have g5 := (ex g2).sym; have g6 := (ex g2).len
  have g6b : x1.length ≤ 1024 := g6
  have hPl := lM ax ay (l := l) (k := k) (by omega) fun q hq2 => hall q (by omega)
  refine a9 hP hN rfl ?_
  iterate 4 (refine V rfl fun _ k0 => ?_; simp only [zO, zT, acs, reduceCtorEq, J, D, M, U, O, S, gt, ae, hgx]; (repeat refine an ?_); (try refine .inl ?_); apply k0; clear k0; simp only [zP, D])
  refine aa ?_
  apply k31; clear k31; refine kp [3, 4, 6, 7, 12, 14, 44, 45, 46, 47] ?_
  refine Z fun _ k32 => ?_
  refine Z fun _ k33 => ?_
  refine a9 hP hN rfl ?_
  iterate 4 (refine V rfl fun _ k0 => ?_; simp only [zO, zT, acs, reduceCtorEq, J, D, M, U, O, S]; (repeat refine an ?_); (try refine .inl ?_); apply k0; clear k0; simp only [zP, D])
  refine aa ?_
  apply k33; clear k33; refine kp [3, 4, 6, 7, 12, 14, 44, 45, 46, 47, 51, 52, 53] ?_
  refine az ?_
  refine aX (fun n34 s34 => ∃ (j v2 : Nat) (c2 : AC), (j ≤ x1.length) ∧ (c2 = .nilp ∨ c2 = .ptr 2 0 0 0) ∧ n34 = x1.length - j ∧ s34 = { env := [(3, .one (.ptr 0 0 0 0)), (4, .one (.ptr 1 0 0 0)), (6, .one (.str [])), (7, .one (.int .i64 0)), (12, .one (.ptr 2 0 0 0)), (14, .one (.ptr 4 0 0 0)), (44, .one (.list (.pair (.list (.int .i64)) (.pair (.list (.int .i64)) .unit)) l)), (45, .one (.int .i64 (l.length : Int))), (46, .one (.int .i64 (k : Int))), (47, .one (.bool (decide ((k : Int) < l.length)))), (51, .one (.list (.int .i64) x1)), (52, .one (.int .i64 (x1.length : Int))), (53, .one (.int .i64 (j : Int)))], L := [.vars 24 [.list .str xs], .vars 24 [.list .str ys], .vars 78 [c2, .row 3 v2], .row (.int .u8) 5 v2 (bI ((d5 xs ys l k) ++ stP xs ys (x1, (x2, ())) j)), .vars 60 [.list (.int .i64) (x1, (x2, ())).1, .list (.int .i64) (x1, (x2, ())).2.1]] }) ?_ ?_
  ·refine ⟨_, _, aw [3, 4, 6, 7, 12, 14, 44, 45, 46, 47, 51, 52, 53], 0, v, c, Nat.zero_le _, hc9, rfl, ?_⟩
   simp only [stP, List.append_nil]; rfl
  rintro n34 s34 ⟨j, v2, c2, hj, hc9, rfl, rfl⟩
  refine Z fun _ k35 => ?_
  refine a9 hP hN rfl ?_
  (refine V rfl fun _ k0 => ?_; simp only [zO, zT, acs, reduceCtorEq, J, D, M, U, O, S]; (repeat refine an ?_); (try refine .inl ?_); apply k0; clear k0; simp only [zP, D])
  refine aa ?_
  apply k35; clear k35; refine kp [3, 4, 6, 7, 12, 14, 44, 45, 46, 47, 51, 52, 53, 54] ?_
  refine Z fun _ k36 => ?_
  refine cd (fun hc37 => ?_) (fun hc37 => ?_)
  ·(try simp only [zB, reduceCtorEq] at hc37)
   refine am ?_
   apply k36; clear k36; refine kp [3, 4, 6, 7, 12, 14, 44, 45, 46, 47, 51, 52, 53, 54] ?_
   refine Z fun _ k38 => ?_
   refine az ?_
   refine Z fun _ k39 => ?_
   have hsl := i5 ax ay hpk (j := j) (show j ≤ x1.length by omega)
   obtain ⟨r1, r2⟩ := g5 j (show j < x1.length by omega)
   obtain ⟨r3, r4⟩ := g4 j (show j < x2.length by omega)
   have r1 : 0 ≤ x1.getD j 0 := r1; have r2 : x1.getD j 0 < xs.length := r2; have r3 : 0 ≤ x2.getD j 0 := r3; have r4 : x2.getD j 0 < ys.length := r4
   have n1 := (cA (ax.nm (x1.getD j 0).toNat (by omega))).2.2; have n2 := (cA (ay.nm (x2.getD j 0).toNat (by omega))).2.2
   refine a9 hP hN rfl ?_
   iterate 5 (refine V rfl fun _ k0 => ?_; simp only [zO, zT, acs, reduceCtorEq, J, D, M, U, O, S, gt, ae]; (repeat refine an ?_); (try refine .inl ?_); apply k0; clear k0; simp only [zP, D])
   refine aa ?_
   apply k39; clear k39; refine kp [3, 4, 6, 7, 12, 14, 15, 16, 44, 45, 46, 47, 51, 52, 53, 54] ?_
   refine Z fun _ k40 => ?_
   refine Z fun _ k41 => ?_
   refine a9 hP hN rfl ?_
   iterate 2 (refine V rfl fun _ k0 => ?_; simp only [zO, zT, acs, reduceCtorEq, J, D, M, U, O, S]; (repeat refine an ?_); (try refine .inl ?_); apply k0; clear k0; simp only [zP, D])
   refine aa ?_
   apply k41; clear k41; refine kp [3, 4, 6, 7, 12, 14, 15, 16, 44, 45, 46, 47, 51, 52, 53, 54, 59] ?_
   refine cd (fun hc42 => ?_) (fun hc42 => ?_)
   ·(try simp only [zB, reduceCtorEq] at hc42)
    have hj0 : 0 < j := by omega
    refine a9 hP hN rfl ?_
    refine V rfl fun _ k0 => ?_
    refine ar (h := iG xs ys _ (by first | exact hc9 | exact .inr rfl) _ _ (x1, (x2, ())) 32 (by simp only [ag, d9, af, au]; omega)) rfl rfl (by first | exact rfl | (simp only [ev, zP, J, D]; exact rfl)) (by simp only [zV, acs, reduceCtorEq, J, D, M, U, O, S]) ?_
    apply k0; clear k0; simp only [zP, D]
    refine aa ?_
    apply k40; clear k40; refine kp [3, 4, 6, 7, 12, 14, 15, 16, 44, 45, 46, 47, 51, 52, 53, 54, 59] ?_
    refine Z fun _ k43 => ?_
    refine a9 hP hN rfl ?_
    iterate 5 (refine V rfl fun _ k0 => ?_; simp only [zO, zT, acs, reduceCtorEq, J, D, M, U, O, S, gt]; (repeat refine an ?_); (try refine .inl ?_); apply k0; clear k0; simp only [zP, D])
    refine V rfl fun _ k0 => ?_
    refine ar (h := jQ xs ys _ (by first | exact hc9 | exact .inr rfl) _ _ (x1, (x2, ())) (xs.getD (x1.getD j 0).toNat []) (by simp only [ag, d9, af, au]; omega) (by omega)) rfl rfl (by first | exact rfl | (simp only [ev, zP, J, D]; exact rfl)) (by simp only [zV, acs, reduceCtorEq, J, D, M, U, O, S, gt]) ?_
    apply k0; clear k0; simp only [zP, D]
    refine aa ?_
    apply k43; clear k43; refine kp [3, 4, 6, 7, 12, 14, 15, 16, 44, 45, 46, 47, 51, 52, 53, 54, 59] ?_
    refine Z fun _ k44 => ?_
    refine a9 hP hN rfl ?_
    refine V rfl fun _ k0 => ?_
    refine ar (h := iG xs ys _ (by first | exact hc9 | exact .inr rfl) _ _ (x1, (x2, ())) 47 (by simp only [ag, d9, af, au]; omega)) rfl rfl (by first | exact rfl | (simp only [ev, zP, J, D]; exact rfl)) (by simp only [zV, acs, reduceCtorEq, J, D, M, U, O, S]) ?_
    apply k0; clear k0; simp only [zP, D]
    refine aa ?_
    apply k44; clear k44; refine kp [3, 4, 6, 7, 12, 14, 15, 16, 44, 45, 46, 47, 51, 52, 53, 54, 59] ?_
    refine bV hP hN Tryd.mixed rfl ?_
    iterate 9 (refine V rfl fun _ k0 => ?_; simp only [zO, zT, acs, reduceCtorEq, J, D, M, U, O, S, gt, ae]; (repeat refine an ?_); (try refine .inl ?_); apply k0; clear k0; simp only [zP, D])
    refine V rfl fun _ k0 => ?_
    refine ar (h := jQ xs ys _ (by first | exact hc9 | exact .inr rfl) _ _ (x1, (x2, ())) (ys.getD (x2.getD j 0).toNat []) (by simp only [ag, d9, af, au]; omega) (by omega)) rfl rfl (by first | exact rfl | (simp only [ev, zP, J, D]; exact rfl)) (by simp only [zV, acs, reduceCtorEq, J, D, M, U, O, S, gt, ae]) ?_
    apply k0; clear k0; simp only [zP, D]
    refine aa ?_
    refine ⟨by kernel_rfl, ?_⟩
    apply k38; clear k38; refine kp [3, 4, 6, 7, 12, 14, 15, 16, 44, 45, 46, 47, 51, 52, 53, 54, 59] ?_
    refine a9 hP hN rfl ?_
    iterate 2 (refine V rfl fun _ k0 => ?_; simp only [zO, zT, acs, reduceCtorEq, J, D, M, U, O, S]; (repeat refine an ?_); (try refine .inl ?_); apply k0; clear k0; simp only [zP, D])
    refine aa ?_
    first
    | (refine ⟨_, _, ?_, aw [3, 4, 6, 7, 12, 14, 44, 45, 46, 47, 51, 52, 53], j + 1, v2 + 1 + 1 + 1 + 1, .ptr 2 0 0 0, by omega, .inr rfl, rfl, ?_⟩
       · omega
       · rw [rq hj0]; rfl)
    | (refine ⟨_, _, ?_, aw [3, 4, 6, 7, 12, 14, 44, 45, 46, 47, 51, 52, 53], j + 1, v2 + 1 + 1 + 1, .ptr 2 0 0 0, by omega, .inr rfl, rfl, ?_⟩
       · omega
       · rw [rT hj0]; rfl)
   (try simp only [zB, reduceCtorEq] at hc42)
   have hj0 : ¬ 0 < j := by omega
   refine am ?_
   apply k40; clear k40; refine kp [3, 4, 6, 7, 12, 14, 15, 16, 44, 45, 46, 47, 51, 52, 53, 54, 59] ?_
   refine Z fun _ k45 => ?_
   refine a9 hP hN rfl ?_
   iterate 5 (refine V rfl fun _ k0 => ?_; simp only [zO, zT, acs, reduceCtorEq, J, D, M, U, O, S, gt]; (repeat refine an ?_); (try refine .inl ?_); apply k0; clear k0; simp only [zP, D])
   refine V rfl fun _ k0 => ?_
   refine ar (h := jQ xs ys _ (by first | exact hc9 | exact .inr rfl) _ _ (x1, (x2, ())) (xs.getD (x1.getD j 0).toNat []) (by simp only [ag, d9, af, au]; omega) (by omega)) rfl rfl (by first | exact rfl | (simp only [ev, zP, J, D]; exact rfl)) (by simp only [zV, acs, reduceCtorEq, J, D, M, U, O, S, gt]) ?_
   apply k0; clear k0; simp only [zP, D]
   refine aa ?_
   apply k45; clear k45; refine kp [3, 4, 6, 7, 12, 14, 15, 16, 44, 45, 46, 47, 51, 52, 53, 54, 59] ?_
   refine Z fun _ k46 => ?_
   refine a9 hP hN rfl ?_
   refine V rfl fun _ k0 => ?_
   refine ar (h := iG xs ys _ (by first | exact hc9 | exact .inr rfl) _ _ (x1, (x2, ())) 47 (by simp only [ag, d9, af, au]; omega)) rfl rfl (by first | exact rfl | (simp only [ev, zP, J, D]; exact rfl)) (by simp only [zV, acs, reduceCtorEq, J, D, M, U, O, S]) ?_
   apply k0; clear k0; simp only [zP, D]
   refine aa ?_
   apply k46; clear k46; refine kp [3, 4, 6, 7, 12, 14, 15, 16, 44, 45, 46, 47, 51, 52, 53, 54, 59] ?_
   refine bV hP hN Tryd.mixed rfl ?_
   iterate 9 (refine V rfl fun _ k0 => ?_; simp only [zO, zT, acs, reduceCtorEq, J, D, M, U, O, S, gt, ae]; (repeat refine an ?_); (try refine .inl ?_); apply k0; clear k0; simp only [zP, D])
   refine V rfl fun _ k0 => ?_
   refine ar (h := jQ xs ys _ (by first | exact hc9 | exact .inr rfl) _ _ (x1, (x2, ())) (ys.getD (x2.getD j 0).toNat []) (by simp only [ag, d9, af, au]; omega) (by omega)) rfl rfl (by first | exact rfl | (simp only [ev, zP, J, D]; exact rfl)) (by simp only [zV, acs, reduceCtorEq, J, D, M, U, O, S, gt, ae]) ?_
   apply k0; clear k0; simp only [zP, D]
   refine aa ?_
   refine ⟨by kernel_rfl, ?_⟩
   apply k38; clear k38; refine kp [3, 4, 6, 7, 12, 14, 15, 16, 44, 45, 46, 47, 51, 52, 53, 54, 59] ?_
   refine a9 hP hN rfl ?_
   iterate 2 (refine V rfl fun _ k0 => ?_; simp only [zO, zT, acs, reduceCtorEq, J, D, M, U, O, S]; (repeat refine an ?_); (try refine .inl ?_); apply k0; clear k0; simp only [zP, D])
   refine aa ?_
   first
   | (refine ⟨_, _, ?_, aw [3, 4, 6, 7, 12, 14, 44, 45, 46, 47, 51, 52, 53], j + 1, v2 + 1 + 1 + 1 + 1, .ptr 2 0 0 0, by omega, .inr rfl, rfl, ?_⟩
      · omega
      · rw [rq hj0]; rfl)
   | (refine ⟨_, _, ?_, aw [3, 4, 6, 7, 12, 14, 44, 45, 46, 47, 51, 52, 53], j + 1, v2 + 1 + 1 + 1, .ptr 2 0 0 0, by omega, .inr rfl, rfl, ?_⟩
      · omega
      · rw [rT hj0]; rfl)
  (try simp only [zB, reduceCtorEq] at hc37)
  refine aV ?_
  apply k32; clear k32; refine kp [3, 4, 6, 7, 12, 14, 44, 45, 46, 47, 51, 52, 53, 54] ?_
  refine Z fun _ k47 => ?_
  have hj9 : j = x1.length := by omega
  have hsl := i5 ax ay hpk (j := j) (show j ≤ x1.length by omega)
  have hbl : bI (d5 xs ys l (k + 1)) = (bI ((d5 xs ys l k) ++ stP xs ys (x1, (x2, ())) j)) ++ [10] := by rw [uf (by omega), hlk, hj9]
  have hbz : (d5 xs ys l (k + 1)).length = ((bI ((d5 xs ys l k) ++ stP xs ys (x1, (x2, ())) j)) ++ [10]).length := by rw [← hbl, d9]
  refine a9 hP hN rfl ?_
  refine V rfl fun _ k0 => ?_
  refine ar (h := iG xs ys _ (by first | exact hc9 | exact .inr rfl) _ _ (x1, (x2, ())) 10 (by simp only [ag, d9, af, au]; omega)) rfl rfl (by first | exact rfl | (simp only [ev, zP, J, D]; exact rfl)) (by simp only [zV, acs, reduceCtorEq, J, D, M, U, O, S]) ?_
  apply k0; clear k0; simp only [zP, D]
  refine aa ?_
  apply k47; clear k47; refine kp [3, 4, 6, 7, 12, 14, 44, 45, 46, 47, 51, 52, 53, 54] ?_
  refine Z fun _ k48 => ?_
  refine a9 hP hN rfl ?_
  refine V rfl fun _ k0 => ?_
  refine ar (h := tl xs ys _ _ _ (x1, (x2, ())) (by simp only [ag, d9, af, au]; omega)) rfl rfl (by first | exact rfl | (simp only [ev, zP, J, D]; exact rfl)) (by simp only [zV, acs, reduceCtorEq, J, D, M, U, O, S]) ?_
  apply k0; clear k0; simp only [zP, D]
  (refine V rfl fun _ k0 => ?_; simp only [zO, zT, acs, reduceCtorEq, J, D, M, U, O, S]; (repeat refine an ?_); (try refine .inl ?_); apply k0; clear k0; simp only [zP, D])
  refine aa ?_
  apply k48; clear k48; refine kp [3, 4, 6, 7, 12, 14, 44, 45, 46, 47, 51, 52, 53, 54, 81] ?_
  refine cd (fun hc49 => ?_) (fun hc49 => ?_)
  ·(try simp only [zB, reduceCtorEq] at hc49)
   have hbig := hc49
   refine Z fun _ k50 => ?_
   refine a9 hP hN rfl ?_
   iterate 2 (refine V rfl fun _ k0 => ?_; simp only [zO, zT, acs, reduceCtorEq, J, D, M, U, O, S]; (repeat refine an ?_); (try refine .inl ?_); apply k0; clear k0; simp only [zP, D])
   refine aa ?_
   apply k50; clear k50; refine kp [3, 4, 6, 7, 12, 14, 44, 45, 46, 47, 51, 52, 53, 54, 81] ?_
   refine ak ?_
   refine ⟨nr, _, rfl, ?_⟩; simp only [zF, zP, J, D]
   refine VLE.of_eq ?_
   first
   | (obtain ⟨e1, e2⟩ := l9 (l := l) hb0
      rw [e1, e2]; done)
   | (obtain ⟨e1, e2⟩ := ip (l := l) hb0 (by omega)
      rw [e1, e2]; done)
   | (obtain ⟨e1, e2⟩ := l6 (l := l) hb0 (by omega) (k := k) (by omega) hq (by rw [hlk]; exact hpe)
      rw [e1, e2, hlk]; done)
   | (obtain ⟨e1, e2⟩ := ko (l := l) hb0 (by omega) hall (by have h9 := fS xs ys l (k + 1); rw [hbz] at h9; omega)
      rw [e1, e2]; done)
   | (obtain ⟨e1, e2⟩ := kl (l := l) hb0 (by omega) hall (by rw [← hPa]; omega)
      rw [e1, e2, hPa]; done)
  (try simp only [zB, reduceCtorEq] at hc49)
  have hsm := hc49
  refine am ?_
  apply k30; clear k30; refine kp [3, 4, 6, 7, 12, 14, 44, 45, 46, 47, 51, 52, 53, 54, 81] ?_
  refine kp [3, 4, 6, 7, 12, 44, 45, 46] ?_
  refine aq (L1 := [_, _, _, _]) rfl (by rw [hB]; exact Nat.zero_le _) rfl rfl ?_
  refine a9 hP hN rfl ?_
  iterate 2 (refine V rfl fun _ k0 => ?_; simp only [zO, zT, acs, reduceCtorEq, J, D, M, U, O, S]; (repeat refine an ?_); (try refine .inl ?_); apply k0; clear k0; simp only [zP, D])
  refine aa ?_
  refine ⟨_, _, ?_, aw [3, 4, 6, 7, 12, 44, 45, 46], k + 1, v2 + 1, .ptr 2 0 0 0, by omega, .inr rfl, by rw [hbz]; omega, rfl, ?_⟩
  · omega
  · rw [hbl]; rfl
 (try simp only [zB, reduceCtorEq] at hc29)
 refine aV ?_
 apply k24; clear k24; refine kp [3, 4, 6, 7, 12, 44, 45, 46, 47] ?_
 refine Z fun _ k51 => ?_
 have hkl : k = l.length := by omega
 have hPa : (d5 xs ys l k) = cM xs ys l := by rw [hkl]; exact qo _ _ _
 refine a9 hP hN rfl ?_
 refine V rfl fun _ k0 => ?_
 refine ar (h := tG (k := 2) (j := 3) (l := (d5 xs ys l k)) rfl rfl) rfl rfl (by first | exact rfl | (simp only [ev, zP, J, D]; exact rfl)) (by simp only [zV, acs, reduceCtorEq, J, D, M, U, O, S]) ?_
 apply k0; clear k0; simp only [zP, D]
 iterate 2 (refine V rfl fun _ k0 => ?_; simp only [zO, zT, acs, reduceCtorEq, J, D, M, U, O, S]; (repeat refine an ?_); (try refine .inl ?_); apply k0; clear k0; simp only [zP, D])
 refine aa ?_
 apply k51; clear k51; refine kp [3, 4, 6, 7, 12, 44, 45, 46, 47] ?_
 refine ak ?_
 refine ⟨nr, _, rfl, ?_⟩; simp only [zF, zP, J, D]
 refine VLE.of_eq ?_
 first
 | (obtain ⟨e1, e2⟩ := l9 (l := l) hb0
    rw [e1, e2]; done)
 | (obtain ⟨e1, e2⟩ := ip (l := l) hb0 (by omega)
    rw [e1, e2]; done)
 | (obtain ⟨e1, e2⟩ := l6 (l := l) hb0 (by omega) (k := k) (by omega) hq (by rw [hlk]; exact hpe)
    rw [e1, e2, hlk]; done)
 | (obtain ⟨e1, e2⟩ := ko (l := l) hb0 (by omega) hall (by have h9 := fS xs ys l (k + 1); rw [hbz] at h9; omega)
    rw [e1, e2]; done)
 | (obtain ⟨e1, e2⟩ := kl (l := l) hb0 (by omega) hall (by rw [← hPa]; omega)
    rw [e1, e2, hPa]; done)
theorem oE  : aW Tryd.prog 24 [] (.tup [.agg [.list .str [[99, 111, 105, 110], [112, 117, 115, 104]]], .agg [.list .str [[110, 111], [111, 107], [116, 117, 114, 110]]]]) := by
 refine aA Tryd.func24 rfl (by kernel_rfl) (Nat.le_of_ble_eq_true rfl) rfl fun C hP hN hB => ?_
 replace hN : C.N = 6 := hN
 simp only [aL, D]
 refine Z fun _ k1 => ?_
 refine a9 hP hN rfl ?_
 iterate 2 (refine V rfl fun _ k0 => ?_; simp only [zO, zT, acs, reduceCtorEq, J, D, M, U, O, S]; (repeat refine an ?_); (try refine .inl ?_); apply k0; clear k0; simp only [zP, D])
 refine aa ?_
 apply k1; clear k1; refine kp [0, 1] ?_
 refine Z fun _ k2 => ?_
 refine a9 hP hN rfl ?_
 iterate 6 (refine V rfl fun _ k0 => ?_; simp only [zO, zT, acs, reduceCtorEq, J, D, M, U, O, S]; (repeat refine an ?_); (try refine .inl ?_); apply k0; clear k0; simp only [zP, D])
 refine aa ?_
 apply k2; clear k2; refine kp [0, 1] ?_
 refine ak ?_
 refine ⟨nr, _, rfl, ?_⟩; simp only [zF, zP, J, D]
 refine VLE.of_eq ?_
 rfl
theorem iV (xs ys : List TRC) : aW Tryd.prog 12 [.one (.list (.pair (.list (.int .i64)) (.pair (.list (.int .i64)) .unit)) xs), .one (.list (.pair (.list (.int .i64)) (.pair (.list (.int .i64)) .unit)) ys)] (.one (.bool (decide (xs = ys)))) := by
 refine aA Tryd.func12 rfl (by kernel_rfl) (Nat.le_of_ble_eq_true rfl) rfl fun C hP hN hB => ?_
 replace hN : C.N = 43 := hN
 simp only [aL, D]
 refine cO 0 rfl fun hf0 => ?_; simp only [lkp, if_true, if_false, reduceCtorEq, J, eq_self, Nat.one_ne_zero, Nat.zero_ne_one, eT, eu, eD, Fit, and_true, implies_true, true_and] at hf0
 refine Z fun _ k1 => ?_
 refine a9 hP hN rfl ?_
 (refine V rfl fun _ k0 => ?_; simp only [zO, zT, acs, reduceCtorEq, J, D, M, U, O, S]; (repeat refine an ?_); (try refine .inl ?_); apply k0; clear k0; simp only [zP, D])
 refine aa ?_
 apply k1; clear k1; refine kp [0, 1, 4] ?_
 refine Z fun _ k2 => ?_
 refine Z fun _ k3 => ?_
 refine a9 hP hN rfl ?_
 iterate 5 (refine V rfl fun _ k0 => ?_; simp only [zO, zT, acs, reduceCtorEq, J, D, M, U, O, S]; (repeat refine an ?_); (try refine .inl ?_); apply k0; clear k0; simp only [zP, D])
 refine aa ?_
 apply k3; clear k3; refine kp [0, 1, 4, 10] ?_
 refine cd (fun hc4 => ?_) (fun hc4 => ?_)
 ·(try simp only [zB, reduceCtorEq] at hc4)
  refine Z fun _ k5 => ?_
  refine a9 hP hN rfl ?_
  (refine V rfl fun _ k0 => ?_; simp only [zO, zT, acs, reduceCtorEq, J, D, M, U, O, S]; (repeat refine an ?_); (try refine .inl ?_); apply k0; clear k0; simp only [zP, D])
  refine aa ?_
  apply k5; clear k5; refine kp [0, 1, 4, 10] ?_
  refine ak ?_
  refine ⟨nr, _, rfl, ?_⟩; simp only [zF, zP, J, D]
  refine VLE.of_eq ?_
  first
  | (refine ch ?_; rintro rfl; first | omega | (have h9 := (hgx aP).symm.trans (hgy aP); simp only [Prod.mk.injEq] at h9; simp_all; done))
  | (refine cG ?_; have hk1 : k = xs.length := by omega
     have hk2 : k = ys.length := by omega
     rw [hk1, aE, ← hk1, hk2, aE] at hT; exact hT)
 (try simp only [zB, reduceCtorEq] at hc4)
 refine am ?_
 apply k2; clear k2; refine kp [0, 1, 4, 10] ?_
 refine Z fun _ k6 => ?_
 refine Z fun _ k7 => ?_
 refine a9 hP hN rfl ?_
 (refine V rfl fun _ k0 => ?_; simp only [zO, zT, acs, reduceCtorEq, J, D, M, U, O, S]; (repeat refine an ?_); (try refine .inl ?_); apply k0; clear k0; simp only [zP, D])
 refine aa ?_
 apply k7; clear k7; refine kp [0, 1, 4, 5, 10] ?_
 refine az ?_
 refine aX (fun n8 s8 => ∃ (k : Nat), (k ≤ xs.length) ∧ (xs.take k = ys.take k) ∧ n8 = xs.length - k ∧ s8 = { env := [(0, .one (.list (.pair (.list (.int .i64)) (.pair (.list (.int .i64)) .unit)) xs)), (1, .one (.list (.pair (.list (.int .i64)) (.pair (.list (.int .i64)) .unit)) ys)), (5, .one (.int .i64 (k : Int)))], L := [] }) ?_ ?_
 ·exact ⟨_, _, aw [0, 1, 5], 0, Nat.zero_le _, rfl, rfl, rfl⟩
 rintro n8 s8 ⟨k, hk, hT, rfl, rfl⟩
 refine Z fun _ k9 => ?_
 refine Z fun _ k10 => ?_
 refine a9 hP hN rfl ?_
 iterate 4 (refine V rfl fun _ k0 => ?_; simp only [zO, zT, acs, reduceCtorEq, J, D, M, U, O, S]; (repeat refine an ?_); (try refine .inl ?_); apply k0; clear k0; simp only [zP, D])
 refine aa ?_
 apply k10; clear k10; refine kp [0, 1, 5, 14] ?_
 refine cd (fun hc11 => ?_) (fun hc11 => ?_)
 ·(try simp only [zB, reduceCtorEq] at hc11)
  refine am ?_
  apply k9; clear k9; refine kp [0, 1, 5, 14] ?_
  refine Z fun _ k12 => ?_
  refine az ?_
  refine Z fun _ k13 => ?_
  obtain ⟨x1, x2, hgx⟩ : ∃ x1 x2, ∀ d, xs.getD k d = (x1, (x2, ())) := ⟨_, _, cq (by omega)⟩
  obtain ⟨y1, y2, hgy⟩ : ∃ x1 x2, ∀ d, ys.getD k d = (x1, (x2, ())) := ⟨_, _, cq (by omega)⟩
  refine bV hP hN Tryd.mixed rfl ?_
  iterate 10 (refine V rfl fun _ k0 => ?_; simp only [zO, zT, acs, reduceCtorEq, J, D, M, U, O, S, gt, ae, hgx, hgy]; (repeat refine an ?_); (try refine .inl ?_); apply k0; clear k0; simp only [zP, D])
  refine V rfl fun _ k0 => ?_
  refine ar (h := ah (mz x1 y1)) rfl rfl (by first | exact rfl | (simp only [ev, zP, J, D]; exact rfl)) (by simp only [zV, acs, reduceCtorEq, J, D, M, U, O, S, gt, ae, hgx, hgy]) ?_
  apply k0; clear k0; simp only [zP, D]
  iterate 2 (refine V rfl fun _ k0 => ?_; simp only [zO, zT, acs, reduceCtorEq, J, D, M, U, O, S, gt, ae, hgx, hgy]; (repeat refine an ?_); (try refine .inl ?_); apply k0; clear k0; simp only [zP, D])
  refine' aC (want := false) 12 rfl (m := 29) (by simp only [zP, J, D]; exact rfl) (by kernel_rfl) rfl rfl rfl rfl rfl (fun hg14 => ?a14) ?b14 ?c14
  case a14 =>
   have hq14 := hg14; (try simp only [zB, reduceCtorEq] at hg14); simp only [zE]
   iterate 10 (refine aO rfl fun _ k0 => ?_; simp only [zO, zT, acs, reduceCtorEq, J, D, M, U, O, S, gt, ae, hgx, hgy]; (repeat refine an ?_); (try refine .inl ?_); apply k0; clear k0; simp only [zP, D])
   refine aO rfl fun _ k0 => ?_
   refine ar (h := ah (mz x2 y2)) rfl rfl (by first | exact rfl | (simp only [ev, zP, J, D]; exact rfl)) (by simp only [zV, acs, reduceCtorEq, J, D, M, U, O, S, gt, ae, hgx, hgy]) ?_
   apply k0; clear k0; simp only [zP, D]
   (refine aO rfl fun _ k0 => ?_; simp only [zO, zT, acs, reduceCtorEq, J, D, M, U, O, S, gt, ae, hgx, hgy]; (repeat refine an ?_); (try refine .inl ?_); apply k0; clear k0; simp only [zP, D])
   (refine V rfl fun _ k0 => ?_; simp only [zO, zT, acs, reduceCtorEq, J, D, M, U, O, S, gt, ae, hgx, hgy]; (repeat refine an ?_); (try refine .inl ?_); apply k0; clear k0; simp only [zP, D])
   refine aa ?_
   refine ⟨by simp only [zP, J, D]; exact rfl, rfl, ?_, rfl⟩; (repeat refine aB rfl ?_); exact aQ (by exact rfl) hq14
  case b14 => exact bg
  simp only [aN, aG]
  refine aa ?_
  refine ⟨by kernel_rfl, ?_⟩
  apply k13; clear k13; refine kp [0, 1, 5, 14, 42] ?_
  refine cd (fun hc15 => ?_) (fun hc15 => ?_)
  ·(try simp only [zB, reduceCtorEq] at hc15)
   refine Z fun _ k16 => ?_
   refine a9 hP hN rfl ?_
   (refine V rfl fun _ k0 => ?_; simp only [zO, zT, acs, reduceCtorEq, J, D, M, U, O, S]; (repeat refine an ?_); (try refine .inl ?_); apply k0; clear k0; simp only [zP, D])
   refine aa ?_
   apply k16; clear k16; refine kp [0, 1, 4, 5, 14, 42] ?_
   refine ak ?_
   refine ⟨nr, _, rfl, ?_⟩; simp only [zF, zP, J, D]
   refine VLE.of_eq ?_
   first
   | (refine ch ?_; rintro rfl; first | omega | (have h9 := (hgx aP).symm.trans (hgy aP); simp only [Prod.mk.injEq] at h9; simp_all; done))
   | (refine cG ?_; have hk1 : k = xs.length := by omega
      have hk2 : k = ys.length := by omega
      rw [hk1, aE, ← hk1, hk2, aE] at hT; exact hT)
  (try simp only [zB, reduceCtorEq] at hc15)
  refine am ?_
  apply k12; clear k12; refine kp [0, 1, 5, 14, 42] ?_
  refine a9 hP hN rfl ?_
  iterate 3 (refine V rfl fun _ k0 => ?_; simp only [zO, zT, acs, reduceCtorEq, J, D, M, U, O, S]; (repeat refine an ?_); (try refine .inl ?_); apply k0; clear k0; simp only [zP, D])
  refine aa ?_
  refine ⟨_, _, ?_, aw [0, 1, 5], k + 1, by omega, eH (d := aP) hT (by omega) (by omega) (by rw [hgx, hgy]; simp_all), rfl, rfl⟩
  omega
 (try simp only [zB, reduceCtorEq] at hc11)
 refine aV ?_
 apply k6; clear k6; refine kp [0, 1, 5, 14] ?_
 refine Z fun _ k17 => ?_
 refine a9 hP hN rfl ?_
 (refine V rfl fun _ k0 => ?_; simp only [zO, zT, acs, reduceCtorEq, J, D, M, U, O, S]; (repeat refine an ?_); (try refine .inl ?_); apply k0; clear k0; simp only [zP, D])
 refine aa ?_
 apply k17; clear k17; refine kp [0, 1, 4, 5, 14] ?_
 refine ak ?_
 refine ⟨nr, _, rfl, ?_⟩; simp only [zF, zP, J, D]
 refine VLE.of_eq ?_
 first
 | (refine ch ?_; rintro rfl; first | omega | (have h9 := (hgx aP).symm.trans (hgy aP); simp only [Prod.mk.injEq] at h9; simp_all; done))
 | (refine cG ?_; have hk1 : k = xs.length := by omega
    have hk2 : k = ys.length := by omega
    rw [hk1, aE, ← hk1, hk2, aE] at hT; exact hT)
set_option maxHeartbeats 1000000 in
theorem fl {o : Obj} (hmx : MXL o) : cr Tryd.prog [.fact 0 o] 9 [] { av := .one (.bool true), fp := [0] } := by
 refine cK _ _ Tryd.func9 rfl (by kernel_rfl) (Nat.le_of_ble_eq_true rfl) (by intro k hk; simp only [af, au, Nat.zero_add, D] at hk; simp only [List.mem_cons, List.not_mem_nil, or_false]; omega) (fun C hP hN hB => ?_)
 replace hB : C.bL.length = 1 := by rw [hB]; rfl
 replace hN : C.N = 124 := hN
 simp only [aL, D]
 refine Z fun _ k1 => ?_
 refine a9 hP hN rfl ?_
 (refine V rfl fun _ k0 => ?_; simp only [zO, zT, acs, reduceCtorEq, J, D, M, U, O, S]; (repeat refine an ?_); (try refine .inl ?_); apply k0; clear k0; simp only [zP, D])
 refine aa ?_
 apply k1; clear k1; refine kp [0] ?_
 refine Z fun _ k2 => ?_
 refine a9 hP hN rfl ?_
 refine V rfl fun _ k0 => ?_
 refine ar (h := ah oE) rfl rfl (by first | exact rfl | (simp only [ev, zP, J, D]; exact rfl)) (by simp only [zV, acs, reduceCtorEq, J, D, M, U, O, S]) ?_
 apply k0; clear k0; simp only [zP, D]
 iterate 7 (refine V rfl fun _ k0 => ?_; simp only [zO, zT, acs, reduceCtorEq, J, D, M, U, O, S]; (repeat refine an ?_); (try refine .inl ?_); apply k0; clear k0; simp only [zP, D])
 refine aa ?_
 apply k2; clear k2; refine kp [0, 1, 2] ?_
 refine Z fun _ k3 => ?_
 refine a9 hP hN rfl ?_
 iterate 2 (refine V rfl fun _ k0 => ?_; simp only [zO, zT, acs, reduceCtorEq, J, D, M, U, O, S]; (repeat refine an ?_); (try refine .inl ?_); apply k0; clear k0; simp only [zP, D])
 refine V rfl fun _ k0 => ?_
 refine ar (h := co (eS hmx [[99, 111, 105, 110], [112, 117, 115, 104]] [[110, 111], [111, 107], [116, 117, 114, 110]] [35, 32, 108, 111, 103, 10, 10, 99, 111, 105, 110, 47, 111, 107, 32, 112, 117, 115, 104, 47, 116, 117, 114, 110, 10] (by decide)) rfl) rfl rfl (by first | exact rfl | (simp only [ev, zP, J, D]; exact rfl)) (by simp only [zV, acs, reduceCtorEq, J, D, M, U, O, S]) ?_
 apply k0; clear k0; simp only [zP, D]
 iterate 7 (refine V rfl fun _ k0 => ?_; simp only [zO, zT, acs, reduceCtorEq, J, D, M, U, O, S]; (repeat refine an ?_); (try refine .inl ?_); apply k0; clear k0; simp only [zP, D])
 refine aa ?_
 apply k3; clear k3; refine kp [0, 1, 2, 3, 4, 5] ?_
 refine Z fun _ k4 => ?_
 refine a9 hP hN rfl ?_
 iterate 2 (refine V rfl fun _ k0 => ?_; simp only [zO, zT, acs, reduceCtorEq, J, D, M, U, O, S]; (repeat refine an ?_); (try refine .inl ?_); apply k0; clear k0; simp only [zP, D])
 refine V rfl fun _ k0 => ?_
 refine ar (h := co (eS hmx [[99, 111, 105, 110], [112, 117, 115, 104]] [[110, 111], [111, 107], [116, 117, 114, 110]] [99, 111, 105, 110, 47, 111, 107, 32, 112, 117, 115, 104, 10] (by decide)) rfl) rfl rfl (by first | exact rfl | (simp only [ev, zP, J, D]; exact rfl)) (by simp only [zV, acs, reduceCtorEq, J, D, M, U, O, S]) ?_
 apply k0; clear k0; simp only [zP, D]
 iterate 7 (refine V rfl fun _ k0 => ?_; simp only [zO, zT, acs, reduceCtorEq, J, D, M, U, O, S]; (repeat refine an ?_); (try refine .inl ?_); apply k0; clear k0; simp only [zP, D])
 refine aa ?_
 apply k4; clear k4; refine kp [0, 1, 2, 3, 4, 5, 7, 8] ?_
 refine Z fun _ k5 => ?_
 refine a9 hP hN rfl ?_
 iterate 2 (refine V rfl fun _ k0 => ?_; simp only [zO, zT, acs, reduceCtorEq, J, D, M, U, O, S]; (repeat refine an ?_); (try refine .inl ?_); apply k0; clear k0; simp only [zP, D])
 refine V rfl fun _ k0 => ?_
 refine ar (h := co (eS hmx [[99, 111, 105, 110], [112, 117, 115, 104]] [[110, 111], [111, 107], [116, 117, 114, 110]] [99, 111, 105, 110, 47, 111, 107, 32, 107, 105, 99, 107, 47, 110, 111, 10] (by decide)) rfl) rfl rfl (by first | exact rfl | (simp only [ev, zP, J, D]; exact rfl)) (by simp only [zV, acs, reduceCtorEq, J, D, M, U, O, S]) ?_
 apply k0; clear k0; simp only [zP, D]
 iterate 7 (refine V rfl fun _ k0 => ?_; simp only [zO, zT, acs, reduceCtorEq, J, D, M, U, O, S]; (repeat refine an ?_); (try refine .inl ?_); apply k0; clear k0; simp only [zP, D])
 refine aa ?_
 apply k5; clear k5; refine kp [0, 1, 2, 3, 4, 5, 7, 8, 10, 11] ?_
 refine Z fun _ k6 => ?_
 refine a9 hP hN rfl ?_
 iterate 11 (refine V rfl fun _ k0 => ?_; simp only [zO, zT, acs, reduceCtorEq, J, D, M, U, O, S]; (repeat refine an ?_); (try refine .inl ?_); apply k0; clear k0; simp only [zP, D])
 refine aa ?_
 apply k6; clear k6; refine kp [0, 1, 2, 3, 4, 5, 7, 8, 10, 11, 12] ?_
 refine Z fun _ k7 => ?_
 refine bV hP hN Tryd.mixed rfl ?_
 iterate 3 (refine V rfl fun _ k0 => ?_; simp only [zO, zT, acs, reduceCtorEq, J, D, M, U, O, S, aj, List.take_zero, List.drop_zero, Int.reduceToNat, Int.toNat_zero]; (repeat refine an ?_); (try refine .inl ?_); apply k0; clear k0; simp only [zP, D])
 (refine V rfl fun _ k0 => ?_; simp only [zE, op1, ev, lkp, c9, be, dW, Nat.mul_one, bz, cF, acs, Ty.dflt, zG, bT, bU, bnd, Ty.size, reduceCtorEq, J, D, M, U, O, S, Tryd.el27, Tryd.st24, Tryd.td24, Tryd.td27, aj, List.take_zero, List.drop_zero, Int.reduceToNat, Int.toNat_zero]; (repeat refine an ?_); (try refine .inl ?_); apply k0; clear k0; simp only [zP, D])
 refine V rfl fun _ k0 => ?_
 refine ar (h := ah (kK [[99, 111, 105, 110], [112, 117, 115, 104]] [[110, 111], [111, 107], [116, 117, 114, 110]] [([0], ([1], ())), ([0, 1], ([1, 2], ()))])) rfl rfl (by first | exact rfl | (simp only [ev, zP, J, D]; exact rfl)) (by simp only [zV, acs, reduceCtorEq, J, D, M, U, O, S, aj, List.take_zero, List.drop_zero, Int.reduceToNat, Int.toNat_zero]) ?_
 apply k0; clear k0; simp only [zP, D]
 iterate 5 (refine V rfl fun _ k0 => ?_; simp only [zO, zT, acs, reduceCtorEq, J, D, M, U, O, S, aj, List.take_zero, List.drop_zero, Int.reduceToNat, Int.toNat_zero]; (repeat refine an ?_); (try refine .inl ?_); apply k0; clear k0; simp only [zP, D])
 refine aa ?_
 refine ⟨by kernel_rfl, ?_⟩
 apply k7; clear k7; refine kp [0, 1, 2, 3, 4, 5, 7, 8, 10, 11, 12, 13, 14] ?_
 refine Z fun _ k8 => ?_
 refine a9 hP hN rfl ?_
 iterate 2 (refine V rfl fun _ k0 => ?_; simp only [zO, zT, acs, reduceCtorEq, J, D, M, U, O, S]; (repeat refine an ?_); (try refine .inl ?_); apply k0; clear k0; simp only [zP, D])
 refine V rfl fun _ k0 => ?_
 refine ar (h := ah (nG [([0], ([1], ())), ([0, 1], ([1, 2], ())), ([0, 1], ([1, 0], ()))] (by decide))) rfl rfl (by first | exact rfl | (simp only [ev, zP, J, D]; exact rfl)) (by simp only [zV, acs, reduceCtorEq, J, D, M, U, O, S]) ?_
 apply k0; clear k0; simp only [zP, D]
 iterate 8 (refine V rfl fun _ k0 => ?_; simp only [zO, zT, acs, reduceCtorEq, J, D, M, U, O, S]; (repeat refine an ?_); (try refine .inl ?_); apply k0; clear k0; simp only [zP, D])
 refine aa ?_
 apply k8; clear k8; refine kp [0, 1, 2, 3, 4, 5, 7, 8, 10, 11, 12, 13, 14, 15, 16, 17] ?_
 refine Z fun _ k9 => ?_
 refine a9 hP hN rfl ?_
 iterate 2 (refine V rfl fun _ k0 => ?_; simp only [zO, zT, acs, reduceCtorEq, J, D, M, U, O, S, aj, List.take_zero, List.drop_succ_cons, List.drop_zero, Int.reduceToNat, Int.toNat_zero]; (repeat refine an ?_); (try refine .inl ?_); apply k0; clear k0; simp only [zP, D])
 (refine V rfl fun _ k0 => ?_; simp only [zE, op1, ev, lkp, c9, be, bU, bnd, Ty.size, reduceCtorEq, J, D, M, U, O, S, Tryd.el27, Tryd.td27, aj, List.take_zero, List.drop_succ_cons, List.drop_zero, Int.reduceToNat, Int.toNat_zero]; (repeat refine an ?_); (try refine .inl ?_); apply k0; clear k0; simp only [zP, D])
 refine V rfl fun _ k0 => ?_
 refine ar (h := ah (iV (PG [[99, 111, 105, 110], [112, 117, 115, 104]] [[110, 111], [111, 107], [116, 117, 114, 110]] [35, 32, 108, 111, 103, 10, 10, 99, 111, 105, 110, 47, 111, 107, 32, 112, 117, 115, 104, 47, 116, 117, 114, 110, 10]).1 [([0, 1], ([1, 2], ()))])) rfl rfl (by first | exact rfl | (simp only [ev, zP, J, D]; exact rfl)) (by simp only [zV, acs, reduceCtorEq, J, D, M, U, O, S, aj, List.take_zero, List.drop_succ_cons, List.drop_zero, Int.reduceToNat, Int.toNat_zero]) ?_
 apply k0; clear k0; simp only [zP, D]
 (refine V rfl fun _ k0 => ?_; simp only [zO, zT, acs, reduceCtorEq, J, D, M, U, O, S, aj, List.take_zero, List.drop_succ_cons, List.drop_zero, Int.reduceToNat, Int.toNat_zero]; (repeat refine an ?_); (try refine .inl ?_); apply k0; clear k0; simp only [zP, D])
 refine' aC (want := true) 2 rfl (m := 72) (by simp only [zP, J, D]; exact rfl) (by kernel_rfl) rfl rfl rfl rfl rfl (fun hg10 => ?a10) ?b10 ?c10
 case a10 =>
  have hq10 := hg10; (try simp only [zB, reduceCtorEq] at hg10); simp only [zE]
  iterate 2 (refine aO rfl fun _ k0 => ?_; simp only [zO, zT, acs, reduceCtorEq, J, D, M, U, O, S, aj, List.take_zero, List.drop_succ_cons, List.drop_zero, Int.reduceToNat, Int.toNat_zero]; (repeat refine an ?_); (try refine .inl ?_); apply k0; clear k0; simp only [zP, D])
  (refine V rfl fun _ k0 => ?_; simp only [zO, zT, acs, reduceCtorEq, J, D, M, U, O, S, aj, List.take_zero, List.drop_succ_cons, List.drop_zero, Int.reduceToNat, Int.toNat_zero]; (repeat refine an ?_); (try refine .inl ?_); apply k0; clear k0; simp only [zP, D])
  refine aa ?_
  refine ⟨by simp only [zP, J, D]; exact rfl, rfl, ?_, rfl⟩; (repeat refine aB rfl ?_); exact aQ (by exact rfl) hq10
 case b10 => exact bg
 simp only [aN, aG]
 (refine V rfl fun _ k0 => ?_; simp only [zO, zT, acs, reduceCtorEq, J, D, M, U, O, S, aj, List.take_zero, List.drop_succ_cons, List.drop_zero, Int.reduceToNat, Int.toNat_zero]; (repeat refine an ?_); (try refine .inl ?_); apply k0; clear k0; simp only [zP, D])
 refine' aC (want := true) 2 rfl (m := 76) (by simp only [zP, J, D]; exact rfl) (by kernel_rfl) rfl rfl rfl rfl rfl (fun hg11 => ?a11) ?b11 ?c11
 case a11 =>
  have hq11 := hg11; (try simp only [zB, reduceCtorEq] at hg11); simp only [zE]
  iterate 2 (refine aO rfl fun _ k0 => ?_; simp only [zO, zT, acs, reduceCtorEq, J, D, M, U, O, S, aj, List.take_zero, List.drop_succ_cons, List.drop_zero, Int.reduceToNat, Int.toNat_zero]; (repeat refine an ?_); (try refine .inl ?_); apply k0; clear k0; simp only [zP, D])
  (refine V rfl fun _ k0 => ?_; simp only [zO, zT, acs, reduceCtorEq, J, D, M, U, O, S, aj, List.take_zero, List.drop_succ_cons, List.drop_zero, Int.reduceToNat, Int.toNat_zero]; (repeat refine an ?_); (try refine .inl ?_); apply k0; clear k0; simp only [zP, D])
  refine aa ?_
  refine ⟨by simp only [zP, J, D]; exact rfl, rfl, ?_, rfl⟩; (repeat refine aB rfl ?_); exact aQ (by exact rfl) hq11
 case b11 => exact bg
 simp only [aN, aG]
 (refine V rfl fun _ k0 => ?_; simp only [zO, zT, acs, reduceCtorEq, J, D, M, U, O, S, aj, List.take_zero, List.drop_succ_cons, List.drop_zero, Int.reduceToNat, Int.toNat_zero]; (repeat refine an ?_); (try refine .inl ?_); apply k0; clear k0; simp only [zP, D])
 refine' aC (want := true) 2 rfl (m := 80) (by simp only [zP, J, D]; exact rfl) (by kernel_rfl) rfl rfl rfl rfl rfl (fun hg12 => ?a12) ?b12 ?c12
 case a12 =>
  have hq12 := hg12; (try simp only [zB, reduceCtorEq] at hg12); simp only [zE]
  iterate 2 (refine aO rfl fun _ k0 => ?_; simp only [zO, zT, acs, reduceCtorEq, J, D, M, U, O, S, aj, List.take_zero, List.drop_succ_cons, List.drop_zero, Int.reduceToNat, Int.toNat_zero]; (repeat refine an ?_); (try refine .inl ?_); apply k0; clear k0; simp only [zP, D])
  (refine V rfl fun _ k0 => ?_; simp only [zO, zT, acs, reduceCtorEq, J, D, M, U, O, S, aj, List.take_zero, List.drop_succ_cons, List.drop_zero, Int.reduceToNat, Int.toNat_zero]; (repeat refine an ?_); (try refine .inl ?_); apply k0; clear k0; simp only [zP, D])
  refine aa ?_
  refine ⟨by simp only [zP, J, D]; exact rfl, rfl, ?_, rfl⟩; (repeat refine aB rfl ?_); exact aQ (by exact rfl) hq12
 case b12 => exact bg
 simp only [aN, aG]
 (refine V rfl fun _ k0 => ?_; simp only [zO, zT, acs, reduceCtorEq, J, D, M, U, O, S, aj, List.take_zero, List.drop_succ_cons, List.drop_zero, Int.reduceToNat, Int.toNat_zero]; (repeat refine an ?_); (try refine .inl ?_); apply k0; clear k0; simp only [zP, D])
 refine' aC (want := true) 2 rfl (m := 84) (by simp only [zP, J, D]; exact rfl) (by kernel_rfl) rfl rfl rfl rfl rfl (fun hg13 => ?a13) ?b13 ?c13
 case a13 =>
  have hq13 := hg13; (try simp only [zB, reduceCtorEq] at hg13); simp only [zE]
  iterate 2 (refine aO rfl fun _ k0 => ?_; simp only [zO, zT, acs, reduceCtorEq, J, D, M, U, O, S, aj, List.take_zero, List.drop_succ_cons, List.drop_zero, Int.reduceToNat, Int.toNat_zero]; (repeat refine an ?_); (try refine .inl ?_); apply k0; clear k0; simp only [zP, D])
  (refine V rfl fun _ k0 => ?_; simp only [zO, zT, acs, reduceCtorEq, J, D, M, U, O, S, aj, List.take_zero, List.drop_succ_cons, List.drop_zero, Int.reduceToNat, Int.toNat_zero]; (repeat refine an ?_); (try refine .inl ?_); apply k0; clear k0; simp only [zP, D])
  refine aa ?_
  refine ⟨by simp only [zP, J, D]; exact rfl, rfl, ?_, rfl⟩; (repeat refine aB rfl ?_); exact aQ (by exact rfl) hq13
 case b13 => exact bg
 simp only [aN, aG]
 (refine V rfl fun _ k0 => ?_; simp only [zO, zT, acs, reduceCtorEq, J, D, M, U, O, S, aj, List.take_zero, List.drop_succ_cons, List.drop_zero, Int.reduceToNat, Int.toNat_zero]; (repeat refine an ?_); (try refine .inl ?_); apply k0; clear k0; simp only [zP, D])
 refine' aC (want := true) 2 rfl (m := 88) (by simp only [zP, J, D]; exact rfl) (by kernel_rfl) rfl rfl rfl rfl rfl (fun hg14 => ?a14) ?b14 ?c14
 case a14 =>
  have hq14 := hg14; (try simp only [zB, reduceCtorEq] at hg14); simp only [zE]
  iterate 2 (refine aO rfl fun _ k0 => ?_; simp only [zO, zT, acs, reduceCtorEq, J, D, M, U, O, S, aj, List.take_zero, List.drop_succ_cons, List.drop_zero, Int.reduceToNat, Int.toNat_zero]; (repeat refine an ?_); (try refine .inl ?_); apply k0; clear k0; simp only [zP, D])
  (refine V rfl fun _ k0 => ?_; simp only [zO, zT, acs, reduceCtorEq, J, D, M, U, O, S, aj, List.take_zero, List.drop_succ_cons, List.drop_zero, Int.reduceToNat, Int.toNat_zero]; (repeat refine an ?_); (try refine .inl ?_); apply k0; clear k0; simp only [zP, D])
  refine aa ?_
  refine ⟨by simp only [zP, J, D]; exact rfl, rfl, ?_, rfl⟩; (repeat refine aB rfl ?_); exact aQ (by exact rfl) hq14
 case b14 => exact bg
 simp only [aN, aG]
 (refine V rfl fun _ k0 => ?_; simp only [zO, zT, acs, reduceCtorEq, J, D, M, U, O, S, aj, List.take_zero, List.drop_succ_cons, List.drop_zero, Int.reduceToNat, Int.toNat_zero]; (repeat refine an ?_); (try refine .inl ?_); apply k0; clear k0; simp only [zP, D])
 refine' aC (want := true) 2 rfl (m := 92) (by simp only [zP, J, D]; exact rfl) (by kernel_rfl) rfl rfl rfl rfl rfl (fun hg15 => ?a15) ?b15 ?c15
 case a15 =>
  have hq15 := hg15; (try simp only [zB, reduceCtorEq] at hg15); simp only [zE]
  iterate 2 (refine aO rfl fun _ k0 => ?_; simp only [zO, zT, acs, reduceCtorEq, J, D, M, U, O, S, aj, List.take_zero, List.drop_succ_cons, List.drop_zero, Int.reduceToNat, Int.toNat_zero]; (repeat refine an ?_); (try refine .inl ?_); apply k0; clear k0; simp only [zP, D])
  (refine V rfl fun _ k0 => ?_; simp only [zO, zT, acs, reduceCtorEq, J, D, M, U, O, S, aj, List.take_zero, List.drop_succ_cons, List.drop_zero, Int.reduceToNat, Int.toNat_zero]; (repeat refine an ?_); (try refine .inl ?_); apply k0; clear k0; simp only [zP, D])
  refine aa ?_
  refine ⟨by simp only [zP, J, D]; exact rfl, rfl, ?_, rfl⟩; (repeat refine aB rfl ?_); exact aQ (by exact rfl) hq15
 case b15 => exact bg
 simp only [aN, aG]
 (refine V rfl fun _ k0 => ?_; simp only [zO, zT, acs, reduceCtorEq, J, D, M, U, O, S, aj, List.take_zero, List.drop_succ_cons, List.drop_zero, Int.reduceToNat, Int.toNat_zero]; (repeat refine an ?_); (try refine .inl ?_); apply k0; clear k0; simp only [zP, D])
 refine' aC (want := true) 2 rfl (m := 96) (by simp only [zP, J, D]; exact rfl) (by kernel_rfl) rfl rfl rfl rfl rfl (fun hg16 => ?a16) ?b16 ?c16
 case a16 =>
  have hq16 := hg16; (try simp only [zB, reduceCtorEq] at hg16); simp only [zE]
  iterate 2 (refine aO rfl fun _ k0 => ?_; simp only [zO, zT, acs, reduceCtorEq, J, D, M, U, O, S, aj, List.take_zero, List.drop_succ_cons, List.drop_zero, Int.reduceToNat, Int.toNat_zero]; (repeat refine an ?_); (try refine .inl ?_); apply k0; clear k0; simp only [zP, D])
  (refine V rfl fun _ k0 => ?_; simp only [zO, zT, acs, reduceCtorEq, J, D, M, U, O, S, aj, List.take_zero, List.drop_succ_cons, List.drop_zero, Int.reduceToNat, Int.toNat_zero]; (repeat refine an ?_); (try refine .inl ?_); apply k0; clear k0; simp only [zP, D])
  refine aa ?_
  refine ⟨by simp only [zP, J, D]; exact rfl, rfl, ?_, rfl⟩; (repeat refine aB rfl ?_); exact aQ (by exact rfl) hq16
 case b16 => exact bg
 simp only [aN, aG]
 (refine V rfl fun _ k0 => ?_; simp only [zO, zT, acs, reduceCtorEq, J, D, M, U, O, S, aj, List.take_zero, List.drop_succ_cons, List.drop_zero, Int.reduceToNat, Int.toNat_zero]; (repeat refine an ?_); (try refine .inl ?_); apply k0; clear k0; simp only [zP, D])
 refine' aC (want := true) 2 rfl (m := 100) (by simp only [zP, J, D]; exact rfl) (by kernel_rfl) rfl rfl rfl rfl rfl (fun hg17 => ?a17) ?b17 ?c17
 case a17 =>
  have hq17 := hg17; (try simp only [zB, reduceCtorEq] at hg17); simp only [zE]
  iterate 2 (refine aO rfl fun _ k0 => ?_; simp only [zO, zT, acs, reduceCtorEq, J, D, M, U, O, S, aj, List.take_zero, List.drop_succ_cons, List.drop_zero, Int.reduceToNat, Int.toNat_zero]; (repeat refine an ?_); (try refine .inl ?_); apply k0; clear k0; simp only [zP, D])
  (refine V rfl fun _ k0 => ?_; simp only [zO, zT, acs, reduceCtorEq, J, D, M, U, O, S, aj, List.take_zero, List.drop_succ_cons, List.drop_zero, Int.reduceToNat, Int.toNat_zero]; (repeat refine an ?_); (try refine .inl ?_); apply k0; clear k0; simp only [zP, D])
  refine aa ?_
  refine ⟨by simp only [zP, J, D]; exact rfl, rfl, ?_, rfl⟩; (repeat refine aB rfl ?_); exact aQ (by exact rfl) hq17
 case b17 => exact bg
 simp only [aN, aG]
 (refine V rfl fun _ k0 => ?_; simp only [zO, zT, acs, reduceCtorEq, J, D, M, U, O, S, aj, List.take_zero, List.drop_succ_cons, List.drop_zero, Int.reduceToNat, Int.toNat_zero]; (repeat refine an ?_); (try refine .inl ?_); apply k0; clear k0; simp only [zP, D])
 refine' aC (want := true) 3 rfl (m := 104) (by simp only [zP, J, D]; exact rfl) (by kernel_rfl) rfl rfl rfl rfl rfl (fun hg18 => ?a18) ?b18 ?c18
 case a18 =>
  have hq18 := hg18; (try simp only [zB, reduceCtorEq] at hg18); simp only [zE]
  iterate 2 (refine aO rfl fun _ k0 => ?_; simp only [zO, zT, acs, reduceCtorEq, J, D, M, U, O, S, aj, List.take_zero, List.drop_succ_cons, List.drop_zero, Int.reduceToNat, Int.toNat_zero]; (repeat refine an ?_); (try refine .inl ?_); apply k0; clear k0; simp only [zP, D])
  refine aO rfl fun _ k0 => ?_
  refine ar (h := ah (oC 2 2 (jq 2 [] [([0], ([1], ())), ([0, 1], ([1, 2], ())), ([0, 1], ([1, 0], ()))]))) rfl rfl (by first | exact rfl | (simp only [ev, zP, J, D]; exact rfl)) (by simp only [zV, acs, reduceCtorEq, J, D, M, U, O, S, aj, List.take_zero, List.drop_succ_cons, List.drop_zero, Int.reduceToNat, Int.toNat_zero]) ?_
  apply k0; clear k0; simp only [zP, D]
  (refine V rfl fun _ k0 => ?_; simp only [zO, zT, acs, reduceCtorEq, J, D, M, U, O, S, aj, List.take_zero, List.drop_succ_cons, List.drop_zero, Int.reduceToNat, Int.toNat_zero]; (repeat refine an ?_); (try refine .inl ?_); apply k0; clear k0; simp only [zP, D])
  refine aa ?_
  refine ⟨by simp only [zP, J, D]; exact rfl, rfl, ?_, rfl⟩; (repeat refine aB rfl ?_); exact aQ (by exact rfl) hq18
 case b18 => exact bg
 simp only [aN, aG]
 (refine V rfl fun _ k0 => ?_; simp only [zO, zT, acs, reduceCtorEq, J, D, M, U, O, S, aj, List.take_zero, List.drop_succ_cons, List.drop_zero, Int.reduceToNat, Int.toNat_zero]; (repeat refine an ?_); (try refine .inl ?_); apply k0; clear k0; simp only [zP, D])
 refine' aC (want := true) 2 rfl (m := 109) (by simp only [zP, J, D]; exact rfl) (by kernel_rfl) rfl rfl rfl rfl rfl (fun hg19 => ?a19) ?b19 ?c19
 case a19 =>
  have hq19 := hg19; (try simp only [zB, reduceCtorEq] at hg19); simp only [zE]
  iterate 2 (refine aO rfl fun _ k0 => ?_; simp only [zO, zT, acs, reduceCtorEq, J, D, M, U, O, S, aj, List.take_zero, List.drop_succ_cons, List.drop_zero, Int.reduceToNat, Int.toNat_zero]; (repeat refine an ?_); (try refine .inl ?_); apply k0; clear k0; simp only [zP, D])
  (refine V rfl fun _ k0 => ?_; simp only [zO, zT, acs, reduceCtorEq, J, D, M, U, O, S, aj, List.take_zero, List.drop_succ_cons, List.drop_zero, Int.reduceToNat, Int.toNat_zero]; (repeat refine an ?_); (try refine .inl ?_); apply k0; clear k0; simp only [zP, D])
  refine aa ?_
  refine ⟨by simp only [zP, J, D]; exact rfl, rfl, ?_, rfl⟩; (repeat refine aB rfl ?_); exact aQ (by exact rfl) hq19
 case b19 => exact bg
 simp only [aN, aG]
 (refine V rfl fun _ k0 => ?_; simp only [zO, zT, acs, reduceCtorEq, J, D, M, U, O, S, aj, List.take_zero, List.drop_succ_cons, List.drop_zero, Int.reduceToNat, Int.toNat_zero]; (repeat refine an ?_); (try refine .inl ?_); apply k0; clear k0; simp only [zP, D])
 refine' aC (want := true) 2 rfl (m := 113) (by simp only [zP, J, D]; exact rfl) (by kernel_rfl) rfl rfl rfl rfl rfl (fun hg20 => ?a20) ?b20 ?c20
 case a20 =>
  have hq20 := hg20; (try simp only [zB, reduceCtorEq] at hg20); simp only [zE]
  iterate 2 (refine aO rfl fun _ k0 => ?_; simp only [zO, zT, acs, reduceCtorEq, J, D, M, U, O, S, aj, List.take_zero, List.drop_succ_cons, List.drop_zero, Int.reduceToNat, Int.toNat_zero]; (repeat refine an ?_); (try refine .inl ?_); apply k0; clear k0; simp only [zP, D])
  (refine V rfl fun _ k0 => ?_; simp only [zO, zT, acs, reduceCtorEq, J, D, M, U, O, S, aj, List.take_zero, List.drop_succ_cons, List.drop_zero, Int.reduceToNat, Int.toNat_zero]; (repeat refine an ?_); (try refine .inl ?_); apply k0; clear k0; simp only [zP, D])
  refine aa ?_
  refine ⟨by simp only [zP, J, D]; exact rfl, rfl, ?_, rfl⟩; (repeat refine aB rfl ?_); exact aQ (by exact rfl) hq20
 case b20 => exact bg
 simp only [aN, aG]
 (refine V rfl fun _ k0 => ?_; simp only [zO, zT, acs, reduceCtorEq, J, D, M, U, O, S, aj, List.take_zero, List.drop_succ_cons, List.drop_zero, Int.reduceToNat, Int.toNat_zero]; (repeat refine an ?_); (try refine .inl ?_); apply k0; clear k0; simp only [zP, D])
 refine' aC (want := true) 5 rfl (m := 117) (by simp only [zP, J, D]; exact rfl) (by kernel_rfl) rfl rfl rfl rfl rfl (fun hg21 => ?a21) ?b21 ?c21
 case a21 =>
  have hq21 := hg21; (try simp only [zB, reduceCtorEq] at hg21); simp only [zE]
  (refine aO rfl fun _ k0 => ?_; simp only [zO, zT, acs, reduceCtorEq, J, D, M, U, O, S, aj, List.take_zero, List.drop_succ_cons, List.drop_zero, Int.reduceToNat, Int.toNat_zero]; (repeat refine an ?_); (try refine .inl ?_); apply k0; clear k0; simp only [zP, D])
  (refine aO rfl fun _ k0 => ?_; simp only [zE, op1, ev, lkp, c9, be, bU, bnd, Ty.size, reduceCtorEq, J, D, M, U, O, S, Tryd.el27, Tryd.td27, aj, List.take_zero, List.drop_succ_cons, List.drop_zero, Int.reduceToNat, Int.toNat_zero]; (repeat refine an ?_); (try refine .inl ?_); apply k0; clear k0; simp only [zP, D])
  refine aO rfl fun _ k0 => ?_
  refine ar (h := ah (pc [([0], ([1], ())), ([0, 1], ([1, 2], ()))] 2 (by decide) (by decide))) rfl rfl (by first | exact rfl | (simp only [ev, zP, J, D]; exact rfl)) (by simp only [zV, acs, reduceCtorEq, J, D, M, U, O, S, aj, List.take_zero, List.drop_succ_cons, List.drop_zero, Int.reduceToNat, Int.toNat_zero]) ?_
  apply k0; clear k0; simp only [zP, D]
  (refine aO rfl fun _ k0 => ?_; simp only [zO, zT, acs, reduceCtorEq, J, D, M, U, O, S, aj, List.take_zero, List.drop_succ_cons, List.drop_zero, Int.reduceToNat, Int.toNat_zero]; (repeat refine an ?_); (try refine .inl ?_); apply k0; clear k0; simp only [zP, D])
  refine aO rfl fun _ k0 => ?_
  refine ar (h := ah (mz (pH [([0], ([1], ())), ([0, 1], ([1, 2], ()))] 2) [2, 1])) rfl rfl (by first | exact rfl | (simp only [ev, zP, J, D]; exact rfl)) (by simp only [zV, acs, reduceCtorEq, J, D, M, U, O, S, aj, List.take_zero, List.drop_succ_cons, List.drop_zero, Int.reduceToNat, Int.toNat_zero]) ?_
  apply k0; clear k0; simp only [zP, D]
  (refine V rfl fun _ k0 => ?_; simp only [zO, zT, acs, reduceCtorEq, J, D, M, U, O, S, aj, List.take_zero, List.drop_succ_cons, List.drop_zero, Int.reduceToNat, Int.toNat_zero]; (repeat refine an ?_); (try refine .inl ?_); apply k0; clear k0; simp only [zP, D])
  refine aa ?_
  refine ⟨by simp only [zP, J, D]; exact rfl, rfl, ?_, rfl⟩; (repeat refine aB rfl ?_); exact aQ (by exact rfl) hq21
 case b21 => exact bg
 simp only [aN, aG]
 (refine V rfl fun _ k0 => ?_; simp only [zO, zT, acs, reduceCtorEq, J, D, M, U, O, S, aj, List.take_zero, List.drop_succ_cons, List.drop_zero, Int.reduceToNat, Int.toNat_zero]; (repeat refine an ?_); (try refine .inl ?_); apply k0; clear k0; simp only [zP, D])
 refine aa ?_
 apply k9; clear k9; refine kp [0, 1, 2, 3, 4, 5, 7, 8, 10, 11, 12, 13, 14, 15, 16, 17] ?_
 refine kp [0] ?_
 refine aq (L1 := [_, _, _]) rfl (by rw [hB]; exact Nat.succ_le_succ (Nat.zero_le _)) rfl rfl ?_
 refine aq (L1 := [_, _]) rfl (by rw [hB]; exact Nat.succ_le_succ (Nat.zero_le _)) rfl rfl ?_
 refine aq (L1 := [_]) rfl (by rw [hB]; exact Nat.succ_le_succ (Nat.zero_le _)) rfl rfl ?_
 refine ak ?_
 refine ⟨by first | exact .inl rfl | exact .inr rfl, _, rfl, ?_⟩; simp only [zP, J, D]
 refine congrArg (fun b => AV.one (AC.bool b)) ?_
 decide +kernel
theorem li (l : List TRC) : aW Tryd.prog 13 [.one (.list (.pair (.list (.int .i64)) (.pair (.list (.int .i64)) .unit)) l)] (.one (.bool (grL l))) := by
 refine aA Tryd.func13 rfl (by kernel_rfl) (Nat.le_of_ble_eq_true rfl) rfl fun C hP hN hB => ?_
 replace hN : C.N = 33 := hN
 simp only [aL, D]
 refine Z fun _ k1 => ?_
 refine a9 hP hN rfl ?_
 (refine V rfl fun _ k0 => ?_; simp only [zO, zT, acs, reduceCtorEq, J, D, M, U, O, S]; (repeat refine an ?_); (try refine .inl ?_); apply k0; clear k0; simp only [zP, D])
 refine aa ?_
 apply k1; clear k1; refine kp [0, 2] ?_
 refine Z fun _ k2 => ?_
 refine Z fun _ k3 => ?_
 refine a9 hP hN rfl ?_
 (refine V rfl fun _ k0 => ?_; simp only [zO, zT, acs, reduceCtorEq, J, D, M, U, O, S]; (repeat refine an ?_); (try refine .inl ?_); apply k0; clear k0; simp only [zP, D])
 refine aa ?_
 apply k3; clear k3; refine kp [0, 2, 3] ?_
 refine az ?_
 refine aX (fun n4 s4 => ∃ (k : Nat), (k ≤ l.length) ∧ (k ≤ 31) ∧ (∀ q, q < k → (l.getD q aP).1.length ≤ 40 ∧ (l.getD q aP).2.1.length ≤ 40) ∧ n4 = l.length - k ∧ s4 = { env := [(0, .one (.list (.pair (.list (.int .i64)) (.pair (.list (.int .i64)) .unit)) l)), (2, .one (.bool false)), (3, .one (.int .i64 (k : Int)))], L := [] }) ?_ ?_
 ·exact ⟨_, _, aw [0, 2, 3], 0, Nat.zero_le _, by omega, fun q hq => by omega, rfl, rfl⟩
 rintro n4 s4 ⟨k, hk, hk31, hq, rfl, rfl⟩
 refine Z fun _ k5 => ?_
 refine Z fun _ k6 => ?_
 refine a9 hP hN rfl ?_
 iterate 5 (refine V rfl fun _ k0 => ?_; simp only [zO, zT, acs, reduceCtorEq, J, D, M, U, O, S]; (repeat refine an ?_); (try refine .inl ?_); apply k0; clear k0; simp only [zP, D])
 refine' aC (want := true) 2 rfl (m := 8) (by simp only [zP, J, D]; exact rfl) (by kernel_rfl) rfl rfl rfl rfl rfl (fun hg7 => ?a7) ?b7 ?c7
 case a7 =>
  have hq7 := hg7; (try simp only [zB, reduceCtorEq] at hg7); simp only [zE]
  iterate 2 (refine aO rfl fun _ k0 => ?_; simp only [zO, zT, acs, reduceCtorEq, J, D, M, U, O, S]; (repeat refine an ?_); (try refine .inl ?_); apply k0; clear k0; simp only [zP, D])
  (refine V rfl fun _ k0 => ?_; simp only [zO, zT, acs, reduceCtorEq, J, D, M, U, O, S]; (repeat refine an ?_); (try refine .inl ?_); apply k0; clear k0; simp only [zP, D])
  refine aa ?_
  refine ⟨by simp only [zP, J, D]; exact rfl, rfl, ?_, rfl⟩; (repeat refine aB rfl ?_); exact aQ (by exact rfl) hq7
 case b7 => exact bg
 simp only [aN, aG]
 refine aa ?_
 apply k6; clear k6; refine kp [0, 2, 3, 11] ?_
 refine cd (fun hc8 => ?_) (fun hc8 => ?_)
 ·(try simp only [zB, reduceCtorEq] at hc8)
  refine am ?_
  apply k5; clear k5; refine kp [0, 2, 3, 11] ?_
  refine Z fun _ k9 => ?_
  refine az ?_
  refine Z fun _ k10 => ?_
  obtain ⟨x1, x2, hgx⟩ : ∃ x1 x2, ∀ d, l.getD k d = (x1, (x2, ())) := ⟨_, _, cq (by omega)⟩
  refine a9 hP hN rfl ?_
  iterate 8 (refine V rfl fun _ k0 => ?_; simp only [zO, zT, acs, reduceCtorEq, J, D, M, U, O, S, gt, ae, hgx]; (repeat refine an ?_); (try refine .inl ?_); apply k0; clear k0; simp only [zP, D])
  refine' aC (want := false) 7 rfl (m := 21) (by simp only [zP, J, D]; exact rfl) (by kernel_rfl) rfl rfl rfl rfl rfl (fun hg11 => ?a11) ?b11 ?c11
  case a11 =>
   have hq11 := hg11; (try simp only [zB, reduceCtorEq] at hg11); simp only [zE]
   iterate 7 (refine aO rfl fun _ k0 => ?_; simp only [zO, zT, acs, reduceCtorEq, J, D, M, U, O, S, gt, ae, hgx]; (repeat refine an ?_); (try refine .inl ?_); apply k0; clear k0; simp only [zP, D])
   (refine V rfl fun _ k0 => ?_; simp only [zO, zT, acs, reduceCtorEq, J, D, M, U, O, S, gt, ae, hgx]; (repeat refine an ?_); (try refine .inl ?_); apply k0; clear k0; simp only [zP, D])
   refine aa ?_
   refine ⟨by simp only [zP, J, D]; exact rfl, rfl, ?_, rfl⟩; (repeat refine aB rfl ?_); exact aQ (by exact rfl) hq11
  case b11 => exact bg
  simp only [aN, aG]
  refine aa ?_
  apply k10; clear k10; refine kp [0, 2, 3, 11, 29] ?_
  refine cd (fun hc12 => ?_) (fun hc12 => ?_)
  ·(try simp only [zB, reduceCtorEq] at hc12)
   have hbg := hc12
   refine Z fun _ k13 => ?_
   refine a9 hP hN rfl ?_
   (refine V rfl fun _ k0 => ?_; simp only [zO, zT, acs, reduceCtorEq, J, D, M, U, O, S]; (repeat refine an ?_); (try refine .inl ?_); apply k0; clear k0; simp only [zP, D])
   refine aa ?_
   apply k13; clear k13; refine kp [0, 2, 3, 11, 29] ?_
   refine ak ?_
   refine ⟨nr, _, rfl, ?_⟩; simp only [zF, zP, J, D]
   refine VLE.of_eq ?_
   refine congrArg (fun b => AV.one (AC.bool b)) ?_
   symm
   first
   | exact rx (k := k) (by omega) (by omega) (by rw [hgx]; show 40 < x1.length ∨ 40 < x2.length; omega)
   | exact rN (k := k) (by omega) hq
  (try simp only [zB, reduceCtorEq] at hc12)
  have hok := hc12
  refine am ?_
  apply k9; clear k9; refine kp [0, 2, 3, 11, 29] ?_
  refine a9 hP hN rfl ?_
  iterate 3 (refine V rfl fun _ k0 => ?_; simp only [zO, zT, acs, reduceCtorEq, J, D, M, U, O, S]; (repeat refine an ?_); (try refine .inl ?_); apply k0; clear k0; simp only [zP, D])
  refine aa ?_
  refine ⟨_, _, ?_, aw [0, 2, 3], k + 1, by omega, by omega, fun q hq2 => ?_, rfl, rfl⟩
  · omega
  · by_cases e : q = k
    · rw [e, hgx]; show x1.length ≤ 40 ∧ x2.length ≤ 40; omega
    · exact hq q (by omega)
 (try simp only [zB, reduceCtorEq] at hc8)
 refine aV ?_
 apply k2; clear k2; refine kp [0, 2, 3, 11] ?_
 refine Z fun _ k14 => ?_
 refine a9 hP hN rfl ?_
 iterate 4 (refine V rfl fun _ k0 => ?_; simp only [zO, zT, acs, reduceCtorEq, J, D, M, U, O, S]; (repeat refine an ?_); (try refine .inl ?_); apply k0; clear k0; simp only [zP, D])
 refine aa ?_
 apply k14; clear k14; refine kp [0, 2, 3, 11] ?_
 refine ak ?_
 refine ⟨nr, _, rfl, ?_⟩; simp only [zF, zP, J, D]
 refine VLE.of_eq ?_
 refine congrArg (fun b => AV.one (AC.bool b)) ?_
 symm
 first
 | exact rx (k := k) (by omega) (by omega) (by rw [hgx]; show 40 < x1.length ∨ 40 < x2.length; omega)
 | exact rN (k := k) (by omega) hq
set_option maxHeartbeats 2000000 in
theorem tx {o : Obj} (hmx : MXL o) (xs ys : List Bs) (l m : List TRC) : cr Tryd.prog [.fact 0 o] 6 [.agg [.list .str xs, .list .str ys, .list (.pair (.list (.int .i64)) (.pair (.list (.int .i64)) .unit)) l, .list (.pair (.list (.int .i64)) (.pair (.list (.int .i64)) .unit)) m]] { av := .one (.bool true), fp := [0] } := by
 refine cK _ _ Tryd.func6 rfl (by kernel_rfl) (Nat.le_of_ble_eq_true rfl) (by intro k hk; simp only [af, au, Nat.zero_add, D] at hk; simp only [List.mem_cons, List.not_mem_nil, or_false]; omega) (fun C hP hN hB => ?_)
 replace hB : C.bL.length = 1 := by rw [hB]; rfl
 replace hN : C.N = 117 := hN
 simp only [aL, D]
 refine Z fun _ k1 => ?_
 refine a9 hP hN rfl ?_
 iterate 2 (refine V rfl fun _ k0 => ?_; simp only [zO, zT, acs, reduceCtorEq, J, D, M, U, O, S, ad]; (repeat refine an ?_); (try refine .inl ?_); apply k0; clear k0; simp only [zP, D])
 refine aa ?_
 apply k1; clear k1; refine kp [0, 1, 2] ?_
 refine Z fun _ k2 => ?_
 refine lS ?_; simp only [b0, List.append_assoc, aD]
 refine lS ?_; simp only [b0, List.append_assoc, aD]
 refine bV hP hN Tryd.mixed rfl ?_
 iterate 8 (refine V rfl fun _ k0 => ?_; simp only [zO, zT, acs, reduceCtorEq, J, D, M, U, O, S, ad]; (repeat refine an ?_); (try refine .inl ?_); apply k0; clear k0; simp only [zP, D])
 (refine V rfl fun _ k0 => ?_; simp only [zO, zT, acs, reduceCtorEq, J, D, M, U, O, S, ad]; refine Or.inr (Or.inl ⟨2, ?_, (.pair (.list .str) .unit), ([], ()), ?_⟩); (exact rfl); (repeat refine And.intro (by first | rfl | decide) ?_); refine k0 _ ?_; clear k0; simp only [zP, D])
 (refine V rfl fun _ k0 => ?_; simp only [zO, zT, acs, reduceCtorEq, J, D, M, U, O, S, ad]; refine Or.inr (Or.inl ⟨3, ?_, (.pair (.list .str) .unit), ([], ()), ?_⟩); (exact rfl); (repeat refine And.intro (by first | rfl | decide) ?_); refine k0 _ ?_; clear k0; simp only [zP, D])
 iterate 4 (refine V rfl fun _ k0 => ?_; simp only [zO, zT, acs, reduceCtorEq, J, D, M, U, O, S, ad]; (repeat refine an ?_); (try refine .inl ?_); apply k0; clear k0; simp only [zP, D])
 refine aa ?_
 refine ⟨by kernel_rfl, ?_⟩
 apply k2; clear k2; refine kp [0, 1, 2, 3, 4, 5, 6] ?_
 refine Z fun _ k3 => ?_
 refine Z fun _ k4 => ?_
 refine a9 hP hN rfl ?_
 (refine V rfl fun _ k0 => ?_; simp only [zO, zT, acs, reduceCtorEq, J, D, M, U, O, S, ad]; (repeat refine an ?_); (try refine .inl ?_); apply k0; clear k0; simp only [zP, D])
 refine V rfl fun _ k0 => ?_
 refine ar (h := ah (kU xs)) rfl rfl (by first | exact rfl | (simp only [ev, zP, J, D]; exact rfl)) (by simp only [zV, acs, reduceCtorEq, J, D, M, U, O, S, ad]) ?_
 apply k0; clear k0; simp only [zP, D]
 (refine V rfl fun _ k0 => ?_; simp only [zO, zT, acs, reduceCtorEq, J, D, M, U, O, S, ad]; (repeat refine an ?_); (try refine .inl ?_); apply k0; clear k0; simp only [zP, D])
 refine' aC (want := false) 2 rfl (m := 27) (by simp only [zP, J, D]; exact rfl) (by kernel_rfl) rfl rfl rfl rfl rfl (fun hg5 => ?a5) ?b5 ?c5
 case a5 =>
  have hq5 := hg5; (try simp only [zB, reduceCtorEq] at hg5); simp only [zE]
  (refine aO rfl fun _ k0 => ?_; simp only [zO, zT, acs, reduceCtorEq, J, D, M, U, O, S, ad]; (repeat refine an ?_); (try refine .inl ?_); apply k0; clear k0; simp only [zP, D])
  refine aO rfl fun _ k0 => ?_
  refine ar (h := ah (kU ys)) rfl rfl (by first | exact rfl | (simp only [ev, zP, J, D]; exact rfl)) (by simp only [zV, acs, reduceCtorEq, J, D, M, U, O, S, ad]) ?_
  apply k0; clear k0; simp only [zP, D]
  (refine V rfl fun _ k0 => ?_; simp only [zO, zT, acs, reduceCtorEq, J, D, M, U, O, S, ad]; (repeat refine an ?_); (try refine .inl ?_); apply k0; clear k0; simp only [zP, D])
  refine aa ?_
  refine ⟨by simp only [zP, J, D]; exact rfl, rfl, ?_, rfl⟩; (repeat refine aB rfl ?_); exact aQ (by exact rfl) hq5
 case b5 => exact bg
 simp only [aN, aG]
 (refine V rfl fun _ k0 => ?_; simp only [zO, zT, acs, reduceCtorEq, J, D, M, U, O, S, ad]; (repeat refine an ?_); (try refine .inl ?_); apply k0; clear k0; simp only [zP, D])
 refine' aC (want := false) 2 rfl (m := 31) (by simp only [zP, J, D]; exact rfl) (by kernel_rfl) rfl rfl rfl rfl rfl (fun hg6 => ?a6) ?b6 ?c6
 case a6 =>
  have hq6 := hg6; (try simp only [zB, reduceCtorEq] at hg6); simp only [zE]
  (refine aO rfl fun _ k0 => ?_; simp only [zO, zT, acs, reduceCtorEq, J, D, M, U, O, S, ad]; (repeat refine an ?_); (try refine .inl ?_); apply k0; clear k0; simp only [zP, D])
  refine aO rfl fun _ k0 => ?_
  refine ar (h := ah (li l)) rfl rfl (by first | exact rfl | (simp only [ev, zP, J, D]; exact rfl)) (by simp only [zV, acs, reduceCtorEq, J, D, M, U, O, S, ad]) ?_
  apply k0; clear k0; simp only [zP, D]
  (refine V rfl fun _ k0 => ?_; simp only [zO, zT, acs, reduceCtorEq, J, D, M, U, O, S, ad]; (repeat refine an ?_); (try refine .inl ?_); apply k0; clear k0; simp only [zP, D])
  refine aa ?_
  refine ⟨by simp only [zP, J, D]; exact rfl, rfl, ?_, rfl⟩; (repeat refine aB rfl ?_); exact aQ (by exact rfl) hq6
 case b6 => exact bg
 simp only [aN, aG]
 (refine V rfl fun _ k0 => ?_; simp only [zO, zT, acs, reduceCtorEq, J, D, M, U, O, S, ad]; (repeat refine an ?_); (try refine .inl ?_); apply k0; clear k0; simp only [zP, D])
 refine' aC (want := false) 2 rfl (m := 35) (by simp only [zP, J, D]; exact rfl) (by kernel_rfl) rfl rfl rfl rfl rfl (fun hg7 => ?a7) ?b7 ?c7
 case a7 =>
  have hq7 := hg7; (try simp only [zB, reduceCtorEq] at hg7); simp only [zE]
  (refine aO rfl fun _ k0 => ?_; simp only [zO, zT, acs, reduceCtorEq, J, D, M, U, O, S, ad]; (repeat refine an ?_); (try refine .inl ?_); apply k0; clear k0; simp only [zP, D])
  refine aO rfl fun _ k0 => ?_
  refine ar (h := ah (li m)) rfl rfl (by first | exact rfl | (simp only [ev, zP, J, D]; exact rfl)) (by simp only [zV, acs, reduceCtorEq, J, D, M, U, O, S, ad]) ?_
  apply k0; clear k0; simp only [zP, D]
  (refine V rfl fun _ k0 => ?_; simp only [zO, zT, acs, reduceCtorEq, J, D, M, U, O, S, ad]; (repeat refine an ?_); (try refine .inl ?_); apply k0; clear k0; simp only [zP, D])
  refine aa ?_
  refine ⟨by simp only [zP, J, D]; exact rfl, rfl, ?_, rfl⟩; (repeat refine aB rfl ?_); exact aQ (by exact rfl) hq7
 case b7 => exact bg
 simp only [aN, aG]
 refine aa ?_
 apply k4; clear k4; refine kp [0, 1, 2, 3, 4, 5, 6, 38] ?_
 refine cd (fun hc8 => ?_) (fun hc8 => ?_)
 ·(try simp only [zB, reduceCtorEq] at hc8)
  refine Z fun _ k9 => ?_
  refine a9 hP hN rfl ?_
  refine V rfl fun _ k0 => ?_
  refine ar (h := co (fl hmx) rfl) rfl rfl (by first | exact rfl | (simp only [ev, zP, J, D]; exact rfl)) (by simp only [zV, acs, reduceCtorEq, J, D, M, U, O, S, ad]) ?_
  apply k0; clear k0; simp only [zP, D]
  (refine V rfl fun _ k0 => ?_; simp only [zO, zT, acs, reduceCtorEq, J, D, M, U, O, S, ad]; (repeat refine an ?_); (try refine .inl ?_); apply k0; clear k0; simp only [zP, D])
  refine aa ?_
  apply k9; clear k9; refine kp [0, 1, 2, 3, 4, 5, 6, 38] ?_
  refine kp [2] ?_
  first
  | ((refine aq (L1 := [_, _, _, _]) rfl (by rw [hB]; exact Nat.succ_le_succ (Nat.zero_le _)) rfl rfl ?_); (refine aq (L1 := [_, _, _]) rfl (by rw [hB]; exact Nat.succ_le_succ (Nat.zero_le _)) rfl rfl ?_); (refine aq (L1 := [_, _]) rfl (by rw [hB]; exact Nat.succ_le_succ (Nat.zero_le _)) rfl rfl ?_); (refine aq (L1 := [_]) rfl (by rw [hB]; exact Nat.succ_le_succ (Nat.zero_le _)) rfl rfl ?_))
  | ((refine aq (L1 := [_, _, _]) rfl (by rw [hB]; exact Nat.succ_le_succ (Nat.zero_le _)) rfl rfl ?_); (refine aq (L1 := [_, _]) rfl (by rw [hB]; exact Nat.succ_le_succ (Nat.zero_le _)) rfl rfl ?_); (refine aq (L1 := [_]) rfl (by rw [hB]; exact Nat.succ_le_succ (Nat.zero_le _)) rfl rfl ?_))
  refine ak ?_
  refine ⟨by first | exact .inl rfl | exact .inr rfl, _, rfl, ?_⟩; simp only [zP, J, D, ad]
  all_goals (first | rfl | (refine congrArg (fun b => AV.one (AC.bool b)) ?_; simp [hv1]; done) | (refine congrArg (fun b => AV.one (AC.bool b)) ?_; simp [hv2]; done) | (refine congrArg (fun b => AV.one (AC.bool b)) ?_; rw [hpg2]; simp; done))
 (try simp only [zB, reduceCtorEq] at hc8)
 have hgx : grB xs = false := by have h9 := hc8; revert h9; cases grB xs <;> simp
 have hgy : grB ys = false := by have h9 := hc8; revert h9; cases grB ys <;> simp
 have hgl : grL l = false := by have h9 := hc8; revert h9; cases grL l <;> simp
 have hgm : grL m = false := by have h9 := hc8; revert h9; cases grL m <;> simp
 have hg1 := (mf hgl).1; have hg2 := (mf hgm).1
 refine am ?_
 apply k3; clear k3; refine kp [0, 1, 2, 3, 4, 5, 6, 38] ?_
 refine Z fun _ k10 => ?_
 refine a9 hP hN rfl ?_
 iterate 3 (refine V rfl fun _ k0 => ?_; simp only [zO, zT, acs, reduceCtorEq, J, D, M, U, O, S, ad]; (repeat refine an ?_); (try refine .inl ?_); apply k0; clear k0; simp only [zP, D])
 refine V rfl fun _ k0 => ?_
 refine ar (h := ah (kK xs ys l)) rfl rfl (by first | exact rfl | (simp only [ev, zP, J, D]; exact rfl)) (by simp only [zV, acs, reduceCtorEq, J, D, M, U, O, S, ad]) ?_
 apply k0; clear k0; simp only [zP, D]
 iterate 5 (refine V rfl fun _ k0 => ?_; simp only [zO, zT, acs, reduceCtorEq, J, D, M, U, O, S, ad]; (repeat refine an ?_); (try refine .inl ?_); apply k0; clear k0; simp only [zP, D])
 refine aa ?_
 apply k10; clear k10; refine kp [0, 1, 2, 3, 4, 5, 6, 7, 8, 38] ?_
 refine Z fun _ k11 => ?_
 refine a9 hP hN rfl ?_
 iterate 3 (refine V rfl fun _ k0 => ?_; simp only [zO, zT, acs, reduceCtorEq, J, D, M, U, O, S, ad]; (repeat refine an ?_); (try refine .inl ?_); apply k0; clear k0; simp only [zP, D])
 refine V rfl fun _ k0 => ?_
 refine ar (h := ah (kK xs ys m)) rfl rfl (by first | exact rfl | (simp only [ev, zP, J, D]; exact rfl)) (by simp only [zV, acs, reduceCtorEq, J, D, M, U, O, S, ad]) ?_
 apply k0; clear k0; simp only [zP, D]
 iterate 5 (refine V rfl fun _ k0 => ?_; simp only [zO, zT, acs, reduceCtorEq, J, D, M, U, O, S, ad]; (repeat refine an ?_); (try refine .inl ?_); apply k0; clear k0; simp only [zP, D])
 refine aa ?_
 apply k11; clear k11; refine kp [0, 1, 2, 3, 4, 5, 6, 7, 8, 9, 10, 38] ?_
 refine Z fun _ k12 => ?_
 refine Z fun _ k13 => ?_
 refine a9 hP hN rfl ?_
 iterate 2 (refine V rfl fun _ k0 => ?_; simp only [zO, zT, acs, reduceCtorEq, J, D, M, U, O, S, ad]; (repeat refine an ?_); (try refine .inl ?_); apply k0; clear k0; simp only [zP, D])
 refine aa ?_
 apply k13; clear k13; refine kp [0, 1, 2, 3, 4, 5, 6, 7, 8, 9, 10, 38, 55] ?_
 refine cd (fun hc14 => ?_) (fun hc14 => ?_)
 ·(try simp only [zB, reduceCtorEq] at hc14)
  have hv1 : cQ xs ys l = [] := nf hc14
  refine Z fun _ k15 => ?_
  refine a9 hP hN rfl ?_
  iterate 3 (refine V rfl fun _ k0 => ?_; simp only [zO, zT, acs, reduceCtorEq, J, D, M, U, O, S, ad]; (repeat refine an ?_); (try refine .inl ?_); apply k0; clear k0; simp only [zP, D])
  refine' aC (want := true) 1 rfl (m := 58) (by simp only [zP, J, D]; exact rfl) (by kernel_rfl) rfl rfl rfl rfl rfl (fun hg16 => ?a16) ?b16 ?c16
  case a16 =>
   have hq16 := hg16; (try simp only [zB, reduceCtorEq] at hg16); simp only [zE]
   refine aO rfl fun _ k0 => ?_
   refine ar (h := co (fl hmx) rfl) rfl rfl (by first | exact rfl | (simp only [ev, zP, J, D]; exact rfl)) (by simp only [zV, acs, reduceCtorEq, J, D, M, U, O, S, ad]) ?_
   apply k0; clear k0; simp only [zP, D]
   (refine V rfl fun _ k0 => ?_; simp only [zO, zT, acs, reduceCtorEq, J, D, M, U, O, S, ad]; (repeat refine an ?_); (try refine .inl ?_); apply k0; clear k0; simp only [zP, D])
   refine aa ?_
   refine ⟨by simp only [zP, J, D]; exact rfl, rfl, ?_, rfl⟩; (repeat refine aB rfl ?_); exact aQ (by exact rfl) hq16
  case b16 => exact bg
  simp only [aN, aG]
  (refine V rfl fun _ k0 => ?_; simp only [zO, zT, acs, reduceCtorEq, J, D, M, U, O, S, ad]; (repeat refine an ?_); (try refine .inl ?_); apply k0; clear k0; simp only [zP, D])
  refine aa ?_
  apply k15; clear k15; refine kp [0, 1, 2, 3, 4, 5, 6, 7, 8, 9, 10, 38, 55] ?_
  refine kp [2] ?_
  first
  | ((refine aq (L1 := [_, _, _, _]) rfl (by rw [hB]; exact Nat.succ_le_succ (Nat.zero_le _)) rfl rfl ?_); (refine aq (L1 := [_, _, _]) rfl (by rw [hB]; exact Nat.succ_le_succ (Nat.zero_le _)) rfl rfl ?_); (refine aq (L1 := [_, _]) rfl (by rw [hB]; exact Nat.succ_le_succ (Nat.zero_le _)) rfl rfl ?_); (refine aq (L1 := [_]) rfl (by rw [hB]; exact Nat.succ_le_succ (Nat.zero_le _)) rfl rfl ?_))
  | ((refine aq (L1 := [_, _, _]) rfl (by rw [hB]; exact Nat.succ_le_succ (Nat.zero_le _)) rfl rfl ?_); (refine aq (L1 := [_, _]) rfl (by rw [hB]; exact Nat.succ_le_succ (Nat.zero_le _)) rfl rfl ?_); (refine aq (L1 := [_]) rfl (by rw [hB]; exact Nat.succ_le_succ (Nat.zero_le _)) rfl rfl ?_))
  refine ak ?_
  refine ⟨by first | exact .inl rfl | exact .inr rfl, _, rfl, ?_⟩; simp only [zP, J, D, ad]
  all_goals (first | rfl | (refine congrArg (fun b => AV.one (AC.bool b)) ?_; simp [hv1]; done) | (refine congrArg (fun b => AV.one (AC.bool b)) ?_; simp [hv2]; done) | (refine congrArg (fun b => AV.one (AC.bool b)) ?_; rw [hpg2]; simp; done))
 (try simp only [zB, reduceCtorEq] at hc14)
 have hS1 := nu hc14
 have hv1 : cQ xs ys l = cM xs ys l := hS1.e.2
 have hz1 := lR hS1 hgl
 have hz3 : (cQ xs ys l).length ≤ 100000 := by rw [hv1]; exact hz1
 have hpg : PG xs ys (cQ xs ys l) = (l, 0, 0) := by rw [hv1]; exact qZ hS1
 refine am ?_
 apply k12; clear k12; refine kp [0, 1, 2, 3, 4, 5, 6, 7, 8, 9, 10, 38, 55] ?_
 refine Z fun _ k17 => ?_
 refine a9 hP hN rfl ?_
 iterate 3 (refine V rfl fun _ k0 => ?_; simp only [zO, zT, acs, reduceCtorEq, J, D, M, U, O, S, ad]; (repeat refine an ?_); (try refine .inl ?_); apply k0; clear k0; simp only [zP, D])
 refine V rfl fun _ k0 => ?_
 refine ar (h := co (eS hmx xs ys (cQ xs ys l) (by omega)) rfl) rfl rfl (by first | exact rfl | (simp only [ev, zP, J, D]; exact rfl)) (by simp only [zV, acs, reduceCtorEq, J, D, M, U, O, S, ad]) ?_
 apply k0; clear k0; simp only [zP, D]
 iterate 7 (refine V rfl fun _ k0 => ?_; simp only [zO, zT, acs, reduceCtorEq, J, D, M, U, O, S, ad]; (repeat refine an ?_); (try refine .inl ?_); apply k0; clear k0; simp only [zP, D])
 refine aa ?_
 apply k17; clear k17; refine kp [0, 1, 2, 3, 4, 5, 6, 7, 8, 9, 10, 11, 12, 13, 38, 55] ?_
 refine Z fun _ k18 => ?_
 refine Z fun _ k19 => ?_
 refine a9 hP hN rfl ?_
 iterate 2 (refine V rfl fun _ k0 => ?_; simp only [zO, zT, acs, reduceCtorEq, J, D, M, U, O, S, ad]; (repeat refine an ?_); (try refine .inl ?_); apply k0; clear k0; simp only [zP, D])
 refine V rfl fun _ k0 => ?_
 refine ar (h := ah (iV (PG xs ys (cQ xs ys l)).1 l)) rfl rfl (by first | exact rfl | (simp only [ev, zP, J, D]; exact rfl)) (by simp only [zV, acs, reduceCtorEq, J, D, M, U, O, S, ad]) ?_
 apply k0; clear k0; simp only [zP, D]
 iterate 2 (refine V rfl fun _ k0 => ?_; simp only [zO, zT, acs, reduceCtorEq, J, D, M, U, O, S, ad]; (repeat refine an ?_); (try refine .inl ?_); apply k0; clear k0; simp only [zP, D])
 refine' aC (want := false) 2 rfl (m := 73) (by simp only [zP, J, D]; exact rfl) (by kernel_rfl) rfl rfl rfl rfl rfl (fun hg20 => ?a20) ?b20 ?c20
 case a20 =>
  have hq20 := hg20; (try simp only [zB, reduceCtorEq] at hg20); simp only [zE]
  iterate 2 (refine aO rfl fun _ k0 => ?_; simp only [zO, zT, acs, reduceCtorEq, J, D, M, U, O, S, ad]; (repeat refine an ?_); (try refine .inl ?_); apply k0; clear k0; simp only [zP, D])
  (refine V rfl fun _ k0 => ?_; simp only [zO, zT, acs, reduceCtorEq, J, D, M, U, O, S, ad]; (repeat refine an ?_); (try refine .inl ?_); apply k0; clear k0; simp only [zP, D])
  refine aa ?_
  refine ⟨by simp only [zP, J, D]; exact rfl, rfl, ?_, rfl⟩; (repeat refine aB rfl ?_); exact aQ (by exact rfl) hq20
 case b20 => exact bg
 simp only [aN, aG]
 (refine V rfl fun _ k0 => ?_; simp only [zO, zT, acs, reduceCtorEq, J, D, M, U, O, S, ad]; (repeat refine an ?_); (try refine .inl ?_); apply k0; clear k0; simp only [zP, D])
 refine' aC (want := false) 2 rfl (m := 77) (by simp only [zP, J, D]; exact rfl) (by kernel_rfl) rfl rfl rfl rfl rfl (fun hg21 => ?a21) ?b21 ?c21
 case a21 =>
  have hq21 := hg21; (try simp only [zB, reduceCtorEq] at hg21); simp only [zE]
  iterate 2 (refine aO rfl fun _ k0 => ?_; simp only [zO, zT, acs, reduceCtorEq, J, D, M, U, O, S, ad]; (repeat refine an ?_); (try refine .inl ?_); apply k0; clear k0; simp only [zP, D])
  (refine V rfl fun _ k0 => ?_; simp only [zO, zT, acs, reduceCtorEq, J, D, M, U, O, S, ad]; (repeat refine an ?_); (try refine .inl ?_); apply k0; clear k0; simp only [zP, D])
  refine aa ?_
  refine ⟨by simp only [zP, J, D]; exact rfl, rfl, ?_, rfl⟩; (repeat refine aB rfl ?_); exact aQ (by exact rfl) hq21
 case b21 => exact bg
 simp only [aN, aG]
 refine aa ?_
 apply k19; clear k19; refine kp [0, 1, 2, 3, 4, 5, 6, 7, 8, 9, 10, 11, 12, 13, 38, 55, 80] ?_
 refine cd (fun hc22 => ?_) (fun hc22 => ?_)
 ·exfalso; (try simp only [zB, reduceCtorEq] at hc22)
  simp [hpg] at hc22
 (try simp only [zB, reduceCtorEq] at hc22)
 refine am ?_
 apply k18; clear k18; refine kp [0, 1, 2, 3, 4, 5, 6, 7, 8, 9, 10, 11, 12, 13, 38, 55, 80] ?_
 refine Z fun _ k23 => ?_
 refine Z fun _ k24 => ?_
 refine a9 hP hN rfl ?_
 iterate 2 (refine V rfl fun _ k0 => ?_; simp only [zO, zT, acs, reduceCtorEq, J, D, M, U, O, S, ad]; (repeat refine an ?_); (try refine .inl ?_); apply k0; clear k0; simp only [zP, D])
 refine aa ?_
 apply k24; clear k24; refine kp [0, 1, 2, 3, 4, 5, 6, 7, 8, 9, 10, 11, 12, 13, 38, 55, 80, 82] ?_
 refine cd (fun hc25 => ?_) (fun hc25 => ?_)
 ·(try simp only [zB, reduceCtorEq] at hc25)
  have hv2 : cQ xs ys m = [] := nf hc25
  refine Z fun _ k26 => ?_
  refine a9 hP hN rfl ?_
  iterate 3 (refine V rfl fun _ k0 => ?_; simp only [zO, zT, acs, reduceCtorEq, J, D, M, U, O, S, ad]; (repeat refine an ?_); (try refine .inl ?_); apply k0; clear k0; simp only [zP, D])
  refine' aC (want := true) 1 rfl (m := 85) (by simp only [zP, J, D]; exact rfl) (by kernel_rfl) rfl rfl rfl rfl rfl (fun hg27 => ?a27) ?b27 ?c27
  case a27 =>
   have hq27 := hg27; (try simp only [zB, reduceCtorEq] at hg27); simp only [zE]
   refine aO rfl fun _ k0 => ?_
   refine ar (h := co (fl hmx) rfl) rfl rfl (by first | exact rfl | (simp only [ev, zP, J, D]; exact rfl)) (by simp only [zV, acs, reduceCtorEq, J, D, M, U, O, S, ad]) ?_
   apply k0; clear k0; simp only [zP, D]
   (refine V rfl fun _ k0 => ?_; simp only [zO, zT, acs, reduceCtorEq, J, D, M, U, O, S, ad]; (repeat refine an ?_); (try refine .inl ?_); apply k0; clear k0; simp only [zP, D])
   refine aa ?_
   refine ⟨by simp only [zP, J, D]; exact rfl, rfl, ?_, rfl⟩; (repeat refine aB rfl ?_); exact aQ (by exact rfl) hq27
  case b27 => exact bg
  simp only [aN, aG]
  (refine V rfl fun _ k0 => ?_; simp only [zO, zT, acs, reduceCtorEq, J, D, M, U, O, S, ad]; (repeat refine an ?_); (try refine .inl ?_); apply k0; clear k0; simp only [zP, D])
  refine aa ?_
  apply k26; clear k26; refine kp [0, 1, 2, 3, 4, 5, 6, 7, 8, 9, 10, 11, 12, 13, 38, 55, 80, 82] ?_
  refine kp [2] ?_
  first
  | ((refine aq (L1 := [_, _, _, _]) rfl (by rw [hB]; exact Nat.succ_le_succ (Nat.zero_le _)) rfl rfl ?_); (refine aq (L1 := [_, _, _]) rfl (by rw [hB]; exact Nat.succ_le_succ (Nat.zero_le _)) rfl rfl ?_); (refine aq (L1 := [_, _]) rfl (by rw [hB]; exact Nat.succ_le_succ (Nat.zero_le _)) rfl rfl ?_); (refine aq (L1 := [_]) rfl (by rw [hB]; exact Nat.succ_le_succ (Nat.zero_le _)) rfl rfl ?_))
  | ((refine aq (L1 := [_, _, _]) rfl (by rw [hB]; exact Nat.succ_le_succ (Nat.zero_le _)) rfl rfl ?_); (refine aq (L1 := [_, _]) rfl (by rw [hB]; exact Nat.succ_le_succ (Nat.zero_le _)) rfl rfl ?_); (refine aq (L1 := [_]) rfl (by rw [hB]; exact Nat.succ_le_succ (Nat.zero_le _)) rfl rfl ?_))
  refine ak ?_
  refine ⟨by first | exact .inl rfl | exact .inr rfl, _, rfl, ?_⟩; simp only [zP, J, D, ad]
  all_goals (first | rfl | (refine congrArg (fun b => AV.one (AC.bool b)) ?_; simp [hv1]; done) | (refine congrArg (fun b => AV.one (AC.bool b)) ?_; simp [hv2]; done) | (refine congrArg (fun b => AV.one (AC.bool b)) ?_; rw [hpg2]; simp; done))
 (try simp only [zB, reduceCtorEq] at hc25)
 have hS2 := nu hc25
 have hv2 : cQ xs ys m = cM xs ys m := hS2.e.2
 have hz2 := lR hS2 hgm
 have hz4 : (cQ xs ys m).length ≤ 100000 := by rw [hv2]; exact hz2
 have hpg2 : PG xs ys ((cQ xs ys l) ++ [35, 10, 10] ++ (cQ xs ys m)) = (l ++ m, 0, 0) := by rw [hv1, hv2]; exact sB hS1 hS2 (by omega) (by omega)
 refine am ?_
 apply k23; clear k23; refine kp [0, 1, 2, 3, 4, 5, 6, 7, 8, 9, 10, 11, 12, 13, 38, 55, 80, 82] ?_
 refine Z fun _ k28 => ?_
 refine a9 hP hN rfl ?_
 iterate 6 (refine V rfl fun _ k0 => ?_; simp only [zO, zT, acs, reduceCtorEq, J, D, M, U, O, S, ad, ag, af, au]; (repeat refine an ?_); (try refine .inl ?_); apply k0; clear k0; simp only [zP, D])
 refine V rfl fun _ k0 => ?_
 refine ar (h := co (eS hmx xs ys ((cQ xs ys l) ++ [35, 10, 10] ++ (cQ xs ys m)) (by simp only [ag, af, au]; omega)) rfl) rfl rfl (by first | exact rfl | (simp only [ev, zP, J, D]; exact rfl)) (by simp only [zV, acs, reduceCtorEq, J, D, M, U, O, S, ad, ag, af, au]) ?_
 apply k0; clear k0; simp only [zP, D]
 iterate 7 (refine V rfl fun _ k0 => ?_; simp only [zO, zT, acs, reduceCtorEq, J, D, M, U, O, S, ad, ag, af, au]; (repeat refine an ?_); (try refine .inl ?_); apply k0; clear k0; simp only [zP, D])
 refine aa ?_
 apply k28; clear k28; refine kp [0, 1, 2, 3, 4, 5, 6, 7, 8, 9, 10, 11, 12, 13, 14, 15, 16, 38, 55, 80, 82] ?_
 refine Z fun _ k29 => ?_
 refine a9 hP hN rfl ?_
 (refine V rfl fun _ k0 => ?_; simp only [zO, zT, acs, reduceCtorEq, J, D, M, U, O, S, ad, aD, ag]; (repeat refine an ?_); (try refine .inl ?_); apply k0; clear k0; simp only [zP, D, aD])
 (refine V rfl fun _ k0 => ?_; simp only [zO, zT, acs, reduceCtorEq, J, D, M, U, O, S, ad, aD, ag]; (repeat refine an ?_); refine Or.inr (Or.inl (k0 _ ?_)); clear k0; simp only [zP, D, aD])
 iterate 3 (refine V rfl fun _ k0 => ?_; simp only [zO, zT, acs, reduceCtorEq, J, D, M, U, O, S, ad, aD, ag]; (repeat refine an ?_); (try refine .inl ?_); apply k0; clear k0; simp only [zP, D, aD])
 (refine V rfl fun _ k0 => ?_; simp only [zO, zT, acs, reduceCtorEq, J, D, M, U, O, S, ad, aD, ag]; (repeat refine an ?_); refine Or.inr (k0 _ ?_); clear k0; simp only [zP, D, aD])
 refine V rfl fun _ k0 => ?_
 refine ar (h := ah (iV (PG xs ys ((cQ xs ys l) ++ [35, 10, 10] ++ (cQ xs ys m))).1 (l ++ m))) rfl rfl (by first | exact rfl | (simp only [ev, zP, J, D]; exact rfl)) (by simp only [zV, acs, reduceCtorEq, J, D, M, U, O, S, ad, aD, ag]) ?_
 apply k0; clear k0; simp only [zP, D, aD]
 (refine V rfl fun _ k0 => ?_; simp only [zO, zT, acs, reduceCtorEq, J, D, M, U, O, S, ad, aD, ag]; (repeat refine an ?_); (try refine .inl ?_); apply k0; clear k0; simp only [zP, D, aD])
 refine' aC (want := true) 2 rfl (m := 106) (by simp only [zP, J, D]; exact rfl) (by kernel_rfl) rfl rfl rfl rfl rfl (fun hg30 => ?a30) ?b30 ?c30
 case a30 =>
  have hq30 := hg30; (try simp only [zB, reduceCtorEq] at hg30); simp only [zE]
  iterate 2 (refine aO rfl fun _ k0 => ?_; simp only [zO, zT, acs, reduceCtorEq, J, D, M, U, O, S, ad, aD, ag]; (repeat refine an ?_); (try refine .inl ?_); apply k0; clear k0; simp only [zP, D, aD])
  (refine V rfl fun _ k0 => ?_; simp only [zO, zT, acs, reduceCtorEq, J, D, M, U, O, S, ad, aD, ag]; (repeat refine an ?_); (try refine .inl ?_); apply k0; clear k0; simp only [zP, D, aD])
  refine aa ?_
  refine ⟨by simp only [zP, J, D]; exact rfl, rfl, ?_, rfl⟩; (repeat refine aB rfl ?_); exact aQ (by exact rfl) hq30
 case b30 => exact bg
 simp only [aN, aG]
 (refine V rfl fun _ k0 => ?_; simp only [zO, zT, acs, reduceCtorEq, J, D, M, U, O, S, ad, aD, ag]; (repeat refine an ?_); (try refine .inl ?_); apply k0; clear k0; simp only [zP, D, aD])
 refine' aC (want := true) 2 rfl (m := 110) (by simp only [zP, J, D]; exact rfl) (by kernel_rfl) rfl rfl rfl rfl rfl (fun hg31 => ?a31) ?b31 ?c31
 case a31 =>
  have hq31 := hg31; (try simp only [zB, reduceCtorEq] at hg31); simp only [zE]
  iterate 2 (refine aO rfl fun _ k0 => ?_; simp only [zO, zT, acs, reduceCtorEq, J, D, M, U, O, S, ad, aD, ag]; (repeat refine an ?_); (try refine .inl ?_); apply k0; clear k0; simp only [zP, D, aD])
  (refine V rfl fun _ k0 => ?_; simp only [zO, zT, acs, reduceCtorEq, J, D, M, U, O, S, ad, aD, ag]; (repeat refine an ?_); (try refine .inl ?_); apply k0; clear k0; simp only [zP, D, aD])
  refine aa ?_
  refine ⟨by simp only [zP, J, D]; exact rfl, rfl, ?_, rfl⟩; (repeat refine aB rfl ?_); exact aQ (by exact rfl) hq31
 case b31 => exact bg
 simp only [aN, aG]
 (refine V rfl fun _ k0 => ?_; simp only [zO, zT, acs, reduceCtorEq, J, D, M, U, O, S, ad, aD, ag]; (repeat refine an ?_); (try refine .inl ?_); apply k0; clear k0; simp only [zP, D, aD])
 refine' aC (want := true) 1 rfl (m := 114) (by simp only [zP, J, D]; exact rfl) (by kernel_rfl) rfl rfl rfl rfl rfl (fun hg32 => ?a32) ?b32 ?c32
 case a32 =>
  have hq32 := hg32; (try simp only [zB, reduceCtorEq] at hg32); simp only [zE]
  refine aO rfl fun _ k0 => ?_
  refine ar (h := co (fl hmx) rfl) rfl rfl (by first | exact rfl | (simp only [ev, zP, J, D]; exact rfl)) (by simp only [zV, acs, reduceCtorEq, J, D, M, U, O, S, ad, aD, ag]) ?_
  apply k0; clear k0; simp only [zP, D, aD]
  (refine V rfl fun _ k0 => ?_; simp only [zO, zT, acs, reduceCtorEq, J, D, M, U, O, S, ad, aD, ag]; (repeat refine an ?_); (try refine .inl ?_); apply k0; clear k0; simp only [zP, D, aD])
  refine aa ?_
  refine ⟨by simp only [zP, J, D]; exact rfl, rfl, ?_, rfl⟩; (repeat refine aB rfl ?_); exact aQ (by exact rfl) hq32
 case b32 => exact bg
 simp only [aN, aG]
 (refine V rfl fun _ k0 => ?_; simp only [zO, zT, acs, reduceCtorEq, J, D, M, U, O, S, ad, aD, ag]; (repeat refine an ?_); (try refine .inl ?_); apply k0; clear k0; simp only [zP, D, aD])
 refine aa ?_
 apply k29; clear k29; refine kp [0, 1, 2, 3, 4, 5, 6, 7, 8, 9, 10, 11, 12, 13, 14, 15, 16, 38, 55, 80, 82] ?_
 refine kp [2] ?_
 first
 | ((refine aq (L1 := [_, _, _, _]) rfl (by rw [hB]; exact Nat.succ_le_succ (Nat.zero_le _)) rfl rfl ?_); (refine aq (L1 := [_, _, _]) rfl (by rw [hB]; exact Nat.succ_le_succ (Nat.zero_le _)) rfl rfl ?_); (refine aq (L1 := [_, _]) rfl (by rw [hB]; exact Nat.succ_le_succ (Nat.zero_le _)) rfl rfl ?_); (refine aq (L1 := [_]) rfl (by rw [hB]; exact Nat.succ_le_succ (Nat.zero_le _)) rfl rfl ?_))
 | ((refine aq (L1 := [_, _, _]) rfl (by rw [hB]; exact Nat.succ_le_succ (Nat.zero_le _)) rfl rfl ?_); (refine aq (L1 := [_, _]) rfl (by rw [hB]; exact Nat.succ_le_succ (Nat.zero_le _)) rfl rfl ?_); (refine aq (L1 := [_]) rfl (by rw [hB]; exact Nat.succ_le_succ (Nat.zero_le _)) rfl rfl ?_))
 refine ak ?_
 refine ⟨by first | exact .inl rfl | exact .inr rfl, _, rfl, ?_⟩; simp only [zP, J, D, ad]
 all_goals (first | rfl | (refine congrArg (fun b => AV.one (AC.bool b)) ?_; simp [hv1]; done) | (refine congrArg (fun b => AV.one (AC.bool b)) ?_; simp [hv2]; done) | (refine congrArg (fun b => AV.one (AC.bool b)) ?_; rw [hpg2]; simp; done))
end Go.Proofs.YtfakhaagbimljaaDoor
