/- Contracts of functions of this seat, each out of a walk through its code, and plain facts on what they compute. Conditions: those that each theorem names. -/
import Derived.Test.YtfakhaagbimljaaDoorW04
set_option linter.unusedSimpArgs false
set_option linter.unusedVariables false
set_option maxRecDepth 100000
namespace Go.Proofs.YtfakhaagbimljaaDoor
open Go Go.AV
open Nat renaming reduceEqDiff → J, reduceAdd → D, reduceLeDiff → M, reduceLT → U, reduceMul → O, reduceSub → S
open List renaming set_cons_zero → bC, set_cons_succ → bD, getD_cons_zero → bV, length_append → am, map_cons → aR, cons_append → aX, map_nil → ba, length_cons → ah, nil_append → aZ, take_succ_cons → aq, length_nil → au, length_map → bS, length_replicate → bl, take_length → aD, mem_cons_self → aN, mem_cons_of_mem → aM
open Int renaming toNat_natCast → ad
set_option maxHeartbeats 3000000 in
theorem uw (n : Int) (X : List TRC) (t : TRC) (hp : PFR X) (hb : LB 100000 X) (ht : t.1.length ≤ 100000 ∧ t.2.1.length ≤ 100000) (hl : X.length ≤ 9000) : aT Tryd.prog 64 [.agg [.int .i64 n, .list (.pair (.list (.int .i64)) (.pair (.list (.int .i64)) .unit)) X], .agg [.list (.int .i64) t.1, .list (.int .i64) t.2.1]] (.agg [.int .i64 n, .list (.pair (.list (.int .i64)) (.pair (.list (.int .i64)) .unit)) (dm X t)]) := by
 refine aw Tryd.func64 rfl (by kernel_rfl) (Nat.le_of_ble_eq_true rfl) rfl fun C hP hN hB => ?_
 replace hN : C.N = 97 := hN
 simp only [aF, D]
 refine V fun _ k1 => ?_
 refine a9 hP hN rfl ?_
 iterate 3 (refine Z rfl fun _ k0 => ?_; simp only [zO, zT, acs, reduceCtorEq, J, D, M, U, O, S]; (repeat refine an ?_); (try refine .inl ?_); apply k0; clear k0; simp only [zP, D])
 refine aa ?_
 apply k1; clear k1; refine kp [0, 1, 2, 3, 4] ?_
 refine V fun _ k2 => ?_
 refine a9 hP hN rfl ?_
 iterate 5 (refine Z rfl fun _ k0 => ?_; simp only [zO, zT, acs, reduceCtorEq, J, D, M, U, O, S]; (repeat refine an ?_); (try refine .inl ?_); apply k0; clear k0; simp only [zP, D])
 refine aa ?_
 apply k2; clear k2; refine kp [0, 1, 2, 3, 4, 5] ?_
 refine V fun _ k3 => ?_
 refine a9 hP hN rfl ?_
 iterate 5 (refine Z rfl fun _ k0 => ?_; simp only [zO, zT, acs, reduceCtorEq, J, D, M, U, O, S]; (repeat refine an ?_); (try refine .inl ?_); apply k0; clear k0; simp only [zP, D])
 refine aa ?_
 apply k3; clear k3; refine kp [0, 1, 2, 3, 4, 5, 6] ?_
 refine V fun _ k4 => ?_
 refine V fun _ k5 => ?_
 refine a9 hP hN rfl ?_
 (refine Z rfl fun _ k0 => ?_; simp only [zO, zT, acs, reduceCtorEq, J, D, M, U, O, S]; (repeat refine an ?_); (try refine .inl ?_); apply k0; clear k0; simp only [zP, D])
 refine aa ?_
 apply k5; clear k5; refine kp [0, 1, 2, 3, 4, 5, 6, 7] ?_
 refine ar ?_
 refine aQ (fun n6 s6 => ∃ (k : Nat), (k ≤ X.length) ∧ n6 = X.length - k ∧ s6 = { env := [(2, .one (.ptr 0 0 0 0)), (3, .one (.ptr 1 0 0 0)), (4, .one (.ptr 2 0 0 0)), (5, .one (.ptr 3 0 0 0)), (6, .one (.bool (decide ((t.1.length : Int) = 0) || eT X t k))), (7, .one (.int .i64 (k : Int)))], L := [.vars 47 [.int .i64 n, .list (.pair (.list (.int .i64)) (.pair (.list (.int .i64)) .unit)) X], .vars 60 [.list (.int .i64) t.1, .list (.int .i64) t.2.1], .vars 47 [.int .i64 0, .nils], .vars 47 [.int .i64 n, .nils]] }) ?_ ?_
 ·exact ⟨_, _, aj [2, 3, 4, 5, 6, 7], 0, Nat.zero_le _, rfl, by simp only [eT, List.take_zero, List.any_nil, Bool.or_false]; rfl⟩
 rintro n6 s6 ⟨k, hk, rfl, rfl⟩
 refine V fun _ k7 => ?_
 refine V fun _ k8 => ?_
 refine a9 hP hN rfl ?_
 iterate 5 (refine Z rfl fun _ k0 => ?_; simp only [zO, zT, acs, reduceCtorEq, J, D, M, U, O, S]; (repeat refine an ?_); (try refine .inl ?_); apply k0; clear k0; simp only [zP, D])
 refine aa ?_
 apply k8; clear k8; refine kp [2, 3, 4, 5, 6, 7, 21] ?_
 refine cd (fun hc9 => ?_) (fun hc9 => ?_)
 ·(try simp only [zB, reduceCtorEq] at hc9)
  refine ag ?_
  apply k7; clear k7; refine kp [2, 3, 4, 5, 6, 7, 21] ?_
  refine V fun _ k10 => ?_
  refine ar ?_
  obtain ⟨x1, x2, hgx⟩ : ∃ x1 x2, ∀ d, X.getD k d = (x1, (x2, ())) := ⟨_, _, bP (by omega)⟩
  have hbx := hb.get (k := k) (by omega) (hgx _)
  have hXk : X.getD k aC = (x1, (x2, ())) := hgx _
  refine bh hP hN Tryd.mixed rfl ?_
  iterate 2 (refine Z rfl fun _ k0 => ?_; simp only [zO, zT, acs, reduceCtorEq, J, D, M, U, O, S, gt, ad, hgx]; (repeat refine an ?_); (try refine .inl ?_); apply k0; clear k0; simp only [zP, D])
  refine' aA (want := false) 9 rfl (m := 25) (by simp only [zP, J, D]; exact rfl) (by kernel_rfl) rfl rfl rfl rfl rfl (fun hg11 => ?a11) ?b11 ?c11
  case a11 =>
   have hq11 := hg11; (try simp only [zB, reduceCtorEq] at hg11); simp only [zE]
   iterate 8 (refine aH rfl fun _ k0 => ?_; simp only [zO, zT, acs, reduceCtorEq, J, D, M, U, O, S, gt, ad, hgx]; (repeat refine an ?_); (try refine .inl ?_); apply k0; clear k0; simp only [zP, D])
   refine aH rfl fun _ k0 => ?_
   refine ak (h := ae (nt x1 t.1)) rfl rfl (by first | exact rfl | (simp only [ev, zP, J, D]; exact rfl)) (by simp only [zV, acs, reduceCtorEq, J, D, M, U, O, S, gt, ad, hgx]) ?_
   apply k0; clear k0; simp only [zP, D]
   (refine Z rfl fun _ k0 => ?_; simp only [zO, zT, acs, reduceCtorEq, J, D, M, U, O, S, gt, ad, hgx]; (repeat refine an ?_); (try refine .inl ?_); apply k0; clear k0; simp only [zP, D])
   refine aa ?_
   refine ⟨by simp only [zP, J, D]; exact rfl, rfl, ?_, rfl⟩; (repeat refine aB rfl ?_); exact aO (by exact rfl) hq11
  case b11 => exact b9
  simp only [aK, aE]
  (refine Z rfl fun _ k0 => ?_; simp only [zO, zT, acs, reduceCtorEq, J, D, M, U, O, S, gt, ad, hgx]; (repeat refine an ?_); (try refine .inl ?_); apply k0; clear k0; simp only [zP, D])
  refine aa ?_
  refine ⟨by kernel_rfl, ?_⟩
  apply k10; clear k10; refine kp [2, 3, 4, 5, 6, 7, 21] ?_
  refine a9 hP hN rfl ?_
  iterate 3 (refine Z rfl fun _ k0 => ?_; simp only [zO, zT, acs, reduceCtorEq, J, D, M, U, O, S]; (repeat refine an ?_); (try refine .inl ?_); apply k0; clear k0; simp only [zP, D])
  refine aa ?_
  refine ⟨_, _, ?_, aj [2, 3, 4, 5, 6, 7], k + 1, by omega, rfl, ?_⟩
  · omega
  · rw [fW (by omega), hXk, ← Bool.or_assoc]; rfl
 (try simp only [zB, reduceCtorEq] at hc9)
 refine aP ?_
 apply k4; clear k4; refine kp [2, 3, 4, 5, 6, 7, 21] ?_
 refine V fun _ k12 => ?_
 refine V fun _ k13 => ?_
 have hkl : k = X.length := by omega
 have hin : (decide ((t.1.length : Int) = 0) || eT X t k) = dj X t := by rw [hS, hkl, Bool.or_comm]; simp
 rw [hin]
 refine a9 hP hN rfl ?_
 (refine Z rfl fun _ k0 => ?_; simp only [zO, zT, acs, reduceCtorEq, J, D, M, U, O, S]; (repeat refine an ?_); (try refine .inl ?_); apply k0; clear k0; simp only [zP, D])
 refine aa ?_
 apply k13; clear k13; refine kp [2, 3, 4, 5, 6, 7, 8, 21] ?_
 refine ar ?_
 refine dG 3 1 (.pair (.list (.int .i64)) (.pair (.list (.int .i64)) .unit)) 60 (by decide) rfl rfl ?_; simp only [zS, ah, au, aX, aZ, Nat.zero_add, D]
 refine aQ (fun n14 s14 => ∃ (k v : Nat), (k ≤ X.length) ∧ n14 = X.length - k ∧ s14 = { env := [(2, .one (.ptr 0 0 0 0)), (3, .one (.ptr 1 0 0 0)), (4, .one (.ptr 2 0 0 0)), (5, .one (.ptr 3 0 0 0)), (6, .one (.bool (SKr X t k).2)), (8, .one (.int .i64 (k : Int)))], L := [.vars 47 [.int .i64 n, .list (.pair (.list (.int .i64)) (.pair (.list (.int .i64)) .unit)) X], .vars 60 [.list (.int .i64) t.1, .list (.int .i64) t.2.1], .vars 47 [.int .i64 0, .nils], .vars 47 [.int .i64 n, .row 4 v], .row (.pair (.list (.int .i64)) (.pair (.list (.int .i64)) .unit)) 60 v (SKr X t k).1] }) ?_ ?_
 ·exact ⟨_, _, aj [2, 3, 4, 5, 6, 8], 0, 0, Nat.zero_le _, rfl, rfl⟩
 rintro n14 s14 ⟨k, v, hk, rfl, rfl⟩
 refine V fun _ k15 => ?_
 refine V fun _ k16 => ?_
 refine a9 hP hN rfl ?_
 iterate 5 (refine Z rfl fun _ k0 => ?_; simp only [zO, zT, acs, reduceCtorEq, J, D, M, U, O, S]; (repeat refine an ?_); (try refine .inl ?_); apply k0; clear k0; simp only [zP, D])
 refine aa ?_
 apply k16; clear k16; refine kp [2, 3, 4, 5, 6, 8, 40] ?_
 refine cd (fun hc17 => ?_) (fun hc17 => ?_)
 ·(try simp only [zB, reduceCtorEq] at hc17)
  refine ag ?_
  apply k15; clear k15; refine kp [2, 3, 4, 5, 6, 8, 40] ?_
  refine V fun _ k18 => ?_
  refine ar ?_
  refine V fun _ k19 => ?_
  obtain ⟨x1, x2, hgx⟩ : ∃ x1 x2, ∀ d, X.getD k d = (x1, (x2, ())) := ⟨_, _, bP (by omega)⟩
  have hbx := hb.get (k := k) (by omega) (hgx _)
  have hXk : X.getD k aC = (x1, (x2, ())) := hgx _
  have hSl := kr X t k (by omega)
  refine a9 hP hN rfl ?_
  iterate 7 (refine Z rfl fun _ k0 => ?_; simp only [zO, zT, acs, reduceCtorEq, J, D, M, U, O, S, gt, ad, hgx]; (repeat refine an ?_); (try refine .inl ?_); apply k0; clear k0; simp only [zP, D])
  refine aa ?_
  apply k19; clear k19; refine kp [2, 3, 4, 5, 6, 8, 9, 40] ?_
  refine V fun _ k20 => ?_
  refine V fun _ k21 => ?_
  refine a9 hP hN rfl ?_
  iterate 3 (refine Z rfl fun _ k0 => ?_; simp only [zO, zT, acs, reduceCtorEq, J, D, M, U, O, S]; (repeat refine an ?_); (try refine .inl ?_); apply k0; clear k0; simp only [zP, D])
  refine' aA (want := true) 6 rfl (m := 50) (by simp only [zP, J, D]; exact rfl) (by kernel_rfl) rfl rfl rfl rfl rfl (fun hg22 => ?a22) ?b22 ?c22
  case a22 =>
   have hq22 := hg22; (try simp only [zB, reduceCtorEq] at hg22); simp only [zE]
   iterate 4 (refine aH rfl fun _ k0 => ?_; simp only [zO, zT, acs, reduceCtorEq, J, D, M, U, O, S]; (repeat refine an ?_); (try refine .inl ?_); apply k0; clear k0; simp only [zP, D])
   refine aH rfl fun _ k0 => ?_
   refine ak (h := ae (lU t.1 x1)) rfl rfl (by first | exact rfl | (simp only [ev, zP, J, D]; exact rfl)) (by simp only [zV, acs, reduceCtorEq, J, D, M, U, O, S]) ?_
   apply k0; clear k0; simp only [zP, D]
   (refine aH rfl fun _ k0 => ?_; simp only [zO, zT, acs, reduceCtorEq, J, D, M, U, O, S]; (repeat refine an ?_); (try refine .inl ?_); apply k0; clear k0; simp only [zP, D])
   (refine Z rfl fun _ k0 => ?_; simp only [zO, zT, acs, reduceCtorEq, J, D, M, U, O, S]; (repeat refine an ?_); (try refine .inl ?_); apply k0; clear k0; simp only [zP, D])
   refine aa ?_
   refine ⟨by simp only [zP, J, D]; exact rfl, rfl, ?_, rfl⟩; (repeat refine aB rfl ?_); exact aO (by exact rfl) hq22
  case b22 => exact b9
  simp only [aK, aE]
  refine aa ?_
  apply k21; clear k21; refine kp [2, 3, 4, 5, 6, 8, 9, 40, 57] ?_
  refine cd (fun hc23 => ?_) (fun hc23 => ?_)
  ·(try simp only [zB, reduceCtorEq] at hc23)
   have hA : (SKr X t k).2 = false ∧ bb t.1 x1 < 0 := by simpa using hc23
   refine V fun _ k24 => ?_
   refine bh hP hN Tryd.mixed rfl ?_
   iterate 3 (refine Z rfl fun _ k0 => ?_; simp only [zO, zT, acs, reduceCtorEq, J, D, M, U, O, S]; (repeat refine an ?_); (try refine .inl ?_); apply k0; clear k0; simp only [zP, D])
   refine Z rfl fun _ k0 => ?_
   refine ak (h := ae (eM (t.1, (t.2.1, ())) ht.1 ht.2)) rfl rfl (by first | exact rfl | (simp only [ev, zP, J, D]; exact rfl)) (by simp only [zV, acs, reduceCtorEq, J, D, M, U, O, S]) ?_
   apply k0; clear k0; simp only [zP, D]
   iterate 4 (refine Z rfl fun _ k0 => ?_; simp only [zO, zT, acs, reduceCtorEq, J, D, M, U, O, S]; (repeat refine an ?_); (try refine .inl ?_); apply k0; clear k0; simp only [zP, D])
   refine aa ?_
   refine ⟨by kernel_rfl, ?_⟩
   apply k24; clear k24; refine kp [2, 3, 4, 5, 6, 8, 9, 40, 57] ?_
   refine a9 hP hN rfl ?_
   (refine Z rfl fun _ k0 => ?_; simp only [zO, zT, acs, reduceCtorEq, J, D, M, U, O, S]; (repeat refine an ?_); (try refine .inl ?_); apply k0; clear k0; simp only [zP, D])
   refine aa ?_
   apply k20; clear k20; refine kp [2, 3, 4, 5, 6, 8, 9, 40, 57] ?_
   refine V fun _ k25 => ?_
   refine a9 hP hN rfl ?_
   iterate 4 (refine Z rfl fun _ k0 => ?_; simp only [zO, zT, acs, reduceCtorEq, J, D, M, U, O, S]; (repeat refine an ?_); (try refine .inl ?_); apply k0; clear k0; simp only [zP, D])
   refine Z rfl fun _ k0 => ?_
   refine ak (h := ae (nt t.1 x1)) rfl rfl (by first | exact rfl | (simp only [ev, zP, J, D]; exact rfl)) (by simp only [zV, acs, reduceCtorEq, J, D, M, U, O, S]) ?_
   apply k0; clear k0; simp only [zP, D]
   iterate 2 (refine Z rfl fun _ k0 => ?_; simp only [zO, zT, acs, reduceCtorEq, J, D, M, U, O, S]; (repeat refine an ?_); (try refine .inl ?_); apply k0; clear k0; simp only [zP, D])
   refine' aA (want := false) 7 rfl (m := 71) (by simp only [zP, J, D]; exact rfl) (by kernel_rfl) rfl rfl rfl rfl rfl (fun hg26 => ?a26) ?b26 ?c26
   case a26 =>
    have hq26 := hg26; (try simp only [zB, reduceCtorEq] at hg26); simp only [zE]
    iterate 7 (refine aH rfl fun _ k0 => ?_; simp only [zO, zT, acs, reduceCtorEq, J, D, M, U, O, S]; (repeat refine an ?_); (try refine .inl ?_); apply k0; clear k0; simp only [zP, D])
    (refine Z rfl fun _ k0 => ?_; simp only [zO, zT, acs, reduceCtorEq, J, D, M, U, O, S]; (repeat refine an ?_); (try refine .inl ?_); apply k0; clear k0; simp only [zP, D])
    refine aa ?_
    refine ⟨by simp only [zP, J, D]; exact rfl, rfl, ?_, rfl⟩; (repeat refine aB rfl ?_); exact aO (by exact rfl) hq26
   case b26 => exact b9
   simp only [aK, aE]
   refine aa ?_
   apply k25; clear k25; refine kp [2, 3, 4, 5, 6, 8, 9, 40, 57, 79] ?_
   refine cd (fun hc27 => ?_) (fun hc27 => ?_)
   ·(try simp only [zB, reduceCtorEq] at hc27)
    have hK : keR t (x1, (x2, ())) = true := by unfold keR; simpa [Int.ofNat_inj] using hc27
    refine bh hP hN Tryd.mixed rfl ?_
    iterate 3 (refine Z rfl fun _ k0 => ?_; simp only [zO, zT, acs, reduceCtorEq, J, D, M, U, O, S, am, ah, au]; (repeat refine an ?_); (try refine .inl ?_); apply k0; clear k0; simp only [zP, D])
    refine Z rfl fun _ k0 => ?_
    refine ak (h := ae (eM (x1, (x2, ())) hbx.1 hbx.2)) rfl rfl (by first | exact rfl | (simp only [ev, zP, J, D]; exact rfl)) (by simp only [zV, acs, reduceCtorEq, J, D, M, U, O, S, am, ah, au]) ?_
    apply k0; clear k0; simp only [zP, D]
    iterate 4 (refine Z rfl fun _ k0 => ?_; simp only [zO, zT, acs, reduceCtorEq, J, D, M, U, O, S, am, ah, au]; (repeat refine an ?_); (try refine .inl ?_); apply k0; clear k0; simp only [zP, D])
    refine aa ?_
    refine ⟨by kernel_rfl, ?_⟩
    apply k18; clear k18; refine kp [2, 3, 4, 5, 6, 8, 9, 40, 57, 79] ?_
    refine kp [2, 3, 4, 5, 6, 8] ?_
    refine az (L1 := [_, _, _, _, _]) rfl (by rw [hB]; exact Nat.zero_le _) rfl rfl ?_
    refine a9 hP hN rfl ?_
    iterate 3 (refine Z rfl fun _ k0 => ?_; simp only [zO, zT, acs, reduceCtorEq, J, D, M, U, O, S]; (repeat refine an ?_); (try refine .inl ?_); apply k0; clear k0; simp only [zP, D])
    refine aa ?_
    first
    | (refine ⟨_, _, ?_, aj [2, 3, 4, 5, 6, 8], k + 1, v + 1 + 1, by omega, rfl, ?_⟩
       · omega
       · rw [bJ (by omega), hXk, rS1 hA hK]; rfl)
    | (refine ⟨_, _, ?_, aj [2, 3, 4, 5, 6, 8], k + 1, v + 1, by omega, rfl, ?_⟩
       · omega
       · rw [bJ (by omega), hXk, rS2 hA hK]; rfl)
    | (refine ⟨_, _, ?_, aj [2, 3, 4, 5, 6, 8], k + 1, v + 1, by omega, rfl, ?_⟩
       · omega
       · rw [bJ (by omega), hXk, rS3 hA hK]; rfl)
    | (refine ⟨_, _, ?_, aj [2, 3, 4, 5, 6, 8], k + 1, v, by omega, rfl, ?_⟩
       · omega
       · rw [bJ (by omega), hXk, rS4 hA hK]; rfl)
   (try simp only [zB, reduceCtorEq] at hc27)
   have hK : keR t (x1, (x2, ())) = false := by unfold keR; simpa [Int.ofNat_inj] using hc27
   refine ag ?_
   apply k18; clear k18; refine kp [2, 3, 4, 5, 6, 8, 9, 40, 57, 79] ?_
   refine kp [2, 3, 4, 5, 6, 8] ?_
   refine az (L1 := [_, _, _, _, _]) rfl (by rw [hB]; exact Nat.zero_le _) rfl rfl ?_
   refine a9 hP hN rfl ?_
   iterate 3 (refine Z rfl fun _ k0 => ?_; simp only [zO, zT, acs, reduceCtorEq, J, D, M, U, O, S]; (repeat refine an ?_); (try refine .inl ?_); apply k0; clear k0; simp only [zP, D])
   refine aa ?_
   first
   | (refine ⟨_, _, ?_, aj [2, 3, 4, 5, 6, 8], k + 1, v + 1 + 1, by omega, rfl, ?_⟩
      · omega
      · rw [bJ (by omega), hXk, rS1 hA hK]; rfl)
   | (refine ⟨_, _, ?_, aj [2, 3, 4, 5, 6, 8], k + 1, v + 1, by omega, rfl, ?_⟩
      · omega
      · rw [bJ (by omega), hXk, rS2 hA hK]; rfl)
   | (refine ⟨_, _, ?_, aj [2, 3, 4, 5, 6, 8], k + 1, v + 1, by omega, rfl, ?_⟩
      · omega
      · rw [bJ (by omega), hXk, rS3 hA hK]; rfl)
   | (refine ⟨_, _, ?_, aj [2, 3, 4, 5, 6, 8], k + 1, v, by omega, rfl, ?_⟩
      · omega
      · rw [bJ (by omega), hXk, rS4 hA hK]; rfl)
  (try simp only [zB, reduceCtorEq] at hc23)
  have hA : (SKr X t k).2 = true ∨ ¬ bb t.1 x1 < 0 := by have h9 := hc23; cases hb9 : (SKr X t k).2 <;> simp_all
  refine ag ?_
  apply k20; clear k20; refine kp [2, 3, 4, 5, 6, 8, 9, 40, 57] ?_
  refine V fun _ k28 => ?_
  refine a9 hP hN rfl ?_
  iterate 4 (refine Z rfl fun _ k0 => ?_; simp only [zO, zT, acs, reduceCtorEq, J, D, M, U, O, S]; (repeat refine an ?_); (try refine .inl ?_); apply k0; clear k0; simp only [zP, D])
  refine Z rfl fun _ k0 => ?_
  refine ak (h := ae (nt t.1 x1)) rfl rfl (by first | exact rfl | (simp only [ev, zP, J, D]; exact rfl)) (by simp only [zV, acs, reduceCtorEq, J, D, M, U, O, S]) ?_
  apply k0; clear k0; simp only [zP, D]
  iterate 2 (refine Z rfl fun _ k0 => ?_; simp only [zO, zT, acs, reduceCtorEq, J, D, M, U, O, S]; (repeat refine an ?_); (try refine .inl ?_); apply k0; clear k0; simp only [zP, D])
  refine' aA (want := false) 7 rfl (m := 71) (by simp only [zP, J, D]; exact rfl) (by kernel_rfl) rfl rfl rfl rfl rfl (fun hg29 => ?a29) ?b29 ?c29
  case a29 =>
   have hq29 := hg29; (try simp only [zB, reduceCtorEq] at hg29); simp only [zE]
   iterate 7 (refine aH rfl fun _ k0 => ?_; simp only [zO, zT, acs, reduceCtorEq, J, D, M, U, O, S]; (repeat refine an ?_); (try refine .inl ?_); apply k0; clear k0; simp only [zP, D])
   (refine Z rfl fun _ k0 => ?_; simp only [zO, zT, acs, reduceCtorEq, J, D, M, U, O, S]; (repeat refine an ?_); (try refine .inl ?_); apply k0; clear k0; simp only [zP, D])
   refine aa ?_
   refine ⟨by simp only [zP, J, D]; exact rfl, rfl, ?_, rfl⟩; (repeat refine aB rfl ?_); exact aO (by exact rfl) hq29
  case b29 => exact b9
  simp only [aK, aE]
  refine aa ?_
  apply k28; clear k28; refine kp [2, 3, 4, 5, 6, 8, 9, 40, 57, 79] ?_
  refine cd (fun hc30 => ?_) (fun hc30 => ?_)
  ·(try simp only [zB, reduceCtorEq] at hc30)
   have hK : keR t (x1, (x2, ())) = true := by unfold keR; simpa [Int.ofNat_inj] using hc30
   refine bh hP hN Tryd.mixed rfl ?_
   iterate 3 (refine Z rfl fun _ k0 => ?_; simp only [zO, zT, acs, reduceCtorEq, J, D, M, U, O, S, am, ah, au]; (repeat refine an ?_); (try refine .inl ?_); apply k0; clear k0; simp only [zP, D])
   refine Z rfl fun _ k0 => ?_
   refine ak (h := ae (eM (x1, (x2, ())) hbx.1 hbx.2)) rfl rfl (by first | exact rfl | (simp only [ev, zP, J, D]; exact rfl)) (by simp only [zV, acs, reduceCtorEq, J, D, M, U, O, S, am, ah, au]) ?_
   apply k0; clear k0; simp only [zP, D]
   iterate 4 (refine Z rfl fun _ k0 => ?_; simp only [zO, zT, acs, reduceCtorEq, J, D, M, U, O, S, am, ah, au]; (repeat refine an ?_); (try refine .inl ?_); apply k0; clear k0; simp only [zP, D])
   refine aa ?_
   refine ⟨by kernel_rfl, ?_⟩
   apply k18; clear k18; refine kp [2, 3, 4, 5, 6, 8, 9, 40, 57, 79] ?_
   refine kp [2, 3, 4, 5, 6, 8] ?_
   refine az (L1 := [_, _, _, _, _]) rfl (by rw [hB]; exact Nat.zero_le _) rfl rfl ?_
   refine a9 hP hN rfl ?_
   iterate 3 (refine Z rfl fun _ k0 => ?_; simp only [zO, zT, acs, reduceCtorEq, J, D, M, U, O, S]; (repeat refine an ?_); (try refine .inl ?_); apply k0; clear k0; simp only [zP, D])
   refine aa ?_
   first
   | (refine ⟨_, _, ?_, aj [2, 3, 4, 5, 6, 8], k + 1, v + 1 + 1, by omega, rfl, ?_⟩
      · omega
      · rw [bJ (by omega), hXk, rS1 hA hK]; rfl)
   | (refine ⟨_, _, ?_, aj [2, 3, 4, 5, 6, 8], k + 1, v + 1, by omega, rfl, ?_⟩
      · omega
      · rw [bJ (by omega), hXk, rS2 hA hK]; rfl)
   | (refine ⟨_, _, ?_, aj [2, 3, 4, 5, 6, 8], k + 1, v + 1, by omega, rfl, ?_⟩
      · omega
      · rw [bJ (by omega), hXk, rS3 hA hK]; rfl)
   | (refine ⟨_, _, ?_, aj [2, 3, 4, 5, 6, 8], k + 1, v, by omega, rfl, ?_⟩
      · omega
      · rw [bJ (by omega), hXk, rS4 hA hK]; rfl)
  (try simp only [zB, reduceCtorEq] at hc30)
  have hK : keR t (x1, (x2, ())) = false := by unfold keR; simpa [Int.ofNat_inj] using hc30
  refine ag ?_
  apply k18; clear k18; refine kp [2, 3, 4, 5, 6, 8, 9, 40, 57, 79] ?_
  refine kp [2, 3, 4, 5, 6, 8] ?_
  refine az (L1 := [_, _, _, _, _]) rfl (by rw [hB]; exact Nat.zero_le _) rfl rfl ?_
  refine a9 hP hN rfl ?_
  iterate 3 (refine Z rfl fun _ k0 => ?_; simp only [zO, zT, acs, reduceCtorEq, J, D, M, U, O, S]; (repeat refine an ?_); (try refine .inl ?_); apply k0; clear k0; simp only [zP, D])
  refine aa ?_
  first
  | (refine ⟨_, _, ?_, aj [2, 3, 4, 5, 6, 8], k + 1, v + 1 + 1, by omega, rfl, ?_⟩
     · omega
     · rw [bJ (by omega), hXk, rS1 hA hK]; rfl)
  | (refine ⟨_, _, ?_, aj [2, 3, 4, 5, 6, 8], k + 1, v + 1, by omega, rfl, ?_⟩
     · omega
     · rw [bJ (by omega), hXk, rS2 hA hK]; rfl)
  | (refine ⟨_, _, ?_, aj [2, 3, 4, 5, 6, 8], k + 1, v + 1, by omega, rfl, ?_⟩
     · omega
     · rw [bJ (by omega), hXk, rS3 hA hK]; rfl)
  | (refine ⟨_, _, ?_, aj [2, 3, 4, 5, 6, 8], k + 1, v, by omega, rfl, ?_⟩
     · omega
     · rw [bJ (by omega), hXk, rS4 hA hK]; rfl)
 (try simp only [zB, reduceCtorEq] at hc17)
 refine aP ?_
 apply k12; clear k12; refine kp [2, 3, 4, 5, 6, 8, 40] ?_
 refine V fun _ k31 => ?_
 refine V fun _ k32 => ?_
 have hkl : k = X.length := by omega
 have hSl := kr X t k (by omega)
 rw [hkl] at *
 refine a9 hP hN rfl ?_
 iterate 2 (refine Z rfl fun _ k0 => ?_; simp only [zO, zT, acs, reduceCtorEq, J, D, M, U, O, S]; (repeat refine an ?_); (try refine .inl ?_); apply k0; clear k0; simp only [zP, D])
 refine aa ?_
 apply k32; clear k32; refine kp [2, 3, 4, 5, 6, 8, 40, 88] ?_
 refine cd (fun hc33 => ?_) (fun hc33 => ?_)
 ·(try simp only [zB, reduceCtorEq] at hc33)
  have e1 := uS hp (by simpa using hc33)
  refine bh hP hN Tryd.mixed rfl ?_
  iterate 3 (refine Z rfl fun _ k0 => ?_; simp only [zO, zT, acs, reduceCtorEq, J, D, M, U, O, S]; (repeat refine an ?_); (try refine .inl ?_); apply k0; clear k0; simp only [zP, D])
  refine Z rfl fun _ k0 => ?_
  refine ak (h := ae (eM (t.1, (t.2.1, ())) ht.1 ht.2)) rfl rfl (by first | exact rfl | (simp only [ev, zP, J, D]; exact rfl)) (by simp only [zV, acs, reduceCtorEq, J, D, M, U, O, S]) ?_
  apply k0; clear k0; simp only [zP, D]
  iterate 4 (refine Z rfl fun _ k0 => ?_; simp only [zO, zT, acs, reduceCtorEq, J, D, M, U, O, S]; (repeat refine an ?_); (try refine .inl ?_); apply k0; clear k0; simp only [zP, D])
  refine aa ?_
  refine ⟨by kernel_rfl, ?_⟩
  apply k31; clear k31; refine kp [2, 3, 4, 5, 6, 8, 40, 88] ?_
  refine V fun _ k34 => ?_
  refine db 4 3 rfl rfl ?_; simp only [aR, ba, frC, zS, J, and_self, and_true, true_and, and_false, false_and, if_true, if_false, eq_self, reduceCtorEq, Nat.one_ne_zero, Nat.zero_ne_one]
  refine a9 hP hN rfl ?_
  iterate 2 (refine Z rfl fun _ k0 => ?_; simp only [zO, zT, acs, reduceCtorEq, J, D, M, U, O, S]; (repeat refine an ?_); (try refine .inl ?_); apply k0; clear k0; simp only [zP, D])
  refine aa ?_
  apply k34; clear k34; refine kp [2, 3, 4, 5, 6, 8, 40, 88] ?_
  refine af ?_
  refine ⟨nr, _, rfl, ?_⟩; simp only [zF, zP, J, D]
  rw [e1]; exact VLE.of_eq rfl
 (try simp only [zB, reduceCtorEq] at hc33)
 have e1 := uV hp (by simpa using hc33)
 refine ag ?_
 apply k31; clear k31; refine kp [2, 3, 4, 5, 6, 8, 40, 88] ?_
 refine V fun _ k35 => ?_
 refine db 4 3 rfl rfl ?_; simp only [aR, ba, frC, zS, J, and_self, and_true, true_and, and_false, false_and, if_true, if_false, eq_self, reduceCtorEq, Nat.one_ne_zero, Nat.zero_ne_one]
 refine a9 hP hN rfl ?_
 iterate 2 (refine Z rfl fun _ k0 => ?_; simp only [zO, zT, acs, reduceCtorEq, J, D, M, U, O, S]; (repeat refine an ?_); (try refine .inl ?_); apply k0; clear k0; simp only [zP, D])
 refine aa ?_
 apply k35; clear k35; refine kp [2, 3, 4, 5, 6, 8, 40, 88] ?_
 refine af ?_
 refine ⟨nr, _, rfl, ?_⟩; simp only [zF, zP, J, D]
 rw [e1]; exact VLE.of_eq rfl
theorem ln (a b : TRC) (ha : a.2.1.length = a.1.length) (hb : b.2.1.length = b.1.length) (hz : a.1.length ≤ 1000000) : aT Tryd.prog 62 [.agg [.list (.int .i64) a.1, .list (.int .i64) a.2.1], .agg [.list (.int .i64) b.1, .list (.int .i64) b.2.1]] (.one (.int .i64 (dfO a b))) := by
 have hcl := j6 a.1 b.1; have hdn := uq ha hb
 refine aw Tryd.func62 rfl (by kernel_rfl) (Nat.le_of_ble_eq_true rfl) rfl fun C hP hN hB => ?_
 replace hN : C.N = 29 := hN
 simp only [aF, D]
 refine V fun _ k1 => ?_
 refine a9 hP hN rfl ?_
 iterate 3 (refine Z rfl fun _ k0 => ?_; simp only [zO, zT, acs, reduceCtorEq, J, D, M, U, O, S]; (repeat refine an ?_); (try refine .inl ?_); apply k0; clear k0; simp only [zP, D])
 refine aa ?_
 apply k1; clear k1; refine kp [0, 1, 2, 3, 4] ?_
 refine V fun _ k2 => ?_
 refine a9 hP hN rfl ?_
 iterate 4 (refine Z rfl fun _ k0 => ?_; simp only [zO, zT, acs, reduceCtorEq, J, D, M, U, O, S]; (repeat refine an ?_); (try refine .inl ?_); apply k0; clear k0; simp only [zP, D])
 refine Z rfl fun _ k0 => ?_
 refine ak (h := ae (nv a.1 b.1)) rfl rfl (by first | exact rfl | (simp only [ev, zP, J, D]; exact rfl)) (by simp only [zV, acs, reduceCtorEq, J, D, M, U, O, S]) ?_
 apply k0; clear k0; simp only [zP, D]
 (refine Z rfl fun _ k0 => ?_; simp only [zO, zT, acs, reduceCtorEq, J, D, M, U, O, S]; (repeat refine an ?_); (try refine .inl ?_); apply k0; clear k0; simp only [zP, D])
 refine aa ?_
 apply k2; clear k2; refine kp [0, 1, 2, 3, 4, 5] ?_
 refine V fun _ k3 => ?_
 refine V fun _ k4 => ?_
 refine a9 hP hN rfl ?_
 (refine Z rfl fun _ k0 => ?_; simp only [zO, zT, acs, reduceCtorEq, J, D, M, U, O, S]; (repeat refine an ?_); (try refine .inl ?_); apply k0; clear k0; simp only [zP, D])
 refine aa ?_
 apply k4; clear k4; refine kp [0, 1, 2, 3, 4, 5, 6] ?_
 refine ar ?_
 refine aQ (fun n5 s5 => ∃ (k : Nat), (k ≤ cmn a.1 b.1) ∧ (∀ q : Nat, q < k → a.2.1.getD q 0 = b.2.1.getD q 0) ∧ n5 = cmn a.1 b.1 - k ∧ s5 = { env := [(2, .one (.ptr 0 0 0 0)), (3, .one (.ptr 1 0 0 0)), (4, .one (.int .i64 0)), (5, .one (.int .i64 (cmn a.1 b.1 : Int))), (6, .one (.int .i64 (k : Int)))], L := [.vars 60 [.list (.int .i64) a.1, .list (.int .i64) a.2.1], .vars 60 [.list (.int .i64) b.1, .list (.int .i64) b.2.1]] }) ?_ ?_
 ·exact ⟨_, _, aj [2, 3, 4, 5, 6], 0, Nat.zero_le _, fun q hq => by omega, rfl, rfl⟩
 rintro n5 s5 ⟨k, hk, hq, rfl, rfl⟩
 refine V fun _ k6 => ?_
 refine V fun _ k7 => ?_
 refine a9 hP hN rfl ?_
 iterate 3 (refine Z rfl fun _ k0 => ?_; simp only [zO, zT, acs, reduceCtorEq, J, D, M, U, O, S]; (repeat refine an ?_); (try refine .inl ?_); apply k0; clear k0; simp only [zP, D])
 refine aa ?_
 apply k7; clear k7; refine kp [2, 3, 4, 5, 6, 14] ?_
 refine cd (fun hc8 => ?_) (fun hc8 => ?_)
 ·(try simp only [zB, reduceCtorEq] at hc8)
  refine ag ?_
  apply k6; clear k6; refine kp [2, 3, 4, 5, 6, 14] ?_
  refine V fun _ k9 => ?_
  refine ar ?_
  refine V fun _ k10 => ?_
  refine bh hP hN Tryd.mixed rfl ?_
  iterate 11 (refine Z rfl fun _ k0 => ?_; simp only [zO, zT, acs, reduceCtorEq, J, D, M, U, O, S]; (repeat refine an ?_); (try refine .inl ?_); apply k0; clear k0; simp only [zP, D])
  refine aa ?_
  refine ⟨by kernel_rfl, ?_⟩
  apply k10; clear k10; refine kp [2, 3, 4, 5, 6, 14, 27] ?_
  refine cd (fun hc11 => ?_) (fun hc11 => ?_)
  ·(try simp only [zB, reduceCtorEq] at hc11)
   have hne := hc11
   refine V fun _ k12 => ?_
   refine a9 hP hN rfl ?_
   iterate 2 (refine Z rfl fun _ k0 => ?_; simp only [zO, zT, acs, reduceCtorEq, J, D, M, U, O, S]; (repeat refine an ?_); (try refine .inl ?_); apply k0; clear k0; simp only [zP, D])
   refine aa ?_
   apply k12; clear k12; refine kp [2, 3, 4, 5, 6, 14, 27] ?_
   refine af ?_
   refine ⟨nr, _, rfl, ?_⟩; simp only [zF, zP, J, D]
   refine VLE.of_eq ?_
   refine congrArg (fun n => AV.one (AC.int IntKind.i64 n)) ?_
   symm
   first
   | exact qM (k := k) (by omega) hq (by omega)
   | exact qN fun q hq2 => hq q (by omega)
  (try simp only [zB, reduceCtorEq] at hc11)
  have heq := hc11
  refine ag ?_
  apply k9; clear k9; refine kp [2, 3, 4, 5, 6, 14, 27] ?_
  refine a9 hP hN rfl ?_
  iterate 3 (refine Z rfl fun _ k0 => ?_; simp only [zO, zT, acs, reduceCtorEq, J, D, M, U, O, S]; (repeat refine an ?_); (try refine .inl ?_); apply k0; clear k0; simp only [zP, D])
  refine aa ?_
  refine ⟨_, _, ?_, aj [2, 3, 4, 5, 6], k + 1, by omega, fun q hq2 => ?_, rfl, rfl⟩
  · omega
  · by_cases e : q = k
    · rw [e]; omega
    · exact hq q (by omega)
 (try simp only [zB, reduceCtorEq] at hc8)
 refine aP ?_
 apply k3; clear k3; refine kp [2, 3, 4, 5, 6, 14] ?_
 refine V fun _ k13 => ?_
 refine a9 hP hN rfl ?_
 (refine Z rfl fun _ k0 => ?_; simp only [zO, zT, acs, reduceCtorEq, J, D, M, U, O, S]; (repeat refine an ?_); (try refine .inl ?_); apply k0; clear k0; simp only [zP, D])
 refine aa ?_
 apply k13; clear k13; refine kp [2, 3, 4, 5, 6, 14] ?_
 refine af ?_
 refine ⟨nr, _, rfl, ?_⟩; simp only [zF, zP, J, D]
 refine VLE.of_eq ?_
 refine congrArg (fun n => AV.one (AC.int IntKind.i64 n)) ?_
 symm
 first
 | exact qM (k := k) (by omega) hq (by omega)
 | exact qN fun q hq2 => hq q (by omega)
theorem tR (n : Int) : aT Tryd.prog 59 [.one (.int .i64 n)] (.one (.bool (decide (1 ≤ n) && decide (n ≤ 1024)))) := by
 refine aw Tryd.func59 rfl (by kernel_rfl) (Nat.le_of_ble_eq_true rfl) rfl fun C hP hN hB => ?_
 replace hN : C.N = 9 := hN
 simp only [aF, D]
 refine V fun _ k1 => ?_
 refine a9 hP hN rfl ?_
 (refine Z rfl fun _ k0 => ?_; simp only [zO, zT, acs, reduceCtorEq, J, D, M, U, O, S]; (repeat refine an ?_); (try refine .inl ?_); apply k0; clear k0; simp only [zP, D])
 refine aa ?_
 apply k1; clear k1; refine kp [0, 2] ?_
 refine V fun _ k2 => ?_
 refine a9 hP hN rfl ?_
 iterate 3 (refine Z rfl fun _ k0 => ?_; simp only [zO, zT, acs, reduceCtorEq, J, D, M, U, O, S]; (repeat refine an ?_); (try refine .inl ?_); apply k0; clear k0; simp only [zP, D])
 refine' aA (want := true) 2 rfl (m := 5) (by simp only [zP, J, D]; exact rfl) (by kernel_rfl) rfl rfl rfl rfl rfl (fun hg3 => ?a3) ?b3 ?c3
 case a3 =>
  have hq3 := hg3; (try simp only [zB, reduceCtorEq] at hg3); simp only [zE]
  iterate 2 (refine aH rfl fun _ k0 => ?_; simp only [zO, zT, acs, reduceCtorEq, J, D, M, U, O, S]; (repeat refine an ?_); (try refine .inl ?_); apply k0; clear k0; simp only [zP, D])
  (refine Z rfl fun _ k0 => ?_; simp only [zO, zT, acs, reduceCtorEq, J, D, M, U, O, S]; (repeat refine an ?_); (try refine .inl ?_); apply k0; clear k0; simp only [zP, D])
  refine aa ?_
  refine ⟨by simp only [zP, J, D]; exact rfl, rfl, ?_, rfl⟩; (repeat refine aB rfl ?_); exact aO (by exact rfl) hq3
 case b3 => exact b9
 simp only [aK, aE]
 (refine Z rfl fun _ k0 => ?_; simp only [zO, zT, acs, reduceCtorEq, J, D, M, U, O, S]; (repeat refine an ?_); (try refine .inl ?_); apply k0; clear k0; simp only [zP, D])
 refine aa ?_
 apply k2; clear k2; refine kp [0, 2] ?_
 refine af ?_
 refine ⟨nr, _, rfl, ?_⟩; simp only [zF, zP, J, D]
 refine VLE.of_eq ?_
 rfl
theorem mB (w : List Int) (n : Int) : aT Tryd.prog 40 [.one (.list (.int .i64) w), .one (.int .i64 n)] (.one (.int .i64 (aW w n))) := by
 refine aw Tryd.func40 rfl (by kernel_rfl) (Nat.le_of_ble_eq_true rfl) rfl fun C hP hN hB => ?_
 replace hN : C.N = 31 := hN
 simp only [aF, D]
 refine V fun _ k1 => ?_
 refine a9 hP hN rfl ?_
 (refine Z rfl fun _ k0 => ?_; simp only [zO, zT, acs, reduceCtorEq, J, D, M, U, O, S]; (repeat refine an ?_); (try refine .inl ?_); apply k0; clear k0; simp only [zP, D])
 refine aa ?_
 apply k1; clear k1; refine kp [0, 1, 4] ?_
 refine V fun _ k2 => ?_
 refine V fun _ k3 => ?_
 refine a9 hP hN rfl ?_
 (refine Z rfl fun _ k0 => ?_; simp only [zO, zT, acs, reduceCtorEq, J, D, M, U, O, S]; (repeat refine an ?_); (try refine .inl ?_); apply k0; clear k0; simp only [zP, D])
 refine Z rfl fun _ k0 => ?_
 refine ak (h := ae (tR n)) rfl rfl (by first | exact rfl | (simp only [ev, zP, J, D]; exact rfl)) (by simp only [zV, acs, reduceCtorEq, J, D, M, U, O, S]) ?_
 apply k0; clear k0; simp only [zP, D]
 (refine Z rfl fun _ k0 => ?_; simp only [zO, zT, acs, reduceCtorEq, J, D, M, U, O, S]; (repeat refine an ?_); (try refine .inl ?_); apply k0; clear k0; simp only [zP, D])
 refine aa ?_
 apply k3; clear k3; refine kp [0, 1, 4, 8] ?_
 refine cd (fun hc4 => ?_) (fun hc4 => ?_)
 ·(try simp only [zB, reduceCtorEq] at hc4)
  refine V fun _ k5 => ?_
  refine a9 hP hN rfl ?_
  (refine Z rfl fun _ k0 => ?_; simp only [zO, zT, acs, reduceCtorEq, J, D, M, U, O, S]; (repeat refine an ?_); (try refine .inl ?_); apply k0; clear k0; simp only [zP, D])
  refine aa ?_
  apply k5; clear k5; refine kp [0, 1, 4, 8] ?_
  refine af ?_
  refine ⟨nr, _, rfl, ?_⟩; simp only [zF, zP, J, D]
  refine VLE.of_eq ?_
  refine congrArg (fun n => AV.one (AC.int IntKind.i64 n)) ?_
  symm
  first
  | (unfold aW; rw [if_pos (by omega)]; done)
  | (unfold aW; rw [if_neg (by omega), if_pos (by omega)]; done)
  | exact fl (by omega) (by omega) (by omega) (i := k) (by omega) (by omega)
  | exact gK (by omega) (by omega) ⟨by omega, fun i hi => hI i (by omega)⟩
 (try simp only [zB, reduceCtorEq] at hc4)
 refine ag ?_
 apply k2; clear k2; refine kp [0, 1, 4, 8] ?_
 refine V fun _ k6 => ?_
 refine V fun _ k7 => ?_
 refine a9 hP hN rfl ?_
 iterate 3 (refine Z rfl fun _ k0 => ?_; simp only [zO, zT, acs, reduceCtorEq, J, D, M, U, O, S]; (repeat refine an ?_); (try refine .inl ?_); apply k0; clear k0; simp only [zP, D])
 refine aa ?_
 apply k7; clear k7; refine kp [0, 1, 4, 8, 11] ?_
 refine cd (fun hc8 => ?_) (fun hc8 => ?_)
 ·(try simp only [zB, reduceCtorEq] at hc8)
  refine V fun _ k9 => ?_
  refine a9 hP hN rfl ?_
  (refine Z rfl fun _ k0 => ?_; simp only [zO, zT, acs, reduceCtorEq, J, D, M, U, O, S]; (repeat refine an ?_); (try refine .inl ?_); apply k0; clear k0; simp only [zP, D])
  refine aa ?_
  apply k9; clear k9; refine kp [0, 1, 4, 8, 11] ?_
  refine af ?_
  refine ⟨nr, _, rfl, ?_⟩; simp only [zF, zP, J, D]
  refine VLE.of_eq ?_
  refine congrArg (fun n => AV.one (AC.int IntKind.i64 n)) ?_
  symm
  first
  | (unfold aW; rw [if_pos (by omega)]; done)
  | (unfold aW; rw [if_neg (by omega), if_pos (by omega)]; done)
  | exact fl (by omega) (by omega) (by omega) (i := k) (by omega) (by omega)
  | exact gK (by omega) (by omega) ⟨by omega, fun i hi => hI i (by omega)⟩
 (try simp only [zB, reduceCtorEq] at hc8)
 refine ag ?_
 apply k6; clear k6; refine kp [0, 1, 4, 8, 11] ?_
 refine V fun _ k10 => ?_
 refine V fun _ k11 => ?_
 refine a9 hP hN rfl ?_
 (refine Z rfl fun _ k0 => ?_; simp only [zO, zT, acs, reduceCtorEq, J, D, M, U, O, S]; (repeat refine an ?_); (try refine .inl ?_); apply k0; clear k0; simp only [zP, D])
 refine aa ?_
 apply k11; clear k11; refine kp [0, 1, 4, 5, 8, 11] ?_
 refine ar ?_
 refine aQ (fun n12 s12 => ∃ (k : Nat), (k ≤ w.length) ∧ (∀ i, i < k → 0 ≤ w.getD i 0 ∧ w.getD i 0 < n) ∧ n12 = w.length - k ∧ s12 = { env := [(0, .one (.list (.int .i64) w)), (1, .one (.int .i64 n)), (5, .one (.int .i64 (k : Int)))], L := [] }) ?_ ?_
 ·exact ⟨_, _, aj [0, 1, 5], 0, Nat.zero_le _, fun i hi => by omega, rfl, rfl⟩
 rintro n12 s12 ⟨k, hk, hI, rfl, rfl⟩
 refine V fun _ k13 => ?_
 refine V fun _ k14 => ?_
 refine a9 hP hN rfl ?_
 iterate 4 (refine Z rfl fun _ k0 => ?_; simp only [zO, zT, acs, reduceCtorEq, J, D, M, U, O, S]; (repeat refine an ?_); (try refine .inl ?_); apply k0; clear k0; simp only [zP, D])
 refine aa ?_
 apply k14; clear k14; refine kp [0, 1, 5, 15] ?_
 refine cd (fun hc15 => ?_) (fun hc15 => ?_)
 ·(try simp only [zB, reduceCtorEq] at hc15)
  refine ag ?_
  apply k13; clear k13; refine kp [0, 1, 5, 15] ?_
  refine V fun _ k16 => ?_
  refine ar ?_
  refine V fun _ k17 => ?_
  refine a9 hP hN rfl ?_
  iterate 6 (refine Z rfl fun _ k0 => ?_; simp only [zO, zT, acs, reduceCtorEq, J, D, M, U, O, S]; (repeat refine an ?_); (try refine .inl ?_); apply k0; clear k0; simp only [zP, D])
  refine' aA (want := false) 6 rfl (m := 23) (by simp only [zP, J, D]; exact rfl) (by kernel_rfl) rfl rfl rfl rfl rfl (fun hg18 => ?a18) ?b18 ?c18
  case a18 =>
   have hq18 := hg18; (try simp only [zB, reduceCtorEq] at hg18); simp only [zE]
   iterate 6 (refine aH rfl fun _ k0 => ?_; simp only [zO, zT, acs, reduceCtorEq, J, D, M, U, O, S]; (repeat refine an ?_); (try refine .inl ?_); apply k0; clear k0; simp only [zP, D])
   (refine Z rfl fun _ k0 => ?_; simp only [zO, zT, acs, reduceCtorEq, J, D, M, U, O, S]; (repeat refine an ?_); (try refine .inl ?_); apply k0; clear k0; simp only [zP, D])
   refine aa ?_
   refine ⟨by simp only [zP, J, D]; exact rfl, rfl, ?_, rfl⟩; (repeat refine aB rfl ?_); exact aO (by exact rfl) hq18
  case b18 => exact b9
  simp only [aK, aE]
  refine aa ?_
  apply k17; clear k17; refine kp [0, 1, 5, 15, 30] ?_
  refine cd (fun hc19 => ?_) (fun hc19 => ?_)
  ·(try simp only [zB, reduceCtorEq] at hc19)
   refine V fun _ k20 => ?_
   refine a9 hP hN rfl ?_
   (refine Z rfl fun _ k0 => ?_; simp only [zO, zT, acs, reduceCtorEq, J, D, M, U, O, S]; (repeat refine an ?_); (try refine .inl ?_); apply k0; clear k0; simp only [zP, D])
   refine aa ?_
   apply k20; clear k20; refine kp [0, 1, 4, 5, 15, 30] ?_
   refine af ?_
   refine ⟨nr, _, rfl, ?_⟩; simp only [zF, zP, J, D]
   refine VLE.of_eq ?_
   refine congrArg (fun n => AV.one (AC.int IntKind.i64 n)) ?_
   symm
   first
   | (unfold aW; rw [if_pos (by omega)]; done)
   | (unfold aW; rw [if_neg (by omega), if_pos (by omega)]; done)
   | exact fl (by omega) (by omega) (by omega) (i := k) (by omega) (by omega)
   | exact gK (by omega) (by omega) ⟨by omega, fun i hi => hI i (by omega)⟩
  (try simp only [zB, reduceCtorEq] at hc19)
  refine ag ?_
  apply k16; clear k16; refine kp [0, 1, 5, 15, 30] ?_
  refine a9 hP hN rfl ?_
  iterate 3 (refine Z rfl fun _ k0 => ?_; simp only [zO, zT, acs, reduceCtorEq, J, D, M, U, O, S]; (repeat refine an ?_); (try refine .inl ?_); apply k0; clear k0; simp only [zP, D])
  refine aa ?_
  refine ⟨_, _, ?_, aj [0, 1, 5], k + 1, by omega, fun i hi => ?_, rfl, rfl⟩
  · omega
  · by_cases e : i = k
    · rw [e]; omega
    · exact hI i (by omega)
 (try simp only [zB, reduceCtorEq] at hc15)
 refine aP ?_
 apply k10; clear k10; refine kp [0, 1, 5, 15] ?_
 refine V fun _ k21 => ?_
 refine a9 hP hN rfl ?_
 (refine Z rfl fun _ k0 => ?_; simp only [zO, zT, acs, reduceCtorEq, J, D, M, U, O, S]; (repeat refine an ?_); (try refine .inl ?_); apply k0; clear k0; simp only [zP, D])
 refine aa ?_
 apply k21; clear k21; refine kp [0, 1, 4, 5, 15] ?_
 refine af ?_
 refine ⟨nr, _, rfl, ?_⟩; simp only [zF, zP, J, D]
 refine VLE.of_eq ?_
 refine congrArg (fun n => AV.one (AC.int IntKind.i64 n)) ?_
 symm
 first
 | (unfold aW; rw [if_pos (by omega)]; done)
 | (unfold aW; rw [if_neg (by omega), if_pos (by omega)]; done)
 | exact fl (by omega) (by omega) (by omega) (i := k) (by omega) (by omega)
 | exact gK (by omega) (by omega) ⟨by omega, fun i hi => hI i (by omega)⟩
theorem iu (t : TRC) (n : Int) : aT Tryd.prog 41 [.agg [.list (.int .i64) t.1, .list (.int .i64) t.2.1], .one (.int .i64 n)] (.one (.int .i64 (prO n t))) := by
 refine aw Tryd.func41 rfl (by kernel_rfl) (Nat.le_of_ble_eq_true rfl) rfl fun C hP hN hB => ?_
 replace hN : C.N = 42 := hN
 simp only [aF, D]
 refine V fun _ k1 => ?_
 refine a9 hP hN rfl ?_
 iterate 2 (refine Z rfl fun _ k0 => ?_; simp only [zO, zT, acs, reduceCtorEq, J, D, M, U, O, S]; (repeat refine an ?_); (try refine .inl ?_); apply k0; clear k0; simp only [zP, D])
 refine aa ?_
 apply k1; clear k1; refine kp [0, 1, 2, 4] ?_
 refine V fun _ k2 => ?_
 refine V fun _ k3 => ?_
 refine a9 hP hN rfl ?_
 iterate 3 (refine Z rfl fun _ k0 => ?_; simp only [zO, zT, acs, reduceCtorEq, J, D, M, U, O, S]; (repeat refine an ?_); (try refine .inl ?_); apply k0; clear k0; simp only [zP, D])
 refine Z rfl fun _ k0 => ?_
 refine ak (h := ae (mB t.1 n)) rfl rfl (by first | exact rfl | (simp only [ev, zP, J, D]; exact rfl)) (by simp only [zV, acs, reduceCtorEq, J, D, M, U, O, S]) ?_
 apply k0; clear k0; simp only [zP, D]
 (refine Z rfl fun _ k0 => ?_; simp only [zO, zT, acs, reduceCtorEq, J, D, M, U, O, S]; (repeat refine an ?_); (try refine .inl ?_); apply k0; clear k0; simp only [zP, D])
 refine aa ?_
 apply k3; clear k3; refine kp [0, 1, 2, 4, 5] ?_
 refine V fun _ k4 => ?_
 refine a9 hP hN rfl ?_
 iterate 2 (refine Z rfl fun _ k0 => ?_; simp only [zO, zT, acs, reduceCtorEq, J, D, M, U, O, S]; (repeat refine an ?_); (try refine .inl ?_); apply k0; clear k0; simp only [zP, D])
 refine aa ?_
 apply k4; clear k4; refine kp [0, 1, 2, 4, 5, 12] ?_
 refine cd (fun hc5 => ?_) (fun hc5 => ?_)
 ·(try simp only [zB, reduceCtorEq] at hc5)
  have h1 := hc5
  refine V fun _ k6 => ?_
  refine a9 hP hN rfl ?_
  iterate 2 (refine Z rfl fun _ k0 => ?_; simp only [zO, zT, acs, reduceCtorEq, J, D, M, U, O, S]; (repeat refine an ?_); (try refine .inl ?_); apply k0; clear k0; simp only [zP, D])
  refine aa ?_
  apply k6; clear k6; refine kp [0, 1, 2, 4, 5, 12] ?_
  refine af ?_
  refine ⟨nr, _, rfl, ?_⟩; simp only [zF, zP, J, D]
  refine VLE.of_eq ?_
  refine congrArg (fun n => AV.one (AC.int IntKind.i64 n)) ?_
  symm
  first
  | exact fy h1
  | exact fu h1 (by omega)
  | exact gx h1 (by omega) (kn (k := k) (by omega) hq (by omega))
  | exact gp h1 (by omega) (mU fun q hq2 => hq q (by omega))
 (try simp only [zB, reduceCtorEq] at hc5)
 have h1 := hc5
 have hlen := (ef h1).len
 refine ag ?_
 apply k2; clear k2; refine kp [0, 1, 2, 4, 5, 12] ?_
 refine V fun _ k7 => ?_
 refine V fun _ k8 => ?_
 refine a9 hP hN rfl ?_
 iterate 7 (refine Z rfl fun _ k0 => ?_; simp only [zO, zT, acs, reduceCtorEq, J, D, M, U, O, S]; (repeat refine an ?_); (try refine .inl ?_); apply k0; clear k0; simp only [zP, D])
 refine aa ?_
 apply k8; clear k8; refine kp [0, 1, 2, 4, 5, 12, 20] ?_
 refine cd (fun hc9 => ?_) (fun hc9 => ?_)
 ·(try simp only [zB, reduceCtorEq] at hc9)
  have h2 := hc9
  refine V fun _ k10 => ?_
  refine a9 hP hN rfl ?_
  (refine Z rfl fun _ k0 => ?_; simp only [zO, zT, acs, reduceCtorEq, J, D, M, U, O, S]; (repeat refine an ?_); (try refine .inl ?_); apply k0; clear k0; simp only [zP, D])
  refine aa ?_
  apply k10; clear k10; refine kp [0, 1, 2, 4, 5, 12, 20] ?_
  refine af ?_
  refine ⟨nr, _, rfl, ?_⟩; simp only [zF, zP, J, D]
  refine VLE.of_eq ?_
  refine congrArg (fun n => AV.one (AC.int IntKind.i64 n)) ?_
  symm
  first
  | exact fy h1
  | exact fu h1 (by omega)
  | exact gx h1 (by omega) (kn (k := k) (by omega) hq (by omega))
  | exact gp h1 (by omega) (mU fun q hq2 => hq q (by omega))
 (try simp only [zB, reduceCtorEq] at hc9)
 have h2 := hc9
 refine ag ?_
 apply k7; clear k7; refine kp [0, 1, 2, 4, 5, 12, 20] ?_
 refine V fun _ k11 => ?_
 refine V fun _ k12 => ?_
 refine a9 hP hN rfl ?_
 (refine Z rfl fun _ k0 => ?_; simp only [zO, zT, acs, reduceCtorEq, J, D, M, U, O, S]; (repeat refine an ?_); (try refine .inl ?_); apply k0; clear k0; simp only [zP, D])
 refine aa ?_
 apply k12; clear k12; refine kp [0, 1, 2, 4, 5, 6, 12, 20] ?_
 refine ar ?_
 refine aQ (fun n13 s13 => ∃ (k : Nat), (k ≤ t.2.1.length) ∧ (∀ q : Nat, q < k → 0 ≤ t.2.1.getD q 0 ∧ t.2.1.getD q 0 ≤ 1048576) ∧ n13 = t.2.1.length - k ∧ s13 = { env := [(2, .one (.ptr 0 0 0 0)), (4, .one (.int .i64 0)), (6, .one (.int .i64 (k : Int)))], L := [.vars 60 [.list (.int .i64) t.1, .list (.int .i64) t.2.1]] }) ?_ ?_
 ·exact ⟨_, _, aj [2, 4, 6], 0, Nat.zero_le _, fun q hq => by omega, rfl, rfl⟩
 rintro n13 s13 ⟨k, hk, hq, rfl, rfl⟩
 refine V fun _ k14 => ?_
 refine V fun _ k15 => ?_
 refine a9 hP hN rfl ?_
 iterate 5 (refine Z rfl fun _ k0 => ?_; simp only [zO, zT, acs, reduceCtorEq, J, D, M, U, O, S]; (repeat refine an ?_); (try refine .inl ?_); apply k0; clear k0; simp only [zP, D])
 refine aa ?_
 apply k15; clear k15; refine kp [2, 4, 6, 25] ?_
 refine cd (fun hc16 => ?_) (fun hc16 => ?_)
 ·(try simp only [zB, reduceCtorEq] at hc16)
  refine ag ?_
  apply k14; clear k14; refine kp [2, 4, 6, 25] ?_
  refine V fun _ k17 => ?_
  refine ar ?_
  refine V fun _ k18 => ?_
  refine a9 hP hN rfl ?_
  iterate 7 (refine Z rfl fun _ k0 => ?_; simp only [zO, zT, acs, reduceCtorEq, J, D, M, U, O, S]; (repeat refine an ?_); (try refine .inl ?_); apply k0; clear k0; simp only [zP, D])
  refine' aA (want := false) 6 rfl (m := 34) (by simp only [zP, J, D]; exact rfl) (by kernel_rfl) rfl rfl rfl rfl rfl (fun hg19 => ?a19) ?b19 ?c19
  case a19 =>
   have hq19 := hg19; (try simp only [zB, reduceCtorEq] at hg19); simp only [zE]
   iterate 6 (refine aH rfl fun _ k0 => ?_; simp only [zO, zT, acs, reduceCtorEq, J, D, M, U, O, S]; (repeat refine an ?_); (try refine .inl ?_); apply k0; clear k0; simp only [zP, D])
   (refine Z rfl fun _ k0 => ?_; simp only [zO, zT, acs, reduceCtorEq, J, D, M, U, O, S]; (repeat refine an ?_); (try refine .inl ?_); apply k0; clear k0; simp only [zP, D])
   refine aa ?_
   refine ⟨by simp only [zP, J, D]; exact rfl, rfl, ?_, rfl⟩; (repeat refine aB rfl ?_); exact aO (by exact rfl) hq19
  case b19 => exact b9
  simp only [aK, aE]
  refine aa ?_
  apply k18; clear k18; refine kp [2, 4, 6, 25, 41] ?_
  refine cd (fun hc20 => ?_) (fun hc20 => ?_)
  ·(try simp only [zB, reduceCtorEq] at hc20)
   have hbd := hc20
   refine V fun _ k21 => ?_
   refine a9 hP hN rfl ?_
   (refine Z rfl fun _ k0 => ?_; simp only [zO, zT, acs, reduceCtorEq, J, D, M, U, O, S]; (repeat refine an ?_); (try refine .inl ?_); apply k0; clear k0; simp only [zP, D])
   refine aa ?_
   apply k21; clear k21; refine kp [2, 4, 6, 25, 41] ?_
   refine af ?_
   refine ⟨nr, _, rfl, ?_⟩; simp only [zF, zP, J, D]
   refine VLE.of_eq ?_
   refine congrArg (fun n => AV.one (AC.int IntKind.i64 n)) ?_
   symm
   first
   | exact fy h1
   | exact fu h1 (by omega)
   | exact gx h1 (by omega) (kn (k := k) (by omega) hq (by omega))
   | exact gp h1 (by omega) (mU fun q hq2 => hq q (by omega))
  (try simp only [zB, reduceCtorEq] at hc20)
  have hgd := hc20
  refine ag ?_
  apply k17; clear k17; refine kp [2, 4, 6, 25, 41] ?_
  refine a9 hP hN rfl ?_
  iterate 3 (refine Z rfl fun _ k0 => ?_; simp only [zO, zT, acs, reduceCtorEq, J, D, M, U, O, S]; (repeat refine an ?_); (try refine .inl ?_); apply k0; clear k0; simp only [zP, D])
  refine aa ?_
  refine ⟨_, _, ?_, aj [2, 4, 6], k + 1, by omega, fun q hq2 => ?_, rfl, rfl⟩
  · omega
  · by_cases e : q = k
    · rw [e]; omega
    · exact hq q (by omega)
 (try simp only [zB, reduceCtorEq] at hc16)
 refine aP ?_
 apply k11; clear k11; refine kp [2, 4, 6, 25] ?_
 refine V fun _ k22 => ?_
 refine a9 hP hN rfl ?_
 (refine Z rfl fun _ k0 => ?_; simp only [zO, zT, acs, reduceCtorEq, J, D, M, U, O, S]; (repeat refine an ?_); (try refine .inl ?_); apply k0; clear k0; simp only [zP, D])
 refine aa ?_
 apply k22; clear k22; refine kp [2, 4, 6, 25] ?_
 refine af ?_
 refine ⟨nr, _, rfl, ?_⟩; simp only [zF, zP, J, D]
 refine VLE.of_eq ?_
 refine congrArg (fun n => AV.one (AC.int IntKind.i64 n)) ?_
 symm
 first
 | exact fy h1
 | exact fu h1 (by omega)
 | exact gx h1 (by omega) (kn (k := k) (by omega) hq (by omega))
 | exact gp h1 (by omega) (mU fun q hq2 => hq q (by omega))
theorem tX (n : Int) (X : List TRC) (t : TRC) (hX : OBI n X) (hl : X.length ≤ 8000) : aT Tryd.prog 45 [.agg [.int .i64 n, .list (.pair (.list (.int .i64)) (.pair (.list (.int .i64)) .unit)) X], .agg [.list (.int .i64) t.1, .list (.int .i64) t.2.1]] (.tup [.agg [.int .i64 n, .list (.pair (.list (.int .i64)) (.pair (.list (.int .i64)) .unit)) (fJ n X [t])], .one (.int .i64 (fK n X [t]))]) := by
 obtain ⟨a1, a2⟩ := lA n X t
 have hb : LB 100000 X := fun u hu => by have := ip (hX.pr u hu); omega
 have hsl := md X t
 refine aw Tryd.func45 rfl (by kernel_rfl) (Nat.le_of_ble_eq_true rfl) rfl fun C hP hN hB => ?_
 replace hN : C.N = 42 := hN
 simp only [aF, D]
 refine V fun _ k1 => ?_
 refine a9 hP hN rfl ?_
 iterate 4 (refine Z rfl fun _ k0 => ?_; simp only [zO, zT, acs, reduceCtorEq, J, D, M, U, O, S]; (repeat refine an ?_); (try refine .inl ?_); apply k0; clear k0; simp only [zP, D])
 refine aa ?_
 apply k1; clear k1; refine kp [0, 1, 2, 3, 4, 5] ?_
 refine V fun _ k2 => ?_
 refine V fun _ k3 => ?_
 refine a9 hP hN rfl ?_
 iterate 3 (refine Z rfl fun _ k0 => ?_; simp only [zO, zT, acs, reduceCtorEq, J, D, M, U, O, S]; (repeat refine an ?_); (try refine .inl ?_); apply k0; clear k0; simp only [zP, D])
 refine Z rfl fun _ k0 => ?_
 refine ak (h := ae (iu t n)) rfl rfl (by first | exact rfl | (simp only [ev, zP, J, D]; exact rfl)) (by simp only [zV, acs, reduceCtorEq, J, D, M, U, O, S]) ?_
 apply k0; clear k0; simp only [zP, D]
 (refine Z rfl fun _ k0 => ?_; simp only [zO, zT, acs, reduceCtorEq, J, D, M, U, O, S]; (repeat refine an ?_); (try refine .inl ?_); apply k0; clear k0; simp only [zP, D])
 refine aa ?_
 apply k3; clear k3; refine kp [0, 1, 2, 3, 4, 5, 6] ?_
 refine V fun _ k4 => ?_
 refine a9 hP hN rfl ?_
 iterate 2 (refine Z rfl fun _ k0 => ?_; simp only [zO, zT, acs, reduceCtorEq, J, D, M, U, O, S]; (repeat refine an ?_); (try refine .inl ?_); apply k0; clear k0; simp only [zP, D])
 refine aa ?_
 apply k4; clear k4; refine kp [0, 1, 2, 3, 4, 5, 6, 14] ?_
 refine cd (fun hc5 => ?_) (fun hc5 => ?_)
 ·(try simp only [zB, reduceCtorEq] at hc5)
  have hpb : ¬ prO n t = 0 := hc5
  have hst := qG (X := X) hpb
  have hsn : ¬ d5 n X t = 0 := by rw [hst]; exact hpb
  refine V fun _ k6 => ?_
  refine a9 hP hN rfl ?_
  iterate 4 (refine Z rfl fun _ k0 => ?_; simp only [zO, zT, acs, reduceCtorEq, J, D, M, U, O, S]; (repeat refine an ?_); (try refine .inl ?_); apply k0; clear k0; simp only [zP, D])
  refine aa ?_
  apply k6; clear k6; refine kp [0, 1, 2, 3, 4, 5, 6, 14] ?_
  refine af ?_
  refine ⟨nr, _, rfl, ?_⟩; simp only [zF, zP, J, D]
  first
  | (rw [a1, a2, if_neg hsn, hst]; exact VLE.of_eq rfl)
  | (rw [a1, a2, if_pos hst, hst]; exact VLE.of_eq rfl)
 (try simp only [zB, reduceCtorEq] at hc5)
 have hpz : prO n t = 0 := hc5
 have hpt := (kg hpz).2
 refine ag ?_
 apply k2; clear k2; refine kp [0, 1, 2, 3, 4, 5, 6, 14] ?_
 refine V fun _ k7 => ?_
 refine V fun _ k8 => ?_
 refine a9 hP hN rfl ?_
 (refine Z rfl fun _ k0 => ?_; simp only [zO, zT, acs, reduceCtorEq, J, D, M, U, O, S]; (repeat refine an ?_); (try refine .inl ?_); apply k0; clear k0; simp only [zP, D])
 refine aa ?_
 apply k8; clear k8; refine kp [0, 1, 2, 3, 4, 5, 6, 7, 14] ?_
 refine ar ?_
 refine aQ (fun n9 s9 => ∃ (k : Nat), (k ≤ X.length) ∧ (∀ q : Nat, q < k → ¬ 0 ≤ dfO (X.getD q aC) t) ∧ n9 = X.length - k ∧ s9 = { env := [(2, .one (.ptr 0 0 0 0)), (3, .one (.ptr 1 0 0 0)), (4, .one (.ptr 2 0 0 0)), (5, .one (.int .i64 0)), (7, .one (.int .i64 (k : Int)))], L := [.vars 47 [.int .i64 n, .list (.pair (.list (.int .i64)) (.pair (.list (.int .i64)) .unit)) X], .vars 60 [.list (.int .i64) t.1, .list (.int .i64) t.2.1], .vars 47 [.int .i64 0, .nils]] }) ?_ ?_
 ·exact ⟨_, _, aj [2, 3, 4, 5, 7], 0, Nat.zero_le _, fun q hq => by omega, rfl, rfl⟩
 rintro n9 s9 ⟨k, hk, hq, rfl, rfl⟩
 refine V fun _ k10 => ?_
 refine V fun _ k11 => ?_
 refine a9 hP hN rfl ?_
 iterate 5 (refine Z rfl fun _ k0 => ?_; simp only [zO, zT, acs, reduceCtorEq, J, D, M, U, O, S]; (repeat refine an ?_); (try refine .inl ?_); apply k0; clear k0; simp only [zP, D])
 refine aa ?_
 apply k11; clear k11; refine kp [2, 3, 4, 5, 7, 21] ?_
 refine cd (fun hc12 => ?_) (fun hc12 => ?_)
 ·(try simp only [zB, reduceCtorEq] at hc12)
  refine ag ?_
  apply k10; clear k10; refine kp [2, 3, 4, 5, 7, 21] ?_
  refine V fun _ k13 => ?_
  refine ar ?_
  refine V fun _ k14 => ?_
  obtain ⟨x1, x2, hgx⟩ : ∃ x1 x2, ∀ d, X.getD k d = (x1, (x2, ())) := ⟨_, _, bP (by omega)⟩
  have hXk : X.getD k aC = (x1, (x2, ())) := hgx _
  have hx9 : x2.length = x1.length := by
    have h9 := (kg (hX.pr (X.getD k aC) (by simp [List.getD, show k < X.length by omega]))).2
    rw [hXk] at h9; exact h9
  have hx1 : x1.length ≤ 100000 := (hb.get (k := k) (by omega) hXk).1
  refine bh hP hN Tryd.mixed rfl ?_
  iterate 6 (refine Z rfl fun _ k0 => ?_; simp only [zO, zT, acs, reduceCtorEq, J, D, M, U, O, S, gt, ad, hgx]; (repeat refine an ?_); (try refine .inl ?_); apply k0; clear k0; simp only [zP, D])
  refine Z rfl fun _ k0 => ?_
  refine ak (h := ae (ln (x1, (x2, ())) t hx9 hpt (by show x1.length ≤ 1000000; omega))) rfl rfl (by first | exact rfl | (simp only [ev, zP, J, D]; exact rfl)) (by simp only [zV, acs, reduceCtorEq, J, D, M, U, O, S, gt, ad, hgx]) ?_
  apply k0; clear k0; simp only [zP, D]
  (refine Z rfl fun _ k0 => ?_; simp only [zO, zT, acs, reduceCtorEq, J, D, M, U, O, S, gt, ad, hgx]; (repeat refine an ?_); (try refine .inl ?_); apply k0; clear k0; simp only [zP, D])
  refine aa ?_
  refine ⟨by kernel_rfl, ?_⟩
  apply k14; clear k14; refine kp [2, 3, 4, 5, 7, 21, 31] ?_
  refine cd (fun hc15 => ?_) (fun hc15 => ?_)
  ·(try simp only [zB, reduceCtorEq] at hc15)
   have hnd := hc15
   have hst : d5 n X t = 13 := oP hpz (o5 (k := k) (by omega) (by rw [hXk]; exact hnd))
   have hsn : ¬ d5 n X t = 0 := by rw [hst]; decide
   refine V fun _ k16 => ?_
   refine a9 hP hN rfl ?_
   iterate 3 (refine Z rfl fun _ k0 => ?_; simp only [zO, zT, acs, reduceCtorEq, J, D, M, U, O, S]; (repeat refine an ?_); (try refine .inl ?_); apply k0; clear k0; simp only [zP, D])
   refine aa ?_
   apply k16; clear k16; refine kp [2, 3, 4, 5, 7, 21, 31] ?_
   refine af ?_
   refine ⟨nr, _, rfl, ?_⟩; simp only [zF, zP, J, D]
   first
   | (rw [a1, a2, if_neg hsn, hst]; exact VLE.of_eq rfl)
   | (rw [a1, a2, if_pos hst, hst]; exact VLE.of_eq rfl)
  (try simp only [zB, reduceCtorEq] at hc15)
  have hnd := hc15
  refine ag ?_
  apply k13; clear k13; refine kp [2, 3, 4, 5, 7, 21, 31] ?_
  refine a9 hP hN rfl ?_
  iterate 3 (refine Z rfl fun _ k0 => ?_; simp only [zO, zT, acs, reduceCtorEq, J, D, M, U, O, S]; (repeat refine an ?_); (try refine .inl ?_); apply k0; clear k0; simp only [zP, D])
  refine aa ?_
  refine ⟨_, _, ?_, aj [2, 3, 4, 5, 7], k + 1, by omega, fun q hq2 => ?_, rfl, rfl⟩
  · omega
  · by_cases e : q = k
    · rw [e, hXk]; omega
    · exact hq q (by omega)
 (try simp only [zB, reduceCtorEq] at hc12)
 refine aP ?_
 apply k7; clear k7; refine kp [2, 3, 4, 5, 7, 21] ?_
 refine V fun _ k17 => ?_
 have hst : d5 n X t = 0 := nL hpz (p8 fun q hq2 => hq q (by omega))
 refine a9 hP hN rfl ?_
 iterate 2 (refine Z rfl fun _ k0 => ?_; simp only [zO, zT, acs, reduceCtorEq, J, D, M, U, O, S]; (repeat refine an ?_); (try refine .inl ?_); apply k0; clear k0; simp only [zP, D])
 refine Z rfl fun _ k0 => ?_
 refine ak (h := ae (uw n X t hX.pfr hb (by have := ip hpz; omega) (by omega))) rfl rfl (by first | exact rfl | (simp only [ev, zP, J, D]; exact rfl)) (by simp only [zV, acs, reduceCtorEq, J, D, M, U, O, S]) ?_
 apply k0; clear k0; simp only [zP, D]
 iterate 2 (refine Z rfl fun _ k0 => ?_; simp only [zO, zT, acs, reduceCtorEq, J, D, M, U, O, S]; (repeat refine an ?_); (try refine .inl ?_); apply k0; clear k0; simp only [zP, D])
 refine aa ?_
 apply k17; clear k17; refine kp [2, 3, 4, 5, 7, 8, 21] ?_
 refine V fun _ k18 => ?_
 refine V fun _ k19 => ?_
 refine a9 hP hN rfl ?_
 iterate 4 (refine Z rfl fun _ k0 => ?_; simp only [zO, zT, acs, reduceCtorEq, J, D, M, U, O, S]; (repeat refine an ?_); (try refine .inl ?_); apply k0; clear k0; simp only [zP, D])
 refine aa ?_
 apply k19; clear k19; refine kp [2, 3, 4, 5, 7, 8, 21, 39] ?_
 refine cd (fun hc20 => ?_) (fun hc20 => ?_)
 · exfalso; (try simp only [zB, reduceCtorEq] at hc20); all_goals (first | (cases hc20; done) | omega | (simp at hc20; done) | (simp_all; done))
 (try simp only [zB, reduceCtorEq] at hc20)
 refine ag ?_
 apply k18; clear k18; refine kp [2, 3, 4, 5, 7, 8, 21, 39] ?_
 refine V fun _ k21 => ?_
 refine a9 hP hN rfl ?_
 iterate 3 (refine Z rfl fun _ k0 => ?_; simp only [zO, zT, acs, reduceCtorEq, J, D, M, U, O, S]; (repeat refine an ?_); (try refine .inl ?_); apply k0; clear k0; simp only [zP, D])
 refine aa ?_
 apply k21; clear k21; refine kp [2, 3, 4, 5, 7, 8, 21, 39] ?_
 refine af ?_
 refine ⟨nr, _, rfl, ?_⟩; simp only [zF, zP, J, D]
 first
 | (rw [a1, a2, if_neg hsn, hst]; exact VLE.of_eq rfl)
 | (rw [a1, a2, if_pos hst, hst]; exact VLE.of_eq rfl)
set_option maxHeartbeats 1000000 in
theorem pc (n : Int) (X l : List TRC) (hX : OBI n X) (hl : X.length + l.length ≤ 7000) : aT Tryd.prog 21 [.agg [.int .i64 n, .list (.pair (.list (.int .i64)) (.pair (.list (.int .i64)) .unit)) X], .one (.list (.pair (.list (.int .i64)) (.pair (.list (.int .i64)) .unit)) l)] (.tup [.agg [.int .i64 n, .list (.pair (.list (.int .i64)) (.pair (.list (.int .i64)) .unit)) (fJ n X l)], .one (.int .i64 (iV (cm n X l) l.length)), .one (.int .i64 (fK n X l))]) := by
 refine aw Tryd.func21 rfl (by kernel_rfl) (Nat.le_of_ble_eq_true rfl) rfl fun C hP hN hB => ?_
 replace hN : C.N = 34 := hN
 simp only [aF, D]
 refine V fun _ k1 => ?_
 refine a9 hP hN rfl ?_
 iterate 4 (refine Z rfl fun _ k0 => ?_; simp only [zO, zT, acs, reduceCtorEq, J, D, M, U, O, S]; (repeat refine an ?_); (try refine .inl ?_); apply k0; clear k0; simp only [zP, D])
 refine aa ?_
 apply k1; clear k1; refine kp [0, 1, 2, 4, 5, 6] ?_
 refine V fun _ k2 => ?_
 refine a9 hP hN rfl ?_
 iterate 3 (refine Z rfl fun _ k0 => ?_; simp only [zO, zT, acs, reduceCtorEq, J, D, M, U, O, S]; (repeat refine an ?_); (try refine .inl ?_); apply k0; clear k0; simp only [zP, D])
 refine aa ?_
 apply k2; clear k2; refine kp [0, 1, 2, 4, 5, 6, 7] ?_
 refine V fun _ k3 => ?_
 refine V fun _ k4 => ?_
 refine a9 hP hN rfl ?_
 (refine Z rfl fun _ k0 => ?_; simp only [zO, zT, acs, reduceCtorEq, J, D, M, U, O, S]; (repeat refine an ?_); (try refine .inl ?_); apply k0; clear k0; simp only [zP, D])
 refine aa ?_
 apply k4; clear k4; refine kp [0, 1, 2, 4, 5, 6, 7, 8] ?_
 refine ar ?_
 refine aQ (fun n5 s5 => ∃ (k : Nat), (k ≤ l.length) ∧ (∀ q : Nat, q < k → cm n X l q = 0) ∧ n5 = l.length - k ∧ s5 = { env := [(1, .one (.list (.pair (.list (.int .i64)) (.pair (.list (.int .i64)) .unit)) l)), (2, .one (.ptr 0 0 0 0)), (4, .one (.ptr 1 0 0 0)), (5, .one (.int .i64 0)), (6, .one (.int .i64 0)), (7, .one (.ptr 2 0 0 0)), (8, .one (.int .i64 (k : Int)))], L := [.vars 47 [.int .i64 n, .list (.pair (.list (.int .i64)) (.pair (.list (.int .i64)) .unit)) X], .vars 47 [.int .i64 0, .nils], .vars 47 [.int .i64 n, .list (.pair (.list (.int .i64)) (.pair (.list (.int .i64)) .unit)) (XK X l k)]] }) ?_ ?_
 ·exact ⟨_, _, aj [1, 2, 4, 5, 6, 7, 8], 0, Nat.zero_le _, fun q hq => by omega, rfl, rfl⟩
 rintro n5 s5 ⟨k, hk, hq, rfl, rfl⟩
 refine V fun _ k6 => ?_
 refine V fun _ k7 => ?_
 refine a9 hP hN rfl ?_
 iterate 4 (refine Z rfl fun _ k0 => ?_; simp only [zO, zT, acs, reduceCtorEq, J, D, M, U, O, S]; (repeat refine an ?_); (try refine .inl ?_); apply k0; clear k0; simp only [zP, D])
 refine aa ?_
 apply k7; clear k7; refine kp [1, 2, 4, 5, 6, 7, 8, 15] ?_
 refine cd (fun hc8 => ?_) (fun hc8 => ?_)
 ·(try simp only [zB, reduceCtorEq] at hc8)
  refine ag ?_
  apply k6; clear k6; refine kp [1, 2, 4, 5, 6, 7, 8, 15] ?_
  refine V fun _ k9 => ?_
  refine ar ?_
  refine V fun _ k10 => ?_
  refine rK ?_; simp only [aX, List.append_assoc, aZ]
  obtain ⟨x1, x2, hgx⟩ : ∃ x1 x2, ∀ d, l.getD k d = (x1, (x2, ())) := ⟨_, _, bP (by omega)⟩
  have hXl := kc (X := X) (l := l) (k := k) (by omega); have hXo := qu hX (l := l) (k := k) (by omega) hq
  have hlk : l.getD k aC = (x1, (x2, ())) := hgx _
  obtain ⟨a1, a2⟩ := lA n (XK X l k) (x1, (x2, ()))
  have hie : cm n X l k = d5 n (XK X l k) (x1, (x2, ())) := by unfold cm; rw [hlk]
  refine bh hP hN Tryd.mixed rfl ?_
  iterate 5 (refine Z rfl fun _ k0 => ?_; simp only [zO, zT, acs, reduceCtorEq, J, D, M, U, O, S, gt, ad, hgx]; (repeat refine an ?_); (try refine .inl ?_); apply k0; clear k0; simp only [zP, D])
  refine Z rfl fun _ k0 => ?_
  refine ak (h := ae (tX n (XK X l k) (x1, (x2, ())) hXo (by omega))) rfl rfl (by first | exact rfl | (simp only [ev, zP, J, D]; exact rfl)) (by simp only [zV, acs, reduceCtorEq, J, D, M, U, O, S, gt, ad, hgx]) ?_
  apply k0; clear k0; simp only [zP, D]
  iterate 3 (refine Z rfl fun _ k0 => ?_; simp only [zO, zT, acs, reduceCtorEq, J, D, M, U, O, S, gt, ad, hgx]; (repeat refine an ?_); (try refine .inl ?_); apply k0; clear k0; simp only [zP, D])
  (refine Z rfl fun _ k0 => ?_; simp only [zO, zT, acs, reduceCtorEq, J, D, M, U, O, S, gt, ad, hgx]; refine Or.inr (Or.inl ⟨3, ?_, (.pair (.int .i64) (.pair (.list (.pair (.list (.int .i64)) (.pair (.list (.int .i64)) .unit))) .unit)), (0, ([], ())), ?_⟩); (exact rfl); (repeat refine And.intro (by first | rfl | decide) ?_); refine k0 _ ?_; clear k0; simp only [zP, D])
  iterate 2 (refine Z rfl fun _ k0 => ?_; simp only [zO, zT, acs, reduceCtorEq, J, D, M, U, O, S, gt, ad, hgx]; (repeat refine an ?_); (try refine .inl ?_); apply k0; clear k0; simp only [zP, D])
  refine aa ?_
  refine ⟨by kernel_rfl, ?_⟩
  apply k10; clear k10; refine kp [1, 2, 4, 5, 6, 7, 8, 9, 10, 15] ?_
  refine V fun _ k11 => ?_
  refine V fun _ k12 => ?_
  refine a9 hP hN rfl ?_
  iterate 2 (refine Z rfl fun _ k0 => ?_; simp only [zO, zT, acs, reduceCtorEq, J, D, M, U, O, S]; (repeat refine an ?_); (try refine .inl ?_); apply k0; clear k0; simp only [zP, D])
  refine aa ?_
  apply k12; clear k12; refine kp [1, 2, 4, 5, 6, 7, 8, 9, 10, 15, 28] ?_
  refine cd (fun hc13 => ?_) (fun hc13 => ?_)
  ·(try simp only [zB, reduceCtorEq] at hc13)
   have hbd : ¬ d5 n (XK X l k) (x1, (x2, ())) = 0 := by have h9 := hc13; first | (rw [a1] at h9; exact h9) | exact h9
   obtain ⟨e1, e2⟩ := gE (n := n) (X := X) (l := l) (k := k) (by omega) hq (by rw [hie]; exact hbd)
   have e3 := kJ (f := (cm n X l)) (k := k) hq (by rw [hie]; exact hbd) (n := l.length) (by omega)
   refine V fun _ k14 => ?_
   refine a9 hP hN rfl ?_
   iterate 6 (refine Z rfl fun _ k0 => ?_; simp only [zO, zT, acs, reduceCtorEq, J, D, M, U, O, S]; (repeat refine an ?_); (try refine .inl ?_); apply k0; clear k0; simp only [zP, D])
   refine aa ?_
   apply k14; clear k14; refine kp [1, 2, 4, 5, 6, 7, 8, 9, 10, 15, 28] ?_
   refine af ?_
   refine ⟨nr, _, rfl, ?_⟩; simp only [zF, zP, J, D]
   refine VLE.of_eq ?_
   first
   | (rw [e1, e2, e3, hie, a1]; first | done | rfl)
   | (rw [e1, e2, e3, hie, ← a1]; first | done | rfl)
   | (rw [e1, e2, e3, hie]; first | done | rfl)
   | (rw [e1, e2, e3, htk]; first | done | rfl)
  (try simp only [zB, reduceCtorEq] at hc13)
  have hgd : d5 n (XK X l k) (x1, (x2, ())) = 0 := by have h9 := hc13; first | (rw [a1] at h9; exact h9) | exact h9
  refine ag ?_
  apply k11; clear k11; refine kp [1, 2, 4, 5, 6, 7, 8, 9, 10, 15, 28] ?_
  refine a9 hP hN rfl ?_
  iterate 2 (refine Z rfl fun _ k0 => ?_; simp only [zO, zT, acs, reduceCtorEq, J, D, M, U, O, S]; (repeat refine an ?_); (try refine .inl ?_); apply k0; clear k0; simp only [zP, D])
  refine aa ?_
  apply k9; clear k9; refine kp [1, 2, 4, 5, 6, 7, 8, 9, 10, 15, 28] ?_
  refine kp [1, 2, 4, 5, 6, 7, 8] ?_
  refine az (L1 := [_, _, _]) rfl (by rw [hB]; exact Nat.zero_le _) rfl rfl ?_
  refine a9 hP hN rfl ?_
  iterate 3 (refine Z rfl fun _ k0 => ?_; simp only [zO, zT, acs, reduceCtorEq, J, D, M, U, O, S]; (repeat refine an ?_); (try refine .inl ?_); apply k0; clear k0; simp only [zP, D])
  refine aa ?_
  refine ⟨_, _, ?_, aj [1, 2, 4, 5, 6, 7, 8], k + 1, by omega, fun q hq2 => ?_, rfl, ?_⟩
  · omega
  · by_cases e : q = k
    · rw [e, hie]; exact hgd
    · exact hq q (by omega)
  · rw [eC (by omega), hlk]
    first
    | (rw [a2, if_pos hgd]; first | done | rfl)
    | (rw [if_pos hgd]; first | done | rfl)
 (try simp only [zB, reduceCtorEq] at hc8)
 refine aP ?_
 apply k3; clear k3; refine kp [1, 2, 4, 5, 6, 7, 8, 15] ?_
 refine V fun _ k15 => ?_
 have hkl : k = l.length := by omega
 obtain ⟨e1, e2⟩ := km (n := n) (X := X) (l := l) (fun q hq2 => hq q (by omega))
 have e3 := lw (f := (cm n X l)) (n := l.length) (fun q hq2 => hq q (by omega))
 have htk : XK X l l.length = XK X l k := by rw [hkl]
 refine a9 hP hN rfl ?_
 iterate 4 (refine Z rfl fun _ k0 => ?_; simp only [zO, zT, acs, reduceCtorEq, J, D, M, U, O, S]; (repeat refine an ?_); (try refine .inl ?_); apply k0; clear k0; simp only [zP, D])
 refine aa ?_
 apply k15; clear k15; refine kp [1, 2, 4, 5, 6, 7, 8, 15] ?_
 refine af ?_
 refine ⟨nr, _, rfl, ?_⟩; simp only [zF, zP, J, D]
 refine VLE.of_eq ?_
 first
 | (rw [e1, e2, e3, hie, a1]; first | done | rfl)
 | (rw [e1, e2, e3, hie, ← a1]; first | done | rfl)
 | (rw [e1, e2, e3, hie]; first | done | rfl)
 | (rw [e1, e2, e3, htk]; first | done | rfl)
set_option maxHeartbeats 2000000 in
theorem rN (n : Int) (X : List TRC) (hX : ∀ u ∈ X, u.2.1.length = u.1.length) (hb : LB 100000 X) (hl : X.length ≤ 100000) : aT Tryd.prog 43 [.agg [.int .i64 n, .list (.pair (.list (.int .i64)) (.pair (.list (.int .i64)) .unit)) X]] (.one (.int .i64 (bo (apO X) X.length))) := by
 refine aw Tryd.func43 rfl (by kernel_rfl) (Nat.le_of_ble_eq_true rfl) rfl fun C hP hN hB => ?_
 replace hN : C.N = 56 := hN
 simp only [aF, D]
 refine V fun _ k1 => ?_
 refine a9 hP hN rfl ?_
 iterate 2 (refine Z rfl fun _ k0 => ?_; simp only [zO, zT, acs, reduceCtorEq, J, D, M, U, O, S]; (repeat refine an ?_); (try refine .inl ?_); apply k0; clear k0; simp only [zP, D])
 refine aa ?_
 apply k1; clear k1; refine kp [0, 1, 2] ?_
 refine V fun _ k2 => ?_
 refine V fun _ k3 => ?_
 refine a9 hP hN rfl ?_
 (refine Z rfl fun _ k0 => ?_; simp only [zO, zT, acs, reduceCtorEq, J, D, M, U, O, S]; (repeat refine an ?_); (try refine .inl ?_); apply k0; clear k0; simp only [zP, D])
 refine aa ?_
 apply k3; clear k3; refine kp [0, 1, 2, 3] ?_
 refine ar ?_
 refine aQ (fun n4 s4 => ∃ (k : Nat), (k ≤ X.length) ∧ (∀ q : Nat, q < k → apO X q = 0) ∧ n4 = X.length - k ∧ s4 = { env := [(1, .one (.ptr 0 0 0 0)), (2, .one (.int .i64 0)), (3, .one (.int .i64 (k : Int)))], L := [.vars 47 [.int .i64 n, .list (.pair (.list (.int .i64)) (.pair (.list (.int .i64)) .unit)) X]] }) ?_ ?_
 ·exact ⟨_, _, aj [1, 2, 3], 0, Nat.zero_le _, fun q hq => by omega, rfl, rfl⟩
 rintro n4 s4 ⟨k, hk, hq, rfl, rfl⟩
 refine V fun _ k5 => ?_
 refine V fun _ k6 => ?_
 refine a9 hP hN rfl ?_
 iterate 5 (refine Z rfl fun _ k0 => ?_; simp only [zO, zT, acs, reduceCtorEq, J, D, M, U, O, S]; (repeat refine an ?_); (try refine .inl ?_); apply k0; clear k0; simp only [zP, D])
 refine aa ?_
 apply k6; clear k6; refine kp [1, 2, 3, 11] ?_
 refine cd (fun hc7 => ?_) (fun hc7 => ?_)
 ·(try simp only [zB, reduceCtorEq] at hc7)
  refine ag ?_
  apply k5; clear k5; refine kp [1, 2, 3, 11] ?_
  refine V fun _ k8 => ?_
  refine ar ?_
  refine V fun _ k9 => ?_
  refine a9 hP hN rfl ?_
  iterate 2 (refine Z rfl fun _ k0 => ?_; simp only [zO, zT, acs, reduceCtorEq, J, D, M, U, O, S]; (repeat refine an ?_); (try refine .inl ?_); apply k0; clear k0; simp only [zP, D])
  refine aa ?_
  apply k9; clear k9; refine kp [1, 2, 3, 4, 5, 11] ?_
  refine V fun _ k10 => ?_
  refine V fun _ k11 => ?_
  have hto : ((k : Int) + 1).toNat = k + 1 := by omega
  refine a9 hP hN rfl ?_
  iterate 3 (refine Z rfl fun _ k0 => ?_; simp only [zO, zT, acs, reduceCtorEq, J, D, M, U, O, S]; (repeat refine an ?_); (try refine .inl ?_); apply k0; clear k0; simp only [zP, D])
  refine aa ?_
  apply k11; clear k11; refine kp [1, 2, 3, 4, 5, 6, 11] ?_
  refine ar ?_
  refine aQ (fun n12 s12 => ∃ (j : Nat), (k + 1 + j ≤ X.length) ∧ n12 = X.length - j ∧ s12 = { env := [(1, .one (.ptr 0 0 0 0)), (2, .one (.int .i64 0)), (3, .one (.int .i64 (k : Int))), (4, .one (.bool (lpB X k j))), (5, .one (.bool (lcB X k j))), (6, .one (.int .i64 ((k : Int) + 1 + j))), (11, .one (.bool (decide ((k : Int) < X.length))))], L := [.vars 47 [.int .i64 n, .list (.pair (.list (.int .i64)) (.pair (.list (.int .i64)) .unit)) X]] }) ?_ ?_
  ·refine ⟨_, _, aj [1, 2, 3, 4, 5, 6, 11], 0, by omega, rfl, ?_⟩
   rw [show ((k : Int) + 1 + (0 : Nat)) = (k : Int) + 1 by omega]; rfl
  rintro n12 s12 ⟨j, hj, rfl, rfl⟩
  refine V fun _ k13 => ?_
  refine V fun _ k14 => ?_
  refine a9 hP hN rfl ?_
  iterate 5 (refine Z rfl fun _ k0 => ?_; simp only [zO, zT, acs, reduceCtorEq, J, D, M, U, O, S]; (repeat refine an ?_); (try refine .inl ?_); apply k0; clear k0; simp only [zP, D])
  refine aa ?_
  apply k14; clear k14; refine kp [1, 2, 3, 4, 5, 6, 11, 20] ?_
  refine cd (fun hc15 => ?_) (fun hc15 => ?_)
  ·(try simp only [zB, reduceCtorEq] at hc15)
   refine ag ?_
   apply k13; clear k13; refine kp [1, 2, 3, 4, 5, 6, 11, 20] ?_
   refine V fun _ k16 => ?_
   refine ar ?_
   refine V fun _ k17 => ?_
   obtain ⟨x1, x2, hgx⟩ : ∃ x1 x2, ∀ d, X.getD k d = (x1, (x2, ())) := ⟨_, _, bP (by omega)⟩
   obtain ⟨y1, y2, hgy⟩ : ∃ x1 x2, ∀ d, X.getD (k + 1 + j) d = (x1, (x2, ())) := ⟨_, _, bP (by omega)⟩
   have hti : ((k : Int) + 1 + j).toNat = k + 1 + j := by omega
   have hx9 : x2.length = x1.length := by have h9 := hX _ (gq (show k < X.length by omega)); rw [hgx] at h9; exact h9
   have hy9 : y2.length = y1.length := by have h9 := hX _ (gq (show k + 1 + j < X.length by omega)); rw [hgy] at h9; exact h9
   have hx1 := hb.get (show k < X.length by omega) (hgx _)
   refine bh hP hN Tryd.mixed rfl ?_
   iterate 2 (refine Z rfl fun _ k0 => ?_; simp only [zO, zT, acs, reduceCtorEq, J, D, M, U, O, S, gt, ad, hti, hgx, hgy]; (repeat refine an ?_); (try refine .inl ?_); apply k0; clear k0; simp only [zP, D])
   refine' aA (want := false) 13 rfl (m := 24) (by simp only [zP, J, D]; exact rfl) (by kernel_rfl) rfl rfl rfl rfl rfl (fun hg18 => ?a18) ?b18 ?c18
   case a18 =>
    have hq18 := hg18; (try simp only [zB, reduceCtorEq] at hg18); simp only [zE]
    iterate 12 (refine aH rfl fun _ k0 => ?_; simp only [zO, zT, acs, reduceCtorEq, J, D, M, U, O, S, gt, ad, hti, hgx, hgy]; (repeat refine an ?_); (try refine .inl ?_); apply k0; clear k0; simp only [zP, D])
    refine aH rfl fun _ k0 => ?_
    refine ak (h := ae (nt y1 x1)) rfl rfl (by first | exact rfl | (simp only [ev, zP, J, D]; exact rfl)) (by simp only [zV, acs, reduceCtorEq, J, D, M, U, O, S, gt, ad, hti, hgx, hgy]) ?_
    apply k0; clear k0; simp only [zP, D]
    (refine Z rfl fun _ k0 => ?_; simp only [zO, zT, acs, reduceCtorEq, J, D, M, U, O, S, gt, ad, hti, hgx, hgy]; (repeat refine an ?_); (try refine .inl ?_); apply k0; clear k0; simp only [zP, D])
    refine aa ?_
    refine ⟨by simp only [zP, J, D]; exact rfl, rfl, ?_, rfl⟩; (repeat refine aB rfl ?_); exact aO (by exact rfl) hq18
   case b18 => exact b9
   simp only [aK, aE]
   (refine Z rfl fun _ k0 => ?_; simp only [zO, zT, acs, reduceCtorEq, J, D, M, U, O, S, gt, ad, hti, hgx, hgy]; (repeat refine an ?_); (try refine .inl ?_); apply k0; clear k0; simp only [zP, D])
   refine aa ?_
   refine ⟨by kernel_rfl, ?_⟩
   apply k17; clear k17; refine kp [1, 2, 3, 4, 5, 6, 11, 20] ?_
   refine bh hP hN Tryd.mixed rfl ?_
   iterate 2 (refine Z rfl fun _ k0 => ?_; simp only [zO, zT, acs, reduceCtorEq, J, D, M, U, O, S, gt, ad, hti, hgx, hgy]; (repeat refine an ?_); (try refine .inl ?_); apply k0; clear k0; simp only [zP, D])
   refine' aA (want := false) 12 rfl (m := 40) (by simp only [zP, J, D]; exact rfl) (by kernel_rfl) rfl rfl rfl rfl rfl (fun hg19 => ?a19) ?b19 ?c19
   case a19 =>
    have hq19 := hg19; (try simp only [zB, reduceCtorEq] at hg19); simp only [zE]
    iterate 10 (refine aH rfl fun _ k0 => ?_; simp only [zO, zT, acs, reduceCtorEq, J, D, M, U, O, S, gt, ad, hti, hgx, hgy]; (repeat refine an ?_); (try refine .inl ?_); apply k0; clear k0; simp only [zP, D])
    refine aH rfl fun _ k0 => ?_
    refine ak (h := ae (ln (x1, (x2, ())) (y1, (y2, ())) hx9 hy9 (by show x1.length ≤ 1000000; omega))) rfl rfl (by first | exact rfl | (simp only [ev, zP, J, D]; exact rfl)) (by simp only [zV, acs, reduceCtorEq, J, D, M, U, O, S, gt, ad, hti, hgx, hgy]) ?_
    apply k0; clear k0; simp only [zP, D]
    (refine aH rfl fun _ k0 => ?_; simp only [zO, zT, acs, reduceCtorEq, J, D, M, U, O, S, gt, ad, hti, hgx, hgy]; (repeat refine an ?_); (try refine .inl ?_); apply k0; clear k0; simp only [zP, D])
    (refine Z rfl fun _ k0 => ?_; simp only [zO, zT, acs, reduceCtorEq, J, D, M, U, O, S, gt, ad, hti, hgx, hgy]; (repeat refine an ?_); (try refine .inl ?_); apply k0; clear k0; simp only [zP, D])
    refine aa ?_
    refine ⟨by simp only [zP, J, D]; exact rfl, rfl, ?_, rfl⟩; (repeat refine aB rfl ?_); exact aO (by exact rfl) hq19
   case b19 => exact b9
   simp only [aK, aE]
   (refine Z rfl fun _ k0 => ?_; simp only [zO, zT, acs, reduceCtorEq, J, D, M, U, O, S, gt, ad, hti, hgx, hgy]; (repeat refine an ?_); (try refine .inl ?_); apply k0; clear k0; simp only [zP, D])
   refine aa ?_
   refine ⟨by kernel_rfl, ?_⟩
   apply k16; clear k16; refine kp [1, 2, 3, 4, 5, 6, 11, 20] ?_
   refine a9 hP hN rfl ?_
   iterate 3 (refine Z rfl fun _ k0 => ?_; simp only [zO, zT, acs, reduceCtorEq, J, D, M, U, O, S]; (repeat refine an ?_); (try refine .inl ?_); apply k0; clear k0; simp only [zP, D])
   refine aa ?_
   refine ⟨_, _, ?_, aj [1, 2, 3, 4, 5, 6, 11], j + 1, by omega, rfl, ?_⟩
   · omega
   · rw [rt, rO, hgx, hgy, show ((k : Int) + 1 + (j + 1 : Nat)) = (k : Int) + 1 + j + 1 by omega]; rfl
  (try simp only [zB, reduceCtorEq] at hc15)
  refine aP ?_
  apply k10; clear k10; refine kp [1, 2, 3, 4, 5, 6, 11, 20] ?_
  refine V fun _ k20 => ?_
  refine V fun _ k21 => ?_
  have hj9 : j = X.length - (k + 1) := by omega
  refine a9 hP hN rfl ?_
  (refine Z rfl fun _ k0 => ?_; simp only [zO, zT, acs, reduceCtorEq, J, D, M, U, O, S]; (repeat refine an ?_); (try refine .inl ?_); apply k0; clear k0; simp only [zP, D])
  refine aa ?_
  apply k21; clear k21; refine kp [1, 2, 3, 4, 5, 6, 11, 20, 54] ?_
  refine cd (fun hc22 => ?_) (fun hc22 => ?_)
  ·(try simp only [zB, reduceCtorEq] at hc22)
   have h1 : lpB X k (X.length - (k + 1)) = true := by rw [← hj9]; simpa using hc22
   refine V fun _ k23 => ?_
   refine a9 hP hN rfl ?_
   (refine Z rfl fun _ k0 => ?_; simp only [zO, zT, acs, reduceCtorEq, J, D, M, U, O, S]; (repeat refine an ?_); (try refine .inl ?_); apply k0; clear k0; simp only [zP, D])
   refine aa ?_
   apply k23; clear k23; refine kp [1, 2, 3, 4, 5, 6, 11, 20, 54] ?_
   refine af ?_
   refine ⟨nr, _, rfl, ?_⟩; simp only [zF, zP, J, D]
   refine VLE.of_eq ?_
   refine congrArg (fun n => AV.one (AC.int IntKind.i64 n)) ?_
   symm
   first
   | (have h9 : apO X k = 7 := by unfold apO; rw [if_pos h1]
      rw [bn hq (show k < X.length by omega) (by rw [h9]; decide), h9]; done)
   | (have h9 : apO X k = 13 := by unfold apO; rw [if_neg (by rw [h1]; decide), if_pos h2]
      rw [bn hq (show k < X.length by omega) (by rw [h9]; decide), h9]; done)
   | (exact bM fun q hq2 => hq q (by omega))
  (try simp only [zB, reduceCtorEq] at hc22)
  have h1 : lpB X k (X.length - (k + 1)) = false := by rw [← hj9]; simpa using hc22
  refine ag ?_
  apply k20; clear k20; refine kp [1, 2, 3, 4, 5, 6, 11, 20, 54] ?_
  refine V fun _ k24 => ?_
  refine a9 hP hN rfl ?_
  (refine Z rfl fun _ k0 => ?_; simp only [zO, zT, acs, reduceCtorEq, J, D, M, U, O, S]; (repeat refine an ?_); (try refine .inl ?_); apply k0; clear k0; simp only [zP, D])
  refine aa ?_
  apply k24; clear k24; refine kp [1, 2, 3, 4, 5, 6, 11, 20, 54, 55] ?_
  refine cd (fun hc25 => ?_) (fun hc25 => ?_)
  ·(try simp only [zB, reduceCtorEq] at hc25)
   have h2 : lcB X k (X.length - (k + 1)) = true := by rw [← hj9]; simpa using hc25
   refine V fun _ k26 => ?_
   refine a9 hP hN rfl ?_
   (refine Z rfl fun _ k0 => ?_; simp only [zO, zT, acs, reduceCtorEq, J, D, M, U, O, S]; (repeat refine an ?_); (try refine .inl ?_); apply k0; clear k0; simp only [zP, D])
   refine aa ?_
   apply k26; clear k26; refine kp [1, 2, 3, 4, 5, 6, 11, 20, 54, 55] ?_
   refine af ?_
   refine ⟨nr, _, rfl, ?_⟩; simp only [zF, zP, J, D]
   refine VLE.of_eq ?_
   refine congrArg (fun n => AV.one (AC.int IntKind.i64 n)) ?_
   symm
   first
   | (have h9 : apO X k = 7 := by unfold apO; rw [if_pos h1]
      rw [bn hq (show k < X.length by omega) (by rw [h9]; decide), h9]; done)
   | (have h9 : apO X k = 13 := by unfold apO; rw [if_neg (by rw [h1]; decide), if_pos h2]
      rw [bn hq (show k < X.length by omega) (by rw [h9]; decide), h9]; done)
   | (exact bM fun q hq2 => hq q (by omega))
  (try simp only [zB, reduceCtorEq] at hc25)
  have h2 : lcB X k (X.length - (k + 1)) = false := by rw [← hj9]; simpa using hc25
  refine ag ?_
  apply k8; clear k8; refine kp [1, 2, 3, 4, 5, 6, 11, 20, 54, 55] ?_
  refine a9 hP hN rfl ?_
  iterate 3 (refine Z rfl fun _ k0 => ?_; simp only [zO, zT, acs, reduceCtorEq, J, D, M, U, O, S]; (repeat refine an ?_); (try refine .inl ?_); apply k0; clear k0; simp only [zP, D])
  refine aa ?_
  refine ⟨_, _, ?_, aj [1, 2, 3], k + 1, by omega, fun q hq2 => ?_, rfl, rfl⟩
  · omega
  · by_cases e : q = k
    · rw [e]; unfold apO; rw [if_neg (by rw [h1]; decide), if_neg (by rw [h2]; decide)]
    · exact hq q (by omega)
 (try simp only [zB, reduceCtorEq] at hc7)
 refine aP ?_
 apply k2; clear k2; refine kp [1, 2, 3, 11] ?_
 refine V fun _ k27 => ?_
 refine a9 hP hN rfl ?_
 (refine Z rfl fun _ k0 => ?_; simp only [zO, zT, acs, reduceCtorEq, J, D, M, U, O, S]; (repeat refine an ?_); (try refine .inl ?_); apply k0; clear k0; simp only [zP, D])
 refine aa ?_
 apply k27; clear k27; refine kp [1, 2, 3, 11] ?_
 refine af ?_
 refine ⟨nr, _, rfl, ?_⟩; simp only [zF, zP, J, D]
 refine VLE.of_eq ?_
 refine congrArg (fun n => AV.one (AC.int IntKind.i64 n)) ?_
 symm
 first
 | (have h9 : apO X k = 7 := by unfold apO; rw [if_pos h1]
    rw [bn hq (show k < X.length by omega) (by rw [h9]; decide), h9]; done)
 | (have h9 : apO X k = 13 := by unfold apO; rw [if_neg (by rw [h1]; decide), if_pos h2]
    rw [bn hq (show k < X.length by omega) (by rw [h9]; decide), h9]; done)
 | (exact bM fun q hq2 => hq q (by omega))
set_option maxHeartbeats 2000000 in
theorem nO (n : Int) (X : List TRC) (hz : X.length ≤ 10000 → LB 100000 X) : aT Tryd.prog 19 [.agg [.int .i64 n, .list (.pair (.list (.int .i64)) (.pair (.list (.int .i64)) .unit)) X]] (.one (.int .i64 (vaO n X))) := by
 refine aw Tryd.func19 rfl (by kernel_rfl) (Nat.le_of_ble_eq_true rfl) rfl fun C hP hN hB => ?_
 replace hN : C.N = 67 := hN
 simp only [aF, D]
 refine cu 0 rfl fun hf0 => ?_; simp only [lkp, if_true, if_false, reduceCtorEq, J, eq_self, Nat.one_ne_zero, Nat.zero_ne_one, eH, dY, dW, Fit, and_true, implies_true, true_and] at hf0
 refine V fun _ k1 => ?_
 refine a9 hP hN rfl ?_
 iterate 2 (refine Z rfl fun _ k0 => ?_; simp only [zO, zT, acs, reduceCtorEq, J, D, M, U, O, S]; (repeat refine an ?_); (try refine .inl ?_); apply k0; clear k0; simp only [zP, D])
 refine aa ?_
 apply k1; clear k1; refine kp [0, 1, 2] ?_
 refine V fun _ k2 => ?_
 refine V fun _ k3 => ?_
 refine a9 hP hN rfl ?_
 iterate 4 (refine Z rfl fun _ k0 => ?_; simp only [zO, zT, acs, reduceCtorEq, J, D, M, U, O, S]; (repeat refine an ?_); (try refine .inl ?_); apply k0; clear k0; simp only [zP, D])
 refine' aA (want := false) 3 rfl (m := 10) (by simp only [zP, J, D]; exact rfl) (by kernel_rfl) rfl rfl rfl rfl rfl (fun hg4 => ?a4) ?b4 ?c4
 case a4 =>
  have hq4 := hg4; (try simp only [zB, reduceCtorEq] at hg4); simp only [zE]
  iterate 3 (refine aH rfl fun _ k0 => ?_; simp only [zO, zT, acs, reduceCtorEq, J, D, M, U, O, S]; (repeat refine an ?_); (try refine .inl ?_); apply k0; clear k0; simp only [zP, D])
  (refine Z rfl fun _ k0 => ?_; simp only [zO, zT, acs, reduceCtorEq, J, D, M, U, O, S]; (repeat refine an ?_); (try refine .inl ?_); apply k0; clear k0; simp only [zP, D])
  refine aa ?_
  refine ⟨by simp only [zP, J, D]; exact rfl, rfl, ?_, rfl⟩; (repeat refine aB rfl ?_); exact aO (by exact rfl) hq4
 case b4 => exact b9
 simp only [aK, aE]
 refine aa ?_
 apply k3; clear k3; refine kp [0, 1, 2, 14] ?_
 refine cd (fun hc5 => ?_) (fun hc5 => ?_)
 ·(try simp only [zB, reduceCtorEq] at hc5)
  have c1 : n < 1 ∨ 64 < n := by omega
  refine V fun _ k6 => ?_
  refine a9 hP hN rfl ?_
  (refine Z rfl fun _ k0 => ?_; simp only [zO, zT, acs, reduceCtorEq, J, D, M, U, O, S]; (repeat refine an ?_); (try refine .inl ?_); apply k0; clear k0; simp only [zP, D])
  refine aa ?_
  apply k6; clear k6; refine kp [0, 1, 2, 14] ?_
  refine af ?_
  refine ⟨nr, _, rfl, ?_⟩; simp only [zF, zP, J, D]
  refine VLE.of_eq ?_
  refine congrArg (fun n => AV.one (AC.int IntKind.i64 n)) ?_
  unfold vaO
  symm
  first
  | (rw [if_pos c1]; done)
  | (rw [if_neg c1, if_pos c2]; done)
  | (rw [if_neg c1, if_neg c2, if_neg (fun q => q hfz)]; done)
  | (have h6 := bn hq (show k < X.length by omega) h7
     rw [if_neg c1, if_neg c2, if_pos (by rw [h6]; exact h7), h6, h8]; done)
 (try simp only [zB, reduceCtorEq] at hc5)
 have c1 : ¬ (n < 1 ∨ 64 < n) := by omega
 refine ag ?_
 apply k2; clear k2; refine kp [0, 1, 2, 14] ?_
 refine V fun _ k7 => ?_
 refine V fun _ k8 => ?_
 refine a9 hP hN rfl ?_
 iterate 4 (refine Z rfl fun _ k0 => ?_; simp only [zO, zT, acs, reduceCtorEq, J, D, M, U, O, S]; (repeat refine an ?_); (try refine .inl ?_); apply k0; clear k0; simp only [zP, D])
 refine aa ?_
 apply k8; clear k8; refine kp [0, 1, 2, 14, 18] ?_
 refine cd (fun hc9 => ?_) (fun hc9 => ?_)
 ·(try simp only [zB, reduceCtorEq] at hc9)
  have c2 : 10000 < X.length := by omega
  refine V fun _ k10 => ?_
  refine a9 hP hN rfl ?_
  (refine Z rfl fun _ k0 => ?_; simp only [zO, zT, acs, reduceCtorEq, J, D, M, U, O, S]; (repeat refine an ?_); (try refine .inl ?_); apply k0; clear k0; simp only [zP, D])
  refine aa ?_
  apply k10; clear k10; refine kp [0, 1, 2, 14, 18] ?_
  refine af ?_
  refine ⟨nr, _, rfl, ?_⟩; simp only [zF, zP, J, D]
  refine VLE.of_eq ?_
  refine congrArg (fun n => AV.one (AC.int IntKind.i64 n)) ?_
  unfold vaO
  symm
  first
  | (rw [if_pos c1]; done)
  | (rw [if_neg c1, if_pos c2]; done)
  | (rw [if_neg c1, if_neg c2, if_neg (fun q => q hfz)]; done)
  | (have h6 := bn hq (show k < X.length by omega) h7
     rw [if_neg c1, if_neg c2, if_pos (by rw [h6]; exact h7), h6, h8]; done)
 (try simp only [zB, reduceCtorEq] at hc9)
 have c2 : ¬ 10000 < X.length := by omega
 refine ag ?_
 apply k7; clear k7; refine kp [0, 1, 2, 14, 18] ?_
 refine V fun _ k11 => ?_
 refine V fun _ k12 => ?_
 refine a9 hP hN rfl ?_
 (refine Z rfl fun _ k0 => ?_; simp only [zO, zT, acs, reduceCtorEq, J, D, M, U, O, S]; (repeat refine an ?_); (try refine .inl ?_); apply k0; clear k0; simp only [zP, D])
 refine aa ?_
 apply k12; clear k12; refine kp [0, 1, 2, 3, 14, 18] ?_
 refine ar ?_
 refine aQ (fun n13 s13 => ∃ (k : Nat), (k ≤ X.length) ∧ (∀ q : Nat, q < k → shO n X q = 0) ∧ n13 = X.length - k ∧ s13 = { env := [(1, .one (.ptr 0 0 0 0)), (2, .one (.int .i64 0)), (3, .one (.int .i64 (k : Int)))], L := [.vars 47 [.int .i64 n, .list (.pair (.list (.int .i64)) (.pair (.list (.int .i64)) .unit)) X]] }) ?_ ?_
 ·exact ⟨_, _, aj [1, 2, 3], 0, Nat.zero_le _, fun q hq => by omega, rfl, rfl⟩
 rintro n13 s13 ⟨k, hk, hq, rfl, rfl⟩
 refine V fun _ k14 => ?_
 refine V fun _ k15 => ?_
 refine a9 hP hN rfl ?_
 iterate 5 (refine Z rfl fun _ k0 => ?_; simp only [zO, zT, acs, reduceCtorEq, J, D, M, U, O, S]; (repeat refine an ?_); (try refine .inl ?_); apply k0; clear k0; simp only [zP, D])
 refine aa ?_
 apply k15; clear k15; refine kp [1, 2, 3, 23] ?_
 refine cd (fun hc16 => ?_) (fun hc16 => ?_)
 ·(try simp only [zB, reduceCtorEq] at hc16)
  refine ag ?_
  apply k14; clear k14; refine kp [1, 2, 3, 23] ?_
  refine V fun _ k17 => ?_
  refine ar ?_
  refine V fun _ k18 => ?_
  obtain ⟨x1, x2, hgx⟩ : ∃ x1 x2, ∀ d, X.getD k d = (x1, (x2, ())) := ⟨_, _, bP (by omega)⟩
  have hXk : X.getD k aC = (x1, (x2, ())) := hgx _
  obtain ⟨y1, y2, hgy0⟩ : ∃ x1 x2, X.getD (k - 1) aC = (x1, (x2, ())) := ⟨_, _, rfl⟩
  have hgy : X.getD (k - 1) ([], ([], ())) = (y1, (y2, ())) := hgy0
  have hto : ((k : Int) - 1).toNat = k - 1 := by omega
  refine a9 hP hN rfl ?_
  iterate 7 (refine Z rfl fun _ k0 => ?_; simp only [zO, zT, acs, reduceCtorEq, J, D, M, U, O, S, gt, ad, hgx]; (repeat refine an ?_); (try refine .inl ?_); apply k0; clear k0; simp only [zP, D])
  refine aa ?_
  apply k18; clear k18; refine kp [1, 2, 3, 4, 23] ?_
  refine V fun _ k19 => ?_
  refine V fun _ k20 => ?_
  refine a9 hP hN rfl ?_
  iterate 4 (refine Z rfl fun _ k0 => ?_; simp only [zO, zT, acs, reduceCtorEq, J, D, M, U, O, S]; (repeat refine an ?_); (try refine .inl ?_); apply k0; clear k0; simp only [zP, D])
  refine Z rfl fun _ k0 => ?_
  refine ak (h := ae (mB x1 n)) rfl rfl (by first | exact rfl | (simp only [ev, zP, J, D]; exact rfl)) (by simp only [zV, acs, reduceCtorEq, J, D, M, U, O, S]) ?_
  apply k0; clear k0; simp only [zP, D]
  (refine Z rfl fun _ k0 => ?_; simp only [zO, zT, acs, reduceCtorEq, J, D, M, U, O, S]; (repeat refine an ?_); (try refine .inl ?_); apply k0; clear k0; simp only [zP, D])
  refine aa ?_
  apply k20; clear k20; refine kp [1, 2, 3, 4, 5, 23] ?_
  refine V fun _ k21 => ?_
  refine a9 hP hN rfl ?_
  iterate 2 (refine Z rfl fun _ k0 => ?_; simp only [zO, zT, acs, reduceCtorEq, J, D, M, U, O, S]; (repeat refine an ?_); (try refine .inl ?_); apply k0; clear k0; simp only [zP, D])
  refine aa ?_
  apply k21; clear k21; refine kp [1, 2, 3, 4, 5, 23, 37] ?_
  refine cd (fun hc22 => ?_) (fun hc22 => ?_)
  ·(try simp only [zB, reduceCtorEq] at hc22)
   have h1 : ¬ aW (X.getD k aC).1 n = 0 := by rw [hXk]; exact hc22
   have h9 := tu h1
   have h8 : shO n X k = aW x1 n := by rw [h9, hXk]
   have h7 : ¬ shO n X k = 0 := by rw [h9]; exact h1
   refine V fun _ k23 => ?_
   refine a9 hP hN rfl ?_
   iterate 2 (refine Z rfl fun _ k0 => ?_; simp only [zO, zT, acs, reduceCtorEq, J, D, M, U, O, S]; (repeat refine an ?_); (try refine .inl ?_); apply k0; clear k0; simp only [zP, D])
   refine aa ?_
   apply k23; clear k23; refine kp [1, 2, 3, 4, 5, 23, 37] ?_
   refine af ?_
   refine ⟨nr, _, rfl, ?_⟩; simp only [zF, zP, J, D]
   refine VLE.of_eq ?_
   refine congrArg (fun n => AV.one (AC.int IntKind.i64 n)) ?_
   unfold vaO
   symm
   first
   | (rw [if_pos c1]; done)
   | (rw [if_neg c1, if_pos c2]; done)
   | (rw [if_neg c1, if_neg c2, if_neg (fun q => q hfz)]; done)
   | (have h6 := bn hq (show k < X.length by omega) h7
      rw [if_neg c1, if_neg c2, if_pos (by rw [h6]; exact h7), h6, h8]; done)
  (try simp only [zB, reduceCtorEq] at hc22)
  have h1 : aW (X.getD k aC).1 n = 0 := by rw [hXk]; exact hc22
  refine ag ?_
  apply k19; clear k19; refine kp [1, 2, 3, 4, 5, 23, 37] ?_
  refine V fun _ k24 => ?_
  refine V fun _ k25 => ?_
  refine a9 hP hN rfl ?_
  iterate 4 (refine Z rfl fun _ k0 => ?_; simp only [zO, zT, acs, reduceCtorEq, J, D, M, U, O, S]; (repeat refine an ?_); (try refine .inl ?_); apply k0; clear k0; simp only [zP, D])
  refine aa ?_
  apply k25; clear k25; refine kp [1, 2, 3, 4, 5, 23, 37, 42] ?_
  refine cd (fun hc26 => ?_) (fun hc26 => ?_)
  ·(try simp only [zB, reduceCtorEq] at hc26)
   have h2 : (X.getD k aC).1.length = 0 := by rw [hXk]; show x1.length = 0; omega
   have h8 := qg h1 h2
   have h7 : ¬ shO n X k = 0 := by rw [h8]; decide
   refine V fun _ k27 => ?_
   refine a9 hP hN rfl ?_
   (refine Z rfl fun _ k0 => ?_; simp only [zO, zT, acs, reduceCtorEq, J, D, M, U, O, S]; (repeat refine an ?_); (try refine .inl ?_); apply k0; clear k0; simp only [zP, D])
   refine aa ?_
   apply k27; clear k27; refine kp [1, 2, 3, 4, 5, 23, 37, 42] ?_
   refine af ?_
   refine ⟨nr, _, rfl, ?_⟩; simp only [zF, zP, J, D]
   refine VLE.of_eq ?_
   refine congrArg (fun n => AV.one (AC.int IntKind.i64 n)) ?_
   unfold vaO
   symm
   first
   | (rw [if_pos c1]; done)
   | (rw [if_neg c1, if_pos c2]; done)
   | (rw [if_neg c1, if_neg c2, if_neg (fun q => q hfz)]; done)
   | (have h6 := bn hq (show k < X.length by omega) h7
      rw [if_neg c1, if_neg c2, if_pos (by rw [h6]; exact h7), h6, h8]; done)
  (try simp only [zB, reduceCtorEq] at hc26)
  have h2 : ¬ (X.getD k aC).1.length = 0 := by rw [hXk]; show ¬ x1.length = 0; omega
  refine ag ?_
  apply k24; clear k24; refine kp [1, 2, 3, 4, 5, 23, 37, 42] ?_
  refine V fun _ k28 => ?_
  refine V fun _ k29 => ?_
  refine a9 hP hN rfl ?_
  iterate 3 (refine Z rfl fun _ k0 => ?_; simp only [zO, zT, acs, reduceCtorEq, J, D, M, U, O, S]; (repeat refine an ?_); (try refine .inl ?_); apply k0; clear k0; simp only [zP, D])
  refine Z rfl fun _ k0 => ?_
  refine ak (h := ae (iu (x1, (x2, ())) n)) rfl rfl (by first | exact rfl | (simp only [ev, zP, J, D]; exact rfl)) (by simp only [zV, acs, reduceCtorEq, J, D, M, U, O, S]) ?_
  apply k0; clear k0; simp only [zP, D]
  (refine Z rfl fun _ k0 => ?_; simp only [zO, zT, acs, reduceCtorEq, J, D, M, U, O, S]; (repeat refine an ?_); (try refine .inl ?_); apply k0; clear k0; simp only [zP, D])
  refine aa ?_
  apply k29; clear k29; refine kp [1, 2, 3, 4, 5, 6, 23, 37, 42] ?_
  refine V fun _ k30 => ?_
  refine a9 hP hN rfl ?_
  iterate 2 (refine Z rfl fun _ k0 => ?_; simp only [zO, zT, acs, reduceCtorEq, J, D, M, U, O, S]; (repeat refine an ?_); (try refine .inl ?_); apply k0; clear k0; simp only [zP, D])
  refine aa ?_
  apply k30; clear k30; refine kp [1, 2, 3, 4, 5, 6, 23, 37, 42, 48] ?_
  refine cd (fun hc31 => ?_) (fun hc31 => ?_)
  ·(try simp only [zB, reduceCtorEq] at hc31)
   have h3 : ¬ prO n (X.getD k aC) = 0 := by rw [hXk]; exact hc31
   have h9 := sS h1 h2 h3
   have h8 : shO n X k = prO n (x1, (x2, ())) := by rw [h9, hXk]
   have h7 : ¬ shO n X k = 0 := by rw [h9]; exact h3
   refine V fun _ k32 => ?_
   refine a9 hP hN rfl ?_
   iterate 2 (refine Z rfl fun _ k0 => ?_; simp only [zO, zT, acs, reduceCtorEq, J, D, M, U, O, S]; (repeat refine an ?_); (try refine .inl ?_); apply k0; clear k0; simp only [zP, D])
   refine aa ?_
   apply k32; clear k32; refine kp [1, 2, 3, 4, 5, 6, 23, 37, 42, 48] ?_
   refine af ?_
   refine ⟨nr, _, rfl, ?_⟩; simp only [zF, zP, J, D]
   refine VLE.of_eq ?_
   refine congrArg (fun n => AV.one (AC.int IntKind.i64 n)) ?_
   unfold vaO
   symm
   first
   | (rw [if_pos c1]; done)
   | (rw [if_neg c1, if_pos c2]; done)
   | (rw [if_neg c1, if_neg c2, if_neg (fun q => q hfz)]; done)
   | (have h6 := bn hq (show k < X.length by omega) h7
      rw [if_neg c1, if_neg c2, if_pos (by rw [h6]; exact h7), h6, h8]; done)
  (try simp only [zB, reduceCtorEq] at hc31)
  have h3 : prO n (X.getD k aC) = 0 := by rw [hXk]; exact hc31
  refine ag ?_
  apply k28; clear k28; refine kp [1, 2, 3, 4, 5, 6, 23, 37, 42, 48] ?_
  refine V fun _ k33 => ?_
  refine bh hP hN Tryd.mixed rfl ?_
  iterate 3 (refine Z rfl fun _ k0 => ?_; simp only [zO, zT, acs, reduceCtorEq, J, D, M, U, O, S, gt, ad, hto, hgy]; (repeat refine an ?_); (try refine .inl ?_); apply k0; clear k0; simp only [zP, D])
  refine' aA (want := true) 11 rfl (m := 52) (by simp only [zP, J, D]; exact rfl) (by kernel_rfl) rfl rfl rfl rfl rfl (fun hg34 => ?a34) ?b34 ?c34
  case a34 =>
   have hq34 := hg34; (try simp only [zB, reduceCtorEq] at hg34); simp only [zE]
   iterate 9 (refine aH rfl fun _ k0 => ?_; simp only [zO, zT, acs, reduceCtorEq, J, D, M, U, O, S, gt, ad, hto, hgy]; (repeat refine an ?_); (try refine .inl ?_); apply k0; clear k0; simp only [zP, D])
   refine aH rfl fun _ k0 => ?_
   refine ak (h := ae (lU y1 x1)) rfl rfl (by first | exact rfl | (simp only [ev, zP, J, D]; exact rfl)) (by simp only [zV, acs, reduceCtorEq, J, D, M, U, O, S, gt, ad, hto, hgy]) ?_
   apply k0; clear k0; simp only [zP, D]
   (refine aH rfl fun _ k0 => ?_; simp only [zO, zT, acs, reduceCtorEq, J, D, M, U, O, S, gt, ad, hto, hgy]; (repeat refine an ?_); (try refine .inl ?_); apply k0; clear k0; simp only [zP, D])
   (refine Z rfl fun _ k0 => ?_; simp only [zO, zT, acs, reduceCtorEq, J, D, M, U, O, S, gt, ad, hto, hgy]; (repeat refine an ?_); (try refine .inl ?_); apply k0; clear k0; simp only [zP, D])
   refine aa ?_
   refine ⟨by simp only [zP, J, D]; exact rfl, rfl, ?_, rfl⟩; (repeat refine aB rfl ?_); exact aO (by exact rfl) hq34
  case b34 => exact b9
  simp only [aK, aE]
  refine aa ?_
  refine ⟨by kernel_rfl, ?_⟩
  apply k33; clear k33; refine kp [1, 2, 3, 4, 5, 6, 23, 37, 42, 48, 64] ?_
  refine cd (fun hc35 => ?_) (fun hc35 => ?_)
  ·(try simp only [zB, reduceCtorEq] at hc35)
   have h4 : 0 < k ∧ ¬ bb (X.getD (k - 1) aC).1 (X.getD k aC).1 < 0 := by rw [hXk, hgy0]; show 0 < k ∧ ¬ bb y1 x1 < 0; have h9 := hc35; simp at h9; omega
   have h8 := qj h1 h2 h3 h4
   have h7 : ¬ shO n X k = 0 := by rw [h8]; decide
   refine V fun _ k36 => ?_
   refine a9 hP hN rfl ?_
   (refine Z rfl fun _ k0 => ?_; simp only [zO, zT, acs, reduceCtorEq, J, D, M, U, O, S]; (repeat refine an ?_); (try refine .inl ?_); apply k0; clear k0; simp only [zP, D])
   refine aa ?_
   apply k36; clear k36; refine kp [1, 2, 3, 4, 5, 6, 23, 37, 42, 48, 64] ?_
   refine af ?_
   refine ⟨nr, _, rfl, ?_⟩; simp only [zF, zP, J, D]
   refine VLE.of_eq ?_
   refine congrArg (fun n => AV.one (AC.int IntKind.i64 n)) ?_
   unfold vaO
   symm
   first
   | (rw [if_pos c1]; done)
   | (rw [if_neg c1, if_pos c2]; done)
   | (rw [if_neg c1, if_neg c2, if_neg (fun q => q hfz)]; done)
   | (have h6 := bn hq (show k < X.length by omega) h7
      rw [if_neg c1, if_neg c2, if_pos (by rw [h6]; exact h7), h6, h8]; done)
  (try simp only [zB, reduceCtorEq] at hc35)
  have h4 : ¬ (0 < k ∧ ¬ bb (X.getD (k - 1) aC).1 (X.getD k aC).1 < 0) := by rw [hXk, hgy0]; show ¬ (0 < k ∧ ¬ bb y1 x1 < 0); have h9 := hc35; simp at h9; omega
  have h8 := uZ h1 h2 h3 h4
  refine ag ?_
  apply k17; clear k17; refine kp [1, 2, 3, 4, 5, 6, 23, 37, 42, 48, 64] ?_
  refine kp [1, 2, 3] ?_
  refine az (L1 := [_]) rfl (by rw [hB]; exact Nat.zero_le _) rfl rfl ?_
  refine a9 hP hN rfl ?_
  iterate 3 (refine Z rfl fun _ k0 => ?_; simp only [zO, zT, acs, reduceCtorEq, J, D, M, U, O, S]; (repeat refine an ?_); (try refine .inl ?_); apply k0; clear k0; simp only [zP, D])
  refine aa ?_
  refine ⟨_, _, ?_, aj [1, 2, 3], k + 1, by omega, fun q hq2 => ?_, rfl, rfl⟩
  · omega
  · by_cases e : q = k
    · rw [e]; exact h8
    · exact hq q (by omega)
 (try simp only [zB, reduceCtorEq] at hc16)
 refine aP ?_
 apply k11; clear k11; refine kp [1, 2, 3, 23] ?_
 refine V fun _ k37 => ?_
 have hpr : ∀ u ∈ X, prO n u = 0 := fun u hu => by
   obtain ⟨q, hq2, e⟩ := List.getElem_of_mem hu
   have h9 := (kj (hq q (by omega))).1
   simpa [List.getD, hq2, e] using h9
 have hfz : bo (shO n X) X.length = 0 := bM fun q hq2 => hq q (by omega)
 refine a9 hP hN rfl ?_
 (refine Z rfl fun _ k0 => ?_; simp only [zO, zT, acs, reduceCtorEq, J, D, M, U, O, S]; (repeat refine an ?_); (try refine .inl ?_); apply k0; clear k0; simp only [zP, D])
 refine Z rfl fun _ k0 => ?_
 refine ak (h := ae (rN n X (fun u hu => (kg (hpr u hu)).2) (hz (by omega)) (by omega))) rfl rfl (by first | exact rfl | (simp only [ev, zP, J, D]; exact rfl)) (by simp only [zV, acs, reduceCtorEq, J, D, M, U, O, S]) ?_
 apply k0; clear k0; simp only [zP, D]
 (refine Z rfl fun _ k0 => ?_; simp only [zO, zT, acs, reduceCtorEq, J, D, M, U, O, S]; (repeat refine an ?_); (try refine .inl ?_); apply k0; clear k0; simp only [zP, D])
 refine aa ?_
 apply k37; clear k37; refine kp [1, 2, 3, 23] ?_
 refine af ?_
 refine ⟨nr, _, rfl, ?_⟩; simp only [zF, zP, J, D]
 refine VLE.of_eq ?_
 refine congrArg (fun n => AV.one (AC.int IntKind.i64 n)) ?_
 unfold vaO
 symm
 first
 | (rw [if_pos c1]; done)
 | (rw [if_neg c1, if_pos c2]; done)
 | (rw [if_neg c1, if_neg c2, if_neg (fun q => q hfz)]; done)
 | (have h6 := bn hq (show k < X.length by omega) h7
    rw [if_neg c1, if_neg c2, if_pos (by rw [h6]; exact h7), h6, h8]; done)
set_option maxHeartbeats 1000000 in
theorem uk {o : Obj} (hmx : MXL o) (n : Int) (X l : List TRC) : cw Tryd.prog [.fact 0 o] 5 [.agg [.int .i64 n, .list (.pair (.list (.int .i64)) (.pair (.list (.int .i64)) .unit)) X], .one (.list (.pair (.list (.int .i64)) (.pair (.list (.int .i64)) .unit)) l)] { av := .one (.bool true), fp := [0] } := by
 refine cL _ _ Tryd.func5 rfl (by kernel_rfl) (Nat.le_of_ble_eq_true rfl) (by intro k hk; simp only [ah, au, Nat.zero_add, D] at hk; simp only [List.mem_cons, List.not_mem_nil, or_false]; omega) (fun C hP hN hB => ?_)
 replace hB : C.bL.length = 1 := by rw [hB]; rfl
 replace hN : C.N = 54 := hN
 simp only [aF, D]
 refine V fun _ k1 => ?_
 refine a9 hP hN rfl ?_
 iterate 2 (refine Z rfl fun _ k0 => ?_; simp only [zO, zT, acs, reduceCtorEq, J, D, M, U, O, S]; (repeat refine an ?_); (try refine .inl ?_); apply k0; clear k0; simp only [zP, D])
 refine aa ?_
 apply k1; clear k1; refine kp [0, 1, 2, 4] ?_
 refine V fun _ k2 => ?_
 refine V fun _ k3 => ?_
 refine a9 hP hN rfl ?_
 iterate 2 (refine Z rfl fun _ k0 => ?_; simp only [zO, zT, acs, reduceCtorEq, J, D, M, U, O, S]; (repeat refine an ?_); (try refine .inl ?_); apply k0; clear k0; simp only [zP, D])
 refine Z rfl fun _ k0 => ?_
 refine ak (h := ae (kF X)) rfl rfl (by first | exact rfl | (simp only [ev, zP, J, D]; exact rfl)) (by simp only [zV, acs, reduceCtorEq, J, D, M, U, O, S]) ?_
 apply k0; clear k0; simp only [zP, D]
 (refine Z rfl fun _ k0 => ?_; simp only [zO, zT, acs, reduceCtorEq, J, D, M, U, O, S]; (repeat refine an ?_); (try refine .inl ?_); apply k0; clear k0; simp only [zP, D])
 refine' aA (want := false) 2 rfl (m := 14) (by simp only [zP, J, D]; exact rfl) (by kernel_rfl) rfl rfl rfl rfl rfl (fun hg4 => ?a4) ?b4 ?c4
 case a4 =>
  have hq4 := hg4; (try simp only [zB, reduceCtorEq] at hg4); simp only [zE]
  (refine aH rfl fun _ k0 => ?_; simp only [zO, zT, acs, reduceCtorEq, J, D, M, U, O, S]; (repeat refine an ?_); (try refine .inl ?_); apply k0; clear k0; simp only [zP, D])
  refine aH rfl fun _ k0 => ?_
  refine ak (h := ae (kF l)) rfl rfl (by first | exact rfl | (simp only [ev, zP, J, D]; exact rfl)) (by simp only [zV, acs, reduceCtorEq, J, D, M, U, O, S]) ?_
  apply k0; clear k0; simp only [zP, D]
  (refine Z rfl fun _ k0 => ?_; simp only [zO, zT, acs, reduceCtorEq, J, D, M, U, O, S]; (repeat refine an ?_); (try refine .inl ?_); apply k0; clear k0; simp only [zP, D])
  refine aa ?_
  refine ⟨by simp only [zP, J, D]; exact rfl, rfl, ?_, rfl⟩; (repeat refine aB rfl ?_); exact aO (by exact rfl) hq4
 case b4 => exact b9
 simp only [aK, aE]
 (refine Z rfl fun _ k0 => ?_; simp only [zO, zT, acs, reduceCtorEq, J, D, M, U, O, S]; (repeat refine an ?_); (try refine .inl ?_); apply k0; clear k0; simp only [zP, D])
 refine' aA (want := false) 3 rfl (m := 18) (by simp only [zP, J, D]; exact rfl) (by kernel_rfl) rfl rfl rfl rfl rfl (fun hg5 => ?a5) ?b5 ?c5
 case a5 =>
  have hq5 := hg5; (try simp only [zB, reduceCtorEq] at hg5); simp only [zE]
  (refine aH rfl fun _ k0 => ?_; simp only [zO, zT, acs, reduceCtorEq, J, D, M, U, O, S]; (repeat refine an ?_); (try refine .inl ?_); apply k0; clear k0; simp only [zP, D])
  refine aH rfl fun _ k0 => ?_
  refine ak (h := ae (nO n X (fun _ => ss (And.left ‹grL X = false ∧ grL l = false›)))) rfl rfl (by first | exact rfl | (simp only [ev, zP, J, D]; exact rfl)) (by simp only [zV, acs, reduceCtorEq, J, D, M, U, O, S]) ?_
  apply k0; clear k0; simp only [zP, D]
  (refine aH rfl fun _ k0 => ?_; simp only [zO, zT, acs, reduceCtorEq, J, D, M, U, O, S]; (repeat refine an ?_); (try refine .inl ?_); apply k0; clear k0; simp only [zP, D])
  (refine Z rfl fun _ k0 => ?_; simp only [zO, zT, acs, reduceCtorEq, J, D, M, U, O, S]; (repeat refine an ?_); (try refine .inl ?_); apply k0; clear k0; simp only [zP, D])
  refine aa ?_
  refine ⟨by simp only [zP, J, D]; exact rfl, rfl, ?_, rfl⟩; (repeat refine aB rfl ?_); exact aO (by exact rfl) hq5
 case b5 => exact b9
 simp only [aK, aE]
 refine aa ?_
 apply k3; clear k3; refine kp [0, 1, 2, 4, 22] ?_
 refine cd (fun hc6 => ?_) (fun hc6 => ?_)
 ·(try simp only [zB, reduceCtorEq] at hc6)
  refine V fun _ k7 => ?_
  refine a9 hP hN rfl ?_
  refine Z rfl fun _ k0 => ?_
  refine ak (h := dA (l6 hmx) rfl) rfl rfl (by first | exact rfl | (simp only [ev, zP, J, D]; exact rfl)) (by simp only [zV, acs, reduceCtorEq, J, D, M, U, O, S]) ?_
  apply k0; clear k0; simp only [zP, D]
  (refine Z rfl fun _ k0 => ?_; simp only [zO, zT, acs, reduceCtorEq, J, D, M, U, O, S]; (repeat refine an ?_); (try refine .inl ?_); apply k0; clear k0; simp only [zP, D])
  refine aa ?_
  apply k7; clear k7; refine kp [0, 1, 2, 4, 22] ?_
  refine kp [4] ?_
  first
  | ((refine az (L1 := [_, _, _]) rfl (by rw [hB]; exact Nat.succ_le_succ (Nat.zero_le _)) rfl rfl ?_); (refine az (L1 := [_, _]) rfl (by rw [hB]; exact Nat.succ_le_succ (Nat.zero_le _)) rfl rfl ?_); (refine az (L1 := [_]) rfl (by rw [hB]; exact Nat.succ_le_succ (Nat.zero_le _)) rfl rfl ?_))
  | ((refine az (L1 := [_]) rfl (by rw [hB]; exact Nat.succ_le_succ (Nat.zero_le _)) rfl rfl ?_))
  refine af ?_
  refine ⟨by first | exact .inl rfl | exact .inr rfl, _, rfl, ?_⟩; simp only [zP, J, D]
  all_goals (first | rfl | (refine congrArg (fun b => AV.one (AC.bool b)) ?_; simp; done) | (refine congrArg (fun b => AV.one (AC.bool b)) ?_; simp_all; done))
 (try simp only [zB, reduceCtorEq] at hc6)
 have hgx : grL X = false := by have h9 := hc6; revert h9; cases grL X <;> simp
 have hgl : grL l = false := by have h9 := hc6; revert h9; cases grL l <;> simp
 have hva : vaO n X = 0 := by have h9 := hc6; rw [hgx, hgl] at h9; simpa using h9
 have hob := uh hva
 have hg1 := (mZ hgx).1; have hg2 := (mZ hgl).1
 refine ag ?_
 apply k2; clear k2; refine kp [0, 1, 2, 4, 22] ?_
 refine V fun _ k8 => ?_
 refine a9 hP hN rfl ?_
 iterate 2 (refine Z rfl fun _ k0 => ?_; simp only [zO, zT, acs, reduceCtorEq, J, D, M, U, O, S]; (repeat refine an ?_); (try refine .inl ?_); apply k0; clear k0; simp only [zP, D])
 refine Z rfl fun _ k0 => ?_
 refine ak (h := ae (kA n X l hob.srt (ss hgx) (by omega))) rfl rfl (by first | exact rfl | (simp only [ev, zP, J, D]; exact rfl)) (by simp only [zV, acs, reduceCtorEq, J, D, M, U, O, S]) ?_
 apply k0; clear k0; simp only [zP, D]
 iterate 8 (refine Z rfl fun _ k0 => ?_; simp only [zO, zT, acs, reduceCtorEq, J, D, M, U, O, S]; (repeat refine an ?_); (try refine .inl ?_); apply k0; clear k0; simp only [zP, D])
 refine aa ?_
 apply k8; clear k8; refine kp [0, 1, 2, 4, 5, 6, 7, 22] ?_
 refine V fun _ k9 => ?_
 refine a9 hP hN rfl ?_
 iterate 2 (refine Z rfl fun _ k0 => ?_; simp only [zO, zT, acs, reduceCtorEq, J, D, M, U, O, S]; (repeat refine an ?_); (try refine .inl ?_); apply k0; clear k0; simp only [zP, D])
 refine Z rfl fun _ k0 => ?_
 refine ak (h := ae (pc n X l hob (by omega))) rfl rfl (by first | exact rfl | (simp only [ev, zP, J, D]; exact rfl)) (by simp only [zV, acs, reduceCtorEq, J, D, M, U, O, S]) ?_
 apply k0; clear k0; simp only [zP, D]
 iterate 8 (refine Z rfl fun _ k0 => ?_; simp only [zO, zT, acs, reduceCtorEq, J, D, M, U, O, S]; (repeat refine an ?_); (try refine .inl ?_); apply k0; clear k0; simp only [zP, D])
 refine aa ?_
 apply k9; clear k9; refine kp [0, 1, 2, 4, 5, 6, 7, 8, 9, 10, 22] ?_
 refine V fun _ k10 => ?_
 refine a9 hP hN rfl ?_
 iterate 2 (refine Z rfl fun _ k0 => ?_; simp only [zO, zT, acs, reduceCtorEq, J, D, M, U, O, S]; (repeat refine an ?_); (try refine .inl ?_); apply k0; clear k0; simp only [zP, D])
 refine Z rfl fun _ k0 => ?_
 refine ak (h := ae (me n n (fJ n X l) (fJ n X l))) rfl rfl (by first | exact rfl | (simp only [ev, zP, J, D]; exact rfl)) (by simp only [zV, acs, reduceCtorEq, J, D, M, U, O, S]) ?_
 apply k0; clear k0; simp only [zP, D]
 (refine Z rfl fun _ k0 => ?_; simp only [zO, zT, acs, reduceCtorEq, J, D, M, U, O, S]; (repeat refine an ?_); (try refine .inl ?_); apply k0; clear k0; simp only [zP, D])
 refine' aA (want := true) 3 rfl (m := 41) (by simp only [zP, J, D]; exact rfl) (by kernel_rfl) rfl rfl rfl rfl rfl (fun hg11 => ?a11) ?b11 ?c11
 case a11 =>
  have hq11 := hg11; (try simp only [zB, reduceCtorEq] at hg11); simp only [zE]
  iterate 3 (refine aH rfl fun _ k0 => ?_; simp only [zO, zT, acs, reduceCtorEq, J, D, M, U, O, S]; (repeat refine an ?_); (try refine .inl ?_); apply k0; clear k0; simp only [zP, D])
  (refine Z rfl fun _ k0 => ?_; simp only [zO, zT, acs, reduceCtorEq, J, D, M, U, O, S]; (repeat refine an ?_); (try refine .inl ?_); apply k0; clear k0; simp only [zP, D])
  refine aa ?_
  refine ⟨by simp only [zP, J, D]; exact rfl, rfl, ?_, rfl⟩; (repeat refine aB rfl ?_); exact aO (by exact rfl) hq11
 case b11 => exact b9
 simp only [aK, aE]
 (refine Z rfl fun _ k0 => ?_; simp only [zO, zT, acs, reduceCtorEq, J, D, M, U, O, S]; (repeat refine an ?_); (try refine .inl ?_); apply k0; clear k0; simp only [zP, D])
 refine' aA (want := true) 3 rfl (m := 46) (by simp only [zP, J, D]; exact rfl) (by kernel_rfl) rfl rfl rfl rfl rfl (fun hg12 => ?a12) ?b12 ?c12
 case a12 =>
  have hq12 := hg12; (try simp only [zB, reduceCtorEq] at hg12); simp only [zE]
  iterate 3 (refine aH rfl fun _ k0 => ?_; simp only [zO, zT, acs, reduceCtorEq, J, D, M, U, O, S]; (repeat refine an ?_); (try refine .inl ?_); apply k0; clear k0; simp only [zP, D])
  (refine Z rfl fun _ k0 => ?_; simp only [zO, zT, acs, reduceCtorEq, J, D, M, U, O, S]; (repeat refine an ?_); (try refine .inl ?_); apply k0; clear k0; simp only [zP, D])
  refine aa ?_
  refine ⟨by simp only [zP, J, D]; exact rfl, rfl, ?_, rfl⟩; (repeat refine aB rfl ?_); exact aO (by exact rfl) hq12
 case b12 => exact b9
 simp only [aK, aE]
 (refine Z rfl fun _ k0 => ?_; simp only [zO, zT, acs, reduceCtorEq, J, D, M, U, O, S]; (repeat refine an ?_); (try refine .inl ?_); apply k0; clear k0; simp only [zP, D])
 refine' aA (want := true) 1 rfl (m := 51) (by simp only [zP, J, D]; exact rfl) (by kernel_rfl) rfl rfl rfl rfl rfl (fun hg13 => ?a13) ?b13 ?c13
 case a13 =>
  have hq13 := hg13; (try simp only [zB, reduceCtorEq] at hg13); simp only [zE]
  refine aH rfl fun _ k0 => ?_
  refine ak (h := dA (l6 hmx) rfl) rfl rfl (by first | exact rfl | (simp only [ev, zP, J, D]; exact rfl)) (by simp only [zV, acs, reduceCtorEq, J, D, M, U, O, S]) ?_
  apply k0; clear k0; simp only [zP, D]
  (refine Z rfl fun _ k0 => ?_; simp only [zO, zT, acs, reduceCtorEq, J, D, M, U, O, S]; (repeat refine an ?_); (try refine .inl ?_); apply k0; clear k0; simp only [zP, D])
  refine aa ?_
  refine ⟨by simp only [zP, J, D]; exact rfl, rfl, ?_, rfl⟩; (repeat refine aB rfl ?_); exact aO (by exact rfl) hq13
 case b13 => exact b9
 simp only [aK, aE]
 (refine Z rfl fun _ k0 => ?_; simp only [zO, zT, acs, reduceCtorEq, J, D, M, U, O, S]; (repeat refine an ?_); (try refine .inl ?_); apply k0; clear k0; simp only [zP, D])
 refine aa ?_
 apply k10; clear k10; refine kp [0, 1, 2, 4, 5, 6, 7, 8, 9, 10, 22] ?_
 refine kp [4] ?_
 first
 | ((refine az (L1 := [_, _, _]) rfl (by rw [hB]; exact Nat.succ_le_succ (Nat.zero_le _)) rfl rfl ?_); (refine az (L1 := [_, _]) rfl (by rw [hB]; exact Nat.succ_le_succ (Nat.zero_le _)) rfl rfl ?_); (refine az (L1 := [_]) rfl (by rw [hB]; exact Nat.succ_le_succ (Nat.zero_le _)) rfl rfl ?_))
 | ((refine az (L1 := [_]) rfl (by rw [hB]; exact Nat.succ_le_succ (Nat.zero_le _)) rfl rfl ?_))
 refine af ?_
 refine ⟨by first | exact .inl rfl | exact .inr rfl, _, rfl, ?_⟩; simp only [zP, J, D]
 all_goals (first | rfl | (refine congrArg (fun b => AV.one (AC.bool b)) ?_; simp; done) | (refine congrArg (fun b => AV.one (AC.bool b)) ?_; simp_all; done))
end Go.Proofs.YtfakhaagbimljaaDoor
