/- Contracts of functions of this seat, each out of a walk through its code, and plain facts on what they compute. Conditions: those that each theorem names. -/
import Derived.Test.YtfakhaagbimljaaDoorW04
set_option linter.unusedSimpArgs false
set_option linter.unusedVariables false
set_option maxRecDepth 100000
namespace Go.Proofs.YtfakhaagbimljaaDoor
open Go Go.AV
open Nat renaming reduceEqDiff → J, reduceAdd → D, reduceLeDiff → M, reduceLT → U, reduceMul → O, reduceSub → S
open List renaming set_cons_zero → bB, set_cons_succ → bC, getD_cons_zero → au, length_append → am, map_cons → aS, cons_append → aV, map_nil → be, length_cons → ah, nil_append → aY, take_succ_cons → aj, length_nil → aw, length_map → bQ, length_replicate → bj, take_length → aD, mem_cons_self → aP, mem_cons_of_mem → aM
open Int renaming toNat_natCast → ad
theorem gl (xs : List Bs) (hn : ∀ k, k < xs.length → (xs.getD k []).length ≤ 1048576) : aU Tryd.prog 55 [.agg [.list .str xs]] (.one (.int .i64 (alE xs))) := by
 refine az Tryd.func55 rfl (by kernel_rfl) (Nat.le_of_ble_eq_true rfl) rfl fun C hP hN hB => ?_
 replace hN : C.N = 41 := hN
 simp only [aG, D]
 refine V fun _ k1 => ?_
 refine a9 hP hN rfl ?_
 iterate 2 (refine Z rfl fun _ k0 => ?_; simp only [zO, zT, acs, reduceCtorEq, J, D, M, U, O, S]; (repeat refine an ?_); (try refine .inl ?_); apply k0; clear k0; simp only [zP, D])
 refine aa ?_
 apply k1; clear k1; refine kp [0, 1, 2] ?_
 refine V fun _ k2 => ?_
 refine V fun _ k3 => ?_
 refine a9 hP hN rfl ?_
 iterate 4 (refine Z rfl fun _ k0 => ?_; simp only [zO, zT, acs, reduceCtorEq, J, D, M, U, O, S]; (repeat refine an ?_); (try refine .inl ?_); apply k0; clear k0; simp only [zP, D])
 refine aa ?_
 apply k3; clear k3; refine kp [0, 1, 2, 9] ?_
 refine cd (fun hc4 => ?_) (fun hc4 => ?_)
 ·(try simp only [zB, reduceCtorEq] at hc4)
  refine V fun _ k5 => ?_
  refine a9 hP hN rfl ?_
  (refine Z rfl fun _ k0 => ?_; simp only [zO, zT, acs, reduceCtorEq, J, D, M, U, O, S]; (repeat refine an ?_); (try refine .inl ?_); apply k0; clear k0; simp only [zP, D])
  refine aa ?_
  apply k5; clear k5; refine kp [0, 1, 2, 9] ?_
  refine af ?_
  refine ⟨nr, _, rfl, ?_⟩; simp only [zF, zP, J, D]
  refine VLE.of_eq ?_
  refine congrArg (fun n => AV.one (AC.int IntKind.i64 n)) ?_
  symm
  first
  | exact eX (by omega)
  | exact dG (by omega) (by omega)
  | exact eR (by omega) (by omega) (k := k) (by omega) hq hbad
  | exact f0 (by omega) (by omega) (k := k) (by omega) hq hgood hin
  | exact dM (by omega) (by omega) fun q hq2 => hq q (by omega)
 (try simp only [zB, reduceCtorEq] at hc4)
 refine ag ?_
 apply k2; clear k2; refine kp [0, 1, 2, 9] ?_
 refine V fun _ k6 => ?_
 refine V fun _ k7 => ?_
 refine a9 hP hN rfl ?_
 iterate 4 (refine Z rfl fun _ k0 => ?_; simp only [zO, zT, acs, reduceCtorEq, J, D, M, U, O, S]; (repeat refine an ?_); (try refine .inl ?_); apply k0; clear k0; simp only [zP, D])
 refine aa ?_
 apply k7; clear k7; refine kp [0, 1, 2, 9, 13] ?_
 refine cd (fun hc8 => ?_) (fun hc8 => ?_)
 ·(try simp only [zB, reduceCtorEq] at hc8)
  refine V fun _ k9 => ?_
  refine a9 hP hN rfl ?_
  (refine Z rfl fun _ k0 => ?_; simp only [zO, zT, acs, reduceCtorEq, J, D, M, U, O, S]; (repeat refine an ?_); (try refine .inl ?_); apply k0; clear k0; simp only [zP, D])
  refine aa ?_
  apply k9; clear k9; refine kp [0, 1, 2, 9, 13] ?_
  refine af ?_
  refine ⟨nr, _, rfl, ?_⟩; simp only [zF, zP, J, D]
  refine VLE.of_eq ?_
  refine congrArg (fun n => AV.one (AC.int IntKind.i64 n)) ?_
  symm
  first
  | exact eX (by omega)
  | exact dG (by omega) (by omega)
  | exact eR (by omega) (by omega) (k := k) (by omega) hq hbad
  | exact f0 (by omega) (by omega) (k := k) (by omega) hq hgood hin
  | exact dM (by omega) (by omega) fun q hq2 => hq q (by omega)
 (try simp only [zB, reduceCtorEq] at hc8)
 refine ag ?_
 apply k6; clear k6; refine kp [0, 1, 2, 9, 13] ?_
 refine V fun _ k10 => ?_
 refine V fun _ k11 => ?_
 refine a9 hP hN rfl ?_
 (refine Z rfl fun _ k0 => ?_; simp only [zO, zT, acs, reduceCtorEq, J, D, M, U, O, S]; (repeat refine an ?_); (try refine .inl ?_); apply k0; clear k0; simp only [zP, D])
 refine aa ?_
 apply k11; clear k11; refine kp [0, 1, 2, 3, 9, 13] ?_
 refine ar ?_
 refine aR (fun n12 s12 => ∃ (k : Nat), (k ≤ xs.length) ∧ (∀ q, q < k → nmE xs q = 0) ∧ n12 = xs.length - k ∧ s12 = { env := [(1, .one (.ptr 0 0 0 0)), (2, .one (.int .i64 0)), (3, .one (.int .i64 (k : Int)))], L := [.vars 24 [.list .str xs]] }) ?_ ?_
 ·exact ⟨_, _, ak [1, 2, 3], 0, Nat.zero_le _, fun q hq => by omega, rfl, rfl⟩
 rintro n12 s12 ⟨k, hk, hq, rfl, rfl⟩
 refine V fun _ k13 => ?_
 refine V fun _ k14 => ?_
 refine a9 hP hN rfl ?_
 iterate 5 (refine Z rfl fun _ k0 => ?_; simp only [zO, zT, acs, reduceCtorEq, J, D, M, U, O, S]; (repeat refine an ?_); (try refine .inl ?_); apply k0; clear k0; simp only [zP, D])
 refine aa ?_
 apply k14; clear k14; refine kp [1, 2, 3, 18] ?_
 refine cd (fun hc15 => ?_) (fun hc15 => ?_)
 ·(try simp only [zB, reduceCtorEq] at hc15)
  refine ag ?_
  apply k13; clear k13; refine kp [1, 2, 3, 18] ?_
  refine V fun _ k16 => ?_
  refine ar ?_
  refine V fun _ k17 => ?_
  refine V fun _ k18 => ?_
  refine a9 hP hN rfl ?_
  iterate 5 (refine Z rfl fun _ k0 => ?_; simp only [zO, zT, acs, reduceCtorEq, J, D, M, U, O, S]; (repeat refine an ?_); (try refine .inl ?_); apply k0; clear k0; simp only [zP, D])
  refine Z rfl fun _ k0 => ?_
  refine aq (h := ae (sO (xs.getD k []) (hn k (by omega)))) rfl rfl (by first | exact rfl | (simp only [ev, zP, J, D]; exact rfl)) (by simp only [zV, acs, reduceCtorEq, J, D, M, U, O, S]) ?_
  apply k0; clear k0; simp only [zP, D]
  (refine Z rfl fun _ k0 => ?_; simp only [zO, zT, acs, reduceCtorEq, J, D, M, U, O, S]; (repeat refine an ?_); (try refine .inl ?_); apply k0; clear k0; simp only [zP, D])
  refine aa ?_
  apply k18; clear k18; refine kp [1, 2, 3, 18, 27] ?_
  refine cd (fun hc19 => ?_) (fun hc19 => ?_)
  ·(try simp only [zB, reduceCtorEq] at hc19)
   have hbad : bW (xs.getD k []) = false := by simpa using hc19
   refine V fun _ k20 => ?_
   refine a9 hP hN rfl ?_
   (refine Z rfl fun _ k0 => ?_; simp only [zO, zT, acs, reduceCtorEq, J, D, M, U, O, S]; (repeat refine an ?_); (try refine .inl ?_); apply k0; clear k0; simp only [zP, D])
   refine aa ?_
   apply k20; clear k20; refine kp [1, 2, 3, 18, 27] ?_
   refine af ?_
   refine ⟨nr, _, rfl, ?_⟩; simp only [zF, zP, J, D]
   refine VLE.of_eq ?_
   refine congrArg (fun n => AV.one (AC.int IntKind.i64 n)) ?_
   symm
   first
   | exact eX (by omega)
   | exact dG (by omega) (by omega)
   | exact eR (by omega) (by omega) (k := k) (by omega) hq hbad
   | exact f0 (by omega) (by omega) (k := k) (by omega) hq hgood hin
   | exact dM (by omega) (by omega) fun q hq2 => hq q (by omega)
  (try simp only [zB, reduceCtorEq] at hc19)
  have hgood : bW (xs.getD k []) = true := by simpa using hc19
  refine ag ?_
  apply k17; clear k17; refine kp [1, 2, 3, 18, 27] ?_
  refine V fun _ k21 => ?_
  refine br hP hN Tryd.mixed rfl ?_
  iterate 6 (refine Z rfl fun _ k0 => ?_; simp only [zO, zT, acs, reduceCtorEq, J, D, M, U, O, S]; (repeat refine an ?_); (try refine .inl ?_); apply k0; clear k0; simp only [zP, D])
  refine Z rfl fun _ k0 => ?_
  refine aq (h := ae (nZ xs (xs.getD k []))) rfl rfl (by first | exact rfl | (simp only [ev, zP, J, D]; exact rfl)) (by simp only [zV, acs, reduceCtorEq, J, D, M, U, O, S]) ?_
  apply k0; clear k0; simp only [zP, D]
  iterate 5 (refine Z rfl fun _ k0 => ?_; simp only [zO, zT, acs, reduceCtorEq, J, D, M, U, O, S]; (repeat refine an ?_); (try refine .inl ?_); apply k0; clear k0; simp only [zP, D])
  refine aa ?_
  refine ⟨by kernel_rfl, ?_⟩
  apply k21; clear k21; refine kp [1, 2, 3, 4, 18, 27] ?_
  refine V fun _ k22 => ?_
  refine a9 hP hN rfl ?_
  iterate 3 (refine Z rfl fun _ k0 => ?_; simp only [zO, zT, acs, reduceCtorEq, J, D, M, U, O, S]; (repeat refine an ?_); (try refine .inl ?_); apply k0; clear k0; simp only [zP, D])
  refine aa ?_
  apply k22; clear k22; refine kp [1, 2, 3, 4, 18, 27, 40] ?_
  refine cd (fun hc23 => ?_) (fun hc23 => ?_)
  ·(try simp only [zB, reduceCtorEq] at hc23)
   have hin : xs.getD k [] ∈ xs.take k := tZ (by omega) (by have h9 := hc23; omega)
   refine V fun _ k24 => ?_
   refine a9 hP hN rfl ?_
   (refine Z rfl fun _ k0 => ?_; simp only [zO, zT, acs, reduceCtorEq, J, D, M, U, O, S]; (repeat refine an ?_); (try refine .inl ?_); apply k0; clear k0; simp only [zP, D])
   refine aa ?_
   apply k24; clear k24; refine kp [1, 2, 3, 4, 18, 27, 40] ?_
   refine af ?_
   refine ⟨nr, _, rfl, ?_⟩; simp only [zF, zP, J, D]
   refine VLE.of_eq ?_
   refine congrArg (fun n => AV.one (AC.int IntKind.i64 n)) ?_
   symm
   first
   | exact eX (by omega)
   | exact dG (by omega) (by omega)
   | exact eR (by omega) (by omega) (k := k) (by omega) hq hbad
   | exact f0 (by omega) (by omega) (k := k) (by omega) hq hgood hin
   | exact dM (by omega) (by omega) fun q hq2 => hq q (by omega)
  (try simp only [zB, reduceCtorEq] at hc23)
  have hnin : xs.getD k [] ∉ xs.take k := ud (by omega) (by have h9 := hc23; omega)
  refine ag ?_
  apply k16; clear k16; refine kp [1, 2, 3, 4, 18, 27, 40] ?_
  refine a9 hP hN rfl ?_
  iterate 3 (refine Z rfl fun _ k0 => ?_; simp only [zO, zT, acs, reduceCtorEq, J, D, M, U, O, S]; (repeat refine an ?_); (try refine .inl ?_); apply k0; clear k0; simp only [zP, D])
  refine aa ?_
  refine ⟨_, _, ?_, ak [1, 2, 3], k + 1, by omega, fun q hq2 => ?_, rfl, rfl⟩
  · omega
  · by_cases e : q = k
    · rw [e]; exact sq hgood hnin
    · exact hq q (by omega)
 (try simp only [zB, reduceCtorEq] at hc15)
 refine aQ ?_
 apply k10; clear k10; refine kp [1, 2, 3, 18] ?_
 refine V fun _ k25 => ?_
 refine a9 hP hN rfl ?_
 (refine Z rfl fun _ k0 => ?_; simp only [zO, zT, acs, reduceCtorEq, J, D, M, U, O, S]; (repeat refine an ?_); (try refine .inl ?_); apply k0; clear k0; simp only [zP, D])
 refine aa ?_
 apply k25; clear k25; refine kp [1, 2, 3, 18] ?_
 refine af ?_
 refine ⟨nr, _, rfl, ?_⟩; simp only [zF, zP, J, D]
 refine VLE.of_eq ?_
 refine congrArg (fun n => AV.one (AC.int IntKind.i64 n)) ?_
 symm
 first
 | exact eX (by omega)
 | exact dG (by omega) (by omega)
 | exact eR (by omega) (by omega) (k := k) (by omega) hq hbad
 | exact f0 (by omega) (by omega) (k := k) (by omega) hq hgood hin
 | exact dM (by omega) (by omega) fun q hq2 => hq q (by omega)
theorem ng (xs ys : List Bs) (hx : ∀ k, k < xs.length → (xs.getD k []).length ≤ 1048576) (hy : ∀ k, k < ys.length → (ys.getD k []).length ≤ 1048576) : aU Tryd.prog 30 [.agg [.list .str xs], .agg [.list .str ys]] (.one (.int .i64 (cg xs ys))) := by
 refine az Tryd.func30 rfl (by kernel_rfl) (Nat.le_of_ble_eq_true rfl) rfl fun C hP hN hB => ?_
 replace hN : C.N = 12 := hN
 simp only [aG, D]
 refine V fun _ k1 => ?_
 refine a9 hP hN rfl ?_
 iterate 3 (refine Z rfl fun _ k0 => ?_; simp only [zO, zT, acs, reduceCtorEq, J, D, M, U, O, S]; (repeat refine an ?_); (try refine .inl ?_); apply k0; clear k0; simp only [zP, D])
 refine aa ?_
 apply k1; clear k1; refine kp [0, 1, 2, 3, 4] ?_
 refine V fun _ k2 => ?_
 refine V fun _ k3 => ?_
 refine a9 hP hN rfl ?_
 (refine Z rfl fun _ k0 => ?_; simp only [zO, zT, acs, reduceCtorEq, J, D, M, U, O, S]; (repeat refine an ?_); (try refine .inl ?_); apply k0; clear k0; simp only [zP, D])
 refine Z rfl fun _ k0 => ?_
 refine aq (h := ae (gl xs hx)) rfl rfl (by first | exact rfl | (simp only [ev, zP, J, D]; exact rfl)) (by simp only [zV, acs, reduceCtorEq, J, D, M, U, O, S]) ?_
 apply k0; clear k0; simp only [zP, D]
 (refine Z rfl fun _ k0 => ?_; simp only [zO, zT, acs, reduceCtorEq, J, D, M, U, O, S]; (repeat refine an ?_); (try refine .inl ?_); apply k0; clear k0; simp only [zP, D])
 refine aa ?_
 apply k3; clear k3; refine kp [0, 1, 2, 3, 4, 7] ?_
 refine cd (fun hc4 => ?_) (fun hc4 => ?_)
 ·(try simp only [zB, reduceCtorEq] at hc4)
  have h0 := hc4
  refine V fun _ k5 => ?_
  refine a9 hP hN rfl ?_
  (refine Z rfl fun _ k0 => ?_; simp only [zO, zT, acs, reduceCtorEq, J, D, M, U, O, S]; (repeat refine an ?_); (try refine .inl ?_); apply k0; clear k0; simp only [zP, D])
  refine Z rfl fun _ k0 => ?_
  refine aq (h := ae (gl xs hx)) rfl rfl (by first | exact rfl | (simp only [ev, zP, J, D]; exact rfl)) (by simp only [zV, acs, reduceCtorEq, J, D, M, U, O, S]) ?_
  apply k0; clear k0; simp only [zP, D]
  (refine Z rfl fun _ k0 => ?_; simp only [zO, zT, acs, reduceCtorEq, J, D, M, U, O, S]; (repeat refine an ?_); (try refine .inl ?_); apply k0; clear k0; simp only [zP, D])
  refine aa ?_
  apply k5; clear k5; refine kp [0, 1, 2, 3, 4, 7] ?_
  refine af ?_
  refine ⟨nr, _, rfl, ?_⟩; simp only [zF, zP, J, D]
  refine VLE.of_eq ?_
  unfold cg
  first
  | (rw [if_neg h0]; done)
  | (rw [if_pos h0]; done)
 (try simp only [zB, reduceCtorEq] at hc4)
 have h0 := hc4
 refine ag ?_
 apply k2; clear k2; refine kp [0, 1, 2, 3, 4, 7] ?_
 refine V fun _ k6 => ?_
 refine a9 hP hN rfl ?_
 (refine Z rfl fun _ k0 => ?_; simp only [zO, zT, acs, reduceCtorEq, J, D, M, U, O, S]; (repeat refine an ?_); (try refine .inl ?_); apply k0; clear k0; simp only [zP, D])
 refine Z rfl fun _ k0 => ?_
 refine aq (h := ae (gl ys hy)) rfl rfl (by first | exact rfl | (simp only [ev, zP, J, D]; exact rfl)) (by simp only [zV, acs, reduceCtorEq, J, D, M, U, O, S]) ?_
 apply k0; clear k0; simp only [zP, D]
 (refine Z rfl fun _ k0 => ?_; simp only [zO, zT, acs, reduceCtorEq, J, D, M, U, O, S]; (repeat refine an ?_); (try refine .inl ?_); apply k0; clear k0; simp only [zP, D])
 refine aa ?_
 apply k6; clear k6; refine kp [0, 1, 2, 3, 4, 7] ?_
 refine af ?_
 refine ⟨nr, _, rfl, ?_⟩; simp only [zF, zP, J, D]
 refine VLE.of_eq ?_
 unfold cg
 first
 | (rw [if_neg h0]; done)
 | (rw [if_pos h0]; done)
theorem tC (n : Int) : aU Tryd.prog 59 [.one (.int .i64 n)] (.one (.bool (decide (1 ≤ n) && decide (n ≤ 1024)))) := by
 refine az Tryd.func59 rfl (by kernel_rfl) (Nat.le_of_ble_eq_true rfl) rfl fun C hP hN hB => ?_
 replace hN : C.N = 9 := hN
 simp only [aG, D]
 refine V fun _ k1 => ?_
 refine a9 hP hN rfl ?_
 (refine Z rfl fun _ k0 => ?_; simp only [zO, zT, acs, reduceCtorEq, J, D, M, U, O, S]; (repeat refine an ?_); (try refine .inl ?_); apply k0; clear k0; simp only [zP, D])
 refine aa ?_
 apply k1; clear k1; refine kp [0, 2] ?_
 refine V fun _ k2 => ?_
 refine a9 hP hN rfl ?_
 iterate 3 (refine Z rfl fun _ k0 => ?_; simp only [zO, zT, acs, reduceCtorEq, J, D, M, U, O, S]; (repeat refine an ?_); (try refine .inl ?_); apply k0; clear k0; simp only [zP, D])
 refine' aA (want := true) 2 rfl (m := 5) (by simp only [zP, J, D]; exact rfl) (by kernel_rfl) rfl rfl rfl rfl rfl (fun hg3 => ?a3) ?b3 ?c3
 case a3 =>
  have hq3 := hg3; (try simp only [zB, reduceCtorEq] at hg3); simp only [zE]
  iterate 2 (refine aK rfl fun _ k0 => ?_; simp only [zO, zT, acs, reduceCtorEq, J, D, M, U, O, S]; (repeat refine an ?_); (try refine .inl ?_); apply k0; clear k0; simp only [zP, D])
  (refine Z rfl fun _ k0 => ?_; simp only [zO, zT, acs, reduceCtorEq, J, D, M, U, O, S]; (repeat refine an ?_); (try refine .inl ?_); apply k0; clear k0; simp only [zP, D])
  refine aa ?_
  refine ⟨by simp only [zP, J, D]; exact rfl, rfl, ?_, rfl⟩; (repeat refine aB rfl ?_); exact aO (by exact rfl) hq3
 case b3 => exact ba
 simp only [aH, aE]
 (refine Z rfl fun _ k0 => ?_; simp only [zO, zT, acs, reduceCtorEq, J, D, M, U, O, S]; (repeat refine an ?_); (try refine .inl ?_); apply k0; clear k0; simp only [zP, D])
 refine aa ?_
 apply k2; clear k2; refine kp [0, 2] ?_
 refine af ?_
 refine ⟨nr, _, rfl, ?_⟩; simp only [zF, zP, J, D]
 refine VLE.of_eq ?_
 rfl
theorem qN (w : List Int) (n : Int) : aU Tryd.prog 40 [.one (.list (.int .i64) w), .one (.int .i64 n)] (.one (.int .i64 (bf w n))) := by
 refine az Tryd.func40 rfl (by kernel_rfl) (Nat.le_of_ble_eq_true rfl) rfl fun C hP hN hB => ?_
 replace hN : C.N = 31 := hN
 simp only [aG, D]
 refine V fun _ k1 => ?_
 refine a9 hP hN rfl ?_
 (refine Z rfl fun _ k0 => ?_; simp only [zO, zT, acs, reduceCtorEq, J, D, M, U, O, S]; (repeat refine an ?_); (try refine .inl ?_); apply k0; clear k0; simp only [zP, D])
 refine aa ?_
 apply k1; clear k1; refine kp [0, 1, 4] ?_
 refine V fun _ k2 => ?_
 refine V fun _ k3 => ?_
 refine a9 hP hN rfl ?_
 (refine Z rfl fun _ k0 => ?_; simp only [zO, zT, acs, reduceCtorEq, J, D, M, U, O, S]; (repeat refine an ?_); (try refine .inl ?_); apply k0; clear k0; simp only [zP, D])
 refine Z rfl fun _ k0 => ?_
 refine aq (h := ae (tC n)) rfl rfl (by first | exact rfl | (simp only [ev, zP, J, D]; exact rfl)) (by simp only [zV, acs, reduceCtorEq, J, D, M, U, O, S]) ?_
 apply k0; clear k0; simp only [zP, D]
 (refine Z rfl fun _ k0 => ?_; simp only [zO, zT, acs, reduceCtorEq, J, D, M, U, O, S]; (repeat refine an ?_); (try refine .inl ?_); apply k0; clear k0; simp only [zP, D])
 refine aa ?_
 apply k3; clear k3; refine kp [0, 1, 4, 8] ?_
 refine cd (fun hc4 => ?_) (fun hc4 => ?_)
 ·(try simp only [zB, reduceCtorEq] at hc4)
  refine V fun _ k5 => ?_
  refine a9 hP hN rfl ?_
  (refine Z rfl fun _ k0 => ?_; simp only [zO, zT, acs, reduceCtorEq, J, D, M, U, O, S]; (repeat refine an ?_); (try refine .inl ?_); apply k0; clear k0; simp only [zP, D])
  refine aa ?_
  apply k5; clear k5; refine kp [0, 1, 4, 8] ?_
  refine af ?_
  refine ⟨nr, _, rfl, ?_⟩; simp only [zF, zP, J, D]
  refine VLE.of_eq ?_
  refine congrArg (fun n => AV.one (AC.int IntKind.i64 n)) ?_
  symm
  first
  | (unfold bf; rw [if_pos (by omega)]; done)
  | (unfold bf; rw [if_neg (by omega), if_pos (by omega)]; done)
  | exact fq (by omega) (by omega) (by omega) (i := k) (by omega) (by omega)
  | exact gE (by omega) (by omega) ⟨by omega, fun i hi => hI i (by omega)⟩
 (try simp only [zB, reduceCtorEq] at hc4)
 refine ag ?_
 apply k2; clear k2; refine kp [0, 1, 4, 8] ?_
 refine V fun _ k6 => ?_
 refine V fun _ k7 => ?_
 refine a9 hP hN rfl ?_
 iterate 3 (refine Z rfl fun _ k0 => ?_; simp only [zO, zT, acs, reduceCtorEq, J, D, M, U, O, S]; (repeat refine an ?_); (try refine .inl ?_); apply k0; clear k0; simp only [zP, D])
 refine aa ?_
 apply k7; clear k7; refine kp [0, 1, 4, 8, 11] ?_
 refine cd (fun hc8 => ?_) (fun hc8 => ?_)
 ·(try simp only [zB, reduceCtorEq] at hc8)
  refine V fun _ k9 => ?_
  refine a9 hP hN rfl ?_
  (refine Z rfl fun _ k0 => ?_; simp only [zO, zT, acs, reduceCtorEq, J, D, M, U, O, S]; (repeat refine an ?_); (try refine .inl ?_); apply k0; clear k0; simp only [zP, D])
  refine aa ?_
  apply k9; clear k9; refine kp [0, 1, 4, 8, 11] ?_
  refine af ?_
  refine ⟨nr, _, rfl, ?_⟩; simp only [zF, zP, J, D]
  refine VLE.of_eq ?_
  refine congrArg (fun n => AV.one (AC.int IntKind.i64 n)) ?_
  symm
  first
  | (unfold bf; rw [if_pos (by omega)]; done)
  | (unfold bf; rw [if_neg (by omega), if_pos (by omega)]; done)
  | exact fq (by omega) (by omega) (by omega) (i := k) (by omega) (by omega)
  | exact gE (by omega) (by omega) ⟨by omega, fun i hi => hI i (by omega)⟩
 (try simp only [zB, reduceCtorEq] at hc8)
 refine ag ?_
 apply k6; clear k6; refine kp [0, 1, 4, 8, 11] ?_
 refine V fun _ k10 => ?_
 refine V fun _ k11 => ?_
 refine a9 hP hN rfl ?_
 (refine Z rfl fun _ k0 => ?_; simp only [zO, zT, acs, reduceCtorEq, J, D, M, U, O, S]; (repeat refine an ?_); (try refine .inl ?_); apply k0; clear k0; simp only [zP, D])
 refine aa ?_
 apply k11; clear k11; refine kp [0, 1, 4, 5, 8, 11] ?_
 refine ar ?_
 refine aR (fun n12 s12 => ∃ (k : Nat), (k ≤ w.length) ∧ (∀ i, i < k → 0 ≤ w.getD i 0 ∧ w.getD i 0 < n) ∧ n12 = w.length - k ∧ s12 = { env := [(0, .one (.list (.int .i64) w)), (1, .one (.int .i64 n)), (5, .one (.int .i64 (k : Int)))], L := [] }) ?_ ?_
 ·exact ⟨_, _, ak [0, 1, 5], 0, Nat.zero_le _, fun i hi => by omega, rfl, rfl⟩
 rintro n12 s12 ⟨k, hk, hI, rfl, rfl⟩
 refine V fun _ k13 => ?_
 refine V fun _ k14 => ?_
 refine a9 hP hN rfl ?_
 iterate 4 (refine Z rfl fun _ k0 => ?_; simp only [zO, zT, acs, reduceCtorEq, J, D, M, U, O, S]; (repeat refine an ?_); (try refine .inl ?_); apply k0; clear k0; simp only [zP, D])
 refine aa ?_
 apply k14; clear k14; refine kp [0, 1, 5, 15] ?_
 refine cd (fun hc15 => ?_) (fun hc15 => ?_)
 ·(try simp only [zB, reduceCtorEq] at hc15)
  refine ag ?_
  apply k13; clear k13; refine kp [0, 1, 5, 15] ?_
  refine V fun _ k16 => ?_
  refine ar ?_
  refine V fun _ k17 => ?_
  refine a9 hP hN rfl ?_
  iterate 6 (refine Z rfl fun _ k0 => ?_; simp only [zO, zT, acs, reduceCtorEq, J, D, M, U, O, S]; (repeat refine an ?_); (try refine .inl ?_); apply k0; clear k0; simp only [zP, D])
  refine' aA (want := false) 6 rfl (m := 23) (by simp only [zP, J, D]; exact rfl) (by kernel_rfl) rfl rfl rfl rfl rfl (fun hg18 => ?a18) ?b18 ?c18
  case a18 =>
   have hq18 := hg18; (try simp only [zB, reduceCtorEq] at hg18); simp only [zE]
   iterate 6 (refine aK rfl fun _ k0 => ?_; simp only [zO, zT, acs, reduceCtorEq, J, D, M, U, O, S]; (repeat refine an ?_); (try refine .inl ?_); apply k0; clear k0; simp only [zP, D])
   (refine Z rfl fun _ k0 => ?_; simp only [zO, zT, acs, reduceCtorEq, J, D, M, U, O, S]; (repeat refine an ?_); (try refine .inl ?_); apply k0; clear k0; simp only [zP, D])
   refine aa ?_
   refine ⟨by simp only [zP, J, D]; exact rfl, rfl, ?_, rfl⟩; (repeat refine aB rfl ?_); exact aO (by exact rfl) hq18
  case b18 => exact ba
  simp only [aH, aE]
  refine aa ?_
  apply k17; clear k17; refine kp [0, 1, 5, 15, 30] ?_
  refine cd (fun hc19 => ?_) (fun hc19 => ?_)
  ·(try simp only [zB, reduceCtorEq] at hc19)
   refine V fun _ k20 => ?_
   refine a9 hP hN rfl ?_
   (refine Z rfl fun _ k0 => ?_; simp only [zO, zT, acs, reduceCtorEq, J, D, M, U, O, S]; (repeat refine an ?_); (try refine .inl ?_); apply k0; clear k0; simp only [zP, D])
   refine aa ?_
   apply k20; clear k20; refine kp [0, 1, 4, 5, 15, 30] ?_
   refine af ?_
   refine ⟨nr, _, rfl, ?_⟩; simp only [zF, zP, J, D]
   refine VLE.of_eq ?_
   refine congrArg (fun n => AV.one (AC.int IntKind.i64 n)) ?_
   symm
   first
   | (unfold bf; rw [if_pos (by omega)]; done)
   | (unfold bf; rw [if_neg (by omega), if_pos (by omega)]; done)
   | exact fq (by omega) (by omega) (by omega) (i := k) (by omega) (by omega)
   | exact gE (by omega) (by omega) ⟨by omega, fun i hi => hI i (by omega)⟩
  (try simp only [zB, reduceCtorEq] at hc19)
  refine ag ?_
  apply k16; clear k16; refine kp [0, 1, 5, 15, 30] ?_
  refine a9 hP hN rfl ?_
  iterate 3 (refine Z rfl fun _ k0 => ?_; simp only [zO, zT, acs, reduceCtorEq, J, D, M, U, O, S]; (repeat refine an ?_); (try refine .inl ?_); apply k0; clear k0; simp only [zP, D])
  refine aa ?_
  refine ⟨_, _, ?_, ak [0, 1, 5], k + 1, by omega, fun i hi => ?_, rfl, rfl⟩
  · omega
  · by_cases e : i = k
    · rw [e]; omega
    · exact hI i (by omega)
 (try simp only [zB, reduceCtorEq] at hc15)
 refine aQ ?_
 apply k10; clear k10; refine kp [0, 1, 5, 15] ?_
 refine V fun _ k21 => ?_
 refine a9 hP hN rfl ?_
 (refine Z rfl fun _ k0 => ?_; simp only [zO, zT, acs, reduceCtorEq, J, D, M, U, O, S]; (repeat refine an ?_); (try refine .inl ?_); apply k0; clear k0; simp only [zP, D])
 refine aa ?_
 apply k21; clear k21; refine kp [0, 1, 4, 5, 15] ?_
 refine af ?_
 refine ⟨nr, _, rfl, ?_⟩; simp only [zF, zP, J, D]
 refine VLE.of_eq ?_
 refine congrArg (fun n => AV.one (AC.int IntKind.i64 n)) ?_
 symm
 first
 | (unfold bf; rw [if_pos (by omega)]; done)
 | (unfold bf; rw [if_neg (by omega), if_pos (by omega)]; done)
 | exact fq (by omega) (by omega) (by omega) (i := k) (by omega) (by omega)
 | exact gE (by omega) (by omega) ⟨by omega, fun i hi => hI i (by omega)⟩
theorem mq (xs ys : List Bs) (t : TRC) : aU Tryd.prog 38 [.agg [.list .str xs], .agg [.list .str ys], .agg [.list (.int .i64) t.1, .list (.int .i64) t.2.1]] (.one (.int .i64 (bP xs.length ys.length t))) := by
 refine az Tryd.func38 rfl (by kernel_rfl) (Nat.le_of_ble_eq_true rfl) rfl fun C hP hN hB => ?_
 replace hN : C.N = 56 := hN
 simp only [aG, D]
 refine V fun _ k1 => ?_
 refine a9 hP hN rfl ?_
 iterate 4 (refine Z rfl fun _ k0 => ?_; simp only [zO, zT, acs, reduceCtorEq, J, D, M, U, O, S]; (repeat refine an ?_); (try refine .inl ?_); apply k0; clear k0; simp only [zP, D])
 refine aa ?_
 apply k1; clear k1; refine kp [0, 1, 2, 3, 4, 5, 6] ?_
 refine V fun _ k2 => ?_
 refine a9 hP hN rfl ?_
 iterate 5 (refine Z rfl fun _ k0 => ?_; simp only [zO, zT, acs, reduceCtorEq, J, D, M, U, O, S]; (repeat refine an ?_); (try refine .inl ?_); apply k0; clear k0; simp only [zP, D])
 refine Z rfl fun _ k0 => ?_
 refine aq (h := ae (qN t.1 xs.length)) rfl rfl (by first | exact rfl | (simp only [ev, zP, J, D]; exact rfl)) (by simp only [zV, acs, reduceCtorEq, J, D, M, U, O, S]) ?_
 apply k0; clear k0; simp only [zP, D]
 (refine Z rfl fun _ k0 => ?_; simp only [zO, zT, acs, reduceCtorEq, J, D, M, U, O, S]; (repeat refine an ?_); (try refine .inl ?_); apply k0; clear k0; simp only [zP, D])
 refine aa ?_
 apply k2; clear k2; refine kp [0, 1, 2, 3, 4, 5, 6, 7] ?_
 refine V fun _ k3 => ?_
 refine ar ?_
 refine V fun _ k4 => ?_
 refine a9 hP hN rfl ?_
 iterate 5 (refine Z rfl fun _ k0 => ?_; simp only [zO, zT, acs, reduceCtorEq, J, D, M, U, O, S]; (repeat refine an ?_); (try refine .inl ?_); apply k0; clear k0; simp only [zP, D])
 refine aa ?_
 apply k4; clear k4; refine kp [0, 1, 2, 3, 4, 5, 6, 7, 15] ?_
 refine cd (fun hc5 => ?_) (fun hc5 => ?_)
 ·(try simp only [zB, reduceCtorEq] at hc5)
  have h0 := hc5
  refine V fun _ k6 => ?_
  refine a9 hP hN rfl ?_
  (refine Z rfl fun _ k0 => ?_; simp only [zO, zT, acs, reduceCtorEq, J, D, M, U, O, S]; (repeat refine an ?_); (try refine .inl ?_); apply k0; clear k0; simp only [zP, D])
  refine aa ?_
  apply k6; clear k6; refine kp [0, 1, 2, 3, 4, 5, 6, 7, 15] ?_
  refine af ?_
  refine ⟨nr, _, rfl, ?_⟩; simp only [zF, zP, J, D]
  refine VLE.of_eq ?_
  refine congrArg (fun n => AV.one (AC.int IntKind.i64 n)) ?_
  symm
  first
  | exact dJ (by omega)
  | exact dI (by omega) h1
  | exact dH (by omega) (by omega) (by omega)
  | exact dL (i := k) (by omega) (by omega) (by omega) (by omega) (by omega)
  | exact d7 (by omega) (by omega) (by omega) fun q hq2 => hq q (by omega)
 (try simp only [zB, reduceCtorEq] at hc5)
 have h0 := hc5
 refine V fun _ k7 => ?_
 refine a9 hP hN rfl ?_
 iterate 3 (refine Z rfl fun _ k0 => ?_; simp only [zO, zT, acs, reduceCtorEq, J, D, M, U, O, S]; (repeat refine an ?_); (try refine .inl ?_); apply k0; clear k0; simp only [zP, D])
 refine aa ?_
 apply k7; clear k7; refine kp [0, 1, 2, 3, 4, 5, 6, 7, 15, 20] ?_
 refine cd (fun hc8 => ?_) (fun hc8 => ?_)
 ·(try simp only [zB, reduceCtorEq] at hc8)
  have h1 := hc8
  refine V fun _ k9 => ?_
  refine a9 hP hN rfl ?_
  iterate 2 (refine Z rfl fun _ k0 => ?_; simp only [zO, zT, acs, reduceCtorEq, J, D, M, U, O, S]; (repeat refine an ?_); (try refine .inl ?_); apply k0; clear k0; simp only [zP, D])
  refine aa ?_
  apply k9; clear k9; refine kp [0, 1, 2, 3, 4, 5, 6, 7, 15, 20] ?_
  refine af ?_
  refine ⟨nr, _, rfl, ?_⟩; simp only [zF, zP, J, D]
  refine VLE.of_eq ?_
  refine congrArg (fun n => AV.one (AC.int IntKind.i64 n)) ?_
  symm
  first
  | exact dJ (by omega)
  | exact dI (by omega) h1
  | exact dH (by omega) (by omega) (by omega)
  | exact dL (i := k) (by omega) (by omega) (by omega) (by omega) (by omega)
  | exact d7 (by omega) (by omega) (by omega) fun q hq2 => hq q (by omega)
 (try simp only [zB, reduceCtorEq] at hc8)
 have h1 := hc8
 refine V fun _ k10 => ?_
 refine a9 hP hN rfl ?_
 iterate 8 (refine Z rfl fun _ k0 => ?_; simp only [zO, zT, acs, reduceCtorEq, J, D, M, U, O, S]; (repeat refine an ?_); (try refine .inl ?_); apply k0; clear k0; simp only [zP, D])
 refine aa ?_
 apply k10; clear k10; refine kp [0, 1, 2, 3, 4, 5, 6, 7, 15, 20, 24] ?_
 refine cd (fun hc11 => ?_) (fun hc11 => ?_)
 ·(try simp only [zB, reduceCtorEq] at hc11)
  have h2 := hc11
  refine V fun _ k12 => ?_
  refine a9 hP hN rfl ?_
  (refine Z rfl fun _ k0 => ?_; simp only [zO, zT, acs, reduceCtorEq, J, D, M, U, O, S]; (repeat refine an ?_); (try refine .inl ?_); apply k0; clear k0; simp only [zP, D])
  refine aa ?_
  apply k12; clear k12; refine kp [0, 1, 2, 3, 4, 5, 6, 7, 15, 20, 24] ?_
  refine af ?_
  refine ⟨nr, _, rfl, ?_⟩; simp only [zF, zP, J, D]
  refine VLE.of_eq ?_
  refine congrArg (fun n => AV.one (AC.int IntKind.i64 n)) ?_
  symm
  first
  | exact dJ (by omega)
  | exact dI (by omega) h1
  | exact dH (by omega) (by omega) (by omega)
  | exact dL (i := k) (by omega) (by omega) (by omega) (by omega) (by omega)
  | exact d7 (by omega) (by omega) (by omega) fun q hq2 => hq q (by omega)
 (try simp only [zB, reduceCtorEq] at hc11)
 have h2 := hc11
 have hlen := (dh h1).len
 refine ag ?_
 apply k3; clear k3; refine kp [0, 1, 2, 3, 4, 5, 6, 7, 15, 20, 24] ?_
 refine V fun _ k13 => ?_
 refine V fun _ k14 => ?_
 refine a9 hP hN rfl ?_
 (refine Z rfl fun _ k0 => ?_; simp only [zO, zT, acs, reduceCtorEq, J, D, M, U, O, S]; (repeat refine an ?_); (try refine .inl ?_); apply k0; clear k0; simp only [zP, D])
 refine aa ?_
 apply k14; clear k14; refine kp [0, 1, 2, 3, 4, 5, 6, 7, 8, 15, 20, 24] ?_
 refine ar ?_
 refine aR (fun n15 s15 => ∃ (k : Nat), (k ≤ t.2.1.length) ∧ (∀ q, q < k → 0 ≤ t.2.1.getD q 0 ∧ t.2.1.getD q 0 < (ys.length : Int)) ∧ n15 = t.2.1.length - k ∧ s15 = { env := [(4, .one (.ptr 1 0 0 0)), (5, .one (.ptr 2 0 0 0)), (6, .one (.int .i64 0)), (8, .one (.int .i64 (k : Int)))], L := [.vars 24 [.list .str xs], .vars 24 [.list .str ys], .vars 60 [.list (.int .i64) t.1, .list (.int .i64) t.2.1]] }) ?_ ?_
 ·exact ⟨_, _, ak [4, 5, 6, 8], 0, Nat.zero_le _, fun q hq => by omega, rfl, rfl⟩
 rintro n15 s15 ⟨k, hk, hq, rfl, rfl⟩
 refine V fun _ k16 => ?_
 refine V fun _ k17 => ?_
 refine a9 hP hN rfl ?_
 iterate 5 (refine Z rfl fun _ k0 => ?_; simp only [zO, zT, acs, reduceCtorEq, J, D, M, U, O, S]; (repeat refine an ?_); (try refine .inl ?_); apply k0; clear k0; simp only [zP, D])
 refine aa ?_
 apply k17; clear k17; refine kp [4, 5, 6, 8, 36] ?_
 refine cd (fun hc18 => ?_) (fun hc18 => ?_)
 ·(try simp only [zB, reduceCtorEq] at hc18)
  refine ag ?_
  apply k16; clear k16; refine kp [4, 5, 6, 8, 36] ?_
  refine V fun _ k19 => ?_
  refine ar ?_
  refine V fun _ k20 => ?_
  refine br hP hN Tryd.mixed rfl ?_
  iterate 7 (refine Z rfl fun _ k0 => ?_; simp only [zO, zT, acs, reduceCtorEq, J, D, M, U, O, S]; (repeat refine an ?_); (try refine .inl ?_); apply k0; clear k0; simp only [zP, D])
  refine' aA (want := false) 9 rfl (m := 45) (by simp only [zP, J, D]; exact rfl) (by kernel_rfl) rfl rfl rfl rfl rfl (fun hg21 => ?a21) ?b21 ?c21
  case a21 =>
   have hq21 := hg21; (try simp only [zB, reduceCtorEq] at hg21); simp only [zE]
   iterate 9 (refine aK rfl fun _ k0 => ?_; simp only [zO, zT, acs, reduceCtorEq, J, D, M, U, O, S]; (repeat refine an ?_); (try refine .inl ?_); apply k0; clear k0; simp only [zP, D])
   (refine Z rfl fun _ k0 => ?_; simp only [zO, zT, acs, reduceCtorEq, J, D, M, U, O, S]; (repeat refine an ?_); (try refine .inl ?_); apply k0; clear k0; simp only [zP, D])
   refine aa ?_
   refine ⟨by simp only [zP, J, D]; exact rfl, rfl, ?_, rfl⟩; (repeat refine aB rfl ?_); exact aO (by exact rfl) hq21
  case b21 => exact ba
  simp only [aH, aE]
  refine aa ?_
  refine ⟨by kernel_rfl, ?_⟩
  apply k20; clear k20; refine kp [4, 5, 6, 8, 36, 55] ?_
  refine cd (fun hc22 => ?_) (fun hc22 => ?_)
  ·(try simp only [zB, reduceCtorEq] at hc22)
   have hbd := hc22
   refine V fun _ k23 => ?_
   refine a9 hP hN rfl ?_
   (refine Z rfl fun _ k0 => ?_; simp only [zO, zT, acs, reduceCtorEq, J, D, M, U, O, S]; (repeat refine an ?_); (try refine .inl ?_); apply k0; clear k0; simp only [zP, D])
   refine aa ?_
   apply k23; clear k23; refine kp [4, 5, 6, 8, 36, 55] ?_
   refine af ?_
   refine ⟨nr, _, rfl, ?_⟩; simp only [zF, zP, J, D]
   refine VLE.of_eq ?_
   refine congrArg (fun n => AV.one (AC.int IntKind.i64 n)) ?_
   symm
   first
   | exact dJ (by omega)
   | exact dI (by omega) h1
   | exact dH (by omega) (by omega) (by omega)
   | exact dL (i := k) (by omega) (by omega) (by omega) (by omega) (by omega)
   | exact d7 (by omega) (by omega) (by omega) fun q hq2 => hq q (by omega)
  (try simp only [zB, reduceCtorEq] at hc22)
  have hgd := hc22
  refine ag ?_
  apply k19; clear k19; refine kp [4, 5, 6, 8, 36, 55] ?_
  refine a9 hP hN rfl ?_
  iterate 3 (refine Z rfl fun _ k0 => ?_; simp only [zO, zT, acs, reduceCtorEq, J, D, M, U, O, S]; (repeat refine an ?_); (try refine .inl ?_); apply k0; clear k0; simp only [zP, D])
  refine aa ?_
  refine ⟨_, _, ?_, ak [4, 5, 6, 8], k + 1, by omega, fun q hq2 => ?_, rfl, rfl⟩
  · omega
  · by_cases e : q = k
    · rw [e]; omega
    · exact hq q (by omega)
 (try simp only [zB, reduceCtorEq] at hc18)
 refine aQ ?_
 apply k13; clear k13; refine kp [4, 5, 6, 8, 36] ?_
 refine V fun _ k24 => ?_
 refine a9 hP hN rfl ?_
 (refine Z rfl fun _ k0 => ?_; simp only [zO, zT, acs, reduceCtorEq, J, D, M, U, O, S]; (repeat refine an ?_); (try refine .inl ?_); apply k0; clear k0; simp only [zP, D])
 refine aa ?_
 apply k24; clear k24; refine kp [4, 5, 6, 8, 36] ?_
 refine af ?_
 refine ⟨nr, _, rfl, ?_⟩; simp only [zF, zP, J, D]
 refine VLE.of_eq ?_
 refine congrArg (fun n => AV.one (AC.int IntKind.i64 n)) ?_
 symm
 first
 | exact dJ (by omega)
 | exact dI (by omega) h1
 | exact dH (by omega) (by omega) (by omega)
 | exact dL (i := k) (by omega) (by omega) (by omega) (by omega) (by omega)
 | exact d7 (by omega) (by omega) (by omega) fun q hq2 => hq q (by omega)
set_option maxHeartbeats 2000000 in
theorem sh (xs ys : List Bs) (l : List TRC) (hx : ∀ k, k < xs.length → (xs.getD k []).length ≤ 1048576) (hy : ∀ k, k < ys.length → (ys.getD k []).length ≤ 1048576) : aU Tryd.prog 15 [.agg [.list .str xs], .agg [.list .str ys], .one (.list (.pair (.list (.int .i64)) (.pair (.list (.int .i64)) .unit)) l)] (.tup [.one (.str (jE xs ys l)), .one (.int .i64 (du xs ys l))]) := by
 refine az Tryd.func15 rfl (by kernel_rfl) (Nat.le_of_ble_eq_true rfl) rfl fun C hP hN hB => ?_
 replace hN : C.N = 86 := hN
 simp only [aG, D]
 refine V fun _ k1 => ?_
 refine a9 hP hN rfl ?_
 iterate 4 (refine Z rfl fun _ k0 => ?_; simp only [zO, zT, acs, reduceCtorEq, J, D, M, U, O, S]; (repeat refine an ?_); (try refine .inl ?_); apply k0; clear k0; simp only [zP, D])
 refine aa ?_
 apply k1; clear k1; refine kp [0, 1, 2, 3, 4, 6, 7] ?_
 refine V fun _ k2 => ?_
 refine V fun _ k3 => ?_
 refine a9 hP hN rfl ?_
 iterate 2 (refine Z rfl fun _ k0 => ?_; simp only [zO, zT, acs, reduceCtorEq, J, D, M, U, O, S]; (repeat refine an ?_); (try refine .inl ?_); apply k0; clear k0; simp only [zP, D])
 refine Z rfl fun _ k0 => ?_
 refine aq (h := ae (ng xs ys hx hy)) rfl rfl (by first | exact rfl | (simp only [ev, zP, J, D]; exact rfl)) (by simp only [zV, acs, reduceCtorEq, J, D, M, U, O, S]) ?_
 apply k0; clear k0; simp only [zP, D]
 (refine Z rfl fun _ k0 => ?_; simp only [zO, zT, acs, reduceCtorEq, J, D, M, U, O, S]; (repeat refine an ?_); (try refine .inl ?_); apply k0; clear k0; simp only [zP, D])
 refine aa ?_
 apply k3; clear k3; refine kp [0, 1, 2, 3, 4, 6, 7, 15] ?_
 refine cd (fun hc4 => ?_) (fun hc4 => ?_)
 ·(try simp only [zB, reduceCtorEq] at hc4)
  have hb0 := hc4
  refine V fun _ k5 => ?_
  refine a9 hP hN rfl ?_
  iterate 2 (refine Z rfl fun _ k0 => ?_; simp only [zO, zT, acs, reduceCtorEq, J, D, M, U, O, S]; (repeat refine an ?_); (try refine .inl ?_); apply k0; clear k0; simp only [zP, D])
  refine Z rfl fun _ k0 => ?_
  refine aq (h := ae (ng xs ys hx hy)) rfl rfl (by first | exact rfl | (simp only [ev, zP, J, D]; exact rfl)) (by simp only [zV, acs, reduceCtorEq, J, D, M, U, O, S]) ?_
  apply k0; clear k0; simp only [zP, D]
  iterate 2 (refine Z rfl fun _ k0 => ?_; simp only [zO, zT, acs, reduceCtorEq, J, D, M, U, O, S]; (repeat refine an ?_); (try refine .inl ?_); apply k0; clear k0; simp only [zP, D])
  refine aa ?_
  apply k5; clear k5; refine kp [0, 1, 2, 3, 4, 6, 7, 15] ?_
  refine af ?_
  refine ⟨nr, _, rfl, ?_⟩; simp only [zF, zP, J, D]
  refine VLE.of_eq ?_
  first
  | (obtain ⟨e1, e2⟩ := eZ (l := l) hb0
     rw [e1, e2]; done)
  | (obtain ⟨e1, e2⟩ := dK (l := l) hb0 (by omega)
     rw [e1, e2]; done)
  | (obtain ⟨e1, e2⟩ := eU (l := l) hb0 (by omega) (k := k) (by omega) hq (by rw [hlk]; exact hpe)
     rw [e1, e2, hlk]; done)
  | (obtain ⟨e1, e2⟩ := eW (l := l) hb0 (by omega) hq2 (by rw [← hPa]; omega)
     rw [e1, e2]; done)
  | (obtain ⟨e1, e2⟩ := eY (l := l) hb0 (by omega) hq2 (by rw [← hPa]; omega)
     rw [e1, e2, hPa]; done)
 (try simp only [zB, reduceCtorEq] at hc4)
 have hb0 := hc4
 obtain ⟨ax, ay⟩ := kT hb0
 refine ag ?_
 apply k2; clear k2; refine kp [0, 1, 2, 3, 4, 6, 7, 15] ?_
 refine V fun _ k6 => ?_
 refine V fun _ k7 => ?_
 refine a9 hP hN rfl ?_
 iterate 3 (refine Z rfl fun _ k0 => ?_; simp only [zO, zT, acs, reduceCtorEq, J, D, M, U, O, S]; (repeat refine an ?_); (try refine .inl ?_); apply k0; clear k0; simp only [zP, D])
 refine aa ?_
 apply k7; clear k7; refine kp [0, 1, 2, 3, 4, 6, 7, 15, 21] ?_
 refine cd (fun hc8 => ?_) (fun hc8 => ?_)
 ·(try simp only [zB, reduceCtorEq] at hc8)
  have hlm := hc8
  refine V fun _ k9 => ?_
  refine a9 hP hN rfl ?_
  iterate 2 (refine Z rfl fun _ k0 => ?_; simp only [zO, zT, acs, reduceCtorEq, J, D, M, U, O, S]; (repeat refine an ?_); (try refine .inl ?_); apply k0; clear k0; simp only [zP, D])
  refine aa ?_
  apply k9; clear k9; refine kp [0, 1, 2, 3, 4, 6, 7, 15, 21] ?_
  refine af ?_
  refine ⟨nr, _, rfl, ?_⟩; simp only [zF, zP, J, D]
  refine VLE.of_eq ?_
  first
  | (obtain ⟨e1, e2⟩ := eZ (l := l) hb0
     rw [e1, e2]; done)
  | (obtain ⟨e1, e2⟩ := dK (l := l) hb0 (by omega)
     rw [e1, e2]; done)
  | (obtain ⟨e1, e2⟩ := eU (l := l) hb0 (by omega) (k := k) (by omega) hq (by rw [hlk]; exact hpe)
     rw [e1, e2, hlk]; done)
  | (obtain ⟨e1, e2⟩ := eW (l := l) hb0 (by omega) hq2 (by rw [← hPa]; omega)
     rw [e1, e2]; done)
  | (obtain ⟨e1, e2⟩ := eY (l := l) hb0 (by omega) hq2 (by rw [← hPa]; omega)
     rw [e1, e2, hPa]; done)
 (try simp only [zB, reduceCtorEq] at hc8)
 have hlm := hc8
 refine ag ?_
 apply k6; clear k6; refine kp [0, 1, 2, 3, 4, 6, 7, 15, 21] ?_
 refine V fun _ k10 => ?_
 refine a9 hP hN rfl ?_
 (refine Z rfl fun _ k0 => ?_; simp only [zO, zT, acs, reduceCtorEq, J, D, M, U, O, S]; (repeat refine an ?_); (try refine .inl ?_); apply k0; clear k0; simp only [zP, D])
 refine aa ?_
 apply k10; clear k10; refine kp [0, 1, 2, 3, 4, 6, 7, 8, 15, 21] ?_
 refine V fun _ k11 => ?_
 refine V fun _ k12 => ?_
 refine a9 hP hN rfl ?_
 (refine Z rfl fun _ k0 => ?_; simp only [zO, zT, acs, reduceCtorEq, J, D, M, U, O, S]; (repeat refine an ?_); (try refine .inl ?_); apply k0; clear k0; simp only [zP, D])
 refine aa ?_
 apply k12; clear k12; refine kp [0, 1, 2, 3, 4, 6, 7, 8, 9, 15, 21] ?_
 refine ar ?_
 refine aR (fun n13 s13 => ∃ (k : Nat), (k ≤ l.length) ∧ (∀ q : Nat, q < k → bP xs.length ys.length (l.getD q aN) = 0) ∧ n13 = l.length - k ∧ s13 = { env := [(2, .one (.list (.pair (.list (.int .i64)) (.pair (.list (.int .i64)) .unit)) l)), (3, .one (.ptr 0 0 0 0)), (4, .one (.ptr 1 0 0 0)), (6, .one (.str [])), (7, .one (.int .i64 0)), (8, .one (.str (cG xs ys l k))), (9, .one (.int .i64 (k : Int)))], L := [.vars 24 [.list .str xs], .vars 24 [.list .str ys]] }) ?_ ?_
 ·exact ⟨_, _, ak [2, 3, 4, 6, 7, 8, 9], 0, Nat.zero_le _, fun q hq => by omega, rfl, rfl⟩
 rintro n13 s13 ⟨k, hk, hq, rfl, rfl⟩
 refine V fun _ k14 => ?_
 refine V fun _ k15 => ?_
 refine a9 hP hN rfl ?_
 iterate 4 (refine Z rfl fun _ k0 => ?_; simp only [zO, zT, acs, reduceCtorEq, J, D, M, U, O, S]; (repeat refine an ?_); (try refine .inl ?_); apply k0; clear k0; simp only [zP, D])
 refine aa ?_
 apply k15; clear k15; refine kp [2, 3, 4, 6, 7, 8, 9, 25] ?_
 refine cd (fun hc16 => ?_) (fun hc16 => ?_)
 ·(try simp only [zB, reduceCtorEq] at hc16)
  refine ag ?_
  apply k14; clear k14; refine kp [2, 3, 4, 6, 7, 8, 9, 25] ?_
  refine V fun _ k17 => ?_
  refine ar ?_
  refine V fun _ k18 => ?_
  obtain ⟨x1, x2, hgx⟩ : ∃ x1 x2, ∀ d, l.getD k d = (x1, (x2, ())) := ⟨_, _, ch (by omega)⟩
  have hlk : l.getD k aN = (x1, (x2, ())) := hgx _
  have hPl := j6 ax ay (l := l) (k := k) (by omega) hq
  refine br hP hN Tryd.mixed rfl ?_
  iterate 6 (refine Z rfl fun _ k0 => ?_; simp only [zO, zT, acs, reduceCtorEq, J, D, M, U, O, S, gt, ad, hgx]; (repeat refine an ?_); (try refine .inl ?_); apply k0; clear k0; simp only [zP, D])
  refine Z rfl fun _ k0 => ?_
  refine aq (h := ae (mq xs ys (x1, (x2, ())))) rfl rfl (by first | exact rfl | (simp only [ev, zP, J, D]; exact rfl)) (by simp only [zV, acs, reduceCtorEq, J, D, M, U, O, S, gt, ad, hgx]) ?_
  apply k0; clear k0; simp only [zP, D]
  (refine Z rfl fun _ k0 => ?_; simp only [zO, zT, acs, reduceCtorEq, J, D, M, U, O, S, gt, ad, hgx]; (repeat refine an ?_); (try refine .inl ?_); apply k0; clear k0; simp only [zP, D])
  refine aa ?_
  refine ⟨by kernel_rfl, ?_⟩
  apply k18; clear k18; refine kp [2, 3, 4, 6, 7, 8, 9, 10, 25] ?_
  refine V fun _ k19 => ?_
  refine V fun _ k20 => ?_
  refine a9 hP hN rfl ?_
  iterate 2 (refine Z rfl fun _ k0 => ?_; simp only [zO, zT, acs, reduceCtorEq, J, D, M, U, O, S]; (repeat refine an ?_); (try refine .inl ?_); apply k0; clear k0; simp only [zP, D])
  refine aa ?_
  apply k20; clear k20; refine kp [2, 3, 4, 6, 7, 8, 9, 10, 25, 36] ?_
  refine cd (fun hc21 => ?_) (fun hc21 => ?_)
  ·(try simp only [zB, reduceCtorEq] at hc21)
   have hpe := hc21
   refine V fun _ k22 => ?_
   refine a9 hP hN rfl ?_
   iterate 3 (refine Z rfl fun _ k0 => ?_; simp only [zO, zT, acs, reduceCtorEq, J, D, M, U, O, S]; (repeat refine an ?_); (try refine .inl ?_); apply k0; clear k0; simp only [zP, D])
   refine aa ?_
   apply k22; clear k22; refine kp [2, 3, 4, 6, 7, 8, 9, 10, 25, 36] ?_
   refine af ?_
   refine ⟨nr, _, rfl, ?_⟩; simp only [zF, zP, J, D]
   refine VLE.of_eq ?_
   first
   | (obtain ⟨e1, e2⟩ := eZ (l := l) hb0
      rw [e1, e2]; done)
   | (obtain ⟨e1, e2⟩ := dK (l := l) hb0 (by omega)
      rw [e1, e2]; done)
   | (obtain ⟨e1, e2⟩ := eU (l := l) hb0 (by omega) (k := k) (by omega) hq (by rw [hlk]; exact hpe)
      rw [e1, e2, hlk]; done)
   | (obtain ⟨e1, e2⟩ := eW (l := l) hb0 (by omega) hq2 (by rw [← hPa]; omega)
      rw [e1, e2]; done)
   | (obtain ⟨e1, e2⟩ := eY (l := l) hb0 (by omega) hq2 (by rw [← hPa]; omega)
      rw [e1, e2, hPa]; done)
  (try simp only [zB, reduceCtorEq] at hc21)
  have hpz := hc21
  obtain ⟨g1, g2, g3, g4⟩ := fl hpz
  have g3b : x2.length = x1.length := g3
  have g5 := (dh g2).sym; have g6 := (dh g2).len
  have g6b : x1.length ≤ 1024 := g6
  refine ag ?_
  apply k19; clear k19; refine kp [2, 3, 4, 6, 7, 8, 9, 10, 25, 36] ?_
  refine V fun _ k23 => ?_
  refine V fun _ k24 => ?_
  refine a9 hP hN rfl ?_
  (refine Z rfl fun _ k0 => ?_; simp only [zO, zT, acs, reduceCtorEq, J, D, M, U, O, S]; (repeat refine an ?_); (try refine .inl ?_); apply k0; clear k0; simp only [zP, D])
  refine aa ?_
  apply k24; clear k24; refine kp [2, 3, 4, 6, 7, 8, 9, 10, 11, 25, 36] ?_
  refine ar ?_
  refine aR (fun n25 s25 => ∃ (j : Nat), (j ≤ x1.length) ∧ n25 = x1.length - j ∧ s25 = { env := [(2, .one (.list (.pair (.list (.int .i64)) (.pair (.list (.int .i64)) .unit)) l)), (3, .one (.ptr 0 0 0 0)), (4, .one (.ptr 1 0 0 0)), (6, .one (.str [])), (7, .one (.int .i64 0)), (8, .one (.str ((cG xs ys l k) ++ stP xs ys (x1, (x2, ())) j))), (9, .one (.int .i64 (k : Int))), (10, .one (.int .i64 (bP xs.length ys.length (x1, (x2, ()))))), (11, .one (.int .i64 (j : Int))), (25, .one (.bool (decide ((k : Int) < l.length)))), (36, .one (.bool (!decide (bP xs.length ys.length (x1, (x2, ())) = 0))))], L := [.vars 24 [.list .str xs], .vars 24 [.list .str ys]] }) ?_ ?_
  ·refine ⟨_, _, ak [2, 3, 4, 6, 7, 8, 9, 10, 11, 25, 36], 0, Nat.zero_le _, rfl, ?_⟩
   simp only [stP, List.append_nil]; rfl
  rintro n25 s25 ⟨j, hj, rfl, rfl⟩
  refine V fun _ k26 => ?_
  refine V fun _ k27 => ?_
  have hgx9 := hgx
  refine a9 hP hN rfl ?_
  iterate 8 (refine Z rfl fun _ k0 => ?_; simp only [zO, zT, acs, reduceCtorEq, J, D, M, U, O, S, gt, ad, hgx]; (repeat refine an ?_); (try refine .inl ?_); apply k0; clear k0; simp only [zP, D])
  refine aa ?_
  apply k27; clear k27; refine kp [2, 3, 4, 6, 7, 8, 9, 10, 11, 25, 36, 45] ?_
  refine cd (fun hc28 => ?_) (fun hc28 => ?_)
  ·(try simp only [zB, reduceCtorEq] at hc28)
   refine ag ?_
   apply k26; clear k26; refine kp [2, 3, 4, 6, 7, 8, 9, 10, 11, 25, 36, 45] ?_
   refine V fun _ k29 => ?_
   refine ar ?_
   refine V fun _ k30 => ?_
   refine V fun _ k31 => ?_
   have hsl := f8 ax ay hpz (j := j) (show j ≤ x1.length by omega)
   obtain ⟨r1, r2⟩ := g5 j (show j < x1.length by omega)
   obtain ⟨r3, r4⟩ := g4 j (show j < x2.length by omega)
   have r1 : 0 ≤ x1.getD j 0 := r1; have r2 : x1.getD j 0 < xs.length := r2; have r3 : 0 ≤ x2.getD j 0 := r3; have r4 : x2.getD j 0 < ys.length := r4
   have n1 := (c9 (ax.nm (x1.getD j 0).toNat (by omega))).2.2; have n2 := (c9 (ay.nm (x2.getD j 0).toNat (by omega))).2.2
   refine a9 hP hN rfl ?_
   iterate 2 (refine Z rfl fun _ k0 => ?_; simp only [zO, zT, acs, reduceCtorEq, J, D, M, U, O, S]; (repeat refine an ?_); (try refine .inl ?_); apply k0; clear k0; simp only [zP, D])
   refine aa ?_
   apply k31; clear k31; refine kp [2, 3, 4, 6, 7, 8, 9, 10, 11, 25, 36, 45, 49] ?_
   refine cd (fun hc32 => ?_) (fun hc32 => ?_)
   ·(try simp only [zB, reduceCtorEq] at hc32)
    have hj0 : 0 < j := by omega
    refine a9 hP hN rfl ?_
    iterate 3 (refine Z rfl fun _ k0 => ?_; simp only [zO, zT, acs, reduceCtorEq, J, D, M, U, O, S, am, ah, aw]; (repeat refine an ?_); (try refine .inl ?_); apply k0; clear k0; simp only [zP, D])
    refine aa ?_
    apply k30; clear k30; refine kp [2, 3, 4, 6, 7, 8, 9, 10, 11, 25, 36, 45, 49] ?_
    refine br hP hN Tryd.mixed rfl ?_
    iterate 29 (refine Z rfl fun _ k0 => ?_; simp only [zO, zT, acs, reduceCtorEq, J, D, M, U, O, S, gt, ad, hgx, am, ah, aw]; (repeat refine an ?_); (try refine .inl ?_); apply k0; clear k0; simp only [zP, D])
    refine aa ?_
    refine ⟨by kernel_rfl, ?_⟩
    apply k29; clear k29; refine kp [2, 3, 4, 6, 7, 8, 9, 10, 11, 25, 36, 45, 49] ?_
    refine a9 hP hN rfl ?_
    iterate 3 (refine Z rfl fun _ k0 => ?_; simp only [zO, zT, acs, reduceCtorEq, J, D, M, U, O, S]; (repeat refine an ?_); (try refine .inl ?_); apply k0; clear k0; simp only [zP, D])
    refine aa ?_
    first
    | (refine ⟨_, _, ?_, ak [2, 3, 4, 6, 7, 8, 9, 10, 11, 25, 36], j + 1, by omega, rfl, ?_⟩
       · omega
       · rw [i4, if_pos hj0]; simp only [st1, List.append_assoc, aV, aY]; rfl)
    | (refine ⟨_, _, ?_, ak [2, 3, 4, 6, 7, 8, 9, 10, 11, 25, 36], j + 1, by omega, rfl, ?_⟩
       · omega
       · rw [i4, if_neg hj0]; simp only [st1, List.append_assoc, aV, aY]; rfl)
   (try simp only [zB, reduceCtorEq] at hc32)
   have hj0 : ¬ 0 < j := by omega
   refine ag ?_
   apply k30; clear k30; refine kp [2, 3, 4, 6, 7, 8, 9, 10, 11, 25, 36, 45, 49] ?_
   refine br hP hN Tryd.mixed rfl ?_
   iterate 29 (refine Z rfl fun _ k0 => ?_; simp only [zO, zT, acs, reduceCtorEq, J, D, M, U, O, S, gt, ad, hgx, am, ah, aw]; (repeat refine an ?_); (try refine .inl ?_); apply k0; clear k0; simp only [zP, D])
   refine aa ?_
   refine ⟨by kernel_rfl, ?_⟩
   apply k29; clear k29; refine kp [2, 3, 4, 6, 7, 8, 9, 10, 11, 25, 36, 45, 49] ?_
   refine a9 hP hN rfl ?_
   iterate 3 (refine Z rfl fun _ k0 => ?_; simp only [zO, zT, acs, reduceCtorEq, J, D, M, U, O, S]; (repeat refine an ?_); (try refine .inl ?_); apply k0; clear k0; simp only [zP, D])
   refine aa ?_
   first
   | (refine ⟨_, _, ?_, ak [2, 3, 4, 6, 7, 8, 9, 10, 11, 25, 36], j + 1, by omega, rfl, ?_⟩
      · omega
      · rw [i4, if_pos hj0]; simp only [st1, List.append_assoc, aV, aY]; rfl)
   | (refine ⟨_, _, ?_, ak [2, 3, 4, 6, 7, 8, 9, 10, 11, 25, 36], j + 1, by omega, rfl, ?_⟩
      · omega
      · rw [i4, if_neg hj0]; simp only [st1, List.append_assoc, aV, aY]; rfl)
  (try simp only [zB, reduceCtorEq] at hc28)
  refine aQ ?_
  apply k23; clear k23; refine kp [2, 3, 4, 6, 7, 8, 9, 10, 11, 25, 36, 45] ?_
  have hj9 : j = x1.length := by omega
  have hsl := f8 ax ay hpz (j := j) (show j ≤ x1.length by omega)
  refine a9 hP hN rfl ?_
  iterate 3 (refine Z rfl fun _ k0 => ?_; simp only [zO, zT, acs, reduceCtorEq, J, D, M, U, O, S, am, ah, aw]; (repeat refine an ?_); (try refine .inl ?_); apply k0; clear k0; simp only [zP, D])
  refine aa ?_
  apply k17; clear k17; refine kp [2, 3, 4, 6, 7, 8, 9, 10, 11, 25, 36, 45] ?_
  refine a9 hP hN rfl ?_
  iterate 3 (refine Z rfl fun _ k0 => ?_; simp only [zO, zT, acs, reduceCtorEq, J, D, M, U, O, S]; (repeat refine an ?_); (try refine .inl ?_); apply k0; clear k0; simp only [zP, D])
  refine aa ?_
  refine ⟨_, _, ?_, ak [2, 3, 4, 6, 7, 8, 9], k + 1, by omega, fun q hq2 => ?_, rfl, ?_⟩
  · omega
  · by_cases e : q = k
    · rw [e, hlk]; exact hpz
    · exact hq q (by omega)
  · rw [ia (by omega), hlk, show lnT xs ys (x1, (x2, ())) = stP xs ys (x1, (x2, ())) j by rw [hj9]; rfl]; rfl
 (try simp only [zB, reduceCtorEq] at hc16)
 refine aQ ?_
 apply k11; clear k11; refine kp [2, 3, 4, 6, 7, 8, 9, 25] ?_
 refine V fun _ k33 => ?_
 refine V fun _ k34 => ?_
 have hkl : k = l.length := by omega
 have hPa : (cG xs ys l k) = fe xs ys l := by rw [hkl]; exact lM _ _ _
 have hq2 : ∀ q : Nat, q < l.length → bP xs.length ys.length (l.getD q aN) = 0 := fun q hq2 => hq q (by omega)
 refine a9 hP hN rfl ?_
 iterate 3 (refine Z rfl fun _ k0 => ?_; simp only [zO, zT, acs, reduceCtorEq, J, D, M, U, O, S]; (repeat refine an ?_); (try refine .inl ?_); apply k0; clear k0; simp only [zP, D])
 refine aa ?_
 apply k34; clear k34; refine kp [2, 3, 4, 6, 7, 8, 9, 25, 84] ?_
 refine cd (fun hc35 => ?_) (fun hc35 => ?_)
 ·(try simp only [zB, reduceCtorEq] at hc35)
  have hbig := hc35
  refine V fun _ k36 => ?_
  refine a9 hP hN rfl ?_
  iterate 2 (refine Z rfl fun _ k0 => ?_; simp only [zO, zT, acs, reduceCtorEq, J, D, M, U, O, S]; (repeat refine an ?_); (try refine .inl ?_); apply k0; clear k0; simp only [zP, D])
  refine aa ?_
  apply k36; clear k36; refine kp [2, 3, 4, 6, 7, 8, 9, 25, 84] ?_
  refine af ?_
  refine ⟨nr, _, rfl, ?_⟩; simp only [zF, zP, J, D]
  refine VLE.of_eq ?_
  first
  | (obtain ⟨e1, e2⟩ := eZ (l := l) hb0
     rw [e1, e2]; done)
  | (obtain ⟨e1, e2⟩ := dK (l := l) hb0 (by omega)
     rw [e1, e2]; done)
  | (obtain ⟨e1, e2⟩ := eU (l := l) hb0 (by omega) (k := k) (by omega) hq (by rw [hlk]; exact hpe)
     rw [e1, e2, hlk]; done)
  | (obtain ⟨e1, e2⟩ := eW (l := l) hb0 (by omega) hq2 (by rw [← hPa]; omega)
     rw [e1, e2]; done)
  | (obtain ⟨e1, e2⟩ := eY (l := l) hb0 (by omega) hq2 (by rw [← hPa]; omega)
     rw [e1, e2, hPa]; done)
 (try simp only [zB, reduceCtorEq] at hc35)
 have hsm := hc35
 refine ag ?_
 apply k33; clear k33; refine kp [2, 3, 4, 6, 7, 8, 9, 25, 84] ?_
 refine V fun _ k37 => ?_
 refine a9 hP hN rfl ?_
 iterate 3 (refine Z rfl fun _ k0 => ?_; simp only [zO, zT, acs, reduceCtorEq, J, D, M, U, O, S]; (repeat refine an ?_); (try refine .inl ?_); apply k0; clear k0; simp only [zP, D])
 refine aa ?_
 apply k37; clear k37; refine kp [2, 3, 4, 6, 7, 8, 9, 25, 84] ?_
 refine af ?_
 refine ⟨nr, _, rfl, ?_⟩; simp only [zF, zP, J, D]
 refine VLE.of_eq ?_
 first
 | (obtain ⟨e1, e2⟩ := eZ (l := l) hb0
    rw [e1, e2]; done)
 | (obtain ⟨e1, e2⟩ := dK (l := l) hb0 (by omega)
    rw [e1, e2]; done)
 | (obtain ⟨e1, e2⟩ := eU (l := l) hb0 (by omega) (k := k) (by omega) hq (by rw [hlk]; exact hpe)
    rw [e1, e2, hlk]; done)
 | (obtain ⟨e1, e2⟩ := eW (l := l) hb0 (by omega) hq2 (by rw [← hPa]; omega)
    rw [e1, e2]; done)
 | (obtain ⟨e1, e2⟩ := eY (l := l) hb0 (by omega) hq2 (by rw [← hPa]; omega)
    rw [e1, e2, hPa]; done)
set_option maxHeartbeats 1000000 in
theorem tB {o : Obj} (hmx : MXL o) (xs ys : List Bs) (l : List TRC) (n : Int) : ct Tryd.prog [.fact 0 o] 4 [.agg [.list .str xs, .list .str ys, .list (.pair (.list (.int .i64)) (.pair (.list (.int .i64)) .unit)) l, .int .i64 n]] { av := .one (.bool true), fp := [0] } := by
 refine cK _ _ Tryd.func4 rfl (by kernel_rfl) (Nat.le_of_ble_eq_true rfl) (by intro k hk; simp only [ah, aw, Nat.zero_add, D] at hk; simp only [List.mem_cons, List.not_mem_nil, or_false]; omega) (fun C hP hN hB => ?_)
 replace hB : C.bL.length = 1 := by rw [hB]; rfl
 replace hN : C.N = 64 := hN
 simp only [aG, D]
 refine V fun _ k1 => ?_
 refine a9 hP hN rfl ?_
 iterate 2 (refine Z rfl fun _ k0 => ?_; simp only [zO, zT, acs, reduceCtorEq, J, D, M, U, O, S, au]; (repeat refine an ?_); (try refine .inl ?_); apply k0; clear k0; simp only [zP, D])
 refine aa ?_
 apply k1; clear k1; refine kp [0, 1, 2] ?_
 refine V fun _ k2 => ?_
 refine lG ?_; simp only [aV, List.append_assoc, aY]
 refine lG ?_; simp only [aV, List.append_assoc, aY]
 refine br hP hN Tryd.mixed rfl ?_
 iterate 8 (refine Z rfl fun _ k0 => ?_; simp only [zO, zT, acs, reduceCtorEq, J, D, M, U, O, S, au]; (repeat refine an ?_); (try refine .inl ?_); apply k0; clear k0; simp only [zP, D])
 (refine Z rfl fun _ k0 => ?_; simp only [zO, zT, acs, reduceCtorEq, J, D, M, U, O, S, au]; refine Or.inr (Or.inl ⟨2, ?_, (.pair (.list .str) .unit), ([], ()), ?_⟩); (exact rfl); (repeat refine And.intro (by first | rfl | decide) ?_); refine k0 _ ?_; clear k0; simp only [zP, D])
 (refine Z rfl fun _ k0 => ?_; simp only [zO, zT, acs, reduceCtorEq, J, D, M, U, O, S, au]; refine Or.inr (Or.inl ⟨3, ?_, (.pair (.list .str) .unit), ([], ()), ?_⟩); (exact rfl); (repeat refine And.intro (by first | rfl | decide) ?_); refine k0 _ ?_; clear k0; simp only [zP, D])
 iterate 4 (refine Z rfl fun _ k0 => ?_; simp only [zO, zT, acs, reduceCtorEq, J, D, M, U, O, S, au]; (repeat refine an ?_); (try refine .inl ?_); apply k0; clear k0; simp only [zP, D])
 refine aa ?_
 refine ⟨by kernel_rfl, ?_⟩
 apply k2; clear k2; refine kp [0, 1, 2, 3, 4, 5, 6] ?_
 refine V fun _ k3 => ?_
 refine V fun _ k4 => ?_
 refine a9 hP hN rfl ?_
 (refine Z rfl fun _ k0 => ?_; simp only [zO, zT, acs, reduceCtorEq, J, D, M, U, O, S, au]; (repeat refine an ?_); (try refine .inl ?_); apply k0; clear k0; simp only [zP, D])
 refine Z rfl fun _ k0 => ?_
 refine aq (h := ae (kS xs)) rfl rfl (by first | exact rfl | (simp only [ev, zP, J, D]; exact rfl)) (by simp only [zV, acs, reduceCtorEq, J, D, M, U, O, S, au]) ?_
 apply k0; clear k0; simp only [zP, D]
 (refine Z rfl fun _ k0 => ?_; simp only [zO, zT, acs, reduceCtorEq, J, D, M, U, O, S, au]; (repeat refine an ?_); (try refine .inl ?_); apply k0; clear k0; simp only [zP, D])
 refine' aA (want := false) 2 rfl (m := 21) (by simp only [zP, J, D]; exact rfl) (by kernel_rfl) rfl rfl rfl rfl rfl (fun hg5 => ?a5) ?b5 ?c5
 case a5 =>
  have hq5 := hg5; (try simp only [zB, reduceCtorEq] at hg5); simp only [zE]
  (refine aK rfl fun _ k0 => ?_; simp only [zO, zT, acs, reduceCtorEq, J, D, M, U, O, S, au]; (repeat refine an ?_); (try refine .inl ?_); apply k0; clear k0; simp only [zP, D])
  refine aK rfl fun _ k0 => ?_
  refine aq (h := ae (kS ys)) rfl rfl (by first | exact rfl | (simp only [ev, zP, J, D]; exact rfl)) (by simp only [zV, acs, reduceCtorEq, J, D, M, U, O, S, au]) ?_
  apply k0; clear k0; simp only [zP, D]
  (refine Z rfl fun _ k0 => ?_; simp only [zO, zT, acs, reduceCtorEq, J, D, M, U, O, S, au]; (repeat refine an ?_); (try refine .inl ?_); apply k0; clear k0; simp only [zP, D])
  refine aa ?_
  refine ⟨by simp only [zP, J, D]; exact rfl, rfl, ?_, rfl⟩; (repeat refine aB rfl ?_); exact aO (by exact rfl) hq5
 case b5 => exact ba
 simp only [aH, aE]
 (refine Z rfl fun _ k0 => ?_; simp only [zO, zT, acs, reduceCtorEq, J, D, M, U, O, S, au]; (repeat refine an ?_); (try refine .inl ?_); apply k0; clear k0; simp only [zP, D])
 refine' aA (want := false) 2 rfl (m := 25) (by simp only [zP, J, D]; exact rfl) (by kernel_rfl) rfl rfl rfl rfl rfl (fun hg6 => ?a6) ?b6 ?c6
 case a6 =>
  have hq6 := hg6; (try simp only [zB, reduceCtorEq] at hg6); simp only [zE]
  (refine aK rfl fun _ k0 => ?_; simp only [zO, zT, acs, reduceCtorEq, J, D, M, U, O, S, au]; (repeat refine an ?_); (try refine .inl ?_); apply k0; clear k0; simp only [zP, D])
  refine aK rfl fun _ k0 => ?_
  refine aq (h := ae (oN l)) rfl rfl (by first | exact rfl | (simp only [ev, zP, J, D]; exact rfl)) (by simp only [zV, acs, reduceCtorEq, J, D, M, U, O, S, au]) ?_
  apply k0; clear k0; simp only [zP, D]
  (refine Z rfl fun _ k0 => ?_; simp only [zO, zT, acs, reduceCtorEq, J, D, M, U, O, S, au]; (repeat refine an ?_); (try refine .inl ?_); apply k0; clear k0; simp only [zP, D])
  refine aa ?_
  refine ⟨by simp only [zP, J, D]; exact rfl, rfl, ?_, rfl⟩; (repeat refine aB rfl ?_); exact aO (by exact rfl) hq6
 case b6 => exact ba
 simp only [aH, aE]
 refine aa ?_
 apply k4; clear k4; refine kp [0, 1, 2, 3, 4, 5, 6, 28] ?_
 refine cd (fun hc7 => ?_) (fun hc7 => ?_)
 ·(try simp only [zB, reduceCtorEq] at hc7)
  refine V fun _ k8 => ?_
  refine a9 hP hN rfl ?_
  refine Z rfl fun _ k0 => ?_
  refine aq (h := dA (lj hmx) rfl) rfl rfl (by first | exact rfl | (simp only [ev, zP, J, D]; exact rfl)) (by simp only [zV, acs, reduceCtorEq, J, D, M, U, O, S, au]) ?_
  apply k0; clear k0; simp only [zP, D]
  (refine Z rfl fun _ k0 => ?_; simp only [zO, zT, acs, reduceCtorEq, J, D, M, U, O, S, au]; (repeat refine an ?_); (try refine .inl ?_); apply k0; clear k0; simp only [zP, D])
  refine aa ?_
  apply k8; clear k8; refine kp [0, 1, 2, 3, 4, 5, 6, 28] ?_
  refine kp [2] ?_
  first
  | ((refine aC (L1 := [_, _, _]) rfl (by rw [hB]; exact Nat.succ_le_succ (Nat.zero_le _)) rfl rfl ?_); (refine aC (L1 := [_, _]) rfl (by rw [hB]; exact Nat.succ_le_succ (Nat.zero_le _)) rfl rfl ?_); (refine aC (L1 := [_]) rfl (by rw [hB]; exact Nat.succ_le_succ (Nat.zero_le _)) rfl rfl ?_))
  refine af ?_
  refine ⟨by first | exact .inl rfl | exact .inr rfl, _, rfl, ?_⟩; simp only [zP, J, D, au]
  all_goals (first | rfl | (refine congrArg (fun b => AV.one (AC.bool b)) ?_; simp; done) | (refine congrArg (fun b => AV.one (AC.bool b)) ?_; simp_all; done))
 (try simp only [zB, reduceCtorEq] at hc7)
 have hgx : grB xs = false := by have h9 := hc7; revert h9; cases grB xs <;> simp
 have hgy : grB ys = false := by have h9 := hc7; revert h9; cases grB ys <;> simp
 have hgl : grL l = false := by have h9 := hc7; revert h9; cases grL l <;> simp
 have hx : ∀ k, k < xs.length → (xs.getD k []).length ≤ 1048576 := fun k hk => by have := (ro hgx).2 k hk; omega
 have hy : ∀ k, k < ys.length → (ys.getD k []).length ≤ 1048576 := fun k hk => by have := (ro hgy).2 k hk; omega
 have hgn := (na hgl).1
 refine ag ?_
 apply k3; clear k3; refine kp [0, 1, 2, 3, 4, 5, 6, 28] ?_
 refine V fun _ k9 => ?_
 refine a9 hP hN rfl ?_
 iterate 3 (refine Z rfl fun _ k0 => ?_; simp only [zO, zT, acs, reduceCtorEq, J, D, M, U, O, S, au]; (repeat refine an ?_); (try refine .inl ?_); apply k0; clear k0; simp only [zP, D])
 refine Z rfl fun _ k0 => ?_
 refine aq (h := ae (oA xs ys l)) rfl rfl (by first | exact rfl | (simp only [ev, zP, J, D]; exact rfl)) (by simp only [zV, acs, reduceCtorEq, J, D, M, U, O, S, au]) ?_
 apply k0; clear k0; simp only [zP, D]
 iterate 5 (refine Z rfl fun _ k0 => ?_; simp only [zO, zT, acs, reduceCtorEq, J, D, M, U, O, S, au]; (repeat refine an ?_); (try refine .inl ?_); apply k0; clear k0; simp only [zP, D])
 refine aa ?_
 apply k9; clear k9; refine kp [0, 1, 2, 3, 4, 5, 6, 7, 8, 28] ?_
 refine V fun _ k10 => ?_
 refine a9 hP hN rfl ?_
 iterate 3 (refine Z rfl fun _ k0 => ?_; simp only [zO, zT, acs, reduceCtorEq, J, D, M, U, O, S, au]; (repeat refine an ?_); (try refine .inl ?_); apply k0; clear k0; simp only [zP, D])
 refine Z rfl fun _ k0 => ?_
 refine aq (h := ae (sh xs ys l hx hy)) rfl rfl (by first | exact rfl | (simp only [ev, zP, J, D]; exact rfl)) (by simp only [zV, acs, reduceCtorEq, J, D, M, U, O, S, au]) ?_
 apply k0; clear k0; simp only [zP, D]
 iterate 5 (refine Z rfl fun _ k0 => ?_; simp only [zO, zT, acs, reduceCtorEq, J, D, M, U, O, S, au]; (repeat refine an ?_); (try refine .inl ?_); apply k0; clear k0; simp only [zP, D])
 refine aa ?_
 apply k10; clear k10; refine kp [0, 1, 2, 3, 4, 5, 6, 7, 8, 9, 10, 28] ?_
 refine V fun _ k11 => ?_
 refine a9 hP hN rfl ?_
 iterate 4 (refine Z rfl fun _ k0 => ?_; simp only [zO, zT, acs, reduceCtorEq, J, D, M, U, O, S, au]; (repeat refine an ?_); (try refine .inl ?_); apply k0; clear k0; simp only [zP, D])
 refine' aA (want := true) 3 rfl (m := 47) (by simp only [zP, J, D]; exact rfl) (by kernel_rfl) rfl rfl rfl rfl rfl (fun hg12 => ?a12) ?b12 ?c12
 case a12 =>
  have hq12 := hg12; (try simp only [zB, reduceCtorEq] at hg12); simp only [zE]
  iterate 3 (refine aK rfl fun _ k0 => ?_; simp only [zO, zT, acs, reduceCtorEq, J, D, M, U, O, S, au]; (repeat refine an ?_); (try refine .inl ?_); apply k0; clear k0; simp only [zP, D])
  (refine Z rfl fun _ k0 => ?_; simp only [zO, zT, acs, reduceCtorEq, J, D, M, U, O, S, au]; (repeat refine an ?_); (try refine .inl ?_); apply k0; clear k0; simp only [zP, D])
  refine aa ?_
  refine ⟨by simp only [zP, J, D]; exact rfl, rfl, ?_, rfl⟩; (repeat refine aB rfl ?_); exact aO (by exact rfl) hq12
 case b12 => exact ba
 simp only [aH, aE]
 (refine Z rfl fun _ k0 => ?_; simp only [zO, zT, acs, reduceCtorEq, J, D, M, U, O, S, au]; (repeat refine an ?_); (try refine .inl ?_); apply k0; clear k0; simp only [zP, D])
 refine' aA (want := true) 7 rfl (m := 52) (by simp only [zP, J, D]; exact rfl) (by kernel_rfl) rfl rfl rfl rfl rfl (fun hg13 => ?a13) ?b13 ?c13
 case a13 =>
  have hq13 := hg13; (try simp only [zB, reduceCtorEq] at hg13); simp only [zE]
  iterate 2 (refine aK rfl fun _ k0 => ?_; simp only [zO, zT, acs, reduceCtorEq, J, D, M, U, O, S, au]; (repeat refine an ?_); (try refine .inl ?_); apply k0; clear k0; simp only [zP, D])
  refine aK rfl fun _ k0 => ?_
  refine aq (h := ae (kx l n (by omega) (pC hgl))) rfl rfl (by first | exact rfl | (simp only [ev, zP, J, D]; exact rfl)) (by simp only [zV, acs, reduceCtorEq, J, D, M, U, O, S, au]) ?_
  apply k0; clear k0; simp only [zP, D]
  iterate 2 (refine aK rfl fun _ k0 => ?_; simp only [zO, zT, acs, reduceCtorEq, J, D, M, U, O, S, au]; (repeat refine an ?_); (try refine .inl ?_); apply k0; clear k0; simp only [zP, D])
  refine aK rfl fun _ k0 => ?_
  refine aq (h := ae (mU l n (by omega) (pC hgl))) rfl rfl (by first | exact rfl | (simp only [ev, zP, J, D]; exact rfl)) (by simp only [zV, acs, reduceCtorEq, J, D, M, U, O, S, au]) ?_
  apply k0; clear k0; simp only [zP, D]
  refine aK rfl fun _ k0 => ?_
  refine aq (h := ae (kc (kJ l n) (kJ l n))) rfl rfl (by first | exact rfl | (simp only [ev, zP, J, D]; exact rfl)) (by simp only [zV, acs, reduceCtorEq, J, D, M, U, O, S, au]) ?_
  apply k0; clear k0; simp only [zP, D]
  (refine Z rfl fun _ k0 => ?_; simp only [zO, zT, acs, reduceCtorEq, J, D, M, U, O, S, au]; (repeat refine an ?_); (try refine .inl ?_); apply k0; clear k0; simp only [zP, D])
  refine aa ?_
  refine ⟨by simp only [zP, J, D]; exact rfl, rfl, ?_, rfl⟩; (repeat refine aB rfl ?_); exact aO (by exact rfl) hq13
 case b13 => exact ba
 simp only [aH, aE]
 (refine Z rfl fun _ k0 => ?_; simp only [zO, zT, acs, reduceCtorEq, J, D, M, U, O, S, au]; (repeat refine an ?_); (try refine .inl ?_); apply k0; clear k0; simp only [zP, D])
 refine' aA (want := true) 1 rfl (m := 61) (by simp only [zP, J, D]; exact rfl) (by kernel_rfl) rfl rfl rfl rfl rfl (fun hg14 => ?a14) ?b14 ?c14
 case a14 =>
  have hq14 := hg14; (try simp only [zB, reduceCtorEq] at hg14); simp only [zE]
  refine aK rfl fun _ k0 => ?_
  refine aq (h := dA (lj hmx) rfl) rfl rfl (by first | exact rfl | (simp only [ev, zP, J, D]; exact rfl)) (by simp only [zV, acs, reduceCtorEq, J, D, M, U, O, S, au]) ?_
  apply k0; clear k0; simp only [zP, D]
  (refine Z rfl fun _ k0 => ?_; simp only [zO, zT, acs, reduceCtorEq, J, D, M, U, O, S, au]; (repeat refine an ?_); (try refine .inl ?_); apply k0; clear k0; simp only [zP, D])
  refine aa ?_
  refine ⟨by simp only [zP, J, D]; exact rfl, rfl, ?_, rfl⟩; (repeat refine aB rfl ?_); exact aO (by exact rfl) hq14
 case b14 => exact ba
 simp only [aH, aE]
 (refine Z rfl fun _ k0 => ?_; simp only [zO, zT, acs, reduceCtorEq, J, D, M, U, O, S, au]; (repeat refine an ?_); (try refine .inl ?_); apply k0; clear k0; simp only [zP, D])
 refine aa ?_
 apply k11; clear k11; refine kp [0, 1, 2, 3, 4, 5, 6, 7, 8, 9, 10, 28] ?_
 refine kp [2] ?_
 first
 | ((refine aC (L1 := [_, _, _]) rfl (by rw [hB]; exact Nat.succ_le_succ (Nat.zero_le _)) rfl rfl ?_); (refine aC (L1 := [_, _]) rfl (by rw [hB]; exact Nat.succ_le_succ (Nat.zero_le _)) rfl rfl ?_); (refine aC (L1 := [_]) rfl (by rw [hB]; exact Nat.succ_le_succ (Nat.zero_le _)) rfl rfl ?_))
 refine af ?_
 refine ⟨by first | exact .inl rfl | exact .inr rfl, _, rfl, ?_⟩; simp only [zP, J, D, au]
 all_goals (first | rfl | (refine congrArg (fun b => AV.one (AC.bool b)) ?_; simp; done) | (refine congrArg (fun b => AV.one (AC.bool b)) ?_; simp_all; done))
end Go.Proofs.YtfakhaagbimljaaDoor
