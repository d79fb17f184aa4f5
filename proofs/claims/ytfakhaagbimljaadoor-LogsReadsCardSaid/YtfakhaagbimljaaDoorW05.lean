/- Contracts of functions of this seat, each out of a walk through its code, and plain facts on what they compute. Conditions: those that each theorem names. -/
import Derived.Test.YtfakhaagbimljaaDoorW04
set_option linter.unusedSimpArgs false
set_option linter.unusedVariables false
set_option maxRecDepth 100000
namespace Go.Proofs.YtfakhaagbimljaaDoor
open Go Go.AV
open Nat renaming reduceEqDiff → J, reduceAdd → D, reduceLeDiff → O, reduceLT → V, reduceMul → S, reduceSub → U
open List renaming set_cons_zero → bn, set_cons_succ → bo, getD_cons_zero → bT, length_append → ag, map_cons → aQ, cons_append → b0, map_nil → bb, length_cons → ae, nil_append → b6, take_succ_cons → aj, length_nil → aq, length_map → bP, length_replicate → bh, take_length → aA, mem_cons_self → aN, mem_cons_of_mem → aK
open Int renaming toNat_natCast → af
set_option maxHeartbeats 2000000 in
theorem uj {o : Obj} (hmx : MXL o) (xs ys : List Bs) (s : Bs) : cu Tryd.prog [.fact 0 o] 7 [.agg [.list .str xs], .agg [.list .str ys], .one (.str s)] { av := .one (.bool true), fp := [0] } := by
 refine cM _ _ Tryd.func7 rfl (by kernel_rfl) (Nat.le_of_ble_eq_true rfl) (by intro k hk; simp only [ae, aq, Nat.zero_add, D] at hk; simp only [List.mem_cons, List.not_mem_nil, or_false]; omega) (fun C hP hN hB => ?_)
 replace hB : C.bL.length = 1 := by rw [hB]; rfl
 replace hN : C.N = 144 := hN
 simp only [aJ, D]
 refine a9 fun _ k1 => ?_
 refine aa hP hN rfl ?_
 iterate 3 (refine Z rfl fun _ k0 => ?_; simp only [zO, zT, acs, reduceCtorEq, J, D, O, V, S, U]; (repeat refine And.intro (by first | omega | assumption | exact rfl | exact ⟨by omega, hne0 (by assumption)⟩) ?_); (try refine .inl ?_); apply k0; clear k0; simp only [zP, D])
 refine ab ?_
 apply k1; clear k1; refine kp [0, 1, 2, 3, 4, 6] ?_
 refine a9 fun _ k2 => ?_
 refine a9 fun _ k3 => ?_
 refine aa hP hN rfl ?_
 (refine Z rfl fun _ k0 => ?_; simp only [zO, zT, acs, reduceCtorEq, J, D, O, V, S, U]; (repeat refine And.intro (by first | omega | assumption | exact rfl | exact ⟨by omega, hne0 (by assumption)⟩) ?_); (try refine .inl ?_); apply k0; clear k0; simp only [zP, D])
 refine Z rfl fun _ k0 => ?_
 refine au (h := ah (kC xs)) rfl rfl (by first | exact rfl | (simp only [ev, zP, J, D]; exact rfl)) (by simp only [zV, acs, reduceCtorEq, J, D, O, V, S, U]) ?_
 apply k0; clear k0; simp only [zP, D]
 (refine Z rfl fun _ k0 => ?_; simp only [zO, zT, acs, reduceCtorEq, J, D, O, V, S, U]; (repeat refine And.intro (by first | omega | assumption | exact rfl | exact ⟨by omega, hne0 (by assumption)⟩) ?_); (try refine .inl ?_); apply k0; clear k0; simp only [zP, D])
 refine' aC (want := false) 2 rfl (m := 22) (by simp only [zP, J, D]; exact rfl) (by kernel_rfl) rfl rfl rfl rfl rfl (fun hg4 => ?a4) ?b4 ?c4
 case a4 =>
  have hq4 := hg4; (try simp only [zB, reduceCtorEq] at hg4); simp only [zE]
  (refine aM rfl fun _ k0 => ?_; simp only [zO, zT, acs, reduceCtorEq, J, D, O, V, S, U]; (repeat refine And.intro (by first | omega | assumption | exact rfl | exact ⟨by omega, hne0 (by assumption)⟩) ?_); (try refine .inl ?_); apply k0; clear k0; simp only [zP, D])
  refine aM rfl fun _ k0 => ?_
  refine au (h := ah (kC ys)) rfl rfl (by first | exact rfl | (simp only [ev, zP, J, D]; exact rfl)) (by simp only [zV, acs, reduceCtorEq, J, D, O, V, S, U]) ?_
  apply k0; clear k0; simp only [zP, D]
  (refine Z rfl fun _ k0 => ?_; simp only [zO, zT, acs, reduceCtorEq, J, D, O, V, S, U]; (repeat refine And.intro (by first | omega | assumption | exact rfl | exact ⟨by omega, hne0 (by assumption)⟩) ?_); (try refine .inl ?_); apply k0; clear k0; simp only [zP, D])
  refine ab ?_
  refine ⟨by simp only [zP, J, D]; exact rfl, rfl, ?_, rfl⟩; (repeat refine aD rfl ?_); exact aP (by exact rfl) hq4
 case b4 => exact bf
 simp only [aL, aF]
 (refine Z rfl fun _ k0 => ?_; simp only [zO, zT, acs, reduceCtorEq, J, D, O, V, S, U]; (repeat refine And.intro (by first | omega | assumption | exact rfl | exact ⟨by omega, hne0 (by assumption)⟩) ?_); (try refine .inl ?_); apply k0; clear k0; simp only [zP, D])
 refine' aC (want := false) 3 rfl (m := 26) (by simp only [zP, J, D]; exact rfl) (by kernel_rfl) rfl rfl rfl rfl rfl (fun hg5 => ?a5) ?b5 ?c5
 case a5 =>
  have hq5 := hg5; (try simp only [zB, reduceCtorEq] at hg5); simp only [zE]
  iterate 3 (refine aM rfl fun _ k0 => ?_; simp only [zO, zT, acs, reduceCtorEq, J, D, O, V, S, U]; (repeat refine And.intro (by first | omega | assumption | exact rfl | exact ⟨by omega, hne0 (by assumption)⟩) ?_); (try refine .inl ?_); apply k0; clear k0; simp only [zP, D])
  (refine Z rfl fun _ k0 => ?_; simp only [zO, zT, acs, reduceCtorEq, J, D, O, V, S, U]; (repeat refine And.intro (by first | omega | assumption | exact rfl | exact ⟨by omega, hne0 (by assumption)⟩) ?_); (try refine .inl ?_); apply k0; clear k0; simp only [zP, D])
  refine ab ?_
  refine ⟨by simp only [zP, J, D]; exact rfl, rfl, ?_, rfl⟩; (repeat refine aD rfl ?_); exact aP (by exact rfl) hq5
 case b5 => exact bf
 simp only [aL, aF]
 refine ab ?_
 apply k3; clear k3; refine kp [0, 1, 2, 3, 4, 6, 30] ?_
 refine cd (fun hc6 => ?_) (fun hc6 => ?_)
 ·(try simp only [zB, reduceCtorEq] at hc6)
  refine a9 fun _ k7 => ?_
  refine aa hP hN rfl ?_
  refine Z rfl fun _ k0 => ?_
  refine au (h := cU (hU hmx) rfl) rfl rfl (by first | exact rfl | (simp only [ev, zP, J, D]; exact rfl)) (by simp only [zV, acs, reduceCtorEq, J, D, O, V, S, U]) ?_
  apply k0; clear k0; simp only [zP, D]
  (refine Z rfl fun _ k0 => ?_; simp only [zO, zT, acs, reduceCtorEq, J, D, O, V, S, U]; (repeat refine And.intro (by first | omega | assumption | exact rfl | exact ⟨by omega, hne0 (by assumption)⟩) ?_); (try refine .inl ?_); apply k0; clear k0; simp only [zP, D])
  refine ab ?_
  apply k7; clear k7; refine kp [0, 1, 2, 3, 4, 6, 30] ?_
  refine kp [6] ?_
  first
  | ((refine az (L1 := [_, _]) rfl (by rw [hB]; exact Nat.succ_le_succ (Nat.zero_le _)) rfl rfl ?_); (refine az (L1 := [_]) rfl (by rw [hB]; exact Nat.succ_le_succ (Nat.zero_le _)) rfl rfl ?_))
  refine ak ?_
  refine ⟨by first | exact .inl rfl | exact .inr rfl, _, rfl, ?_⟩; simp only [zP, J, D]
  all_goals (first | rfl | (refine congrArg (fun b => AV.one (AC.bool b)) ?_; simp [hpe.1, hpe.2.1, hpe.2.2]; done) | (refine congrArg (fun b => AV.one (AC.bool b)) ?_; rw [hi0, hse.1, hse.2, hTX, hST]; simp; done))
 (try simp only [zB, reduceCtorEq] at hc6)
 have hgx : grB xs = false := by have h9 := hc6; revert h9; cases grB xs <;> simp
 have hgy : grB ys = false := by have h9 := hc6; revert h9; cases grB ys <;> simp
 have hs9 : s.length ≤ 2000 := by have h9 := hc6; rw [hgx, hgy] at h9; simp at h9; omega
 refine am ?_
 apply k2; clear k2; refine kp [0, 1, 2, 3, 4, 6, 30] ?_
 refine a9 fun _ k8 => ?_
 refine aa hP hN rfl ?_
 iterate 3 (refine Z rfl fun _ k0 => ?_; simp only [zO, zT, acs, reduceCtorEq, J, D, O, V, S, U]; (repeat refine And.intro (by first | omega | assumption | exact rfl | exact ⟨by omega, hne0 (by assumption)⟩) ?_); (try refine .inl ?_); apply k0; clear k0; simp only [zP, D])
 refine Z rfl fun _ k0 => ?_
 refine au (h := cU (gO hmx xs ys s (by omega)) rfl) rfl rfl (by first | exact rfl | (simp only [ev, zP, J, D]; exact rfl)) (by simp only [zV, acs, reduceCtorEq, J, D, O, V, S, U]) ?_
 apply k0; clear k0; simp only [zP, D]
 iterate 7 (refine Z rfl fun _ k0 => ?_; simp only [zO, zT, acs, reduceCtorEq, J, D, O, V, S, U]; (repeat refine And.intro (by first | omega | assumption | exact rfl | exact ⟨by omega, hne0 (by assumption)⟩) ?_); (try refine .inl ?_); apply k0; clear k0; simp only [zP, D])
 refine ab ?_
 apply k8; clear k8; refine kp [0, 1, 2, 3, 4, 6, 7, 8, 9, 30] ?_
 refine a9 fun _ k9 => ?_
 refine a9 fun _ k10 => ?_
 refine aa hP hN rfl ?_
 iterate 2 (refine Z rfl fun _ k0 => ?_; simp only [zO, zT, acs, reduceCtorEq, J, D, O, V, S, U]; (repeat refine And.intro (by first | omega | assumption | exact rfl | exact ⟨by omega, hne0 (by assumption)⟩) ?_); (try refine .inl ?_); apply k0; clear k0; simp only [zP, D])
 refine ab ?_
 apply k10; clear k10; refine kp [0, 1, 2, 3, 4, 6, 7, 8, 9, 30, 41] ?_
 refine cd (fun hc11 => ?_) (fun hc11 => ?_)
 ·(try simp only [zB, reduceCtorEq] at hc11)
  have hpe := tY (xs := xs) (ys := ys) (s := s) hc11
  refine a9 fun _ k12 => ?_
  refine aa hP hN rfl ?_
  iterate 4 (refine Z rfl fun _ k0 => ?_; simp only [zO, zT, acs, reduceCtorEq, J, D, O, V, S, U]; (repeat refine And.intro (by first | omega | assumption | exact rfl | exact ⟨by omega, hne0 (by assumption)⟩) ?_); (try refine .inl ?_); apply k0; clear k0; simp only [zP, D])
  refine' aC (want := true) 2 rfl (m := 45) (by simp only [zP, J, D]; exact rfl) (by kernel_rfl) rfl rfl rfl rfl rfl (fun hg13 => ?a13) ?b13 ?c13
  case a13 =>
   have hq13 := hg13; (try simp only [zB, reduceCtorEq] at hg13); simp only [zE]
   iterate 2 (refine aM rfl fun _ k0 => ?_; simp only [zO, zT, acs, reduceCtorEq, J, D, O, V, S, U]; (repeat refine And.intro (by first | omega | assumption | exact rfl | exact ⟨by omega, hne0 (by assumption)⟩) ?_); (try refine .inl ?_); apply k0; clear k0; simp only [zP, D])
   (refine Z rfl fun _ k0 => ?_; simp only [zO, zT, acs, reduceCtorEq, J, D, O, V, S, U]; (repeat refine And.intro (by first | omega | assumption | exact rfl | exact ⟨by omega, hne0 (by assumption)⟩) ?_); (try refine .inl ?_); apply k0; clear k0; simp only [zP, D])
   refine ab ?_
   refine ⟨by simp only [zP, J, D]; exact rfl, rfl, ?_, rfl⟩; (repeat refine aD rfl ?_); exact aP (by exact rfl) hq13
  case b13 => exact bf
  simp only [aL, aF]
  (refine Z rfl fun _ k0 => ?_; simp only [zO, zT, acs, reduceCtorEq, J, D, O, V, S, U]; (repeat refine And.intro (by first | omega | assumption | exact rfl | exact ⟨by omega, hne0 (by assumption)⟩) ?_); (try refine .inl ?_); apply k0; clear k0; simp only [zP, D])
  refine' aC (want := true) 5 rfl (m := 49) (by simp only [zP, J, D]; exact rfl) (by kernel_rfl) rfl rfl rfl rfl rfl (fun hg14 => ?a14) ?b14 ?c14
  case a14 =>
   have hq14 := hg14; (try simp only [zB, reduceCtorEq] at hg14); simp only [zE]
   iterate 5 (refine aM rfl fun _ k0 => ?_; simp only [zO, zT, acs, reduceCtorEq, J, D, O, V, S, U]; (repeat refine And.intro (by first | omega | assumption | exact rfl | exact ⟨by omega, hne0 (by assumption)⟩) ?_); (try refine .inl ?_); apply k0; clear k0; simp only [zP, D])
   (refine Z rfl fun _ k0 => ?_; simp only [zO, zT, acs, reduceCtorEq, J, D, O, V, S, U]; (repeat refine And.intro (by first | omega | assumption | exact rfl | exact ⟨by omega, hne0 (by assumption)⟩) ?_); (try refine .inl ?_); apply k0; clear k0; simp only [zP, D])
   refine ab ?_
   refine ⟨by simp only [zP, J, D]; exact rfl, rfl, ?_, rfl⟩; (repeat refine aD rfl ?_); exact aP (by exact rfl) hq14
  case b14 => exact bf
  simp only [aL, aF]
  (refine Z rfl fun _ k0 => ?_; simp only [zO, zT, acs, reduceCtorEq, J, D, O, V, S, U]; (repeat refine And.intro (by first | omega | assumption | exact rfl | exact ⟨by omega, hne0 (by assumption)⟩) ?_); (try refine .inl ?_); apply k0; clear k0; simp only [zP, D])
  refine' aC (want := true) 1 rfl (m := 56) (by simp only [zP, J, D]; exact rfl) (by kernel_rfl) rfl rfl rfl rfl rfl (fun hg15 => ?a15) ?b15 ?c15
  case a15 =>
   have hq15 := hg15; (try simp only [zB, reduceCtorEq] at hg15); simp only [zE]
   refine aM rfl fun _ k0 => ?_
   refine au (h := cU (hU hmx) rfl) rfl rfl (by first | exact rfl | (simp only [ev, zP, J, D]; exact rfl)) (by simp only [zV, acs, reduceCtorEq, J, D, O, V, S, U]) ?_
   apply k0; clear k0; simp only [zP, D]
   (refine Z rfl fun _ k0 => ?_; simp only [zO, zT, acs, reduceCtorEq, J, D, O, V, S, U]; (repeat refine And.intro (by first | omega | assumption | exact rfl | exact ⟨by omega, hne0 (by assumption)⟩) ?_); (try refine .inl ?_); apply k0; clear k0; simp only [zP, D])
   refine ab ?_
   refine ⟨by simp only [zP, J, D]; exact rfl, rfl, ?_, rfl⟩; (repeat refine aD rfl ?_); exact aP (by exact rfl) hq15
  case b15 => exact bf
  simp only [aL, aF]
  (refine Z rfl fun _ k0 => ?_; simp only [zO, zT, acs, reduceCtorEq, J, D, O, V, S, U]; (repeat refine And.intro (by first | omega | assumption | exact rfl | exact ⟨by omega, hne0 (by assumption)⟩) ?_); (try refine .inl ?_); apply k0; clear k0; simp only [zP, D])
  refine ab ?_
  apply k12; clear k12; refine kp [0, 1, 2, 3, 4, 6, 7, 8, 9, 30, 41] ?_
  refine kp [6] ?_
  first
  | ((refine az (L1 := [_, _]) rfl (by rw [hB]; exact Nat.succ_le_succ (Nat.zero_le _)) rfl rfl ?_); (refine az (L1 := [_]) rfl (by rw [hB]; exact Nat.succ_le_succ (Nat.zero_le _)) rfl rfl ?_))
  refine ak ?_
  refine ⟨by first | exact .inl rfl | exact .inr rfl, _, rfl, ?_⟩; simp only [zP, J, D]
  all_goals (first | rfl | (refine congrArg (fun b => AV.one (AC.bool b)) ?_; simp [hpe.1, hpe.2.1, hpe.2.2]; done) | (refine congrArg (fun b => AV.one (AC.bool b)) ?_; rw [hi0, hse.1, hse.2, hTX, hST]; simp; done))
 (try simp only [zB, reduceCtorEq] at hc11)
 obtain ⟨hi0, hS, hlg⟩ := pD (xs := xs) (ys := ys) (s := s) hc11 (by omega)
 have hn9 := hS.n
 have hpl := gM 10 s; have hp0 := dO 10 s
 have hse := hS.e
 have hin := rz (n := xs.length) hS.lens (by omega)
 refine am ?_
 apply k9; clear k9; refine kp [0, 1, 2, 3, 4, 6, 7, 8, 9, 30, 41] ?_
 refine a9 fun _ k16 => ?_
 refine aa hP hN rfl ?_
 (refine Z rfl fun _ k0 => ?_; simp only [zO, zT, acs, reduceCtorEq, J, D, O, V, S, U]; (repeat refine And.intro (by first | omega | assumption | exact rfl | exact ⟨by omega, hne0 (by assumption)⟩) ?_); (try refine .inl ?_); apply k0; clear k0; simp only [zP, D])
 refine ab ?_
 apply k16; clear k16; refine kp [0, 1, 2, 3, 4, 6, 7, 8, 9, 10, 30, 41] ?_
 refine a9 fun _ k17 => ?_
 refine aa hP hN rfl ?_
 (refine Z rfl fun _ k0 => ?_; simp only [zO, zT, acs, reduceCtorEq, J, D, O, V, S, U]; (repeat refine And.intro (by first | omega | assumption | exact rfl | exact ⟨by omega, hne0 (by assumption)⟩) ?_); (try refine .inl ?_); apply k0; clear k0; simp only [zP, D])
 refine Z rfl fun _ k0 => ?_
 refine au (h := ah (rr s (by omega))) rfl rfl (by first | exact rfl | (simp only [ev, zP, J, D]; exact rfl)) (by simp only [zV, acs, reduceCtorEq, J, D, O, V, S, U]) ?_
 apply k0; clear k0; simp only [zP, D]
 (refine Z rfl fun _ k0 => ?_; simp only [zO, zT, acs, reduceCtorEq, J, D, O, V, S, U]; (repeat refine And.intro (by first | omega | assumption | exact rfl | exact ⟨by omega, hne0 (by assumption)⟩) ?_); (try refine .inl ?_); apply k0; clear k0; simp only [zP, D])
 refine ab ?_
 apply k17; clear k17; refine kp [0, 1, 2, 3, 4, 6, 7, 8, 9, 10, 11, 30, 41] ?_
 refine a9 fun _ k18 => ?_
 refine a9 fun _ k19 => ?_
 refine aa hP hN rfl ?_
 (refine Z rfl fun _ k0 => ?_; simp only [zO, zT, acs, reduceCtorEq, J, D, O, V, S, U]; (repeat refine And.intro (by first | omega | assumption | exact rfl | exact ⟨by omega, hne0 (by assumption)⟩) ?_); (try refine .inl ?_); apply k0; clear k0; simp only [zP, D])
 refine ab ?_
 apply k19; clear k19; refine kp [0, 1, 2, 3, 4, 6, 7, 8, 9, 10, 11, 12, 30, 41] ?_
 refine aw ?_
 refine aU (fun n20 s20 => ∃ (k : Nat), (k ≤ (spB 10 s).length) ∧ n20 = (spB 10 s).length - k ∧ s20 = { env := [(3, .one (.ptr 1 0 0 0)), (4, .one (.ptr 2 0 0 0)), (6, .one (.bool false)), (7, .one (.list (.pair (.list (.int .i64)) (.pair (.list (.int .i64)) .unit)) (PG xs ys s).1)), (8, .one (.int .i64 (PG xs ys s).2.1)), (10, .one (.str (bD (((spB 10 s).take k).filter nsk)))), (11, .one (.list .str (spB 10 s))), (12, .one (.int .i64 (k : Int)))], L := [.fact 0 o, .vars 24 [.list .str xs], .vars 24 [.list .str ys]] }) ?_ ?_
 ·exact ⟨_, _, ar [3, 4, 6, 7, 8, 10, 11, 12], 0, Nat.zero_le _, rfl, rfl⟩
 rintro n20 s20 ⟨k, hk, rfl, rfl⟩
 refine a9 fun _ k21 => ?_
 refine a9 fun _ k22 => ?_
 refine aa hP hN rfl ?_
 iterate 4 (refine Z rfl fun _ k0 => ?_; simp only [zO, zT, acs, reduceCtorEq, J, D, O, V, S, U]; (repeat refine And.intro (by first | omega | assumption | exact rfl | exact ⟨by omega, hne0 (by assumption)⟩) ?_); (try refine .inl ?_); apply k0; clear k0; simp only [zP, D])
 refine ab ?_
 apply k22; clear k22; refine kp [3, 4, 6, 7, 8, 10, 11, 12, 64] ?_
 refine cd (fun hc23 => ?_) (fun hc23 => ?_)
 ·(try simp only [zB, reduceCtorEq] at hc23)
  refine am ?_
  apply k21; clear k21; refine kp [3, 4, 6, 7, 8, 10, 11, 12, 64] ?_
  refine a9 fun _ k24 => ?_
  refine aw ?_
  refine a9 fun _ k25 => ?_
  have hll := fj 10 s k
  have hne0 : ¬ (spB 10 s).getD k [] = [] → 0 < (((spB 10 s).getD k []).length : Int) := fun e => by have := List.length_pos_iff.2 e; omega
  have hfl := rC s k
  have hft := sW (P := spB 10 s) (k := k) (by omega)
  refine aa hP hN rfl ?_
  iterate 6 (refine Z rfl fun _ k0 => ?_; simp only [zO, zT, acs, reduceCtorEq, J, D, O, V, S, U, ag]; (repeat refine And.intro (by first | omega | assumption | exact rfl | exact ⟨by omega, hne0 (by assumption)⟩) ?_); (try refine .inl ?_); apply k0; clear k0; simp only [zP, D])
  refine' aC (want := true) 6 rfl (m := 72) (by simp only [zP, J, D]; exact rfl) (by kernel_rfl) rfl rfl rfl rfl rfl (fun hg26 => ?a26) ?b26 ?c26
  case a26 =>
   have hq26 := hg26; (try simp only [zB, reduceCtorEq] at hg26); simp only [zE]
   iterate 6 (refine aM rfl fun _ k0 => ?_; simp only [zO, zT, acs, reduceCtorEq, J, D, O, V, S, U, ag]; (repeat refine And.intro (by first | omega | assumption | exact rfl | exact ⟨by omega, hne0 (by assumption)⟩) ?_); (try refine .inl ?_); apply k0; clear k0; simp only [zP, D])
   (refine Z rfl fun _ k0 => ?_; simp only [zO, zT, acs, reduceCtorEq, J, D, O, V, S, U, ag]; (repeat refine And.intro (by first | omega | assumption | exact rfl | exact ⟨by omega, hne0 (by assumption)⟩) ?_); (try refine .inl ?_); apply k0; clear k0; simp only [zP, D])
   refine ab ?_
   refine ⟨by simp only [zP, J, D]; exact rfl, rfl, ?_, rfl⟩; (repeat refine aD rfl ?_); exact aP (by exact rfl) hq26
  case b26 => exact bf
  simp only [aL, aF]
  refine ab ?_
  apply k25; clear k25; refine kp [3, 4, 6, 7, 8, 10, 11, 12, 64, 79] ?_
  refine cd (fun hc27 => ?_) (fun hc27 => ?_)
  ·(try simp only [zB, reduceCtorEq] at hc27)
   have hnk : nsk ((spB 10 s).getD k []) = true := decide_eq_true (fun h => h.elim hc27.1 (fun e => hc27.2 (l5.2 e)))
   refine aa hP hN rfl ?_
   iterate 8 (refine Z rfl fun _ k0 => ?_; simp only [zO, zT, acs, reduceCtorEq, J, D, O, V, S, U, ag, ae, aq]; (repeat refine And.intro (by first | omega | assumption | exact rfl | exact ⟨by omega, hne0 (by assumption)⟩) ?_); (try refine .inl ?_); apply k0; clear k0; simp only [zP, D])
   refine ab ?_
   apply k24; clear k24; refine kp [3, 4, 6, 7, 8, 10, 11, 12, 64, 79] ?_
   refine aa hP hN rfl ?_
   iterate 3 (refine Z rfl fun _ k0 => ?_; simp only [zO, zT, acs, reduceCtorEq, J, D, O, V, S, U]; (repeat refine And.intro (by first | omega | assumption | exact rfl | exact ⟨by omega, hne0 (by assumption)⟩) ?_); (try refine .inl ?_); apply k0; clear k0; simp only [zP, D])
   refine ab ?_
   refine ⟨_, _, ?_, ar [3, 4, 6, 7, 8, 10, 11, 12], k + 1, by omega, rfl, ?_⟩
   · omega
   · first
     | (rw [hft, if_pos hnk, fT]; rfl)
     | (rw [hft, if_neg (by rw [hnk]; decide), List.append_nil]; rfl)
  (try simp only [zB, reduceCtorEq] at hc27)
  have hnk : nsk ((spB 10 s).getD k []) = false := decide_eq_false (fun h => h (hc27.imp id l5.1))
  refine am ?_
  apply k24; clear k24; refine kp [3, 4, 6, 7, 8, 10, 11, 12, 64, 79] ?_
  refine aa hP hN rfl ?_
  iterate 3 (refine Z rfl fun _ k0 => ?_; simp only [zO, zT, acs, reduceCtorEq, J, D, O, V, S, U]; (repeat refine And.intro (by first | omega | assumption | exact rfl | exact ⟨by omega, hne0 (by assumption)⟩) ?_); (try refine .inl ?_); apply k0; clear k0; simp only [zP, D])
  refine ab ?_
  refine ⟨_, _, ?_, ar [3, 4, 6, 7, 8, 10, 11, 12], k + 1, by omega, rfl, ?_⟩
  · omega
  · first
    | (rw [hft, if_pos hnk, fT]; rfl)
    | (rw [hft, if_neg (by rw [hnk]; decide), List.append_nil]; rfl)
 (try simp only [zB, reduceCtorEq] at hc23)
 refine aS ?_
 apply k18; clear k18; refine kp [3, 4, 6, 7, 8, 10, 11, 12, 64] ?_
 refine a9 fun _ k28 => ?_
 have hkn : k = (spB 10 s).length := by omega
 have hTX : (bD (((spB 10 s).take k).filter nsk)) = dZ xs ys (PG xs ys s).1 := by rw [hlg, hkn, aA]
 clear hkn
 refine aa hP hN rfl ?_
 iterate 3 (refine Z rfl fun _ k0 => ?_; simp only [zO, zT, acs, reduceCtorEq, J, D, O, V, S, U]; (repeat refine And.intro (by first | omega | assumption | exact rfl | exact ⟨by omega, hne0 (by assumption)⟩) ?_); (try refine .inl ?_); apply k0; clear k0; simp only [zP, D])
 refine Z rfl fun _ k0 => ?_
 refine au (h := ah (nM xs ys (PG xs ys s).1)) rfl rfl (by first | exact rfl | (simp only [ev, zP, J, D]; exact rfl)) (by simp only [zV, acs, reduceCtorEq, J, D, O, V, S, U]) ?_
 apply k0; clear k0; simp only [zP, D]
 iterate 5 (refine Z rfl fun _ k0 => ?_; simp only [zO, zT, acs, reduceCtorEq, J, D, O, V, S, U]; (repeat refine And.intro (by first | omega | assumption | exact rfl | exact ⟨by omega, hne0 (by assumption)⟩) ?_); (try refine .inl ?_); apply k0; clear k0; simp only [zP, D])
 refine ab ?_
 apply k28; clear k28; refine kp [3, 4, 6, 7, 8, 10, 11, 12, 13, 14, 64] ?_
 refine a9 fun _ k29 => ?_
 refine aa hP hN rfl ?_
 iterate 2 (refine Z rfl fun _ k0 => ?_; simp only [zO, zT, acs, reduceCtorEq, J, D, O, V, S, U]; (repeat refine And.intro (by first | omega | assumption | exact rfl | exact ⟨by omega, hne0 (by assumption)⟩) ?_); (try refine .inl ?_); apply k0; clear k0; simp only [zP, D])
 refine ab ?_
 apply k29; clear k29; refine kp [3, 4, 6, 7, 8, 10, 11, 12, 13, 14, 15, 16, 64] ?_
 refine a9 fun _ k30 => ?_
 refine a9 fun _ k31 => ?_
 refine aa hP hN rfl ?_
 (refine Z rfl fun _ k0 => ?_; simp only [zO, zT, acs, reduceCtorEq, J, D, O, V, S, U]; (repeat refine And.intro (by first | omega | assumption | exact rfl | exact ⟨by omega, hne0 (by assumption)⟩) ?_); (try refine .inl ?_); apply k0; clear k0; simp only [zP, D])
 refine ab ?_
 apply k31; clear k31; refine kp [3, 4, 6, 7, 8, 10, 11, 12, 13, 14, 15, 16, 17, 64] ?_
 refine aw ?_
 refine aU (fun n32 s32 => ∃ (i : Nat), (i ≤ (PG xs ys s).1.length) ∧ n32 = (PG xs ys s).1.length - i ∧ s32 = { env := [(3, .one (.ptr 1 0 0 0)), (6, .one (.bool false)), (7, .one (.list (.pair (.list (.int .i64)) (.pair (.list (.int .i64)) .unit)) (PG xs ys s).1)), (8, .one (.int .i64 (PG xs ys s).2.1)), (10, .one (.str (bD (((spB 10 s).take k).filter nsk)))), (13, .one (.str (iN xs ys (PG xs ys s).1))), (14, .one (.int .i64 (dr xs ys (PG xs ys s).1))), (15, .one (.int .i64 (fL (PG xs ys s).1 i))), (16, .one (.int .i64 0)), (17, .one (.int .i64 (i : Int)))], L := [.fact 0 o, .vars 24 [.list .str xs], .vars 24 [.list .str ys]] }) ?_ ?_
 ·exact ⟨_, _, ar [3, 6, 7, 8, 10, 13, 14, 15, 16, 17], 0, Nat.zero_le _, rfl, rfl⟩
 rintro n32 s32 ⟨i, hi, rfl, rfl⟩
 refine a9 fun _ k33 => ?_
 refine a9 fun _ k34 => ?_
 refine aa hP hN rfl ?_
 iterate 4 (refine Z rfl fun _ k0 => ?_; simp only [zO, zT, acs, reduceCtorEq, J, D, O, V, S, U]; (repeat refine And.intro (by first | omega | assumption | exact rfl | exact ⟨by omega, hne0 (by assumption)⟩) ?_); (try refine .inl ?_); apply k0; clear k0; simp only [zP, D])
 refine ab ?_
 apply k34; clear k34; refine kp [3, 6, 7, 8, 10, 13, 14, 15, 16, 17, 97] ?_
 refine cd (fun hc35 => ?_) (fun hc35 => ?_)
 ·(try simp only [zB, reduceCtorEq] at hc35)
  refine am ?_
  apply k33; clear k33; refine kp [3, 6, 7, 8, 10, 13, 14, 15, 16, 17, 97] ?_
  refine a9 fun _ k36 => ?_
  refine aw ?_
  obtain ⟨x1, x2, hgx⟩ : ∃ x1 x2, ∀ d, (PG xs ys s).1.getD i d = (x1, (x2, ())) := ⟨_, _, cq (by omega)⟩
  have htb := je hS.lens (k := i) (by omega)
  have hti := i8 (l := (PG xs ys s).1) (k := i) (by omega)
  rw [hgx] at hti
  have hlx := hS.lens _ (jF (show i < (PG xs ys s).1.length by omega))
  rw [hgx] at hlx
  have hlx : x1.length ≤ 3000 := hlx
  refine aa hP hN rfl ?_
  iterate 9 (refine Z rfl fun _ k0 => ?_; simp only [zO, zT, acs, reduceCtorEq, J, D, O, V, S, U, gt, af, hgx]; (repeat refine And.intro (by first | omega | assumption | exact rfl | exact ⟨by omega, hne0 (by assumption)⟩) ?_); (try refine .inl ?_); apply k0; clear k0; simp only [zP, D])
  refine ab ?_
  apply k36; clear k36; refine kp [3, 6, 7, 8, 10, 13, 14, 15, 16, 17, 97] ?_
  refine aa hP hN rfl ?_
  iterate 3 (refine Z rfl fun _ k0 => ?_; simp only [zO, zT, acs, reduceCtorEq, J, D, O, V, S, U]; (repeat refine And.intro (by first | omega | assumption | exact rfl | exact ⟨by omega, hne0 (by assumption)⟩) ?_); (try refine .inl ?_); apply k0; clear k0; simp only [zP, D])
  refine ab ?_
  refine ⟨_, _, ?_, ar [3, 6, 7, 8, 10, 13, 14, 15, 16, 17], i + 1, by omega, rfl, ?_⟩
  · omega
  · rw [hti]; rfl
 (try simp only [zB, reduceCtorEq] at hc35)
 refine aS ?_
 apply k30; clear k30; refine kp [3, 6, 7, 8, 10, 13, 14, 15, 16, 17, 97] ?_
 refine a9 fun _ k37 => ?_
 have hii : i = (PG xs ys s).1.length := by omega
 have htb := je hS.lens (k := i) (by omega)
 refine aa hP hN rfl ?_
 iterate 4 (refine Z rfl fun _ k0 => ?_; simp only [zO, zT, acs, reduceCtorEq, J, D, O, V, S, U]; (repeat refine And.intro (by first | omega | assumption | exact rfl | exact ⟨by omega, hne0 (by assumption)⟩) ?_); (try refine .inl ?_); apply k0; clear k0; simp only [zP, D])
 refine Z rfl fun _ k0 => ?_
 refine au (h := ah (ll (PG xs ys s).1 xs.length (by omega) hS.lens)) rfl rfl (by first | exact rfl | (simp only [ev, zP, J, D]; exact rfl)) (by simp only [zV, acs, reduceCtorEq, J, D, O, V, S, U]) ?_
 apply k0; clear k0; simp only [zP, D]
 (refine Z rfl fun _ k0 => ?_; simp only [zO, zT, acs, reduceCtorEq, J, D, O, V, S, U]; (repeat refine And.intro (by first | omega | assumption | exact rfl | exact ⟨by omega, hne0 (by assumption)⟩) ?_); (try refine .inl ?_); apply k0; clear k0; simp only [zP, D])
 refine ab ?_
 apply k37; clear k37; refine kp [3, 6, 7, 8, 10, 13, 14, 15, 16, 17, 18, 97] ?_
 refine a9 fun _ k38 => ?_
 refine a9 fun _ k39 => ?_
 refine aa hP hN rfl ?_
 (refine Z rfl fun _ k0 => ?_; simp only [zO, zT, acs, reduceCtorEq, J, D, O, V, S, U]; (repeat refine And.intro (by first | omega | assumption | exact rfl | exact ⟨by omega, hne0 (by assumption)⟩) ?_); (try refine .inl ?_); apply k0; clear k0; simp only [zP, D])
 refine ab ?_
 apply k39; clear k39; refine kp [3, 6, 7, 8, 10, 13, 14, 15, 16, 17, 18, 19, 97] ?_
 refine aw ?_
 refine aU (fun n40 s40 => ∃ (j : Nat), (j ≤ (eS (PG xs ys s).1 xs.length).length) ∧ n40 = (eS (PG xs ys s).1 xs.length).length - j ∧ s40 = { env := [(6, .one (.bool false)), (8, .one (.int .i64 (PG xs ys s).2.1)), (10, .one (.str (bD (((spB 10 s).take k).filter nsk)))), (13, .one (.str (iN xs ys (PG xs ys s).1))), (14, .one (.int .i64 (dr xs ys (PG xs ys s).1))), (15, .one (.int .i64 (fL (PG xs ys s).1 i))), (16, .one (.int .i64 (cZ ((eS (PG xs ys s).1 xs.length).take j)))), (18, .one (.list (.int .i64) (eS (PG xs ys s).1 xs.length))), (19, .one (.int .i64 (j : Int)))], L := [.fact 0 o, .vars 24 [.list .str xs], .vars 24 [.list .str ys]] }) ?_ ?_
 ·exact ⟨_, _, ar [6, 8, 10, 13, 14, 15, 16, 18, 19], 0, Nat.zero_le _, rfl, rfl⟩
 rintro n40 s40 ⟨j, hj, rfl, rfl⟩
 refine a9 fun _ k41 => ?_
 refine a9 fun _ k42 => ?_
 refine aa hP hN rfl ?_
 iterate 4 (refine Z rfl fun _ k0 => ?_; simp only [zO, zT, acs, reduceCtorEq, J, D, O, V, S, U]; (repeat refine And.intro (by first | omega | assumption | exact rfl | exact ⟨by omega, hne0 (by assumption)⟩) ?_); (try refine .inl ?_); apply k0; clear k0; simp only [zP, D])
 refine ab ?_
 apply k42; clear k42; refine kp [6, 8, 10, 13, 14, 15, 16, 18, 19, 116] ?_
 refine cd (fun hc43 => ?_) (fun hc43 => ?_)
 ·(try simp only [zB, reduceCtorEq] at hc43)
  refine am ?_
  apply k41; clear k41; refine kp [6, 8, 10, 13, 14, 15, 16, 18, 19, 116] ?_
  refine a9 fun _ k44 => ?_
  refine aw ?_
  have hsb := oN hin.2 (k := j) (by omega)
  have hcj := hin.2 j
  refine aa hP hN rfl ?_
  iterate 7 (refine Z rfl fun _ k0 => ?_; simp only [zO, zT, acs, reduceCtorEq, J, D, O, V, S, U]; (repeat refine And.intro (by first | omega | assumption | exact rfl | exact ⟨by omega, hne0 (by assumption)⟩) ?_); (try refine .inl ?_); apply k0; clear k0; simp only [zP, D])
  refine ab ?_
  apply k44; clear k44; refine kp [6, 8, 10, 13, 14, 15, 16, 18, 19, 116] ?_
  refine aa hP hN rfl ?_
  iterate 3 (refine Z rfl fun _ k0 => ?_; simp only [zO, zT, acs, reduceCtorEq, J, D, O, V, S, U]; (repeat refine And.intro (by first | omega | assumption | exact rfl | exact ⟨by omega, hne0 (by assumption)⟩) ?_); (try refine .inl ?_); apply k0; clear k0; simp only [zP, D])
  refine ab ?_
  refine ⟨_, _, ?_, ar [6, 8, 10, 13, 14, 15, 16, 18, 19], j + 1, by omega, rfl, ?_⟩
  · omega
  · rw [qq (by omega)]; rfl
 (try simp only [zB, reduceCtorEq] at hc43)
 refine aS ?_
 apply k38; clear k38; refine kp [6, 8, 10, 13, 14, 15, 16, 18, 19, 116] ?_
 refine a9 fun _ k45 => ?_
 have hjj : j = (eS (PG xs ys s).1 xs.length).length := by omega
 have hsum := p5 hS
 have hST : cZ ((eS (PG xs ys s).1 xs.length).take j) = fL (PG xs ys s).1 i := by rw [hjj, aA, hsum, hii]
 refine aa hP hN rfl ?_
 iterate 3 (refine Z rfl fun _ k0 => ?_; simp only [zO, zT, acs, reduceCtorEq, J, D, O, V, S, U]; (repeat refine And.intro (by first | omega | assumption | exact rfl | exact ⟨by omega, hne0 (by assumption)⟩) ?_); (try refine .inl ?_); apply k0; clear k0; simp only [zP, D])
 refine' aC (want := true) 3 rfl (m := 127) (by simp only [zP, J, D]; exact rfl) (by kernel_rfl) rfl rfl rfl rfl rfl (fun hg46 => ?a46) ?b46 ?c46
 case a46 =>
  have hq46 := hg46; (try simp only [zB, reduceCtorEq] at hg46); simp only [zE]
  iterate 3 (refine aM rfl fun _ k0 => ?_; simp only [zO, zT, acs, reduceCtorEq, J, D, O, V, S, U]; (repeat refine And.intro (by first | omega | assumption | exact rfl | exact ⟨by omega, hne0 (by assumption)⟩) ?_); (try refine .inl ?_); apply k0; clear k0; simp only [zP, D])
  (refine Z rfl fun _ k0 => ?_; simp only [zO, zT, acs, reduceCtorEq, J, D, O, V, S, U]; (repeat refine And.intro (by first | omega | assumption | exact rfl | exact ⟨by omega, hne0 (by assumption)⟩) ?_); (try refine .inl ?_); apply k0; clear k0; simp only [zP, D])
  refine ab ?_
  refine ⟨by simp only [zP, J, D]; exact rfl, rfl, ?_, rfl⟩; (repeat refine aD rfl ?_); exact aP (by exact rfl) hq46
 case b46 => exact bf
 simp only [aL, aF]
 (refine Z rfl fun _ k0 => ?_; simp only [zO, zT, acs, reduceCtorEq, J, D, O, V, S, U]; (repeat refine And.intro (by first | omega | assumption | exact rfl | exact ⟨by omega, hne0 (by assumption)⟩) ?_); (try refine .inl ?_); apply k0; clear k0; simp only [zP, D])
 refine' aC (want := true) 2 rfl (m := 132) (by simp only [zP, J, D]; exact rfl) (by kernel_rfl) rfl rfl rfl rfl rfl (fun hg47 => ?a47) ?b47 ?c47
 case a47 =>
  have hq47 := hg47; (try simp only [zB, reduceCtorEq] at hg47); simp only [zE]
  iterate 2 (refine aM rfl fun _ k0 => ?_; simp only [zO, zT, acs, reduceCtorEq, J, D, O, V, S, U]; (repeat refine And.intro (by first | omega | assumption | exact rfl | exact ⟨by omega, hne0 (by assumption)⟩) ?_); (try refine .inl ?_); apply k0; clear k0; simp only [zP, D])
  (refine Z rfl fun _ k0 => ?_; simp only [zO, zT, acs, reduceCtorEq, J, D, O, V, S, U]; (repeat refine And.intro (by first | omega | assumption | exact rfl | exact ⟨by omega, hne0 (by assumption)⟩) ?_); (try refine .inl ?_); apply k0; clear k0; simp only [zP, D])
  refine ab ?_
  refine ⟨by simp only [zP, J, D]; exact rfl, rfl, ?_, rfl⟩; (repeat refine aD rfl ?_); exact aP (by exact rfl) hq47
 case b47 => exact bf
 simp only [aL, aF]
 (refine Z rfl fun _ k0 => ?_; simp only [zO, zT, acs, reduceCtorEq, J, D, O, V, S, U]; (repeat refine And.intro (by first | omega | assumption | exact rfl | exact ⟨by omega, hne0 (by assumption)⟩) ?_); (try refine .inl ?_); apply k0; clear k0; simp only [zP, D])
 refine' aC (want := true) 3 rfl (m := 136) (by simp only [zP, J, D]; exact rfl) (by kernel_rfl) rfl rfl rfl rfl rfl (fun hg48 => ?a48) ?b48 ?c48
 case a48 =>
  have hq48 := hg48; (try simp only [zB, reduceCtorEq] at hg48); simp only [zE]
  iterate 3 (refine aM rfl fun _ k0 => ?_; simp only [zO, zT, acs, reduceCtorEq, J, D, O, V, S, U]; (repeat refine And.intro (by first | omega | assumption | exact rfl | exact ⟨by omega, hne0 (by assumption)⟩) ?_); (try refine .inl ?_); apply k0; clear k0; simp only [zP, D])
  (refine Z rfl fun _ k0 => ?_; simp only [zO, zT, acs, reduceCtorEq, J, D, O, V, S, U]; (repeat refine And.intro (by first | omega | assumption | exact rfl | exact ⟨by omega, hne0 (by assumption)⟩) ?_); (try refine .inl ?_); apply k0; clear k0; simp only [zP, D])
  refine ab ?_
  refine ⟨by simp only [zP, J, D]; exact rfl, rfl, ?_, rfl⟩; (repeat refine aD rfl ?_); exact aP (by exact rfl) hq48
 case b48 => exact bf
 simp only [aL, aF]
 (refine Z rfl fun _ k0 => ?_; simp only [zO, zT, acs, reduceCtorEq, J, D, O, V, S, U]; (repeat refine And.intro (by first | omega | assumption | exact rfl | exact ⟨by omega, hne0 (by assumption)⟩) ?_); (try refine .inl ?_); apply k0; clear k0; simp only [zP, D])
 refine' aC (want := true) 1 rfl (m := 141) (by simp only [zP, J, D]; exact rfl) (by kernel_rfl) rfl rfl rfl rfl rfl (fun hg49 => ?a49) ?b49 ?c49
 case a49 =>
  have hq49 := hg49; (try simp only [zB, reduceCtorEq] at hg49); simp only [zE]
  refine aM rfl fun _ k0 => ?_
  refine au (h := cU (hU hmx) rfl) rfl rfl (by first | exact rfl | (simp only [ev, zP, J, D]; exact rfl)) (by simp only [zV, acs, reduceCtorEq, J, D, O, V, S, U]) ?_
  apply k0; clear k0; simp only [zP, D]
  (refine Z rfl fun _ k0 => ?_; simp only [zO, zT, acs, reduceCtorEq, J, D, O, V, S, U]; (repeat refine And.intro (by first | omega | assumption | exact rfl | exact ⟨by omega, hne0 (by assumption)⟩) ?_); (try refine .inl ?_); apply k0; clear k0; simp only [zP, D])
  refine ab ?_
  refine ⟨by simp only [zP, J, D]; exact rfl, rfl, ?_, rfl⟩; (repeat refine aD rfl ?_); exact aP (by exact rfl) hq49
 case b49 => exact bf
 simp only [aL, aF]
 (refine Z rfl fun _ k0 => ?_; simp only [zO, zT, acs, reduceCtorEq, J, D, O, V, S, U]; (repeat refine And.intro (by first | omega | assumption | exact rfl | exact ⟨by omega, hne0 (by assumption)⟩) ?_); (try refine .inl ?_); apply k0; clear k0; simp only [zP, D])
 refine ab ?_
 apply k45; clear k45; refine kp [6, 8, 10, 13, 14, 15, 16, 18, 19, 116] ?_
 refine kp [6] ?_
 first
 | ((refine az (L1 := [_, _]) rfl (by rw [hB]; exact Nat.succ_le_succ (Nat.zero_le _)) rfl rfl ?_); (refine az (L1 := [_]) rfl (by rw [hB]; exact Nat.succ_le_succ (Nat.zero_le _)) rfl rfl ?_))
 refine ak ?_
 refine ⟨by first | exact .inl rfl | exact .inr rfl, _, rfl, ?_⟩; simp only [zP, J, D]
 all_goals (first | rfl | (refine congrArg (fun b => AV.one (AC.bool b)) ?_; simp [hpe.1, hpe.2.1, hpe.2.2]; done) | (refine congrArg (fun b => AV.one (AC.bool b)) ?_; rw [hi0, hse.1, hse.2, hTX, hST]; simp; done))
end Go.Proofs.YtfakhaagbimljaaDoor
