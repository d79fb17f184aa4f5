/- Contracts of functions of this seat, each out of a walk through its code, and plain facts on what they compute. Conditions: those that each theorem names. -/
import Derived.Test.YtmfkpljjhiglpaaDoorW01
set_option linter.unusedSimpArgs false
set_option linter.unusedVariables false
set_option maxRecDepth 100000
namespace Go.Proofs.YtmfkpljjhiglpaaDoor
open Go Go.AV
open Nat renaming reduceEqDiff → M, reduceAdd → E, reduceLeDiff → O, reduceLT → Z, reduceMul → Y, reduceSub → V
open List renaming set_cons_zero → bQ, set_cons_succ → ba, getD_cons_zero → cY, length_append → ag, map_cons → aU, cons_append → ah, map_nil → bE, length_cons → ak, nil_append → am, take_succ_cons → ci, length_nil → ay, length_map → bV, length_replicate → aH, take_length → aE, mem_cons_self → aR, mem_cons_of_mem → aG
open Int renaming toNat_natCast → aJ
theorem jX (s : Bs) : bG Tryd.prog 18 [.one (.str s)] (.one (.bool (aX s))) := by
 refine aO Tryd.func18 rfl (by kernel_rfl) (Nat.le_of_ble_eq_true rfl) rfl fun C hP hN hB => ?_
 replace hN : C.N = 55 := hN
 simp only [aT, E]
 refine ab fun _ k1 => ?_
 refine af hP hN rfl ?_
 (refine aa rfl fun _ k0 => ?_; simp only [zO, zT, acs, reduceCtorEq, M, E, O, Z, Y, V]; (repeat refine an ?_); (try refine .inl ?_); apply k0; clear k0; simp only [zP, E])
 refine ae ?_
 apply k1; clear k1; refine kp [0, 2] ?_
 refine ab fun _ k2 => ?_
 refine ab fun _ k3 => ?_
 refine af hP hN rfl ?_
 (refine aa rfl fun _ k0 => ?_; simp only [zO, zT, acs, reduceCtorEq, M, E, O, Z, Y, V]; (repeat refine an ?_); (try refine .inl ?_); apply k0; clear k0; simp only [zP, E])
 (refine aa rfl fun _ k0 => ?_; simp only [zE, op1, ev, lkp, cW, bq, lA, reduceCtorEq, M, E, O, Z, Y, V, Tryd.td9]; (repeat refine an ?_); (try refine .inl ?_); apply k0; clear k0; simp only [zP, E])
 refine ae ?_
 apply k3; clear k3; refine kp [0, 2, 7] ?_
 refine aD ?_
 refine bu (fun n4 s4 => ∃ (k : Nat), (k ≤ s.length) ∧ (∀ j, j < k → okI (bt s j)) ∧ n4 = s.length - k ∧ s4 = { env := [(0, .one (.str s)), (2, .one (.bool false)), (7, .one (.ptr 0 0 0 0))], L := [.itr s k] }) ?_ ?_
 ·exact ⟨_, _, aM [0, 2, 7], 0, Nat.zero_le _, fun q hq => by omega, rfl, rfl⟩
 rintro n4 s4 ⟨k, hk, hI, rfl, rfl⟩
 refine ab fun _ k5 => ?_
 refine af hP hN rfl ?_
 (refine aa rfl fun _ k0 => ?_; simp only [zE, op1, ev, lkp, cW, bq, ny, ex, reduceCtorEq, M, E, O, Z, Y, V, Tryd.td4]; (repeat refine an ?_); (try refine .inl ?_); apply k0; clear k0; simp only [zP, E])
 (refine aa rfl fun _ k0 => ?_; simp only [zO, zT, acs, reduceCtorEq, M, E, O, Z, Y, V]; (repeat refine an ?_); (try refine .inl ?_); apply k0; clear k0; simp only [zP, E])
 refine ae ?_
 apply k5; clear k5; refine kp [0, 2, 7, 8, 9] ?_
 refine ab fun _ k6 => ?_
 refine cd (fun hc7 => ?_) (fun hc7 => ?_)
 ·(try simp only [zB, reduceCtorEq] at hc7)
  have hpos : k < s.length := hc7
  refine ax ?_
  apply k6; clear k6; refine kp [0, 2, 7, 8, 9] ?_
  refine aD ?_
  refine ab fun _ k8 => ?_
  refine af hP hN rfl ?_
  iterate 2 (refine aa rfl fun _ k0 => ?_; simp only [zO, zT, acs, reduceCtorEq, M, E, O, Z, Y, V, ld, hpos, if_true]; (repeat refine an ?_); (try refine .inl ?_); apply k0; clear k0; simp only [zP, E])
  refine ae ?_
  apply k8; clear k8; refine kp [0, 2, 4, 7, 8, 9] ?_
  refine ab fun _ k9 => ?_
  refine af hP hN rfl ?_
  iterate 3 (refine aa rfl fun _ k0 => ?_; simp only [zO, zT, acs, reduceCtorEq, M, E, O, Z, Y, V]; (repeat refine an ?_); (try refine .inl ?_); apply k0; clear k0; simp only [zP, E])
  refine' ar (want := true) 2 rfl (m := 13) (by simp only [zP, M, E]; exact rfl) (by kernel_rfl) rfl rfl rfl rfl rfl (fun hg10 => ?a10) ?b10 ?c10
  case a10 =>
   have hq10 := hg10; (try simp only [zB, reduceCtorEq] at hg10); simp only [zE]
   iterate 2 (refine aK rfl fun _ k0 => ?_; simp only [zO, zT, acs, reduceCtorEq, M, E, O, Z, Y, V]; (repeat refine an ?_); (try refine .inl ?_); apply k0; clear k0; simp only [zP, E])
   (refine aa rfl fun _ k0 => ?_; simp only [zO, zT, acs, reduceCtorEq, M, E, O, Z, Y, V]; (repeat refine an ?_); (try refine .inl ?_); apply k0; clear k0; simp only [zP, E])
   refine ae ?_
   refine ⟨by simp only [zP, M, E]; exact rfl, rfl, ?_, rfl⟩; (repeat refine au rfl ?_); exact aL (by exact rfl) hq10
  case b10 => exact bb
  simp only [aF, az]
  (refine aa rfl fun _ k0 => ?_; simp only [zO, zT, acs, reduceCtorEq, M, E, O, Z, Y, V]; (repeat refine an ?_); (try refine .inl ?_); apply k0; clear k0; simp only [zP, E])
  refine' ar (want := false) 6 rfl (m := 17) (by simp only [zP, M, E]; exact rfl) (by kernel_rfl) rfl rfl rfl rfl rfl (fun hg11 => ?a11) ?b11 ?c11
  case a11 =>
   have hq11 := hg11; (try simp only [zB, reduceCtorEq] at hg11); simp only [zE]
   iterate 3 (refine aK rfl fun _ k0 => ?_; simp only [zO, zT, acs, reduceCtorEq, M, E, O, Z, Y, V]; (repeat refine an ?_); (try refine .inl ?_); apply k0; clear k0; simp only [zP, E])
   refine' ar (want := true) 2 rfl (m := 20) (by simp only [zP, M, E]; exact rfl) (by kernel_rfl) rfl rfl rfl rfl rfl (fun hg12 => ?a12) ?b12 ?c12
   case a12 =>
    have hq12 := hg12; (try simp only [zB, reduceCtorEq] at hg12); simp only [zE]
    iterate 3 (refine aK rfl fun _ k0 => ?_; simp only [zO, zT, acs, reduceCtorEq, M, E, O, Z, Y, V]; (repeat refine an ?_); (try refine .inl ?_); apply k0; clear k0; simp only [zP, E])
    refine ae ?_
    refine ⟨by simp only [zP, M, E]; exact rfl, rfl, ?_, rfl⟩; (repeat refine au rfl ?_); exact aL (by exact rfl) hq12
   case b12 => exact bb
   simp only [aF, az]
   (refine aa rfl fun _ k0 => ?_; simp only [zO, zT, acs, reduceCtorEq, M, E, O, Z, Y, V]; (repeat refine an ?_); (try refine .inl ?_); apply k0; clear k0; simp only [zP, E])
   refine ae ?_
   refine ⟨by simp only [zP, M, E]; exact rfl, rfl, ?_, rfl⟩; (repeat refine au rfl ?_); exact aL (by exact rfl) hq11
  case b11 => exact bb
  simp only [aF, az]
  (refine aa rfl fun _ k0 => ?_; simp only [zO, zT, acs, reduceCtorEq, M, E, O, Z, Y, V]; (repeat refine an ?_); (try refine .inl ?_); apply k0; clear k0; simp only [zP, E])
  refine' ar (want := false) 6 rfl (m := 25) (by simp only [zP, M, E]; exact rfl) (by kernel_rfl) rfl rfl rfl rfl rfl (fun hg13 => ?a13) ?b13 ?c13
  case a13 =>
   have hq13 := hg13; (try simp only [zB, reduceCtorEq] at hg13); simp only [zE]
   iterate 3 (refine aK rfl fun _ k0 => ?_; simp only [zO, zT, acs, reduceCtorEq, M, E, O, Z, Y, V]; (repeat refine an ?_); (try refine .inl ?_); apply k0; clear k0; simp only [zP, E])
   refine' ar (want := true) 2 rfl (m := 28) (by simp only [zP, M, E]; exact rfl) (by kernel_rfl) rfl rfl rfl rfl rfl (fun hg14 => ?a14) ?b14 ?c14
   case a14 =>
    have hq14 := hg14; (try simp only [zB, reduceCtorEq] at hg14); simp only [zE]
    iterate 3 (refine aK rfl fun _ k0 => ?_; simp only [zO, zT, acs, reduceCtorEq, M, E, O, Z, Y, V]; (repeat refine an ?_); (try refine .inl ?_); apply k0; clear k0; simp only [zP, E])
    refine ae ?_
    refine ⟨by simp only [zP, M, E]; exact rfl, rfl, ?_, rfl⟩; (repeat refine au rfl ?_); exact aL (by exact rfl) hq14
   case b14 => exact bb
   simp only [aF, az]
   (refine aa rfl fun _ k0 => ?_; simp only [zO, zT, acs, reduceCtorEq, M, E, O, Z, Y, V]; (repeat refine an ?_); (try refine .inl ?_); apply k0; clear k0; simp only [zP, E])
   refine ae ?_
   refine ⟨by simp only [zP, M, E]; exact rfl, rfl, ?_, rfl⟩; (repeat refine au rfl ?_); exact aL (by exact rfl) hq13
  case b13 => exact bb
  simp only [aF, az]
  (refine aa rfl fun _ k0 => ?_; simp only [zO, zT, acs, reduceCtorEq, M, E, O, Z, Y, V]; (repeat refine an ?_); (try refine .inl ?_); apply k0; clear k0; simp only [zP, E])
  refine ae ?_
  apply k9; clear k9; refine kp [0, 2, 4, 5, 7, 8, 9] ?_
  refine ab fun _ k15 => ?_
  refine af hP hN rfl ?_
  iterate 3 (refine aa rfl fun _ k0 => ?_; simp only [zO, zT, acs, reduceCtorEq, M, E, O, Z, Y, V]; (repeat refine an ?_); (try refine .inl ?_); apply k0; clear k0; simp only [zP, E])
  refine' ar (want := true) 2 rfl (m := 35) (by simp only [zP, M, E]; exact rfl) (by kernel_rfl) rfl rfl rfl rfl rfl (fun hg16 => ?a16) ?b16 ?c16
  case a16 =>
   have hq16 := hg16; (try simp only [zB, reduceCtorEq] at hg16); simp only [zE]
   iterate 2 (refine aK rfl fun _ k0 => ?_; simp only [zO, zT, acs, reduceCtorEq, M, E, O, Z, Y, V]; (repeat refine an ?_); (try refine .inl ?_); apply k0; clear k0; simp only [zP, E])
   (refine aa rfl fun _ k0 => ?_; simp only [zO, zT, acs, reduceCtorEq, M, E, O, Z, Y, V]; (repeat refine an ?_); (try refine .inl ?_); apply k0; clear k0; simp only [zP, E])
   refine ae ?_
   refine ⟨by simp only [zP, M, E]; exact rfl, rfl, ?_, rfl⟩; (repeat refine au rfl ?_); exact aL (by exact rfl) hq16
  case b16 => exact bb
  simp only [aF, az]
  (refine aa rfl fun _ k0 => ?_; simp only [zO, zT, acs, reduceCtorEq, M, E, O, Z, Y, V]; (repeat refine an ?_); (try refine .inl ?_); apply k0; clear k0; simp only [zP, E])
  refine' ar (want := true) 2 rfl (m := 39) (by simp only [zP, M, E]; exact rfl) (by kernel_rfl) rfl rfl rfl rfl rfl (fun hg17 => ?a17) ?b17 ?c17
  case a17 =>
   have hq17 := hg17; (try simp only [zB, reduceCtorEq] at hg17); simp only [zE]
   iterate 2 (refine aK rfl fun _ k0 => ?_; simp only [zO, zT, acs, reduceCtorEq, M, E, O, Z, Y, V]; (repeat refine an ?_); (try refine .inl ?_); apply k0; clear k0; simp only [zP, E])
   (refine aa rfl fun _ k0 => ?_; simp only [zO, zT, acs, reduceCtorEq, M, E, O, Z, Y, V]; (repeat refine an ?_); (try refine .inl ?_); apply k0; clear k0; simp only [zP, E])
   refine ae ?_
   refine ⟨by simp only [zP, M, E]; exact rfl, rfl, ?_, rfl⟩; (repeat refine au rfl ?_); exact aL (by exact rfl) hq17
  case b17 => exact bb
  simp only [aF, az]
  (refine aa rfl fun _ k0 => ?_; simp only [zO, zT, acs, reduceCtorEq, M, E, O, Z, Y, V]; (repeat refine an ?_); (try refine .inl ?_); apply k0; clear k0; simp only [zP, E])
  refine' ar (want := true) 2 rfl (m := 43) (by simp only [zP, M, E]; exact rfl) (by kernel_rfl) rfl rfl rfl rfl rfl (fun hg18 => ?a18) ?b18 ?c18
  case a18 =>
   have hq18 := hg18; (try simp only [zB, reduceCtorEq] at hg18); simp only [zE]
   iterate 2 (refine aK rfl fun _ k0 => ?_; simp only [zO, zT, acs, reduceCtorEq, M, E, O, Z, Y, V]; (repeat refine an ?_); (try refine .inl ?_); apply k0; clear k0; simp only [zP, E])
   (refine aa rfl fun _ k0 => ?_; simp only [zO, zT, acs, reduceCtorEq, M, E, O, Z, Y, V]; (repeat refine an ?_); (try refine .inl ?_); apply k0; clear k0; simp only [zP, E])
   refine ae ?_
   refine ⟨by simp only [zP, M, E]; exact rfl, rfl, ?_, rfl⟩; (repeat refine au rfl ?_); exact aL (by exact rfl) hq18
  case b18 => exact bb
  simp only [aF, az]
  refine ae ?_
  apply k15; clear k15; refine kp [0, 2, 4, 5, 7, 8, 9, 46] ?_
  refine cd (fun hc19 => ?_) (fun hc19 => ?_)
  ·(try simp only [zB, reduceCtorEq] at hc19)
   have ho : ¬ okI (((dec s k).1 : Nat) : Int) := by unfold okI; omega
   refine ab fun _ k20 => ?_
   refine af hP hN rfl ?_
   (refine aa rfl fun _ k0 => ?_; simp only [zO, zT, acs, reduceCtorEq, M, E, O, Z, Y, V]; (repeat refine an ?_); (try refine .inl ?_); apply k0; clear k0; simp only [zP, E])
   refine ae ?_
   apply k20; clear k20; refine kp [0, 2, 4, 5, 7, 8, 9, 46] ?_
   refine aq ?_
   refine ⟨nr, _, rfl, ?_⟩; simp only [zF, zP, M, E]
   refine VLE.of_eq ?_
   refine congrArg (fun b => AV.one (AC.bool b)) ?_
   symm
   first
   | exact lQ hpos (pP ho)
   | exact lS fun j hj => hI j (by omega)
  (try simp only [zB, reduceCtorEq] at hc19)
  have ho : okI (((dec s k).1 : Nat) : Int) := by unfold okI; omega
  refine ax ?_
  have hd := sU ho
  have hn : hG s k = k + 1 := by unfold hG; rw [if_pos hpos, hd.2]
  refine ⟨_, _, ?_, aM [0, 2, 7], hG s k, by omega, fun j hj => ?_, rfl, rfl⟩
  · omega
  · by_cases e : j = k
    · rw [e]; exact hd.1
    · exact hI j (by omega)
 (try simp only [zB, reduceCtorEq] at hc7)
 refine bv ?_
 apply k2; clear k2; refine kp [0, 2, 7, 8, 9] ?_
 refine ab fun _ k21 => ?_
 refine af hP hN rfl ?_
 iterate 4 (refine aa rfl fun _ k0 => ?_; simp only [zO, zT, acs, reduceCtorEq, M, E, O, Z, Y, V]; (repeat refine an ?_); (try refine .inl ?_); apply k0; clear k0; simp only [zP, E])
 refine' ar (want := true) 3 rfl (m := 50) (by simp only [zP, M, E]; exact rfl) (by kernel_rfl) rfl rfl rfl rfl rfl (fun hg22 => ?a22) ?b22 ?c22
 case a22 =>
  have hq22 := hg22; (try simp only [zB, reduceCtorEq] at hg22); simp only [zE]
  iterate 3 (refine aK rfl fun _ k0 => ?_; simp only [zO, zT, acs, reduceCtorEq, M, E, O, Z, Y, V]; (repeat refine an ?_); (try refine .inl ?_); apply k0; clear k0; simp only [zP, E])
  (refine aa rfl fun _ k0 => ?_; simp only [zO, zT, acs, reduceCtorEq, M, E, O, Z, Y, V]; (repeat refine an ?_); (try refine .inl ?_); apply k0; clear k0; simp only [zP, E])
  refine ae ?_
  refine ⟨by simp only [zP, M, E]; exact rfl, rfl, ?_, rfl⟩; (repeat refine au rfl ?_); exact aL (by exact rfl) hq22
 case b22 => exact bb
 simp only [aF, az]
 (refine aa rfl fun _ k0 => ?_; simp only [zO, zT, acs, reduceCtorEq, M, E, O, Z, Y, V]; (repeat refine an ?_); (try refine .inl ?_); apply k0; clear k0; simp only [zP, E])
 refine ae ?_
 apply k21; clear k21; refine kp [0, 2, 7, 8, 9] ?_
 refine aq ?_
 refine ⟨nr, _, rfl, ?_⟩; simp only [zF, zP, M, E]
 refine VLE.of_eq ?_
 refine congrArg (fun b => AV.one (AC.bool b)) ?_
 symm
 first
 | exact lQ hpos (pP ho)
 | exact lS fun j hj => hI j (by omega)
theorem eS (xs : List Bs) (x : Bs) : bG Tryd.prog 45 [.one (.list .str xs), .one (.str x)] (.one (.int .i64 (if x ∈ xs then (pos xs x : Int) else -1))) := by
 refine aO Tryd.func45 rfl (by kernel_rfl) (Nat.le_of_ble_eq_true rfl) rfl fun C hP hN hB => ?_
 replace hN : C.N = 19 := hN
 simp only [aT, E]
 refine fS 0 rfl fun hf0 => ?_; simp only [lkp, if_true, if_false, reduceCtorEq, M, eq_self, Nat.one_ne_zero, Nat.zero_ne_one, kO, jn, jp, Fit, and_true, implies_true, true_and] at hf0
 refine ab fun _ k1 => ?_
 refine af hP hN rfl ?_
 (refine aa rfl fun _ k0 => ?_; simp only [zO, zT, acs, reduceCtorEq, M, E, O, Z, Y, V]; (repeat refine an ?_); (try refine .inl ?_); apply k0; clear k0; simp only [zP, E])
 refine ae ?_
 apply k1; clear k1; refine kp [0, 1, 4] ?_
 refine ab fun _ k2 => ?_
 refine ab fun _ k3 => ?_
 refine af hP hN rfl ?_
 iterate 3 (refine aa rfl fun _ k0 => ?_; simp only [zO, zT, acs, reduceCtorEq, M, E, O, Z, Y, V]; (repeat refine an ?_); (try refine .inl ?_); apply k0; clear k0; simp only [zP, E])
 refine ae ?_
 apply k3; clear k3; refine kp [0, 1, 4, 7, 8] ?_
 refine aD ?_
 refine bu (fun n4 s4 => ∃ (k : Nat), (k ≤ xs.length) ∧ (∀ q, q < k → xs.getD q [] ≠ x) ∧ n4 = xs.length - k ∧ s4 = { env := [(0, .one (.list .str xs)), (1, .one (.str x)), (4, .one (.int .i64 0)), (7, .one (.int .i64 (xs.length : Int))), (8, .one (.int .i64 (k : Int)))], L := [] }) ?_ ?_
 ·exact ⟨_, _, aM [0, 1, 4, 7, 8], 0, Nat.zero_le _, fun q hq => by omega, rfl, rfl⟩
 rintro n4 s4 ⟨k, hk, hq, rfl, rfl⟩
 refine ab fun _ k5 => ?_
 refine af hP hN rfl ?_
 (refine aa rfl fun _ k0 => ?_; simp only [zO, zT, acs, reduceCtorEq, M, E, O, Z, Y, V]; (repeat refine an ?_); (try refine .inl ?_); apply k0; clear k0; simp only [zP, E])
 refine ae ?_
 apply k5; clear k5; refine kp [0, 1, 4, 7, 8, 9] ?_
 refine ab fun _ k6 => ?_
 refine cd (fun hc7 => ?_) (fun hc7 => ?_)
 ·(try simp only [zB, reduceCtorEq] at hc7)
  refine ax ?_
  apply k6; clear k6; refine kp [0, 1, 4, 7, 8, 9] ?_
  refine ab fun _ k8 => ?_
  refine aD ?_
  refine ab fun _ k9 => ?_
  refine af hP hN rfl ?_
  iterate 2 (refine aa rfl fun _ k0 => ?_; simp only [zO, zT, acs, reduceCtorEq, M, E, O, Z, Y, V]; (repeat refine an ?_); (try refine .inl ?_); apply k0; clear k0; simp only [zP, E])
  refine ae ?_
  apply k9; clear k9; refine kp [0, 1, 4, 5, 7, 8, 9] ?_
  refine ab fun _ k10 => ?_
  refine af hP hN rfl ?_
  iterate 6 (refine aa rfl fun _ k0 => ?_; simp only [zO, zT, acs, reduceCtorEq, M, E, O, Z, Y, V]; (repeat refine an ?_); (try refine .inl ?_); apply k0; clear k0; simp only [zP, E])
  refine ae ?_
  apply k10; clear k10; refine kp [0, 1, 4, 5, 7, 8, 9, 16] ?_
  refine cd (fun hc11 => ?_) (fun hc11 => ?_)
  ·(try simp only [zB, reduceCtorEq] at hc11)
   have hme : xs.getD k [] = x := by first | exact hc11 | exact (hc11).symm
   refine ab fun _ k12 => ?_
   refine af hP hN rfl ?_
   iterate 2 (refine aa rfl fun _ k0 => ?_; simp only [zO, zT, acs, reduceCtorEq, M, E, O, Z, Y, V]; (repeat refine an ?_); (try refine .inl ?_); apply k0; clear k0; simp only [zP, E])
   refine ae ?_
   apply k12; clear k12; refine kp [0, 1, 4, 5, 7, 8, 9, 16] ?_
   refine aq ?_
   refine ⟨nr, _, rfl, ?_⟩; simp only [zF, zP, M, E]
   refine VLE.of_eq ?_
   refine congrArg (fun n => AV.one (AC.int IntKind.i64 n)) ?_
   symm
   first
   | (have g9 := pF (fun q hq2 => hq q hq2) (by omega) hme; obtain ⟨g1, g2⟩ := g9; rw [if_pos g2, g1]; done)
   | (rw [if_neg (tD fun q hq2 => hq q (by omega))]; done)
  (try simp only [zB, reduceCtorEq] at hc11)
  have hne : xs.getD k [] ≠ x := by first | exact hc11 | exact Ne.symm hc11
  refine ax ?_
  apply k8; clear k8; refine kp [0, 1, 4, 5, 7, 8, 9, 16] ?_
  refine af hP hN rfl ?_
  iterate 2 (refine aa rfl fun _ k0 => ?_; simp only [zO, zT, acs, reduceCtorEq, M, E, O, Z, Y, V]; (repeat refine an ?_); (try refine .inl ?_); apply k0; clear k0; simp only [zP, E])
  refine ae ?_
  refine ⟨_, _, ?_, aM [0, 1, 4, 7, 8], k + 1, by omega, fun q hq2 => ?_, rfl, rfl⟩
  · omega
  · by_cases e : q = k
    · rw [e]; exact hne
    · exact hq q (by omega)
 (try simp only [zB, reduceCtorEq] at hc7)
 refine bv ?_
 apply k2; clear k2; refine kp [0, 1, 4, 7, 8, 9] ?_
 refine ab fun _ k13 => ?_
 refine af hP hN rfl ?_
 (refine aa rfl fun _ k0 => ?_; simp only [zO, zT, acs, reduceCtorEq, M, E, O, Z, Y, V]; (repeat refine an ?_); (try refine .inl ?_); apply k0; clear k0; simp only [zP, E])
 refine ae ?_
 apply k13; clear k13; refine kp [0, 1, 4, 7, 8, 9] ?_
 refine aq ?_
 refine ⟨nr, _, rfl, ?_⟩; simp only [zF, zP, M, E]
 refine VLE.of_eq ?_
 refine congrArg (fun n => AV.one (AC.int IntKind.i64 n)) ?_
 symm
 first
 | (have g9 := pF (fun q hq2 => hq q hq2) (by omega) hme; obtain ⟨g1, g2⟩ := g9; rw [if_pos g2, g1]; done)
 | (rw [if_neg (tD fun q hq2 => hq q (by omega))]; done)
theorem fv (xs : List Bs) (x : Bs) : bG Tryd.prog 31 [.one (.list .str xs), .one (.str x)] (.one (.bool (decide (x ∈ xs)))) := by
 refine aO Tryd.func31 rfl (by kernel_rfl) (Nat.le_of_ble_eq_true rfl) rfl fun C hP hN hB => ?_
 replace hN : C.N = 9 := hN
 simp only [aT, E]
 refine ab fun _ k1 => ?_
 refine af hP hN rfl ?_
 (refine aa rfl fun _ k0 => ?_; simp only [zO, zT, acs, reduceCtorEq, M, E, O, Z, Y, V]; (repeat refine an ?_); (try refine .inl ?_); apply k0; clear k0; simp only [zP, E])
 refine ae ?_
 apply k1; clear k1; refine kp [0, 1, 4] ?_
 refine ab fun _ k2 => ?_
 refine af hP hN rfl ?_
 iterate 2 (refine aa rfl fun _ k0 => ?_; simp only [zO, zT, acs, reduceCtorEq, M, E, O, Z, Y, V]; (repeat refine an ?_); (try refine .inl ?_); apply k0; clear k0; simp only [zP, E])
 refine aa rfl fun _ k0 => ?_
 refine aw (h := aj (eS xs x)) rfl rfl (by first | exact rfl | (simp only [ev, zP, M, E]; exact rfl)) (by simp only [zV, acs, reduceCtorEq, M, E, O, Z, Y, V]) ?_
 apply k0; clear k0; simp only [zP, E]
 iterate 2 (refine aa rfl fun _ k0 => ?_; simp only [zO, zT, acs, reduceCtorEq, M, E, O, Z, Y, V]; (repeat refine an ?_); (try refine .inl ?_); apply k0; clear k0; simp only [zP, E])
 refine ae ?_
 apply k2; clear k2; refine kp [0, 1, 4] ?_
 refine aq ?_
 refine ⟨nr, _, rfl, ?_⟩; simp only [zF, zP, M, E]
 refine VLE.of_eq ?_
 refine congrArg (fun b => AV.one (AC.bool b)) ?_
 by_cases h : x ∈ xs
 · rw [if_pos h]; simp [h]
 · rw [if_neg h]; simp [h]
theorem gO (xs : List Bs) : bG Tryd.prog 19 [.agg [.list .str xs]] (.one (.int .i64 (alE xs))) := by
 refine aO Tryd.func19 rfl (by kernel_rfl) (Nat.le_of_ble_eq_true rfl) rfl fun C hP hN hB => ?_
 replace hN : C.N = 33 := hN
 simp only [aT, E]
 refine ab fun _ k1 => ?_
 refine af hP hN rfl ?_
 iterate 2 (refine aa rfl fun _ k0 => ?_; simp only [zO, zT, acs, reduceCtorEq, M, E, O, Z, Y, V]; (repeat refine an ?_); (try refine .inl ?_); apply k0; clear k0; simp only [zP, E])
 refine ae ?_
 apply k1; clear k1; refine kp [0, 1, 2] ?_
 refine ab fun _ k2 => ?_
 refine aD ?_
 refine ab fun _ k3 => ?_
 refine af hP hN rfl ?_
 iterate 5 (refine aa rfl fun _ k0 => ?_; simp only [zO, zT, acs, reduceCtorEq, M, E, O, Z, Y, V]; (repeat refine an ?_); (try refine .inl ?_); apply k0; clear k0; simp only [zP, E])
 refine ae ?_
 apply k3; clear k3; refine kp [0, 1, 2, 5] ?_
 refine cd (fun hc4 => ?_) (fun hc4 => ?_)
 ·(try simp only [zB, reduceCtorEq] at hc4)
  refine ab fun _ k5 => ?_
  refine af hP hN rfl ?_
  (refine aa rfl fun _ k0 => ?_; simp only [zO, zT, acs, reduceCtorEq, M, E, O, Z, Y, V]; (repeat refine an ?_); (try refine .inl ?_); apply k0; clear k0; simp only [zP, E])
  refine ae ?_
  apply k5; clear k5; refine kp [0, 1, 2, 5] ?_
  refine aq ?_
  refine ⟨nr, _, rfl, ?_⟩; simp only [zF, zP, M, E]
  refine VLE.of_eq ?_
  refine congrArg (fun n => AV.one (AC.int IntKind.i64 n)) ?_
  symm
  first
  | exact ky (by omega)
  | exact iH (by omega) (by omega)
  | exact kR (by omega) (by omega) (k := k) (by omega) hq hbad
  | exact kC (by omega) (by omega) (k := k) (by omega) hq hgood hin
  | exact fb (by omega) (by omega) fun q hq2 => hq q (by omega)
 (try simp only [zB, reduceCtorEq] at hc4)
 refine ab fun _ k6 => ?_
 refine af hP hN rfl ?_
 iterate 5 (refine aa rfl fun _ k0 => ?_; simp only [zO, zT, acs, reduceCtorEq, M, E, O, Z, Y, V]; (repeat refine an ?_); (try refine .inl ?_); apply k0; clear k0; simp only [zP, E])
 refine ae ?_
 apply k6; clear k6; refine kp [0, 1, 2, 5, 10] ?_
 refine cd (fun hc7 => ?_) (fun hc7 => ?_)
 ·(try simp only [zB, reduceCtorEq] at hc7)
  refine ab fun _ k8 => ?_
  refine af hP hN rfl ?_
  (refine aa rfl fun _ k0 => ?_; simp only [zO, zT, acs, reduceCtorEq, M, E, O, Z, Y, V]; (repeat refine an ?_); (try refine .inl ?_); apply k0; clear k0; simp only [zP, E])
  refine ae ?_
  apply k8; clear k8; refine kp [0, 1, 2, 5, 10] ?_
  refine aq ?_
  refine ⟨nr, _, rfl, ?_⟩; simp only [zF, zP, M, E]
  refine VLE.of_eq ?_
  refine congrArg (fun n => AV.one (AC.int IntKind.i64 n)) ?_
  symm
  first
  | exact ky (by omega)
  | exact iH (by omega) (by omega)
  | exact kR (by omega) (by omega) (k := k) (by omega) hq hbad
  | exact kC (by omega) (by omega) (k := k) (by omega) hq hgood hin
  | exact fb (by omega) (by omega) fun q hq2 => hq q (by omega)
 (try simp only [zB, reduceCtorEq] at hc7)
 refine ax ?_
 apply k2; clear k2; refine kp [0, 1, 2, 5, 10] ?_
 refine ab fun _ k9 => ?_
 refine ab fun _ k10 => ?_
 refine af hP hN rfl ?_
 iterate 4 (refine aa rfl fun _ k0 => ?_; simp only [zO, zT, acs, reduceCtorEq, M, E, O, Z, Y, V]; (repeat refine an ?_); (try refine .inl ?_); apply k0; clear k0; simp only [zP, E])
 refine ae ?_
 apply k10; clear k10; refine kp [0, 1, 2, 5, 10, 16, 17, 18] ?_
 refine aD ?_
 refine bu (fun n11 s11 => ∃ (k : Nat), (k ≤ xs.length) ∧ (∀ q, q < k → nmE xs q = 0) ∧ n11 = xs.length - k ∧ s11 = { env := [(1, .one (.ptr 0 0 0 0)), (2, .one (.int .i64 0)), (16, .one (.list .str xs)), (17, .one (.int .i64 (xs.length : Int))), (18, .one (.int .i64 (k : Int)))], L := [.vars 24 [.list .str xs]] }) ?_ ?_
 ·exact ⟨_, _, aM [1, 2, 16, 17, 18], 0, Nat.zero_le _, fun q hq => by omega, rfl, rfl⟩
 rintro n11 s11 ⟨k, hk, hq, rfl, rfl⟩
 refine ab fun _ k12 => ?_
 refine af hP hN rfl ?_
 (refine aa rfl fun _ k0 => ?_; simp only [zO, zT, acs, reduceCtorEq, M, E, O, Z, Y, V]; (repeat refine an ?_); (try refine .inl ?_); apply k0; clear k0; simp only [zP, E])
 refine ae ?_
 apply k12; clear k12; refine kp [1, 2, 16, 17, 18, 19] ?_
 refine ab fun _ k13 => ?_
 refine cd (fun hc14 => ?_) (fun hc14 => ?_)
 ·(try simp only [zB, reduceCtorEq] at hc14)
  refine ax ?_
  apply k13; clear k13; refine kp [1, 2, 16, 17, 18, 19] ?_
  refine ab fun _ k15 => ?_
  refine aD ?_
  refine ab fun _ k16 => ?_
  refine af hP hN rfl ?_
  iterate 5 (refine aa rfl fun _ k0 => ?_; simp only [zO, zT, acs, reduceCtorEq, M, E, O, Z, Y, V]; (repeat refine an ?_); (try refine .inl ?_); apply k0; clear k0; simp only [zP, E])
  refine ae ?_
  apply k16; clear k16; refine kp [1, 2, 3, 4, 16, 17, 18, 19] ?_
  refine ab fun _ k17 => ?_
  refine ab fun _ k18 => ?_
  refine af hP hN rfl ?_
  (refine aa rfl fun _ k0 => ?_; simp only [zO, zT, acs, reduceCtorEq, M, E, O, Z, Y, V]; (repeat refine an ?_); (try refine .inl ?_); apply k0; clear k0; simp only [zP, E])
  refine aa rfl fun _ k0 => ?_
  refine aw (h := aj (jX (xs.getD k []))) rfl rfl (by first | exact rfl | (simp only [ev, zP, M, E]; exact rfl)) (by simp only [zV, acs, reduceCtorEq, M, E, O, Z, Y, V]) ?_
  apply k0; clear k0; simp only [zP, E]
  (refine aa rfl fun _ k0 => ?_; simp only [zO, zT, acs, reduceCtorEq, M, E, O, Z, Y, V]; (repeat refine an ?_); (try refine .inl ?_); apply k0; clear k0; simp only [zP, E])
  refine ae ?_
  apply k18; clear k18; refine kp [1, 2, 3, 4, 16, 17, 18, 19, 25] ?_
  refine cd (fun hc19 => ?_) (fun hc19 => ?_)
  ·(try simp only [zB, reduceCtorEq] at hc19)
   have hbad : aX (xs.getD k []) = false := by simpa using hc19
   refine ab fun _ k20 => ?_
   refine af hP hN rfl ?_
   (refine aa rfl fun _ k0 => ?_; simp only [zO, zT, acs, reduceCtorEq, M, E, O, Z, Y, V]; (repeat refine an ?_); (try refine .inl ?_); apply k0; clear k0; simp only [zP, E])
   refine ae ?_
   apply k20; clear k20; refine kp [1, 2, 3, 4, 16, 17, 18, 19, 25] ?_
   refine aq ?_
   refine ⟨nr, _, rfl, ?_⟩; simp only [zF, zP, M, E]
   refine VLE.of_eq ?_
   refine congrArg (fun n => AV.one (AC.int IntKind.i64 n)) ?_
   symm
   first
   | exact ky (by omega)
   | exact iH (by omega) (by omega)
   | exact kR (by omega) (by omega) (k := k) (by omega) hq hbad
   | exact kC (by omega) (by omega) (k := k) (by omega) hq hgood hin
   | exact fb (by omega) (by omega) fun q hq2 => hq q (by omega)
  (try simp only [zB, reduceCtorEq] at hc19)
  have hgood : aX (xs.getD k []) = true := by simpa using hc19
  refine ax ?_
  apply k17; clear k17; refine kp [1, 2, 3, 4, 16, 17, 18, 19, 25] ?_
  refine ab fun _ k21 => ?_
  refine af hP hN rfl ?_
  iterate 3 (refine aa rfl fun _ k0 => ?_; simp only [zO, zT, acs, reduceCtorEq, M, E, O, Z, Y, V, List.drop_zero, aJ, Int.toNat_zero]; (repeat refine an ?_); (try refine .inl ?_); apply k0; clear k0; simp only [zP, E])
  (refine aa rfl fun _ k0 => ?_; simp only [zE, op1, ev, lkp, cW, bq, cj, ge, Nat.mul_one, bT, cX, acs, Ty.dflt, zG, cu, cr, bnd, Ty.size, reduceCtorEq, M, E, O, Z, Y, V, Tryd.el22, Tryd.st24, Tryd.td22, Tryd.td24, Tryd.td3, Tryd.td9, List.drop_zero, aJ, Int.toNat_zero]; (repeat refine an ?_); (try refine .inl ?_); apply k0; clear k0; simp only [zP, E])
  (refine aa rfl fun _ k0 => ?_; simp only [zO, zT, acs, reduceCtorEq, M, E, O, Z, Y, V, List.drop_zero, aJ, Int.toNat_zero]; (repeat refine an ?_); (try refine .inl ?_); apply k0; clear k0; simp only [zP, E])
  refine aa rfl fun _ k0 => ?_
  refine aw (h := aj (fv (xs.take k) (xs.getD k []))) rfl rfl (by first | exact rfl | (simp only [ev, zP, M, E]; exact rfl)) (by simp only [zV, acs, reduceCtorEq, M, E, O, Z, Y, V, List.drop_zero, aJ, Int.toNat_zero]) ?_
  apply k0; clear k0; simp only [zP, E]
  refine ae ?_
  apply k21; clear k21; refine kp [1, 2, 3, 4, 16, 17, 18, 19, 25, 31] ?_
  refine cd (fun hc22 => ?_) (fun hc22 => ?_)
  ·(try simp only [zB, reduceCtorEq] at hc22)
   have hin : xs.getD k [] ∈ xs.take k := by simpa using hc22
   refine ab fun _ k23 => ?_
   refine af hP hN rfl ?_
   (refine aa rfl fun _ k0 => ?_; simp only [zO, zT, acs, reduceCtorEq, M, E, O, Z, Y, V]; (repeat refine an ?_); (try refine .inl ?_); apply k0; clear k0; simp only [zP, E])
   refine ae ?_
   apply k23; clear k23; refine kp [1, 2, 3, 4, 16, 17, 18, 19, 25, 31] ?_
   refine aq ?_
   refine ⟨nr, _, rfl, ?_⟩; simp only [zF, zP, M, E]
   refine VLE.of_eq ?_
   refine congrArg (fun n => AV.one (AC.int IntKind.i64 n)) ?_
   symm
   first
   | exact ky (by omega)
   | exact iH (by omega) (by omega)
   | exact kR (by omega) (by omega) (k := k) (by omega) hq hbad
   | exact kC (by omega) (by omega) (k := k) (by omega) hq hgood hin
   | exact fb (by omega) (by omega) fun q hq2 => hq q (by omega)
  (try simp only [zB, reduceCtorEq] at hc22)
  have hnin : xs.getD k [] ∉ xs.take k := by simpa using hc22
  refine ax ?_
  apply k15; clear k15; refine kp [1, 2, 3, 4, 16, 17, 18, 19, 25, 31] ?_
  refine af hP hN rfl ?_
  iterate 2 (refine aa rfl fun _ k0 => ?_; simp only [zO, zT, acs, reduceCtorEq, M, E, O, Z, Y, V]; (repeat refine an ?_); (try refine .inl ?_); apply k0; clear k0; simp only [zP, E])
  refine ae ?_
  refine ⟨_, _, ?_, aM [1, 2, 16, 17, 18], k + 1, by omega, fun q hq2 => ?_, rfl, rfl⟩
  · omega
  · by_cases e : q = k
    · rw [e]; exact ke hgood hnin
    · exact hq q (by omega)
 (try simp only [zB, reduceCtorEq] at hc14)
 refine bv ?_
 apply k9; clear k9; refine kp [1, 2, 16, 17, 18, 19] ?_
 refine ab fun _ k24 => ?_
 refine af hP hN rfl ?_
 (refine aa rfl fun _ k0 => ?_; simp only [zO, zT, acs, reduceCtorEq, M, E, O, Z, Y, V]; (repeat refine an ?_); (try refine .inl ?_); apply k0; clear k0; simp only [zP, E])
 refine ae ?_
 apply k24; clear k24; refine kp [1, 2, 16, 17, 18, 19] ?_
 refine aq ?_
 refine ⟨nr, _, rfl, ?_⟩; simp only [zF, zP, M, E]
 refine VLE.of_eq ?_
 refine congrArg (fun n => AV.one (AC.int IntKind.i64 n)) ?_
 symm
 first
 | exact ky (by omega)
 | exact iH (by omega) (by omega)
 | exact kR (by omega) (by omega) (k := k) (by omega) hq hbad
 | exact kC (by omega) (by omega) (k := k) (by omega) hq hgood hin
 | exact fb (by omega) (by omega) fun q hq2 => hq q (by omega)
section
open Go.RowKit
open Go.Shelf in
def Tryd.lays212_ren : Go.Shelf.Ren := ⟨fun | 212 => 98 | 263 => 102 | 264 => 103 | n => n, fun | 46 => 88 | 51 => 107 | 146 => 142 | 53 => 109 | 148 => 145 | n => n, fun | n => n⟩
theorem Tryd.lays212 : Go.Proofs.Lays.n212 Tryd.prog Tryd.lays212_ren := {
  mixed := by kernel_rfl,
  f212 := Tryd.func98.trans (congrArg some (by kernel_rfl)),
  f263 := Tryd.func102.trans (congrArg some (by kernel_rfl)),
  f264 := Tryd.func103.trans (congrArg some (by kernel_rfl)),
  t46 := Tryd.underlying88,
  a46 := Tryd.isAgg88,
  z46 := Tryd.sizeOf88,
  v46 := Tryd.zeroValue88,
  t51 := Tryd.underlying107,
  a51 := Tryd.isAgg107,
  z51 := Tryd.sizeOf107,
  v51 := Tryd.zeroValue107,
  t53 := Tryd.underlying109,
  a53 := Tryd.isAgg109,
  z53 := Tryd.sizeOf109,
  v53 := Tryd.zeroValue109,
  t146 := Tryd.underlying142,
  a146 := Tryd.isAgg142,
  z146 := Tryd.sizeOf142,
  v146 := Tryd.zeroValue142,
  t148 := Tryd.underlying145,
  a148 := Tryd.isAgg145,
  z148 := Tryd.sizeOf145,
  v148 := Tryd.zeroValue145 }
theorem pw {P : Program} {I S : TypeId} (hu : P.underlying S = some (.slice I)) (hs : (P.info? I).map (·.size) = some 1) (W : World) (g b o c n dc : Nat) (ty : TypeId) (h1 : 1 ≤ n) (cur : Array Value) (t : TypeId) (hg : W.heap[g]? = some (.cells cur t (0, 0))) (hz : cur.size = n) (v : Value) (hv : v.oneCell' = true) (hc : W.cell? ⟨b, o, none⟩ = some v) :
    (Builtin.copy_ #[S, S] ty #[.slice (some ⟨g, 0, none⟩) n dc, .slice (some ⟨b, o, none⟩) 1 c]).run P W = .ok (goInt 1) (W.setRow g (v :: cur.toList.drop 1).toArray) := by
  have := run_copy_row (P := P) W S S ty I g 0 n dc ⟨b, o, none⟩ 1 c cur t [v] hu hs hg (by simp [Nat.min_def]; omega) (fun j u hj => by
    cases j with
    | zero => simp at hj; subst hj; exact hc
    | succ j => simp at hj) (by simp; omega) (by simpa using hv)
  simpa using this
def cJ (n k : Nat) : Array Value := (List.replicate k (Value.int .i64 (-1)) ++ List.replicate (n - k) (Value.int .i64 0)).toArray
def pC (n k : Nat) (W0 W : World) : Prop := Below W0.heap.size W0 W ∧ W.heap[W0.heap.size]? = some (.cells (cJ n k) 3 (0, 0))
theorem j3 {n k : Nat} (h : k ≤ n) : (cJ n k).toList.length = n := by unfold cJ; simp; omega
theorem sZ (n : Nat) : madeCells #[Value.int IntKind.i64 0] n = cJ n 0 := by
  unfold madeCells cJ
  simp only [List.replicate_zero, am, Nat.sub_zero, List.size_toArray, ak, ay, Nat.zero_add, Nat.mod_one]
  apply Array.ext
  · simp
  · intro i h1 h2
    simp
theorem ta {n : Nat} (h : 1 ≤ n) : (Value.int IntKind.i64 (-1) :: (cJ n 0).toList.drop 1).toArray = cJ n 1 := by
  obtain ⟨m, rfl⟩ : ∃ m, n = m + 1 := ⟨n - 1, by omega⟩
  unfold cJ
  simp [List.replicate_succ]
theorem pl {P : Program} {I S : TypeId} (hu : P.underlying S = some (.slice I)) (hs : (P.info? I).map (·.size) = some 1) (W : World) (g n k dc sc : Nat) (ty : TypeId) (h1 : 1 ≤ k) (h2 : k < n) (t : TypeId) (hg : W.heap[g]? = some (.cells (cJ n k) t (0, 0))) :
    (Builtin.copy_ #[S, S] ty #[.slice (some ⟨g, k, none⟩) (n - k) dc, .slice (some ⟨g, 0, none⟩) k sc]).run P W = .ok (goInt (Nat.min k (n - k))) (W.setRow g (cJ n (k + Nat.min k (n - k)))) := by
  have hm : Nat.min k (n - k) ≤ k ∧ Nat.min k (n - k) ≤ n - k := ⟨Nat.min_le_left _ _, Nat.min_le_right _ _⟩
  have := run_copy_row (P := P) W S S ty I g k (n - k) dc ⟨g, 0, none⟩ k sc (cJ n k) t (List.replicate (Nat.min k (n - k)) (Value.int .i64 (-1))) hu hs hg (by simp) (fun j u hj => by
    have hj2 : j < Nat.min k (n - k) ∧ u = Value.int .i64 (-1) := by
      rw [List.getElem?_replicate] at hj
      split at hj
      · exact ⟨by assumption, by cases hj; rfl⟩
      · cases hj
    obtain ⟨hj2, rfl⟩ := hj2
    have hjk : j < k := by omega
    rw [Addr.add_lit, Nat.zero_add]
    simp [World.cell?, hg, cJ, List.getElem?_append, hjk]) (by have := j3 (n := n) (k := k) (by omega); simp at this ⊢; omega) (by intro v hv; rw [(List.mem_replicate.1 hv).2]; rfl)
  rw [this]
  congr 2
  · simp
  · unfold cJ
    simp only [aH, List.toList_toArray]
    have e1 : List.take k (List.replicate k (Value.int .i64 (-1)) ++ List.replicate (n - k) (Value.int .i64 0)) = List.replicate k (Value.int .i64 (-1)) := by
      rw [List.take_append_of_le_length (by simp)]; simp
    have e2 : List.drop (k + Nat.min k (n - k)) (List.replicate k (Value.int .i64 (-1)) ++ List.replicate (n - k) (Value.int .i64 0)) = List.replicate (n - (k + Nat.min k (n - k))) (Value.int .i64 0) := by
      rw [List.drop_append, List.drop_of_length_le (by simp), am, List.drop_replicate]; congr 1; simp; omega
    rw [e1, e2, List.replicate_append_replicate]

theorem o9 (w : World) (o : Obj) : (w.alloc o).heap[w.heap.size]? = some o := Array.getElem?_push_size
set_option maxHeartbeats 1000000 in
theorem sC (b o c n : Nat) (w : World) (h1 : 1 ≤ n) (hn : n ≤ 1000) (hc : w.cell? ⟨b, o, none⟩ = some (.int .i64 (-1))) :
    Calls Tryd.prog 88 #[.slice (some ⟨b, o, none⟩) 1 c, .int .i64 n] w fun e w' => e = .returned (.slice (some ⟨w.heap.size, 0, none⟩) n n) ∧ pC n n w w' := by
  have hm := fun W => Any.bits_Mul Tryd.lays212 1 n (by omega) (by omega) W
  have e1 : 1 * n / 18446744073709551616 = 0 := by omega
  have e2 : 1 * n % 18446744073709551616 = n := by omega
  simp only [e1, e2] at hm
  clear e1 e2
  have hmk := run_make_row' (P := Tryd.prog) 44 3 (.int .i64 0) 8 Tryd.underlying44 (by kernel_rfl) rfl .i64 .i64 n (by omega) (by omega)
  have hb : b < w.heap.size := World.block_lt_of_cell? _ _ hc
  have hsz : (Tryd.prog.info? 3).map (·.size) = some 1 := by kernel_rfl
  obtain ⟨w1, hw1⟩ : ∃ w1, w.alloc (.cells (madeCells #[Value.int .i64 0] n) 3) = w1 := ⟨_, rfl⟩
  obtain ⟨w2, hw2⟩ : ∃ w2, w1.setRow w.heap.size (cJ n 1) = w2 := ⟨_, rfl⟩
  have hg1 : w1.heap[w.heap.size]? = some (.cells (cJ n 0) 3 (0, 0)) := by rw [← hw1, ← sZ]; exact o9 w _
  have hb1 : Below w.heap.size w w1 := by rw [← hw1]; exact (Below.refl _ w).alloc (Nat.le_refl _) _
  have hO : pC n 1 w w2 := by
    rw [← hw2]
    exact ⟨below_setRow hb1 (Nat.le_refl _) _, setRow_heap w1 _ _ _ 3 _ hg1⟩
  have hcp : (Builtin.copy_ #[44, 44] 3 #[.slice (some ⟨w.heap.size, 0, none⟩) n n, .slice (some ⟨b, o, none⟩) 1 c]).run Tryd.prog w1 = .ok (goInt 1) w2 := by
    rw [← hw2, ← ta h1]
    exact pw Tryd.underlying44 hsz w1 w.heap.size b o c n n 3 h1 (cJ n 0) 3 hg1 (by have := j3 (n := n) (k := 0) (by omega); simpa using this) _ rfl ((hb1.cell (p := ⟨b, o, none⟩) hb).trans hc)
  have mixed := Tryd.mixed
  go_enter Tryd.func88, Tryd.ntmps88
  go_wp2_with (go_at_call 98; refine (hm _).mono ?_; rintro e w' ⟨rfl, hw⟩; rw [hw])
  clear hmk hm hcp hw1 hw2 hg1
  have HO := Lib.hid hO
  clear hO
  go_loopw [8] (fun i wr => ∃ k : Nat, 1 ≤ k ∧ k ≤ n ∧ i = .int .i64 k ∧ pC n k w wr) (fun i _ => n - (intOf i).toNat)
  case atStart => exact ⟨1, Nat.le_refl _, h1, rfl, HO.out⟩
  case round =>
    obtain ⟨k, hk1, hkn, rfl, hrel⟩ := hrel
    by_cases hlt : k < n
    · have hg := hrel.2
      have hm : Nat.min k (n - k) ≤ k ∧ Nat.min k (n - k) ≤ n - k ∧ 1 ≤ Nat.min k (n - k) := ⟨Nat.min_le_left _ _, Nat.min_le_right _ _, Nat.le_min.2 ⟨hk1, by omega⟩⟩
      have hcp1 : ∀ ty dc sc, (Builtin.copy_ #[44, 44] ty #[.slice (some ⟨w.heap.size, k, none⟩) (n - k) dc, .slice (some ⟨w.heap.size, 0, none⟩) k sc]).run Tryd.prog wr.drew = .ok (goInt (Nat.min k (n - k))) (wr.drew.setRow w.heap.size (cJ n (k + Nat.min k (n - k)))) :=
        fun ty dc sc => pl Tryd.underlying44 hsz wr.drew w.heap.size n k dc sc ty hk1 hlt 3 hg
      have hO2 : pC n (k + Nat.min k (n - k)) w (wr.drew.setRow w.heap.size (cJ n (k + Nat.min k (n - k)))) :=
        ⟨below_setRow (hrel.1.drew) (Nat.le_refl _) _, setRow_heap wr.drew _ _ _ 3 _ hg⟩
      clear hrel hg
      generalize Nat.min k (n - k) = d at *
      obtain ⟨W, hW⟩ : ∃ W, W = wr.drew.setRow w.heap.size (cJ n (k + d)) := ⟨_, rfl⟩
      rw [← hW] at hO2 hcp1
      clear hW
      have hb4 : ¬ (n = k) := by omega
      go_wp2
      go_region_law_o (refine step_copy_runI rfl _ _ 44 44 rfl _ _ (by simp [Act.eval, Act.put]) (by simp [Act.eval, Act.put]) (hcp1 _ _ _) ?_)
      have hwr : IntKind.i64.wrap ((k : Int) + (d : Int)) = ((k + d : Nat) : Int) := by rw [IntKind.wrap_i64]; omega
      simp only [hwr, Act.put, List.setIfInBounds_toArray, ba, bQ]
      clear hwr
      go_roundw
      case rel => exact ⟨_, _, _, _, _, _, _, _, _, _, _, _, _, _, ⟨k + d, by omega, by omega, rfl, hO2⟩, rfl⟩
      case measure => show n - (((k + d : Nat) : Int)).toNat < n - ((k : Int)).toNat; omega
    · obtain rfl : k = n := by omega
      go_wp2
      go_ret
      exact ⟨rfl, hrel⟩

theorem sE (n : Nat) (h1 : 1 ≤ n) (hn : n ≤ 1000) : tv Tryd.prog 88 [.one (.list (.int .i64) [-1]), .one (.int .i64 (n : Int))] (.int .i64) 3 (List.replicate n (-1)) := by
  refine ⟨⟨Tryd.f88, Tryd.func88, by kernel_rfl, by kernel_rfl⟩, fun C L σ w vs hP hi ha => ?_⟩
  match vs, ha with
  | [v1, v2], ⟨h2, h3, _⟩ =>
  have e2 : v2 = .int .i64 n := h3.2
  subst e2
  have hd : Dat (avd C L σ) w (.list (.int .i64)) [-1] [v1] := h2.2
  simp only [Dat] at hd
  obtain ⟨A, c, e1, _, _, hr⟩ := hd
  obtain ⟨b, o, rfl, _, _, hc⟩ := hr (by simp)
  obtain ⟨cs, l1, l2, l3⟩ := hc 0 (by simp)
  obtain rfl : v1 = .slice (some ⟨b, o, none⟩) 1 c := by simpa using e1
  have l4 := l2 0 (by decide)
  have l5 : cs = [.int .i64 (-1)] := l3
  rw [l5] at l4
  have l6 : w.cell? ⟨b, o, none⟩ = some (.int .i64 (-1)) := by simpa [Ty.size] using l4
  refine (sC b o c n w h1 hn l6).mono fun e w' hh => ?_
  obtain ⟨rfl, hb, hg⟩ := hh
  refine ⟨_, (cJ n n).toList, rfl, ⟨hb.size, hb.os, hb.tape, hb.output, hb.block⟩, ?_, by decide, fun i hi => ?_⟩
  · have hl := j3 (Nat.le_refl n)
    refine ⟨by rw [hl]; simp [Ty.size], .inr ⟨w.heap.size, n, _, by simp, Nat.le_refl _, hg, by simp, by unfold maxLen; omega, ?_, ?_⟩⟩
    · simpa [Ty.size] using hl
    · simp only [aH, Ty.size, Nat.mul_one]; rw [List.take_of_length_le (by omega)]
  · have hi2 : i < n := by simpa using hi
    have e : ((cJ n n).toList.drop (i * 1)).take 1 = [Value.int .i64 (-1)] := by
      have e2 : (cJ n n).toList = List.replicate n (Value.int .i64 (-1)) := by unfold cJ; simp
      rw [e2, Nat.mul_one, List.drop_replicate, show n - i = (n - i - 1) + 1 by omega, List.replicate_succ]; rfl
    show Dat _ _ (.int .i64) _ (((cJ n n).toList.drop (i * 1)).take 1)
    rw [e]
    show [Value.int .i64 (-1)] = [Value.int .i64 ((List.replicate n (-1 : Int)).getD i 0)]
    simp [List.getD, hi2]
end
theorem pK (L0 : List AO) (st : Int) (inp : Nat) (hs1 : 0 ≤ st) (hs2 : st ≤ 1000) (hi1 : 1 ≤ inp) (hi2 : inp ≤ 1000) : dR Tryd.prog L0 73 [.one (.int .i64 st), .one (.int .i64 (inp : Int))] { av := .one (.rwc L0.length 0), new := cK 44 3 L0.length (List.replicate st.toNat (List.replicate inp (-1))), fp := List.range L0.length } := by
 refine eQ _ _ Tryd.func73 rfl (by kernel_rfl) (Nat.le_of_ble_eq_true rfl) (by intro k hk; exact List.mem_range.2 hk) (fun C hP hN hB => ?_)
 replace hB : C.bL.length = L0.length := by rw [hB]; skip
 replace hN : C.N = 22 := hN
 simp only [aT, E]
 refine ab fun _ k1 => ?_
 refine af hP hN rfl ?_
 (refine aa rfl fun _ k0 => ?_; simp only [zO, zT, acs, reduceCtorEq, M, E, O, Z, Y, V]; (repeat refine an ?_); (try refine .inl ?_); apply k0; clear k0; simp only [zP, E])
 refine ae ?_
 apply k1; clear k1; refine kp [0, 1, 4] ?_
 refine ab fun _ k2 => ?_
 refine af hP hN rfl ?_
 (refine aa rfl fun _ k0 => ?_; simp only [zO, zT, acs, reduceCtorEq, M, E, O, Z, Y, V, ag, ak, ay]; (repeat refine an ?_); (try refine .inl ?_); apply k0; clear k0; simp only [zP, E])
 (refine aa rfl fun _ k0 => ?_; simp only [zE, op1, ev, lkp, cW, bq, dT, aV, Ty.size, Ty.dflt, reduceCtorEq, M, E, O, Z, Y, V, Tryd.el25, Tryd.td25, ag, ak, ay]; (repeat refine an ?_); refine Or.inr (Or.inl (k0 _ ?_)); clear k0; simp only [zP, E])
 (refine aa rfl fun _ k0 => ?_; simp only [zO, zT, acs, reduceCtorEq, M, E, O, Z, Y, V, ag, ak, ay]; (repeat refine an ?_); (try refine .inl ?_); apply k0; clear k0; simp only [zP, E])
 refine ae ?_
 apply k2; clear k2; refine kp [0, 1, 4, 5] ?_
 refine ab fun _ k3 => ?_
 refine ab fun _ k4 => ?_
 rw [nS, ← tg L0 44 3 st.toNat]
 have hlc := mc (b := L0.length + 1) (Nat.zero_le st.toNat)
 refine af hP hN rfl ?_
 iterate 3 (refine aa rfl fun _ k0 => ?_; simp only [zO, zT, acs, reduceCtorEq, M, E, O, Z, Y, V, iu, hlc, Nat.div_one]; (repeat refine an ?_); (try refine .inl ?_); apply k0; clear k0; simp only [zP, E])
 refine ae ?_
 apply k4; clear k4; refine kp [0, 1, 4, 5, 10, 11] ?_
 refine aD ?_
 refine bu (fun n5 s5 => ∃ (k : Nat), (k ≤ st.toNat) ∧ n5 = st.toNat - k ∧ s5 = { env := [(1, .one (.int .i64 (inp : Int))), (4, .one .nils), (5, .one (.rwc L0.length 0)), (10, .one (.int .i64 st)), (11, .one (.int .i64 (k : Int)))], L := et L0 44 3 st.toNat k (List.replicate k (List.replicate inp (-1))) }) ?_ ?_
 ·exact ⟨_, _, aM [1, 4, 5, 10, 11], 0, Nat.zero_le _, rfl, by rw [show (st.toNat : Int) = st by omega]; rfl⟩
 rintro n5 s5 ⟨k, hk, rfl, rfl⟩
 refine ab fun _ k6 => ?_
 refine af hP hN rfl ?_
 (refine aa rfl fun _ k0 => ?_; simp only [zO, zT, acs, reduceCtorEq, M, E, O, Z, Y, V]; (repeat refine an ?_); (try refine .inl ?_); apply k0; clear k0; simp only [zP, E])
 refine ae ?_
 apply k6; clear k6; refine kp [1, 4, 5, 10, 11, 12] ?_
 refine ab fun _ k7 => ?_
 refine cd (fun hc8 => ?_) (fun hc8 => ?_)
 ·(try simp only [zB, reduceCtorEq] at hc8)
  refine ax ?_
  apply k7; clear k7; refine kp [1, 4, 5, 10, 11, 12] ?_
  refine ab fun _ k9 => ?_
  refine aD ?_
  refine ab fun _ k10 => ?_
  refine af hP hN rfl ?_
  iterate 2 (refine aa rfl fun _ k0 => ?_; simp only [zO, zT, acs, reduceCtorEq, M, E, O, Z, Y, V]; (repeat refine an ?_); (try refine .inl ?_); apply k0; clear k0; simp only [zP, E])
  refine ae ?_
  apply k10; clear k10; refine kp [1, 4, 5, 6, 10, 11, 12] ?_
  have hlc := mc (b := L0.length + 1) (show k ≤ st.toNat by omega)
  have hst := rh L0 44 3 (n := st.toNat) (k := k) (List.replicate (k + 1) (List.replicate inp (-1))) (by omega)
  have hrr : List.replicate k (List.replicate inp (-1 : Int)) ++ [List.replicate inp (-1)] = List.replicate (k + 1) (List.replicate inp (-1)) := by rw [show [List.replicate inp (-1 : Int)] = List.replicate 1 (List.replicate inp (-1)) from rfl, List.replicate_append_replicate]
  refine af hP hN rfl ?_
  iterate 4 (refine aa rfl fun _ k0 => ?_; simp only [zO, zT, acs, reduceCtorEq, M, E, O, Z, Y, V, iu, iO, aH, hlc, aJ, Nat.add_zero]; (repeat refine an ?_); (try refine .inl ?_); apply k0; clear k0; simp only [zP, E, je, hrr, hst, aH])
  refine aa rfl fun _ k0 => ?_
  refine aw (h := p6 (sE inp hi1 hi2)) rfl rfl (by first | exact rfl | (simp only [ev, zP, M, E]; exact rfl)) (by simp only [zV, acs, reduceCtorEq, M, E, O, Z, Y, V, iu, iO, aH, hlc, aJ, Nat.add_zero]) ?_
  apply k0; clear k0; simp only [zP, E, je, hrr, hst, aH]
  iterate 2 (refine aa rfl fun _ k0 => ?_; simp only [zO, zT, acs, reduceCtorEq, M, E, O, Z, Y, V, iu, iO, aH, hlc, aJ, Nat.add_zero]; (repeat refine an ?_); (try refine .inl ?_); apply k0; clear k0; simp only [zP, E, je, hrr, hst, aH])
  refine ae ?_
  apply k9; clear k9; refine kp [1, 4, 5, 6, 10, 11, 12] ?_
  refine af hP hN rfl ?_
  iterate 2 (refine aa rfl fun _ k0 => ?_; simp only [zO, zT, acs, reduceCtorEq, M, E, O, Z, Y, V]; (repeat refine an ?_); (try refine .inl ?_); apply k0; clear k0; simp only [zP, E])
  refine ae ?_
  refine ⟨_, _, ?_, aM [1, 4, 5, 10, 11], k + 1, by omega, rfl, by rw [← hst]; rfl⟩
  omega
 (try simp only [zB, reduceCtorEq] at hc8)
 refine bv ?_
 apply k3; clear k3; refine kp [1, 4, 5, 10, 11, 12] ?_
 refine ab fun _ k11 => ?_
 refine af hP hN rfl ?_
 iterate 2 (refine aa rfl fun _ k0 => ?_; simp only [zO, zT, acs, reduceCtorEq, M, E, O, Z, Y, V]; (repeat refine an ?_); (try refine .inl ?_); apply k0; clear k0; simp only [zP, E])
 refine ae ?_
 apply k11; clear k11; refine kp [1, 4, 5, 10, 11, 12] ?_
 refine aq ?_
 refine ⟨by first | exact .inl rfl | exact .inr rfl, _, rfl, ?_⟩; simp only [zP, M, E]
 obtain rfl : k = st.toNat := by omega
 rw [qN L0 _ _ _ _ (aH ..)]
 all_goals rfl
set_option maxHeartbeats 1000000 in
theorem s6 (r : RS) (a b : AC) (U : List AO) (l : List Bs) (hl : l.length ≤ 1000000) (hi : 1 ≤ r.ins.length ∧ r.ins.length ≤ 64) : dR Tryd.prog (.vars 56 [.str r.nm, .list .str r.ins, .list .str r.outs, .int .i64 r.inp, .int .i64 r.st, a, b, .list .str r.sts, .int .i64 (r.rd : Int), .int .i64 r.lf] :: U) 51 [.one (.ptr 0 0 0 0), .one (.list .str l)] { av := .one (.int .i64 (dh l)), upd := eP (U.length + 1) (iN 56 44 3 r a b U l), new := (iN 56 44 3 r a b U l).drop (U.length + 1), fp := List.range (U.length + 1) } := by
 refine eQ _ _ Tryd.func51 rfl (by kernel_rfl) (Nat.le_of_ble_eq_true rfl) (by intro k hk; exact List.mem_range.2 hk) (fun C hP hN hB => ?_)
 replace hB : C.bL.length = U.length + 1 := by rw [hB]; rfl
 replace hN : C.N = 64 := hN
 simp only [aT, E]
 refine ab fun _ k1 => ?_
 refine af hP hN rfl ?_
 (refine aa rfl fun _ k0 => ?_; simp only [zO, zT, acs, reduceCtorEq, M, E, O, Z, Y, V]; (repeat refine an ?_); (try refine .inl ?_); apply k0; clear k0; simp only [zP, E])
 refine ae ?_
 apply k1; clear k1; refine kp [0, 1, 4] ?_
 refine ab fun _ k2 => ?_
 refine aD ?_
 refine ab fun _ k3 => ?_
 refine af hP hN rfl ?_
 iterate 4 (refine aa rfl fun _ k0 => ?_; simp only [zO, zT, acs, reduceCtorEq, M, E, O, Z, Y, V]; (repeat refine an ?_); (try refine .inl ?_); apply k0; clear k0; simp only [zP, E])
 refine ae ?_
 apply k3; clear k3; refine kp [0, 1, 4, 8] ?_
 refine cd (fun hc4 => ?_) (fun hc4 => ?_)
 ·(try simp only [zB, reduceCtorEq] at hc4)
  refine ab fun _ k5 => ?_
  refine af hP hN rfl ?_
  (refine aa rfl fun _ k0 => ?_; simp only [zO, zT, acs, reduceCtorEq, M, E, O, Z, Y, V]; (repeat refine an ?_); (try refine .inl ?_); apply k0; clear k0; simp only [zP, E])
  refine ae ?_
  apply k5; clear k5; refine kp [0, 1, 4, 8] ?_
  refine aq ?_
  refine ⟨by first | exact .inl rfl | exact .inr rfl, _, rfl, ?_⟩; simp only [zP, M, E]
  have hU := aC (bY (R := 56) (S := 44) (I := 3) (r := r) (a := a) (b := b) (U := U) (l := l) (x := .vars 56 [.str r.nm, .list .str r.ins, .list .str r.outs, .int .i64 r.inp, .int .i64 r.st, a, b, .list .str r.sts, .int .i64 (r.rd : Int), .int .i64 r.lf]))
  simp only [ak] at hU
  rw [hU]
  first
  | (have hE := lu (l := l) (by omega)
     rw [bp hE (by decide), hE]; all_goals exact ⟨rfl, rfl⟩)
  | (have hE := fW (l := l) (by omega) (by omega)
     rw [bp hE (by decide), hE]; all_goals exact ⟨rfl, rfl⟩)
  | (have hE := lI (l := l) (by omega) (by omega) (k := k) (by omega) hq hbad
     rw [bp hE (by decide), hE]; all_goals exact ⟨rfl, rfl⟩)
  | (have hE := ll (l := l) (by omega) (by omega) (k := k) (by omega) hq hgood hin
     rw [bp hE (by decide), hE]; all_goals exact ⟨rfl, rfl⟩)
  | (have hE := ga (l := l) (by omega) (by omega) fun q hq2 => hq q (by omega)
     have e9 : (U ++ cK 44 3 (U.length + 1) (List.replicate l.length (List.replicate r.ins.length (-1)))).length + 1 = U.length + 2 + l.length := by rw [ag, dZ, aH]; omega
     rw [e9, eR hE, hE]; all_goals exact ⟨rfl, rfl⟩)
 (try simp only [zB, reduceCtorEq] at hc4)
 refine ab fun _ k6 => ?_
 refine af hP hN rfl ?_
 iterate 4 (refine aa rfl fun _ k0 => ?_; simp only [zO, zT, acs, reduceCtorEq, M, E, O, Z, Y, V]; (repeat refine an ?_); (try refine .inl ?_); apply k0; clear k0; simp only [zP, E])
 refine ae ?_
 apply k6; clear k6; refine kp [0, 1, 4, 8, 12] ?_
 refine cd (fun hc7 => ?_) (fun hc7 => ?_)
 ·(try simp only [zB, reduceCtorEq] at hc7)
  refine ab fun _ k8 => ?_
  refine af hP hN rfl ?_
  (refine aa rfl fun _ k0 => ?_; simp only [zO, zT, acs, reduceCtorEq, M, E, O, Z, Y, V]; (repeat refine an ?_); (try refine .inl ?_); apply k0; clear k0; simp only [zP, E])
  refine ae ?_
  apply k8; clear k8; refine kp [0, 1, 4, 8, 12] ?_
  refine aq ?_
  refine ⟨by first | exact .inl rfl | exact .inr rfl, _, rfl, ?_⟩; simp only [zP, M, E]
  have hU := aC (bY (R := 56) (S := 44) (I := 3) (r := r) (a := a) (b := b) (U := U) (l := l) (x := .vars 56 [.str r.nm, .list .str r.ins, .list .str r.outs, .int .i64 r.inp, .int .i64 r.st, a, b, .list .str r.sts, .int .i64 (r.rd : Int), .int .i64 r.lf]))
  simp only [ak] at hU
  rw [hU]
  first
  | (have hE := lu (l := l) (by omega)
     rw [bp hE (by decide), hE]; all_goals exact ⟨rfl, rfl⟩)
  | (have hE := fW (l := l) (by omega) (by omega)
     rw [bp hE (by decide), hE]; all_goals exact ⟨rfl, rfl⟩)
  | (have hE := lI (l := l) (by omega) (by omega) (k := k) (by omega) hq hbad
     rw [bp hE (by decide), hE]; all_goals exact ⟨rfl, rfl⟩)
  | (have hE := ll (l := l) (by omega) (by omega) (k := k) (by omega) hq hgood hin
     rw [bp hE (by decide), hE]; all_goals exact ⟨rfl, rfl⟩)
  | (have hE := ga (l := l) (by omega) (by omega) fun q hq2 => hq q (by omega)
     have e9 : (U ++ cK 44 3 (U.length + 1) (List.replicate l.length (List.replicate r.ins.length (-1)))).length + 1 = U.length + 2 + l.length := by rw [ag, dZ, aH]; omega
     rw [e9, eR hE, hE]; all_goals exact ⟨rfl, rfl⟩)
 (try simp only [zB, reduceCtorEq] at hc7)
 refine ax ?_
 apply k2; clear k2; refine kp [0, 1, 4, 8, 12] ?_
 refine ab fun _ k9 => ?_
 refine ab fun _ k10 => ?_
 refine af hP hN rfl ?_
 iterate 3 (refine aa rfl fun _ k0 => ?_; simp only [zO, zT, acs, reduceCtorEq, M, E, O, Z, Y, V]; (repeat refine an ?_); (try refine .inl ?_); apply k0; clear k0; simp only [zP, E])
 refine ae ?_
 apply k10; clear k10; refine kp [0, 1, 4, 8, 12, 16, 17, 18] ?_
 refine aD ?_
 refine bu (fun n11 s11 => ∃ (k : Nat), (k ≤ l.length) ∧ (∀ q, q < k → nmE l q = 0) ∧ n11 = l.length - k ∧ s11 = { env := [(0, .one (.ptr 0 0 0 0)), (1, .one (.list .str l)), (4, .one (.int .i64 0)), (16, .one (.list .str l)), (17, .one (.int .i64 (l.length : Int))), (18, .one (.int .i64 (k : Int)))], L := (.vars 56 [.str r.nm, .list .str r.ins, .list .str r.outs, .int .i64 r.inp, .int .i64 r.st, a, b, .list .str r.sts, .int .i64 (r.rd : Int), .int .i64 r.lf] :: U) }) ?_ ?_
 ·exact ⟨_, _, aM [0, 1, 4, 16, 17, 18], 0, Nat.zero_le _, fun q hq => by omega, rfl, rfl⟩
 rintro n11 s11 ⟨k, hk, hq, rfl, rfl⟩
 refine ab fun _ k12 => ?_
 refine af hP hN rfl ?_
 (refine aa rfl fun _ k0 => ?_; simp only [zO, zT, acs, reduceCtorEq, M, E, O, Z, Y, V]; (repeat refine an ?_); (try refine .inl ?_); apply k0; clear k0; simp only [zP, E])
 refine ae ?_
 apply k12; clear k12; refine kp [0, 1, 4, 16, 17, 18, 19] ?_
 refine ab fun _ k13 => ?_
 refine cd (fun hc14 => ?_) (fun hc14 => ?_)
 ·(try simp only [zB, reduceCtorEq] at hc14)
  refine ax ?_
  apply k13; clear k13; refine kp [0, 1, 4, 16, 17, 18, 19] ?_
  refine ab fun _ k15 => ?_
  refine aD ?_
  refine ab fun _ k16 => ?_
  refine af hP hN rfl ?_
  iterate 5 (refine aa rfl fun _ k0 => ?_; simp only [zO, zT, acs, reduceCtorEq, M, E, O, Z, Y, V]; (repeat refine an ?_); (try refine .inl ?_); apply k0; clear k0; simp only [zP, E])
  refine ae ?_
  apply k16; clear k16; refine kp [0, 1, 4, 5, 6, 16, 17, 18, 19] ?_
  refine ab fun _ k17 => ?_
  refine ab fun _ k18 => ?_
  refine af hP hN rfl ?_
  (refine aa rfl fun _ k0 => ?_; simp only [zO, zT, acs, reduceCtorEq, M, E, O, Z, Y, V]; (repeat refine an ?_); (try refine .inl ?_); apply k0; clear k0; simp only [zP, E])
  refine aa rfl fun _ k0 => ?_
  refine aw (h := aj (jX (l.getD k []))) rfl rfl (by first | exact rfl | (simp only [ev, zP, M, E]; exact rfl)) (by simp only [zV, acs, reduceCtorEq, M, E, O, Z, Y, V]) ?_
  apply k0; clear k0; simp only [zP, E]
  (refine aa rfl fun _ k0 => ?_; simp only [zO, zT, acs, reduceCtorEq, M, E, O, Z, Y, V]; (repeat refine an ?_); (try refine .inl ?_); apply k0; clear k0; simp only [zP, E])
  refine ae ?_
  apply k18; clear k18; refine kp [0, 1, 4, 5, 6, 16, 17, 18, 19, 25] ?_
  refine cd (fun hc19 => ?_) (fun hc19 => ?_)
  ·(try simp only [zB, reduceCtorEq] at hc19)
   have hbad : aX (l.getD k []) = false := by simpa using hc19
   refine ab fun _ k20 => ?_
   refine af hP hN rfl ?_
   (refine aa rfl fun _ k0 => ?_; simp only [zO, zT, acs, reduceCtorEq, M, E, O, Z, Y, V]; (repeat refine an ?_); (try refine .inl ?_); apply k0; clear k0; simp only [zP, E])
   refine ae ?_
   apply k20; clear k20; refine kp [0, 1, 4, 5, 6, 16, 17, 18, 19, 25] ?_
   refine aq ?_
   refine ⟨by first | exact .inl rfl | exact .inr rfl, _, rfl, ?_⟩; simp only [zP, M, E]
   have hU := aC (bY (R := 56) (S := 44) (I := 3) (r := r) (a := a) (b := b) (U := U) (l := l) (x := .vars 56 [.str r.nm, .list .str r.ins, .list .str r.outs, .int .i64 r.inp, .int .i64 r.st, a, b, .list .str r.sts, .int .i64 (r.rd : Int), .int .i64 r.lf]))
   simp only [ak] at hU
   rw [hU]
   first
   | (have hE := lu (l := l) (by omega)
      rw [bp hE (by decide), hE]; all_goals exact ⟨rfl, rfl⟩)
   | (have hE := fW (l := l) (by omega) (by omega)
      rw [bp hE (by decide), hE]; all_goals exact ⟨rfl, rfl⟩)
   | (have hE := lI (l := l) (by omega) (by omega) (k := k) (by omega) hq hbad
      rw [bp hE (by decide), hE]; all_goals exact ⟨rfl, rfl⟩)
   | (have hE := ll (l := l) (by omega) (by omega) (k := k) (by omega) hq hgood hin
      rw [bp hE (by decide), hE]; all_goals exact ⟨rfl, rfl⟩)
   | (have hE := ga (l := l) (by omega) (by omega) fun q hq2 => hq q (by omega)
      have e9 : (U ++ cK 44 3 (U.length + 1) (List.replicate l.length (List.replicate r.ins.length (-1)))).length + 1 = U.length + 2 + l.length := by rw [ag, dZ, aH]; omega
      rw [e9, eR hE, hE]; all_goals exact ⟨rfl, rfl⟩)
  (try simp only [zB, reduceCtorEq] at hc19)
  have hgood : aX (l.getD k []) = true := by simpa using hc19
  refine ax ?_
  apply k17; clear k17; refine kp [0, 1, 4, 5, 6, 16, 17, 18, 19, 25] ?_
  refine ab fun _ k21 => ?_
  refine af hP hN rfl ?_
  iterate 2 (refine aa rfl fun _ k0 => ?_; simp only [zO, zT, acs, reduceCtorEq, M, E, O, Z, Y, V, List.drop_zero, aJ, Int.toNat_zero]; (repeat refine an ?_); (try refine .inl ?_); apply k0; clear k0; simp only [zP, E])
  (refine aa rfl fun _ k0 => ?_; simp only [zE, op1, ev, lkp, cW, bq, cr, bnd, Ty.size, reduceCtorEq, M, E, O, Z, Y, V, Tryd.el22, Tryd.td22, Tryd.td3, Tryd.td9, List.drop_zero, aJ, Int.toNat_zero]; (repeat refine an ?_); (try refine .inl ?_); apply k0; clear k0; simp only [zP, E])
  (refine aa rfl fun _ k0 => ?_; simp only [zO, zT, acs, reduceCtorEq, M, E, O, Z, Y, V, List.drop_zero, aJ, Int.toNat_zero]; (repeat refine an ?_); (try refine .inl ?_); apply k0; clear k0; simp only [zP, E])
  refine aa rfl fun _ k0 => ?_
  refine aw (h := aj (fv (l.take k) (l.getD k []))) rfl rfl (by first | exact rfl | (simp only [ev, zP, M, E]; exact rfl)) (by simp only [zV, acs, reduceCtorEq, M, E, O, Z, Y, V, List.drop_zero, aJ, Int.toNat_zero]) ?_
  apply k0; clear k0; simp only [zP, E]
  refine ae ?_
  apply k21; clear k21; refine kp [0, 1, 4, 5, 6, 16, 17, 18, 19, 25, 30] ?_
  refine cd (fun hc22 => ?_) (fun hc22 => ?_)
  ·(try simp only [zB, reduceCtorEq] at hc22)
   have hin : l.getD k [] ∈ l.take k := by simpa using hc22
   refine ab fun _ k23 => ?_
   refine af hP hN rfl ?_
   (refine aa rfl fun _ k0 => ?_; simp only [zO, zT, acs, reduceCtorEq, M, E, O, Z, Y, V]; (repeat refine an ?_); (try refine .inl ?_); apply k0; clear k0; simp only [zP, E])
   refine ae ?_
   apply k23; clear k23; refine kp [0, 1, 4, 5, 6, 16, 17, 18, 19, 25, 30] ?_
   refine aq ?_
   refine ⟨by first | exact .inl rfl | exact .inr rfl, _, rfl, ?_⟩; simp only [zP, M, E]
   have hU := aC (bY (R := 56) (S := 44) (I := 3) (r := r) (a := a) (b := b) (U := U) (l := l) (x := .vars 56 [.str r.nm, .list .str r.ins, .list .str r.outs, .int .i64 r.inp, .int .i64 r.st, a, b, .list .str r.sts, .int .i64 (r.rd : Int), .int .i64 r.lf]))
   simp only [ak] at hU
   rw [hU]
   first
   | (have hE := lu (l := l) (by omega)
      rw [bp hE (by decide), hE]; all_goals exact ⟨rfl, rfl⟩)
   | (have hE := fW (l := l) (by omega) (by omega)
      rw [bp hE (by decide), hE]; all_goals exact ⟨rfl, rfl⟩)
   | (have hE := lI (l := l) (by omega) (by omega) (k := k) (by omega) hq hbad
      rw [bp hE (by decide), hE]; all_goals exact ⟨rfl, rfl⟩)
   | (have hE := ll (l := l) (by omega) (by omega) (k := k) (by omega) hq hgood hin
      rw [bp hE (by decide), hE]; all_goals exact ⟨rfl, rfl⟩)
   | (have hE := ga (l := l) (by omega) (by omega) fun q hq2 => hq q (by omega)
      have e9 : (U ++ cK 44 3 (U.length + 1) (List.replicate l.length (List.replicate r.ins.length (-1)))).length + 1 = U.length + 2 + l.length := by rw [ag, dZ, aH]; omega
      rw [e9, eR hE, hE]; all_goals exact ⟨rfl, rfl⟩)
  (try simp only [zB, reduceCtorEq] at hc22)
  have hnin : l.getD k [] ∉ l.take k := by simpa using hc22
  refine ax ?_
  apply k15; clear k15; refine kp [0, 1, 4, 5, 6, 16, 17, 18, 19, 25, 30] ?_
  refine af hP hN rfl ?_
  iterate 2 (refine aa rfl fun _ k0 => ?_; simp only [zO, zT, acs, reduceCtorEq, M, E, O, Z, Y, V]; (repeat refine an ?_); (try refine .inl ?_); apply k0; clear k0; simp only [zP, E])
  refine ae ?_
  refine ⟨_, _, ?_, aM [0, 1, 4, 16, 17, 18], k + 1, by omega, fun q hq2 => ?_, rfl, rfl⟩
  · omega
  · by_cases e : q = k
    · rw [e]; exact ke hgood hnin
    · exact hq q (by omega)
 (try simp only [zB, reduceCtorEq] at hc14)
 refine bv ?_
 apply k9; clear k9; refine kp [0, 1, 4, 16, 17, 18, 19] ?_
 refine ab fun _ k24 => ?_
 refine af hP hN rfl ?_
 iterate 8 (refine aa rfl fun _ k0 => ?_; simp only [zO, zT, acs, reduceCtorEq, M, E, O, Z, Y, V]; (repeat refine an ?_); (try refine .inl ?_); apply k0; clear k0; simp only [zP, E])
 refine ae ?_
 apply k24; clear k24; refine kp [0, 1, 4, 7, 16, 17, 18, 19] ?_
 refine ab fun _ k25 => ?_
 refine af hP hN rfl ?_
 iterate 5 (refine aa rfl fun _ k0 => ?_; simp only [zO, zT, acs, reduceCtorEq, M, E, O, Z, Y, V]; (repeat refine an ?_); (try refine .inl ?_); apply k0; clear k0; simp only [zP, E])
 refine ae ?_
 apply k25; clear k25; refine kp [0, 1, 4, 7, 16, 17, 18, 19] ?_
 refine ab fun _ k26 => ?_
 have hmu : (l.length : Int) * r.ins.length ≤ 128 * 64 := Int.mul_le_mul (by omega) (by omega) (by omega) (by omega)
 have hm0 : (0 : Int) ≤ (l.length : Int) * r.ins.length := Int.mul_nonneg (by omega) (by omega)
 refine af hP hN rfl ?_
 iterate 8 (refine aa rfl fun _ k0 => ?_; simp only [zO, zT, acs, reduceCtorEq, M, E, O, Z, Y, V]; (repeat refine an ?_); (try refine .inl ?_); apply k0; clear k0; simp only [zP, E])
 refine ae ?_
 apply k26; clear k26; refine kp [0, 1, 4, 7, 16, 17, 18, 19] ?_
 refine ab fun _ k27 => ?_
 refine af hP hN rfl ?_
 iterate 5 (refine aa rfl fun _ k0 => ?_; simp only [zO, zT, acs, reduceCtorEq, M, E, O, Z, Y, V]; (repeat refine an ?_); (try refine .inl ?_); apply k0; clear k0; simp only [zP, E])
 refine aa rfl fun _ k0 => ?_
 refine aw (h := pK _ (l.length : Int) r.ins.length (by omega) (by omega) (by omega) (by omega)) rfl rfl (by first | exact rfl | (simp only [ev, zP, M, E]; exact rfl)) (by simp only [zV, acs, reduceCtorEq, M, E, O, Z, Y, V]) ?_
 apply k0; clear k0; simp only [zP, E]
 iterate 3 (refine aa rfl fun _ k0 => ?_; simp only [zO, zT, acs, reduceCtorEq, M, E, O, Z, Y, V]; (repeat refine an ?_); (try refine .inl ?_); apply k0; clear k0; simp only [zP, E])
 refine aa rfl fun _ k0 => ?_
 refine aw (h := pK _ (l.length : Int) r.ins.length (by omega) (by omega) (by omega) (by omega)) rfl rfl (by first | exact rfl | (simp only [ev, zP, M, E]; exact rfl)) (by simp only [zV, acs, reduceCtorEq, M, E, O, Z, Y, V]) ?_
 apply k0; clear k0; simp only [zP, E]
 iterate 5 (refine aa rfl fun _ k0 => ?_; simp only [zO, zT, acs, reduceCtorEq, M, E, O, Z, Y, V]; (repeat refine an ?_); (try refine .inl ?_); apply k0; clear k0; simp only [zP, E])
 refine ae ?_
 apply k27; clear k27; refine kp [0, 1, 4, 7, 16, 17, 18, 19] ?_
 refine ab fun _ k28 => ?_
 refine af hP hN rfl ?_
 (refine aa rfl fun _ k0 => ?_; simp only [zO, zT, acs, reduceCtorEq, M, E, O, Z, Y, V]; (repeat refine an ?_); (try refine .inl ?_); apply k0; clear k0; simp only [zP, E])
 refine ae ?_
 apply k28; clear k28; refine kp [0, 1, 4, 7, 16, 17, 18, 19] ?_
 refine aq ?_
 refine ⟨by first | exact .inl rfl | exact .inr rfl, _, rfl, ?_⟩; simp only [zP, M, E]
 have hU := aC (bY (R := 56) (S := 44) (I := 3) (r := r) (a := a) (b := b) (U := U) (l := l) (x := .vars 56 [.str r.nm, .list .str r.ins, .list .str r.outs, .int .i64 r.inp, .int .i64 r.st, a, b, .list .str r.sts, .int .i64 (r.rd : Int), .int .i64 r.lf]))
 simp only [ak] at hU
 rw [hU]
 first
 | (have hE := lu (l := l) (by omega)
    rw [bp hE (by decide), hE]; all_goals exact ⟨rfl, rfl⟩)
 | (have hE := fW (l := l) (by omega) (by omega)
    rw [bp hE (by decide), hE]; all_goals exact ⟨rfl, rfl⟩)
 | (have hE := lI (l := l) (by omega) (by omega) (k := k) (by omega) hq hbad
    rw [bp hE (by decide), hE]; all_goals exact ⟨rfl, rfl⟩)
 | (have hE := ll (l := l) (by omega) (by omega) (k := k) (by omega) hq hgood hin
    rw [bp hE (by decide), hE]; all_goals exact ⟨rfl, rfl⟩)
 | (have hE := ga (l := l) (by omega) (by omega) fun q hq2 => hq q (by omega)
    have e9 : (U ++ cK 44 3 (U.length + 1) (List.replicate l.length (List.replicate r.ins.length (-1)))).length + 1 = U.length + 2 + l.length := by rw [ag, dZ, aH]; omega
    rw [e9, eR hE, hE]; all_goals exact ⟨rfl, rfl⟩)
set_option maxHeartbeats 1000000 in
theorem sI (r : RS) (a b : AC) (U : List AO) (w : List Bs) (hl : w.length ≤ 1000000) (h0 : 0 < w.length) (hr : r.rd < 5) (hi : r.rd = 3 → 1 ≤ r.ins.length ∧ r.ins.length ≤ 64) : dR Tryd.prog (.vars 56 [.str r.nm, .list .str r.ins, .list .str r.outs, .int .i64 r.inp, .int .i64 r.st, a, b, .list .str r.sts, .int .i64 (r.rd : Int), .int .i64 r.lf] :: U) 38 [.one (.ptr 0 0 0 0), .one (.list .str w)] { av := .one (.int .i64 (b0 r w).2), upd := eP (U.length + 1) (eJ 56 44 3 r a b U w), new := (eJ 56 44 3 r a b U w).drop (U.length + 1), fp := List.range (U.length + 1) } := by
 refine eQ _ _ Tryd.func38 rfl (by kernel_rfl) (Nat.le_of_ble_eq_true rfl) (by intro k hk; exact List.mem_range.2 hk) (fun C hP hN hB => ?_)
 replace hB : C.bL.length = U.length + 1 := by rw [hB]; rfl
 replace hN : C.N = 114 := hN
 simp only [aT, E]
 refine ab fun _ k1 => ?_
 refine af hP hN rfl ?_
 (refine aa rfl fun _ k0 => ?_; simp only [zO, zT, acs, reduceCtorEq, M, E, O, Z, Y, V, Int.toNat_one]; (repeat refine an ?_); (try refine .inl ?_); apply k0; clear k0; simp only [zP, E])
 refine ae ?_
 apply k1; clear k1; refine kp [0, 1, 4] ?_
 refine ab fun _ k2 => ?_
 have hk4 : r.rd ≤ 4 := by omega
 have htk : [AC.str [109, 97, 99, 104, 105, 110, 101], AC.str [105, 110, 112, 117, 116, 115], AC.str [111, 117, 116, 112, 117, 116, 115], AC.str [115, 116, 97, 116, 101, 115], AC.str [115, 116, 97, 114, 116]][r.rd]? = some (AC.str (kwd r.rd)) := by rcases (show r.rd = 0 ∨ r.rd = 1 ∨ r.rd = 2 ∨ r.rd = 3 ∨ r.rd = 4 by omega) with e | e | e | e | e <;> rw [e] <;> rfl
 refine af hP hN rfl ?_
 iterate 7 (refine aa rfl fun _ k0 => ?_; simp only [zO, zT, acs, reduceCtorEq, M, E, O, Z, Y, V, Int.toNat_one, htk]; (repeat refine an ?_); (try refine .inl ?_); apply k0; clear k0; simp only [zP, E])
 refine ae ?_
 apply k2; clear k2; refine kp [0, 1, 4, 5] ?_
 refine ab fun _ k3 => ?_
 refine af hP hN rfl ?_
 iterate 6 (refine aa rfl fun _ k0 => ?_; simp only [zO, zT, acs, reduceCtorEq, M, E, O, Z, Y, V, Int.toNat_one]; (repeat refine an ?_); (try refine .inl ?_); apply k0; clear k0; simp only [zP, E])
 refine' ar (want := false) 5 rfl (m := 18) (by simp only [zP, M, E]; exact rfl) (by kernel_rfl) rfl rfl rfl rfl rfl (fun hg4 => ?a4) ?b4 ?c4
 case a4 =>
  have hq4 := hg4; (try simp only [zB, reduceCtorEq] at hg4); simp only [zE]
  iterate 5 (refine aK rfl fun _ k0 => ?_; simp only [zO, zT, acs, reduceCtorEq, M, E, O, Z, Y, V, Int.toNat_one]; (repeat refine an ?_); (try refine .inl ?_); apply k0; clear k0; simp only [zP, E])
  (refine aa rfl fun _ k0 => ?_; simp only [zO, zT, acs, reduceCtorEq, M, E, O, Z, Y, V, Int.toNat_one]; (repeat refine an ?_); (try refine .inl ?_); apply k0; clear k0; simp only [zP, E])
  refine ae ?_
  refine ⟨by simp only [zP, M, E]; exact rfl, rfl, ?_, rfl⟩; (repeat refine au rfl ?_); exact aL (by exact rfl) hq4
 case b4 => exact bb
 simp only [aF, az]
 (refine aa rfl fun _ k0 => ?_; simp only [zO, zT, acs, reduceCtorEq, M, E, O, Z, Y, V, Int.toNat_one]; (repeat refine an ?_); (try refine .inl ?_); apply k0; clear k0; simp only [zP, E])
 refine ae ?_
 apply k3; clear k3; refine kp [0, 1, 4, 5, 6] ?_
 refine ab fun _ k5 => ?_
 refine ab fun _ k6 => ?_
 refine af hP hN rfl ?_
 iterate 6 (refine aa rfl fun _ k0 => ?_; simp only [zO, zT, acs, reduceCtorEq, M, E, O, Z, Y, V, Int.toNat_one]; (repeat refine an ?_); (try refine .inl ?_); apply k0; clear k0; simp only [zP, E])
 refine' ar (want := false) 6 rfl (m := 30) (by simp only [zP, M, E]; exact rfl) (by kernel_rfl) rfl rfl rfl rfl rfl (fun hg7 => ?a7) ?b7 ?c7
 case a7 =>
  have hq7 := hg7; (try simp only [zB, reduceCtorEq] at hg7); simp only [zE]
  iterate 2 (refine aK rfl fun _ k0 => ?_; simp only [zO, zT, acs, reduceCtorEq, M, E, O, Z, Y, V, Int.toNat_one]; (repeat refine an ?_); (try refine .inl ?_); apply k0; clear k0; simp only [zP, E])
  refine' ar (want := true) 3 rfl (m := 32) (by simp only [zP, M, E]; exact rfl) (by kernel_rfl) rfl rfl rfl rfl rfl (fun hg8 => ?a8) ?b8 ?c8
  case a8 =>
   have hq8 := hg8; (try simp only [zB, reduceCtorEq] at hg8); simp only [zE]
   iterate 4 (refine aK rfl fun _ k0 => ?_; simp only [zO, zT, acs, reduceCtorEq, M, E, O, Z, Y, V, Int.toNat_one]; (repeat refine an ?_); (try refine .inl ?_); apply k0; clear k0; simp only [zP, E])
   refine ae ?_
   refine ⟨by simp only [zP, M, E]; exact rfl, rfl, ?_, rfl⟩; (repeat refine au rfl ?_); exact aL (by exact rfl) hq8
  case b8 => exact bb
  simp only [aF, az]
  (refine aa rfl fun _ k0 => ?_; simp only [zO, zT, acs, reduceCtorEq, M, E, O, Z, Y, V, Int.toNat_one]; (repeat refine an ?_); (try refine .inl ?_); apply k0; clear k0; simp only [zP, E])
  refine ae ?_
  refine ⟨by simp only [zP, M, E]; exact rfl, rfl, ?_, rfl⟩; (repeat refine au rfl ?_); exact aL (by exact rfl) hq7
 case b7 => exact bb
 simp only [aF, az]
 refine ae ?_
 apply k6; clear k6; refine kp [0, 1, 4, 5, 6, 37] ?_
 refine cd (fun hc9 => ?_) (fun hc9 => ?_)
 ·(try simp only [zB, reduceCtorEq] at hc9)
  refine ab fun _ k10 => ?_
  refine af hP hN rfl ?_
  (refine aa rfl fun _ k0 => ?_; simp only [zO, zT, acs, reduceCtorEq, M, E, O, Z, Y, V, Int.toNat_one]; (repeat refine an ?_); (try refine .inl ?_); apply k0; clear k0; simp only [zP, E])
  refine ae ?_
  apply k10; clear k10; refine kp [0, 1, 4, 5, 6, 37] ?_
  refine aq ?_
  refine ⟨by first | exact .inl rfl | exact .inr rfl, _, rfl, ?_⟩; simp only [zP, M, E, Int.toNat_one]
  have hU := aC (cw (R := 56) (S := 44) (I := 3) (r := r) (a := a) (b := b) (U := U) (w := w) (x := .vars 56 [.str r.nm, .list .str r.ins, .list .str r.outs, .int .i64 r.inp, .int .i64 r.st, a, b, .list .str r.sts, .int .i64 (r.rd : Int), .int .i64 r.lf]))
  have hV := aC (bY (R := 56) (S := 44) (I := 3) (r := r) (a := a) (b := b) (U := U) (l := w.drop 1) (x := .vars 56 [.str r.nm, .list .str r.ins, .list .str r.outs, .int .i64 r.inp, .int .i64 r.st, a, b, .list .str r.sts, .int .i64 (r.rd : Int), .int .i64 r.lf]))
  simp only [ak] at hU hV
  rw [hU]
  first
  | (obtain ⟨hE, hF⟩ := js (R := 56) (S := 44) (I := 3) (a := a) (b := b) (U := U) hc9
     rw [hE, hF]; all_goals exact ⟨rfl, rfl⟩)
  | (have hn3 : ¬ (r.rd : Int) = 3 := by omega
     have hE := dr hc9
     first
     | rw [if_pos (by omega), if_neg (by rw [‹aX (w.getD 1 []) = false›]; decide)] at hE
     | rw [if_pos (by omega), if_pos (by assumption)] at hE
     | rw [if_neg (by omega), if_pos (by omega)] at hE
     | rw [if_neg (by omega), if_neg (by omega), if_pos (by omega)] at hE
     | rw [if_neg (by omega), if_neg (by omega), if_neg (by omega), if_neg (by omega), if_pos (show ixB r.sts (w.getD 1 []) < 0 by assumption)] at hE
     | rw [if_neg (by omega), if_neg (by omega), if_neg (by omega), if_neg (by omega), if_neg (show ¬ ixB r.sts (w.getD 1 []) < 0 by unfold ixB; omega)] at hE
     obtain ⟨hE, hF⟩ := fR (R := 56) (S := 44) (I := 3) (a := a) (b := b) (U := U) (by omega) hE
     rw [hE, hF]; all_goals exact ⟨rfl, rfl⟩)
  | (obtain ⟨hE, hF⟩ := jv (R := 56) (S := 44) (I := 3) (a := a) (b := b) (U := U) hc9 (by omega)
     rw [hE, hF, hV]; all_goals exact ⟨rfl, rfl⟩)
 (try simp only [zB, reduceCtorEq] at hc9)
 refine ax ?_
 apply k5; clear k5; refine kp [0, 1, 4, 5, 6, 37] ?_
 refine ab fun _ k11 => ?_
 refine ab fun _ k12 => ?_
 refine af hP hN rfl ?_
 iterate 4 (refine aa rfl fun _ k0 => ?_; simp only [zO, zT, acs, reduceCtorEq, M, E, O, Z, Y, V, Int.toNat_one]; (repeat refine an ?_); (try refine .inl ?_); apply k0; clear k0; simp only [zP, E])
 refine ae ?_
 apply k12; clear k12; refine kp [0, 1, 4, 5, 6, 37, 41] ?_
 refine aD ?_
 refine ab fun _ k13 => ?_
 refine af hP hN rfl ?_
 iterate 2 (refine aa rfl fun _ k0 => ?_; simp only [zO, zT, acs, reduceCtorEq, M, E, O, Z, Y, V, Int.toNat_one]; (repeat refine an ?_); (try refine .inl ?_); apply k0; clear k0; simp only [zP, E])
 refine ae ?_
 apply k13; clear k13; refine kp [0, 1, 4, 5, 6, 37, 41, 42] ?_
 refine cd (fun hc14 => ?_) (fun hc14 => ?_)
 ·(try simp only [zB, reduceCtorEq] at hc14)
  refine ab fun _ k15 => ?_
  refine af hP hN rfl ?_
  iterate 8 (refine aa rfl fun _ k0 => ?_; simp only [zO, zT, acs, reduceCtorEq, M, E, O, Z, Y, V, Int.toNat_one]; (repeat refine an ?_); (try refine .inl ?_); apply k0; clear k0; simp only [zP, E])
  refine ae ?_
  apply k15; clear k15; refine kp [0, 1, 4, 5, 6, 37, 41, 42] ?_
  refine ab fun _ k16 => ?_
  refine af hP hN rfl ?_
  iterate 3 (refine aa rfl fun _ k0 => ?_; simp only [zO, zT, acs, reduceCtorEq, M, E, O, Z, Y, V, Int.toNat_one]; (repeat refine an ?_); (try refine .inl ?_); apply k0; clear k0; simp only [zP, E])
  refine aa rfl fun _ k0 => ?_
  refine aw (h := aj (jX (w.getD 1 []))) rfl rfl (by first | exact rfl | (simp only [ev, zP, M, E]; exact rfl)) (by simp only [zV, acs, reduceCtorEq, M, E, O, Z, Y, V, Int.toNat_one]) ?_
  apply k0; clear k0; simp only [zP, E]
  (refine aa rfl fun _ k0 => ?_; simp only [zO, zT, acs, reduceCtorEq, M, E, O, Z, Y, V, Int.toNat_one]; (repeat refine an ?_); (try refine .inl ?_); apply k0; clear k0; simp only [zP, E])
  refine ae ?_
  apply k16; clear k16; refine kp [0, 1, 4, 5, 6, 37, 41, 42, 55] ?_
  refine cd (fun hc17 => ?_) (fun hc17 => ?_)
  ·(try simp only [zB, reduceCtorEq] at hc17)
   refine ab fun _ k18 => ?_
   refine af hP hN rfl ?_
   (refine aa rfl fun _ k0 => ?_; simp only [zO, zT, acs, reduceCtorEq, M, E, O, Z, Y, V, Int.toNat_one]; (repeat refine an ?_); (try refine .inl ?_); apply k0; clear k0; simp only [zP, E])
   refine ae ?_
   apply k18; clear k18; refine kp [0, 1, 4, 5, 6, 37, 41, 42, 55] ?_
   refine aq ?_
   refine ⟨by first | exact .inl rfl | exact .inr rfl, _, rfl, ?_⟩; simp only [zP, M, E, Int.toNat_one]
   have hU := aC (cw (R := 56) (S := 44) (I := 3) (r := r) (a := a) (b := b) (U := U) (w := w) (x := .vars 56 [.str r.nm, .list .str r.ins, .list .str r.outs, .int .i64 r.inp, .int .i64 r.st, a, b, .list .str r.sts, .int .i64 (r.rd : Int), .int .i64 r.lf]))
   have hV := aC (bY (R := 56) (S := 44) (I := 3) (r := r) (a := a) (b := b) (U := U) (l := w.drop 1) (x := .vars 56 [.str r.nm, .list .str r.ins, .list .str r.outs, .int .i64 r.inp, .int .i64 r.st, a, b, .list .str r.sts, .int .i64 (r.rd : Int), .int .i64 r.lf]))
   simp only [ak] at hU hV
   rw [hU]
   first
   | (obtain ⟨hE, hF⟩ := js (R := 56) (S := 44) (I := 3) (a := a) (b := b) (U := U) hc9
      rw [hE, hF]; all_goals exact ⟨rfl, rfl⟩)
   | (have hn3 : ¬ (r.rd : Int) = 3 := by omega
      have hE := dr hc9
      first
      | rw [if_pos (by omega), if_neg (by rw [‹aX (w.getD 1 []) = false›]; decide)] at hE
      | rw [if_pos (by omega), if_pos (by assumption)] at hE
      | rw [if_neg (by omega), if_pos (by omega)] at hE
      | rw [if_neg (by omega), if_neg (by omega), if_pos (by omega)] at hE
      | rw [if_neg (by omega), if_neg (by omega), if_neg (by omega), if_neg (by omega), if_pos (show ixB r.sts (w.getD 1 []) < 0 by assumption)] at hE
      | rw [if_neg (by omega), if_neg (by omega), if_neg (by omega), if_neg (by omega), if_neg (show ¬ ixB r.sts (w.getD 1 []) < 0 by unfold ixB; omega)] at hE
      obtain ⟨hE, hF⟩ := fR (R := 56) (S := 44) (I := 3) (a := a) (b := b) (U := U) (by omega) hE
      rw [hE, hF]; all_goals exact ⟨rfl, rfl⟩)
   | (obtain ⟨hE, hF⟩ := jv (R := 56) (S := 44) (I := 3) (a := a) (b := b) (U := U) hc9 (by omega)
      rw [hE, hF, hV]; all_goals exact ⟨rfl, rfl⟩)
  (try simp only [zB, reduceCtorEq] at hc17)
  refine ax ?_
  apply k11; clear k11; refine kp [0, 1, 4, 5, 6, 37, 41, 42, 55] ?_
  refine ab fun _ k19 => ?_
  refine af hP hN rfl ?_
  (refine aa rfl fun _ k0 => ?_; simp only [zO, zT, acs, reduceCtorEq, M, E, O, Z, Y, V, Int.toNat_one]; (repeat refine an ?_); (try refine .inl ?_); apply k0; clear k0; simp only [zP, E])
  refine ae ?_
  apply k19; clear k19; refine kp [0, 1, 4, 5, 6, 37, 41, 42, 55] ?_
  refine aq ?_
  refine ⟨by first | exact .inl rfl | exact .inr rfl, _, rfl, ?_⟩; simp only [zP, M, E, Int.toNat_one]
  have hU := aC (cw (R := 56) (S := 44) (I := 3) (r := r) (a := a) (b := b) (U := U) (w := w) (x := .vars 56 [.str r.nm, .list .str r.ins, .list .str r.outs, .int .i64 r.inp, .int .i64 r.st, a, b, .list .str r.sts, .int .i64 (r.rd : Int), .int .i64 r.lf]))
  have hV := aC (bY (R := 56) (S := 44) (I := 3) (r := r) (a := a) (b := b) (U := U) (l := w.drop 1) (x := .vars 56 [.str r.nm, .list .str r.ins, .list .str r.outs, .int .i64 r.inp, .int .i64 r.st, a, b, .list .str r.sts, .int .i64 (r.rd : Int), .int .i64 r.lf]))
  simp only [ak] at hU hV
  rw [hU]
  first
  | (obtain ⟨hE, hF⟩ := js (R := 56) (S := 44) (I := 3) (a := a) (b := b) (U := U) hc9
     rw [hE, hF]; all_goals exact ⟨rfl, rfl⟩)
  | (have hn3 : ¬ (r.rd : Int) = 3 := by omega
     have hE := dr hc9
     first
     | rw [if_pos (by omega), if_neg (by rw [‹aX (w.getD 1 []) = false›]; decide)] at hE
     | rw [if_pos (by omega), if_pos (by assumption)] at hE
     | rw [if_neg (by omega), if_pos (by omega)] at hE
     | rw [if_neg (by omega), if_neg (by omega), if_pos (by omega)] at hE
     | rw [if_neg (by omega), if_neg (by omega), if_neg (by omega), if_neg (by omega), if_pos (show ixB r.sts (w.getD 1 []) < 0 by assumption)] at hE
     | rw [if_neg (by omega), if_neg (by omega), if_neg (by omega), if_neg (by omega), if_neg (show ¬ ixB r.sts (w.getD 1 []) < 0 by unfold ixB; omega)] at hE
     obtain ⟨hE, hF⟩ := fR (R := 56) (S := 44) (I := 3) (a := a) (b := b) (U := U) (by omega) hE
     rw [hE, hF]; all_goals exact ⟨rfl, rfl⟩)
  | (obtain ⟨hE, hF⟩ := jv (R := 56) (S := 44) (I := 3) (a := a) (b := b) (U := U) hc9 (by omega)
     rw [hE, hF, hV]; all_goals exact ⟨rfl, rfl⟩)
 (try simp only [zB, reduceCtorEq] at hc14)
 refine ab fun _ k20 => ?_
 refine af hP hN rfl ?_
 iterate 2 (refine aa rfl fun _ k0 => ?_; simp only [zO, zT, acs, reduceCtorEq, M, E, O, Z, Y, V, Int.toNat_one]; (repeat refine an ?_); (try refine .inl ?_); apply k0; clear k0; simp only [zP, E])
 refine ae ?_
 apply k20; clear k20; refine kp [0, 1, 4, 5, 6, 37, 41, 42, 56] ?_
 refine cd (fun hc21 => ?_) (fun hc21 => ?_)
 ·(try simp only [zB, reduceCtorEq] at hc21)
  refine ab fun _ k22 => ?_
  refine af hP hN rfl ?_
  iterate 2 (refine aa rfl fun _ k0 => ?_; simp only [zO, zT, acs, reduceCtorEq, M, E, O, Z, Y, V, Int.toNat_one, aE]; (repeat refine an ?_); (try refine .inl ?_); apply k0; clear k0; simp only [zP, E])
  (refine aa rfl fun _ k0 => ?_; simp only [zE, op1, ev, lkp, cW, bq, cr, bnd, Ty.size, gQ, cj, dJ, Nat.mul_one, bn, aY, aV, acs, Ty.dflt, zG, reduceCtorEq, M, E, O, Z, Y, V, Tryd.el22, Tryd.st24, Tryd.st29, Tryd.st56, Tryd.td1, Tryd.td22, Tryd.td24, Tryd.td29, Tryd.td54, Tryd.td56, Int.toNat_one, aE]; (repeat refine an ?_); (try refine .inl ?_); apply k0; clear k0; simp only [zP, E])
  iterate 5 (refine aa rfl fun _ k0 => ?_; simp only [zO, zT, acs, reduceCtorEq, M, E, O, Z, Y, V, Int.toNat_one, aE]; (repeat refine an ?_); (try refine .inl ?_); apply k0; clear k0; simp only [zP, E])
  refine ae ?_
  apply k22; clear k22; refine kp [0, 1, 4, 5, 6, 37, 41, 42, 56] ?_
  refine ab fun _ k23 => ?_
  refine af hP hN rfl ?_
  iterate 5 (refine aa rfl fun _ k0 => ?_; simp only [zO, zT, acs, reduceCtorEq, M, E, O, Z, Y, V, Int.toNat_one]; (repeat refine an ?_); (try refine .inl ?_); apply k0; clear k0; simp only [zP, E])
  refine aa rfl fun _ k0 => ?_
  refine aw (h := aj (gO (w.drop 1))) rfl rfl (by first | exact rfl | (simp only [ev, zP, M, E]; exact rfl)) (by simp only [zV, acs, reduceCtorEq, M, E, O, Z, Y, V, Int.toNat_one]) ?_
  apply k0; clear k0; simp only [zP, E]
  (refine aa rfl fun _ k0 => ?_; simp only [zO, zT, acs, reduceCtorEq, M, E, O, Z, Y, V, Int.toNat_one]; (repeat refine an ?_); (try refine .inl ?_); apply k0; clear k0; simp only [zP, E])
  refine ae ?_
  apply k23; clear k23; refine kp [0, 1, 4, 5, 6, 37, 41, 42, 56] ?_
  refine aq ?_
  refine ⟨by first | exact .inl rfl | exact .inr rfl, _, rfl, ?_⟩; simp only [zP, M, E, Int.toNat_one]
  have hU := aC (cw (R := 56) (S := 44) (I := 3) (r := r) (a := a) (b := b) (U := U) (w := w) (x := .vars 56 [.str r.nm, .list .str r.ins, .list .str r.outs, .int .i64 r.inp, .int .i64 r.st, a, b, .list .str r.sts, .int .i64 (r.rd : Int), .int .i64 r.lf]))
  have hV := aC (bY (R := 56) (S := 44) (I := 3) (r := r) (a := a) (b := b) (U := U) (l := w.drop 1) (x := .vars 56 [.str r.nm, .list .str r.ins, .list .str r.outs, .int .i64 r.inp, .int .i64 r.st, a, b, .list .str r.sts, .int .i64 (r.rd : Int), .int .i64 r.lf]))
  simp only [ak] at hU hV
  rw [hU]
  first
  | (obtain ⟨hE, hF⟩ := js (R := 56) (S := 44) (I := 3) (a := a) (b := b) (U := U) hc9
     rw [hE, hF]; all_goals exact ⟨rfl, rfl⟩)
  | (have hn3 : ¬ (r.rd : Int) = 3 := by omega
     have hE := dr hc9
     first
     | rw [if_pos (by omega), if_neg (by rw [‹aX (w.getD 1 []) = false›]; decide)] at hE
     | rw [if_pos (by omega), if_pos (by assumption)] at hE
     | rw [if_neg (by omega), if_pos (by omega)] at hE
     | rw [if_neg (by omega), if_neg (by omega), if_pos (by omega)] at hE
     | rw [if_neg (by omega), if_neg (by omega), if_neg (by omega), if_neg (by omega), if_pos (show ixB r.sts (w.getD 1 []) < 0 by assumption)] at hE
     | rw [if_neg (by omega), if_neg (by omega), if_neg (by omega), if_neg (by omega), if_neg (show ¬ ixB r.sts (w.getD 1 []) < 0 by unfold ixB; omega)] at hE
     obtain ⟨hE, hF⟩ := fR (R := 56) (S := 44) (I := 3) (a := a) (b := b) (U := U) (by omega) hE
     rw [hE, hF]; all_goals exact ⟨rfl, rfl⟩)
  | (obtain ⟨hE, hF⟩ := jv (R := 56) (S := 44) (I := 3) (a := a) (b := b) (U := U) hc9 (by omega)
     rw [hE, hF, hV]; all_goals exact ⟨rfl, rfl⟩)
 (try simp only [zB, reduceCtorEq] at hc21)
 refine ab fun _ k24 => ?_
 refine af hP hN rfl ?_
 iterate 2 (refine aa rfl fun _ k0 => ?_; simp only [zO, zT, acs, reduceCtorEq, M, E, O, Z, Y, V, Int.toNat_one]; (repeat refine an ?_); (try refine .inl ?_); apply k0; clear k0; simp only [zP, E])
 refine ae ?_
 apply k24; clear k24; refine kp [0, 1, 4, 5, 6, 37, 41, 42, 56, 71] ?_
 refine cd (fun hc25 => ?_) (fun hc25 => ?_)
 ·(try simp only [zB, reduceCtorEq] at hc25)
  refine ab fun _ k26 => ?_
  refine af hP hN rfl ?_
  iterate 2 (refine aa rfl fun _ k0 => ?_; simp only [zO, zT, acs, reduceCtorEq, M, E, O, Z, Y, V, Int.toNat_one, aE]; (repeat refine an ?_); (try refine .inl ?_); apply k0; clear k0; simp only [zP, E])
  (refine aa rfl fun _ k0 => ?_; simp only [zE, op1, ev, lkp, cW, bq, cr, bnd, Ty.size, gQ, cj, dJ, Nat.mul_one, bn, aY, aV, acs, Ty.dflt, zG, reduceCtorEq, M, E, O, Z, Y, V, Tryd.el22, Tryd.st24, Tryd.st29, Tryd.st56, Tryd.td2, Tryd.td22, Tryd.td24, Tryd.td29, Tryd.td54, Tryd.td56, Int.toNat_one, aE]; (repeat refine an ?_); (try refine .inl ?_); apply k0; clear k0; simp only [zP, E])
  iterate 5 (refine aa rfl fun _ k0 => ?_; simp only [zO, zT, acs, reduceCtorEq, M, E, O, Z, Y, V, Int.toNat_one, aE]; (repeat refine an ?_); (try refine .inl ?_); apply k0; clear k0; simp only [zP, E])
  refine ae ?_
  apply k26; clear k26; refine kp [0, 1, 4, 5, 6, 37, 41, 42, 56, 71] ?_
  refine ab fun _ k27 => ?_
  refine af hP hN rfl ?_
  iterate 5 (refine aa rfl fun _ k0 => ?_; simp only [zO, zT, acs, reduceCtorEq, M, E, O, Z, Y, V, Int.toNat_one]; (repeat refine an ?_); (try refine .inl ?_); apply k0; clear k0; simp only [zP, E])
  refine aa rfl fun _ k0 => ?_
  refine aw (h := aj (gO (w.drop 1))) rfl rfl (by first | exact rfl | (simp only [ev, zP, M, E]; exact rfl)) (by simp only [zV, acs, reduceCtorEq, M, E, O, Z, Y, V, Int.toNat_one]) ?_
  apply k0; clear k0; simp only [zP, E]
  (refine aa rfl fun _ k0 => ?_; simp only [zO, zT, acs, reduceCtorEq, M, E, O, Z, Y, V, Int.toNat_one]; (repeat refine an ?_); (try refine .inl ?_); apply k0; clear k0; simp only [zP, E])
  refine ae ?_
  apply k27; clear k27; refine kp [0, 1, 4, 5, 6, 37, 41, 42, 56, 71] ?_
  refine aq ?_
  refine ⟨by first | exact .inl rfl | exact .inr rfl, _, rfl, ?_⟩; simp only [zP, M, E, Int.toNat_one]
  have hU := aC (cw (R := 56) (S := 44) (I := 3) (r := r) (a := a) (b := b) (U := U) (w := w) (x := .vars 56 [.str r.nm, .list .str r.ins, .list .str r.outs, .int .i64 r.inp, .int .i64 r.st, a, b, .list .str r.sts, .int .i64 (r.rd : Int), .int .i64 r.lf]))
  have hV := aC (bY (R := 56) (S := 44) (I := 3) (r := r) (a := a) (b := b) (U := U) (l := w.drop 1) (x := .vars 56 [.str r.nm, .list .str r.ins, .list .str r.outs, .int .i64 r.inp, .int .i64 r.st, a, b, .list .str r.sts, .int .i64 (r.rd : Int), .int .i64 r.lf]))
  simp only [ak] at hU hV
  rw [hU]
  first
  | (obtain ⟨hE, hF⟩ := js (R := 56) (S := 44) (I := 3) (a := a) (b := b) (U := U) hc9
     rw [hE, hF]; all_goals exact ⟨rfl, rfl⟩)
  | (have hn3 : ¬ (r.rd : Int) = 3 := by omega
     have hE := dr hc9
     first
     | rw [if_pos (by omega), if_neg (by rw [‹aX (w.getD 1 []) = false›]; decide)] at hE
     | rw [if_pos (by omega), if_pos (by assumption)] at hE
     | rw [if_neg (by omega), if_pos (by omega)] at hE
     | rw [if_neg (by omega), if_neg (by omega), if_pos (by omega)] at hE
     | rw [if_neg (by omega), if_neg (by omega), if_neg (by omega), if_neg (by omega), if_pos (show ixB r.sts (w.getD 1 []) < 0 by assumption)] at hE
     | rw [if_neg (by omega), if_neg (by omega), if_neg (by omega), if_neg (by omega), if_neg (show ¬ ixB r.sts (w.getD 1 []) < 0 by unfold ixB; omega)] at hE
     obtain ⟨hE, hF⟩ := fR (R := 56) (S := 44) (I := 3) (a := a) (b := b) (U := U) (by omega) hE
     rw [hE, hF]; all_goals exact ⟨rfl, rfl⟩)
  | (obtain ⟨hE, hF⟩ := jv (R := 56) (S := 44) (I := 3) (a := a) (b := b) (U := U) hc9 (by omega)
     rw [hE, hF, hV]; all_goals exact ⟨rfl, rfl⟩)
 (try simp only [zB, reduceCtorEq] at hc25)
 refine ab fun _ k28 => ?_
 refine af hP hN rfl ?_
 iterate 2 (refine aa rfl fun _ k0 => ?_; simp only [zO, zT, acs, reduceCtorEq, M, E, O, Z, Y, V, Int.toNat_one]; (repeat refine an ?_); (try refine .inl ?_); apply k0; clear k0; simp only [zP, E])
 refine ae ?_
 apply k28; clear k28; refine kp [0, 1, 4, 5, 6, 37, 41, 42, 56, 71, 86] ?_
 refine cd (fun hc29 => ?_) (fun hc29 => ?_)
 ·(try simp only [zB, reduceCtorEq] at hc29)
  refine ab fun _ k30 => ?_
  refine af hP hN rfl ?_
  iterate 2 (refine aa rfl fun _ k0 => ?_; simp only [zO, zT, acs, reduceCtorEq, M, E, O, Z, Y, V, Int.toNat_one, aE]; (repeat refine an ?_); (try refine .inl ?_); apply k0; clear k0; simp only [zP, E])
  (refine aa rfl fun _ k0 => ?_; simp only [zE, op1, ev, lkp, cW, bq, cr, bnd, Ty.size, reduceCtorEq, M, E, O, Z, Y, V, Tryd.el22, Tryd.td22, Tryd.td54, Int.toNat_one, aE]; (repeat refine an ?_); (try refine .inl ?_); apply k0; clear k0; simp only [zP, E])
  refine aa rfl fun _ k0 => ?_
  refine aw (h := s6 r a b U (w.drop 1) (by rw [List.length_drop]; omega) (hi (by omega))) rfl rfl (by first | exact rfl | (simp only [ev, zP, M, E]; exact rfl)) (by simp only [zV, acs, reduceCtorEq, M, E, O, Z, Y, V, Int.toNat_one, aE]) ?_
  apply k0; clear k0; simp only [zP, E]
  (refine aa rfl fun _ k0 => ?_; simp only [zO, zT, acs, reduceCtorEq, M, E, O, Z, Y, V, Int.toNat_one, aE]; (repeat refine an ?_); (try refine .inl ?_); apply k0; clear k0; simp only [zP, E])
  refine ae ?_
  apply k30; clear k30; refine kp [0, 1, 4, 5, 6, 37, 41, 42, 56, 71, 86] ?_
  refine aq ?_
  refine ⟨by first | exact .inl rfl | exact .inr rfl, _, rfl, ?_⟩; simp only [zP, M, E, Int.toNat_one]
  have hU := aC (cw (R := 56) (S := 44) (I := 3) (r := r) (a := a) (b := b) (U := U) (w := w) (x := .vars 56 [.str r.nm, .list .str r.ins, .list .str r.outs, .int .i64 r.inp, .int .i64 r.st, a, b, .list .str r.sts, .int .i64 (r.rd : Int), .int .i64 r.lf]))
  have hV := aC (bY (R := 56) (S := 44) (I := 3) (r := r) (a := a) (b := b) (U := U) (l := w.drop 1) (x := .vars 56 [.str r.nm, .list .str r.ins, .list .str r.outs, .int .i64 r.inp, .int .i64 r.st, a, b, .list .str r.sts, .int .i64 (r.rd : Int), .int .i64 r.lf]))
  simp only [ak] at hU hV
  rw [hU]
  first
  | (obtain ⟨hE, hF⟩ := js (R := 56) (S := 44) (I := 3) (a := a) (b := b) (U := U) hc9
     rw [hE, hF]; all_goals exact ⟨rfl, rfl⟩)
  | (have hn3 : ¬ (r.rd : Int) = 3 := by omega
     have hE := dr hc9
     first
     | rw [if_pos (by omega), if_neg (by rw [‹aX (w.getD 1 []) = false›]; decide)] at hE
     | rw [if_pos (by omega), if_pos (by assumption)] at hE
     | rw [if_neg (by omega), if_pos (by omega)] at hE
     | rw [if_neg (by omega), if_neg (by omega), if_pos (by omega)] at hE
     | rw [if_neg (by omega), if_neg (by omega), if_neg (by omega), if_neg (by omega), if_pos (show ixB r.sts (w.getD 1 []) < 0 by assumption)] at hE
     | rw [if_neg (by omega), if_neg (by omega), if_neg (by omega), if_neg (by omega), if_neg (show ¬ ixB r.sts (w.getD 1 []) < 0 by unfold ixB; omega)] at hE
     obtain ⟨hE, hF⟩ := fR (R := 56) (S := 44) (I := 3) (a := a) (b := b) (U := U) (by omega) hE
     rw [hE, hF]; all_goals exact ⟨rfl, rfl⟩)
  | (obtain ⟨hE, hF⟩ := jv (R := 56) (S := 44) (I := 3) (a := a) (b := b) (U := U) hc9 (by omega)
     rw [hE, hF, hV]; all_goals exact ⟨rfl, rfl⟩)
 (try simp only [zB, reduceCtorEq] at hc29)
 refine ab fun _ k31 => ?_
 refine af hP hN rfl ?_
 iterate 2 (refine aa rfl fun _ k0 => ?_; simp only [zO, zT, acs, reduceCtorEq, M, E, O, Z, Y, V, Int.toNat_one]; (repeat refine an ?_); (try refine .inl ?_); apply k0; clear k0; simp only [zP, E])
 refine ae ?_
 apply k31; clear k31; refine kp [0, 1, 4, 5, 6, 37, 41, 42, 56, 71, 86, 92] ?_
 refine cd (fun hc32 => ?_) (fun hc32 => ?_)
 ·(try simp only [zB, reduceCtorEq] at hc32)
  refine ab fun _ k33 => ?_
  refine ct hP hN Tryd.mixed rfl ?_
  iterate 8 (refine aa rfl fun _ k0 => ?_; simp only [zO, zT, acs, reduceCtorEq, M, E, O, Z, Y, V, Int.toNat_one]; (repeat refine an ?_); (try refine .inl ?_); apply k0; clear k0; simp only [zP, E])
  refine aa rfl fun _ k0 => ?_
  refine aw (h := aj (eS r.sts (w.getD 1 []))) rfl rfl (by first | exact rfl | (simp only [ev, zP, M, E]; exact rfl)) (by simp only [zV, acs, reduceCtorEq, M, E, O, Z, Y, V, Int.toNat_one]) ?_
  apply k0; clear k0; simp only [zP, E]
  iterate 5 (refine aa rfl fun _ k0 => ?_; simp only [zO, zT, acs, reduceCtorEq, M, E, O, Z, Y, V, Int.toNat_one]; (repeat refine an ?_); (try refine .inl ?_); apply k0; clear k0; simp only [zP, E])
  refine ae ?_
  refine ⟨by kernel_rfl, ?_⟩
  apply k33; clear k33; refine kp [0, 1, 4, 5, 6, 37, 41, 42, 56, 71, 86, 92] ?_
  refine ab fun _ k34 => ?_
  refine af hP hN rfl ?_
  iterate 7 (refine aa rfl fun _ k0 => ?_; simp only [zO, zT, acs, reduceCtorEq, M, E, O, Z, Y, V, Int.toNat_one]; (repeat refine an ?_); (try refine .inl ?_); apply k0; clear k0; simp only [zP, E])
  refine ae ?_
  apply k34; clear k34; refine kp [0, 1, 4, 5, 6, 37, 41, 42, 56, 71, 86, 92, 113] ?_
  refine cd (fun hc35 => ?_) (fun hc35 => ?_)
  ·(try simp only [zB, reduceCtorEq] at hc35)
   refine ab fun _ k36 => ?_
   refine af hP hN rfl ?_
   (refine aa rfl fun _ k0 => ?_; simp only [zO, zT, acs, reduceCtorEq, M, E, O, Z, Y, V, Int.toNat_one]; (repeat refine an ?_); (try refine .inl ?_); apply k0; clear k0; simp only [zP, E])
   refine ae ?_
   apply k36; clear k36; refine kp [0, 1, 4, 5, 6, 37, 41, 42, 56, 71, 86, 92, 113] ?_
   refine aq ?_
   refine ⟨by first | exact .inl rfl | exact .inr rfl, _, rfl, ?_⟩; simp only [zP, M, E, Int.toNat_one]
   have hU := aC (cw (R := 56) (S := 44) (I := 3) (r := r) (a := a) (b := b) (U := U) (w := w) (x := .vars 56 [.str r.nm, .list .str r.ins, .list .str r.outs, .int .i64 r.inp, .int .i64 r.st, a, b, .list .str r.sts, .int .i64 (r.rd : Int), .int .i64 r.lf]))
   have hV := aC (bY (R := 56) (S := 44) (I := 3) (r := r) (a := a) (b := b) (U := U) (l := w.drop 1) (x := .vars 56 [.str r.nm, .list .str r.ins, .list .str r.outs, .int .i64 r.inp, .int .i64 r.st, a, b, .list .str r.sts, .int .i64 (r.rd : Int), .int .i64 r.lf]))
   simp only [ak] at hU hV
   rw [hU]
   first
   | (obtain ⟨hE, hF⟩ := js (R := 56) (S := 44) (I := 3) (a := a) (b := b) (U := U) hc9
      rw [hE, hF]; all_goals exact ⟨rfl, rfl⟩)
   | (have hn3 : ¬ (r.rd : Int) = 3 := by omega
      have hE := dr hc9
      first
      | rw [if_pos (by omega), if_neg (by rw [‹aX (w.getD 1 []) = false›]; decide)] at hE
      | rw [if_pos (by omega), if_pos (by assumption)] at hE
      | rw [if_neg (by omega), if_pos (by omega)] at hE
      | rw [if_neg (by omega), if_neg (by omega), if_pos (by omega)] at hE
      | rw [if_neg (by omega), if_neg (by omega), if_neg (by omega), if_neg (by omega), if_pos (show ixB r.sts (w.getD 1 []) < 0 by assumption)] at hE
      | rw [if_neg (by omega), if_neg (by omega), if_neg (by omega), if_neg (by omega), if_neg (show ¬ ixB r.sts (w.getD 1 []) < 0 by unfold ixB; omega)] at hE
      obtain ⟨hE, hF⟩ := fR (R := 56) (S := 44) (I := 3) (a := a) (b := b) (U := U) (by omega) hE
      rw [hE, hF]; all_goals exact ⟨rfl, rfl⟩)
   | (obtain ⟨hE, hF⟩ := jv (R := 56) (S := 44) (I := 3) (a := a) (b := b) (U := U) hc9 (by omega)
      rw [hE, hF, hV]; all_goals exact ⟨rfl, rfl⟩)
  (try simp only [zB, reduceCtorEq] at hc35)
  refine ax ?_
  apply k11; clear k11; refine kp [0, 1, 4, 5, 6, 37, 41, 42, 56, 71, 86, 92, 113] ?_
  refine ab fun _ k37 => ?_
  refine af hP hN rfl ?_
  (refine aa rfl fun _ k0 => ?_; simp only [zO, zT, acs, reduceCtorEq, M, E, O, Z, Y, V, Int.toNat_one]; (repeat refine an ?_); (try refine .inl ?_); apply k0; clear k0; simp only [zP, E])
  refine ae ?_
  apply k37; clear k37; refine kp [0, 1, 4, 5, 6, 37, 41, 42, 56, 71, 86, 92, 113] ?_
  refine aq ?_
  refine ⟨by first | exact .inl rfl | exact .inr rfl, _, rfl, ?_⟩; simp only [zP, M, E, Int.toNat_one]
  have hU := aC (cw (R := 56) (S := 44) (I := 3) (r := r) (a := a) (b := b) (U := U) (w := w) (x := .vars 56 [.str r.nm, .list .str r.ins, .list .str r.outs, .int .i64 r.inp, .int .i64 r.st, a, b, .list .str r.sts, .int .i64 (r.rd : Int), .int .i64 r.lf]))
  have hV := aC (bY (R := 56) (S := 44) (I := 3) (r := r) (a := a) (b := b) (U := U) (l := w.drop 1) (x := .vars 56 [.str r.nm, .list .str r.ins, .list .str r.outs, .int .i64 r.inp, .int .i64 r.st, a, b, .list .str r.sts, .int .i64 (r.rd : Int), .int .i64 r.lf]))
  simp only [ak] at hU hV
  rw [hU]
  first
  | (obtain ⟨hE, hF⟩ := js (R := 56) (S := 44) (I := 3) (a := a) (b := b) (U := U) hc9
     rw [hE, hF]; all_goals exact ⟨rfl, rfl⟩)
  | (have hn3 : ¬ (r.rd : Int) = 3 := by omega
     have hE := dr hc9
     first
     | rw [if_pos (by omega), if_neg (by rw [‹aX (w.getD 1 []) = false›]; decide)] at hE
     | rw [if_pos (by omega), if_pos (by assumption)] at hE
     | rw [if_neg (by omega), if_pos (by omega)] at hE
     | rw [if_neg (by omega), if_neg (by omega), if_pos (by omega)] at hE
     | rw [if_neg (by omega), if_neg (by omega), if_neg (by omega), if_neg (by omega), if_pos (show ixB r.sts (w.getD 1 []) < 0 by assumption)] at hE
     | rw [if_neg (by omega), if_neg (by omega), if_neg (by omega), if_neg (by omega), if_neg (show ¬ ixB r.sts (w.getD 1 []) < 0 by unfold ixB; omega)] at hE
     obtain ⟨hE, hF⟩ := fR (R := 56) (S := 44) (I := 3) (a := a) (b := b) (U := U) (by omega) hE
     rw [hE, hF]; all_goals exact ⟨rfl, rfl⟩)
  | (obtain ⟨hE, hF⟩ := jv (R := 56) (S := 44) (I := 3) (a := a) (b := b) (U := U) hc9 (by omega)
     rw [hE, hF, hV]; all_goals exact ⟨rfl, rfl⟩)
 · exfalso; (try simp only [zB, reduceCtorEq] at hc32); all_goals (first | (cases hc32; done) | omega | (simp at hc32; done) | (simp_all; done))
theorem sS (r : RS) (w : List Bs) (hl : w.length ≤ 1000000) (h0 : 0 < w.length) (hr : r.rd < 5) (hk : LOK r) : dR Tryd.prog (SH 56 44 3 r) 38 [.one (.ptr 0 0 0 0), .one (.list .str w)] { av := .one (.int .i64 (b0 r w).2), upd := eP (SH 56 44 3 r).length (SH 56 44 3 (b0 r w).1), new := (SH 56 44 3 (b0 r w).1).drop (SH 56 44 3 r).length, fp := List.range (SH 56 44 3 r).length } := by
  rw [← lW (r := r) (w := w) fun e => (hk.h3 e).1]
  exact sI r (rdA r) (rdB r) (rdT 44 3 r) w hl h0 hr fun e => (hk.h3 e).2
theorem kE (xs : List Bs) (x : Bs) : bG Tryd.prog 52 [.agg [.list .str xs], .one (.str x)] (.tup [.one (.int .i64 (idA xs x)), .one (.bool (decide (x ∈ xs)))]) := by
 refine aO Tryd.func52 rfl (by kernel_rfl) (Nat.le_of_ble_eq_true rfl) rfl fun C hP hN hB => ?_
 replace hN : C.N = 15 := hN
 simp only [aT, E]
 refine ab fun _ k1 => ?_
 refine af hP hN rfl ?_
 iterate 3 (refine aa rfl fun _ k0 => ?_; simp only [zO, zT, acs, reduceCtorEq, M, E, O, Z, Y, V]; (repeat refine an ?_); (try refine .inl ?_); apply k0; clear k0; simp only [zP, E])
 refine ae ?_
 apply k1; clear k1; refine kp [0, 1, 2, 4, 5] ?_
 refine ab fun _ k2 => ?_
 refine af hP hN rfl ?_
 iterate 3 (refine aa rfl fun _ k0 => ?_; simp only [zO, zT, acs, reduceCtorEq, M, E, O, Z, Y, V]; (repeat refine an ?_); (try refine .inl ?_); apply k0; clear k0; simp only [zP, E])
 refine aa rfl fun _ k0 => ?_
 refine aw (h := aj (eS xs x)) rfl rfl (by first | exact rfl | (simp only [ev, zP, M, E]; exact rfl)) (by simp only [zV, acs, reduceCtorEq, M, E, O, Z, Y, V]) ?_
 apply k0; clear k0; simp only [zP, E]
 (refine aa rfl fun _ k0 => ?_; simp only [zO, zT, acs, reduceCtorEq, M, E, O, Z, Y, V]; (repeat refine an ?_); (try refine .inl ?_); apply k0; clear k0; simp only [zP, E])
 refine ae ?_
 apply k2; clear k2; refine kp [0, 1, 2, 4, 5, 6] ?_
 refine ab fun _ k3 => ?_
 refine af hP hN rfl ?_
 iterate 6 (refine aa rfl fun _ k0 => ?_; simp only [zO, zT, acs, reduceCtorEq, M, E, O, Z, Y, V]; (repeat refine an ?_); (try refine .inl ?_); apply k0; clear k0; simp only [zP, E])
 refine ae ?_
 apply k3; clear k3; refine kp [0, 1, 2, 4, 5, 6] ?_
 refine aq ?_
 refine ⟨nr, _, rfl, ?_⟩; simp only [zF, zP, M, E]
 refine VLE.of_eq ?_
 unfold idA
 by_cases h : x ∈ xs
 · simp [h]
 · simp [h]; decide
set_option maxHeartbeats 1000000 in
theorem tR (r : RS) (w : List Bs) (hk : ROK r) (hl : w.length ≤ 1000000) (hol : r.outs.length ≤ 1000000) : dR Tryd.prog (RT 56 44 3 r) 39 [.one (.ptr 0 0 0 0), .one (.list .str w)] { av := .one (.int .i64 (bI r w).2), upd := eP (RT 56 44 3 r).length (RT 56 44 3 (bI r w).1), new := (RT 56 44 3 (bI r w).1).drop (RT 56 44 3 r).length, fp := List.range (RT 56 44 3 r).length } := by
 refine eQ _ _ Tryd.func39 rfl (by kernel_rfl) (Nat.le_of_ble_eq_true rfl) (by intro k hk; exact List.mem_range.2 hk) (fun C hP hN hB => ?_)
 replace hB : C.bL.length = (RT 56 44 3 r).length := by rw [hB]; skip
 replace hN : C.N = 114 := hN
 simp only [aT, E]
 refine ab fun _ k1 => ?_
 refine af hP hN rfl ?_
 (refine aa rfl fun _ k0 => ?_; simp only [zO, zT, acs, reduceCtorEq, M, E, O, Z, Y, V, Int.toNat_one, Int.reduceToNat]; (repeat refine an ?_); (try refine .inl ?_); apply k0; clear k0; simp only [zP, E])
 refine ae ?_
 apply k1; clear k1; refine kp [0, 1, 4] ?_
 refine ab fun _ k2 => ?_
 refine ab fun _ k3 => ?_
 refine af hP hN rfl ?_
 iterate 3 (refine aa rfl fun _ k0 => ?_; simp only [zO, zT, acs, reduceCtorEq, M, E, O, Z, Y, V, Int.toNat_one, Int.reduceToNat]; (repeat refine an ?_); (try refine .inl ?_); apply k0; clear k0; simp only [zP, E])
 refine ae ?_
 apply k3; clear k3; refine kp [0, 1, 4, 13] ?_
 refine cd (fun hc4 => ?_) (fun hc4 => ?_)
 ·(try simp only [zB, reduceCtorEq] at hc4)
  refine ab fun _ k5 => ?_
  refine af hP hN rfl ?_
  (refine aa rfl fun _ k0 => ?_; simp only [zO, zT, acs, reduceCtorEq, M, E, O, Z, Y, V, Int.toNat_one, Int.reduceToNat]; (repeat refine an ?_); (try refine .inl ?_); apply k0; clear k0; simp only [zP, E])
  refine ae ?_
  apply k5; clear k5; refine kp [0, 1, 4, 13] ?_
  refine aq ?_
  refine ⟨by first | exact .inl rfl | exact .inr rfl, _, rfl, ?_⟩; simp only [zP, M, E, Int.toNat_one, Int.reduceToNat]
  have hU := aC (i3 56 44 3 r w)
  rw [hU]
  first
  | (rw [nA (by assumption)]; all_goals exact ⟨rfl, rfl⟩)
  | (rw [nb (by assumption) (ij hbad)]; all_goals exact ⟨rfl, rfl⟩)
  | (rw [nh (by assumption) hm0 hm3 hm1 hm2 (by omega)]; all_goals exact ⟨rfl, rfl⟩)
  | (rw [kK (by assumption) hm0 hm3 hm1 hm2 (by omega)]; subst hr2; subst hr1; all_goals exact ⟨rfl, rfl⟩)
 (try simp only [zB, reduceCtorEq] at hc4)
 refine ax ?_
 apply k2; clear k2; refine kp [0, 1, 4, 13] ?_
 refine ab fun _ k6 => ?_
 refine ct hP hN Tryd.mixed rfl ?_
 iterate 7 (refine aa rfl fun _ k0 => ?_; simp only [zO, zT, acs, reduceCtorEq, M, E, O, Z, Y, V, Int.toNat_one, Int.reduceToNat, eB, rdC]; (repeat refine an ?_); (try refine .inl ?_); apply k0; clear k0; simp only [zP, E])
 refine aa rfl fun _ k0 => ?_
 refine aw (h := aj (eS r.sts (w.getD 0 []))) rfl rfl (by first | exact rfl | (simp only [ev, zP, M, E]; exact rfl)) (by simp only [zV, acs, reduceCtorEq, M, E, O, Z, Y, V, Int.toNat_one, Int.reduceToNat, eB, rdC]) ?_
 apply k0; clear k0; simp only [zP, E]
 iterate 7 (refine aa rfl fun _ k0 => ?_; simp only [zO, zT, acs, reduceCtorEq, M, E, O, Z, Y, V, Int.toNat_one, Int.reduceToNat, eB, rdC]; (repeat refine an ?_); (try refine .inl ?_); apply k0; clear k0; simp only [zP, E])
 refine aa rfl fun _ k0 => ?_
 refine aw (h := aj (eS r.sts (w.getD 3 []))) rfl rfl (by first | exact rfl | (simp only [ev, zP, M, E]; exact rfl)) (by simp only [zV, acs, reduceCtorEq, M, E, O, Z, Y, V, Int.toNat_one, Int.reduceToNat, eB, rdC]) ?_
 apply k0; clear k0; simp only [zP, E]
 iterate 2 (refine aa rfl fun _ k0 => ?_; simp only [zO, zT, acs, reduceCtorEq, M, E, O, Z, Y, V, Int.toNat_one, Int.reduceToNat, eB, rdC]; (repeat refine an ?_); (try refine .inl ?_); apply k0; clear k0; simp only [zP, E])
 refine ae ?_
 refine ⟨by kernel_rfl, ?_⟩
 apply k6; clear k6; refine kp [0, 1, 4, 5, 6, 13] ?_
 refine ab fun _ k7 => ?_
 refine ct hP hN Tryd.mixed rfl ?_
 iterate 8 (refine aa rfl fun _ k0 => ?_; simp only [zO, zT, acs, reduceCtorEq, M, E, O, Z, Y, V, Int.toNat_one, Int.reduceToNat, eB, rdC]; (repeat refine an ?_); (try refine .inl ?_); apply k0; clear k0; simp only [zP, E])
 refine aa rfl fun _ k0 => ?_
 refine aw (h := aj (kE r.ins (w.getD 1 []))) rfl rfl (by first | exact rfl | (simp only [ev, zP, M, E]; exact rfl)) (by simp only [zV, acs, reduceCtorEq, M, E, O, Z, Y, V, Int.toNat_one, Int.reduceToNat, eB, rdC]) ?_
 apply k0; clear k0; simp only [zP, E]
 iterate 5 (refine aa rfl fun _ k0 => ?_; simp only [zO, zT, acs, reduceCtorEq, M, E, O, Z, Y, V, Int.toNat_one, Int.reduceToNat, eB, rdC]; (repeat refine an ?_); (try refine .inl ?_); apply k0; clear k0; simp only [zP, E])
 refine ae ?_
 refine ⟨by kernel_rfl, ?_⟩
 apply k7; clear k7; refine kp [0, 1, 4, 5, 6, 7, 8, 13] ?_
 refine ab fun _ k8 => ?_
 refine ct hP hN Tryd.mixed rfl ?_
 iterate 8 (refine aa rfl fun _ k0 => ?_; simp only [zO, zT, acs, reduceCtorEq, M, E, O, Z, Y, V, Int.toNat_one, Int.reduceToNat, eB, rdC]; (repeat refine an ?_); (try refine .inl ?_); apply k0; clear k0; simp only [zP, E])
 refine aa rfl fun _ k0 => ?_
 refine aw (h := aj (kE r.outs (w.getD 2 []))) rfl rfl (by first | exact rfl | (simp only [ev, zP, M, E]; exact rfl)) (by simp only [zV, acs, reduceCtorEq, M, E, O, Z, Y, V, Int.toNat_one, Int.reduceToNat, eB, rdC]) ?_
 apply k0; clear k0; simp only [zP, E]
 iterate 5 (refine aa rfl fun _ k0 => ?_; simp only [zO, zT, acs, reduceCtorEq, M, E, O, Z, Y, V, Int.toNat_one, Int.reduceToNat, eB, rdC]; (repeat refine an ?_); (try refine .inl ?_); apply k0; clear k0; simp only [zP, E])
 refine ae ?_
 refine ⟨by kernel_rfl, ?_⟩
 apply k8; clear k8; refine kp [0, 1, 4, 5, 6, 7, 8, 9, 10, 13] ?_
 refine ab fun _ k9 => ?_
 refine aD ?_
 refine ab fun _ k10 => ?_
 refine af hP hN rfl ?_
 iterate 3 (refine aa rfl fun _ k0 => ?_; simp only [zO, zT, acs, reduceCtorEq, M, E, O, Z, Y, V, Int.toNat_one, Int.reduceToNat]; (repeat refine an ?_); (try refine .inl ?_); apply k0; clear k0; simp only [zP, E])
 refine' ar (want := false) 2 rfl (m := 57) (by simp only [zP, M, E]; exact rfl) (by kernel_rfl) rfl rfl rfl rfl rfl (fun hg11 => ?a11) ?b11 ?c11
 case a11 =>
  have hq11 := hg11; (try simp only [zB, reduceCtorEq] at hg11); simp only [zE]
  iterate 2 (refine aK rfl fun _ k0 => ?_; simp only [zO, zT, acs, reduceCtorEq, M, E, O, Z, Y, V, Int.toNat_one, Int.reduceToNat]; (repeat refine an ?_); (try refine .inl ?_); apply k0; clear k0; simp only [zP, E])
  (refine aa rfl fun _ k0 => ?_; simp only [zO, zT, acs, reduceCtorEq, M, E, O, Z, Y, V, Int.toNat_one, Int.reduceToNat]; (repeat refine an ?_); (try refine .inl ?_); apply k0; clear k0; simp only [zP, E])
  refine ae ?_
  refine ⟨by simp only [zP, M, E]; exact rfl, rfl, ?_, rfl⟩; (repeat refine au rfl ?_); exact aL (by exact rfl) hq11
 case b11 => exact bb
 simp only [aF, az]
 (refine aa rfl fun _ k0 => ?_; simp only [zO, zT, acs, reduceCtorEq, M, E, O, Z, Y, V, Int.toNat_one, Int.reduceToNat]; (repeat refine an ?_); (try refine .inl ?_); apply k0; clear k0; simp only [zP, E])
 refine' ar (want := false) 2 rfl (m := 61) (by simp only [zP, M, E]; exact rfl) (by kernel_rfl) rfl rfl rfl rfl rfl (fun hg12 => ?a12) ?b12 ?c12
 case a12 =>
  have hq12 := hg12; (try simp only [zB, reduceCtorEq] at hg12); simp only [zE]
  iterate 2 (refine aK rfl fun _ k0 => ?_; simp only [zO, zT, acs, reduceCtorEq, M, E, O, Z, Y, V, Int.toNat_one, Int.reduceToNat]; (repeat refine an ?_); (try refine .inl ?_); apply k0; clear k0; simp only [zP, E])
  (refine aa rfl fun _ k0 => ?_; simp only [zO, zT, acs, reduceCtorEq, M, E, O, Z, Y, V, Int.toNat_one, Int.reduceToNat]; (repeat refine an ?_); (try refine .inl ?_); apply k0; clear k0; simp only [zP, E])
  refine ae ?_
  refine ⟨by simp only [zP, M, E]; exact rfl, rfl, ?_, rfl⟩; (repeat refine au rfl ?_); exact aL (by exact rfl) hq12
 case b12 => exact bb
 simp only [aF, az]
 (refine aa rfl fun _ k0 => ?_; simp only [zO, zT, acs, reduceCtorEq, M, E, O, Z, Y, V, Int.toNat_one, Int.reduceToNat]; (repeat refine an ?_); (try refine .inl ?_); apply k0; clear k0; simp only [zP, E])
 refine' ar (want := false) 2 rfl (m := 65) (by simp only [zP, M, E]; exact rfl) (by kernel_rfl) rfl rfl rfl rfl rfl (fun hg13 => ?a13) ?b13 ?c13
 case a13 =>
  have hq13 := hg13; (try simp only [zB, reduceCtorEq] at hg13); simp only [zE]
  iterate 2 (refine aK rfl fun _ k0 => ?_; simp only [zO, zT, acs, reduceCtorEq, M, E, O, Z, Y, V, Int.toNat_one, Int.reduceToNat]; (repeat refine an ?_); (try refine .inl ?_); apply k0; clear k0; simp only [zP, E])
  (refine aa rfl fun _ k0 => ?_; simp only [zO, zT, acs, reduceCtorEq, M, E, O, Z, Y, V, Int.toNat_one, Int.reduceToNat]; (repeat refine an ?_); (try refine .inl ?_); apply k0; clear k0; simp only [zP, E])
  refine ae ?_
  refine ⟨by simp only [zP, M, E]; exact rfl, rfl, ?_, rfl⟩; (repeat refine au rfl ?_); exact aL (by exact rfl) hq13
 case b13 => exact bb
 simp only [aF, az]
 (refine aa rfl fun _ k0 => ?_; simp only [zO, zT, acs, reduceCtorEq, M, E, O, Z, Y, V, Int.toNat_one, Int.reduceToNat]; (repeat refine an ?_); (try refine .inl ?_); apply k0; clear k0; simp only [zP, E])
 refine ae ?_
 apply k10; clear k10; refine kp [0, 1, 4, 5, 6, 7, 8, 9, 10, 13, 54] ?_
 refine cd (fun hc14 => ?_) (fun hc14 => ?_)
 ·(try simp only [zB, reduceCtorEq] at hc14)
  have hbad := hc14
  refine ab fun _ k15 => ?_
  refine af hP hN rfl ?_
  (refine aa rfl fun _ k0 => ?_; simp only [zO, zT, acs, reduceCtorEq, M, E, O, Z, Y, V, Int.toNat_one, Int.reduceToNat]; (repeat refine an ?_); (try refine .inl ?_); apply k0; clear k0; simp only [zP, E])
  refine ae ?_
  apply k15; clear k15; refine kp [0, 1, 4, 5, 6, 7, 8, 9, 10, 13, 54] ?_
  refine aq ?_
  refine ⟨by first | exact .inl rfl | exact .inr rfl, _, rfl, ?_⟩; simp only [zP, M, E, Int.toNat_one, Int.reduceToNat]
  have hU := aC (i3 56 44 3 r w)
  rw [hU]
  first
  | (rw [nA (by assumption)]; all_goals exact ⟨rfl, rfl⟩)
  | (rw [nb (by assumption) (ij hbad)]; all_goals exact ⟨rfl, rfl⟩)
  | (rw [nh (by assumption) hm0 hm3 hm1 hm2 (by omega)]; all_goals exact ⟨rfl, rfl⟩)
  | (rw [kK (by assumption) hm0 hm3 hm1 hm2 (by omega)]; subst hr2; subst hr1; all_goals exact ⟨rfl, rfl⟩)
 (try simp only [zB, reduceCtorEq] at hc14)
 have hgd := hc14
 obtain ⟨hm0, hm3, hm1, hm2⟩ := sO hgd
 have hp0 := gm hm0; have hp1 := gm hm1; have hp2 := gm hm2; have hp3 := gm hm3
 have hnl := hk.nl; have hol2 := hk.ol; have hrl := hk.rl (pos r.sts (w.getD 0 [])) (by omega); have hql := hk.ql (pos r.sts (w.getD 0 [])) (by omega)
 have hi9 : idA r.ins (w.getD 1 []) = (pos r.ins (w.getD 1 []) : Int) := if_pos hm1
 have ho9 : idA r.outs (w.getD 2 []) = (pos r.outs (w.getD 2 []) : Int) := if_pos hm2
 refine ab fun _ k16 => ?_
 have hc1 : (cf 2 r.nx.length).getD (pos r.sts (w.getD 0 [])) .junk = .row (2 + pos r.sts (w.getD 0 [])) 0 := lg (by omega)
 have hl2 := tw (R := 56) (S := 44) (I := 3) (r := r) (s := pos r.sts (w.getD 0 [])) (by omega)
 refine af hP hN rfl ?_
 iterate 14 (refine aa rfl fun _ k0 => ?_; simp only [zO, zT, acs, reduceCtorEq, M, E, O, Z, Y, V, Int.toNat_one, Int.reduceToNat, eB, rdC, pY, hm0, hm1, hm2, hm3, if_true, hi9, ho9, aJ, Nat.div_one, hc1, cz, hl2, Nat.mul_one, Nat.add_zero]; (repeat refine an ?_); (try refine .inl ?_); apply k0; clear k0; simp only [zP, E])
 refine ae ?_
 apply k16; clear k16; refine kp [0, 1, 4, 5, 6, 7, 8, 9, 10, 13, 54, 69] ?_
 refine cd (fun hc17 => ?_) (fun hc17 => ?_)
 ·(try simp only [zB, reduceCtorEq] at hc17)
  have hex := hc17
  refine ab fun _ k18 => ?_
  refine af hP hN rfl ?_
  (refine aa rfl fun _ k0 => ?_; simp only [zO, zT, acs, reduceCtorEq, M, E, O, Z, Y, V, Int.toNat_one, Int.reduceToNat]; (repeat refine an ?_); (try refine .inl ?_); apply k0; clear k0; simp only [zP, E])
  refine ae ?_
  apply k18; clear k18; refine kp [0, 1, 4, 5, 6, 7, 8, 9, 10, 13, 54, 69] ?_
  refine aq ?_
  refine ⟨by first | exact .inl rfl | exact .inr rfl, _, rfl, ?_⟩; simp only [zP, M, E, Int.toNat_one, Int.reduceToNat]
  have hU := aC (i3 56 44 3 r w)
  rw [hU]
  first
  | (rw [nA (by assumption)]; all_goals exact ⟨rfl, rfl⟩)
  | (rw [nb (by assumption) (ij hbad)]; all_goals exact ⟨rfl, rfl⟩)
  | (rw [nh (by assumption) hm0 hm3 hm1 hm2 (by omega)]; all_goals exact ⟨rfl, rfl⟩)
  | (rw [kK (by assumption) hm0 hm3 hm1 hm2 (by omega)]; subst hr2; subst hr1; all_goals exact ⟨rfl, rfl⟩)
 (try simp only [zB, reduceCtorEq] at hc17)
 have hnx := hc17
 refine ax ?_
 apply k9; clear k9; refine kp [0, 1, 4, 5, 6, 7, 8, 9, 10, 13, 54, 69] ?_
 refine ab fun _ k19 => ?_
 have hs2 := tN (R := 56) (S := 44) (I := 3) (r := r) (s := pos r.sts (w.getD 0 [])) (by omega) ((r.nx.getD (pos r.sts (w.getD 0 [])) []).set (pos r.ins (w.getD 1 [])) (pos r.sts (w.getD 3 []) : Int))
 obtain ⟨r1, hr1⟩ : ∃ r1, { r with nx := r.nx.set (pos r.sts (w.getD 0 [])) ((r.nx.getD (pos r.sts (w.getD 0 [])) []).set (pos r.ins (w.getD 1 [])) (pos r.sts (w.getD 3 []) : Int)) } = r1 := ⟨_, rfl⟩
 rw [hr1] at hs2
 have hn1 : r1.nx.length = r.nx.length := by rw [← hr1]; simp
 have ho1 : r1.ot = r.ot := by rw [← hr1]
 have hf1 : r1.lf = r.lf := by rw [← hr1]
 have ht0 : (if w.getD 0 [] ∈ r.sts then (pos r.sts (w.getD 0 []) : Int) else -1) = pos r.sts (w.getD 0 []) := if_pos hm0
 have ht3 : (if w.getD 3 [] ∈ r.sts then (pos r.sts (w.getD 3 []) : Int) else -1) = pos r.sts (w.getD 3 []) := if_pos hm3
 rw [ht0, ht3, hi9, ho9]
 refine af hP hN rfl ?_
 iterate 13 (refine aa rfl fun _ k0 => ?_; simp only [zO, zT, acs, reduceCtorEq, M, E, O, Z, Y, V, Int.toNat_one, Int.reduceToNat, eB, rdC, pY, aJ, Nat.div_one, hc1, cz, hl2, Nat.mul_one, Nat.add_zero]; (repeat refine an ?_); (try refine .inl ?_); apply k0; clear k0; simp only [zP, E, hs2])
 refine ae ?_
 apply k19; clear k19; refine kp [0, 1, 4, 5, 6, 7, 8, 9, 10, 13, 54, 69] ?_
 refine ab fun _ k20 => ?_
 have hc4 : (cf (3 + r1.nx.length) r1.ot.length).getD (pos r.sts (w.getD 0 [])) .junk = .row (3 + r1.nx.length + pos r.sts (w.getD 0 [])) 0 := lg (by rw [ho1]; omega)
 have hl4 := tF (R := 56) (S := 44) (I := 3) (r := r1) (s := pos r.sts (w.getD 0 [])) (by rw [ho1]; omega)
 have hs4 := tM (R := 56) (S := 44) (I := 3) (r := r1) (s := pos r.sts (w.getD 0 [])) (by rw [ho1]; omega) ((r1.ot.getD (pos r.sts (w.getD 0 [])) []).set (pos r.ins (w.getD 1 [])) (pos r.outs (w.getD 2 []) : Int))
 have hq1 : (r1.ot.getD (pos r.sts (w.getD 0 [])) []).length = r.ins.length := by rw [ho1]; exact hql
 have hl9 : r1.ot.length = r.sts.length := by rw [ho1]; exact hol2
 obtain ⟨r2, hr2⟩ : ∃ r2, { r1 with ot := r1.ot.set (pos r.sts (w.getD 0 [])) ((r1.ot.getD (pos r.sts (w.getD 0 [])) []).set (pos r.ins (w.getD 1 [])) (pos r.outs (w.getD 2 []) : Int)) } = r2 := ⟨_, rfl⟩
 rw [hr2] at hs4
 have hf2 : r2.lf = r.lf := by rw [← hr2]; exact hf1
 refine af hP hN rfl ?_
 iterate 13 (refine aa rfl fun _ k0 => ?_; simp only [zO, zT, acs, reduceCtorEq, M, E, O, Z, Y, V, Int.toNat_one, Int.reduceToNat, eB, rdC, rB, aJ, Nat.div_one, hc4, cz, hl4, Nat.mul_one, Nat.add_zero]; (repeat refine an ?_); (try refine .inl ?_); apply k0; clear k0; simp only [zP, E, hs4])
 refine ae ?_
 apply k20; clear k20; refine kp [0, 1, 4, 5, 6, 7, 8, 9, 10, 13, 54, 69] ?_
 refine ab fun _ k21 => ?_
 have hlf0 := hk.l0; have hlf1 := hk.l1
 have hs0 := tS (R := 56) (S := 44) (I := 3) (r := r2) (r2.lf - 1)
 refine af hP hN rfl ?_
 iterate 8 (refine aa rfl fun _ k0 => ?_; simp only [zO, zT, acs, reduceCtorEq, M, E, O, Z, Y, V, Int.toNat_one, Int.reduceToNat, eB, rdC]; (repeat refine an ?_); (try refine .inl ?_); apply k0; clear k0; simp only [zP, E, hs0])
 refine ae ?_
 apply k21; clear k21; refine kp [0, 1, 4, 5, 6, 7, 8, 9, 10, 13, 54, 69] ?_
 refine ab fun _ k22 => ?_
 refine af hP hN rfl ?_
 (refine aa rfl fun _ k0 => ?_; simp only [zO, zT, acs, reduceCtorEq, M, E, O, Z, Y, V, Int.toNat_one, Int.reduceToNat]; (repeat refine an ?_); (try refine .inl ?_); apply k0; clear k0; simp only [zP, E])
 refine ae ?_
 apply k22; clear k22; refine kp [0, 1, 4, 5, 6, 7, 8, 9, 10, 13, 54, 69] ?_
 refine aq ?_
 refine ⟨by first | exact .inl rfl | exact .inr rfl, _, rfl, ?_⟩; simp only [zP, M, E, Int.toNat_one, Int.reduceToNat]
 have hU := aC (i3 56 44 3 r w)
 rw [hU]
 first
 | (rw [nA (by assumption)]; all_goals exact ⟨rfl, rfl⟩)
 | (rw [nb (by assumption) (ij hbad)]; all_goals exact ⟨rfl, rfl⟩)
 | (rw [nh (by assumption) hm0 hm3 hm1 hm2 (by omega)]; all_goals exact ⟨rfl, rfl⟩)
 | (rw [kK (by assumption) hm0 hm3 hm1 hm2 (by omega)]; subst hr2; subst hr1; all_goals exact ⟨rfl, rfl⟩)
theorem tU (r : RS) (w : List Bs) (hl : w.length ≤ 1000000) (hr : 5 ≤ r.rd) (hk : LOK r) : dR Tryd.prog (SH 56 44 3 r) 39 [.one (.ptr 0 0 0 0), .one (.list .str w)] { av := .one (.int .i64 (bI r w).2), upd := eP (SH 56 44 3 r).length (SH 56 44 3 (bI r w).1), new := (SH 56 44 3 (bI r w).1).drop (SH 56 44 3 r).length, fp := List.range (SH 56 44 3 r).length } := by
  obtain ⟨ht, h1, h2⟩ := hk.h5 hr
  rw [eo ht, eo (nY.trans ht)]
  exact tR r w h1 hl h2
open Go.Shelf in
def Tryd.lays138_ren : Go.Shelf.Ren := ⟨fun | 138 => 71 | 195 => 84 | 218 => 86 | 143 => 72 | 219 => 87 | 217 => 48 | 225 => 95 | 224 => 96 | 267 => 97 | 266 => 68 | 314 => 101 | n => n, fun | 9 => 9 | 3 => 3 | 4 => 4 | 5 => 5 | 0 => 0 | 46 => 88 | 146 => 142 | 51 => 107 | n => n, fun | 1 => 0 | n => n⟩
theorem Tryd.lays138 : Go.Proofs.Lays.n138 Tryd.prog Tryd.lays138_ren := {
  mixed := by kernel_rfl,
  f138 := Tryd.func71.trans (congrArg some (by kernel_rfl)),
  f143 := Tryd.func72.trans (congrArg some (by kernel_rfl)),
  f195 := Tryd.func84.trans (congrArg some (by kernel_rfl)),
  f217 := Tryd.func48.trans (congrArg some (by kernel_rfl)),
  f218 := Tryd.func86.trans (congrArg some (by kernel_rfl)),
  f219 := Tryd.func87.trans (congrArg some (by kernel_rfl)),
  f224 := Tryd.func96.trans (congrArg some (by kernel_rfl)),
  f225 := Tryd.func95.trans (congrArg some (by kernel_rfl)),
  f266 := Tryd.func68.trans (congrArg some (by kernel_rfl)),
  f267 := Tryd.func97.trans (congrArg some (by kernel_rfl)),
  f314 := Tryd.func101.trans (congrArg some (by kernel_rfl)),
  t0 := Tryd.underlying0,
  a0 := Tryd.isAgg0,
  z0 := Tryd.sizeOf0,
  v0 := Tryd.zeroValue0,
  t3 := Tryd.underlying3,
  a3 := Tryd.isAgg3,
  z3 := Tryd.sizeOf3,
  v3 := Tryd.zeroValue3,
  t4 := Tryd.underlying4,
  a4 := Tryd.isAgg4,
  z4 := Tryd.sizeOf4,
  v4 := Tryd.zeroValue4,
  t5 := Tryd.underlying5,
  a5 := Tryd.isAgg5,
  z5 := Tryd.sizeOf5,
  v5 := Tryd.zeroValue5,
  t9 := Tryd.underlying9,
  a9 := Tryd.isAgg9,
  z9 := Tryd.sizeOf9,
  v9 := Tryd.zeroValue9,
  t46 := Tryd.underlying88,
  a46 := Tryd.isAgg88,
  z46 := Tryd.sizeOf88,
  v46 := Tryd.zeroValue88,
  t51 := Tryd.underlying107,
  a51 := Tryd.isAgg107,
  z51 := Tryd.sizeOf107,
  v51 := Tryd.zeroValue107,
  t146 := Tryd.underlying142,
  a146 := Tryd.isAgg142,
  z146 := Tryd.sizeOf142,
  v146 := Tryd.zeroValue142,
  g1 := by kernel_rfl }
theorem sM (s : List UInt8) (c : UInt8) : bG Tryd.prog 71 [.one (.str s), .one (.str [c])] (.one (.int .i64 (Lib.countByte s c : Int))) := by
  refine ⟨⟨Tryd.f71, Tryd.func71, by kernel_rfl, by kernel_rfl⟩, fun C L σ w vs hP hi ha => ?_⟩
  match vs, ha with
  | [v1, v2], ⟨h1, h2, _⟩ =>
  have e1 : v1 = .string ⟨s.toArray⟩ := h1.2
  have e2 := h2.2
  subst e1
  simp only [RC0] at e2
  subst e2
  refine Calls.mono (Any.strings_Count_one Tryd.lays138 ⟨s.toArray⟩ c w) fun e w' hh => ?_
  obtain ⟨e1, e2⟩ := hh
  subst e2
  exact ⟨_, e1, MORE.refl _, rfl, rfl⟩
open Go.Shelf in
def Tryd.lays143_ren : Go.Shelf.Ren := ⟨fun | 143 => 72 | 219 => 87 | 217 => 48 | 225 => 95 | 224 => 96 | 267 => 97 | 266 => 68 | 314 => 101 | n => n, fun | 9 => 9 | 3 => 3 | 4 => 4 | 5 => 5 | 46 => 88 | 146 => 142 | 51 => 107 | n => n, fun | 1 => 0 | n => n⟩
theorem Tryd.lays143 : Go.Proofs.Lays.n143 Tryd.prog Tryd.lays143_ren := {
  mixed := by kernel_rfl,
  f143 := Tryd.func72.trans (congrArg some (by kernel_rfl)),
  f217 := Tryd.func48.trans (congrArg some (by kernel_rfl)),
  f219 := Tryd.func87.trans (congrArg some (by kernel_rfl)),
  f224 := Tryd.func96.trans (congrArg some (by kernel_rfl)),
  f225 := Tryd.func95.trans (congrArg some (by kernel_rfl)),
  f266 := Tryd.func68.trans (congrArg some (by kernel_rfl)),
  f267 := Tryd.func97.trans (congrArg some (by kernel_rfl)),
  f314 := Tryd.func101.trans (congrArg some (by kernel_rfl)),
  t3 := Tryd.underlying3,
  a3 := Tryd.isAgg3,
  z3 := Tryd.sizeOf3,
  v3 := Tryd.zeroValue3,
  t4 := Tryd.underlying4,
  a4 := Tryd.isAgg4,
  z4 := Tryd.sizeOf4,
  v4 := Tryd.zeroValue4,
  t5 := Tryd.underlying5,
  a5 := Tryd.isAgg5,
  z5 := Tryd.sizeOf5,
  v5 := Tryd.zeroValue5,
  t9 := Tryd.underlying9,
  a9 := Tryd.isAgg9,
  z9 := Tryd.sizeOf9,
  v9 := Tryd.zeroValue9,
  t46 := Tryd.underlying88,
  a46 := Tryd.isAgg88,
  z46 := Tryd.sizeOf88,
  v46 := Tryd.zeroValue88,
  t51 := Tryd.underlying107,
  a51 := Tryd.isAgg107,
  z51 := Tryd.sizeOf107,
  v51 := Tryd.zeroValue107,
  t146 := Tryd.underlying142,
  a146 := Tryd.isAgg142,
  z146 := Tryd.sizeOf142,
  v146 := Tryd.zeroValue142,
  g1 := by kernel_rfl }
theorem sR (s : List UInt8) (c : UInt8) : bG Tryd.prog 72 [.one (.str s), .one (.str [c])] (.one (.int .i64 (Lib.indexByte s c))) := by
  refine ⟨⟨Tryd.f72, Tryd.func72, by kernel_rfl, by kernel_rfl⟩, fun C L σ w vs hP hi ha => ?_⟩
  match vs, ha with
  | [v1, v2], ⟨h1, h2, _⟩ =>
  have e1 : v1 = .string ⟨s.toArray⟩ := h1.2
  have e2 := h2.2
  subst e1
  simp only [RC0] at e2
  subst e2
  refine Calls.mono (Any.strings_Index_one Tryd.lays143 ⟨s.toArray⟩ c w) fun e w' hh => ?_
  obtain ⟨e1, e2⟩ := hh
  subst e2
  exact ⟨_, e1, MORE.refl _, rfl, rfl⟩
set_option maxHeartbeats 1000000 in
theorem qd (s : Bs) (c : UInt8) (hs : s.length ≤ 1048576) : bG Tryd.prog 50 [.one (.str s), .one (.str [c]), .one (.int .i64 0), .one (.int .i64 (-1))] (.one (.list .str (spB c s))) := by
 have hcl := qj c s; have hsl := ln c s
 refine aO Tryd.func50 rfl (by kernel_rfl) (Nat.le_of_ble_eq_true rfl) rfl fun C hP hN hB => ?_
 replace hN : C.N = 66 := hN
 simp only [aT, E]
 refine ab fun _ k1 => ?_
 refine af hP hN rfl ?_
 (refine aa rfl fun _ k0 => ?_; simp only [zO, zT, acs, reduceCtorEq, M, E, O, Z, Y, V]; (repeat refine an ?_); (try refine .inl ?_); apply k0; clear k0; simp only [zP, E])
 refine ae ?_
 apply k1; clear k1; refine kp [0, 1, 2, 3, 8] ?_
 refine ab fun _ k2 => ?_
 refine ab fun _ k3 => ?_
 refine af hP hN rfl ?_
 iterate 2 (refine aa rfl fun _ k0 => ?_; simp only [zO, zT, acs, reduceCtorEq, M, E, O, Z, Y, V]; (repeat refine an ?_); (try refine .inl ?_); apply k0; clear k0; simp only [zP, E])
 refine ae ?_
 apply k3; clear k3; refine kp [0, 1, 2, 3, 8, 13] ?_
 refine cd (fun hc4 => ?_) (fun hc4 => ?_)
 · exfalso; (try simp only [zB, reduceCtorEq] at hc4); all_goals (first | (cases hc4; done) | omega | (simp at hc4; done) | (simp_all; done))
 (try simp only [zB, reduceCtorEq] at hc4)
 refine ax ?_
 apply k2; clear k2; refine kp [0, 1, 2, 3, 8, 13] ?_
 refine ab fun _ k5 => ?_
 refine ab fun _ k6 => ?_
 refine af hP hN rfl ?_
 iterate 2 (refine aa rfl fun _ k0 => ?_; simp only [zO, zT, acs, reduceCtorEq, M, E, O, Z, Y, V]; (repeat refine an ?_); (try refine .inl ?_); apply k0; clear k0; simp only [zP, E])
 refine ae ?_
 apply k6; clear k6; refine kp [0, 1, 2, 3, 8, 13, 15] ?_
 refine cd (fun hc7 => ?_) (fun hc7 => ?_)
 · exfalso; (try simp only [zB, reduceCtorEq] at hc7); all_goals (first | (cases hc7; done) | omega | (simp at hc7; done) | (simp_all; done))
 (try simp only [zB, reduceCtorEq] at hc7)
 refine ax ?_
 apply k5; clear k5; refine kp [0, 1, 2, 3, 8, 13, 15] ?_
 refine ab fun _ k8 => ?_
 refine ab fun _ k9 => ?_
 refine af hP hN rfl ?_
 iterate 2 (refine aa rfl fun _ k0 => ?_; simp only [zO, zT, acs, reduceCtorEq, M, E, O, Z, Y, V]; (repeat refine an ?_); (try refine .inl ?_); apply k0; clear k0; simp only [zP, E])
 refine ae ?_
 apply k9; clear k9; refine kp [0, 1, 2, 3, 8, 13, 15, 20] ?_
 refine cd (fun hc10 => ?_) (fun hc10 => ?_)
 ·(try simp only [zB, reduceCtorEq] at hc10)
  refine af hP hN rfl ?_
  iterate 2 (refine aa rfl fun _ k0 => ?_; simp only [zO, zT, acs, reduceCtorEq, M, E, O, Z, Y, V]; (repeat refine an ?_); (try refine .inl ?_); apply k0; clear k0; simp only [zP, E])
  refine aa rfl fun _ k0 => ?_
  refine aw (h := aj (sM s c)) rfl rfl (by first | exact rfl | (simp only [ev, zP, M, E]; exact rfl)) (by simp only [zV, acs, reduceCtorEq, M, E, O, Z, Y, V]) ?_
  apply k0; clear k0; simp only [zP, E]
  iterate 2 (refine aa rfl fun _ k0 => ?_; simp only [zO, zT, acs, reduceCtorEq, M, E, O, Z, Y, V]; (repeat refine an ?_); (try refine .inl ?_); apply k0; clear k0; simp only [zP, E])
  refine ae ?_
  apply k8; clear k8; refine kp [0, 1, 2, 3, 8, 13, 15, 20] ?_
  refine ab fun _ k11 => ?_
  rw [show ((Lib.countByte s c : Nat) : Int) + 1 = (spB c s).length by rw [hsl]; omega]
  refine af hP hN rfl ?_
  iterate 6 (refine aa rfl fun _ k0 => ?_; simp only [zO, zT, acs, reduceCtorEq, M, E, O, Z, Y, V]; (repeat refine an ?_); (try refine .inl ?_); apply k0; clear k0; simp only [zP, E])
  refine ae ?_
  apply k11; clear k11; refine kp [0, 1, 2, 3, 8, 13, 15, 20] ?_
  refine ab fun _ k12 => ?_
  rw [show min ((spB c s).length : Int) ((s.length : Int) + 1) = (spB c s).length by rw [hsl]; omega]
  refine af hP hN rfl ?_
  (refine aa rfl fun _ k0 => ?_; simp only [zO, zT, acs, reduceCtorEq, M, E, O, Z, Y, V]; (repeat refine an ?_); (try refine .inl ?_); apply k0; clear k0; simp only [zP, E])
  (refine aa rfl fun _ k0 => ?_; simp only [zE, op1, ev, lkp, cW, bq, dT, aV, Ty.size, Ty.dflt, reduceCtorEq, M, E, O, Z, Y, V, Tryd.el22, Tryd.td22, Tryd.td3]; (repeat refine an ?_); (try refine .inl ?_); apply k0; clear k0; simp only [zP, E])
  (refine aa rfl fun _ k0 => ?_; simp only [zO, zT, acs, reduceCtorEq, M, E, O, Z, Y, V]; (repeat refine an ?_); (try refine .inl ?_); apply k0; clear k0; simp only [zP, E])
  refine ae ?_
  apply k12; clear k12; refine kp [0, 1, 2, 3, 8, 9, 13, 15, 20] ?_
  refine ab fun _ k13 => ?_
  refine af hP hN rfl ?_
  iterate 3 (refine aa rfl fun _ k0 => ?_; simp only [zO, zT, acs, reduceCtorEq, M, E, O, Z, Y, V]; (repeat refine an ?_); (try refine .inl ?_); apply k0; clear k0; simp only [zP, E])
  refine ae ?_
  apply k13; clear k13; refine kp [0, 1, 2, 3, 8, 9, 13, 15, 20] ?_
  refine ab fun _ k14 => ?_
  refine af hP hN rfl ?_
  (refine aa rfl fun _ k0 => ?_; simp only [zO, zT, acs, reduceCtorEq, M, E, O, Z, Y, V]; (repeat refine an ?_); (try refine .inl ?_); apply k0; clear k0; simp only [zP, E])
  refine ae ?_
  apply k14; clear k14; refine kp [0, 1, 2, 3, 8, 9, 10, 13, 15, 20] ?_
  refine ab fun _ k15 => ?_
  refine aD ?_
  refine bu (fun n16 s16 => ∃ (k : Nat) (v : Nat) (r : Bs), (k + 1 ≤ (spB c s).length) ∧ (spB c r = (spB c s).drop k) ∧ (r.length ≤ s.length) ∧ n16 = (spB c s).length - k ∧ s16 = { env := [(0, .one (.str r)), (1, .one (.str [c])), (2, .one (.int .i64 0)), (3, .one (.int .i64 (((spB c s).length : Int) - 1))), (8, .one .nils), (9, .one (.row 0 v)), (10, .one (.int .i64 (k : Int)))], L := [.row .str 9 v (pcs (spB c s) k)] }) ?_ ?_
  ·exact ⟨_, _, aM [0, 1, 2, 3, 8, 9, 10], 0, 0, s, by omega, by rw [List.drop_zero], Nat.le_refl _, rfl, by rw [show pcs (spB c s) 0 = List.replicate (spB c s).length [] by unfold pcs; rw [List.take_zero, Nat.sub_zero, am]]; rfl⟩
  rintro n16 s16 ⟨k, v, r, hk, hr, hrl, rfl, rfl⟩
  refine ab fun _ k17 => ?_
  refine ab fun _ k18 => ?_
  refine af hP hN rfl ?_
  iterate 3 (refine aa rfl fun _ k0 => ?_; simp only [zO, zT, acs, reduceCtorEq, M, E, O, Z, Y, V]; (repeat refine an ?_); (try refine .inl ?_); apply k0; clear k0; simp only [zP, E])
  refine ae ?_
  apply k18; clear k18; refine kp [0, 1, 2, 3, 8, 9, 10, 36] ?_
  refine cd (fun hc19 => ?_) (fun hc19 => ?_)
  ·(try simp only [zB, reduceCtorEq] at hc19)
   refine ax ?_
   apply k17; clear k17; refine kp [0, 1, 2, 3, 8, 9, 10, 36] ?_
   refine aD ?_
   refine ab fun _ k20 => ?_
   obtain ⟨h1, h2, h3, h4⟩ := p7 (P := spB c s) hr (by omega)
   have hpl := kD (P := spB c s) (k := k) (by omega)
   refine af hP hN rfl ?_
   iterate 2 (refine aa rfl fun _ k0 => ?_; simp only [zO, zT, acs, reduceCtorEq, M, E, O, Z, Y, V]; (repeat refine an ?_); (try refine .inl ?_); apply k0; clear k0; simp only [zP, E])
   refine aa rfl fun _ k0 => ?_
   refine aw (h := aj (sR r c)) rfl rfl (by first | exact rfl | (simp only [ev, zP, M, E]; exact rfl)) (by simp only [zV, acs, reduceCtorEq, M, E, O, Z, Y, V]) ?_
   apply k0; clear k0; simp only [zP, E]
   (refine aa rfl fun _ k0 => ?_; simp only [zO, zT, acs, reduceCtorEq, M, E, O, Z, Y, V]; (repeat refine an ?_); (try refine .inl ?_); apply k0; clear k0; simp only [zP, E])
   refine ae ?_
   apply k20; clear k20; refine kp [0, 1, 2, 3, 8, 9, 10, 11, 36] ?_
   refine ab fun _ k21 => ?_
   refine ab fun _ k22 => ?_
   refine af hP hN rfl ?_
   iterate 2 (refine aa rfl fun _ k0 => ?_; simp only [zO, zT, acs, reduceCtorEq, M, E, O, Z, Y, V]; (repeat refine an ?_); (try refine .inl ?_); apply k0; clear k0; simp only [zP, E])
   refine ae ?_
   apply k22; clear k22; refine kp [0, 1, 2, 3, 8, 9, 10, 11, 36, 41] ?_
   refine cd (fun hc23 => ?_) (fun hc23 => ?_)
   · exfalso; (try simp only [zB, reduceCtorEq] at hc23); all_goals (first | (cases hc23; done) | omega | (simp at hc23; done) | (simp_all; done))
   (try simp only [zB, reduceCtorEq] at hc23)
   refine ax ?_
   apply k21; clear k21; refine kp [0, 1, 2, 3, 8, 9, 10, 11, 36, 41] ?_
   refine ab fun _ k24 => ?_
   refine af hP hN rfl ?_
   iterate 6 (refine aa rfl fun _ k0 => ?_; simp only [zO, zT, acs, reduceCtorEq, M, E, O, Z, Y, V, Int.add_zero, List.drop_zero, hpl, aJ]; (repeat refine an ?_); (try refine .inl ?_); apply k0; clear k0; simp only [zP, E])
   (refine aa rfl fun _ k0 => ?_; simp only [zE, op1, ev, lkp, cW, bq, fu, bz, cZ, ey, cQ, dH, cr, bnd, Ty.size, cS, zG, Ty.dflt, Nat.mul_one, ne_eq, not_false_eq_true, Int.natCast_one, Int.mul_one, dJ, bn, aY, aV, acs, reduceCtorEq, M, E, O, Z, Y, V, Tryd.el22, Tryd.td22, Tryd.td3, Tryd.td9, Int.add_zero, List.drop_zero, hpl, aJ]; (repeat refine an ?_); (try refine .inl ?_); apply k0; clear k0; simp only [zP, E])
   iterate 2 (refine aa rfl fun _ k0 => ?_; simp only [zO, zT, acs, reduceCtorEq, M, E, O, Z, Y, V, Int.add_zero, List.drop_zero, hpl, aJ]; (repeat refine an ?_); (try refine .inl ?_); apply k0; clear k0; simp only [zP, E])
   refine ae ?_
   apply k24; clear k24; refine kp [0, 1, 2, 3, 8, 9, 10, 11, 36, 41] ?_
   refine ab fun _ k25 => ?_
   refine af hP hN rfl ?_
   iterate 5 (refine aa rfl fun _ k0 => ?_; simp only [zO, zT, acs, reduceCtorEq, M, E, O, Z, Y, V, aE]; (repeat refine an ?_); (try refine .inl ?_); apply k0; clear k0; simp only [zP, E])
   (refine aa rfl fun _ k0 => ?_; simp only [zE, op1, ev, lkp, cW, bq, cL, jF, j5, bZ, cH, fz, Nat.div_one, dA, cO, Ty.size, aV, dite_true, fu, bz, cZ, ey, cQ, dH, cr, bnd, reduceCtorEq, M, E, O, Z, Y, V, Tryd.td3, Tryd.td9, aE]; (repeat refine an ?_); (try refine .inl ?_); apply k0; clear k0; simp only [zP, E])
   (refine aa rfl fun _ k0 => ?_; simp only [zO, zT, acs, reduceCtorEq, M, E, O, Z, Y, V, aE]; (repeat refine an ?_); (try refine .inl ?_); apply k0; clear k0; simp only [zP, E])
   refine ae ?_
   apply k25; clear k25; refine kp [0, 1, 2, 3, 8, 9, 10, 11, 36, 41] ?_
   refine af hP hN rfl ?_
   iterate 3 (refine aa rfl fun _ k0 => ?_; simp only [zO, zT, acs, reduceCtorEq, M, E, O, Z, Y, V]; (repeat refine an ?_); (try refine .inl ?_); apply k0; clear k0; simp only [zP, E])
   refine ae ?_
   refine ⟨_, _, ?_, aM [0, 1, 2, 3, 8, 9, 10], k + 1, v, r.drop ((Lib.indexByte r c).toNat + 1), by omega, h3, by rw [List.length_drop]; omega, rfl, ?_⟩
   · omega
   · rw [← oB (P := spB c s) (k := k) (by omega) h2]
     rw [show (Lib.indexByte r c + 1).toNat = (Lib.indexByte r c).toNat + 1 by omega]
     rfl
  (try simp only [zB, reduceCtorEq] at hc19)
  refine bv ?_
  apply k15; clear k15; refine kp [0, 1, 2, 3, 8, 9, 10, 36] ?_
  refine ab fun _ k26 => ?_
  obtain ⟨g1, g2⟩ := qq (P := spB c s) hr (by omega)
  have hpl := kD (P := spB c s) (k := k) (by omega)
  have hpk := kD (P := spB c s) (k := k + 1) (by omega)
  have hps := oB (P := spB c s) (k := k) (by omega) g1
  refine af hP hN rfl ?_
  iterate 5 (refine aa rfl fun _ k0 => ?_; simp only [zO, zT, acs, reduceCtorEq, M, E, O, Z, Y, V, hpl, aJ]; (repeat refine an ?_); (try refine .inl ?_); apply k0; clear k0; simp only [zP, E])
  refine ae ?_
  apply k26; clear k26; refine kp [0, 1, 2, 3, 8, 9, 10, 36] ?_
  refine ab fun _ k27 => ?_
  refine af hP hN rfl ?_
  iterate 3 (refine aa rfl fun _ k0 => ?_; simp only [zO, zT, acs, reduceCtorEq, M, E, O, Z, Y, V, List.length_set, hpl, hps]; (repeat refine an ?_); (try refine .inl ?_); apply k0; clear k0; simp only [zP, E])
  (refine aa rfl fun _ k0 => ?_; simp only [zE, op1, ev, lkp, cW, bq, fu, bz, cZ, ey, cQ, dH, cr, bnd, Ty.size, reduceCtorEq, M, E, O, Z, Y, V, Tryd.el22, Tryd.td22, Tryd.td3, List.length_set, hpl, hps]; (repeat refine an ?_); (try refine .inl ?_); apply k0; clear k0; simp only [zP, E])
  (refine aa rfl fun _ k0 => ?_; simp only [zO, zT, acs, reduceCtorEq, M, E, O, Z, Y, V, List.length_set, hpl, hps]; (repeat refine an ?_); (try refine .inl ?_); apply k0; clear k0; simp only [zP, E])
  refine ae ?_
  apply k27; clear k27; refine kp [0, 1, 2, 3, 8, 9, 10, 36] ?_
  refine aq ?_
  refine ⟨nr, _, rfl, ?_⟩; simp only [zF, zP, M, E]
  refine VLE.of_eq ?_
  have hke : k + 1 = (spB c s).length := by omega
  rw [show ((k : Int) + 1).toNat = (spB c s).length by omega, hke, sf, aE]
 · exfalso; (try simp only [zB, reduceCtorEq] at hc10); all_goals (first | (cases hc10; done) | omega | (simp at hc10; done) | (simp_all; done))
theorem qM (s : Bs) (c : UInt8) (hs : s.length ≤ 1048576) : bG Tryd.prog 37 [.one (.str s), .one (.str [c])] (.one (.list .str (spB c s))) := by
 refine aO Tryd.func37 rfl (by kernel_rfl) (Nat.le_of_ble_eq_true rfl) rfl fun C hP hN hB => ?_
 replace hN : C.N = 8 := hN
 simp only [aT, E]
 refine ab fun _ k1 => ?_
 refine af hP hN rfl ?_
 (refine aa rfl fun _ k0 => ?_; simp only [zO, zT, acs, reduceCtorEq, M, E, O, Z, Y, V]; (repeat refine an ?_); (try refine .inl ?_); apply k0; clear k0; simp only [zP, E])
 refine ae ?_
 apply k1; clear k1; refine kp [0, 1, 4] ?_
 refine ab fun _ k2 => ?_
 refine af hP hN rfl ?_
 iterate 2 (refine aa rfl fun _ k0 => ?_; simp only [zO, zT, acs, reduceCtorEq, M, E, O, Z, Y, V]; (repeat refine an ?_); (try refine .inl ?_); apply k0; clear k0; simp only [zP, E])
 refine aa rfl fun _ k0 => ?_
 refine aw (h := aj (qd s c hs)) rfl rfl (by first | exact rfl | (simp only [ev, zP, M, E]; exact rfl)) (by simp only [zV, acs, reduceCtorEq, M, E, O, Z, Y, V]) ?_
 apply k0; clear k0; simp only [zP, E]
 (refine aa rfl fun _ k0 => ?_; simp only [zO, zT, acs, reduceCtorEq, M, E, O, Z, Y, V]; (repeat refine an ?_); (try refine .inl ?_); apply k0; clear k0; simp only [zP, E])
 refine ae ?_
 apply k2; clear k2; refine kp [0, 1, 4] ?_
 refine aq ?_
 refine ⟨nr, _, rfl, ?_⟩; simp only [zF, zP, M, E]
 refine VLE.of_eq ?_
 rfl
set_option maxHeartbeats 1000000 in
theorem pU (r : RS) (s : Bs) (hk : LOK r) (hs : s.length ≤ 900000) : dR Tryd.prog (SH 56 44 3 r) 24 [.one (.ptr 0 0 0 0), .one (.str s)] { av := .one (.int .i64 (bc r s).2), upd := eP (SH 56 44 3 r).length (SH 56 44 3 (bc r s).1), new := (SH 56 44 3 (bc r s).1).drop (SH 56 44 3 r).length, fp := List.range (SH 56 44 3 r).length } := by
 refine eQ _ _ Tryd.func24 rfl (by kernel_rfl) (Nat.le_of_ble_eq_true rfl) (by intro k hk; exact List.mem_range.2 hk) (fun C hP hN hB => ?_)
 replace hB : C.bL.length = (SH 56 44 3 r).length := by rw [hB]; skip
 replace hN : C.N = 46 := hN
 simp only [aT, E]
 refine ab fun _ k1 => ?_
 refine af hP hN rfl ?_
 (refine aa rfl fun _ k0 => ?_; simp only [zO, zT, acs, reduceCtorEq, M, E, O, Z, Y, V, Int.toNat_one, Int.reduceToNat, Int.toNat_zero]; (repeat refine And.intro (by first | omega | assumption | exact rfl | exact ⟨by omega, hne (by assumption)⟩) ?_); (try refine .inl ?_); apply k0; clear k0; simp only [zP, E])
 refine ae ?_
 apply k1; clear k1; refine kp [0, 1, 4] ?_
 refine ab fun _ k2 => ?_
 refine af hP hN rfl ?_
 (refine aa rfl fun _ k0 => ?_; simp only [zO, zT, acs, reduceCtorEq, M, E, O, Z, Y, V, Int.toNat_one, Int.reduceToNat, Int.toNat_zero]; (repeat refine And.intro (by first | omega | assumption | exact rfl | exact ⟨by omega, hne (by assumption)⟩) ?_); (try refine .inl ?_); apply k0; clear k0; simp only [zP, E])
 refine aa rfl fun _ k0 => ?_
 refine aw (h := aj (qT s [10] (by omega))) rfl rfl (by first | exact rfl | (simp only [ev, zP, M, E]; exact rfl)) (by simp only [zV, acs, reduceCtorEq, M, E, O, Z, Y, V, Int.toNat_one, Int.reduceToNat, Int.toNat_zero]) ?_
 apply k0; clear k0; simp only [zP, E]
 iterate 5 (refine aa rfl fun _ k0 => ?_; simp only [zO, zT, acs, reduceCtorEq, M, E, O, Z, Y, V, Int.toNat_one, Int.reduceToNat, Int.toNat_zero]; (repeat refine And.intro (by first | omega | assumption | exact rfl | exact ⟨by omega, hne (by assumption)⟩) ?_); (try refine .inl ?_); apply k0; clear k0; simp only [zP, E])
 refine ae ?_
 apply k2; clear k2; refine kp [0, 1, 4, 5, 6] ?_
 refine ab fun _ k3 => ?_
 refine ab fun _ k4 => ?_
 refine af hP hN rfl ?_
 iterate 2 (refine aa rfl fun _ k0 => ?_; simp only [zO, zT, acs, reduceCtorEq, M, E, O, Z, Y, V, Int.toNat_one, Int.reduceToNat, Int.toNat_zero]; (repeat refine And.intro (by first | omega | assumption | exact rfl | exact ⟨by omega, hne (by assumption)⟩) ?_); (try refine .inl ?_); apply k0; clear k0; simp only [zP, E])
 refine ae ?_
 apply k4; clear k4; refine kp [0, 1, 4, 5, 6, 15] ?_
 refine cd (fun hc5 => ?_) (fun hc5 => ?_)
 ·(try simp only [zB, reduceCtorEq] at hc5)
  have hsf : da s [10] = false := by simpa using hc5
  refine ab fun _ k6 => ?_
  refine af hP hN rfl ?_
  (refine aa rfl fun _ k0 => ?_; simp only [zO, zT, acs, reduceCtorEq, M, E, O, Z, Y, V, Int.toNat_one, Int.reduceToNat, Int.toNat_zero]; (repeat refine And.intro (by first | omega | assumption | exact rfl | exact ⟨by omega, hne (by assumption)⟩) ?_); (try refine .inl ?_); apply k0; clear k0; simp only [zP, E])
  refine ae ?_
  apply k6; clear k6; refine kp [0, 1, 4, 5, 6, 15] ?_
  refine aq ?_
  refine ⟨by first | exact .inl rfl | exact .inr rfl, _, rfl, ?_⟩; simp only [zP, M, E, Int.toNat_one, Int.reduceToNat, Int.toNat_zero]
  first
  | (rw [fM hsf, aC (Nat.le_refl _)]; all_goals exact ⟨rfl, rfl⟩)
  | (rw [iE hsf hcm, aC (Nat.le_refl _)]; all_goals exact ⟨rfl, rfl⟩)
  | (rw [fE hsf hcm hin, aC (Nat.le_refl _)]; all_goals exact ⟨rfl, rfl⟩)
  | (rw [iB hsf hcm hni hr5]
     have hU := aC (L0 := SH 56 44 3 r) (L1 := SH 56 44 3 { (b0 r (spB 32 (s.take (s.length - 1)))).1 with rd := (b0 r (spB 32 (s.take (s.length - 1)))).1.rd + 1 }) hle
     rw [hU]; all_goals exact ⟨rfl, rfl⟩)
  | (rw [i4 hsf hcm hni hr5]
     have hU := aC (L0 := SH 56 44 3 r) (L1 := SH 56 44 3 { (bI r (spB 32 (s.take (s.length - 1)))).1 with rd := (bI r (spB 32 (s.take (s.length - 1)))).1.rd + 1 }) hle
     rw [hU]; all_goals exact ⟨rfl, rfl⟩)
 (try simp only [zB, reduceCtorEq] at hc5)
 have hsf : da s [10] = true := by simpa using hc5
 refine ax ?_
 apply k3; clear k3; refine kp [0, 1, 4, 5, 6, 15] ?_
 refine ab fun _ k7 => ?_
 refine ab fun _ k8 => ?_
 rw [if_pos hsf]
 have hne : ¬ (s.take (s.length - 1)) = [] → 0 < (((s.take (s.length - 1))).length : Int) := fun e => by have := List.length_pos_iff.2 e; omega
 refine af hP hN rfl ?_
 iterate 3 (refine aa rfl fun _ k0 => ?_; simp only [zO, zT, acs, reduceCtorEq, M, E, O, Z, Y, V, Int.toNat_one, Int.reduceToNat, Int.toNat_zero]; (repeat refine And.intro (by first | omega | assumption | exact rfl | exact ⟨by omega, hne (by assumption)⟩) ?_); (try refine .inl ?_); apply k0; clear k0; simp only [zP, E])
 refine' ar (want := false) 3 rfl (m := 18) (by simp only [zP, M, E]; exact rfl) (by kernel_rfl) rfl rfl rfl rfl rfl (fun hg9 => ?a9) ?b9 ?c9
 case a9 =>
  have hq9 := hg9; (try simp only [zB, reduceCtorEq] at hg9); simp only [zE]
  iterate 3 (refine aK rfl fun _ k0 => ?_; simp only [zO, zT, acs, reduceCtorEq, M, E, O, Z, Y, V, Int.toNat_one, Int.reduceToNat, Int.toNat_zero]; (repeat refine And.intro (by first | omega | assumption | exact rfl | exact ⟨by omega, hne (by assumption)⟩) ?_); (try refine .inl ?_); apply k0; clear k0; simp only [zP, E])
  (refine aa rfl fun _ k0 => ?_; simp only [zO, zT, acs, reduceCtorEq, M, E, O, Z, Y, V, Int.toNat_one, Int.reduceToNat, Int.toNat_zero]; (repeat refine And.intro (by first | omega | assumption | exact rfl | exact ⟨by omega, hne (by assumption)⟩) ?_); (try refine .inl ?_); apply k0; clear k0; simp only [zP, E])
  refine ae ?_
  refine ⟨by simp only [zP, M, E]; exact rfl, rfl, ?_, rfl⟩; (repeat refine au rfl ?_); exact aL (by exact rfl) hq9
 case b9 => exact bb
 simp only [aF, az]
 refine ae ?_
 apply k8; clear k8; refine kp [0, 1, 4, 5, 6, 15, 22] ?_
 refine cd (fun hc10 => ?_) (fun hc10 => ?_)
 ·(try simp only [zB, reduceCtorEq] at hc10)
  have hcm := hc10
  refine ab fun _ k11 => ?_
  refine af hP hN rfl ?_
  (refine aa rfl fun _ k0 => ?_; simp only [zO, zT, acs, reduceCtorEq, M, E, O, Z, Y, V, Int.toNat_one, Int.reduceToNat, Int.toNat_zero]; (repeat refine And.intro (by first | omega | assumption | exact rfl | exact ⟨by omega, hne (by assumption)⟩) ?_); (try refine .inl ?_); apply k0; clear k0; simp only [zP, E])
  refine ae ?_
  apply k11; clear k11; refine kp [0, 1, 4, 5, 6, 15, 22] ?_
  refine aq ?_
  refine ⟨by first | exact .inl rfl | exact .inr rfl, _, rfl, ?_⟩; simp only [zP, M, E, Int.toNat_one, Int.reduceToNat, Int.toNat_zero]
  first
  | (rw [fM hsf, aC (Nat.le_refl _)]; all_goals exact ⟨rfl, rfl⟩)
  | (rw [iE hsf hcm, aC (Nat.le_refl _)]; all_goals exact ⟨rfl, rfl⟩)
  | (rw [fE hsf hcm hin, aC (Nat.le_refl _)]; all_goals exact ⟨rfl, rfl⟩)
  | (rw [iB hsf hcm hni hr5]
     have hU := aC (L0 := SH 56 44 3 r) (L1 := SH 56 44 3 { (b0 r (spB 32 (s.take (s.length - 1)))).1 with rd := (b0 r (spB 32 (s.take (s.length - 1)))).1.rd + 1 }) hle
     rw [hU]; all_goals exact ⟨rfl, rfl⟩)
  | (rw [i4 hsf hcm hni hr5]
     have hU := aC (L0 := SH 56 44 3 r) (L1 := SH 56 44 3 { (bI r (spB 32 (s.take (s.length - 1)))).1 with rd := (bI r (spB 32 (s.take (s.length - 1)))).1.rd + 1 }) hle
     rw [hU]; all_goals exact ⟨rfl, rfl⟩)
 (try simp only [zB, reduceCtorEq] at hc10)
 have hcm := hc10
 refine ax ?_
 apply k7; clear k7; refine kp [0, 1, 4, 5, 6, 15, 22] ?_
 refine ab fun _ k12 => ?_
 refine af hP hN rfl ?_
 (refine aa rfl fun _ k0 => ?_; simp only [zO, zT, acs, reduceCtorEq, M, E, O, Z, Y, V, Int.toNat_one, Int.reduceToNat, Int.toNat_zero]; (repeat refine And.intro (by first | omega | assumption | exact rfl | exact ⟨by omega, hne (by assumption)⟩) ?_); (try refine .inl ?_); apply k0; clear k0; simp only [zP, E])
 refine aa rfl fun _ k0 => ?_
 refine aw (h := aj (qM (s.take (s.length - 1)) 32 (by rw [List.length_take]; omega))) rfl rfl (by first | exact rfl | (simp only [ev, zP, M, E]; exact rfl)) (by simp only [zV, acs, reduceCtorEq, M, E, O, Z, Y, V, Int.toNat_one, Int.reduceToNat, Int.toNat_zero]) ?_
 apply k0; clear k0; simp only [zP, E]
 (refine aa rfl fun _ k0 => ?_; simp only [zO, zT, acs, reduceCtorEq, M, E, O, Z, Y, V, Int.toNat_one, Int.reduceToNat, Int.toNat_zero]; (repeat refine And.intro (by first | omega | assumption | exact rfl | exact ⟨by omega, hne (by assumption)⟩) ?_); (try refine .inl ?_); apply k0; clear k0; simp only [zP, E])
 refine ae ?_
 apply k12; clear k12; refine kp [0, 1, 4, 5, 6, 7, 15, 22] ?_
 refine ab fun _ k13 => ?_
 refine ab fun _ k14 => ?_
 refine af hP hN rfl ?_
 (refine aa rfl fun _ k0 => ?_; simp only [zO, zT, acs, reduceCtorEq, M, E, O, Z, Y, V, Int.toNat_one, Int.reduceToNat, Int.toNat_zero]; (repeat refine And.intro (by first | omega | assumption | exact rfl | exact ⟨by omega, hne (by assumption)⟩) ?_); (try refine .inl ?_); apply k0; clear k0; simp only [zP, E])
 refine aa rfl fun _ k0 => ?_
 refine aw (h := aj (fv (spB 32 (s.take (s.length - 1))) [])) rfl rfl (by first | exact rfl | (simp only [ev, zP, M, E]; exact rfl)) (by simp only [zV, acs, reduceCtorEq, M, E, O, Z, Y, V, Int.toNat_one, Int.reduceToNat, Int.toNat_zero]) ?_
 apply k0; clear k0; simp only [zP, E]
 refine ae ?_
 apply k14; clear k14; refine kp [0, 1, 4, 5, 6, 7, 15, 22, 26] ?_
 refine cd (fun hc15 => ?_) (fun hc15 => ?_)
 ·(try simp only [zB, reduceCtorEq] at hc15)
  have hin := hc15
  refine ab fun _ k16 => ?_
  refine af hP hN rfl ?_
  (refine aa rfl fun _ k0 => ?_; simp only [zO, zT, acs, reduceCtorEq, M, E, O, Z, Y, V, Int.toNat_one, Int.reduceToNat, Int.toNat_zero]; (repeat refine And.intro (by first | omega | assumption | exact rfl | exact ⟨by omega, hne (by assumption)⟩) ?_); (try refine .inl ?_); apply k0; clear k0; simp only [zP, E])
  refine ae ?_
  apply k16; clear k16; refine kp [0, 1, 4, 5, 6, 7, 15, 22, 26] ?_
  refine aq ?_
  refine ⟨by first | exact .inl rfl | exact .inr rfl, _, rfl, ?_⟩; simp only [zP, M, E, Int.toNat_one, Int.reduceToNat, Int.toNat_zero]
  first
  | (rw [fM hsf, aC (Nat.le_refl _)]; all_goals exact ⟨rfl, rfl⟩)
  | (rw [iE hsf hcm, aC (Nat.le_refl _)]; all_goals exact ⟨rfl, rfl⟩)
  | (rw [fE hsf hcm hin, aC (Nat.le_refl _)]; all_goals exact ⟨rfl, rfl⟩)
  | (rw [iB hsf hcm hni hr5]
     have hU := aC (L0 := SH 56 44 3 r) (L1 := SH 56 44 3 { (b0 r (spB 32 (s.take (s.length - 1)))).1 with rd := (b0 r (spB 32 (s.take (s.length - 1)))).1.rd + 1 }) hle
     rw [hU]; all_goals exact ⟨rfl, rfl⟩)
  | (rw [i4 hsf hcm hni hr5]
     have hU := aC (L0 := SH 56 44 3 r) (L1 := SH 56 44 3 { (bI r (spB 32 (s.take (s.length - 1)))).1 with rd := (bI r (spB 32 (s.take (s.length - 1)))).1.rd + 1 }) hle
     rw [hU]; all_goals exact ⟨rfl, rfl⟩)
 (try simp only [zB, reduceCtorEq] at hc15)
 have hni := hc15
 refine ax ?_
 apply k13; clear k13; refine kp [0, 1, 4, 5, 6, 7, 15, 22, 26] ?_
 refine ab fun _ k17 => ?_
 refine af hP hN rfl ?_
 (refine aa rfl fun _ k0 => ?_; simp only [zO, zT, acs, reduceCtorEq, M, E, O, Z, Y, V, Int.toNat_one, Int.reduceToNat, Int.toNat_zero]; (repeat refine And.intro (by first | omega | assumption | exact rfl | exact ⟨by omega, hne (by assumption)⟩) ?_); (try refine .inl ?_); apply k0; clear k0; simp only [zP, E])
 refine ae ?_
 apply k17; clear k17; refine kp [0, 1, 4, 5, 6, 7, 8, 15, 22, 26] ?_
 refine ab fun _ k18 => ?_
 refine ab fun _ k19 => ?_
 have hwl : (spB 32 (s.take (s.length - 1))).length ≤ 1000000 := by have := qY 32 (s.take (s.length - 1)); rw [List.length_take] at this; omega
 refine af hP hN rfl ?_
 iterate 5 (refine aa rfl fun _ k0 => ?_; simp only [zO, zT, acs, reduceCtorEq, M, E, O, Z, Y, V, Int.toNat_one, Int.reduceToNat, Int.toNat_zero, mJ, rdC]; (repeat refine And.intro (by first | omega | assumption | exact rfl | exact ⟨by omega, hne (by assumption)⟩) ?_); (try refine .inl ?_); apply k0; clear k0; simp only [zP, E])
 refine ae ?_
 apply k19; clear k19; refine kp [0, 1, 4, 5, 6, 7, 8, 15, 22, 26, 31] ?_
 refine cd (fun hc20 => ?_) (fun hc20 => ?_)
 ·(try simp only [zB, reduceCtorEq] at hc20)
  have hr5 := hc20
  have hle := pE (R := 56) (S := 44) (I := 3) (r := r) (fun e => (hk.h3 e).1) (spB 32 (s.take (s.length - 1)))
  have hA := aC hle
  have hS := rU 56 44 3 (b0 r (spB 32 (s.take (s.length - 1)))).1
  have hrd : (b0 r (spB 32 (s.take (s.length - 1)))).1.rd = r.rd := mh
  have hrl := hk.rl
  refine af hP hN rfl ?_
  iterate 2 (refine aa rfl fun _ k0 => ?_; simp only [zO, zT, acs, reduceCtorEq, M, E, O, Z, Y, V, Int.toNat_one, Int.reduceToNat, Int.toNat_zero]; (repeat refine And.intro (by first | omega | assumption | exact rfl | exact ⟨by omega, hne (by assumption)⟩) ?_); (try refine .inl ?_); apply k0; clear k0; simp only [zP, E, hA])
  refine aa rfl fun _ k0 => ?_
  refine aw (h := sS r (spB 32 (s.take (s.length - 1))) hwl (kt ..) (by omega) hk) rfl rfl (by first | exact rfl | (simp only [ev, zP, M, E]; exact rfl)) (by simp only [zV, acs, reduceCtorEq, M, E, O, Z, Y, V, Int.toNat_one, Int.reduceToNat, Int.toNat_zero]) ?_
  apply k0; clear k0; simp only [zP, E, hA]
  (refine aa rfl fun _ k0 => ?_; simp only [zO, zT, acs, reduceCtorEq, M, E, O, Z, Y, V, Int.toNat_one, Int.reduceToNat, Int.toNat_zero]; (repeat refine And.intro (by first | omega | assumption | exact rfl | exact ⟨by omega, hne (by assumption)⟩) ?_); (try refine .inl ?_); apply k0; clear k0; simp only [zP, E, hA])
  refine ae ?_
  apply k18; clear k18; refine kp [0, 1, 4, 5, 6, 7, 8, 15, 22, 26, 31] ?_
  refine ab fun _ k21 => ?_
  refine af hP hN rfl ?_
  iterate 8 (refine aa rfl fun _ k0 => ?_; simp only [zO, zT, acs, reduceCtorEq, M, E, O, Z, Y, V, Int.toNat_one, Int.reduceToNat, Int.toNat_zero, mJ, rdC]; (repeat refine And.intro (by first | omega | assumption | exact rfl | exact ⟨by omega, hne (by assumption)⟩) ?_); (try refine .inl ?_); apply k0; clear k0; simp only [zP, E, hS])
  refine ae ?_
  apply k21; clear k21; refine kp [0, 1, 4, 5, 6, 7, 8, 15, 22, 26, 31] ?_
  refine ab fun _ k22 => ?_
  refine af hP hN rfl ?_
  iterate 2 (refine aa rfl fun _ k0 => ?_; simp only [zO, zT, acs, reduceCtorEq, M, E, O, Z, Y, V, Int.toNat_one, Int.reduceToNat, Int.toNat_zero]; (repeat refine And.intro (by first | omega | assumption | exact rfl | exact ⟨by omega, hne (by assumption)⟩) ?_); (try refine .inl ?_); apply k0; clear k0; simp only [zP, E])
  refine ae ?_
  apply k22; clear k22; refine kp [0, 1, 4, 5, 6, 7, 8, 15, 22, 26, 31] ?_
  refine aq ?_
  refine ⟨by first | exact .inl rfl | exact .inr rfl, _, rfl, ?_⟩; simp only [zP, M, E, Int.toNat_one, Int.reduceToNat, Int.toNat_zero]
  first
  | (rw [fM hsf, aC (Nat.le_refl _)]; all_goals exact ⟨rfl, rfl⟩)
  | (rw [iE hsf hcm, aC (Nat.le_refl _)]; all_goals exact ⟨rfl, rfl⟩)
  | (rw [fE hsf hcm hin, aC (Nat.le_refl _)]; all_goals exact ⟨rfl, rfl⟩)
  | (rw [iB hsf hcm hni hr5]
     have hU := aC (L0 := SH 56 44 3 r) (L1 := SH 56 44 3 { (b0 r (spB 32 (s.take (s.length - 1)))).1 with rd := (b0 r (spB 32 (s.take (s.length - 1)))).1.rd + 1 }) hle
     rw [hU]; all_goals exact ⟨rfl, rfl⟩)
  | (rw [i4 hsf hcm hni hr5]
     have hU := aC (L0 := SH 56 44 3 r) (L1 := SH 56 44 3 { (bI r (spB 32 (s.take (s.length - 1)))).1 with rd := (bI r (spB 32 (s.take (s.length - 1)))).1.rd + 1 }) hle
     rw [hU]; all_goals exact ⟨rfl, rfl⟩)
 (try simp only [zB, reduceCtorEq] at hc20)
 have hr5 := hc20
 have hle := pR (R := 56) (S := 44) (I := 3) (r := r) (hk.h5 (by omega)).1 (spB 32 (s.take (s.length - 1)))
 have hA := aC hle
 have hS := rU 56 44 3 (bI r (spB 32 (s.take (s.length - 1)))).1
 have hrd : (bI r (spB 32 (s.take (s.length - 1)))).1.rd = r.rd := oG
 have hrl := hk.rl
 refine af hP hN rfl ?_
 iterate 2 (refine aa rfl fun _ k0 => ?_; simp only [zO, zT, acs, reduceCtorEq, M, E, O, Z, Y, V, Int.toNat_one, Int.reduceToNat, Int.toNat_zero]; (repeat refine And.intro (by first | omega | assumption | exact rfl | exact ⟨by omega, hne (by assumption)⟩) ?_); (try refine .inl ?_); apply k0; clear k0; simp only [zP, E, hA])
 refine aa rfl fun _ k0 => ?_
 refine aw (h := tU r (spB 32 (s.take (s.length - 1))) hwl (by omega) hk) rfl rfl (by first | exact rfl | (simp only [ev, zP, M, E]; exact rfl)) (by simp only [zV, acs, reduceCtorEq, M, E, O, Z, Y, V, Int.toNat_one, Int.reduceToNat, Int.toNat_zero]) ?_
 apply k0; clear k0; simp only [zP, E, hA]
 (refine aa rfl fun _ k0 => ?_; simp only [zO, zT, acs, reduceCtorEq, M, E, O, Z, Y, V, Int.toNat_one, Int.reduceToNat, Int.toNat_zero]; (repeat refine And.intro (by first | omega | assumption | exact rfl | exact ⟨by omega, hne (by assumption)⟩) ?_); (try refine .inl ?_); apply k0; clear k0; simp only [zP, E, hA])
 refine ae ?_
 apply k18; clear k18; refine kp [0, 1, 4, 5, 6, 7, 8, 15, 22, 26, 31] ?_
 refine ab fun _ k23 => ?_
 refine af hP hN rfl ?_
 iterate 8 (refine aa rfl fun _ k0 => ?_; simp only [zO, zT, acs, reduceCtorEq, M, E, O, Z, Y, V, Int.toNat_one, Int.reduceToNat, Int.toNat_zero, mJ, rdC]; (repeat refine And.intro (by first | omega | assumption | exact rfl | exact ⟨by omega, hne (by assumption)⟩) ?_); (try refine .inl ?_); apply k0; clear k0; simp only [zP, E, hS])
 refine ae ?_
 apply k23; clear k23; refine kp [0, 1, 4, 5, 6, 7, 8, 15, 22, 26, 31] ?_
 refine ab fun _ k24 => ?_
 refine af hP hN rfl ?_
 iterate 2 (refine aa rfl fun _ k0 => ?_; simp only [zO, zT, acs, reduceCtorEq, M, E, O, Z, Y, V, Int.toNat_one, Int.reduceToNat, Int.toNat_zero]; (repeat refine And.intro (by first | omega | assumption | exact rfl | exact ⟨by omega, hne (by assumption)⟩) ?_); (try refine .inl ?_); apply k0; clear k0; simp only [zP, E])
 refine ae ?_
 apply k24; clear k24; refine kp [0, 1, 4, 5, 6, 7, 8, 15, 22, 26, 31] ?_
 refine aq ?_
 refine ⟨by first | exact .inl rfl | exact .inr rfl, _, rfl, ?_⟩; simp only [zP, M, E, Int.toNat_one, Int.reduceToNat, Int.toNat_zero]
 first
 | (rw [fM hsf, aC (Nat.le_refl _)]; all_goals exact ⟨rfl, rfl⟩)
 | (rw [iE hsf hcm, aC (Nat.le_refl _)]; all_goals exact ⟨rfl, rfl⟩)
 | (rw [fE hsf hcm hin, aC (Nat.le_refl _)]; all_goals exact ⟨rfl, rfl⟩)
 | (rw [iB hsf hcm hni hr5]
    have hU := aC (L0 := SH 56 44 3 r) (L1 := SH 56 44 3 { (b0 r (spB 32 (s.take (s.length - 1)))).1 with rd := (b0 r (spB 32 (s.take (s.length - 1)))).1.rd + 1 }) hle
    rw [hU]; all_goals exact ⟨rfl, rfl⟩)
 | (rw [i4 hsf hcm hni hr5]
    have hU := aC (L0 := SH 56 44 3 r) (L1 := SH 56 44 3 { (bI r (spB 32 (s.take (s.length - 1)))).1 with rd := (bI r (spB 32 (s.take (s.length - 1)))).1.rd + 1 }) hle
    rw [hU]; all_goals exact ⟨rfl, rfl⟩)
section
open Go.RowKit
def XP (N b : Nat) : Prop := b ≤ N + 8 ∧ b ≠ N + 3
structure Chg (j : Nat) (W W' : World) : Prop where
  size : W.heap.size ≤ W'.heap.size
  same : ∀ b, b ≠ j → b < W.heap.size → W'.heap[b]? = W.heap[b]?
  os : W'.os = W.os
  tape : W'.tape = W.tape
  output : W'.output = W.output
theorem i5 (W : World) (j : Nat) (o : Obj) : Chg j W (W.putObj j o) := ⟨by simp, fun b hb _ => World.putObj_heap_other hb, rfl, rfl, rfl⟩
theorem dI (W : World) (j : Nat) (v : Value) : Chg j W (W.setCell ⟨j, 0, none⟩ v) := by
  have h := (Below.refl j W).setCell (p := ⟨j, 0, none⟩) (Nat.le_refl _) v
  exact ⟨h.size, fun b hb _ => Below.heap_setCell W ⟨j, 0, none⟩ v b hb, h.os, h.tape, h.output⟩
theorem Chg.boxed {j B : Nat} {W W' : World} {t : TypeId} {v : Value} (h : Chg j W W') (hb : Boxed W B t v) (hne : B ≠ j) : Boxed W' B t v := (h.same B hne hb.lt).trans hb
theorem Chg.below {j B : Nat} {w W W' : World} (h : Chg j W W') (hb : Below B w W) (hB : B ≤ w.heap.size) (hj : B ≤ j) : Below B w W' :=
  ⟨h.os.trans hb.os, h.tape.trans hb.tape, h.output.trans hb.output, Nat.le_trans hb.size h.size, fun k hk => (h.same k (by omega) (by have := hb.size; omega)).trans (hb.block k hk)⟩
def zmC : Array Value := #[.string ⟨#[]⟩, .slice none 0 0, .slice none 0 0, .int .i64 0, .int .i64 0, .slice none 0 0, .slice none 0 0]
structure PS (w : World) (last : Int) (W : World) : Prop where
  bl : Below w.heap.size w W
  b2 : W.heap[w.heap.size]? = some (.cells zmC 29 (0, 0))
  b3 : Boxed W (w.heap.size + 1) 3 (.int .i64 0)
  b4 : Boxed W (w.heap.size + 2) 32 (.int .i64 0)
  b5 : Boxed W (w.heap.size + 4) 54 (.pointer (some ⟨w.heap.size + 3, 0, none⟩))
  b6 : Boxed W (w.heap.size + 5) 3 (.int .i64 last)
  sz : w.heap.size + 8 < W.heap.size
def HS (N : Nat) (r : RS) (W : World) : Prop := ∃ σ, ji Tryd.prog (XP N) (SH 56 44 3 r) σ W ∧ RC (du Tryd.prog (XP N) W) (SH 56 44 3 r) σ W (.ptr 0 0 0 0) (.pointer (some ⟨N + 3, 0, none⟩))
theorem mR {w W W' : World} {last : Int} {j : Nat} (h : PS w last W) (hc : Chg j W W') (hj : w.heap.size + 5 < j) : PS w last W' :=
  ⟨hc.below h.bl (Nat.le_refl _) (by omega), (hc.same _ (by omega) (by have := h.sz; omega)).trans h.b2, hc.boxed h.b3 (by omega), hc.boxed h.b4 (by omega), hc.boxed h.b5 (by omega), hc.boxed h.b6 (by omega), Nat.lt_of_lt_of_le h.sz hc.size⟩
theorem kc {N : Nat} {W W' : World} {r : RS} {j : Nat} (h : HS N r W) (hc : Chg j W W') (hj : XP N j) (hz : N + 8 < W.heap.size) : HS N r W' := by
  obtain ⟨σ, h1, h2⟩ := h
  obtain ⟨g1, g2⟩ := ra (X' := XP N) h1 hc.size (fun b hb hx => hc.same b (fun e => hx (e ▸ hj)) hb) (fun b hb _ => hb) (fun b hb => by have := hc.size; have := hb.1; omega)
  exact ⟨σ, g1, g2 _ _ h2⟩
def IPs (s : Bs) (w : World) (k : Nat) (W : World) : Prop := PS w (k : Int) W ∧ Boxed W (w.heap.size + 6) 9 (.string ⟨(aN s k).toArray⟩) ∧ HS w.heap.size (bD s k) W ∧ OKR s k
def IYs (s : Bs) (w : World) (k : Nat) (W : World) : Prop := PS w ((k + 1 : Nat) : Int) W ∧ Boxed W (w.heap.size + 6) 9 (.string ⟨(aN s k).toArray⟩) ∧ HS w.heap.size (bD s (k + 1)) W ∧ OKR s (k + 1)
structure IXs (s : Bs) (w : World) (k : Nat) (W : World) : Prop where
  bl : Below w.heap.size w W
  b2 : W.heap[w.heap.size]? = some (.cells zmC 29 (0, 0))
  b3 : Boxed W (w.heap.size + 1) 3 (.int .i64 ((k : Int) + 1))
  b4 : Boxed W (w.heap.size + 2) 32 (.int .i64 (bc (bD s k) (bM s k)).2)
  e0 : ¬ (bc (bD s k) (bM s k)).2 = 0
  ok : OKR s k
theorem rG {s : Bs} {w W : World} {k : Nat} {o : Obj} (h : IPs s w k W) : IPs s w k (W.putObj (w.heap.size + 8) o) := by
  obtain ⟨h1, h2, h3, h4⟩ := h
  have hc := i5 W (w.heap.size + 8) o
  exact ⟨mR h1 hc (by omega), hc.boxed h2 (by omega), kc h3 hc ⟨Nat.le_refl _, by omega⟩ h1.sz, h4⟩
theorem se {s : Bs} {w W : World} {k : Nat} {o : Obj} (h : IYs s w k W) : IYs s w k (W.putObj (w.heap.size + 8) o) := by
  obtain ⟨h1, h2, h3, h4⟩ := h
  have hc := i5 W (w.heap.size + 8) o
  exact ⟨mR h1 hc (by omega), hc.boxed h2 (by omega), kc h3 hc ⟨Nat.le_refl _, by omega⟩ h1.sz, h4⟩
theorem sx {s : Bs} {w W : World} {k : Nat} {o : Obj} (h : IXs s w k W) (hz : w.heap.size + 8 < W.heap.size) : IXs s w k (W.putObj (w.heap.size + 8) o) := by
  have hc := i5 W (w.heap.size + 8) o
  exact ⟨hc.below h.bl (Nat.le_refl _) (by omega), (hc.same _ (by omega) (by omega)).trans h.b2, hc.boxed h.b3 (by omega), hc.boxed h.b4 (by omega), h.e0, h.ok⟩
theorem qL {s : Bs} {w W : World} {k : Nat} (h : IYs s w k W) : IPs s w (k + 1) (W.setCell ⟨w.heap.size + 6, 0, none⟩ (.string ⟨(aN s (k + 1)).toArray⟩)) := by
  obtain ⟨h1, h2, h3, h4⟩ := h
  have hc := dI W (w.heap.size + 6) (.string ⟨(aN s (k + 1)).toArray⟩)
  exact ⟨mR h1 hc (by omega), h2.set _, kc h3 hc ⟨by omega, by omega⟩ h1.sz, h4⟩
def LQ (s : Bs) (w : World) (k : Nat) (e : Ending) (W : World) : Prop :=
  e = .returned (.int .i64 (bc (bD s k) (bM s k)).2) ∧ PS w (k : Int) W ∧ Boxed W (w.heap.size + 6) 9 (.string ⟨(aN s k).toArray⟩) ∧ HS w.heap.size (bD s (k + 1)) W
theorem tu (r r' : RS) (v : AV) (hle : (SH 56 44 3 r).length ≤ (SH 56 44 3 r').length) : app (SH 56 44 3 r) { av := v, upd := eP (SH 56 44 3 r).length (SH 56 44 3 r'), new := (SH 56 44 3 r').drop (SH 56 44 3 r).length, fp := List.range (SH 56 44 3 r).length } = SH 56 44 3 r' := aC hle
theorem ov {s : Bs} {w W : World} {k : Nat} (hs : s.length ≤ 900000) (h : IPs s w k W) (hne : aN s k ≠ []) :
    Calls Tryd.prog 24 #[.pointer (some ⟨w.heap.size + 3, 0, none⟩), .string ⟨(bM s k).toArray⟩] W fun e W' => LQ s w k e W' ∧ W'.heap[w.heap.size + 7]? = W.heap[w.heap.size + 7]? ∧ W'.heap[w.heap.size + 8]? = W.heap[w.heap.size + 8]? := by
  obtain ⟨h1, h2, ⟨σ, h3, h4⟩, h5⟩ := h
  obtain ⟨r1, r2, r3⟩ := jY (by omega : s.length ≤ 1048576) h5
  have hlk := sJ r1 (by omega)
  have hll : (bM s k).length ≤ 900000 := by unfold bM; have := oM s k; rw [List.length_take]; omega
  refine (oZ (pU (bD s k) (bM s k) hlk hll) h3 (vs := [.pointer (some ⟨w.heap.size + 3, 0, none⟩), .string ⟨(bM s k).toArray⟩]) ⟨h4, ⟨rfl, rfl⟩, trivial⟩).mono fun e W' hh => ?_
  obtain ⟨v, σ', he, g1, g2, g3, g4⟩ := hh
  rw [tu _ _ _ (tT hlk _)] at g1 g2 g4
  have hv : v = .int .i64 (bc (bD s k) (bM s k)).2 := g2.2
  subst hv
  have hsame : ∀ b, XP w.heap.size b → W'.heap[b]? = W.heap[b]? := g3.same
  have hbx : ∀ {B : Nat} {t : TypeId} {v : Value}, XP w.heap.size B → Boxed W B t v → Boxed W' B t v := fun hB hb => (hsame _ hB).trans hb
  have hz := h1.sz
  refine ⟨⟨he, ⟨⟨g3.os.trans h1.bl.os, g3.tape.trans h1.bl.tape, g3.output.trans h1.bl.output, Nat.le_trans h1.bl.size g3.size, fun b hb => (hsame b ⟨by omega, by omega⟩).trans (h1.bl.block b hb)⟩, (hsame _ ⟨by omega, by omega⟩).trans h1.b2, hbx ⟨by omega, by omega⟩ h1.b3, hbx ⟨by omega, by omega⟩ h1.b4, hbx ⟨by omega, by omega⟩ h1.b5, hbx ⟨by omega, by omega⟩ h1.b6, Nat.lt_of_lt_of_le hz g3.size⟩,
    hbx ⟨by omega, by omega⟩ h2, ⟨σ', g1, g4 _ _ h4⟩⟩, hsame _ ⟨by omega, by omega⟩, hsame _ ⟨by omega, by omega⟩⟩
theorem jt : ∀ (os : List Obj) (w : World) (k : Nat), k < w.heap.size → (os.foldl (fun W o => W.alloc o) w).heap[k]? = w.heap[k]?
  | [], _, _, _ => rfl
  | o :: os, w, k, h => (jt os (w.alloc o) k (by simp; omega)).trans (Below.heap_alloc w o k h)
theorem jx : ∀ (os : List Obj) (w : World) (i : Nat), i < os.length → (os.foldl (fun W o => W.alloc o) w).heap[w.heap.size + i]? = os[i]?
  | o :: os, w, 0, _ => (jt os (w.alloc o) w.heap.size (by simp)).trans (World.alloc_heap_new w o)
  | o :: os, w, i + 1, h => by
    have := jx os (w.alloc o) i (by simpa using h)
    rw [World.size_alloc, show w.heap.size + 1 + i = w.heap.size + (i + 1) by omega] at this
    exact this
theorem fj : ∀ (os : List Obj) (w : World), (os.foldl (fun W o => W.alloc o) w).heap.size = w.heap.size + os.length
  | [], _ => rfl
  | o :: os, w => by
    have := fj os (w.alloc o)
    rw [World.size_alloc] at this
    simp only [List.foldl_cons, ak]; omega
theorem gB : ∀ (os : List Obj) (w : World), Below w.heap.size w (os.foldl (fun W o => W.alloc o) w)
  | [], w => Below.refl _ w
  | o :: os, w => ((Below.refl _ w).alloc (Nat.le_refl _) o).trans ((gB os (w.alloc o)).mono (by simp))
def rdZ : List Value := [.string ⟨#[]⟩, .slice none 0 0, .slice none 0 0, .int .i64 0, .int .i64 0, .slice none 0 0, .slice none 0 0, .slice none 0 0, .int .i64 0, .int .i64 0]
theorem qI {N : Nat} {W : World} (hb : W.heap[N + 3]? = some (.cells rdZ.toArray 56 (0, 0))) (hz : N + 8 < W.heap.size) : HS N rs0 W := by
  refine ⟨fun _ => .pointer (some ⟨N + 3, 0, none⟩), ⟨fun o ob e => ?_, fun o o' b h h' => ?_, fun o b h => ?_, fun b h => h.elim, fun b h => by have := h.1; show b < W.heap.size; omega, Nat.le_refl _, rfl, rfl, rfl⟩, rfl, _, mJ _ _ _ _, Nat.le_refl _, fun _ _ => ⟨_, rfl, rfl⟩⟩
  · have h0 : o = 0 ∧ ob = .vars 56 (rdC rs0 .nils .nils) := by
      cases o with
      | zero => exact ⟨rfl, (Option.some.inj e).symm⟩
      | succ o => cases e
    obtain ⟨rfl, rfl⟩ := h0
    refine ⟨N + 3, rdZ, rfl, hb, ?_⟩
    exact ⟨⟨rfl, rfl⟩, ⟨rfl, bH _⟩, ⟨rfl, bH _⟩, ⟨rfl, rfl⟩, ⟨rfl, rfl⟩, ⟨rfl, rfl⟩, ⟨rfl, rfl⟩, ⟨rfl, bH _⟩, ⟨rfl, rfl⟩, ⟨rfl, rfl⟩, trivial⟩
  · obtain ⟨ob, e, _, _⟩ := h
    obtain ⟨ob', e', _, _⟩ := h'
    have q : ∀ {o ob}, (SH 56 44 3 rs0)[o]? = some ob → o = 0 := fun {o ob} e => by
      cases o with
      | zero => rfl
      | succ o => cases e
    rw [q e, q e']
  · obtain ⟨ob, _, _, e⟩ := h
    have e2 : some (N + 3) = some b := e
    cases e2
    exact ⟨fun h => h, fun h => h.2 rfl⟩
def ic (s : Bs) (N : Nat) : List Obj := [.cells zmC 29, .cells #[.int .i64 0] 3, .cells #[.int .i64 0] 32, .cells rdZ.toArray 56, .cells #[.pointer (some ⟨N + 3, 0, none⟩)] 54, .cells #[.int .i64 0] 3, .cells #[.string ⟨s.toArray⟩] 9]
theorem oQ (s : Bs) (w : World) (d l : Obj) : IPs s w 0 ((((ic s w.heap.size).foldl (fun W o => W.alloc o) w).alloc d).alloc l) := by
  have e : (((ic s w.heap.size).foldl (fun W o => W.alloc o) w).alloc d).alloc l = (ic s w.heap.size ++ [d, l]).foldl (fun W o => W.alloc o) w := by rw [List.foldl_append]; rfl
  rw [e]
  have hg := fun i hi => jx (ic s w.heap.size ++ [d, l]) w i hi
  have hz := fj (ic s w.heap.size ++ [d, l]) w
  have hl : (ic s w.heap.size ++ [d, l]).length = 9 := rfl
  rw [hl] at hz hg
  exact ⟨⟨gB _ w, hg 0 (by decide), hg 1 (by decide), hg 2 (by decide), hg 4 (by decide), hg 5 (by decide), by omega⟩, hg 6 (by decide), qI (hg 3 (by decide)) (by omega), fun j hj => by omega⟩
theorem gx {F : Fence} {n : Nat} {P : Program} {ops : Array Oper} {rest : List Oper} {o : Oper} {a : Act} {w : World} {Q : Go.Exit → Act → World → Prop} (hgd : o.guard = none) (ty : TypeId) (x y : Operand) (ho : o.op = .store ty x y)
    (g : Nat) (cells : Array Value) (hx : a.eval x = .pointer (some ⟨g, 0, none⟩)) (hy : a.eval y = .agg cells)
    (t : TypeId) (old : Array Value) (hg : w.heap[g]? = some (.cells old t (0, 0))) (hi : (P.info? ty).map (·.size) = some cells.size)
    (hold : old.size = cells.size) (h1 : cells.all (·.oneCell') = true)
    (h : wpListIn F n P ops Q rest (a.put o.dst undef) (w.setRow g cells)) : wpListIn F n P ops Q (o :: rest) a w := by
  refine wpListIn_plain hgd fun K hK' => ?_
  unfold Oper.wpIn
  refine ⟨?_, ?_⟩
  · simp [Oper.about, ho]
  · rw [Oper.semAt_plain F _ _ (by rw [ho]; intro c hc'; cases hc')]
    unfold execOp
    simp only [ho, hx, hy, Instr.storeAt, Instr.sureAddr, Sem.run_bind, Sem.run_pure, Result.andThen_ok, run_storeVar_row w g t ty old cells hg hi hold h1]
    exact hK' _ _ h
theorem oa (W : World) (N : Nat) (cs : Array Value) : Chg N W (W.setRow N cs) := ⟨by simp [World.setRow], fun b hb _ => setRow_other W N b cs hb, rfl, rfl, rfl⟩
theorem gD {F : Fence} {n : Nat} {P : Program} {ops : Array Oper} {rest : List Oper} {o : Oper} {a : Act} {w : World} {Q : Go.Exit → Act → World → Prop} (hgd : o.guard = none) (ty : TypeId) (x y : Operand) (ho : o.op = .store ty x y)
    (g : Nat) (cells : Array Value) (hx : a.eval x = .pointer (some ⟨g, 0, none⟩)) (hy : a.eval y = .agg cells)
    (t : TypeId) (old : Array Value) (hg : w.heap[g]? = some (.cells old t (0, 0))) (hi : (P.info? ty).map (·.size) = some cells.size)
    (hold : old.size = cells.size) (h1 : cells.all (·.oneCell') = true) {t3 t4 : TypeId} {v3 v4 : Value} (b3 : Boxed w (g + 1) t3 v3) (b4 : Boxed w (g + 2) t4 v4)
    (h : ∀ W', (Chg g w W' ∧ W'.heap[g]? = some (.cells cells t (0, 0)) ∧ Boxed W' (g + 1) t3 v3 ∧ Boxed W' (g + 2) t4 v4) ∧ W'.cell? ⟨g + 1, 0, none⟩ = some v3 ∧ W'.frozen? ⟨g + 1, 0, none⟩ = false ∧ W'.cell? ⟨g + 1 + 1, 0, none⟩ = some v4 ∧ W'.frozen? ⟨g + 1 + 1, 0, none⟩ = false → wpListIn F n P ops Q rest (a.put o.dst undef) W') : wpListIn F n P ops Q (o :: rest) a w := by
  refine gx hgd ty x y ho g cells hx hy t old hg hi hold h1 (h _ ?_)
  have hc := oa w g cells
  have c3 := hc.boxed b3 (by omega)
  have c4 := hc.boxed b4 (by omega)
  exact ⟨⟨hc, setRow_heap w g _ _ t _ hg, c3, c4⟩, c3.cell, c3.frozen, c4.cell, c4.frozen⟩
theorem zm1 : zmC.all (·.oneCell') = true := by simp [zmC, Value.oneCell']
theorem sV {s : Bs} {w W W2 : World} {k : Nat} (hp : PS w (k : Int) W2) (hbx : Boxed W2 (w.heap.size + 6) 9 (.string ⟨(aN s k).toArray⟩)) (hhs : HS w.heap.size (bD s (k + 1)) W2) (hok : OKR s k) (hne : aN s k ≠ []) (he : (bc (bD s k) (bM s k)).2 = 0)
    (hd : W2.heap[w.heap.size + 7]? = W.heap[w.heap.size + 7]?) (hl : W2.heap[w.heap.size + 8]? = W.heap[w.heap.size + 8]?) :
    ((W2.setCell ⟨w.heap.size + 5, 0, none⟩ (.int .i64 ((k : Int) + 1))).heap[w.heap.size + 7]? = W.heap[w.heap.size + 7]? ∧ (W2.setCell ⟨w.heap.size + 5, 0, none⟩ (.int .i64 ((k : Int) + 1))).heap[w.heap.size + 7 + 1]? = W.heap[w.heap.size + 7 + 1]?) ∧
      IYs s w k (W2.setCell ⟨w.heap.size + 5, 0, none⟩ (.int .i64 ((k : Int) + 1))) := by
  have hc := dI W2 (w.heap.size + 5) (.int .i64 ((k : Int) + 1))
  have hz := hp.sz
  refine ⟨⟨(hc.same _ (by omega) (by omega)).trans hd, (hc.same _ (by omega) (by omega)).trans hl⟩, ⟨hc.below hp.bl (Nat.le_refl _) (by omega), (hc.same _ (by omega) (by omega)).trans hp.b2, hc.boxed hp.b3 (by omega), hc.boxed hp.b4 (by omega), hc.boxed hp.b5 (by omega), hp.b6.set _, Nat.lt_of_lt_of_le hz hc.size⟩,
    hc.boxed hbx (by omega), kc hhs hc ⟨by omega, by omega⟩ hz, qp hok hne he⟩
theorem tk {s : Bs} {w W W2 W3 : World} {k : Nat} (hp : PS w (k : Int) W2) (hok : OKR s k) (he : ¬ (bc (bD s k) (bM s k)).2 = 0)
    (hd : W2.heap[w.heap.size + 7]? = W.heap[w.heap.size + 7]?) (hl : W2.heap[w.heap.size + 8]? = W.heap[w.heap.size + 8]?)
    (h3 : Chg w.heap.size W2 W3 ∧ W3.heap[w.heap.size]? = some (.cells zmC 29 (0, 0)) ∧ Boxed W3 (w.heap.size + 1) 3 (.int .i64 0) ∧ Boxed W3 (w.heap.size + 2) 32 (.int .i64 0)) :
    (((W3.setCell ⟨w.heap.size + 1, 0, none⟩ (.int .i64 ((k : Int) + 1))).setCell ⟨w.heap.size + 1 + 1, 0, none⟩ (.int .i64 (bc (bD s k) (bM s k)).2)).heap[w.heap.size + 7]? = W.heap[w.heap.size + 7]? ∧
      ((W3.setCell ⟨w.heap.size + 1, 0, none⟩ (.int .i64 ((k : Int) + 1))).setCell ⟨w.heap.size + 1 + 1, 0, none⟩ (.int .i64 (bc (bD s k) (bM s k)).2)).heap[w.heap.size + 7 + 1]? = W.heap[w.heap.size + 7 + 1]?) ∧
      IXs s w k ((W3.setCell ⟨w.heap.size + 1, 0, none⟩ (.int .i64 ((k : Int) + 1))).setCell ⟨w.heap.size + 1 + 1, 0, none⟩ (.int .i64 (bc (bD s k) (bM s k)).2)) := by
  obtain ⟨hc, h4, h5, h6⟩ := h3
  have hc1 := dI W3 (w.heap.size + 1) (.int .i64 ((k : Int) + 1))
  have hc2 := dI (W3.setCell ⟨w.heap.size + 1, 0, none⟩ (.int .i64 ((k : Int) + 1))) (w.heap.size + 1 + 1) (.int .i64 (bc (bD s k) (bM s k)).2)
  have hz := hp.sz
  have s3 := hc.size
  have s4 := hc1.size
  have hall : ∀ b, b ≠ w.heap.size → b ≠ w.heap.size + 1 → b ≠ w.heap.size + 1 + 1 → b < W2.heap.size → ((W3.setCell ⟨w.heap.size + 1, 0, none⟩ (.int .i64 ((k : Int) + 1))).setCell ⟨w.heap.size + 1 + 1, 0, none⟩ (.int .i64 (bc (bD s k) (bM s k)).2)).heap[b]? = W2.heap[b]? :=
    fun b q1 q2 q3 q4 => (hc2.same b q3 (by omega)).trans ((hc1.same b q2 (by omega)).trans (hc.same b q1 q4))
  refine ⟨⟨(hall _ (by omega) (by omega) (by omega) (by omega)).trans hd, (hall _ (by omega) (by omega) (by omega) (by omega)).trans hl⟩, ?_, ?_, ?_, ?_, he, hok⟩
  · exact hc2.below (hc1.below (hc.below hp.bl (Nat.le_refl _) (Nat.le_refl _)) (Nat.le_refl _) (by omega)) (Nat.le_refl _) (by omega)
  · exact (hc2.same _ (by omega) (by omega)).trans ((hc1.same _ (by omega) (by omega)).trans h4)
  · exact hc2.boxed (h5.set _) (by omega)
  · exact Boxed.set (B := w.heap.size + 1 + 1) _ (hc1.boxed h6 (by omega))
theorem r9 {N : Nat} {r : RS} {W : World} (h : HS N r W) : ∃ v1 v2 v5 v6 v7, W.heap[N + 3]? = some (.cells #[.string ⟨r.nm.toArray⟩, v1, v2, .int .i64 r.inp, .int .i64 r.st, v5, v6, v7, .int .i64 (r.rd : Int), .int .i64 r.lf] 56 (0, 0)) ∧
    (v1.oneCell' = true ∧ v2.oneCell' = true ∧ v5.oneCell' = true ∧ v6.oneCell' = true) ∧
    (r.tb = true → Dat (XP N) W (.list .str) r.ins [v1] ∧ Dat (XP N) W (.list .str) r.outs [v2] ∧ Dat (XP N) W (.list (.list (.int .i64))) r.nx [v5] ∧ Dat (XP N) W (.list (.list (.int .i64))) r.ot [v6]) := by
  obtain ⟨σ, h1, h2⟩ := h
  obtain ⟨b, vs, e1, e2, e3⟩ := h1.ob 0 _ (mJ ..)
  obtain ⟨_, ob, q1, _, q3⟩ := h2
  rw [mJ] at q1; cases q1
  obtain ⟨b', q4, q5⟩ := q3 rfl rfl
  rw [e1] at q4
  have q6 : b = b' := by simpa [blk] using q4
  subst q6
  have q7 : b = N + 3 := by simpa using q5.symm
  subst q7
  have hav : ∀ o b, own (SH 56 44 3 r) σ o b → ¬ XP N b := fun o b ho => (h1.off o b ho).2
  have hk : ∀ {t : Ty} {d : t.den} {cs : List Value}, Dat (avd (du Tryd.prog (XP N) W) (SH 56 44 3 r) σ) W t d cs → Dat (XP N) W t d cs := fun h => h.keep (Nat.le_refl _) (fun _ _ _ => rfl) fun b _ hb => .inl hb
  match vs, e3 with
  | [a0, a1, a2, a3, a4, a5, a6, a7, a8, a9], ⟨g0, g1, g2, g3, g4, g5, g6, g7, g8, g9, _⟩ =>
  obtain rfl : a0 = .string ⟨r.nm.toArray⟩ := g0.2
  obtain rfl : a3 = .int .i64 r.inp := g3.2
  obtain rfl : a4 = .int .i64 r.st := g4.2
  obtain rfl : a8 = .int .i64 (r.rd : Int) := g8.2
  obtain rfl : a9 = .int .i64 r.lf := g9.2
  refine ⟨a1, a2, a5, a6, a7, e2, ⟨g1.1, g2.1, g5.1, g6.1⟩, fun ht => ⟨hk g1.2, hk g2.2, ?_, ?_⟩⟩
  · have hA : rdA r = .rwc 1 0 := by unfold rdA; rw [if_pos ht]
    rw [hA] at g5
    obtain ⟨_, ob, p1, _, p3⟩ := g5
    rw [eo ht, pY] at p1; cases p1
    obtain ⟨_, p4⟩ := p3 rfl rfl
    rw [p4]
    exact mI h1 (by rw [eo ht]; exact pY ..) (fun i hi => by rw [eo ht]; exact tw hi) hav
  · have hB : rdB r = .rwc (2 + r.nx.length) 0 := by unfold rdB; rw [if_pos ht]
    rw [hB] at g6
    obtain ⟨_, ob, p1, _, p3⟩ := g6
    rw [eo ht, rB] at p1; cases p1
    obtain ⟨_, p4⟩ := p3 rfl rfl
    rw [p4]
    exact mI h1 (by rw [eo ht]; exact rB ..) (fun i hi => by rw [eo ht]; exact tF hi) hav
theorem jh {F : Fence} {n : Nat} {P : Program} {o : Oper} {a : Act} {w : World} {K : Act → World → Prop} {Q : Go.Exit → Act → World → Prop} (ty : TypeId) (x y : Operand) (ho : o.op = .store ty x y)
    (g : Nat) (cells : Array Value) (hx : a.eval x = .pointer (some ⟨g, 0, none⟩)) (hy : a.eval y = .agg cells)
    (t : TypeId) (old : Array Value) (hg : w.heap[g]? = some (.cells old t (0, 0))) (hi : (P.info? ty).map (·.size) = some cells.size)
    (hold : old.size = cells.size) (h1 : cells.all (·.oneCell') = true)
    (h : ∀ W', Chg g w W' → W'.heap[g]? = some (.cells cells t (0, 0)) → K (a.put o.dst undef) W') : Oper.wpIn F n P o a w K Q := by
  unfold Oper.wpIn
  refine ⟨?_, ?_⟩
  · simp [Oper.about, ho]
  · rw [Oper.semAt_plain F _ _ (by rw [ho]; intro c hc'; cases hc')]
    unfold execOp
    simp only [ho, hx, hy, Instr.storeAt, Instr.sureAddr, Sem.run_bind, Sem.run_pure, Result.andThen_ok, run_storeVar_row w g t ty old cells hg hi hold h1]
    exact h _ (oa w g cells) (setRow_heap w g _ _ t _ hg)
def MpQ (s : Bs) (w : World) (e : Ending) (W' : World) : Prop :=
  ∃ us : List Value, e = .returned (.tuple #[.agg us.toArray, .int .i64 (PM s).2.1, .int .i64 (PM s).2.2]) ∧ Below w.heap.size w W' ∧ ∀ C L σ, (∀ b, avd C L σ b → b < w.heap.size) → aP (RC C L σ W') (PM s).1.cs us
theorem kn {F : Fence} {n : Nat} {s : Bs} {w W : World} {tmps : Array Value} {v0 v1 v2 v3 v4 v5 v6 : Value} {i er : Int}
    (t2 : tmps.getD 2 undef = .pointer (some ⟨w.heap.size, 0, none⟩)) (t3 : tmps.getD 3 undef = .pointer (some ⟨w.heap.size + 1, 0, none⟩)) (t4 : tmps.getD 4 undef = .pointer (some ⟨w.heap.size + 2, 0, none⟩))
    (hb : Below w.heap.size w W) (c2 : W.heap[w.heap.size]? = some (.cells #[v0, v1, v2, v3, v4, v5, v6] 29 (0, 0))) (c3 : Boxed W (w.heap.size + 1) 3 (.int .i64 i)) (c4 : Boxed W (w.heap.size + 2) 32 (.int .i64 er))
    (hD : W.heap[w.heap.size + 7]? = some (.deferred (some []))) (hpm : (PM s).2 = (i, er))
    (hcs : ∀ W', W.heap.size ≤ W'.heap.size → (∀ b, b < W.heap.size → ¬ XP w.heap.size b → W'.heap[b]? = W.heap[b]?) → ∀ C L σ, (∀ b, avd C L σ b → b < w.heap.size) → aP (RC C L σ W') (PM s).1.cs [v0, v1, v2, v3, v4, v5, v6]) :
    bodyPostM F n Tryd.prog Tryd.f11 (MpQ s w) .ret { tmps := tmps, defers := [{ target := .collected (w.heap.size + 7), args := #[] }] } W := by
  have hc := i5 W (w.heap.size + 7) (.deferred none)
  have hlt := (Array.getElem?_eq_some_iff.1 hD).1
  have g2 := (hc.same w.heap.size (by omega) (by omega)).trans c2
  have g3 := hc.boxed c3 (by omega)
  have g4 := hc.boxed c4 (by omega)
  refine ⟨by simp, .inl ⟨_, _, rfl, run_takeDeferred hD, ?_⟩⟩
  refine ⟨.tuple #[.agg #[v0, v1, v2, v3, v4, v5, v6], .int .i64 i, .int .i64 er], ?_, [v0, v1, v2, v3, v4, v5, v6], by rw [hpm], hc.below hb (Nat.le_refl _) (by omega), fun C L σ hav => hcs _ hc.size (fun b hb2 hx => hc.same b (fun e => hx (by subst e; exact ⟨by omega, by omega⟩)) hb2) C L σ hav⟩
  have d0 := bj g2 0
  have d1 := bj g2 1
  have d2 := bj g2 2
  have d3 := bj g2 3
  have d4 := bj g2 4
  have d5 := bj g2 5
  have d6 := bj g2 6
  have e3 := g3.cell
  have e4 := g4.cell
  simp only [results, show Tryd.f11.results = #[.cell 2 29, .cell 3 3, .cell 4 32] by kernel_rfl]
  simp only [Array.getD_eq_getD_getElem?] at t2 t3 t4
  have i1 : (Tryd.prog.info? 29).map (fun i => i.size) = some 7 := by kernel_rfl
  simp [loadVar, asAddr, go_sem, t2, t3, t4, d0, d1, d2, d3, d4, d5, d6, e3, e4]
end
section
open Go.RowKit Go.Shelf
attribute [local go_sem] Oper.semAt_some
def R13 (w : World) (k : Nat) (W W' : World) : Prop :=
  (W.heap.size ≤ W'.heap.size ∧ W'.os = W.os ∧ W'.tape = W.tape ∧ W'.output = W.output ∧ ∀ b, b < W.heap.size → b ≠ w.heap.size → b ≠ w.heap.size + 1 → b ≠ w.heap.size + 2 → W'.heap[b]? = W.heap[b]?) ∧
  W'.heap[w.heap.size]? = some (.cells zmC 29 (0, 0)) ∧ Boxed W' (w.heap.size + 1) 3 (.int .i64 ((k : Int) + 1)) ∧ Boxed W' (w.heap.size + 2) 32 (.int .i64 12)
theorem pI {w W W3 : World} {k : Nat} (hp : PS w (k : Int) W) (hc : Chg w.heap.size W.drew W3) (hg : W3.heap[w.heap.size]? = some (.cells zmC 29 (0, 0))) (b3 : Boxed W3 (w.heap.size + 1) 3 (.int .i64 0)) (b4 : Boxed W3 (w.heap.size + 2) 32 (.int .i64 0)) :
    R13 w k W ((W3.setCell ⟨w.heap.size + 1, 0, none⟩ (.int .i64 ((k : Int) + 1))).setCell ⟨w.heap.size + 1 + 1, 0, none⟩ (.int .i64 12)) := by
  have hc1 := dI W3 (w.heap.size + 1) (.int .i64 ((k : Int) + 1))
  have hc2 := dI (W3.setCell ⟨w.heap.size + 1, 0, none⟩ (.int .i64 ((k : Int) + 1))) (w.heap.size + 1 + 1) (.int .i64 12)
  have hz : w.heap.size + 8 < W.drew.heap.size := hp.sz
  have s3 := hc.size
  have s4 := hc1.size
  have s5 := hc2.size
  exact ⟨⟨Nat.le_trans s3 (Nat.le_trans s4 s5), hc2.os.trans (hc1.os.trans hc.os), hc2.tape.trans (hc1.tape.trans hc.tape), hc2.output.trans (hc1.output.trans hc.output), fun b q1 q2 q3 q4 => (hc2.same b q4 (Nat.lt_of_lt_of_le (show b < W.drew.heap.size from q1) (Nat.le_trans s3 s4))).trans ((hc1.same b q3 (Nat.lt_of_lt_of_le (show b < W.drew.heap.size from q1) s3)).trans (hc.same b q2 q1))⟩,
    (hc2.same _ (by omega) (by omega)).trans ((hc1.same _ (by omega) (by omega)).trans hg), hc2.boxed (b3.set _) (by omega), Boxed.set (B := w.heap.size + 1 + 1) _ (hc1.boxed b4 (by omega))⟩
theorem tZ {w W W3 : World} {last i er : Int} {cs : Array Value} (hp : PS w last W) (h3 : Chg w.heap.size W W3 ∧ W3.heap[w.heap.size]? = some (.cells cs 29 (0, 0)) ∧ Boxed W3 (w.heap.size + 1) 3 (.int .i64 0) ∧ Boxed W3 (w.heap.size + 2) 32 (.int .i64 0)) (hD : W.heap[w.heap.size + 7]? = some (.deferred (some []))) :
    ∃ Wf, ((W3.setCell ⟨w.heap.size + 1, 0, none⟩ (.int .i64 i)).setCell ⟨w.heap.size + 1 + 1, 0, none⟩ (.int .i64 er)) = Wf ∧ Below w.heap.size w Wf ∧ Wf.heap[w.heap.size]? = some (.cells cs 29 (0, 0)) ∧ Boxed Wf (w.heap.size + 1) 3 (.int .i64 i) ∧ Boxed Wf (w.heap.size + 2) 32 (.int .i64 er) ∧
      Wf.heap[w.heap.size + 7]? = some (.deferred (some [])) ∧ W.heap.size ≤ Wf.heap.size ∧ ∀ b, b < W.heap.size → ¬ XP w.heap.size b → Wf.heap[b]? = W.heap[b]? := by
  obtain ⟨hc, hg, b3, b4⟩ := h3
  have hc1 := dI W3 (w.heap.size + 1) (.int .i64 i)
  have hc2 := dI (W3.setCell ⟨w.heap.size + 1, 0, none⟩ (.int .i64 i)) (w.heap.size + 1 + 1) (.int .i64 er)
  have hz := hp.sz
  have s3 := hc.size
  have s4 := hc1.size
  have s5 := hc2.size
  have hall : ∀ b, b < W.heap.size → b ≠ w.heap.size → b ≠ w.heap.size + 1 → b ≠ w.heap.size + 1 + 1 → ((W3.setCell ⟨w.heap.size + 1, 0, none⟩ (.int .i64 i)).setCell ⟨w.heap.size + 1 + 1, 0, none⟩ (.int .i64 er)).heap[b]? = W.heap[b]? :=
    fun b q1 q2 q3 q4 => (hc2.same b q4 (by omega)).trans ((hc1.same b q3 (by omega)).trans (hc.same b q2 q1))
  refine ⟨_, rfl, hc2.below (hc1.below (hc.below hp.bl (Nat.le_refl _) (Nat.le_refl _)) (Nat.le_refl _) (by omega)) (Nat.le_refl _) (by omega), (hc2.same _ (by omega) (by omega)).trans ((hc1.same _ (by omega) (by omega)).trans hg), hc2.boxed (b3.set _) (by omega), Boxed.set (B := w.heap.size + 1 + 1) _ (hc1.boxed b4 (by omega)), (hall _ (by omega) (by omega) (by omega) (by omega)).trans hD, by omega, fun b hb hx => hall b hb ?_ ?_ ?_⟩
  all_goals (intro e; subst e; exact hx ⟨by omega, by omega⟩)
set_option maxHeartbeats 4000000 in
theorem oY (n : Nat) (hn : 6 ≤ n) (s : Bs) (hs : s.length ≤ 900000) (w : World) : CallsIn Fence.wide n Tryd.prog 11 #[.string ⟨s.toArray⟩] w (MpQ s w) := by
  have h1 : 1 ≤ n := by omega
  have w23 : Fence.wide.fn 23 := trivial
  refine callsIn_of_wp_marks Tryd.func11 rfl trivial ?_ rfl
  simp only [Tryd.ntmps11, List.size_toArray, ak, ay, E, V, Array.replicate_succ, Array.replicate_zero, List.push_toArray, List.append_toArray, am, ah]
  have hbig : ¬ 1048576 < s.length := by omega
  gi_wp2_with (gi_at_call 23; refine (sN (n - 1) _ _).mono ?_; rintro e w' ⟨rfl, rfl⟩)
  obtain ⟨W0, hW0⟩ : ∃ W0, ((ic s w.heap.size).foldl (fun W o => W.alloc o) w) = W0 := ⟨_, rfl⟩
  show Code.wpIn Fence.wide n Tryd.prog _ _ _ ((ic s w.heap.size).foldl (fun W o => W.alloc o) w)
  have hst0 := oQ s w
  have hz0 := fj (ic s w.heap.size) w
  rw [hW0] at hst0 hz0 ⊢
  replace hz0 : W0.heap.size = w.heap.size + 7 := hz0
  clear hW0
  refine mO rfl h1 (gf := 34) (lb := #[.pointer (some ⟨w.heap.size + 6, 0, none⟩)]) rfl trivial (enters_of Tryd.func34 (by kernel_rfl) rfl)
    (nG (n - 1) (by omega) s (by omega) (w.heap.size + 6)) (fun _ => rfl) ?hstp (IPs s w) (IYs s w) (fun c k W => c = .ret ∧ IXs s w k W) (fun k W h => h.2.1) (fun k W h => h.2.1) (fun k W h => qL h)
    ?hIp ?hYp ?hXp ?h0 ?a1 ?hassign ?hbody ?hdone ?hstop
  case hassign =>
    intro l k W K hK
    gi_wp2
    exact hK
  case hstp => intro k W b hb; exact Below.heap_setCell W _ _ b (by show b ≠ w.heap.size + 6; omega)
  case hIp => intro k W r h _; rw [hz0]; exact rG h
  case hYp => intro k W r h _; rw [hz0]; exact se h
  case hXp => rintro c k W r ⟨hc, h⟩ hz; rw [hz0] at hz ⊢; exact ⟨hc, sx h hz⟩
  case h0 => intro r; exact hst0 _ _
  case hbody =>
    intro k W hi hne
    have w24 : Fence.wide.fn 24 := trivial
    have hn2 : 1 ≤ n - 1 - 1 := by omega
    have hcall := CallsIn.inRound (n := n - 1 - 1 - 1) (w.heap.size + 7 + 1) (callsIn_wide.2 (ov hs hi hne))
    have c5 := hi.1.b5.cell
    rw [hz0]
    by_cases he : (bc (bD s k) (bM s k)).2 = 0
    · gi_wp2_with (gi_at_call 24; refine hcall.mono ?_; rintro e W2 ⟨⟨rfl, hp, hbx, hhs⟩, hd, hl⟩; have c6 := hp.b6.cell; have f6 := hp.b6.frozen)
      exact sV hp hbx hhs hi.2.2.2 hne he hd hl
    · gi_wp2_with (first | (gi_at_call 24; refine hcall.mono ?_; rintro e W2 ⟨⟨rfl, hp, hbx, hhs⟩, hd, hl⟩) | (refine gD rfl 29 (.tmp 2) (.tmp 25) rfl w.heap.size zmC rfl rfl 29 zmC hp.b2 (by kernel_rfl) rfl zm1 hp.b3 hp.b4 ?_; rintro W3 ⟨hc3, c3, f3, c4, f4⟩))
      obtain ⟨g1, g2⟩ := tk (W := W) hp hi.2.2.2 he hd hl hc3
      exact ⟨g1, rfl, g2⟩
  case hdone =>
    intro k W hf hi hD
    rw [hz0] at hD
    have c5 := hi.1.b5.cell
    have c6 := hi.1.b6.cell
    obtain ⟨v1, v2, v5, v6, v7, hR, ho, hdat⟩ := r9 hi.2.2.1
    have d8 : W.cell? ⟨w.heap.size + 3, 8, none⟩ = some (.int .i64 ((bD s k).rd : Int)) := bj hR 8
    have d9 : W.cell? ⟨w.heap.size + 3, 9, none⟩ = some (.int .i64 (bD s k).lf) := bj hR 9
    have d0 : W.cell? ⟨w.heap.size + 3, 0, none⟩ = some (.string ⟨(bD s k).nm.toArray⟩) := bj hR 0
    have d1 : W.cell? ⟨w.heap.size + 3, 1, none⟩ = some v1 := bj hR 1
    have d2 : W.cell? ⟨w.heap.size + 3, 2, none⟩ = some v2 := bj hR 2
    have d3 : W.cell? ⟨w.heap.size + 3, 3, none⟩ = some (.int .i64 (bD s k).inp) := bj hR 3
    have d4 : W.cell? ⟨w.heap.size + 3, 4, none⟩ = some (.int .i64 (bD s k).st) := bj hR 4
    have d5 : W.cell? ⟨w.heap.size + 3, 5, none⟩ = some v5 := bj hR 5
    have d6 : W.cell? ⟨w.heap.size + 3, 6, none⟩ = some v6 := bj hR 6
    rw [hz0]
    have hps := hi.1
    have hend := sT hbig hi.2.2.2 hf
    have b2 := hps.b2
    have h6d : Boxed W.drew (w.heap.size + 5) 3 (.int .i64 (k : Int)) := hps.b6
    have c6d : W.drew.cell? ⟨w.heap.size + 1 + 1 + 1 + 1 + 1, 0, none⟩ = some (.int .i64 (k : Int)) := h6d.cell
    have hkl : k ≤ 1048576 := by have := (jY (by omega : s.length ≤ 1048576) hi.2.2.2).2.2; omega
    by_cases hfin : (bD s k).rd < 5 ∨ ((5 : Int) ≤ ((bD s k).rd : Int) ∧ 0 < (bD s k).lf)
    · rcases hfin with hrd | ⟨hrd, hlf⟩
      all_goals gi_wp2
      all_goals
        (refine wpIn_mono (Q := fun e a' W' => match e with | .normal => (a'.defers = [{ target := .collected (w.heap.size + 7), args := #[] }] ∧ a'.tmps.getD 2 undef = .pointer (some ⟨w.heap.size, 0, none⟩) ∧ a'.tmps.getD 3 undef = .pointer (some ⟨w.heap.size + 1, 0, none⟩) ∧ a'.tmps.getD 4 undef = .pointer (some ⟨w.heap.size + 2, 0, none⟩)) ∧ R13 w k W W' | _ => False) ?_ ?_
         · refine wpIn_region_any (by kernel_rfl) ?_
           refine wpAnyIn_take (i := 0) (v := .agg zmC) rfl rfl (by kernel_rfl) (by kernel_rfl) (by kernel_rfl) (fun _ _ _ h => h) ⟨Or.inl ⟨by rfl, ?_⟩, fun _ => rfl⟩ ?_
           · intro w'; go_simp; rfl
           refine wpAnyIn_ready (rs := [1, 3]) (by kernel_rfl) (by simp) ?_
           refine AllReadyIn.cons rfl (fun K hK => ?_) (AllReadyIn.cons rfl (fun K hK => ?_) AllReadyIn.nil)
           · go_simp
             refine hK _ _ ?_
             refine wpAnyIn_take (i := 2) (v := .int .i64 ((k : Int) + 1)) rfl rfl (by kernel_rfl) (by kernel_rfl) (by kernel_rfl) (fun _ _ _ h => h) ⟨Or.inl ⟨by rfl, ?_⟩, fun _ => rfl⟩ ?_
             · intro w'; go_simp; rw [IntKind.wrap_i64]; omega
             refine wpAnyIn_ready (rs := [3]) (by kernel_rfl) (by simp) ?_
             refine AllReadyIn.cons rfl (fun K hK => ?_) AllReadyIn.nil
             refine jh 29 (.tmp 2) (.tmp 41) rfl w.heap.size zmC rfl rfl 29 zmC (show W.drew.heap[w.heap.size]? = _ from b2) (by kernel_rfl) rfl zm1 ?_
             intro W3 hc3 hg3
             refine hK _ _ ?_
             have m3 := hc3.boxed (show Boxed W.drew (w.heap.size + 1) 3 (.int .i64 0) from hps.b3) (by omega)
             have m4 := hc3.boxed (show Boxed W.drew (w.heap.size + 2) 32 (.int .i64 0) from hps.b4) (by omega)
             have m6 := hc3.boxed h6d (by omega)
             have e3 := m3.cell; have f3 := m3.frozen
             have e4 : W3.cell? ⟨w.heap.size + 1 + 1, 0, none⟩ = some (.int .i64 0) := m4.cell
             have f4 : W3.frozen? ⟨w.heap.size + 1 + 1, 0, none⟩ = false := m4.frozen
             have e6 : W3.cell? ⟨w.heap.size + 1 + 1 + 1 + 1 + 1, 0, none⟩ = some (.int .i64 (k : Int)) := m6.cell
             refine wpAnyIn_ready (rs := [4]) (by kernel_rfl) (by simp) ?_
             refine AllReadyIn.cons rfl (fun K hK => ?_) AllReadyIn.nil
             go_simp
             refine hK _ _ ?_
             refine wpAnyIn_ready (rs := [5]) (by kernel_rfl) (by simp) ?_
             refine AllReadyIn.cons rfl (fun K hK => ?_) AllReadyIn.nil
             go_simp
             refine hK _ _ ?_
             refine wpAnyIn_done (by kernel_rfl) ?_ _
             exact ⟨⟨rfl, rfl, rfl, rfl⟩, pI hps hc3 hg3 m3 m4⟩
           · refine jh 29 (.tmp 2) (.tmp 41) rfl w.heap.size zmC rfl rfl 29 zmC (show W.drew.heap[w.heap.size]? = _ from b2) (by kernel_rfl) rfl zm1 ?_
             intro W3 hc3 hg3
             refine hK _ _ ?_
             have m3 := hc3.boxed (show Boxed W.drew (w.heap.size + 1) 3 (.int .i64 0) from hps.b3) (by omega)
             have m4 := hc3.boxed (show Boxed W.drew (w.heap.size + 2) 32 (.int .i64 0) from hps.b4) (by omega)
             have m6 := hc3.boxed h6d (by omega)
             have e3 := m3.cell; have f3 := m3.frozen
             have e4 : W3.cell? ⟨w.heap.size + 1 + 1, 0, none⟩ = some (.int .i64 0) := m4.cell
             have f4 : W3.frozen? ⟨w.heap.size + 1 + 1, 0, none⟩ = false := m4.frozen
             have e6 : W3.cell? ⟨w.heap.size + 1 + 1 + 1 + 1 + 1, 0, none⟩ = some (.int .i64 (k : Int)) := m6.cell
             refine wpAnyIn_ready (rs := [1]) (by kernel_rfl) (by simp) ?_
             refine AllReadyIn.cons rfl (fun K hK => ?_) AllReadyIn.nil
             go_simp
             refine hK _ _ ?_
             refine wpAnyIn_take (i := 2) (v := .int .i64 ((k : Int) + 1)) rfl rfl (by kernel_rfl) (by kernel_rfl) (by kernel_rfl) (fun _ _ _ h => h) ⟨Or.inl ⟨by rfl, ?_⟩, fun _ => rfl⟩ ?_
             · intro w'; go_simp; rw [IntKind.wrap_i64]; omega
             refine wpAnyIn_ready (rs := [4]) (by kernel_rfl) (by simp) ?_
             refine AllReadyIn.cons rfl (fun K hK => ?_) AllReadyIn.nil
             go_simp
             refine hK _ _ ?_
             refine wpAnyIn_ready (rs := [5]) (by kernel_rfl) (by simp) ?_
             refine AllReadyIn.cons rfl (fun K hK => ?_) AllReadyIn.nil
             go_simp
             refine hK _ _ ?_
             refine wpAnyIn_done (by kernel_rfl) ?_ _
             exact ⟨⟨rfl, rfl, rfl, rfl⟩, pI hps hc3 hg3 m3 m4⟩
         · intro e a' W' h
           cases e with
           | normal =>
             obtain ⟨⟨hdf, t2, t3, t4⟩, ⟨z1, z2, z3, z4, z5⟩, g2, g3, g4⟩ := h
             obtain ⟨tm, df⟩ := a'
             simp only at hdf
             subst hdf
             have hsz := hps.sz
             have hpm : PM s = (nK, (k : Int) + 1, 12) := by rw [hend]; unfold mE; rw [if_pos (by first | exact .inl hrd | exact .inr hlf)]
             have hbl : Below w.heap.size w W' := ⟨z2.trans hps.bl.os, z3.trans hps.bl.tape, z4.trans hps.bl.output, Nat.le_trans hps.bl.size z1, fun b hb => (z5 b (by omega) (by omega) (by omega) (by omega)).trans (hps.bl.block b hb)⟩
             have hD2 : W'.heap[w.heap.size + 7]? = some (.deferred (some [])) := (z5 _ (by omega) (by omega) (by omega) (by omega)).trans hD
             clear hend c6 c6d d0 d1 d2 d3 d4 d5 d6 d8 d9 hR b2
             gi_wp2
             refine kn t2 t3 t4 hbl g2 g3 g4 hD2 (by rw [hpm]) ?_
             rw [hpm]
             exact fun W' _ _ C L σ _ => ⟨⟨rfl, rfl⟩, ⟨rfl, bH _⟩, ⟨rfl, bH _⟩, ⟨rfl, rfl⟩, ⟨rfl, rfl⟩, ⟨rfl, bH _⟩, ⟨rfl, bH _⟩, trivial⟩
           | ret => exact h.elim
           | exit id => exact h.elim
           | goto t => exact h.elim
           | panic c => exact h.elim
           | outgrown => exact h.elim)
    · have hrd : (5 : Int) ≤ ((bD s k).rd : Int) := by omega
      have hlf : (bD s k).lf ≤ 0 := by omega
      have hri := jY (by omega : s.length ≤ 1048576) hi.2.2.2
      have htb := (hri.1.t4 (by omega)).1
      obtain ⟨a1, a2, a5, a6⟩ := hdat htb
      have hpm : PM s = (rk (bD s k), 0, 0) := by rw [hend]; unfold mE; rw [if_neg (by omega)]
      clear hend
      gi_wp2_with (refine gD rfl 29 (.tmp 2) (.tmp 47) rfl w.heap.size #[.string ⟨(bD s k).nm.toArray⟩, v1, v2, .int .i64 (bD s k).inp, .int .i64 (bD s k).st, v5, v6] rfl rfl 29 zmC b2 (by kernel_rfl) rfl (by simpa [Value.oneCell'] using ho) hps.b3 hps.b4 ?_; rintro W3 ⟨hc3, c3, f3, c4, f4⟩)
      obtain ⟨Wf, hWf, z1, z2, z3, z4, z5, z6, z7⟩ := tZ (i := 0) (er := 0) hps hc3 hD
      rw [hWf]
      refine kn rfl rfl rfl z1 z2 z3 z4 z5 (by rw [hpm]) ?_
      rw [hpm]
      intro W' y1 y2 C L σ hav
      have hk : ∀ {t : Ty} {d : t.den} {cs : List Value}, Dat (XP w.heap.size) W t d cs → Dat (avd C L σ) W' t d cs := fun h => h.keep (Nat.le_trans z6 y1) (fun b hb hx => (y2 b (Nat.lt_of_lt_of_le hb z6) hx).trans (z7 b hb hx)) fun b _ hb => ⟨by have := hav b hb; omega, by have := hav b hb; omega⟩
      exact ⟨⟨rfl, rfl⟩, ⟨ho.1, hk a1⟩, ⟨ho.2.1, hk a2⟩, ⟨rfl, rfl⟩, ⟨rfl, rfl⟩, ⟨ho.2.2.1, hk a5⟩, ⟨ho.2.2.2, hk a6⟩, trivial⟩
  case hstop =>
    rintro c k W hf ⟨rfl, hx⟩ hD
    rw [hz0] at hD ⊢
    gi_wp2
    have hpm := sB hbig hx.ok hf hx.e0
    refine kn rfl rfl rfl hx.bl hx.b2 hx.b3 hx.b4 hD (by rw [hpm]) ?_
    rw [hpm]
    exact fun W' _ _ C L σ _ => ⟨⟨rfl, rfl⟩, ⟨rfl, bH _⟩, ⟨rfl, bH _⟩, ⟨rfl, rfl⟩, ⟨rfl, rfl⟩, ⟨rfl, bH _⟩, ⟨rfl, bH _⟩, trivial⟩
theorem dY (s : Bs) (hs : s.length ≤ 900000) : bG Tryd.prog 11 [.one (.str s)] (.tup [(PM s).1.av, .one (.int .i64 (PM s).2.1), .one (.int .i64 (PM s).2.2)]) := by
  refine ⟨⟨Tryd.f11, Tryd.func11, by kernel_rfl, by kernel_rfl⟩, fun C L σ w vs hP hI ha => ?_⟩
  match vs, ha with
  | [v], ⟨h1, _⟩ =>
  obtain rfl : v = .string ⟨s.toArray⟩ := h1.2
  refine (callsIn_wide.1 (oY 6 (Nat.le_refl _) s hs w)).mono ?_
  rintro e w' ⟨us, h2, h3, h4⟩
  have hx : ∀ b, avd C L σ b → b < w.heap.size := by
    rintro b (hx | ⟨o, ho⟩)
    · exact Nat.lt_of_lt_of_le (hI.xlt b hx) hI.size
    · exact eH hI ho
  exact ⟨_, h2, ⟨h3.size, h3.os, h3.tape, h3.output, h3.block⟩, _, rfl, ⟨us, rfl, h4 C L σ hx⟩, ⟨rfl, rfl⟩, ⟨rfl, rfl⟩, trivial⟩
end
open Go.Shelf in
def Tryd.lays171_ren : Go.Shelf.Ren := ⟨fun | 171 => 27 | 243 => 42 | 246 => 54 | 283 => 74 | 284 => 75 | 285 => 76 | 286 => 77 | 129 => 67 | 317 => 89 | 318 => 90 | 319 => 91 | 320 => 92 | 337 => 99 | 338 => 100 | n => n, fun | 3 => 3 | 9 => 9 | 2 => 2 | 4 => 4 | 171 => 114 | 0 => 0 | 53 => 109 | 37 => 64 | 5 => 5 | 173 => 116 | 212 => 131 | 51 => 107 | 20 => 20 | 213 => 132 | 46 => 88 | 232 => 147 | 233 => 148 | n => n, fun | 17 => 1 | 18 => 4 | 19 => 5 | n => n⟩
theorem Tryd.lays171 : Go.Proofs.Lays.n171 Tryd.prog Tryd.lays171_ren := {
  mixed := by kernel_rfl,
  f129 := Tryd.func67.trans (congrArg some (by kernel_rfl)),
  f171 := Tryd.func27.trans (congrArg some (by kernel_rfl)),
  f243 := Tryd.func42.trans (congrArg some (by kernel_rfl)),
  f246 := Tryd.func54.trans (congrArg some (by kernel_rfl)),
  f283 := Tryd.func74.trans (congrArg some (by kernel_rfl)),
  f284 := Tryd.func75.trans (congrArg some (by kernel_rfl)),
  f285 := Tryd.func76.trans (congrArg some (by kernel_rfl)),
  f286 := Tryd.func77.trans (congrArg some (by kernel_rfl)),
  f317 := Tryd.func89.trans (congrArg some (by kernel_rfl)),
  f318 := Tryd.func90.trans (congrArg some (by kernel_rfl)),
  f319 := Tryd.func91.trans (congrArg some (by kernel_rfl)),
  f320 := Tryd.func92.trans (congrArg some (by kernel_rfl)),
  f337 := Tryd.func99.trans (congrArg some (by kernel_rfl)),
  f338 := Tryd.func100.trans (congrArg some (by kernel_rfl)),
  t0 := Tryd.underlying0,
  a0 := Tryd.isAgg0,
  z0 := Tryd.sizeOf0,
  v0 := Tryd.zeroValue0,
  t2 := Tryd.underlying2,
  a2 := Tryd.isAgg2,
  z2 := Tryd.sizeOf2,
  v2 := Tryd.zeroValue2,
  t3 := Tryd.underlying3,
  a3 := Tryd.isAgg3,
  z3 := Tryd.sizeOf3,
  v3 := Tryd.zeroValue3,
  t4 := Tryd.underlying4,
  a4 := Tryd.isAgg4,
  z4 := Tryd.sizeOf4,
  v4 := Tryd.zeroValue4,
  t5 := Tryd.underlying5,
  a5 := Tryd.isAgg5,
  z5 := Tryd.sizeOf5,
  v5 := Tryd.zeroValue5,
  t9 := Tryd.underlying9,
  a9 := Tryd.isAgg9,
  z9 := Tryd.sizeOf9,
  v9 := Tryd.zeroValue9,
  t20 := Tryd.underlying20,
  a20 := Tryd.isAgg20,
  z20 := Tryd.sizeOf20,
  v20 := Tryd.zeroValue20,
  t37 := Tryd.underlying64,
  a37 := Tryd.isAgg64,
  z37 := Tryd.sizeOf64,
  v37 := Tryd.zeroValue64,
  t46 := Tryd.underlying88,
  a46 := Tryd.isAgg88,
  z46 := Tryd.sizeOf88,
  v46 := Tryd.zeroValue88,
  t51 := Tryd.underlying107,
  a51 := Tryd.isAgg107,
  z51 := Tryd.sizeOf107,
  v51 := Tryd.zeroValue107,
  t53 := Tryd.underlying109,
  a53 := Tryd.isAgg109,
  z53 := Tryd.sizeOf109,
  v53 := Tryd.zeroValue109,
  t171 := Tryd.underlying114,
  a171 := Tryd.isAgg114,
  z171 := Tryd.sizeOf114,
  v171 := Tryd.zeroValue114,
  t173 := Tryd.underlying116,
  a173 := Tryd.isAgg116,
  z173 := Tryd.sizeOf116,
  v173 := Tryd.zeroValue116,
  t212 := Tryd.underlying131,
  a212 := Tryd.isAgg131,
  z212 := Tryd.sizeOf131,
  v212 := Tryd.zeroValue131,
  t213 := Tryd.underlying132,
  a213 := Tryd.isAgg132,
  z213 := Tryd.sizeOf132,
  t232 := Tryd.underlying147,
  a232 := Tryd.isAgg147,
  z232 := Tryd.sizeOf147,
  v232 := Tryd.zeroValue147,
  t233 := Tryd.underlying148,
  a233 := Tryd.isAgg148,
  z233 := Tryd.sizeOf148,
  v233 := Tryd.zeroValue148,
  g17 := by kernel_rfl,
  g18 := by kernel_rfl,
  g19 := by kernel_rfl }
theorem sX (n : Int) (h0 : 0 ≤ n) (h1 : n < 100) : bG Tryd.prog 27 [.one (.int .i64 n)] (.one (.str (Lib.decDigits n.toNat))) := by
  refine ⟨⟨Tryd.f27, Tryd.func27, by kernel_rfl, by kernel_rfl⟩, fun C L σ w vs hP hi ha => ?_⟩
  cases vs with
  | nil => exact ha.elim
  | cons v vs =>
  cases vs with
  | cons _ _ => exact ha.2.elim
  | nil =>
  have e1 : v = .int .i64 n := ha.1.2
  subst e1
  have h := Any.strconv_Itoa_small Tryd.lays171 n.toNat (by omega) w
  have e : ((n.toNat : Nat) : Int) = n := Int.toNat_of_nonneg h0
  rw [e] at h
  refine Calls.mono h fun e w' hh => ?_
  obtain ⟨e1, e2⟩ := hh
  subst e2
  exact ⟨_, e1, MORE.refl _, rfl, rfl⟩
theorem kG (n : Int) (h0 : 0 ≤ n) (h1 : n < 100) : bG Tryd.prog 16 [.one (.int .i64 n)] (.one (.str (qn n.toNat))) := by
 have hl := ow n.toNat (by omega)
 refine aO Tryd.func16 rfl (by kernel_rfl) (Nat.le_of_ble_eq_true rfl) rfl fun C hP hN hB => ?_
 replace hN : C.N = 6 := hN
 simp only [aT, E]
 refine ab fun _ k1 => ?_
 refine af hP hN rfl ?_
 (refine aa rfl fun _ k0 => ?_; simp only [zO, zT, acs, reduceCtorEq, M, E, O, Z, Y, V]; (repeat refine an ?_); (try refine .inl ?_); apply k0; clear k0; simp only [zP, E])
 refine ae ?_
 apply k1; clear k1; refine kp [0, 2] ?_
 refine ab fun _ k2 => ?_
 refine af hP hN rfl ?_
 (refine aa rfl fun _ k0 => ?_; simp only [zO, zT, acs, reduceCtorEq, M, E, O, Z, Y, V, ak, ay]; (repeat refine an ?_); (try refine .inl ?_); apply k0; clear k0; simp only [zP, E])
 refine aa rfl fun _ k0 => ?_
 refine aw (h := aj (sX n h0 h1)) rfl rfl (by first | exact rfl | (simp only [ev, zP, M, E]; exact rfl)) (by simp only [zV, acs, reduceCtorEq, M, E, O, Z, Y, V, ak, ay]) ?_
 apply k0; clear k0; simp only [zP, E]
 iterate 2 (refine aa rfl fun _ k0 => ?_; simp only [zO, zT, acs, reduceCtorEq, M, E, O, Z, Y, V, ak, ay]; (repeat refine an ?_); (try refine .inl ?_); apply k0; clear k0; simp only [zP, E])
 refine ae ?_
 apply k2; clear k2; refine kp [0, 2] ?_
 refine aq ?_
 refine ⟨nr, _, rfl, ?_⟩; simp only [zF, zP, M, E]
 refine VLE.of_eq ?_
 rfl
theorem sH (xs : List Int) (h0 : 0 < xs.length) : bG Tryd.prog 22 [.one (.list (.int .i64) xs)] (.one (.int .i64 (mxL xs))) := by
 refine aO Tryd.func22 rfl (by kernel_rfl) (Nat.le_of_ble_eq_true rfl) rfl fun C hP hN hB => ?_
 replace hN : C.N = 25 := hN
 simp only [aT, E]
 refine fS 0 rfl fun hf0 => ?_; simp only [lkp, if_true, if_false, reduceCtorEq, M, eq_self, Nat.one_ne_zero, Nat.zero_ne_one, kO, jn, jp, Fit, and_true, implies_true, true_and] at hf0
 refine ab fun _ k1 => ?_
 refine af hP hN rfl ?_
 (refine aa rfl fun _ k0 => ?_; simp only [zO, zT, acs, reduceCtorEq, M, E, O, Z, Y, V]; (repeat refine an ?_); (try refine .inl ?_); apply k0; clear k0; simp only [zP, E])
 refine ae ?_
 apply k1; clear k1; refine kp [0, 2] ?_
 refine ab fun _ k2 => ?_
 refine ab fun _ k3 => ?_
 refine af hP hN rfl ?_
 iterate 3 (refine aa rfl fun _ k0 => ?_; simp only [zO, zT, acs, reduceCtorEq, M, E, O, Z, Y, V]; (repeat refine an ?_); (try refine .inl ?_); apply k0; clear k0; simp only [zP, E])
 refine ae ?_
 apply k3; clear k3; refine kp [0, 2, 7] ?_
 refine cd (fun hc4 => ?_) (fun hc4 => ?_)
 · exfalso; (try simp only [zB, reduceCtorEq] at hc4); all_goals (first | (cases hc4; done) | omega | (simp at hc4; done) | (simp_all; done))
 (try simp only [zB, reduceCtorEq] at hc4)
 refine ax ?_
 apply k2; clear k2; refine kp [0, 2, 7] ?_
 refine ab fun _ k5 => ?_
 refine af hP hN rfl ?_
 iterate 4 (refine aa rfl fun _ k0 => ?_; simp only [zO, zT, acs, reduceCtorEq, M, E, O, Z, Y, V]; (repeat refine an ?_); (try refine .inl ?_); apply k0; clear k0; simp only [zP, E])
 refine ae ?_
 apply k5; clear k5; refine kp [0, 2, 3, 7] ?_
 refine ab fun _ k6 => ?_
 refine ab fun _ k7 => ?_
 refine af hP hN rfl ?_
 (refine aa rfl fun _ k0 => ?_; simp only [zO, zT, acs, reduceCtorEq, M, E, O, Z, Y, V]; (repeat refine an ?_); (try refine .inl ?_); apply k0; clear k0; simp only [zP, E])
 refine ae ?_
 apply k7; clear k7; refine kp [0, 2, 3, 4, 7] ?_
 refine aD ?_
 refine bu (fun n8 s8 => ∃ (k : Nat), (1 ≤ k) ∧ (k ≤ xs.length) ∧ n8 = xs.length - k ∧ s8 = { env := [(0, .one (.list (.int .i64) xs)), (3, .one (.int .i64 ((xs.take k).foldl max (xs.getD 0 0)))), (4, .one (.int .i64 (k : Int)))], L := [] }) ?_ ?_
 ·refine ⟨_, _, aM [0, 3, 4], 1, Nat.le_refl _, h0, rfl, ?_⟩
  rw [t9 h0]; rfl
 rintro n8 s8 ⟨k, hk1, hk, rfl, rfl⟩
 refine ab fun _ k9 => ?_
 refine ab fun _ k10 => ?_
 refine af hP hN rfl ?_
 iterate 4 (refine aa rfl fun _ k0 => ?_; simp only [zO, zT, acs, reduceCtorEq, M, E, O, Z, Y, V]; (repeat refine an ?_); (try refine .inl ?_); apply k0; clear k0; simp only [zP, E])
 refine ae ?_
 apply k10; clear k10; refine kp [0, 3, 4, 15] ?_
 refine cd (fun hc11 => ?_) (fun hc11 => ?_)
 ·(try simp only [zB, reduceCtorEq] at hc11)
  refine ax ?_
  apply k9; clear k9; refine kp [0, 3, 4, 15] ?_
  refine ab fun _ k12 => ?_
  refine aD ?_
  refine af hP hN rfl ?_
  iterate 7 (refine aa rfl fun _ k0 => ?_; simp only [zO, zT, acs, reduceCtorEq, M, E, O, Z, Y, V]; (repeat refine an ?_); (try refine .inl ?_); apply k0; clear k0; simp only [zP, E])
  refine ae ?_
  apply k12; clear k12; refine kp [0, 3, 4, 15] ?_
  refine af hP hN rfl ?_
  iterate 3 (refine aa rfl fun _ k0 => ?_; simp only [zO, zT, acs, reduceCtorEq, M, E, O, Z, Y, V]; (repeat refine an ?_); (try refine .inl ?_); apply k0; clear k0; simp only [zP, E])
  refine ae ?_
  refine ⟨_, _, ?_, aM [0, 3, 4], k + 1, by omega, by omega, rfl, ?_⟩
  · omega
  · rw [mY (by omega), List.foldl_append]; rfl
 (try simp only [zB, reduceCtorEq] at hc11)
 refine bv ?_
 apply k6; clear k6; refine kp [0, 3, 4, 15] ?_
 refine ab fun _ k13 => ?_
 refine af hP hN rfl ?_
 iterate 2 (refine aa rfl fun _ k0 => ?_; simp only [zO, zT, acs, reduceCtorEq, M, E, O, Z, Y, V]; (repeat refine an ?_); (try refine .inl ?_); apply k0; clear k0; simp only [zP, E])
 refine ae ?_
 apply k13; clear k13; refine kp [0, 2, 3, 4, 15] ?_
 refine aq ?_
 refine ⟨nr, _, rfl, ?_⟩; simp only [zF, zP, M, E]
 refine VLE.of_eq ?_
 refine congrArg (fun n => AV.one (AC.int IntKind.i64 n)) ?_
 rw [show k = xs.length by omega, aE]; rfl
open Go.Shelf in
def Tryd.laysNm220_ren : Go.Shelf.Ren := ⟨fun | 20 => 33 | n => n, fun | 22 => 44 | 3 => 3 | 4 => 4 | 0 => 0 | n => n, fun | n => n⟩
theorem Tryd.laysNm220 : Go.Proofs.Lays2.n20 Tryd.prog Tryd.laysNm220_ren := {
  mixed := by kernel_rfl,
  f20 := Tryd.func33.trans (congrArg some (by kernel_rfl)),
  t0 := Tryd.underlying0,
  a0 := Tryd.isAgg0,
  z0 := Tryd.sizeOf0,
  v0 := Tryd.zeroValue0,
  t3 := Tryd.underlying3,
  a3 := Tryd.isAgg3,
  z3 := Tryd.sizeOf3,
  v3 := Tryd.zeroValue3,
  t4 := Tryd.underlying4,
  a4 := Tryd.isAgg4,
  z4 := Tryd.sizeOf4,
  v4 := Tryd.zeroValue4,
  t22 := Tryd.underlying44,
  a22 := Tryd.isAgg44,
  z22 := Tryd.sizeOf44,
  v22 := Tryd.zeroValue44,
  i3 := by kernel_rfl }
theorem o3 : mG Tryd.prog 33 := ⟨⟨Tryd.f33, Tryd.func33, by kernel_rfl, by kernel_rfl⟩, fun blk off cap zs w hH hb hz => Any.slices_Compact_int Tryd.laysNm220 blk off cap zs w hH hb hz⟩
open Go.Shelf in
def Tryd.lays189_ren : Go.Shelf.Ren := ⟨fun | 189 => 32 | 125 => 47 | 257 => 46 | 128 => 66 | 129 => 67 | 294 => 57 | 295 => 58 | 296 => 59 | 297 => 60 | 298 => 61 | 299 => 62 | 216 => 63 | 300 => 64 | 301 => 65 | 328 => 78 | 329 => 79 | 330 => 80 | 331 => 81 | 332 => 82 | 215 => 83 | 343 => 93 | n => n, fun | 28 => 44 | 3 => 3 | 46 => 88 | 0 => 0 | 51 => 107 | 53 => 109 | 4 => 4 | 183 => 100 | 182 => 99 | 131 => 91 | 5 => 5 | 9 => 9 | 218 => 118 | 222 => 122 | 228 => 133 | 229 => 134 | n => n, fun | n => n⟩
theorem Tryd.lays189 : Go.Proofs.Lays.n189 Tryd.prog Tryd.lays189_ren := {
  mixed := by kernel_rfl,
  f125 := Tryd.func47.trans (congrArg some (by kernel_rfl)),
  f128 := Tryd.func66.trans (congrArg some (by kernel_rfl)),
  f129 := Tryd.func67.trans (congrArg some (by kernel_rfl)),
  f189 := Tryd.func32.trans (congrArg some (by kernel_rfl)),
  f215 := Tryd.func83.trans (congrArg some (by kernel_rfl)),
  f216 := Tryd.func63.trans (congrArg some (by kernel_rfl)),
  f257 := Tryd.func46.trans (congrArg some (by kernel_rfl)),
  f294 := Tryd.func57.trans (congrArg some (by kernel_rfl)),
  f295 := Tryd.func58.trans (congrArg some (by kernel_rfl)),
  f296 := Tryd.func59.trans (congrArg some (by kernel_rfl)),
  f297 := Tryd.func60.trans (congrArg some (by kernel_rfl)),
  f298 := Tryd.func61.trans (congrArg some (by kernel_rfl)),
  f299 := Tryd.func62.trans (congrArg some (by kernel_rfl)),
  f300 := Tryd.func64.trans (congrArg some (by kernel_rfl)),
  f301 := Tryd.func65.trans (congrArg some (by kernel_rfl)),
  f328 := Tryd.func78.trans (congrArg some (by kernel_rfl)),
  f329 := Tryd.func79.trans (congrArg some (by kernel_rfl)),
  f330 := Tryd.func80.trans (congrArg some (by kernel_rfl)),
  f331 := Tryd.func81.trans (congrArg some (by kernel_rfl)),
  f332 := Tryd.func82.trans (congrArg some (by kernel_rfl)),
  f343 := Tryd.func93.trans (congrArg some (by kernel_rfl)),
  t0 := Tryd.underlying0,
  a0 := Tryd.isAgg0,
  z0 := Tryd.sizeOf0,
  v0 := Tryd.zeroValue0,
  t3 := Tryd.underlying3,
  a3 := Tryd.isAgg3,
  z3 := Tryd.sizeOf3,
  v3 := Tryd.zeroValue3,
  t4 := Tryd.underlying4,
  a4 := Tryd.isAgg4,
  z4 := Tryd.sizeOf4,
  v4 := Tryd.zeroValue4,
  t5 := Tryd.underlying5,
  a5 := Tryd.isAgg5,
  z5 := Tryd.sizeOf5,
  v5 := Tryd.zeroValue5,
  t9 := Tryd.underlying9,
  a9 := Tryd.isAgg9,
  z9 := Tryd.sizeOf9,
  v9 := Tryd.zeroValue9,
  t28 := Tryd.underlying44,
  a28 := Tryd.isAgg44,
  z28 := Tryd.sizeOf44,
  v28 := Tryd.zeroValue44,
  t46 := Tryd.underlying88,
  a46 := Tryd.isAgg88,
  z46 := Tryd.sizeOf88,
  v46 := Tryd.zeroValue88,
  t51 := Tryd.underlying107,
  a51 := Tryd.isAgg107,
  z51 := Tryd.sizeOf107,
  v51 := Tryd.zeroValue107,
  t53 := Tryd.underlying109,
  a53 := Tryd.isAgg109,
  z53 := Tryd.sizeOf109,
  v53 := Tryd.zeroValue109,
  t131 := Tryd.underlying91,
  a131 := Tryd.isAgg91,
  z131 := Tryd.sizeOf91,
  v131 := Tryd.zeroValue91,
  t182 := Tryd.underlying99,
  a182 := Tryd.isAgg99,
  z182 := Tryd.sizeOf99,
  v182 := Tryd.zeroValue99,
  t183 := Tryd.underlying100,
  a183 := Tryd.isAgg100,
  z183 := Tryd.sizeOf100,
  v183 := Tryd.zeroValue100,
  t218 := Tryd.underlying118,
  a218 := Tryd.isAgg118,
  z218 := Tryd.sizeOf118,
  v218 := Tryd.zeroValue118,
  t222 := Tryd.underlying122,
  a222 := Tryd.isAgg122,
  z222 := Tryd.sizeOf122,
  v222 := Tryd.zeroValue122,
  t228 := Tryd.underlying133,
  a228 := Tryd.isAgg133,
  z228 := Tryd.sizeOf133,
  v228 := Tryd.zeroValue133,
  t229 := Tryd.underlying134,
  a229 := Tryd.isAgg134,
  z229 := Tryd.sizeOf134,
  v229 := Tryd.zeroValue134 }
theorem sa : ry Tryd.prog 32 := ⟨⟨Tryd.f32, Tryd.func32, by kernel_rfl, by kernel_rfl⟩, fun blk off cap zs w hH hb hz => Any.slices_Sort_int Tryd.lays189 blk off cap zs w hH hb hz⟩
end Go.Proofs.YtmfkpljjhiglpaaDoor
