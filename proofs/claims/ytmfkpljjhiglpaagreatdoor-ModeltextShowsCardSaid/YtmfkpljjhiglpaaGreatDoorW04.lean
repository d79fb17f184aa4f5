/- Contracts of functions of this seat, each out of a walk through its code, and plain facts on what they compute. Conditions: those that each theorem names. -/
import Derived.Test.YtmfkpljjhiglpaaGreatDoorW03
set_option linter.unusedSimpArgs false
set_option linter.unusedVariables false
set_option maxRecDepth 100000
namespace Go.Proofs.YtmfkpljjhiglpaaGreatDoor
open Go Go.AV
open Nat renaming reduceEqDiff → M, reduceAdd → E, reduceLeDiff → O, reduceLT → Z, reduceMul → Y, reduceSub → V
open List renaming set_cons_zero → bJ, set_cons_succ → be, getD_cons_zero → cI, length_append → ag, map_cons → aT, cons_append → ak, map_nil → bG, length_cons → ah, nil_append → ar, take_succ_cons → cf, length_nil → am, length_map → bV, length_replicate → aI, take_length → aG, mem_cons_self → aS, mem_cons_of_mem → aF
open Int renaming toNat_natCast → aJ
theorem eN (xs : List Bs) (hn : ∀ k, k < xs.length → (xs.getD k []).length ≤ 1048576) : bz Tryz.prog 26 [.agg [.list .str xs]] (.one (.int .i64 (alE xs))) := by
 refine aL Tryz.func26 rfl (by kernel_rfl) (Nat.le_of_ble_eq_true rfl) rfl fun C hP hN hB => ?_
 replace hN : C.N = 41 := hN
 simp only [aO, E]
 refine ab fun _ k1 => ?_
 refine af hP hN rfl ?_
 iterate 2 (refine aa rfl fun _ k0 => ?_; simp only [zO, zT, acs, reduceCtorEq, M, E, O, Z, Y, V]; (repeat refine an ?_); (try refine .inl ?_); apply k0; clear k0; simp only [zP, E])
 refine ad ?_
 apply k1; clear k1; refine kp [0, 1, 2] ?_
 refine ab fun _ k2 => ?_
 refine ab fun _ k3 => ?_
 refine af hP hN rfl ?_
 iterate 4 (refine aa rfl fun _ k0 => ?_; simp only [zO, zT, acs, reduceCtorEq, M, E, O, Z, Y, V]; (repeat refine an ?_); (try refine .inl ?_); apply k0; clear k0; simp only [zP, E])
 refine ad ?_
 apply k3; clear k3; refine kp [0, 1, 2, 9] ?_
 refine cd (fun hc4 => ?_) (fun hc4 => ?_)
 ·(try simp only [zB, reduceCtorEq] at hc4)
  refine ab fun _ k5 => ?_
  refine af hP hN rfl ?_
  (refine aa rfl fun _ k0 => ?_; simp only [zO, zT, acs, reduceCtorEq, M, E, O, Z, Y, V]; (repeat refine an ?_); (try refine .inl ?_); apply k0; clear k0; simp only [zP, E])
  refine ad ?_
  apply k5; clear k5; refine kp [0, 1, 2, 9] ?_
  refine aq ?_
  refine ⟨nr, _, rfl, ?_⟩; simp only [zF, zP, M, E]
  refine VLE.of_eq ?_
  refine congrArg (fun n => AV.one (AC.int IntKind.i64 n)) ?_
  symm
  first
  | exact eP (by omega)
  | exact dJ (by omega) (by omega)
  | exact eQ (by omega) (by omega) (k := k) (by omega) hq hbad
  | exact eR (by omega) (by omega) (k := k) (by omega) hq hgood hin
  | exact dk (by omega) (by omega) fun q hq2 => hq q (by omega)
 (try simp only [zB, reduceCtorEq] at hc4)
 refine au ?_
 apply k2; clear k2; refine kp [0, 1, 2, 9] ?_
 refine ab fun _ k6 => ?_
 refine ab fun _ k7 => ?_
 refine af hP hN rfl ?_
 iterate 4 (refine aa rfl fun _ k0 => ?_; simp only [zO, zT, acs, reduceCtorEq, M, E, O, Z, Y, V]; (repeat refine an ?_); (try refine .inl ?_); apply k0; clear k0; simp only [zP, E])
 refine ad ?_
 apply k7; clear k7; refine kp [0, 1, 2, 9, 13] ?_
 refine cd (fun hc8 => ?_) (fun hc8 => ?_)
 ·(try simp only [zB, reduceCtorEq] at hc8)
  refine ab fun _ k9 => ?_
  refine af hP hN rfl ?_
  (refine aa rfl fun _ k0 => ?_; simp only [zO, zT, acs, reduceCtorEq, M, E, O, Z, Y, V]; (repeat refine an ?_); (try refine .inl ?_); apply k0; clear k0; simp only [zP, E])
  refine ad ?_
  apply k9; clear k9; refine kp [0, 1, 2, 9, 13] ?_
  refine aq ?_
  refine ⟨nr, _, rfl, ?_⟩; simp only [zF, zP, M, E]
  refine VLE.of_eq ?_
  refine congrArg (fun n => AV.one (AC.int IntKind.i64 n)) ?_
  symm
  first
  | exact eP (by omega)
  | exact dJ (by omega) (by omega)
  | exact eQ (by omega) (by omega) (k := k) (by omega) hq hbad
  | exact eR (by omega) (by omega) (k := k) (by omega) hq hgood hin
  | exact dk (by omega) (by omega) fun q hq2 => hq q (by omega)
 (try simp only [zB, reduceCtorEq] at hc8)
 refine au ?_
 apply k6; clear k6; refine kp [0, 1, 2, 9, 13] ?_
 refine ab fun _ k10 => ?_
 refine ab fun _ k11 => ?_
 refine af hP hN rfl ?_
 (refine aa rfl fun _ k0 => ?_; simp only [zO, zT, acs, reduceCtorEq, M, E, O, Z, Y, V]; (repeat refine an ?_); (try refine .inl ?_); apply k0; clear k0; simp only [zP, E])
 refine ad ?_
 apply k11; clear k11; refine kp [0, 1, 2, 3, 9, 13] ?_
 refine aw ?_
 refine aU (fun n12 s12 => ∃ (k : Nat), (k ≤ xs.length) ∧ (∀ q, q < k → nmE xs q = 0) ∧ n12 = xs.length - k ∧ s12 = { env := [(1, .one (.ptr 0 0 0 0)), (2, .one (.int .i64 0)), (3, .one (.int .i64 (k : Int)))], L := [.vars 24 [.list .str xs]] }) ?_ ?_
 ·exact ⟨_, _, aB [1, 2, 3], 0, Nat.zero_le _, fun q hq => by omega, rfl, rfl⟩
 rintro n12 s12 ⟨k, hk, hq, rfl, rfl⟩
 refine ab fun _ k13 => ?_
 refine ab fun _ k14 => ?_
 refine af hP hN rfl ?_
 iterate 5 (refine aa rfl fun _ k0 => ?_; simp only [zO, zT, acs, reduceCtorEq, M, E, O, Z, Y, V]; (repeat refine an ?_); (try refine .inl ?_); apply k0; clear k0; simp only [zP, E])
 refine ad ?_
 apply k14; clear k14; refine kp [1, 2, 3, 18] ?_
 refine cd (fun hc15 => ?_) (fun hc15 => ?_)
 ·(try simp only [zB, reduceCtorEq] at hc15)
  refine au ?_
  apply k13; clear k13; refine kp [1, 2, 3, 18] ?_
  refine ab fun _ k16 => ?_
  refine aw ?_
  refine ab fun _ k17 => ?_
  refine ab fun _ k18 => ?_
  refine af hP hN rfl ?_
  iterate 5 (refine aa rfl fun _ k0 => ?_; simp only [zO, zT, acs, reduceCtorEq, M, E, O, Z, Y, V]; (repeat refine an ?_); (try refine .inl ?_); apply k0; clear k0; simp only [zP, E])
  refine aa rfl fun _ k0 => ?_
  refine az (h := aj (o0 (xs.getD k []) (hn k (by omega)))) rfl rfl (by first | exact rfl | (simp only [ev, zP, M, E]; exact rfl)) (by simp only [zV, acs, reduceCtorEq, M, E, O, Z, Y, V]) ?_
  apply k0; clear k0; simp only [zP, E]
  (refine aa rfl fun _ k0 => ?_; simp only [zO, zT, acs, reduceCtorEq, M, E, O, Z, Y, V]; (repeat refine an ?_); (try refine .inl ?_); apply k0; clear k0; simp only [zP, E])
  refine ad ?_
  apply k18; clear k18; refine kp [1, 2, 3, 18, 27] ?_
  refine cd (fun hc19 => ?_) (fun hc19 => ?_)
  ·(try simp only [zB, reduceCtorEq] at hc19)
   have hbad : aY (xs.getD k []) = false := by simpa using hc19
   refine ab fun _ k20 => ?_
   refine af hP hN rfl ?_
   (refine aa rfl fun _ k0 => ?_; simp only [zO, zT, acs, reduceCtorEq, M, E, O, Z, Y, V]; (repeat refine an ?_); (try refine .inl ?_); apply k0; clear k0; simp only [zP, E])
   refine ad ?_
   apply k20; clear k20; refine kp [1, 2, 3, 18, 27] ?_
   refine aq ?_
   refine ⟨nr, _, rfl, ?_⟩; simp only [zF, zP, M, E]
   refine VLE.of_eq ?_
   refine congrArg (fun n => AV.one (AC.int IntKind.i64 n)) ?_
   symm
   first
   | exact eP (by omega)
   | exact dJ (by omega) (by omega)
   | exact eQ (by omega) (by omega) (k := k) (by omega) hq hbad
   | exact eR (by omega) (by omega) (k := k) (by omega) hq hgood hin
   | exact dk (by omega) (by omega) fun q hq2 => hq q (by omega)
  (try simp only [zB, reduceCtorEq] at hc19)
  have hgood : aY (xs.getD k []) = true := by simpa using hc19
  refine au ?_
  apply k17; clear k17; refine kp [1, 2, 3, 18, 27] ?_
  refine ab fun _ k21 => ?_
  refine bI hP hN Tryz.mixed rfl ?_
  iterate 6 (refine aa rfl fun _ k0 => ?_; simp only [zO, zT, acs, reduceCtorEq, M, E, O, Z, Y, V]; (repeat refine an ?_); (try refine .inl ?_); apply k0; clear k0; simp only [zP, E])
  refine aa rfl fun _ k0 => ?_
  refine az (h := aj (oY xs (xs.getD k []))) rfl rfl (by first | exact rfl | (simp only [ev, zP, M, E]; exact rfl)) (by simp only [zV, acs, reduceCtorEq, M, E, O, Z, Y, V]) ?_
  apply k0; clear k0; simp only [zP, E]
  iterate 5 (refine aa rfl fun _ k0 => ?_; simp only [zO, zT, acs, reduceCtorEq, M, E, O, Z, Y, V]; (repeat refine an ?_); (try refine .inl ?_); apply k0; clear k0; simp only [zP, E])
  refine ad ?_
  refine ⟨by kernel_rfl, ?_⟩
  apply k21; clear k21; refine kp [1, 2, 3, 4, 18, 27] ?_
  refine ab fun _ k22 => ?_
  refine af hP hN rfl ?_
  iterate 3 (refine aa rfl fun _ k0 => ?_; simp only [zO, zT, acs, reduceCtorEq, M, E, O, Z, Y, V]; (repeat refine an ?_); (try refine .inl ?_); apply k0; clear k0; simp only [zP, E])
  refine ad ?_
  apply k22; clear k22; refine kp [1, 2, 3, 4, 18, 27, 40] ?_
  refine cd (fun hc23 => ?_) (fun hc23 => ?_)
  ·(try simp only [zB, reduceCtorEq] at hc23)
   have hin : xs.getD k [] ∈ xs.take k := uz (by omega) (by have h9 := hc23; omega)
   refine ab fun _ k24 => ?_
   refine af hP hN rfl ?_
   (refine aa rfl fun _ k0 => ?_; simp only [zO, zT, acs, reduceCtorEq, M, E, O, Z, Y, V]; (repeat refine an ?_); (try refine .inl ?_); apply k0; clear k0; simp only [zP, E])
   refine ad ?_
   apply k24; clear k24; refine kp [1, 2, 3, 4, 18, 27, 40] ?_
   refine aq ?_
   refine ⟨nr, _, rfl, ?_⟩; simp only [zF, zP, M, E]
   refine VLE.of_eq ?_
   refine congrArg (fun n => AV.one (AC.int IntKind.i64 n)) ?_
   symm
   first
   | exact eP (by omega)
   | exact dJ (by omega) (by omega)
   | exact eQ (by omega) (by omega) (k := k) (by omega) hq hbad
   | exact eR (by omega) (by omega) (k := k) (by omega) hq hgood hin
   | exact dk (by omega) (by omega) fun q hq2 => hq q (by omega)
  (try simp only [zB, reduceCtorEq] at hc23)
  have hnin : xs.getD k [] ∉ xs.take k := uF (by omega) (by have h9 := hc23; omega)
  refine au ?_
  apply k16; clear k16; refine kp [1, 2, 3, 4, 18, 27, 40] ?_
  refine af hP hN rfl ?_
  iterate 3 (refine aa rfl fun _ k0 => ?_; simp only [zO, zT, acs, reduceCtorEq, M, E, O, Z, Y, V]; (repeat refine an ?_); (try refine .inl ?_); apply k0; clear k0; simp only [zP, E])
  refine ad ?_
  refine ⟨_, _, ?_, aB [1, 2, 3], k + 1, by omega, fun q hq2 => ?_, rfl, rfl⟩
  · omega
  · by_cases e : q = k
    · rw [e]; exact jr hgood hnin
    · exact hq q (by omega)
 (try simp only [zB, reduceCtorEq] at hc15)
 refine aW ?_
 apply k10; clear k10; refine kp [1, 2, 3, 18] ?_
 refine ab fun _ k25 => ?_
 refine af hP hN rfl ?_
 (refine aa rfl fun _ k0 => ?_; simp only [zO, zT, acs, reduceCtorEq, M, E, O, Z, Y, V]; (repeat refine an ?_); (try refine .inl ?_); apply k0; clear k0; simp only [zP, E])
 refine ad ?_
 apply k25; clear k25; refine kp [1, 2, 3, 18] ?_
 refine aq ?_
 refine ⟨nr, _, rfl, ?_⟩; simp only [zF, zP, M, E]
 refine VLE.of_eq ?_
 refine congrArg (fun n => AV.one (AC.int IntKind.i64 n)) ?_
 symm
 first
 | exact eP (by omega)
 | exact dJ (by omega) (by omega)
 | exact eQ (by omega) (by omega) (k := k) (by omega) hq hbad
 | exact eR (by omega) (by omega) (k := k) (by omega) hq hgood hin
 | exact dk (by omega) (by omega) fun q hq2 => hq q (by omega)
theorem tD (m : Mly) (s : Nat) (hi : m.inp ≤ 64) (hs : s < m.nx.length) (ho : m.ot.length = m.nx.length) : bz Tryz.prog 44 [m.av, .one (.int .i64 (s : Int))] (.one (.int .i64 (fU m s))) := by
 refine aL Tryz.func44 rfl (by kernel_rfl) (Nat.le_of_ble_eq_true rfl) rfl fun C hP hN hB => ?_
 replace hN : C.N = 77 := hN
 simp only [aO, E]
 refine ab fun _ k1 => ?_
 refine af hP hN rfl ?_
 iterate 2 (refine aa rfl fun _ k0 => ?_; simp only [zO, zT, acs, reduceCtorEq, M, E, O, Z, Y, V, Mly.av]; (repeat refine an ?_); (try refine .inl ?_); apply k0; clear k0; simp only [zP, E])
 refine ad ?_
 apply k1; clear k1; refine kp [0, 1, 2, 4] ?_
 refine ab fun _ k2 => ?_
 refine ab fun _ k3 => ?_
 refine bI hP hN Tryz.mixed rfl ?_
 iterate 10 (refine aa rfl fun _ k0 => ?_; simp only [zO, zT, acs, reduceCtorEq, M, E, O, Z, Y, V, Mly.av]; (repeat refine an ?_); (try refine .inl ?_); apply k0; clear k0; simp only [zP, E])
 refine' ay (want := false) 9 rfl (m := 15) (by simp only [zP, M, E]; exact rfl) (by kernel_rfl) rfl rfl rfl rfl rfl (fun hg4 => ?a4) ?b4 ?c4
 case a4 =>
  have hq4 := hg4; (try simp only [zB, reduceCtorEq] at hg4); simp only [zE]
  iterate 9 (refine aN rfl fun _ k0 => ?_; simp only [zO, zT, acs, reduceCtorEq, M, E, O, Z, Y, V, Mly.av]; (repeat refine an ?_); (try refine .inl ?_); apply k0; clear k0; simp only [zP, E])
  (refine aa rfl fun _ k0 => ?_; simp only [zO, zT, acs, reduceCtorEq, M, E, O, Z, Y, V, Mly.av]; (repeat refine an ?_); (try refine .inl ?_); apply k0; clear k0; simp only [zP, E])
  refine ad ?_
  refine ⟨by simp only [zP, M, E]; exact rfl, rfl, ?_, rfl⟩; (repeat refine ax rfl ?_); exact aM (by exact rfl) hq4
 case b4 => exact bb
 simp only [aC, aA]
 refine ad ?_
 refine ⟨by kernel_rfl, ?_⟩
 apply k3; clear k3; refine kp [0, 1, 2, 4, 25] ?_
 refine cd (fun hc5 => ?_) (fun hc5 => ?_)
 ·(try simp only [zB, reduceCtorEq] at hc5)
  refine ab fun _ k6 => ?_
  refine af hP hN rfl ?_
  (refine aa rfl fun _ k0 => ?_; simp only [zO, zT, acs, reduceCtorEq, M, E, O, Z, Y, V, Mly.av]; (repeat refine an ?_); (try refine .inl ?_); apply k0; clear k0; simp only [zP, E])
  refine ad ?_
  apply k6; clear k6; refine kp [0, 1, 2, 4, 25] ?_
  refine aq ?_
  refine ⟨nr, _, rfl, ?_⟩; simp only [zF, zP, M, E, Mly.av]
  refine VLE.of_eq ?_
  refine congrArg (fun n => AV.one (AC.int IntKind.i64 n)) ?_
  symm
  first
  | exact bv hc5
  | exact bu hc5.1 hc5.2 (j := j) (by omega) (by unfold aZ; omega)
  | exact iI hc5.1 hc5.2 fun a ha => hcells a (by omega)
 (try simp only [zB, reduceCtorEq] at hc5)
 refine au ?_
 apply k2; clear k2; refine kp [0, 1, 2, 4, 25] ?_
 refine ab fun _ k7 => ?_
 refine ab fun _ k8 => ?_
 refine af hP hN rfl ?_
 (refine aa rfl fun _ k0 => ?_; simp only [zO, zT, acs, reduceCtorEq, M, E, O, Z, Y, V, Mly.av]; (repeat refine an ?_); (try refine .inl ?_); apply k0; clear k0; simp only [zP, E])
 refine ad ?_
 apply k8; clear k8; refine kp [0, 1, 2, 4, 5, 25] ?_
 refine aw ?_
 refine aU (fun n9 s9 => ∃ (j : Nat), (∀ a, a < j → ¬ aZ m s a) ∧ (j ≤ m.inp.toNat) ∧ n9 = m.inp.toNat - j ∧ s9 = { env := [(1, .one (.int .i64 (s : Int))), (2, .one (.ptr 0 0 0 0)), (5, .one (.int .i64 (j : Int)))], L := [.vars 27 [.int .i64 m.inp, .int .i64 m.st, .list (.list (.int .i64)) m.nx, .list (.list (.int .i64)) m.ot]] }) ?_ ?_
 ·exact ⟨_, _, aB [1, 2, 5], 0, fun i hi => by omega, Nat.zero_le _, rfl, rfl⟩
 rintro n9 s9 ⟨j, hcells, hj, rfl, rfl⟩
 refine ab fun _ k10 => ?_
 refine ab fun _ k11 => ?_
 refine af hP hN rfl ?_
 iterate 4 (refine aa rfl fun _ k0 => ?_; simp only [zO, zT, acs, reduceCtorEq, M, E, O, Z, Y, V, Mly.av]; (repeat refine an ?_); (try refine .inl ?_); apply k0; clear k0; simp only [zP, E])
 refine ad ?_
 apply k11; clear k11; refine kp [1, 2, 5, 29] ?_
 refine cd (fun hc12 => ?_) (fun hc12 => ?_)
 ·(try simp only [zB, reduceCtorEq] at hc12)
  refine au ?_
  apply k10; clear k10; refine kp [1, 2, 5, 29] ?_
  refine ab fun _ k13 => ?_
  refine aw ?_
  refine ab fun _ k14 => ?_
  refine bI hP hN Tryz.mixed rfl ?_
  iterate 10 (refine aa rfl fun _ k0 => ?_; simp only [zO, zT, acs, reduceCtorEq, M, E, O, Z, Y, V, Mly.av]; (repeat refine an ?_); (try refine .inl ?_); apply k0; clear k0; simp only [zP, E])
  refine' ay (want := false) 12 rfl (m := 41) (by simp only [zP, M, E]; exact rfl) (by kernel_rfl) rfl rfl rfl rfl rfl (fun hg15 => ?a15) ?b15 ?c15
  case a15 =>
   have hq15 := hg15; (try simp only [zB, reduceCtorEq] at hg15); simp only [zE]
   iterate 12 (refine aN rfl fun _ k0 => ?_; simp only [zO, zT, acs, reduceCtorEq, M, E, O, Z, Y, V, Mly.av]; (repeat refine an ?_); (try refine .inl ?_); apply k0; clear k0; simp only [zP, E])
   (refine aa rfl fun _ k0 => ?_; simp only [zO, zT, acs, reduceCtorEq, M, E, O, Z, Y, V, Mly.av]; (repeat refine an ?_); (try refine .inl ?_); apply k0; clear k0; simp only [zP, E])
   refine ad ?_
   refine ⟨by simp only [zP, M, E]; exact rfl, rfl, ?_, rfl⟩; (repeat refine ax rfl ?_); exact aM (by exact rfl) hq15
  case b15 => exact bb
  simp only [aC, aA]
  (refine aa rfl fun _ k0 => ?_; simp only [zO, zT, acs, reduceCtorEq, M, E, O, Z, Y, V, Mly.av]; (repeat refine an ?_); (try refine .inl ?_); apply k0; clear k0; simp only [zP, E])
  refine' ay (want := false) 9 rfl (m := 55) (by simp only [zP, M, E]; exact rfl) (by kernel_rfl) rfl rfl rfl rfl rfl (fun hg16 => ?a16) ?b16 ?c16
  case a16 =>
   have hq16 := hg16; (try simp only [zB, reduceCtorEq] at hg16); simp only [zE]
   iterate 9 (refine aN rfl fun _ k0 => ?_; simp only [zO, zT, acs, reduceCtorEq, M, E, O, Z, Y, V, Mly.av]; (repeat refine an ?_); (try refine .inl ?_); apply k0; clear k0; simp only [zP, E])
   (refine aa rfl fun _ k0 => ?_; simp only [zO, zT, acs, reduceCtorEq, M, E, O, Z, Y, V, Mly.av]; (repeat refine an ?_); (try refine .inl ?_); apply k0; clear k0; simp only [zP, E])
   refine ad ?_
   refine ⟨by simp only [zP, M, E]; exact rfl, rfl, ?_, rfl⟩; (repeat refine ax rfl ?_); exact aM (by exact rfl) hq16
  case b16 => exact bb
  simp only [aC, aA]
  (refine aa rfl fun _ k0 => ?_; simp only [zO, zT, acs, reduceCtorEq, M, E, O, Z, Y, V, Mly.av]; (repeat refine an ?_); (try refine .inl ?_); apply k0; clear k0; simp only [zP, E])
  refine' ay (want := false) 9 rfl (m := 66) (by simp only [zP, M, E]; exact rfl) (by kernel_rfl) rfl rfl rfl rfl rfl (fun hg17 => ?a17) ?b17 ?c17
  case a17 =>
   have hq17 := hg17; (try simp only [zB, reduceCtorEq] at hg17); simp only [zE]
   iterate 9 (refine aN rfl fun _ k0 => ?_; simp only [zO, zT, acs, reduceCtorEq, M, E, O, Z, Y, V, Mly.av]; (repeat refine an ?_); (try refine .inl ?_); apply k0; clear k0; simp only [zP, E])
   (refine aa rfl fun _ k0 => ?_; simp only [zO, zT, acs, reduceCtorEq, M, E, O, Z, Y, V, Mly.av]; (repeat refine an ?_); (try refine .inl ?_); apply k0; clear k0; simp only [zP, E])
   refine ad ?_
   refine ⟨by simp only [zP, M, E]; exact rfl, rfl, ?_, rfl⟩; (repeat refine ax rfl ?_); exact aM (by exact rfl) hq17
  case b17 => exact bb
  simp only [aC, aA]
  refine ad ?_
  refine ⟨by kernel_rfl, ?_⟩
  apply k14; clear k14; refine kp [1, 2, 5, 29, 76] ?_
  refine cd (fun hc18 => ?_) (fun hc18 => ?_)
  ·(try simp only [zB, reduceCtorEq] at hc18)
   refine ab fun _ k19 => ?_
   refine af hP hN rfl ?_
   (refine aa rfl fun _ k0 => ?_; simp only [zO, zT, acs, reduceCtorEq, M, E, O, Z, Y, V, Mly.av]; (repeat refine an ?_); (try refine .inl ?_); apply k0; clear k0; simp only [zP, E])
   refine ad ?_
   apply k19; clear k19; refine kp [1, 2, 4, 5, 29, 76] ?_
   refine aq ?_
   refine ⟨nr, _, rfl, ?_⟩; simp only [zF, zP, M, E, Mly.av]
   refine VLE.of_eq ?_
   refine congrArg (fun n => AV.one (AC.int IntKind.i64 n)) ?_
   symm
   first
   | exact bv hc5
   | exact bu hc5.1 hc5.2 (j := j) (by omega) (by unfold aZ; omega)
   | exact iI hc5.1 hc5.2 fun a ha => hcells a (by omega)
  (try simp only [zB, reduceCtorEq] at hc18)
  refine au ?_
  apply k13; clear k13; refine kp [1, 2, 5, 29, 76] ?_
  refine af hP hN rfl ?_
  iterate 3 (refine aa rfl fun _ k0 => ?_; simp only [zO, zT, acs, reduceCtorEq, M, E, O, Z, Y, V, Mly.av]; (repeat refine an ?_); (try refine .inl ?_); apply k0; clear k0; simp only [zP, E])
  refine ad ?_
  refine ⟨_, _, ?_, aB [1, 2, 5], j + 1, fun a ha => ?_, ?_, rfl, rfl⟩
  · omega
  · by_cases e : a = j
    · rw [e]; unfold aZ; omega
    · exact hcells a (by omega)
  · omega
 (try simp only [zB, reduceCtorEq] at hc12)
 refine aW ?_
 apply k7; clear k7; refine kp [1, 2, 5, 29] ?_
 refine ab fun _ k20 => ?_
 refine af hP hN rfl ?_
 (refine aa rfl fun _ k0 => ?_; simp only [zO, zT, acs, reduceCtorEq, M, E, O, Z, Y, V, Mly.av]; (repeat refine an ?_); (try refine .inl ?_); apply k0; clear k0; simp only [zP, E])
 refine ad ?_
 apply k20; clear k20; refine kp [1, 2, 4, 5, 29] ?_
 refine aq ?_
 refine ⟨nr, _, rfl, ?_⟩; simp only [zF, zP, M, E, Mly.av]
 refine VLE.of_eq ?_
 refine congrArg (fun n => AV.one (AC.int IntKind.i64 n)) ?_
 symm
 first
 | exact bv hc5
 | exact bu hc5.1 hc5.2 (j := j) (by omega) (by unfold aZ; omega)
 | exact iI hc5.1 hc5.2 fun a ha => hcells a (by omega)
theorem mF (m : Mly) : bz Tryz.prog 27 [m.av] (.one (.int .i64 (b0 m))) := by
 refine aL Tryz.func27 rfl (by kernel_rfl) (Nat.le_of_ble_eq_true rfl) rfl fun C hP hN hB => ?_
 replace hN : C.N = 52 := hN
 simp only [aO, E]
 refine ab fun _ k1 => ?_
 refine af hP hN rfl ?_
 iterate 2 (refine aa rfl fun _ k0 => ?_; simp only [zO, zT, acs, reduceCtorEq, M, E, O, Z, Y, V, Mly.av]; (repeat refine an ?_); (try refine .inl ?_); apply k0; clear k0; simp only [zP, E])
 refine ad ?_
 apply k1; clear k1; refine kp [0, 1, 2] ?_
 refine ab fun _ k2 => ?_
 refine ab fun _ k3 => ?_
 refine af hP hN rfl ?_
 iterate 4 (refine aa rfl fun _ k0 => ?_; simp only [zO, zT, acs, reduceCtorEq, M, E, O, Z, Y, V, Mly.av]; (repeat refine an ?_); (try refine .inl ?_); apply k0; clear k0; simp only [zP, E])
 refine' ay (want := false) 3 rfl (m := 8) (by simp only [zP, M, E]; exact rfl) (by kernel_rfl) rfl rfl rfl rfl rfl (fun hg4 => ?a4) ?b4 ?c4
 case a4 =>
  have hq4 := hg4; (try simp only [zB, reduceCtorEq] at hg4); simp only [zE]
  iterate 3 (refine aN rfl fun _ k0 => ?_; simp only [zO, zT, acs, reduceCtorEq, M, E, O, Z, Y, V, Mly.av]; (repeat refine an ?_); (try refine .inl ?_); apply k0; clear k0; simp only [zP, E])
  (refine aa rfl fun _ k0 => ?_; simp only [zO, zT, acs, reduceCtorEq, M, E, O, Z, Y, V, Mly.av]; (repeat refine an ?_); (try refine .inl ?_); apply k0; clear k0; simp only [zP, E])
  refine ad ?_
  refine ⟨by simp only [zP, M, E]; exact rfl, rfl, ?_, rfl⟩; (repeat refine ax rfl ?_); exact aM (by exact rfl) hq4
 case b4 => exact bb
 simp only [aC, aA]
 refine ad ?_
 apply k3; clear k3; refine kp [0, 1, 2, 12] ?_
 refine cd (fun hc5 => ?_) (fun hc5 => ?_)
 ·(try simp only [zB, reduceCtorEq] at hc5)
  refine ab fun _ k6 => ?_
  refine af hP hN rfl ?_
  (refine aa rfl fun _ k0 => ?_; simp only [zO, zT, acs, reduceCtorEq, M, E, O, Z, Y, V, Mly.av]; (repeat refine an ?_); (try refine .inl ?_); apply k0; clear k0; simp only [zP, E])
  refine ad ?_
  apply k6; clear k6; refine kp [0, 1, 2, 12] ?_
  refine aq ?_
  refine ⟨nr, _, rfl, ?_⟩; simp only [zF, zP, M, E, Mly.av]
  refine VLE.of_eq ?_
  refine congrArg (fun n => AV.one (AC.int IntKind.i64 n)) ?_
  symm
  unfold b0
  first
  | (rw [if_pos (by omega)]; done)
  | (rw [if_neg (by omega), if_pos (by omega)]; done)
  | (rw [if_neg (by omega), if_neg (by omega), if_pos (by omega)]; done)
  | (rw [if_neg (by omega), if_neg (by omega), if_neg (by omega), if_pos (by omega)]; done)
  | (rw [if_neg (by omega), if_neg (by omega), if_neg (by omega), if_neg (by omega), if_pos (by omega)]; done)
  | (rw [if_neg (by omega), if_neg (by omega), if_neg (by omega), if_neg (by omega), if_neg (by omega)]
     first
     | exact aV hrows (by omega) (by assumption)
     | exact bf fun i hi => hrows i (by omega))
 (try simp only [zB, reduceCtorEq] at hc5)
 refine au ?_
 apply k2; clear k2; refine kp [0, 1, 2, 12] ?_
 refine ab fun _ k7 => ?_
 refine ab fun _ k8 => ?_
 refine af hP hN rfl ?_
 iterate 4 (refine aa rfl fun _ k0 => ?_; simp only [zO, zT, acs, reduceCtorEq, M, E, O, Z, Y, V, Mly.av]; (repeat refine an ?_); (try refine .inl ?_); apply k0; clear k0; simp only [zP, E])
 refine ad ?_
 apply k8; clear k8; refine kp [0, 1, 2, 12, 16] ?_
 refine cd (fun hc9 => ?_) (fun hc9 => ?_)
 ·(try simp only [zB, reduceCtorEq] at hc9)
  refine ab fun _ k10 => ?_
  refine af hP hN rfl ?_
  (refine aa rfl fun _ k0 => ?_; simp only [zO, zT, acs, reduceCtorEq, M, E, O, Z, Y, V, Mly.av]; (repeat refine an ?_); (try refine .inl ?_); apply k0; clear k0; simp only [zP, E])
  refine ad ?_
  apply k10; clear k10; refine kp [0, 1, 2, 12, 16] ?_
  refine aq ?_
  refine ⟨nr, _, rfl, ?_⟩; simp only [zF, zP, M, E, Mly.av]
  refine VLE.of_eq ?_
  refine congrArg (fun n => AV.one (AC.int IntKind.i64 n)) ?_
  symm
  unfold b0
  first
  | (rw [if_pos (by omega)]; done)
  | (rw [if_neg (by omega), if_pos (by omega)]; done)
  | (rw [if_neg (by omega), if_neg (by omega), if_pos (by omega)]; done)
  | (rw [if_neg (by omega), if_neg (by omega), if_neg (by omega), if_pos (by omega)]; done)
  | (rw [if_neg (by omega), if_neg (by omega), if_neg (by omega), if_neg (by omega), if_pos (by omega)]; done)
  | (rw [if_neg (by omega), if_neg (by omega), if_neg (by omega), if_neg (by omega), if_neg (by omega)]
     first
     | exact aV hrows (by omega) (by assumption)
     | exact bf fun i hi => hrows i (by omega))
 (try simp only [zB, reduceCtorEq] at hc9)
 refine au ?_
 apply k7; clear k7; refine kp [0, 1, 2, 12, 16] ?_
 refine ab fun _ k11 => ?_
 refine ab fun _ k12 => ?_
 refine af hP hN rfl ?_
 iterate 4 (refine aa rfl fun _ k0 => ?_; simp only [zO, zT, acs, reduceCtorEq, M, E, O, Z, Y, V, Mly.av]; (repeat refine an ?_); (try refine .inl ?_); apply k0; clear k0; simp only [zP, E])
 refine ad ?_
 apply k12; clear k12; refine kp [0, 1, 2, 12, 16, 20] ?_
 refine cd (fun hc13 => ?_) (fun hc13 => ?_)
 ·(try simp only [zB, reduceCtorEq] at hc13)
  refine ab fun _ k14 => ?_
  refine af hP hN rfl ?_
  (refine aa rfl fun _ k0 => ?_; simp only [zO, zT, acs, reduceCtorEq, M, E, O, Z, Y, V, Mly.av]; (repeat refine an ?_); (try refine .inl ?_); apply k0; clear k0; simp only [zP, E])
  refine ad ?_
  apply k14; clear k14; refine kp [0, 1, 2, 12, 16, 20] ?_
  refine aq ?_
  refine ⟨nr, _, rfl, ?_⟩; simp only [zF, zP, M, E, Mly.av]
  refine VLE.of_eq ?_
  refine congrArg (fun n => AV.one (AC.int IntKind.i64 n)) ?_
  symm
  unfold b0
  first
  | (rw [if_pos (by omega)]; done)
  | (rw [if_neg (by omega), if_pos (by omega)]; done)
  | (rw [if_neg (by omega), if_neg (by omega), if_pos (by omega)]; done)
  | (rw [if_neg (by omega), if_neg (by omega), if_neg (by omega), if_pos (by omega)]; done)
  | (rw [if_neg (by omega), if_neg (by omega), if_neg (by omega), if_neg (by omega), if_pos (by omega)]; done)
  | (rw [if_neg (by omega), if_neg (by omega), if_neg (by omega), if_neg (by omega), if_neg (by omega)]
     first
     | exact aV hrows (by omega) (by assumption)
     | exact bf fun i hi => hrows i (by omega))
 (try simp only [zB, reduceCtorEq] at hc13)
 refine au ?_
 apply k11; clear k11; refine kp [0, 1, 2, 12, 16, 20] ?_
 refine ab fun _ k15 => ?_
 refine ab fun _ k16 => ?_
 refine af hP hN rfl ?_
 iterate 4 (refine aa rfl fun _ k0 => ?_; simp only [zO, zT, acs, reduceCtorEq, M, E, O, Z, Y, V, Mly.av]; (repeat refine an ?_); (try refine .inl ?_); apply k0; clear k0; simp only [zP, E])
 refine' ay (want := false) 6 rfl (m := 24) (by simp only [zP, M, E]; exact rfl) (by kernel_rfl) rfl rfl rfl rfl rfl (fun hg17 => ?a17) ?b17 ?c17
 case a17 =>
  have hq17 := hg17; (try simp only [zB, reduceCtorEq] at hg17); simp only [zE]
  iterate 6 (refine aN rfl fun _ k0 => ?_; simp only [zO, zT, acs, reduceCtorEq, M, E, O, Z, Y, V, Mly.av]; (repeat refine an ?_); (try refine .inl ?_); apply k0; clear k0; simp only [zP, E])
  (refine aa rfl fun _ k0 => ?_; simp only [zO, zT, acs, reduceCtorEq, M, E, O, Z, Y, V, Mly.av]; (repeat refine an ?_); (try refine .inl ?_); apply k0; clear k0; simp only [zP, E])
  refine ad ?_
  refine ⟨by simp only [zP, M, E]; exact rfl, rfl, ?_, rfl⟩; (repeat refine ax rfl ?_); exact aM (by exact rfl) hq17
 case b17 => exact bb
 simp only [aC, aA]
 refine ad ?_
 apply k16; clear k16; refine kp [0, 1, 2, 12, 16, 20, 31] ?_
 refine cd (fun hc18 => ?_) (fun hc18 => ?_)
 ·(try simp only [zB, reduceCtorEq] at hc18)
  refine ab fun _ k19 => ?_
  refine af hP hN rfl ?_
  (refine aa rfl fun _ k0 => ?_; simp only [zO, zT, acs, reduceCtorEq, M, E, O, Z, Y, V, Mly.av]; (repeat refine an ?_); (try refine .inl ?_); apply k0; clear k0; simp only [zP, E])
  refine ad ?_
  apply k19; clear k19; refine kp [0, 1, 2, 12, 16, 20, 31] ?_
  refine aq ?_
  refine ⟨nr, _, rfl, ?_⟩; simp only [zF, zP, M, E, Mly.av]
  refine VLE.of_eq ?_
  refine congrArg (fun n => AV.one (AC.int IntKind.i64 n)) ?_
  symm
  unfold b0
  first
  | (rw [if_pos (by omega)]; done)
  | (rw [if_neg (by omega), if_pos (by omega)]; done)
  | (rw [if_neg (by omega), if_neg (by omega), if_pos (by omega)]; done)
  | (rw [if_neg (by omega), if_neg (by omega), if_neg (by omega), if_pos (by omega)]; done)
  | (rw [if_neg (by omega), if_neg (by omega), if_neg (by omega), if_neg (by omega), if_pos (by omega)]; done)
  | (rw [if_neg (by omega), if_neg (by omega), if_neg (by omega), if_neg (by omega), if_neg (by omega)]
     first
     | exact aV hrows (by omega) (by assumption)
     | exact bf fun i hi => hrows i (by omega))
 (try simp only [zB, reduceCtorEq] at hc18)
 refine au ?_
 apply k15; clear k15; refine kp [0, 1, 2, 12, 16, 20, 31] ?_
 refine ab fun _ k20 => ?_
 refine ab fun _ k21 => ?_
 refine af hP hN rfl ?_
 iterate 7 (refine aa rfl fun _ k0 => ?_; simp only [zO, zT, acs, reduceCtorEq, M, E, O, Z, Y, V, Mly.av]; (repeat refine an ?_); (try refine .inl ?_); apply k0; clear k0; simp only [zP, E])
 refine ad ?_
 apply k21; clear k21; refine kp [0, 1, 2, 12, 16, 20, 31, 38] ?_
 refine cd (fun hc22 => ?_) (fun hc22 => ?_)
 ·(try simp only [zB, reduceCtorEq] at hc22)
  refine ab fun _ k23 => ?_
  refine af hP hN rfl ?_
  (refine aa rfl fun _ k0 => ?_; simp only [zO, zT, acs, reduceCtorEq, M, E, O, Z, Y, V, Mly.av]; (repeat refine an ?_); (try refine .inl ?_); apply k0; clear k0; simp only [zP, E])
  refine ad ?_
  apply k23; clear k23; refine kp [0, 1, 2, 12, 16, 20, 31, 38] ?_
  refine aq ?_
  refine ⟨nr, _, rfl, ?_⟩; simp only [zF, zP, M, E, Mly.av]
  refine VLE.of_eq ?_
  refine congrArg (fun n => AV.one (AC.int IntKind.i64 n)) ?_
  symm
  unfold b0
  first
  | (rw [if_pos (by omega)]; done)
  | (rw [if_neg (by omega), if_pos (by omega)]; done)
  | (rw [if_neg (by omega), if_neg (by omega), if_pos (by omega)]; done)
  | (rw [if_neg (by omega), if_neg (by omega), if_neg (by omega), if_pos (by omega)]; done)
  | (rw [if_neg (by omega), if_neg (by omega), if_neg (by omega), if_neg (by omega), if_pos (by omega)]; done)
  | (rw [if_neg (by omega), if_neg (by omega), if_neg (by omega), if_neg (by omega), if_neg (by omega)]
     first
     | exact aV hrows (by omega) (by assumption)
     | exact bf fun i hi => hrows i (by omega))
 (try simp only [zB, reduceCtorEq] at hc22)
 refine au ?_
 apply k20; clear k20; refine kp [0, 1, 2, 12, 16, 20, 31, 38] ?_
 refine ab fun _ k24 => ?_
 refine ab fun _ k25 => ?_
 refine af hP hN rfl ?_
 (refine aa rfl fun _ k0 => ?_; simp only [zO, zT, acs, reduceCtorEq, M, E, O, Z, Y, V, Mly.av]; (repeat refine an ?_); (try refine .inl ?_); apply k0; clear k0; simp only [zP, E])
 refine ad ?_
 apply k25; clear k25; refine kp [0, 1, 2, 3, 12, 16, 20, 31, 38] ?_
 refine aw ?_
 refine aU (fun n26 s26 => ∃ (k : Nat), (k ≤ m.nx.length) ∧ (∀ i, i < k → fU m i = 0) ∧ n26 = m.nx.length - k ∧ s26 = { env := [(1, .one (.ptr 0 0 0 0)), (3, .one (.int .i64 (k : Int)))], L := [.vars 27 [.int .i64 m.inp, .int .i64 m.st, .list (.list (.int .i64)) m.nx, .list (.list (.int .i64)) m.ot]] }) ?_ ?_
 ·exact ⟨_, _, aB [1, 3], 0, Nat.zero_le _, fun i hi => by omega, rfl, rfl⟩
 rintro n26 s26 ⟨k, hk, hrows, rfl, rfl⟩
 refine ab fun _ k27 => ?_
 refine ab fun _ k28 => ?_
 refine af hP hN rfl ?_
 iterate 5 (refine aa rfl fun _ k0 => ?_; simp only [zO, zT, acs, reduceCtorEq, M, E, O, Z, Y, V, Mly.av]; (repeat refine an ?_); (try refine .inl ?_); apply k0; clear k0; simp only [zP, E])
 refine ad ?_
 apply k28; clear k28; refine kp [1, 3, 43] ?_
 refine cd (fun hc29 => ?_) (fun hc29 => ?_)
 ·(try simp only [zB, reduceCtorEq] at hc29)
  refine au ?_
  apply k27; clear k27; refine kp [1, 3, 43] ?_
  refine ab fun _ k30 => ?_
  refine aw ?_
  refine ab fun _ k31 => ?_
  refine af hP hN rfl ?_
  iterate 2 (refine aa rfl fun _ k0 => ?_; simp only [zO, zT, acs, reduceCtorEq, M, E, O, Z, Y, V, Mly.av]; (repeat refine an ?_); (try refine .inl ?_); apply k0; clear k0; simp only [zP, E])
  refine aa rfl fun _ k0 => ?_
  refine az (h := aj (tD m k (by omega) (by omega) (by omega))) rfl rfl (by first | exact rfl | (simp only [ev, zP, M, E]; exact rfl)) (by simp only [zV, acs, reduceCtorEq, M, E, O, Z, Y, V, Mly.av]) ?_
  apply k0; clear k0; simp only [zP, E]
  (refine aa rfl fun _ k0 => ?_; simp only [zO, zT, acs, reduceCtorEq, M, E, O, Z, Y, V, Mly.av]; (repeat refine an ?_); (try refine .inl ?_); apply k0; clear k0; simp only [zP, E])
  refine ad ?_
  apply k31; clear k31; refine kp [1, 3, 4, 43] ?_
  refine ab fun _ k32 => ?_
  refine af hP hN rfl ?_
  iterate 2 (refine aa rfl fun _ k0 => ?_; simp only [zO, zT, acs, reduceCtorEq, M, E, O, Z, Y, V, Mly.av]; (repeat refine an ?_); (try refine .inl ?_); apply k0; clear k0; simp only [zP, E])
  refine ad ?_
  apply k32; clear k32; refine kp [1, 3, 4, 43, 50] ?_
  refine cd (fun hc33 => ?_) (fun hc33 => ?_)
  ·(try simp only [zB, reduceCtorEq] at hc33)
   refine ab fun _ k34 => ?_
   refine af hP hN rfl ?_
   iterate 2 (refine aa rfl fun _ k0 => ?_; simp only [zO, zT, acs, reduceCtorEq, M, E, O, Z, Y, V, Mly.av]; (repeat refine an ?_); (try refine .inl ?_); apply k0; clear k0; simp only [zP, E])
   refine ad ?_
   apply k34; clear k34; refine kp [1, 2, 3, 4, 43, 50] ?_
   refine aq ?_
   refine ⟨nr, _, rfl, ?_⟩; simp only [zF, zP, M, E, Mly.av]
   refine VLE.of_eq ?_
   refine congrArg (fun n => AV.one (AC.int IntKind.i64 n)) ?_
   symm
   unfold b0
   first
   | (rw [if_pos (by omega)]; done)
   | (rw [if_neg (by omega), if_pos (by omega)]; done)
   | (rw [if_neg (by omega), if_neg (by omega), if_pos (by omega)]; done)
   | (rw [if_neg (by omega), if_neg (by omega), if_neg (by omega), if_pos (by omega)]; done)
   | (rw [if_neg (by omega), if_neg (by omega), if_neg (by omega), if_neg (by omega), if_pos (by omega)]; done)
   | (rw [if_neg (by omega), if_neg (by omega), if_neg (by omega), if_neg (by omega), if_neg (by omega)]
      first
      | exact aV hrows (by omega) (by assumption)
      | exact bf fun i hi => hrows i (by omega))
  (try simp only [zB, reduceCtorEq] at hc33)
  refine au ?_
  apply k30; clear k30; refine kp [1, 3, 4, 43, 50] ?_
  refine af hP hN rfl ?_
  iterate 3 (refine aa rfl fun _ k0 => ?_; simp only [zO, zT, acs, reduceCtorEq, M, E, O, Z, Y, V, Mly.av]; (repeat refine an ?_); (try refine .inl ?_); apply k0; clear k0; simp only [zP, E])
  refine ad ?_
  refine ⟨_, _, ?_, aB [1, 3], k + 1, by omega, fun i hi => ?_, rfl, rfl⟩
  · omega
  · by_cases e : i = k
    · rw [e]; first | assumption | omega
    · exact hrows i (by omega)
 (try simp only [zB, reduceCtorEq] at hc29)
 refine aW ?_
 apply k24; clear k24; refine kp [1, 3, 43] ?_
 refine ab fun _ k35 => ?_
 refine af hP hN rfl ?_
 (refine aa rfl fun _ k0 => ?_; simp only [zO, zT, acs, reduceCtorEq, M, E, O, Z, Y, V, Mly.av]; (repeat refine an ?_); (try refine .inl ?_); apply k0; clear k0; simp only [zP, E])
 refine ad ?_
 apply k35; clear k35; refine kp [1, 2, 3, 43] ?_
 refine aq ?_
 refine ⟨nr, _, rfl, ?_⟩; simp only [zF, zP, M, E, Mly.av]
 refine VLE.of_eq ?_
 refine congrArg (fun n => AV.one (AC.int IntKind.i64 n)) ?_
 symm
 unfold b0
 first
 | (rw [if_pos (by omega)]; done)
 | (rw [if_neg (by omega), if_pos (by omega)]; done)
 | (rw [if_neg (by omega), if_neg (by omega), if_pos (by omega)]; done)
 | (rw [if_neg (by omega), if_neg (by omega), if_neg (by omega), if_pos (by omega)]; done)
 | (rw [if_neg (by omega), if_neg (by omega), if_neg (by omega), if_neg (by omega), if_pos (by omega)]; done)
 | (rw [if_neg (by omega), if_neg (by omega), if_neg (by omega), if_neg (by omega), if_neg (by omega)]
    first
    | exact aV hrows (by omega) (by assumption)
    | exact bf fun i hi => hrows i (by omega))
theorem nV (x : Mdl) (hn : x.nm.length ≤ 1048576) (hi : ∀ k, k < x.ins.length → (x.ins.getD k []).length ≤ 1048576) (ho : ∀ k, k < x.outs.length → (x.outs.getD k []).length ≤ 1048576) : bz Tryz.prog 10 [x.av] (.one (.int .i64 (mvE x))) := by
 refine aL Tryz.func10 rfl (by kernel_rfl) (Nat.le_of_ble_eq_true rfl) rfl fun C hP hN hB => ?_
 replace hN : C.N = 72 := hN
 simp only [aO, E]
 refine ab fun _ k1 => ?_
 refine af hP hN rfl ?_
 iterate 2 (refine aa rfl fun _ k0 => ?_; simp only [zO, zT, acs, reduceCtorEq, M, E, O, Z, Y, V, Mdl.av, Mdl.cs]; (repeat refine an ?_); (try refine .inl ?_); apply k0; clear k0; simp only [zP, E])
 refine ad ?_
 apply k1; clear k1; refine kp [0, 1, 2] ?_
 refine ab fun _ k2 => ?_
 refine aw ?_
 refine ab fun _ k3 => ?_
 refine af hP hN rfl ?_
 iterate 2 (refine aa rfl fun _ k0 => ?_; simp only [zO, zT, acs, reduceCtorEq, M, E, O, Z, Y, V, Mdl.av, Mdl.cs]; (repeat refine an ?_); (try refine .inl ?_); apply k0; clear k0; simp only [zP, E])
 refine aa rfl fun _ k0 => ?_
 refine az (h := aj (o0 x.nm hn)) rfl rfl (by first | exact rfl | (simp only [ev, zP, M, E]; exact rfl)) (by simp only [zV, acs, reduceCtorEq, M, E, O, Z, Y, V, Mdl.av, Mdl.cs]) ?_
 apply k0; clear k0; simp only [zP, E]
 iterate 2 (refine aa rfl fun _ k0 => ?_; simp only [zO, zT, acs, reduceCtorEq, M, E, O, Z, Y, V, Mdl.av, Mdl.cs]; (repeat refine an ?_); (try refine .inl ?_); apply k0; clear k0; simp only [zP, E])
 refine ad ?_
 apply k3; clear k3; refine kp [0, 1, 2, 5] ?_
 refine cd (fun hc4 => ?_) (fun hc4 => ?_)
 ·(try simp only [zB, reduceCtorEq] at hc4)
  refine ab fun _ k5 => ?_
  refine af hP hN rfl ?_
  (refine aa rfl fun _ k0 => ?_; simp only [zO, zT, acs, reduceCtorEq, M, E, O, Z, Y, V, Mdl.av, Mdl.cs]; (repeat refine an ?_); (try refine .inl ?_); apply k0; clear k0; simp only [zP, E])
  refine ad ?_
  apply k5; clear k5; refine kp [0, 1, 2, 5] ?_
  refine aq ?_
  refine ⟨nr, _, rfl, ?_⟩; simp only [zF, zP, M, E, Mdl.av, Mdl.cs]
  refine VLE.of_eq ?_
  refine congrArg (fun n => AV.one (AC.int IntKind.i64 n)) ?_
  symm
  first
  | exact fR (by assumption)
  | exact jJ (by assumption) (by assumption)
  | exact kc (by assumption) (by assumption) (by assumption)
  | exact fS (by assumption) (by assumption) (by assumption) (by assumption)
  | exact fT (by assumption) (by assumption) (by assumption) (by assumption) (by omega)
  | (have hmx := i7 hv0 (n := x.outs.length) fun s' a' hs' ha' => hq s' a' (by omega) ha'
     exact f0 (by assumption) (by assumption) (by assumption) (by assumption) ⟨by assumption, hmx⟩)
 (try simp only [zB, reduceCtorEq] at hc4)
 refine ab fun _ k6 => ?_
 refine af hP hN rfl ?_
 iterate 2 (refine aa rfl fun _ k0 => ?_; simp only [zO, zT, acs, reduceCtorEq, M, E, O, Z, Y, V, Mdl.av, Mdl.cs]; (repeat refine an ?_); (try refine .inl ?_); apply k0; clear k0; simp only [zP, E])
 refine aa rfl fun _ k0 => ?_
 refine az (h := aj (eN x.ins hi)) rfl rfl (by first | exact rfl | (simp only [ev, zP, M, E]; exact rfl)) (by simp only [zV, acs, reduceCtorEq, M, E, O, Z, Y, V, Mdl.av, Mdl.cs]) ?_
 apply k0; clear k0; simp only [zP, E]
 iterate 2 (refine aa rfl fun _ k0 => ?_; simp only [zO, zT, acs, reduceCtorEq, M, E, O, Z, Y, V, Mdl.av, Mdl.cs]; (repeat refine an ?_); (try refine .inl ?_); apply k0; clear k0; simp only [zP, E])
 refine ad ?_
 apply k6; clear k6; refine kp [0, 1, 2, 5, 10] ?_
 refine cd (fun hc7 => ?_) (fun hc7 => ?_)
 ·(try simp only [zB, reduceCtorEq] at hc7)
  refine ab fun _ k8 => ?_
  refine af hP hN rfl ?_
  iterate 2 (refine aa rfl fun _ k0 => ?_; simp only [zO, zT, acs, reduceCtorEq, M, E, O, Z, Y, V, Mdl.av, Mdl.cs]; (repeat refine an ?_); (try refine .inl ?_); apply k0; clear k0; simp only [zP, E])
  refine aa rfl fun _ k0 => ?_
  refine az (h := aj (eN x.ins hi)) rfl rfl (by first | exact rfl | (simp only [ev, zP, M, E]; exact rfl)) (by simp only [zV, acs, reduceCtorEq, M, E, O, Z, Y, V, Mdl.av, Mdl.cs]) ?_
  apply k0; clear k0; simp only [zP, E]
  (refine aa rfl fun _ k0 => ?_; simp only [zO, zT, acs, reduceCtorEq, M, E, O, Z, Y, V, Mdl.av, Mdl.cs]; (repeat refine an ?_); (try refine .inl ?_); apply k0; clear k0; simp only [zP, E])
  refine ad ?_
  apply k8; clear k8; refine kp [0, 1, 2, 5, 10] ?_
  refine aq ?_
  refine ⟨nr, _, rfl, ?_⟩; simp only [zF, zP, M, E, Mdl.av, Mdl.cs]
  refine VLE.of_eq ?_
  refine congrArg (fun n => AV.one (AC.int IntKind.i64 n)) ?_
  symm
  first
  | exact fR (by assumption)
  | exact jJ (by assumption) (by assumption)
  | exact kc (by assumption) (by assumption) (by assumption)
  | exact fS (by assumption) (by assumption) (by assumption) (by assumption)
  | exact fT (by assumption) (by assumption) (by assumption) (by assumption) (by omega)
  | (have hmx := i7 hv0 (n := x.outs.length) fun s' a' hs' ha' => hq s' a' (by omega) ha'
     exact f0 (by assumption) (by assumption) (by assumption) (by assumption) ⟨by assumption, hmx⟩)
 (try simp only [zB, reduceCtorEq] at hc7)
 refine ab fun _ k9 => ?_
 refine af hP hN rfl ?_
 iterate 2 (refine aa rfl fun _ k0 => ?_; simp only [zO, zT, acs, reduceCtorEq, M, E, O, Z, Y, V, Mdl.av, Mdl.cs]; (repeat refine an ?_); (try refine .inl ?_); apply k0; clear k0; simp only [zP, E])
 refine aa rfl fun _ k0 => ?_
 refine az (h := aj (eN x.outs ho)) rfl rfl (by first | exact rfl | (simp only [ev, zP, M, E]; exact rfl)) (by simp only [zV, acs, reduceCtorEq, M, E, O, Z, Y, V, Mdl.av, Mdl.cs]) ?_
 apply k0; clear k0; simp only [zP, E]
 iterate 2 (refine aa rfl fun _ k0 => ?_; simp only [zO, zT, acs, reduceCtorEq, M, E, O, Z, Y, V, Mdl.av, Mdl.cs]; (repeat refine an ?_); (try refine .inl ?_); apply k0; clear k0; simp only [zP, E])
 refine ad ?_
 apply k9; clear k9; refine kp [0, 1, 2, 5, 10, 18] ?_
 refine cd (fun hc10 => ?_) (fun hc10 => ?_)
 ·(try simp only [zB, reduceCtorEq] at hc10)
  refine ab fun _ k11 => ?_
  refine af hP hN rfl ?_
  iterate 2 (refine aa rfl fun _ k0 => ?_; simp only [zO, zT, acs, reduceCtorEq, M, E, O, Z, Y, V, Mdl.av, Mdl.cs]; (repeat refine an ?_); (try refine .inl ?_); apply k0; clear k0; simp only [zP, E])
  refine aa rfl fun _ k0 => ?_
  refine az (h := aj (eN x.outs ho)) rfl rfl (by first | exact rfl | (simp only [ev, zP, M, E]; exact rfl)) (by simp only [zV, acs, reduceCtorEq, M, E, O, Z, Y, V, Mdl.av, Mdl.cs]) ?_
  apply k0; clear k0; simp only [zP, E]
  (refine aa rfl fun _ k0 => ?_; simp only [zO, zT, acs, reduceCtorEq, M, E, O, Z, Y, V, Mdl.av, Mdl.cs]; (repeat refine an ?_); (try refine .inl ?_); apply k0; clear k0; simp only [zP, E])
  refine ad ?_
  apply k11; clear k11; refine kp [0, 1, 2, 5, 10, 18] ?_
  refine aq ?_
  refine ⟨nr, _, rfl, ?_⟩; simp only [zF, zP, M, E, Mdl.av, Mdl.cs]
  refine VLE.of_eq ?_
  refine congrArg (fun n => AV.one (AC.int IntKind.i64 n)) ?_
  symm
  first
  | exact fR (by assumption)
  | exact jJ (by assumption) (by assumption)
  | exact kc (by assumption) (by assumption) (by assumption)
  | exact fS (by assumption) (by assumption) (by assumption) (by assumption)
  | exact fT (by assumption) (by assumption) (by assumption) (by assumption) (by omega)
  | (have hmx := i7 hv0 (n := x.outs.length) fun s' a' hs' ha' => hq s' a' (by omega) ha'
     exact f0 (by assumption) (by assumption) (by assumption) (by assumption) ⟨by assumption, hmx⟩)
 (try simp only [zB, reduceCtorEq] at hc10)
 refine ab fun _ k12 => ?_
 refine af hP hN rfl ?_
 iterate 2 (refine aa rfl fun _ k0 => ?_; simp only [zO, zT, acs, reduceCtorEq, M, E, O, Z, Y, V, Mdl.av, Mdl.cs]; (repeat refine an ?_); (try refine .inl ?_); apply k0; clear k0; simp only [zP, E])
 refine aa rfl fun _ k0 => ?_
 refine az (h := aj (mF x.m)) rfl rfl (by first | exact rfl | (simp only [ev, zP, M, E]; exact rfl)) (by simp only [zV, acs, reduceCtorEq, M, E, O, Z, Y, V, Mdl.av, Mdl.cs]) ?_
 apply k0; clear k0; simp only [zP, E]
 iterate 2 (refine aa rfl fun _ k0 => ?_; simp only [zO, zT, acs, reduceCtorEq, M, E, O, Z, Y, V, Mdl.av, Mdl.cs]; (repeat refine an ?_); (try refine .inl ?_); apply k0; clear k0; simp only [zP, E])
 refine ad ?_
 apply k12; clear k12; refine kp [0, 1, 2, 5, 10, 18, 26] ?_
 refine cd (fun hc13 => ?_) (fun hc13 => ?_)
 ·(try simp only [zB, reduceCtorEq] at hc13)
  refine ab fun _ k14 => ?_
  refine af hP hN rfl ?_
  iterate 2 (refine aa rfl fun _ k0 => ?_; simp only [zO, zT, acs, reduceCtorEq, M, E, O, Z, Y, V, Mdl.av, Mdl.cs]; (repeat refine an ?_); (try refine .inl ?_); apply k0; clear k0; simp only [zP, E])
  refine aa rfl fun _ k0 => ?_
  refine az (h := aj (mF x.m)) rfl rfl (by first | exact rfl | (simp only [ev, zP, M, E]; exact rfl)) (by simp only [zV, acs, reduceCtorEq, M, E, O, Z, Y, V, Mdl.av, Mdl.cs]) ?_
  apply k0; clear k0; simp only [zP, E]
  (refine aa rfl fun _ k0 => ?_; simp only [zO, zT, acs, reduceCtorEq, M, E, O, Z, Y, V, Mdl.av, Mdl.cs]; (repeat refine an ?_); (try refine .inl ?_); apply k0; clear k0; simp only [zP, E])
  refine ad ?_
  apply k14; clear k14; refine kp [0, 1, 2, 5, 10, 18, 26] ?_
  refine aq ?_
  refine ⟨nr, _, rfl, ?_⟩; simp only [zF, zP, M, E, Mdl.av, Mdl.cs]
  refine VLE.of_eq ?_
  refine congrArg (fun n => AV.one (AC.int IntKind.i64 n)) ?_
  symm
  first
  | exact fR (by assumption)
  | exact jJ (by assumption) (by assumption)
  | exact kc (by assumption) (by assumption) (by assumption)
  | exact fS (by assumption) (by assumption) (by assumption) (by assumption)
  | exact fT (by assumption) (by assumption) (by assumption) (by assumption) (by omega)
  | (have hmx := i7 hv0 (n := x.outs.length) fun s' a' hs' ha' => hq s' a' (by omega) ha'
     exact f0 (by assumption) (by assumption) (by assumption) (by assumption) ⟨by assumption, hmx⟩)
 (try simp only [zB, reduceCtorEq] at hc13)
 refine ab fun _ k15 => ?_
 refine af hP hN rfl ?_
 iterate 9 (refine aa rfl fun _ k0 => ?_; simp only [zO, zT, acs, reduceCtorEq, M, E, O, Z, Y, V, Mdl.av, Mdl.cs]; (repeat refine an ?_); (try refine .inl ?_); apply k0; clear k0; simp only [zP, E])
 refine ad ?_
 apply k15; clear k15; refine kp [0, 1, 2, 5, 10, 18, 26, 34] ?_
 refine cd (fun hc16 => ?_) (fun hc16 => ?_)
 ·(try simp only [zB, reduceCtorEq] at hc16)
  have hil := hc16
  refine ab fun _ k17 => ?_
  refine af hP hN rfl ?_
  (refine aa rfl fun _ k0 => ?_; simp only [zO, zT, acs, reduceCtorEq, M, E, O, Z, Y, V, Mdl.av, Mdl.cs]; (repeat refine an ?_); (try refine .inl ?_); apply k0; clear k0; simp only [zP, E])
  refine ad ?_
  apply k17; clear k17; refine kp [0, 1, 2, 5, 10, 18, 26, 34] ?_
  refine aq ?_
  refine ⟨nr, _, rfl, ?_⟩; simp only [zF, zP, M, E, Mdl.av, Mdl.cs]
  refine VLE.of_eq ?_
  refine congrArg (fun n => AV.one (AC.int IntKind.i64 n)) ?_
  symm
  first
  | exact fR (by assumption)
  | exact jJ (by assumption) (by assumption)
  | exact kc (by assumption) (by assumption) (by assumption)
  | exact fS (by assumption) (by assumption) (by assumption) (by assumption)
  | exact fT (by assumption) (by assumption) (by assumption) (by assumption) (by omega)
  | (have hmx := i7 hv0 (n := x.outs.length) fun s' a' hs' ha' => hq s' a' (by omega) ha'
     exact f0 (by assumption) (by assumption) (by assumption) (by assumption) ⟨by assumption, hmx⟩)
 (try simp only [zB, reduceCtorEq] at hc16)
 have hil := hc16
 have hv0 : b0 x.m = 0 := by assumption
 have hm := gO hv0; have hol := hm.ol; have hi1 := hm.i1; have hi2 := hm.i2; have hn1 := hm.n1; have hn2 := hm.n2
 refine au ?_
 apply k2; clear k2; refine kp [0, 1, 2, 5, 10, 18, 26, 34] ?_
 refine ab fun _ k18 => ?_
 refine ab fun _ k19 => ?_
 refine af hP hN rfl ?_
 (refine aa rfl fun _ k0 => ?_; simp only [zO, zT, acs, reduceCtorEq, M, E, O, Z, Y, V, Mdl.av, Mdl.cs]; (repeat refine an ?_); (try refine .inl ?_); apply k0; clear k0; simp only [zP, E])
 refine ad ?_
 apply k19; clear k19; refine kp [0, 1, 2, 3, 5, 10, 18, 26, 34] ?_
 refine aw ?_
 refine aU (fun n20 s20 => ∃ (s : Nat), (s ≤ x.m.ot.length) ∧ (∀ q a : Nat, q < s → (a : Int) < x.m.inp → (x.m.ot.getD q []).getD a 0 < x.outs.length) ∧ n20 = x.m.ot.length - s ∧ s20 = { env := [(1, .one (.ptr 0 0 0 0)), (2, .one (.int .i64 0)), (3, .one (.int .i64 (s : Int)))], L := [.vars 29 [.str x.nm, .list .str x.ins, .list .str x.outs, .int .i64 x.m.inp, .int .i64 x.m.st, .list (.list (.int .i64)) x.m.nx, .list (.list (.int .i64)) x.m.ot]] }) ?_ ?_
 ·exact ⟨_, _, aB [1, 2, 3], 0, Nat.zero_le _, fun q a hq => by omega, rfl, rfl⟩
 rintro n20 s20 ⟨s, hs, hq, rfl, rfl⟩
 refine ab fun _ k21 => ?_
 refine ab fun _ k22 => ?_
 refine af hP hN rfl ?_
 iterate 6 (refine aa rfl fun _ k0 => ?_; simp only [zO, zT, acs, reduceCtorEq, M, E, O, Z, Y, V, Mdl.av, Mdl.cs]; (repeat refine an ?_); (try refine .inl ?_); apply k0; clear k0; simp only [zP, E])
 refine ad ?_
 apply k22; clear k22; refine kp [1, 2, 3, 48] ?_
 refine cd (fun hc23 => ?_) (fun hc23 => ?_)
 ·(try simp only [zB, reduceCtorEq] at hc23)
  refine au ?_
  apply k21; clear k21; refine kp [1, 2, 3, 48] ?_
  refine ab fun _ k24 => ?_
  refine aw ?_
  refine ab fun _ k25 => ?_
  refine af hP hN rfl ?_
  (refine aa rfl fun _ k0 => ?_; simp only [zO, zT, acs, reduceCtorEq, M, E, O, Z, Y, V, Mdl.av, Mdl.cs]; (repeat refine an ?_); (try refine .inl ?_); apply k0; clear k0; simp only [zP, E])
  refine ad ?_
  apply k25; clear k25; refine kp [1, 2, 3, 4, 48] ?_
  refine aw ?_
  refine aU (fun n26 s26 => ∃ (j : Nat), ((j : Int) ≤ x.m.inp) ∧ (∀ a : Nat, a < j → (x.m.ot.getD s []).getD a 0 < x.outs.length) ∧ n26 = x.m.inp.toNat - j ∧ s26 = { env := [(1, .one (.ptr 0 0 0 0)), (2, .one (.int .i64 0)), (3, .one (.int .i64 (s : Int))), (4, .one (.int .i64 (j : Int))), (48, .one (.bool (decide ((s : Int) < x.m.ot.length))))], L := [.vars 29 [.str x.nm, .list .str x.ins, .list .str x.outs, .int .i64 x.m.inp, .int .i64 x.m.st, .list (.list (.int .i64)) x.m.nx, .list (.list (.int .i64)) x.m.ot]] }) ?_ ?_
  ·exact ⟨_, _, aB [1, 2, 3, 4, 48], 0, by omega, fun a ha => by omega, rfl, rfl⟩
  rintro n26 s26 ⟨j, hj, hqj, rfl, rfl⟩
  refine ab fun _ k27 => ?_
  refine ab fun _ k28 => ?_
  refine af hP hN rfl ?_
  iterate 5 (refine aa rfl fun _ k0 => ?_; simp only [zO, zT, acs, reduceCtorEq, M, E, O, Z, Y, V, Mdl.av, Mdl.cs]; (repeat refine an ?_); (try refine .inl ?_); apply k0; clear k0; simp only [zP, E])
  refine ad ?_
  apply k28; clear k28; refine kp [1, 2, 3, 4, 48, 55] ?_
  refine cd (fun hc29 => ?_) (fun hc29 => ?_)
  ·(try simp only [zB, reduceCtorEq] at hc29)
   refine au ?_
   apply k27; clear k27; refine kp [1, 2, 3, 4, 48, 55] ?_
   refine ab fun _ k30 => ?_
   refine aw ?_
   refine ab fun _ k31 => ?_
   have hql := hm.ql s (by omega)
   have hge := uy hv0 (s := s) (a := j) (by omega) (by omega)
   refine bI hP hN Tryz.mixed rfl ?_
   iterate 14 (refine aa rfl fun _ k0 => ?_; simp only [zO, zT, acs, reduceCtorEq, M, E, O, Z, Y, V, Mdl.av, Mdl.cs]; (repeat refine an ?_); (try refine .inl ?_); apply k0; clear k0; simp only [zP, E])
   refine ad ?_
   refine ⟨by kernel_rfl, ?_⟩
   apply k31; clear k31; refine kp [1, 2, 3, 4, 48, 55, 71] ?_
   refine cd (fun hc32 => ?_) (fun hc32 => ?_)
   ·(try simp only [zB, reduceCtorEq] at hc32)
    have hbad := hc32
    refine ab fun _ k33 => ?_
    refine af hP hN rfl ?_
    (refine aa rfl fun _ k0 => ?_; simp only [zO, zT, acs, reduceCtorEq, M, E, O, Z, Y, V, Mdl.av, Mdl.cs]; (repeat refine an ?_); (try refine .inl ?_); apply k0; clear k0; simp only [zP, E])
    refine ad ?_
    apply k33; clear k33; refine kp [1, 2, 3, 4, 48, 55, 71] ?_
    refine aq ?_
    refine ⟨nr, _, rfl, ?_⟩; simp only [zF, zP, M, E, Mdl.av, Mdl.cs]
    refine VLE.of_eq ?_
    refine congrArg (fun n => AV.one (AC.int IntKind.i64 n)) ?_
    symm
    first
    | exact fR (by assumption)
    | exact jJ (by assumption) (by assumption)
    | exact kc (by assumption) (by assumption) (by assumption)
    | exact fS (by assumption) (by assumption) (by assumption) (by assumption)
    | exact fT (by assumption) (by assumption) (by assumption) (by assumption) (by omega)
    | (have hmx := i7 hv0 (n := x.outs.length) fun s' a' hs' ha' => hq s' a' (by omega) ha'
       exact f0 (by assumption) (by assumption) (by assumption) (by assumption) ⟨by assumption, hmx⟩)
   (try simp only [zB, reduceCtorEq] at hc32)
   have hgd := hc32
   refine au ?_
   apply k30; clear k30; refine kp [1, 2, 3, 4, 48, 55, 71] ?_
   refine af hP hN rfl ?_
   iterate 3 (refine aa rfl fun _ k0 => ?_; simp only [zO, zT, acs, reduceCtorEq, M, E, O, Z, Y, V, Mdl.av, Mdl.cs]; (repeat refine an ?_); (try refine .inl ?_); apply k0; clear k0; simp only [zP, E])
   refine ad ?_
   refine ⟨_, _, ?_, aB [1, 2, 3, 4, 48], j + 1, by omega, fun a ha => ?_, rfl, rfl⟩
   · omega
   · by_cases e : a = j
     · rw [e]; omega
     · exact hqj a (by omega)
  (try simp only [zB, reduceCtorEq] at hc29)
  refine aW ?_
  apply k24; clear k24; refine kp [1, 2, 3, 4, 48, 55] ?_
  refine af hP hN rfl ?_
  iterate 3 (refine aa rfl fun _ k0 => ?_; simp only [zO, zT, acs, reduceCtorEq, M, E, O, Z, Y, V, Mdl.av, Mdl.cs]; (repeat refine an ?_); (try refine .inl ?_); apply k0; clear k0; simp only [zP, E])
  refine ad ?_
  refine ⟨_, _, ?_, aB [1, 2, 3], s + 1, by omega, fun q a hq2 ha => ?_, rfl, rfl⟩
  · omega
  · by_cases e : q = s
    · rw [e]; exact hqj a (by omega)
    · exact hq q a (by omega) ha
 (try simp only [zB, reduceCtorEq] at hc23)
 refine aW ?_
 apply k18; clear k18; refine kp [1, 2, 3, 48] ?_
 refine ab fun _ k34 => ?_
 refine af hP hN rfl ?_
 (refine aa rfl fun _ k0 => ?_; simp only [zO, zT, acs, reduceCtorEq, M, E, O, Z, Y, V, Mdl.av, Mdl.cs]; (repeat refine an ?_); (try refine .inl ?_); apply k0; clear k0; simp only [zP, E])
 refine ad ?_
 apply k34; clear k34; refine kp [1, 2, 3, 48] ?_
 refine aq ?_
 refine ⟨nr, _, rfl, ?_⟩; simp only [zF, zP, M, E, Mdl.av, Mdl.cs]
 refine VLE.of_eq ?_
 refine congrArg (fun n => AV.one (AC.int IntKind.i64 n)) ?_
 symm
 first
 | exact fR (by assumption)
 | exact jJ (by assumption) (by assumption)
 | exact kc (by assumption) (by assumption) (by assumption)
 | exact fS (by assumption) (by assumption) (by assumption) (by assumption)
 | exact fT (by assumption) (by assumption) (by assumption) (by assumption) (by omega)
 | (have hmx := i7 hv0 (n := x.outs.length) fun s' a' hs' ha' => hq s' a' (by omega) ha'
    exact f0 (by assumption) (by assumption) (by assumption) (by assumption) ⟨by assumption, hmx⟩)
set_option maxHeartbeats 2000000 in
theorem pS (x : Mdl) (hn : x.nm.length ≤ 1048576) (hi : ∀ k, k < x.ins.length → (x.ins.getD k []).length ≤ 1048576) (ho : ∀ k, k < x.outs.length → (x.outs.getD k []).length ≤ 1048576) (hb : mvE x = 0 → x.m.nx.length ≤ 100) : bz Tryz.prog 8 [x.av] (.tup [.one (.str (SM x)), .one (.int .i64 (mvE x))]) := by
 refine aL Tryz.func8 rfl (by kernel_rfl) (Nat.le_of_ble_eq_true rfl) rfl fun C hP hN hB => ?_
 replace hN : C.N = 116 := hN
 simp only [aO, E]
 refine ab fun _ k1 => ?_
 refine af hP hN rfl ?_
 iterate 3 (refine aa rfl fun _ k0 => ?_; simp only [zO, zT, acs, reduceCtorEq, M, E, O, Z, Y, V, Mdl.av, Mdl.cs]; (repeat refine an ?_); (try refine .inl ?_); apply k0; clear k0; simp only [zP, E])
 refine ad ?_
 apply k1; clear k1; refine kp [0, 1, 2, 3] ?_
 refine ab fun _ k2 => ?_
 refine ab fun _ k3 => ?_
 refine af hP hN rfl ?_
 (refine aa rfl fun _ k0 => ?_; simp only [zO, zT, acs, reduceCtorEq, M, E, O, Z, Y, V, Mdl.av, Mdl.cs]; (repeat refine an ?_); (try refine .inl ?_); apply k0; clear k0; simp only [zP, E])
 refine aa rfl fun _ k0 => ?_
 refine az (h := aj (nV x hn hi ho)) rfl rfl (by first | exact rfl | (simp only [ev, zP, M, E]; exact rfl)) (by simp only [zV, acs, reduceCtorEq, M, E, O, Z, Y, V, Mdl.av, Mdl.cs]) ?_
 apply k0; clear k0; simp only [zP, E]
 (refine aa rfl fun _ k0 => ?_; simp only [zO, zT, acs, reduceCtorEq, M, E, O, Z, Y, V, Mdl.av, Mdl.cs]; (repeat refine an ?_); (try refine .inl ?_); apply k0; clear k0; simp only [zP, E])
 refine ad ?_
 apply k3; clear k3; refine kp [0, 1, 2, 3, 11] ?_
 refine cd (fun hc4 => ?_) (fun hc4 => ?_)
 ·(try simp only [zB, reduceCtorEq] at hc4)
  refine ab fun _ k5 => ?_
  refine af hP hN rfl ?_
  (refine aa rfl fun _ k0 => ?_; simp only [zO, zT, acs, reduceCtorEq, M, E, O, Z, Y, V, Mdl.av, Mdl.cs]; (repeat refine an ?_); (try refine .inl ?_); apply k0; clear k0; simp only [zP, E])
  refine aa rfl fun _ k0 => ?_
  refine az (h := aj (nV x hn hi ho)) rfl rfl (by first | exact rfl | (simp only [ev, zP, M, E]; exact rfl)) (by simp only [zV, acs, reduceCtorEq, M, E, O, Z, Y, V, Mdl.av, Mdl.cs]) ?_
  apply k0; clear k0; simp only [zP, E]
  iterate 2 (refine aa rfl fun _ k0 => ?_; simp only [zO, zT, acs, reduceCtorEq, M, E, O, Z, Y, V, Mdl.av, Mdl.cs]; (repeat refine an ?_); (try refine .inl ?_); apply k0; clear k0; simp only [zP, E])
  refine ad ?_
  apply k5; clear k5; refine kp [0, 1, 2, 3, 11] ?_
  refine aq ?_
  refine ⟨nr, _, rfl, ?_⟩; simp only [zF, zP, M, E, Mdl.av, Mdl.cs]
  refine VLE.of_eq ?_
  first | (rw [kA (by assumption)]; done) | (rw [mQ hv0, hv0]; done)
 (try simp only [zB, reduceCtorEq] at hc4)
 have hv0 : mvE x = 0 := by omega
 have hv := ja hv0; have hm := hv.mo; have hb := hb hv0
 have hol := hm.ol; have hi1 := hm.i1; have hi2 := hm.i2; have hn1 := hm.n1; have hn2 := hm.n2; have hs1 := hm.s1; have hs2 := hm.s2; have hil := hv.il; have hon := hv.ao.n1; have hin := hv.ai.n1
 refine au ?_
 apply k2; clear k2; refine kp [0, 1, 2, 3, 11] ?_
 refine ab fun _ k6 => ?_
 refine af hP hN rfl ?_
 (refine aa rfl fun _ k0 => ?_; simp only [zO, zT, acs, reduceCtorEq, M, E, O, Z, Y, V, Mdl.av, Mdl.cs]; (repeat refine an ?_); (try refine .inl ?_); apply k0; clear k0; simp only [zP, E])
 refine ad ?_
 apply k6; clear k6; refine kp [0, 1, 2, 3, 4, 11] ?_
 refine ab fun _ k7 => ?_
 refine ab fun _ k8 => ?_
 refine af hP hN rfl ?_
 (refine aa rfl fun _ k0 => ?_; simp only [zO, zT, acs, reduceCtorEq, M, E, O, Z, Y, V, Mdl.av, Mdl.cs]; (repeat refine an ?_); (try refine .inl ?_); apply k0; clear k0; simp only [zP, E])
 refine ad ?_
 apply k8; clear k8; refine kp [0, 1, 2, 3, 4, 5, 11] ?_
 refine aw ?_
 refine kY 4 .str 9 (by decide) rfl ?_; simp only [ah, am, ak, ar, Nat.zero_add, E]
 refine aU (fun n9 s9 => ∃ (k : Nat) (u : Nat), (k ≤ x.m.nx.length) ∧ n9 = x.m.nx.length - k ∧ s9 = { env := [(1, .one (.ptr 0 0 0 0)), (2, .one (.str [])), (3, .one (.int .i64 0)), (4, .one (.row 1 u)), (5, .one (.int .i64 (k : Int)))], L := [.vars 29 [.str x.nm, .list .str x.ins, .list .str x.outs, .int .i64 x.m.inp, .int .i64 x.m.st, .list (.list (.int .i64)) x.m.nx, .list (.list (.int .i64)) x.m.ot], .row .str 9 u (qs k)] }) ?_ ?_
 ·exact ⟨_, _, aB [1, 2, 3, 4, 5], 0, 0, Nat.zero_le _, rfl, rfl⟩
 rintro n9 s9 ⟨k, u, hk, rfl, rfl⟩
 refine ab fun _ k10 => ?_
 refine ab fun _ k11 => ?_
 refine af hP hN rfl ?_
 iterate 6 (refine aa rfl fun _ k0 => ?_; simp only [zO, zT, acs, reduceCtorEq, M, E, O, Z, Y, V, Mdl.av, Mdl.cs]; (repeat refine an ?_); (try refine .inl ?_); apply k0; clear k0; simp only [zP, E])
 refine ad ?_
 apply k11; clear k11; refine kp [1, 2, 3, 4, 5, 19] ?_
 refine cd (fun hc12 => ?_) (fun hc12 => ?_)
 ·(try simp only [zB, reduceCtorEq] at hc12)
  refine au ?_
  apply k10; clear k10; refine kp [1, 2, 3, 4, 5, 19] ?_
  refine ab fun _ k13 => ?_
  refine aw ?_
  have hdl := l9 k (by omega)
  refine af hP hN rfl ?_
  iterate 2 (refine aa rfl fun _ k0 => ?_; simp only [zO, zT, acs, reduceCtorEq, M, E, O, Z, Y, V, Mdl.av, Mdl.cs, ca, ah, am]; (repeat refine an ?_); (try refine .inl ?_); apply k0; clear k0; simp only [zP, E])
  refine aa rfl fun _ k0 => ?_
  refine az (h := aj (tB k (by omega))) rfl rfl (by first | exact rfl | (simp only [ev, zP, M, E]; exact rfl)) (by simp only [zV, acs, reduceCtorEq, M, E, O, Z, Y, V, Mdl.av, Mdl.cs, ca, ah, am]) ?_
  apply k0; clear k0; simp only [zP, E]
  iterate 4 (refine aa rfl fun _ k0 => ?_; simp only [zO, zT, acs, reduceCtorEq, M, E, O, Z, Y, V, Mdl.av, Mdl.cs, ca, ah, am]; (repeat refine an ?_); (try refine .inl ?_); apply k0; clear k0; simp only [zP, E])
  refine ad ?_
  apply k13; clear k13; refine kp [1, 2, 3, 4, 5, 19] ?_
  refine af hP hN rfl ?_
  iterate 3 (refine aa rfl fun _ k0 => ?_; simp only [zO, zT, acs, reduceCtorEq, M, E, O, Z, Y, V, Mdl.av, Mdl.cs]; (repeat refine an ?_); (try refine .inl ?_); apply k0; clear k0; simp only [zP, E])
  refine ad ?_
  refine ⟨_, _, ?_, aB [1, 2, 3, 4, 5], k + 1, u + 1, by omega, rfl, by rw [pc]; rfl⟩
  omega
 (try simp only [zB, reduceCtorEq] at hc12)
 refine aW ?_
 apply k7; clear k7; refine kp [1, 2, 3, 4, 5, 19] ?_
 refine ab fun _ k14 => ?_
 obtain rfl : k = x.m.nx.length := by omega
 refine gc 1 rfl ?_; simp only [aT, bG, zS, M, and_self, and_true, true_and, and_false, false_and, if_true, if_false, eq_self, reduceCtorEq, Nat.one_ne_zero, Nat.zero_ne_one]
 obtain ⟨hw1, hw2, hw3, hw4, hw5⟩ := tR hv
 obtain ⟨hl1, hl2, hl3, hl4, hl5⟩ := rR hv
 have hqn := ca x.m.nx.length
 refine af hP hN rfl ?_
 iterate 3 (refine aa rfl fun _ k0 => ?_; simp only [zO, zT, acs, reduceCtorEq, M, E, O, Z, Y, V, Mdl.av, Mdl.cs, ag, ah, am]; (repeat refine an ?_); (try refine .inl ?_); apply k0; clear k0; simp only [zP, E])
 refine aa rfl fun _ k0 => ?_
 refine az (h := aj (fd [[109, 97, 99, 104, 105, 110, 101], x.nm] (by simp) hw1)) rfl rfl (by first | exact rfl | (simp only [ev, zP, M, E]; exact rfl)) (by simp only [zV, acs, reduceCtorEq, M, E, O, Z, Y, V, Mdl.av, Mdl.cs, ag, ah, am]) ?_
 apply k0; clear k0; simp only [zP, E]
 (refine aa rfl fun _ k0 => ?_; simp only [zO, zT, acs, reduceCtorEq, M, E, O, Z, Y, V, Mdl.av, Mdl.cs, ag, ah, am]; (repeat refine an ?_); (try refine .inl ?_); apply k0; clear k0; simp only [zP, E])
 refine ad ?_
 apply k14; clear k14; refine kp [1, 2, 3, 4, 5, 6, 19] ?_
 refine ab fun _ k15 => ?_
 refine gI ?_; simp only [ak, List.append_assoc, ar]
 refine gI ?_; simp only [ak, List.append_assoc, ar]
 refine gI ?_; simp only [ak, List.append_assoc, ar]
 refine bI hP hN Tryz.mixed rfl ?_
 (refine aa rfl fun _ k0 => ?_; simp only [zO, zT, acs, reduceCtorEq, M, E, O, Z, Y, V, Mdl.av, Mdl.cs, ag, ah, am]; (repeat refine an ?_); (try refine .inl ?_); apply k0; clear k0; simp only [zP, E])
 (refine aa rfl fun _ k0 => ?_; simp only [zO, zT, acs, reduceCtorEq, M, E, O, Z, Y, V, Mdl.av, Mdl.cs, ag, ah, am]; (repeat refine an ?_); refine Or.inr (Or.inr (Or.inl ⟨2, by exact rfl, ?_⟩)); refine k0 _ ?_; clear k0; simp only [zP, E])
 iterate 3 (refine aa rfl fun _ k0 => ?_; simp only [zO, zT, acs, reduceCtorEq, M, E, O, Z, Y, V, Mdl.av, Mdl.cs, ag, ah, am]; (repeat refine an ?_); (try refine .inl ?_); apply k0; clear k0; simp only [zP, E])
 (refine aa rfl fun _ k0 => ?_; simp only [zO, zT, acs, reduceCtorEq, M, E, O, Z, Y, V, Mdl.av, Mdl.cs, ag, ah, am]; (repeat refine an ?_); refine Or.inr (k0 _ ?_); clear k0; simp only [zP, E])
 refine aa rfl fun _ k0 => ?_
 refine az (h := aj (fd ([105, 110, 112, 117, 116, 115] :: x.ins) (by rw [ah]; omega) hw2)) rfl rfl (by first | exact rfl | (simp only [ev, zP, M, E]; exact rfl)) (by simp only [zV, acs, reduceCtorEq, M, E, O, Z, Y, V, Mdl.av, Mdl.cs, ag, ah, am]) ?_
 apply k0; clear k0; simp only [zP, E]
 (refine aa rfl fun _ k0 => ?_; simp only [zO, zT, acs, reduceCtorEq, M, E, O, Z, Y, V, Mdl.av, Mdl.cs, ag, ah, am]; (repeat refine an ?_); (try refine .inl ?_); apply k0; clear k0; simp only [zP, E])
 (refine aa rfl fun _ k0 => ?_; simp only [zO, zT, acs, reduceCtorEq, M, E, O, Z, Y, V, Mdl.av, Mdl.cs, ag, ah, am]; (repeat refine an ?_); refine Or.inr (Or.inr (Or.inl ⟨3, by exact rfl, ?_⟩)); refine k0 _ ?_; clear k0; simp only [zP, E])
 iterate 3 (refine aa rfl fun _ k0 => ?_; simp only [zO, zT, acs, reduceCtorEq, M, E, O, Z, Y, V, Mdl.av, Mdl.cs, ag, ah, am]; (repeat refine an ?_); (try refine .inl ?_); apply k0; clear k0; simp only [zP, E])
 (refine aa rfl fun _ k0 => ?_; simp only [zO, zT, acs, reduceCtorEq, M, E, O, Z, Y, V, Mdl.av, Mdl.cs, ag, ah, am]; (repeat refine an ?_); refine Or.inr (k0 _ ?_); clear k0; simp only [zP, E])
 refine aa rfl fun _ k0 => ?_
 refine az (h := aj (fd ([111, 117, 116, 112, 117, 116, 115] :: x.outs) (by rw [ah]; omega) hw3)) rfl rfl (by first | exact rfl | (simp only [ev, zP, M, E]; exact rfl)) (by simp only [zV, acs, reduceCtorEq, M, E, O, Z, Y, V, Mdl.av, Mdl.cs, ag, ah, am]) ?_
 apply k0; clear k0; simp only [zP, E]
 (refine aa rfl fun _ k0 => ?_; simp only [zO, zT, acs, reduceCtorEq, M, E, O, Z, Y, V, Mdl.av, Mdl.cs, ag, ah, am]; (repeat refine an ?_); (try refine .inl ?_); apply k0; clear k0; simp only [zP, E])
 (refine aa rfl fun _ k0 => ?_; simp only [zO, zT, acs, reduceCtorEq, M, E, O, Z, Y, V, Mdl.av, Mdl.cs, ag, ah, am]; (repeat refine an ?_); refine Or.inr (Or.inr (Or.inl ⟨4, by exact rfl, ?_⟩)); refine k0 _ ?_; clear k0; simp only [zP, E])
 (refine aa rfl fun _ k0 => ?_; simp only [zO, zT, acs, reduceCtorEq, M, E, O, Z, Y, V, Mdl.av, Mdl.cs, ag, ah, am]; (repeat refine an ?_); (try refine .inl ?_); apply k0; clear k0; simp only [zP, E])
 (refine aa rfl fun _ k0 => ?_; simp only [zO, zT, acs, reduceCtorEq, M, E, O, Z, Y, V, Mdl.av, Mdl.cs, ag, ah, am]; (repeat refine an ?_); refine Or.inr (k0 _ ?_); clear k0; simp only [zP, E])
 refine aa rfl fun _ k0 => ?_
 refine az (h := aj (fd ([115, 116, 97, 116, 101, 115] :: qs x.m.nx.length) (by rw [ah]; omega) hw4)) rfl rfl (by first | exact rfl | (simp only [ev, zP, M, E]; exact rfl)) (by simp only [zV, acs, reduceCtorEq, M, E, O, Z, Y, V, Mdl.av, Mdl.cs, ag, ah, am]) ?_
 apply k0; clear k0; simp only [zP, E]
 iterate 2 (refine aa rfl fun _ k0 => ?_; simp only [zO, zT, acs, reduceCtorEq, M, E, O, Z, Y, V, Mdl.av, Mdl.cs, ag, ah, am]; (repeat refine an ?_); (try refine .inl ?_); apply k0; clear k0; simp only [zP, E])
 refine ad ?_
 refine ⟨by kernel_rfl, ?_⟩
 apply k15; clear k15; refine kp [1, 2, 3, 4, 5, 6, 19] ?_
 refine ab fun _ k16 => ?_
 have hqs := cw (n := x.m.nx.length) (i := x.m.st.toNat) (by omega)
 refine af hP hN rfl ?_
 iterate 8 (refine aa rfl fun _ k0 => ?_; simp only [zO, zT, acs, reduceCtorEq, M, E, O, Z, Y, V, Mdl.av, Mdl.cs, hqs, ag, ah, am]; (repeat refine an ?_); (try refine .inl ?_); apply k0; clear k0; simp only [zP, E])
 refine aa rfl fun _ k0 => ?_
 refine az (h := aj (fd [[115, 116, 97, 114, 116], qn x.m.st.toNat] (by simp) hw5)) rfl rfl (by first | exact rfl | (simp only [ev, zP, M, E]; exact rfl)) (by simp only [zV, acs, reduceCtorEq, M, E, O, Z, Y, V, Mdl.av, Mdl.cs, hqs, ag, ah, am]) ?_
 apply k0; clear k0; simp only [zP, E]
 iterate 2 (refine aa rfl fun _ k0 => ?_; simp only [zO, zT, acs, reduceCtorEq, M, E, O, Z, Y, V, Mdl.av, Mdl.cs, hqs, ag, ah, am]; (repeat refine an ?_); (try refine .inl ?_); apply k0; clear k0; simp only [zP, E])
 refine ad ?_
 apply k16; clear k16; refine kp [1, 2, 3, 4, 5, 6, 19] ?_
 refine ab fun _ k17 => ?_
 refine ab fun _ k18 => ?_
 refine af hP hN rfl ?_
 (refine aa rfl fun _ k0 => ?_; simp only [zO, zT, acs, reduceCtorEq, M, E, O, Z, Y, V, Mdl.av, Mdl.cs]; (repeat refine an ?_); (try refine .inl ?_); apply k0; clear k0; simp only [zP, E])
 refine ad ?_
 apply k18; clear k18; refine kp [1, 2, 3, 4, 5, 6, 7, 19] ?_
 refine aw ?_
 refine aU (fun n19 s19 => ∃ (s : Nat), (s ≤ x.m.nx.length) ∧ n19 = x.m.nx.length - s ∧ s19 = { env := [(1, .one (.ptr 0 0 0 0)), (2, .one (.str [])), (3, .one (.int .i64 0)), (4, .one (.list .str (qs x.m.nx.length))), (6, .one (.str (bK (hdT x ++ cC x s)))), (7, .one (.int .i64 (s : Int)))], L := [.vars 29 [.str x.nm, .list .str x.ins, .list .str x.outs, .int .i64 x.m.inp, .int .i64 x.m.st, .list (.list (.int .i64)) x.m.nx, .list (.list (.int .i64)) x.m.ot], .dead u, .dead 2, .dead 2, .dead 2] }) ?_ ?_
 ·refine ⟨_, _, aB [1, 2, 3, 4, 6, 7], 0, Nat.zero_le _, rfl, ?_⟩
  rw [sD hv]; rfl
 rintro n19 s19 ⟨s, hs, rfl, rfl⟩
 refine ab fun _ k20 => ?_
 refine ab fun _ k21 => ?_
 refine af hP hN rfl ?_
 iterate 4 (refine aa rfl fun _ k0 => ?_; simp only [zO, zT, acs, reduceCtorEq, M, E, O, Z, Y, V, Mdl.av, Mdl.cs]; (repeat refine an ?_); (try refine .inl ?_); apply k0; clear k0; simp only [zP, E])
 refine ad ?_
 apply k21; clear k21; refine kp [1, 2, 3, 4, 6, 7, 65] ?_
 refine cd (fun hc22 => ?_) (fun hc22 => ?_)
 ·(try simp only [zB, reduceCtorEq] at hc22)
  refine au ?_
  apply k20; clear k20; refine kp [1, 2, 3, 4, 6, 7, 65] ?_
  refine ab fun _ k23 => ?_
  refine aw ?_
  refine ab fun _ k24 => ?_
  refine af hP hN rfl ?_
  (refine aa rfl fun _ k0 => ?_; simp only [zO, zT, acs, reduceCtorEq, M, E, O, Z, Y, V, Mdl.av, Mdl.cs]; (repeat refine an ?_); (try refine .inl ?_); apply k0; clear k0; simp only [zP, E])
  refine ad ?_
  apply k24; clear k24; refine kp [1, 2, 3, 4, 6, 7, 8, 65] ?_
  refine aw ?_
  refine aU (fun n25 s25 => ∃ (j : Nat), ((j : Int) ≤ x.m.inp) ∧ n25 = x.m.inp.toNat - j ∧ s25 = { env := [(1, .one (.ptr 0 0 0 0)), (2, .one (.str [])), (3, .one (.int .i64 0)), (4, .one (.list .str (qs x.m.nx.length))), (6, .one (.str (bK (hdT x ++ cC x s ++ cQ x s j)))), (7, .one (.int .i64 (s : Int))), (8, .one (.int .i64 (j : Int))), (65, .one (.bool (decide ((s : Int) < ((qs x.m.nx.length).length : Nat)))))], L := [.vars 29 [.str x.nm, .list .str x.ins, .list .str x.outs, .int .i64 x.m.inp, .int .i64 x.m.st, .list (.list (.int .i64)) x.m.nx, .list (.list (.int .i64)) x.m.ot], .dead u, .dead 2, .dead 2, .dead 2] }) ?_ ?_
  ·refine ⟨_, _, aB [1, 2, 3, 4, 6, 7, 8, 65], 0, by omega, rfl, ?_⟩
   rw [show cQ x s 0 = [] from rfl, List.append_nil]; rfl
  rintro n25 s25 ⟨j, hj, rfl, rfl⟩
  refine ab fun _ k26 => ?_
  refine ab fun _ k27 => ?_
  refine af hP hN rfl ?_
  iterate 5 (refine aa rfl fun _ k0 => ?_; simp only [zO, zT, acs, reduceCtorEq, M, E, O, Z, Y, V, Mdl.av, Mdl.cs]; (repeat refine an ?_); (try refine .inl ?_); apply k0; clear k0; simp only [zP, E])
  refine ad ?_
  apply k27; clear k27; refine kp [1, 2, 3, 4, 6, 7, 8, 65, 72] ?_
  refine cd (fun hc28 => ?_) (fun hc28 => ?_)
  ·(try simp only [zB, reduceCtorEq] at hc28)
   refine au ?_
   apply k26; clear k26; refine kp [1, 2, 3, 4, 6, 7, 8, 65, 72] ?_
   refine ab fun _ k29 => ?_
   refine aw ?_
   have hrl := hm.rl s (by omega); have hql := hm.ql s (by omega)
   have hnr := hm.nr s j (by omega) (by omega); have hor := hm.or s j (by omega) (by omega); have hox := hv.ol s j (by omega) (by omega)
   have hq1 := cw (n := x.m.nx.length) (i := s) (by omega)
   have hq2 := cw (n := x.m.nx.length) (i := ((x.m.nx.getD s []).getD j 0).toNat) (by omega)
   have hwr := rZ hv (s := s) (j := j) (by omega) (by omega)
   have hsl := sj hv (s := s) (j := j) (by omega) (by omega)
   have hrt := jf hv (s := s) (a := j) (by omega) (by omega)
   rw [fq] at hrt
   have hrx := qZ (x := x) (s := s) (j := j)
   refine bI hP hN Tryz.mixed rfl ?_
   iterate 38 (refine aa rfl fun _ k0 => ?_; simp only [zO, zT, acs, reduceCtorEq, M, E, O, Z, Y, V, Mdl.av, Mdl.cs, hq1, hq2, ag, ah, am]; (repeat refine an ?_); (try refine .inl ?_); apply k0; clear k0; simp only [zP, E])
   refine aa rfl fun _ k0 => ?_
   refine az (h := aj (fd [qn s, x.ins.getD j [], x.outs.getD ((x.m.ot.getD s []).getD j 0).toNat [], qn ((x.m.nx.getD s []).getD j 0).toNat] (by simp) hwr)) rfl rfl (by first | exact rfl | (simp only [ev, zP, M, E]; exact rfl)) (by simp only [zV, acs, reduceCtorEq, M, E, O, Z, Y, V, Mdl.av, Mdl.cs, hq1, hq2, ag, ah, am]) ?_
   apply k0; clear k0; simp only [zP, E]
   iterate 2 (refine aa rfl fun _ k0 => ?_; simp only [zO, zT, acs, reduceCtorEq, M, E, O, Z, Y, V, Mdl.av, Mdl.cs, hq1, hq2, ag, ah, am]; (repeat refine an ?_); (try refine .inl ?_); apply k0; clear k0; simp only [zP, E])
   refine ad ?_
   refine ⟨by kernel_rfl, ?_⟩
   apply k29; clear k29; refine kp [1, 2, 3, 4, 6, 7, 8, 65, 72] ?_
   refine af hP hN rfl ?_
   iterate 3 (refine aa rfl fun _ k0 => ?_; simp only [zO, zT, acs, reduceCtorEq, M, E, O, Z, Y, V, Mdl.av, Mdl.cs]; (repeat refine an ?_); (try refine .inl ?_); apply k0; clear k0; simp only [zP, E])
   refine ad ?_
   refine ⟨_, _, ?_, aB [1, 2, 3, 4, 6, 7, 8, 65], j + 1, by omega, rfl, ?_⟩
   · omega
   · rw [hrx]; rfl
  (try simp only [zB, reduceCtorEq] at hc28)
  refine aW ?_
  apply k23; clear k23; refine kp [1, 2, 3, 4, 6, 7, 8, 65, 72] ?_
  refine af hP hN rfl ?_
  iterate 3 (refine aa rfl fun _ k0 => ?_; simp only [zO, zT, acs, reduceCtorEq, M, E, O, Z, Y, V, Mdl.av, Mdl.cs]; (repeat refine an ?_); (try refine .inl ?_); apply k0; clear k0; simp only [zP, E])
  refine ad ?_
  refine ⟨_, _, ?_, aB [1, 2, 3, 4, 6, 7], s + 1, by omega, rfl, ?_⟩
  · omega
  · have hrl := hm.rl s (by omega)
    rw [fC, show (x.m.nx.getD s []).length = j by omega, ← List.append_assoc]; rfl
 (try simp only [zB, reduceCtorEq] at hc22)
 refine aW ?_
 apply k17; clear k17; refine kp [1, 2, 3, 4, 6, 7, 65] ?_
 refine ab fun _ k30 => ?_
 obtain rfl : s = x.m.nx.length := by omega
 refine af hP hN rfl ?_
 iterate 3 (refine aa rfl fun _ k0 => ?_; simp only [zO, zT, acs, reduceCtorEq, M, E, O, Z, Y, V, Mdl.av, Mdl.cs]; (repeat refine an ?_); (try refine .inl ?_); apply k0; clear k0; simp only [zP, E])
 refine ad ?_
 apply k30; clear k30; refine kp [1, 2, 3, 4, 6, 7, 65] ?_
 refine aq ?_
 refine ⟨nr, _, rfl, ?_⟩; simp only [zF, zP, M, E, Mdl.av, Mdl.cs]
 refine VLE.of_eq ?_
 first | (rw [kA (by assumption)]; done) | (rw [mQ hv0, hv0]; done)
set_option maxHeartbeats 2000000 in
theorem tZ (x : Mdl) : bz Tryz.prog 3 [x.av] (.one (.bool true)) := by
 refine aL Tryz.func3 rfl (by kernel_rfl) (Nat.le_of_ble_eq_true rfl) rfl fun C hP hN hB => ?_
 replace hN : C.N = 38 := hN
 simp only [aO, E]
 refine ab fun _ k1 => ?_
 refine af hP hN rfl ?_
 iterate 2 (refine aa rfl fun _ k0 => ?_; simp only [zO, zT, acs, reduceCtorEq, M, E, O, Z, Y, V, Mdl.av, Mdl.cs]; (repeat refine an ?_); (try refine .inl ?_); apply k0; clear k0; simp only [zP, E])
 refine ad ?_
 apply k1; clear k1; refine kp [0, 1, 2] ?_
 refine ab fun _ k2 => ?_
 refine ab fun _ k3 => ?_
 refine af hP hN rfl ?_
 (refine aa rfl fun _ k0 => ?_; simp only [zO, zT, acs, reduceCtorEq, M, E, O, Z, Y, V, Mdl.av, Mdl.cs]; (repeat refine an ?_); (try refine .inl ?_); apply k0; clear k0; simp only [zP, E])
 refine aa rfl fun _ k0 => ?_
 refine az (h := aj (pH x)) rfl rfl (by first | exact rfl | (simp only [ev, zP, M, E]; exact rfl)) (by simp only [zV, acs, reduceCtorEq, M, E, O, Z, Y, V, Mdl.av, Mdl.cs]) ?_
 apply k0; clear k0; simp only [zP, E]
 refine ad ?_
 apply k3; clear k3; refine kp [0, 1, 2, 8] ?_
 refine cd (fun hc4 => ?_) (fun hc4 => ?_)
 ·(try simp only [zB, reduceCtorEq] at hc4)
  refine ab fun _ k5 => ?_
  refine af hP hN rfl ?_
  refine aa rfl fun _ k0 => ?_
  refine az (h := aj lM) rfl rfl (by first | exact rfl | (simp only [ev, zP, M, E]; exact rfl)) (by simp only [zV, acs, reduceCtorEq, M, E, O, Z, Y, V, Mdl.av, Mdl.cs]) ?_
  apply k0; clear k0; simp only [zP, E]
  (refine aa rfl fun _ k0 => ?_; simp only [zO, zT, acs, reduceCtorEq, M, E, O, Z, Y, V, Mdl.av, Mdl.cs]; (repeat refine an ?_); (try refine .inl ?_); apply k0; clear k0; simp only [zP, E])
  refine ad ?_
  apply k5; clear k5; refine kp [0, 1, 2, 8] ?_
  refine aq ?_
  refine ⟨nr, _, rfl, ?_⟩; simp only [zF, zP, M, E, Mdl.av, Mdl.cs]
  refine VLE.of_eq ?_
  first | rfl | (simp; done)
 (try simp only [zB, reduceCtorEq] at hc4)
 have hgr : hQ x = false := by have h9 := hc4; revert h9; cases hQ x <;> simp
 have hg1 := pf hgr
 obtain ⟨hnm, hni, hno⟩ := rq hgr
 refine au ?_
 apply k2; clear k2; refine kp [0, 1, 2, 8] ?_
 refine ab fun _ k6 => ?_
 refine af hP hN rfl ?_
 (refine aa rfl fun _ k0 => ?_; simp only [zO, zT, acs, reduceCtorEq, M, E, O, Z, Y, V, Mdl.av, Mdl.cs]; (repeat refine an ?_); (try refine .inl ?_); apply k0; clear k0; simp only [zP, E])
 refine aa rfl fun _ k0 => ?_
 refine az (h := aj (mM x (fun _ => by omega))) rfl rfl (by first | exact rfl | (simp only [ev, zP, M, E]; exact rfl)) (by simp only [zV, acs, reduceCtorEq, M, E, O, Z, Y, V, Mdl.av, Mdl.cs]) ?_
 apply k0; clear k0; simp only [zP, E]
 iterate 5 (refine aa rfl fun _ k0 => ?_; simp only [zO, zT, acs, reduceCtorEq, M, E, O, Z, Y, V, Mdl.av, Mdl.cs]; (repeat refine an ?_); (try refine .inl ?_); apply k0; clear k0; simp only [zP, E])
 refine ad ?_
 apply k6; clear k6; refine kp [0, 1, 2, 3, 4, 8] ?_
 refine ab fun _ k7 => ?_
 refine af hP hN rfl ?_
 (refine aa rfl fun _ k0 => ?_; simp only [zO, zT, acs, reduceCtorEq, M, E, O, Z, Y, V, Mdl.av, Mdl.cs]; (repeat refine an ?_); (try refine .inl ?_); apply k0; clear k0; simp only [zP, E])
 refine aa rfl fun _ k0 => ?_
 refine az (h := aj (pS x hnm hni hno (fun _ => by omega))) rfl rfl (by first | exact rfl | (simp only [ev, zP, M, E]; exact rfl)) (by simp only [zV, acs, reduceCtorEq, M, E, O, Z, Y, V, Mdl.av, Mdl.cs]) ?_
 apply k0; clear k0; simp only [zP, E]
 iterate 5 (refine aa rfl fun _ k0 => ?_; simp only [zO, zT, acs, reduceCtorEq, M, E, O, Z, Y, V, Mdl.av, Mdl.cs]; (repeat refine an ?_); (try refine .inl ?_); apply k0; clear k0; simp only [zP, E])
 refine ad ?_
 apply k7; clear k7; refine kp [0, 1, 2, 3, 4, 5, 6, 8] ?_
 refine ab fun _ k8 => ?_
 refine bI hP hN Tryz.mixed rfl ?_
 (refine aa rfl fun _ k0 => ?_; simp only [zO, zT, acs, reduceCtorEq, M, E, O, Z, Y, V, Mdl.av, Mdl.cs]; (repeat refine an ?_); (try refine .inl ?_); apply k0; clear k0; simp only [zP, E])
 refine aa rfl fun _ k0 => ?_
 refine az (h := aj (lP x)) rfl rfl (by first | exact rfl | (simp only [ev, zP, M, E]; exact rfl)) (by simp only [zV, acs, reduceCtorEq, M, E, O, Z, Y, V, Mdl.av, Mdl.cs]) ?_
 apply k0; clear k0; simp only [zP, E]
 (refine aa rfl fun _ k0 => ?_; simp only [zO, zT, acs, reduceCtorEq, M, E, O, Z, Y, V, Mdl.av, Mdl.cs]; (repeat refine an ?_); (try refine .inl ?_); apply k0; clear k0; simp only [zP, E])
 refine aa rfl fun _ k0 => ?_
 refine az (h := aj (nV x hnm hni hno)) rfl rfl (by first | exact rfl | (simp only [ev, zP, M, E]; exact rfl)) (by simp only [zV, acs, reduceCtorEq, M, E, O, Z, Y, V, Mdl.av, Mdl.cs]) ?_
 apply k0; clear k0; simp only [zP, E]
 iterate 2 (refine aa rfl fun _ k0 => ?_; simp only [zO, zT, acs, reduceCtorEq, M, E, O, Z, Y, V, Mdl.av, Mdl.cs]; (repeat refine an ?_); (try refine .inl ?_); apply k0; clear k0; simp only [zP, E])
 refine' ay (want := true) 3 rfl (m := 25) (by simp only [zP, M, E]; exact rfl) (by kernel_rfl) rfl rfl rfl rfl rfl (fun hg9 => ?a9) ?b9 ?c9
 case a9 =>
  have hq9 := hg9; (try simp only [zB, reduceCtorEq] at hg9); simp only [zE]
  iterate 3 (refine aN rfl fun _ k0 => ?_; simp only [zO, zT, acs, reduceCtorEq, M, E, O, Z, Y, V, Mdl.av, Mdl.cs]; (repeat refine an ?_); (try refine .inl ?_); apply k0; clear k0; simp only [zP, E])
  (refine aa rfl fun _ k0 => ?_; simp only [zO, zT, acs, reduceCtorEq, M, E, O, Z, Y, V, Mdl.av, Mdl.cs]; (repeat refine an ?_); (try refine .inl ?_); apply k0; clear k0; simp only [zP, E])
  refine ad ?_
  refine ⟨by simp only [zP, M, E]; exact rfl, rfl, ?_, rfl⟩; (repeat refine ax rfl ?_); exact aM (by exact rfl) hq9
 case b9 => exact bb
 simp only [aC, aA]
 (refine aa rfl fun _ k0 => ?_; simp only [zO, zT, acs, reduceCtorEq, M, E, O, Z, Y, V, Mdl.av, Mdl.cs]; (repeat refine an ?_); (try refine .inl ?_); apply k0; clear k0; simp only [zP, E])
 refine' ay (want := true) 3 rfl (m := 30) (by simp only [zP, M, E]; exact rfl) (by kernel_rfl) rfl rfl rfl rfl rfl (fun hg10 => ?a10) ?b10 ?c10
 case a10 =>
  have hq10 := hg10; (try simp only [zB, reduceCtorEq] at hg10); simp only [zE]
  iterate 3 (refine aN rfl fun _ k0 => ?_; simp only [zO, zT, acs, reduceCtorEq, M, E, O, Z, Y, V, Mdl.av, Mdl.cs]; (repeat refine an ?_); (try refine .inl ?_); apply k0; clear k0; simp only [zP, E])
  (refine aa rfl fun _ k0 => ?_; simp only [zO, zT, acs, reduceCtorEq, M, E, O, Z, Y, V, Mdl.av, Mdl.cs]; (repeat refine an ?_); (try refine .inl ?_); apply k0; clear k0; simp only [zP, E])
  refine ad ?_
  refine ⟨by simp only [zP, M, E]; exact rfl, rfl, ?_, rfl⟩; (repeat refine ax rfl ?_); exact aM (by exact rfl) hq10
 case b10 => exact bb
 simp only [aC, aA]
 (refine aa rfl fun _ k0 => ?_; simp only [zO, zT, acs, reduceCtorEq, M, E, O, Z, Y, V, Mdl.av, Mdl.cs]; (repeat refine an ?_); (try refine .inl ?_); apply k0; clear k0; simp only [zP, E])
 refine' ay (want := true) 1 rfl (m := 35) (by simp only [zP, M, E]; exact rfl) (by kernel_rfl) rfl rfl rfl rfl rfl (fun hg11 => ?a11) ?b11 ?c11
 case a11 =>
  have hq11 := hg11; (try simp only [zB, reduceCtorEq] at hg11); simp only [zE]
  refine aN rfl fun _ k0 => ?_
  refine az (h := aj lM) rfl rfl (by first | exact rfl | (simp only [ev, zP, M, E]; exact rfl)) (by simp only [zV, acs, reduceCtorEq, M, E, O, Z, Y, V, Mdl.av, Mdl.cs]) ?_
  apply k0; clear k0; simp only [zP, E]
  (refine aa rfl fun _ k0 => ?_; simp only [zO, zT, acs, reduceCtorEq, M, E, O, Z, Y, V, Mdl.av, Mdl.cs]; (repeat refine an ?_); (try refine .inl ?_); apply k0; clear k0; simp only [zP, E])
  refine ad ?_
  refine ⟨by simp only [zP, M, E]; exact rfl, rfl, ?_, rfl⟩; (repeat refine ax rfl ?_); exact aM (by exact rfl) hq11
 case b11 => exact bb
 simp only [aC, aA]
 (refine aa rfl fun _ k0 => ?_; simp only [zO, zT, acs, reduceCtorEq, M, E, O, Z, Y, V, Mdl.av, Mdl.cs]; (repeat refine an ?_); (try refine .inl ?_); apply k0; clear k0; simp only [zP, E])
 refine ad ?_
 refine ⟨by kernel_rfl, ?_⟩
 apply k8; clear k8; refine kp [0, 1, 2, 3, 4, 5, 6, 8] ?_
 refine aq ?_
 refine ⟨nr, _, rfl, ?_⟩; simp only [zF, zP, M, E, Mdl.av, Mdl.cs]
 refine VLE.of_eq ?_
 first | rfl | (simp; done)
end Go.Proofs.YtmfkpljjhiglpaaGreatDoor
