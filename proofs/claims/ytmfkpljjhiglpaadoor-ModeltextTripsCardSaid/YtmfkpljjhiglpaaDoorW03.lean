/- Contracts of functions of this seat, each out of a walk through its code, and plain facts on what they compute. Conditions: those that each theorem names. -/
import Derived.Test.YtmfkpljjhiglpaaDoorW02
set_option linter.unusedSimpArgs false
set_option linter.unusedVariables false
set_option maxRecDepth 100000
namespace Go.Proofs.YtmfkpljjhiglpaaDoor
open Go Go.AV
open Nat renaming reduceEqDiff → M, reduceAdd → E, reduceLeDiff → O, reduceLT → Z, reduceMul → Y, reduceSub → V
open List renaming set_cons_zero → bQ, set_cons_succ → ba, getD_cons_zero → cY, length_append → ag, map_cons → aU, cons_append → ah, map_nil → bE, length_cons → ak, nil_append → am, take_succ_cons → ci, length_nil → ay, length_map → bV, length_replicate → aH, take_length → aE, mem_cons_self → aR, mem_cons_of_mem → aG
open Int renaming toNat_natCast → aJ
theorem oH (m : Mly) : bG Tryd.prog 20 [m.av] (.one (.int .i64 (br m))) := by
 refine aO Tryd.func20 rfl (by kernel_rfl) (Nat.le_of_ble_eq_true rfl) rfl fun C hP hN hB => ?_
 replace hN : C.N = 104 := hN
 simp only [aT, E]
 refine ab fun _ k1 => ?_
 refine af hP hN rfl ?_
 iterate 2 (refine aa rfl fun _ k0 => ?_; simp only [zO, zT, acs, reduceCtorEq, M, E, O, Z, Y, V, Mly.av]; (repeat refine an ?_); (try refine .inl ?_); apply k0; clear k0; simp only [zP, E])
 refine ae ?_
 apply k1; clear k1; refine kp [0, 1, 2] ?_
 refine ab fun _ k2 => ?_
 refine af hP hN rfl ?_
 iterate 4 (refine aa rfl fun _ k0 => ?_; simp only [zO, zT, acs, reduceCtorEq, M, E, O, Z, Y, V, Mly.av]; (repeat refine an ?_); (try refine .inl ?_); apply k0; clear k0; simp only [zP, E])
 refine ae ?_
 apply k2; clear k2; refine kp [0, 1, 2, 3] ?_
 refine ab fun _ k3 => ?_
 refine aD ?_
 refine ab fun _ k4 => ?_
 refine af hP hN rfl ?_
 iterate 4 (refine aa rfl fun _ k0 => ?_; simp only [zO, zT, acs, reduceCtorEq, M, E, O, Z, Y, V, Mly.av]; (repeat refine an ?_); (try refine .inl ?_); apply k0; clear k0; simp only [zP, E])
 refine' ar (want := false) 3 rfl (m := 15) (by simp only [zP, M, E]; exact rfl) (by kernel_rfl) rfl rfl rfl rfl rfl (fun hg5 => ?a5) ?b5 ?c5
 case a5 =>
  have hq5 := hg5; (try simp only [zB, reduceCtorEq] at hg5); simp only [zE]
  iterate 3 (refine aK rfl fun _ k0 => ?_; simp only [zO, zT, acs, reduceCtorEq, M, E, O, Z, Y, V, Mly.av]; (repeat refine an ?_); (try refine .inl ?_); apply k0; clear k0; simp only [zP, E])
  (refine aa rfl fun _ k0 => ?_; simp only [zO, zT, acs, reduceCtorEq, M, E, O, Z, Y, V, Mly.av]; (repeat refine an ?_); (try refine .inl ?_); apply k0; clear k0; simp only [zP, E])
  refine ae ?_
  refine ⟨by simp only [zP, M, E]; exact rfl, rfl, ?_, rfl⟩; (repeat refine au rfl ?_); exact aL (by exact rfl) hq5
 case b5 => exact bb
 simp only [aF, az]
 (refine aa rfl fun _ k0 => ?_; simp only [zO, zT, acs, reduceCtorEq, M, E, O, Z, Y, V, Mly.av]; (repeat refine an ?_); (try refine .inl ?_); apply k0; clear k0; simp only [zP, E])
 refine ae ?_
 apply k4; clear k4; refine kp [0, 1, 2, 3, 11] ?_
 refine cd (fun hc6 => ?_) (fun hc6 => ?_)
 ·(try simp only [zB, reduceCtorEq] at hc6)
  refine ab fun _ k7 => ?_
  refine af hP hN rfl ?_
  (refine aa rfl fun _ k0 => ?_; simp only [zO, zT, acs, reduceCtorEq, M, E, O, Z, Y, V, Mly.av]; (repeat refine an ?_); (try refine .inl ?_); apply k0; clear k0; simp only [zP, E])
  refine ae ?_
  apply k7; clear k7; refine kp [0, 1, 2, 3, 11] ?_
  refine aq ?_
  refine ⟨nr, _, rfl, ?_⟩; simp only [zF, zP, M, E, Mly.av]
  refine VLE.of_eq ?_
  refine congrArg (fun n => AV.one (AC.int IntKind.i64 n)) ?_
  symm
  unfold br
  first
  | (rw [if_pos (by omega)]; done)
  | (rw [if_neg (by omega), if_pos (by omega)]; done)
  | (rw [if_neg (by omega), if_neg (by omega), if_pos (by omega)]; done)
  | (rw [if_neg (by omega), if_neg (by omega), if_neg (by omega), if_pos (by omega)]; done)
  | (rw [if_neg (by omega), if_neg (by omega), if_neg (by omega), if_neg (by omega), if_pos (by omega)]; done)
  | (rw [if_neg (by omega), if_neg (by omega), if_neg (by omega), if_neg (by omega), if_neg (by omega)]
     first
     | exact (bg hrows (by omega) (by rw [bC hc32.1 hc32.2 (j := j) (by omega) (by unfold aZ; omega)]; decide)).trans (bC hc32.1 hc32.2 (by omega) (by unfold aZ; omega))
     | exact (bg hrows (by omega) (by rw [bB hc32]; decide)).trans (bB hc32)
     | exact bP fun i hi => hrows i (by omega))
 (try simp only [zB, reduceCtorEq] at hc6)
 refine ab fun _ k8 => ?_
 refine af hP hN rfl ?_
 iterate 3 (refine aa rfl fun _ k0 => ?_; simp only [zO, zT, acs, reduceCtorEq, M, E, O, Z, Y, V, Mly.av]; (repeat refine an ?_); (try refine .inl ?_); apply k0; clear k0; simp only [zP, E])
 refine ae ?_
 apply k8; clear k8; refine kp [0, 1, 2, 3, 11, 20] ?_
 refine cd (fun hc9 => ?_) (fun hc9 => ?_)
 ·(try simp only [zB, reduceCtorEq] at hc9)
  refine ab fun _ k10 => ?_
  refine af hP hN rfl ?_
  (refine aa rfl fun _ k0 => ?_; simp only [zO, zT, acs, reduceCtorEq, M, E, O, Z, Y, V, Mly.av]; (repeat refine an ?_); (try refine .inl ?_); apply k0; clear k0; simp only [zP, E])
  refine ae ?_
  apply k10; clear k10; refine kp [0, 1, 2, 3, 11, 20] ?_
  refine aq ?_
  refine ⟨nr, _, rfl, ?_⟩; simp only [zF, zP, M, E, Mly.av]
  refine VLE.of_eq ?_
  refine congrArg (fun n => AV.one (AC.int IntKind.i64 n)) ?_
  symm
  unfold br
  first
  | (rw [if_pos (by omega)]; done)
  | (rw [if_neg (by omega), if_pos (by omega)]; done)
  | (rw [if_neg (by omega), if_neg (by omega), if_pos (by omega)]; done)
  | (rw [if_neg (by omega), if_neg (by omega), if_neg (by omega), if_pos (by omega)]; done)
  | (rw [if_neg (by omega), if_neg (by omega), if_neg (by omega), if_neg (by omega), if_pos (by omega)]; done)
  | (rw [if_neg (by omega), if_neg (by omega), if_neg (by omega), if_neg (by omega), if_neg (by omega)]
     first
     | exact (bg hrows (by omega) (by rw [bC hc32.1 hc32.2 (j := j) (by omega) (by unfold aZ; omega)]; decide)).trans (bC hc32.1 hc32.2 (by omega) (by unfold aZ; omega))
     | exact (bg hrows (by omega) (by rw [bB hc32]; decide)).trans (bB hc32)
     | exact bP fun i hi => hrows i (by omega))
 (try simp only [zB, reduceCtorEq] at hc9)
 refine ab fun _ k11 => ?_
 refine af hP hN rfl ?_
 iterate 3 (refine aa rfl fun _ k0 => ?_; simp only [zO, zT, acs, reduceCtorEq, M, E, O, Z, Y, V, Mly.av]; (repeat refine an ?_); (try refine .inl ?_); apply k0; clear k0; simp only [zP, E])
 refine ae ?_
 apply k11; clear k11; refine kp [0, 1, 2, 3, 11, 20, 23] ?_
 refine cd (fun hc12 => ?_) (fun hc12 => ?_)
 ·(try simp only [zB, reduceCtorEq] at hc12)
  refine ab fun _ k13 => ?_
  refine af hP hN rfl ?_
  (refine aa rfl fun _ k0 => ?_; simp only [zO, zT, acs, reduceCtorEq, M, E, O, Z, Y, V, Mly.av]; (repeat refine an ?_); (try refine .inl ?_); apply k0; clear k0; simp only [zP, E])
  refine ae ?_
  apply k13; clear k13; refine kp [0, 1, 2, 3, 11, 20, 23] ?_
  refine aq ?_
  refine ⟨nr, _, rfl, ?_⟩; simp only [zF, zP, M, E, Mly.av]
  refine VLE.of_eq ?_
  refine congrArg (fun n => AV.one (AC.int IntKind.i64 n)) ?_
  symm
  unfold br
  first
  | (rw [if_pos (by omega)]; done)
  | (rw [if_neg (by omega), if_pos (by omega)]; done)
  | (rw [if_neg (by omega), if_neg (by omega), if_pos (by omega)]; done)
  | (rw [if_neg (by omega), if_neg (by omega), if_neg (by omega), if_pos (by omega)]; done)
  | (rw [if_neg (by omega), if_neg (by omega), if_neg (by omega), if_neg (by omega), if_pos (by omega)]; done)
  | (rw [if_neg (by omega), if_neg (by omega), if_neg (by omega), if_neg (by omega), if_neg (by omega)]
     first
     | exact (bg hrows (by omega) (by rw [bC hc32.1 hc32.2 (j := j) (by omega) (by unfold aZ; omega)]; decide)).trans (bC hc32.1 hc32.2 (by omega) (by unfold aZ; omega))
     | exact (bg hrows (by omega) (by rw [bB hc32]; decide)).trans (bB hc32)
     | exact bP fun i hi => hrows i (by omega))
 (try simp only [zB, reduceCtorEq] at hc12)
 refine ab fun _ k14 => ?_
 refine af hP hN rfl ?_
 iterate 4 (refine aa rfl fun _ k0 => ?_; simp only [zO, zT, acs, reduceCtorEq, M, E, O, Z, Y, V, Mly.av]; (repeat refine an ?_); (try refine .inl ?_); apply k0; clear k0; simp only [zP, E])
 refine' ar (want := false) 4 rfl (m := 30) (by simp only [zP, M, E]; exact rfl) (by kernel_rfl) rfl rfl rfl rfl rfl (fun hg15 => ?a15) ?b15 ?c15
 case a15 =>
  have hq15 := hg15; (try simp only [zB, reduceCtorEq] at hg15); simp only [zE]
  iterate 4 (refine aK rfl fun _ k0 => ?_; simp only [zO, zT, acs, reduceCtorEq, M, E, O, Z, Y, V, Mly.av]; (repeat refine an ?_); (try refine .inl ?_); apply k0; clear k0; simp only [zP, E])
  (refine aa rfl fun _ k0 => ?_; simp only [zO, zT, acs, reduceCtorEq, M, E, O, Z, Y, V, Mly.av]; (repeat refine an ?_); (try refine .inl ?_); apply k0; clear k0; simp only [zP, E])
  refine ae ?_
  refine ⟨by simp only [zP, M, E]; exact rfl, rfl, ?_, rfl⟩; (repeat refine au rfl ?_); exact aL (by exact rfl) hq15
 case b15 => exact bb
 simp only [aF, az]
 (refine aa rfl fun _ k0 => ?_; simp only [zO, zT, acs, reduceCtorEq, M, E, O, Z, Y, V, Mly.av]; (repeat refine an ?_); (try refine .inl ?_); apply k0; clear k0; simp only [zP, E])
 refine ae ?_
 apply k14; clear k14; refine kp [0, 1, 2, 3, 11, 20, 23, 26] ?_
 refine cd (fun hc16 => ?_) (fun hc16 => ?_)
 ·(try simp only [zB, reduceCtorEq] at hc16)
  refine ab fun _ k17 => ?_
  refine af hP hN rfl ?_
  (refine aa rfl fun _ k0 => ?_; simp only [zO, zT, acs, reduceCtorEq, M, E, O, Z, Y, V, Mly.av]; (repeat refine an ?_); (try refine .inl ?_); apply k0; clear k0; simp only [zP, E])
  refine ae ?_
  apply k17; clear k17; refine kp [0, 1, 2, 3, 11, 20, 23, 26] ?_
  refine aq ?_
  refine ⟨nr, _, rfl, ?_⟩; simp only [zF, zP, M, E, Mly.av]
  refine VLE.of_eq ?_
  refine congrArg (fun n => AV.one (AC.int IntKind.i64 n)) ?_
  symm
  unfold br
  first
  | (rw [if_pos (by omega)]; done)
  | (rw [if_neg (by omega), if_pos (by omega)]; done)
  | (rw [if_neg (by omega), if_neg (by omega), if_pos (by omega)]; done)
  | (rw [if_neg (by omega), if_neg (by omega), if_neg (by omega), if_pos (by omega)]; done)
  | (rw [if_neg (by omega), if_neg (by omega), if_neg (by omega), if_neg (by omega), if_pos (by omega)]; done)
  | (rw [if_neg (by omega), if_neg (by omega), if_neg (by omega), if_neg (by omega), if_neg (by omega)]
     first
     | exact (bg hrows (by omega) (by rw [bC hc32.1 hc32.2 (j := j) (by omega) (by unfold aZ; omega)]; decide)).trans (bC hc32.1 hc32.2 (by omega) (by unfold aZ; omega))
     | exact (bg hrows (by omega) (by rw [bB hc32]; decide)).trans (bB hc32)
     | exact bP fun i hi => hrows i (by omega))
 (try simp only [zB, reduceCtorEq] at hc16)
 refine ab fun _ k18 => ?_
 refine af hP hN rfl ?_
 iterate 6 (refine aa rfl fun _ k0 => ?_; simp only [zO, zT, acs, reduceCtorEq, M, E, O, Z, Y, V, Mly.av]; (repeat refine an ?_); (try refine .inl ?_); apply k0; clear k0; simp only [zP, E])
 refine ae ?_
 apply k18; clear k18; refine kp [0, 1, 2, 3, 11, 20, 23, 26, 36] ?_
 refine cd (fun hc19 => ?_) (fun hc19 => ?_)
 ·(try simp only [zB, reduceCtorEq] at hc19)
  refine ab fun _ k20 => ?_
  refine af hP hN rfl ?_
  (refine aa rfl fun _ k0 => ?_; simp only [zO, zT, acs, reduceCtorEq, M, E, O, Z, Y, V, Mly.av]; (repeat refine an ?_); (try refine .inl ?_); apply k0; clear k0; simp only [zP, E])
  refine ae ?_
  apply k20; clear k20; refine kp [0, 1, 2, 3, 11, 20, 23, 26, 36] ?_
  refine aq ?_
  refine ⟨nr, _, rfl, ?_⟩; simp only [zF, zP, M, E, Mly.av]
  refine VLE.of_eq ?_
  refine congrArg (fun n => AV.one (AC.int IntKind.i64 n)) ?_
  symm
  unfold br
  first
  | (rw [if_pos (by omega)]; done)
  | (rw [if_neg (by omega), if_pos (by omega)]; done)
  | (rw [if_neg (by omega), if_neg (by omega), if_pos (by omega)]; done)
  | (rw [if_neg (by omega), if_neg (by omega), if_neg (by omega), if_pos (by omega)]; done)
  | (rw [if_neg (by omega), if_neg (by omega), if_neg (by omega), if_neg (by omega), if_pos (by omega)]; done)
  | (rw [if_neg (by omega), if_neg (by omega), if_neg (by omega), if_neg (by omega), if_neg (by omega)]
     first
     | exact (bg hrows (by omega) (by rw [bC hc32.1 hc32.2 (j := j) (by omega) (by unfold aZ; omega)]; decide)).trans (bC hc32.1 hc32.2 (by omega) (by unfold aZ; omega))
     | exact (bg hrows (by omega) (by rw [bB hc32]; decide)).trans (bB hc32)
     | exact bP fun i hi => hrows i (by omega))
 (try simp only [zB, reduceCtorEq] at hc19)
 refine ax ?_
 apply k3; clear k3; refine kp [0, 1, 2, 3, 11, 20, 23, 26, 36] ?_
 refine ab fun _ k21 => ?_
 refine ab fun _ k22 => ?_
 refine af hP hN rfl ?_
 iterate 2 (refine aa rfl fun _ k0 => ?_; simp only [zO, zT, acs, reduceCtorEq, M, E, O, Z, Y, V, Mly.av]; (repeat refine an ?_); (try refine .inl ?_); apply k0; clear k0; simp only [zP, E])
 refine ae ?_
 apply k22; clear k22; refine kp [0, 1, 2, 3, 11, 20, 23, 26, 36, 42, 43] ?_
 refine aD ?_
 refine bu (fun n23 s23 => ∃ (k : Nat), (k ≤ m.nx.length) ∧ (∀ i, i < k → gA m i = 0) ∧ n23 = m.nx.length - k ∧ s23 = { env := [(1, .one (.ptr 0 0 0 0)), (3, .one (.int .i64 (m.nx.length : Int))), (42, .one (.int .i64 (m.nx.length : Int))), (43, .one (.int .i64 (k : Int)))], L := [.vars 27 [.int .i64 m.inp, .int .i64 m.st, .list (.list (.int .i64)) m.nx, .list (.list (.int .i64)) m.ot]] }) ?_ ?_
 ·exact ⟨_, _, aM [1, 3, 42, 43], 0, Nat.zero_le _, fun i hi => by omega, rfl, rfl⟩
 rintro n23 s23 ⟨k, hk, hrows, rfl, rfl⟩
 refine ab fun _ k24 => ?_
 refine af hP hN rfl ?_
 (refine aa rfl fun _ k0 => ?_; simp only [zO, zT, acs, reduceCtorEq, M, E, O, Z, Y, V, Mly.av]; (repeat refine an ?_); (try refine .inl ?_); apply k0; clear k0; simp only [zP, E])
 refine ae ?_
 apply k24; clear k24; refine kp [1, 3, 42, 43, 44] ?_
 refine ab fun _ k25 => ?_
 refine cd (fun hc26 => ?_) (fun hc26 => ?_)
 ·(try simp only [zB, reduceCtorEq] at hc26)
  refine ax ?_
  apply k25; clear k25; refine kp [1, 3, 42, 43, 44] ?_
  refine ab fun _ k27 => ?_
  refine aD ?_
  refine ab fun _ k28 => ?_
  refine af hP hN rfl ?_
  iterate 2 (refine aa rfl fun _ k0 => ?_; simp only [zO, zT, acs, reduceCtorEq, M, E, O, Z, Y, V, Mly.av]; (repeat refine an ?_); (try refine .inl ?_); apply k0; clear k0; simp only [zP, E])
  refine ae ?_
  apply k28; clear k28; refine kp [1, 3, 4, 42, 43, 44] ?_
  refine ab fun _ k29 => ?_
  refine ab fun _ k30 => ?_
  refine ct hP hN Tryd.mixed rfl ?_
  iterate 10 (refine aa rfl fun _ k0 => ?_; simp only [zO, zT, acs, reduceCtorEq, M, E, O, Z, Y, V, Mly.av]; (repeat refine an ?_); (try refine .inl ?_); apply k0; clear k0; simp only [zP, E])
  refine' ar (want := false) 9 rfl (m := 55) (by simp only [zP, M, E]; exact rfl) (by kernel_rfl) rfl rfl rfl rfl rfl (fun hg31 => ?a31) ?b31 ?c31
  case a31 =>
   have hq31 := hg31; (try simp only [zB, reduceCtorEq] at hg31); simp only [zE]
   iterate 9 (refine aK rfl fun _ k0 => ?_; simp only [zO, zT, acs, reduceCtorEq, M, E, O, Z, Y, V, Mly.av]; (repeat refine an ?_); (try refine .inl ?_); apply k0; clear k0; simp only [zP, E])
   (refine aa rfl fun _ k0 => ?_; simp only [zO, zT, acs, reduceCtorEq, M, E, O, Z, Y, V, Mly.av]; (repeat refine an ?_); (try refine .inl ?_); apply k0; clear k0; simp only [zP, E])
   refine ae ?_
   refine ⟨by simp only [zP, M, E]; exact rfl, rfl, ?_, rfl⟩; (repeat refine au rfl ?_); exact aL (by exact rfl) hq31
  case b31 => exact bb
  simp only [aF, az]
  refine ae ?_
  refine ⟨by kernel_rfl, ?_⟩
  apply k30; clear k30; refine kp [1, 3, 4, 42, 43, 44, 65] ?_
  refine cd (fun hc32 => ?_) (fun hc32 => ?_)
  ·(try simp only [zB, reduceCtorEq] at hc32)
   refine ab fun _ k33 => ?_
   refine af hP hN rfl ?_
   (refine aa rfl fun _ k0 => ?_; simp only [zO, zT, acs, reduceCtorEq, M, E, O, Z, Y, V, Mly.av]; (repeat refine an ?_); (try refine .inl ?_); apply k0; clear k0; simp only [zP, E])
   refine ae ?_
   apply k33; clear k33; refine kp [1, 2, 3, 4, 42, 43, 44, 65] ?_
   refine aq ?_
   refine ⟨nr, _, rfl, ?_⟩; simp only [zF, zP, M, E, Mly.av]
   refine VLE.of_eq ?_
   refine congrArg (fun n => AV.one (AC.int IntKind.i64 n)) ?_
   symm
   unfold br
   first
   | (rw [if_pos (by omega)]; done)
   | (rw [if_neg (by omega), if_pos (by omega)]; done)
   | (rw [if_neg (by omega), if_neg (by omega), if_pos (by omega)]; done)
   | (rw [if_neg (by omega), if_neg (by omega), if_neg (by omega), if_pos (by omega)]; done)
   | (rw [if_neg (by omega), if_neg (by omega), if_neg (by omega), if_neg (by omega), if_pos (by omega)]; done)
   | (rw [if_neg (by omega), if_neg (by omega), if_neg (by omega), if_neg (by omega), if_neg (by omega)]
      first
      | exact (bg hrows (by omega) (by rw [bC hc32.1 hc32.2 (j := j) (by omega) (by unfold aZ; omega)]; decide)).trans (bC hc32.1 hc32.2 (by omega) (by unfold aZ; omega))
      | exact (bg hrows (by omega) (by rw [bB hc32]; decide)).trans (bB hc32)
      | exact bP fun i hi => hrows i (by omega))
  (try simp only [zB, reduceCtorEq] at hc32)
  refine ax ?_
  apply k29; clear k29; refine kp [1, 3, 4, 42, 43, 44, 65] ?_
  refine ab fun _ k34 => ?_
  refine af hP hN rfl ?_
  iterate 3 (refine aa rfl fun _ k0 => ?_; simp only [zO, zT, acs, reduceCtorEq, M, E, O, Z, Y, V, Mly.av]; (repeat refine an ?_); (try refine .inl ?_); apply k0; clear k0; simp only [zP, E])
  refine ae ?_
  apply k34; clear k34; refine kp [1, 3, 4, 42, 43, 44, 65, 67, 68] ?_
  refine aD ?_
  refine bu (fun n35 s35 => ∃ (j : Nat), ((j : Int) ≤ m.inp) ∧ (∀ a, a < j → ¬ aZ m k a) ∧ n35 = m.inp.toNat - j ∧ s35 = { env := [(1, .one (.ptr 0 0 0 0)), (3, .one (.int .i64 (m.nx.length : Int))), (4, .one (.int .i64 (k : Int))), (42, .one (.int .i64 (m.nx.length : Int))), (43, .one (.int .i64 (k : Int))), (67, .one (.int .i64 m.inp)), (68, .one (.int .i64 (j : Int)))], L := [.vars 27 [.int .i64 m.inp, .int .i64 m.st, .list (.list (.int .i64)) m.nx, .list (.list (.int .i64)) m.ot]] }) ?_ ?_
  ·refine ⟨_, _, aM [1, 3, 4, 42, 43, 67, 68], 0, ?_, fun i hi => by omega, rfl, rfl⟩; omega
  rintro n35 s35 ⟨j, hj, hcells, rfl, rfl⟩
  refine ab fun _ k36 => ?_
  refine af hP hN rfl ?_
  (refine aa rfl fun _ k0 => ?_; simp only [zO, zT, acs, reduceCtorEq, M, E, O, Z, Y, V, Mly.av]; (repeat refine an ?_); (try refine .inl ?_); apply k0; clear k0; simp only [zP, E])
  refine ae ?_
  apply k36; clear k36; refine kp [1, 3, 4, 42, 43, 67, 68, 69] ?_
  refine ab fun _ k37 => ?_
  refine cd (fun hc38 => ?_) (fun hc38 => ?_)
  ·(try simp only [zB, reduceCtorEq] at hc38)
   refine ax ?_
   apply k37; clear k37; refine kp [1, 3, 4, 42, 43, 67, 68, 69] ?_
   refine ab fun _ k39 => ?_
   refine aD ?_
   refine ab fun _ k40 => ?_
   refine af hP hN rfl ?_
   iterate 2 (refine aa rfl fun _ k0 => ?_; simp only [zO, zT, acs, reduceCtorEq, M, E, O, Z, Y, V, Mly.av]; (repeat refine an ?_); (try refine .inl ?_); apply k0; clear k0; simp only [zP, E])
   refine ae ?_
   apply k40; clear k40; refine kp [1, 3, 4, 5, 42, 43, 67, 68, 69] ?_
   refine ab fun _ k41 => ?_
   refine ct hP hN Tryd.mixed rfl ?_
   iterate 18 (refine aa rfl fun _ k0 => ?_; simp only [zO, zT, acs, reduceCtorEq, M, E, O, Z, Y, V, Mly.av]; (repeat refine an ?_); (try refine .inl ?_); apply k0; clear k0; simp only [zP, E])
   refine ae ?_
   refine ⟨by kernel_rfl, ?_⟩
   apply k41; clear k41; refine kp [1, 3, 4, 5, 6, 7, 42, 43, 67, 68, 69] ?_
   refine ab fun _ k42 => ?_
   refine af hP hN rfl ?_
   iterate 3 (refine aa rfl fun _ k0 => ?_; simp only [zO, zT, acs, reduceCtorEq, M, E, O, Z, Y, V, Mly.av]; (repeat refine an ?_); (try refine .inl ?_); apply k0; clear k0; simp only [zP, E])
   refine' ar (want := false) 3 rfl (m := 89) (by simp only [zP, M, E]; exact rfl) (by kernel_rfl) rfl rfl rfl rfl rfl (fun hg43 => ?a43) ?b43 ?c43
   case a43 =>
    have hq43 := hg43; (try simp only [zB, reduceCtorEq] at hg43); simp only [zE]
    iterate 3 (refine aK rfl fun _ k0 => ?_; simp only [zO, zT, acs, reduceCtorEq, M, E, O, Z, Y, V, Mly.av]; (repeat refine an ?_); (try refine .inl ?_); apply k0; clear k0; simp only [zP, E])
    (refine aa rfl fun _ k0 => ?_; simp only [zO, zT, acs, reduceCtorEq, M, E, O, Z, Y, V, Mly.av]; (repeat refine an ?_); (try refine .inl ?_); apply k0; clear k0; simp only [zP, E])
    refine ae ?_
    refine ⟨by simp only [zP, M, E]; exact rfl, rfl, ?_, rfl⟩; (repeat refine au rfl ?_); exact aL (by exact rfl) hq43
   case b43 => exact bb
   simp only [aF, az]
   (refine aa rfl fun _ k0 => ?_; simp only [zO, zT, acs, reduceCtorEq, M, E, O, Z, Y, V, Mly.av]; (repeat refine an ?_); (try refine .inl ?_); apply k0; clear k0; simp only [zP, E])
   refine' ar (want := false) 2 rfl (m := 94) (by simp only [zP, M, E]; exact rfl) (by kernel_rfl) rfl rfl rfl rfl rfl (fun hg44 => ?a44) ?b44 ?c44
   case a44 =>
    have hq44 := hg44; (try simp only [zB, reduceCtorEq] at hg44); simp only [zE]
    iterate 2 (refine aK rfl fun _ k0 => ?_; simp only [zO, zT, acs, reduceCtorEq, M, E, O, Z, Y, V, Mly.av]; (repeat refine an ?_); (try refine .inl ?_); apply k0; clear k0; simp only [zP, E])
    (refine aa rfl fun _ k0 => ?_; simp only [zO, zT, acs, reduceCtorEq, M, E, O, Z, Y, V, Mly.av]; (repeat refine an ?_); (try refine .inl ?_); apply k0; clear k0; simp only [zP, E])
    refine ae ?_
    refine ⟨by simp only [zP, M, E]; exact rfl, rfl, ?_, rfl⟩; (repeat refine au rfl ?_); exact aL (by exact rfl) hq44
   case b44 => exact bb
   simp only [aF, az]
   (refine aa rfl fun _ k0 => ?_; simp only [zO, zT, acs, reduceCtorEq, M, E, O, Z, Y, V, Mly.av]; (repeat refine an ?_); (try refine .inl ?_); apply k0; clear k0; simp only [zP, E])
   refine' ar (want := false) 2 rfl (m := 98) (by simp only [zP, M, E]; exact rfl) (by kernel_rfl) rfl rfl rfl rfl rfl (fun hg45 => ?a45) ?b45 ?c45
   case a45 =>
    have hq45 := hg45; (try simp only [zB, reduceCtorEq] at hg45); simp only [zE]
    iterate 2 (refine aK rfl fun _ k0 => ?_; simp only [zO, zT, acs, reduceCtorEq, M, E, O, Z, Y, V, Mly.av]; (repeat refine an ?_); (try refine .inl ?_); apply k0; clear k0; simp only [zP, E])
    (refine aa rfl fun _ k0 => ?_; simp only [zO, zT, acs, reduceCtorEq, M, E, O, Z, Y, V, Mly.av]; (repeat refine an ?_); (try refine .inl ?_); apply k0; clear k0; simp only [zP, E])
    refine ae ?_
    refine ⟨by simp only [zP, M, E]; exact rfl, rfl, ?_, rfl⟩; (repeat refine au rfl ?_); exact aL (by exact rfl) hq45
   case b45 => exact bb
   simp only [aF, az]
   refine ae ?_
   apply k42; clear k42; refine kp [1, 3, 4, 5, 6, 7, 42, 43, 67, 68, 69, 101] ?_
   refine cd (fun hc46 => ?_) (fun hc46 => ?_)
   ·(try simp only [zB, reduceCtorEq] at hc46)
    refine ab fun _ k47 => ?_
    refine af hP hN rfl ?_
    (refine aa rfl fun _ k0 => ?_; simp only [zO, zT, acs, reduceCtorEq, M, E, O, Z, Y, V, Mly.av]; (repeat refine an ?_); (try refine .inl ?_); apply k0; clear k0; simp only [zP, E])
    refine ae ?_
    apply k47; clear k47; refine kp [1, 2, 3, 4, 5, 6, 7, 42, 43, 67, 68, 69, 101] ?_
    refine aq ?_
    refine ⟨nr, _, rfl, ?_⟩; simp only [zF, zP, M, E, Mly.av]
    refine VLE.of_eq ?_
    refine congrArg (fun n => AV.one (AC.int IntKind.i64 n)) ?_
    symm
    unfold br
    first
    | (rw [if_pos (by omega)]; done)
    | (rw [if_neg (by omega), if_pos (by omega)]; done)
    | (rw [if_neg (by omega), if_neg (by omega), if_pos (by omega)]; done)
    | (rw [if_neg (by omega), if_neg (by omega), if_neg (by omega), if_pos (by omega)]; done)
    | (rw [if_neg (by omega), if_neg (by omega), if_neg (by omega), if_neg (by omega), if_pos (by omega)]; done)
    | (rw [if_neg (by omega), if_neg (by omega), if_neg (by omega), if_neg (by omega), if_neg (by omega)]
       first
       | exact (bg hrows (by omega) (by rw [bC hc32.1 hc32.2 (j := j) (by omega) (by unfold aZ; omega)]; decide)).trans (bC hc32.1 hc32.2 (by omega) (by unfold aZ; omega))
       | exact (bg hrows (by omega) (by rw [bB hc32]; decide)).trans (bB hc32)
       | exact bP fun i hi => hrows i (by omega))
   (try simp only [zB, reduceCtorEq] at hc46)
   refine ax ?_
   apply k39; clear k39; refine kp [1, 3, 4, 5, 6, 7, 42, 43, 67, 68, 69, 101] ?_
   refine af hP hN rfl ?_
   iterate 2 (refine aa rfl fun _ k0 => ?_; simp only [zO, zT, acs, reduceCtorEq, M, E, O, Z, Y, V, Mly.av]; (repeat refine an ?_); (try refine .inl ?_); apply k0; clear k0; simp only [zP, E])
   refine ae ?_
   refine ⟨_, _, ?_, aM [1, 3, 4, 42, 43, 67, 68], j + 1, ?_, fun a ha => ?_, rfl, rfl⟩
   · omega
   · omega
   · by_cases e : a = j
     · rw [e]; unfold aZ; omega
     · exact hcells a (by omega)
  (try simp only [zB, reduceCtorEq] at hc38)
  refine bv ?_
  apply k27; clear k27; refine kp [1, 3, 4, 42, 43, 67, 68, 69] ?_
  refine af hP hN rfl ?_
  iterate 2 (refine aa rfl fun _ k0 => ?_; simp only [zO, zT, acs, reduceCtorEq, M, E, O, Z, Y, V, Mly.av]; (repeat refine an ?_); (try refine .inl ?_); apply k0; clear k0; simp only [zP, E])
  refine ae ?_
  refine ⟨_, _, ?_, aM [1, 3, 42, 43], k + 1, by omega, fun i hi => ?_, rfl, rfl⟩
  · omega
  · by_cases e : i = k
    · rw [e]; exact rJ hc32.1 hc32.2 fun a ha => hcells a (by omega)
    · exact hrows i (by omega)
 (try simp only [zB, reduceCtorEq] at hc26)
 refine bv ?_
 apply k21; clear k21; refine kp [1, 3, 42, 43, 44] ?_
 refine ab fun _ k48 => ?_
 refine af hP hN rfl ?_
 (refine aa rfl fun _ k0 => ?_; simp only [zO, zT, acs, reduceCtorEq, M, E, O, Z, Y, V, Mly.av]; (repeat refine an ?_); (try refine .inl ?_); apply k0; clear k0; simp only [zP, E])
 refine ae ?_
 apply k48; clear k48; refine kp [1, 2, 3, 42, 43, 44] ?_
 refine aq ?_
 refine ⟨nr, _, rfl, ?_⟩; simp only [zF, zP, M, E, Mly.av]
 refine VLE.of_eq ?_
 refine congrArg (fun n => AV.one (AC.int IntKind.i64 n)) ?_
 symm
 unfold br
 first
 | (rw [if_pos (by omega)]; done)
 | (rw [if_neg (by omega), if_pos (by omega)]; done)
 | (rw [if_neg (by omega), if_neg (by omega), if_pos (by omega)]; done)
 | (rw [if_neg (by omega), if_neg (by omega), if_neg (by omega), if_pos (by omega)]; done)
 | (rw [if_neg (by omega), if_neg (by omega), if_neg (by omega), if_neg (by omega), if_pos (by omega)]; done)
 | (rw [if_neg (by omega), if_neg (by omega), if_neg (by omega), if_neg (by omega), if_neg (by omega)]
    first
    | exact (bg hrows (by omega) (by rw [bC hc32.1 hc32.2 (j := j) (by omega) (by unfold aZ; omega)]; decide)).trans (bC hc32.1 hc32.2 (by omega) (by unfold aZ; omega))
    | exact (bg hrows (by omega) (by rw [bB hc32]; decide)).trans (bB hc32)
    | exact bP fun i hi => hrows i (by omega))
theorem sh (m : Mly) : bG Tryd.prog 21 [m.av] (.one (.list (.int .i64) (dN m))) := by
 refine aO Tryd.func21 rfl (by kernel_rfl) (Nat.le_of_ble_eq_true rfl) rfl fun C hP hN hB => ?_
 replace hN : C.N = 24 := hN
 simp only [aT, E]
 refine ab fun _ k1 => ?_
 refine af hP hN rfl ?_
 iterate 2 (refine aa rfl fun _ k0 => ?_; simp only [zO, zT, acs, reduceCtorEq, M, E, O, Z, Y, V, Mly.av]; (repeat refine an ?_); (try refine .inl ?_); apply k0; clear k0; simp only [zP, E])
 refine ae ?_
 apply k1; clear k1; refine kp [0, 1, 2] ?_
 refine ab fun _ k2 => ?_
 refine ab fun _ k3 => ?_
 refine af hP hN rfl ?_
 (refine aa rfl fun _ k0 => ?_; simp only [zO, zT, acs, reduceCtorEq, M, E, O, Z, Y, V, Mly.av]; (repeat refine an ?_); (try refine .inl ?_); apply k0; clear k0; simp only [zP, E])
 refine aa rfl fun _ k0 => ?_
 refine aw (h := aj (oH m)) rfl rfl (by first | exact rfl | (simp only [ev, zP, M, E]; exact rfl)) (by simp only [zV, acs, reduceCtorEq, M, E, O, Z, Y, V, Mly.av]) ?_
 apply k0; clear k0; simp only [zP, E]
 (refine aa rfl fun _ k0 => ?_; simp only [zO, zT, acs, reduceCtorEq, M, E, O, Z, Y, V, Mly.av]; (repeat refine an ?_); (try refine .inl ?_); apply k0; clear k0; simp only [zP, E])
 refine ae ?_
 apply k3; clear k3; refine kp [0, 1, 2, 8] ?_
 refine cd (fun hc4 => ?_) (fun hc4 => ?_)
 ·(try simp only [zB, reduceCtorEq] at hc4)
  refine ab fun _ k5 => ?_
  refine af hP hN rfl ?_
  (refine aa rfl fun _ k0 => ?_; simp only [zO, zT, acs, reduceCtorEq, M, E, O, Z, Y, V, Mly.av]; (repeat refine an ?_); (try refine .inl ?_); apply k0; clear k0; simp only [zP, E])
  refine ae ?_
  apply k5; clear k5; refine kp [0, 1, 2, 8] ?_
  refine aq ?_
  refine ⟨nr, _, rfl, ?_⟩; simp only [zF, zP, M, E, Mly.av]
  first
  | (rw [mC ‹¬br m = 0›]; exact oF (mv rfl))
  | (rw [fK hv]; exact VLE.of_eq rfl)
 (try simp only [zB, reduceCtorEq] at hc4)
 have hv : br m = 0 := by omega
 have hm := nj hv; have hol := hm.ol; have hi1 := hm.i1; have hi2 := hm.i2; have hn1 := hm.n1; have hn2 := hm.n2
 refine ax ?_
 apply k2; clear k2; refine kp [0, 1, 2, 8] ?_
 refine ab fun _ k6 => ?_
 refine af hP hN rfl ?_
 (refine aa rfl fun _ k0 => ?_; simp only [zO, zT, acs, reduceCtorEq, M, E, O, Z, Y, V, Mly.av]; (repeat refine an ?_); (try refine .inl ?_); apply k0; clear k0; simp only [zP, E])
 refine ae ?_
 apply k6; clear k6; refine kp [0, 1, 2, 3, 8] ?_
 refine ab fun _ k7 => ?_
 refine ab fun _ k8 => ?_
 refine af hP hN rfl ?_
 iterate 4 (refine aa rfl fun _ k0 => ?_; simp only [zO, zT, acs, reduceCtorEq, M, E, O, Z, Y, V, Mly.av]; (repeat refine an ?_); (try refine .inl ?_); apply k0; clear k0; simp only [zP, E])
 refine ae ?_
 apply k8; clear k8; refine kp [0, 1, 2, 3, 8, 10, 11, 12] ?_
 refine aD ?_
 refine o8 3 (.int .i64) 3 (by decide) rfl ?_; simp only [ak, ay, ah, am, Nat.zero_add, E]
 refine bu (fun n9 s9 => ∃ (s : Nat) (v : Nat), (s ≤ m.ot.length) ∧ n9 = m.ot.length - s ∧ s9 = { env := [(3, .one (.row 1 v)), (10, .one (.list (.list (.int .i64)) m.ot)), (11, .one (.int .i64 (m.ot.length : Int))), (12, .one (.int .i64 (s : Int)))], L := [.vars 27 [.int .i64 m.inp, .int .i64 m.st, .list (.list (.int .i64)) m.nx, .list (.list (.int .i64)) m.ot], .row (.int .i64) 3 v (m.ot.take s).flatten] }) ?_ ?_
 ·exact ⟨_, _, aM [3, 10, 11, 12], 0, 0, Nat.zero_le _, rfl, rfl⟩
 rintro n9 s9 ⟨s, v, hs, rfl, rfl⟩
 refine ab fun _ k10 => ?_
 refine af hP hN rfl ?_
 (refine aa rfl fun _ k0 => ?_; simp only [zO, zT, acs, reduceCtorEq, M, E, O, Z, Y, V, Mly.av]; (repeat refine an ?_); (try refine .inl ?_); apply k0; clear k0; simp only [zP, E])
 refine ae ?_
 apply k10; clear k10; refine kp [3, 10, 11, 12, 13] ?_
 refine ab fun _ k11 => ?_
 refine cd (fun hc12 => ?_) (fun hc12 => ?_)
 ·(try simp only [zB, reduceCtorEq] at hc12)
  refine ax ?_
  apply k11; clear k11; refine kp [3, 10, 11, 12, 13] ?_
  refine ab fun _ k13 => ?_
  refine aD ?_
  refine ab fun _ k14 => ?_
  refine af hP hN rfl ?_
  iterate 3 (refine aa rfl fun _ k0 => ?_; simp only [zO, zT, acs, reduceCtorEq, M, E, O, Z, Y, V, Mly.av]; (repeat refine an ?_); (try refine .inl ?_); apply k0; clear k0; simp only [zP, E])
  refine ae ?_
  apply k14; clear k14; refine kp [3, 5, 10, 11, 12, 13] ?_
  have hf2 := fG hm (k := s + 1) (by omega); have hf3 := fG hm (k := s) (by omega); rw [dM _ (by omega), ag] at hf2
  refine af hP hN rfl ?_
  iterate 4 (refine aa rfl fun _ k0 => ?_; simp only [zO, zT, acs, reduceCtorEq, M, E, O, Z, Y, V, Mly.av]; (repeat refine an ?_); (try refine .inl ?_); apply k0; clear k0; simp only [zP, E])
  refine ae ?_
  apply k13; clear k13; refine kp [3, 5, 10, 11, 12, 13] ?_
  refine af hP hN rfl ?_
  iterate 2 (refine aa rfl fun _ k0 => ?_; simp only [zO, zT, acs, reduceCtorEq, M, E, O, Z, Y, V, Mly.av]; (repeat refine an ?_); (try refine .inl ?_); apply k0; clear k0; simp only [zP, E])
  refine ae ?_
  refine ⟨_, _, ?_, aM [3, 10, 11, 12], s + 1, v + 1, by omega, rfl, ?_⟩
  · omega
  · rw [dM _ (by omega)]; rfl
 (try simp only [zB, reduceCtorEq] at hc12)
 refine bv ?_
 apply k7; clear k7; refine kp [3, 10, 11, 12, 13] ?_
 refine ab fun _ k15 => ?_
 have hsl : s = m.ot.length := by omega
 subst hsl
 rw [aE]
 have hf2 := fG hm (k := m.ot.length) (Nat.le_refl _); have hf3 := kb hm m.ot.length (Nat.le_refl _); rw [aE] at hf2 hf3
 have hp9 : (1 : Int) * 1 ≤ m.ot.length * m.inp := Int.mul_le_mul (by omega) (by omega) (by omega) (by omega)
 have hpos : 0 < m.ot.flatten.length := by omega
 refine af hP hN rfl ?_
 (refine aa rfl fun _ k0 => ?_; simp only [zO, zT, acs, reduceCtorEq, M, E, O, Z, Y, V, Mly.av]; (repeat refine an ?_); (try refine .inl ?_); apply k0; clear k0; simp only [zP, E])
 refine aa rfl fun _ k0 => ?_
 refine aw (h := p8 (k := 1) (ver := v) (xs := m.ot.flatten) sa rfl (by omega) (by omega)) rfl rfl (by first | exact rfl | (simp only [ev, zP, M, E]; exact rfl)) (by simp only [zV, acs, reduceCtorEq, M, E, O, Z, Y, V, Mly.av]) ?_
 apply k0; clear k0; simp only [zP, E]
 refine ae ?_
 apply k15; clear k15; refine kp [3, 10, 11, 12, 13] ?_
 refine ab fun _ k16 => ?_
 refine af hP hN rfl ?_
 (refine aa rfl fun _ k0 => ?_; simp only [zO, zT, acs, reduceCtorEq, M, E, O, Z, Y, V, Mly.av]; (repeat refine an ?_); (try refine .inl ?_); apply k0; clear k0; simp only [zP, E])
 refine aa rfl fun _ k0 => ?_
 refine aw (h := lK (k := 1) (ver := v) (xs := eL m.ot.flatten) o3 rfl (by rw [l9]; omega) (by rw [l9]; omega) ni) rfl rfl (by first | exact rfl | (simp only [ev, zP, M, E]; exact rfl)) (by simp only [zV, acs, reduceCtorEq, M, E, O, Z, Y, V, Mly.av]) ?_
 apply k0; clear k0; simp only [zP, E]
 (refine aa rfl fun _ k0 => ?_; simp only [zO, zT, acs, reduceCtorEq, M, E, O, Z, Y, V, Mly.av]; (repeat refine an ?_); (try refine .inl ?_); apply k0; clear k0; simp only [zP, E])
 refine ae ?_
 apply k16; clear k16; refine kp [2, 3, 10, 11, 12, 13] ?_
 refine aq ?_
 refine ⟨nr, _, rfl, ?_⟩; simp only [zF, zP, M, E, Mly.av]
 first
 | (rw [mC ‹¬br m = 0›]; exact oF (mv rfl))
 | (rw [fK hv]; exact VLE.of_eq rfl)
theorem gZ (x : Mdl) : bG Tryd.prog 10 [x.av] (.one (.int .i64 (mvE x))) := by
 refine aO Tryd.func10 rfl (by kernel_rfl) (Nat.le_of_ble_eq_true rfl) rfl fun C hP hN hB => ?_
 replace hN : C.N = 52 := hN
 simp only [aT, E]
 refine ab fun _ k1 => ?_
 refine af hP hN rfl ?_
 iterate 2 (refine aa rfl fun _ k0 => ?_; simp only [zO, zT, acs, reduceCtorEq, M, E, O, Z, Y, V, Mdl.av, Mdl.cs]; (repeat refine an ?_); (try refine .inl ?_); apply k0; clear k0; simp only [zP, E])
 refine ae ?_
 apply k1; clear k1; refine kp [0, 1, 2] ?_
 refine ab fun _ k2 => ?_
 refine ab fun _ k3 => ?_
 refine af hP hN rfl ?_
 iterate 2 (refine aa rfl fun _ k0 => ?_; simp only [zO, zT, acs, reduceCtorEq, M, E, O, Z, Y, V, Mdl.av, Mdl.cs]; (repeat refine an ?_); (try refine .inl ?_); apply k0; clear k0; simp only [zP, E])
 refine aa rfl fun _ k0 => ?_
 refine aw (h := aj (jX x.nm)) rfl rfl (by first | exact rfl | (simp only [ev, zP, M, E]; exact rfl)) (by simp only [zV, acs, reduceCtorEq, M, E, O, Z, Y, V, Mdl.av, Mdl.cs]) ?_
 apply k0; clear k0; simp only [zP, E]
 (refine aa rfl fun _ k0 => ?_; simp only [zO, zT, acs, reduceCtorEq, M, E, O, Z, Y, V, Mdl.av, Mdl.cs]; (repeat refine an ?_); (try refine .inl ?_); apply k0; clear k0; simp only [zP, E])
 refine ae ?_
 apply k3; clear k3; refine kp [0, 1, 2, 11] ?_
 refine cd (fun hc4 => ?_) (fun hc4 => ?_)
 ·(try simp only [zB, reduceCtorEq] at hc4)
  refine ab fun _ k5 => ?_
  refine af hP hN rfl ?_
  (refine aa rfl fun _ k0 => ?_; simp only [zO, zT, acs, reduceCtorEq, M, E, O, Z, Y, V, Mdl.av, Mdl.cs]; (repeat refine an ?_); (try refine .inl ?_); apply k0; clear k0; simp only [zP, E])
  refine ae ?_
  apply k5; clear k5; refine kp [0, 1, 2, 11] ?_
  refine aq ?_
  refine ⟨nr, _, rfl, ?_⟩; simp only [zF, zP, M, E, Mdl.av, Mdl.cs]
  refine VLE.of_eq ?_
  refine congrArg (fun n => AV.one (AC.int IntKind.i64 n)) ?_
  symm
  first
  | exact nB (by assumption)
  | exact nH (by assumption) (by omega) hq (by assumption)
  | (have hi0 : alE x.ins = 0 := hq 0 (by omega)
     have hi1 : alE x.outs = 0 := hq 1 (by omega)
     first
     | exact oO (by assumption) hi0 hi1 (by assumption)
     | exact oe (by assumption) hi0 hi1 (by assumption) (by omega)
     | exact m7 (by assumption) hi0 hi1 (by assumption) (by assumption))
 (try simp only [zB, reduceCtorEq] at hc4)
 refine ax ?_
 apply k2; clear k2; refine kp [0, 1, 2, 11] ?_
 refine ab fun _ k6 => ?_
 refine ab fun _ k7 => ?_
 refine af hP hN rfl ?_
 iterate 6 (refine aa rfl fun _ k0 => ?_; simp only [zO, zT, acs, reduceCtorEq, M, E, O, Z, Y, V, Mdl.av, Mdl.cs]; (repeat refine an ?_); (try refine .inl ?_); apply k0; clear k0; simp only [zP, E])
 refine ae ?_
 apply k7; clear k7; refine kp [0, 1, 2, 11, 16, 17] ?_
 refine aD ?_
 refine bu (fun n8 s8 => ∃ (k : Nat), (k ≤ 2) ∧ (∀ q, q < k → alE ([x.ins, x.outs].getD q []) = 0) ∧ n8 = 2 - k ∧ s8 = { env := [(1, .one (.ptr 0 0 0 0)), (2, .one (.int .i64 0)), (16, .agg [.list .str x.ins, .list .str x.outs]), (17, .one (.int .i64 (k : Int)))], L := [.vars 29 [.str x.nm, .list .str x.ins, .list .str x.outs, .int .i64 x.m.inp, .int .i64 x.m.st, .list (.list (.int .i64)) x.m.nx, .list (.list (.int .i64)) x.m.ot]] }) ?_ ?_
 ·exact ⟨_, _, aM [1, 2, 16, 17], 0, Nat.zero_le _, fun q hq => by omega, rfl, rfl⟩
 rintro n8 s8 ⟨k, hk, hq, rfl, rfl⟩
 refine ab fun _ k9 => ?_
 refine af hP hN rfl ?_
 (refine aa rfl fun _ k0 => ?_; simp only [zO, zT, acs, reduceCtorEq, M, E, O, Z, Y, V, Mdl.av, Mdl.cs]; (repeat refine an ?_); (try refine .inl ?_); apply k0; clear k0; simp only [zP, E])
 refine ae ?_
 apply k9; clear k9; refine kp [1, 2, 16, 17, 18] ?_
 refine ab fun _ k10 => ?_
 refine cd (fun hc11 => ?_) (fun hc11 => ?_)
 ·(try simp only [zB, reduceCtorEq] at hc11)
  refine ax ?_
  apply k10; clear k10; refine kp [1, 2, 16, 17, 18] ?_
  refine ab fun _ k12 => ?_
  refine aD ?_
  refine ab fun _ k13 => ?_
  have hk1 : k ≤ 1 := by omega
  have htk : List.take 1 (List.drop k [AC.list Ty.str x.ins, AC.list Ty.str x.outs]) = [AC.list Ty.str ([x.ins, x.outs].getD k [])] := by rcases (show k = 0 ∨ k = 1 by omega) with rfl | rfl <;> rfl
  refine af hP hN rfl ?_
  iterate 3 (refine aa rfl fun _ k0 => ?_; simp only [zO, zT, acs, reduceCtorEq, M, E, O, Z, Y, V, Mdl.av, Mdl.cs, hk1, if_true, htk]; (repeat refine an ?_); (try refine .inl ?_); apply k0; clear k0; simp only [zP, E])
  refine ae ?_
  apply k13; clear k13; refine kp [1, 2, 4, 16, 17, 18] ?_
  refine ab fun _ k14 => ?_
  refine af hP hN rfl ?_
  (refine aa rfl fun _ k0 => ?_; simp only [zO, zT, acs, reduceCtorEq, M, E, O, Z, Y, V, Mdl.av, Mdl.cs]; (repeat refine an ?_); (try refine .inl ?_); apply k0; clear k0; simp only [zP, E])
  refine aa rfl fun _ k0 => ?_
  refine aw (h := aj (gO ([x.ins, x.outs].getD k []))) rfl rfl (by first | exact rfl | (simp only [ev, zP, M, E]; exact rfl)) (by simp only [zV, acs, reduceCtorEq, M, E, O, Z, Y, V, Mdl.av, Mdl.cs]) ?_
  apply k0; clear k0; simp only [zP, E]
  (refine aa rfl fun _ k0 => ?_; simp only [zO, zT, acs, reduceCtorEq, M, E, O, Z, Y, V, Mdl.av, Mdl.cs]; (repeat refine an ?_); (try refine .inl ?_); apply k0; clear k0; simp only [zP, E])
  refine ae ?_
  apply k14; clear k14; refine kp [1, 2, 4, 5, 16, 17, 18] ?_
  refine ab fun _ k15 => ?_
  refine af hP hN rfl ?_
  iterate 2 (refine aa rfl fun _ k0 => ?_; simp only [zO, zT, acs, reduceCtorEq, M, E, O, Z, Y, V, Mdl.av, Mdl.cs]; (repeat refine an ?_); (try refine .inl ?_); apply k0; clear k0; simp only [zP, E])
  refine ae ?_
  apply k15; clear k15; refine kp [1, 2, 4, 5, 16, 17, 18, 23] ?_
  refine cd (fun hc16 => ?_) (fun hc16 => ?_)
  ·(try simp only [zB, reduceCtorEq] at hc16)
   refine ab fun _ k17 => ?_
   refine af hP hN rfl ?_
   iterate 2 (refine aa rfl fun _ k0 => ?_; simp only [zO, zT, acs, reduceCtorEq, M, E, O, Z, Y, V, Mdl.av, Mdl.cs]; (repeat refine an ?_); (try refine .inl ?_); apply k0; clear k0; simp only [zP, E])
   refine ae ?_
   apply k17; clear k17; refine kp [1, 2, 4, 5, 16, 17, 18, 23] ?_
   refine aq ?_
   refine ⟨nr, _, rfl, ?_⟩; simp only [zF, zP, M, E, Mdl.av, Mdl.cs]
   refine VLE.of_eq ?_
   refine congrArg (fun n => AV.one (AC.int IntKind.i64 n)) ?_
   symm
   first
   | exact nB (by assumption)
   | exact nH (by assumption) (by omega) hq (by assumption)
   | (have hi0 : alE x.ins = 0 := hq 0 (by omega)
      have hi1 : alE x.outs = 0 := hq 1 (by omega)
      first
      | exact oO (by assumption) hi0 hi1 (by assumption)
      | exact oe (by assumption) hi0 hi1 (by assumption) (by omega)
      | exact m7 (by assumption) hi0 hi1 (by assumption) (by assumption))
  (try simp only [zB, reduceCtorEq] at hc16)
  refine ax ?_
  apply k12; clear k12; refine kp [1, 2, 4, 5, 16, 17, 18, 23] ?_
  refine kp [1, 2, 16, 17] ?_
  refine re (L1 := [_]) rfl (by rw [hB]; exact Nat.zero_le _) rfl rfl ?_
  refine af hP hN rfl ?_
  iterate 2 (refine aa rfl fun _ k0 => ?_; simp only [zO, zT, acs, reduceCtorEq, M, E, O, Z, Y, V, Mdl.av, Mdl.cs]; (repeat refine an ?_); (try refine .inl ?_); apply k0; clear k0; simp only [zP, E])
  refine ae ?_
  refine ⟨_, _, ?_, aM [1, 2, 16, 17], k + 1, by omega, fun q hq2 => ?_, rfl, rfl⟩
  · omega
  · by_cases e : q = k
    · rw [e]; omega
    · exact hq q (by omega)
 (try simp only [zB, reduceCtorEq] at hc11)
 refine bv ?_
 apply k6; clear k6; refine kp [1, 2, 16, 17, 18] ?_
 refine ab fun _ k18 => ?_
 refine ab fun _ k19 => ?_
 refine af hP hN rfl ?_
 iterate 2 (refine aa rfl fun _ k0 => ?_; simp only [zO, zT, acs, reduceCtorEq, M, E, O, Z, Y, V, Mdl.av, Mdl.cs]; (repeat refine an ?_); (try refine .inl ?_); apply k0; clear k0; simp only [zP, E])
 refine aa rfl fun _ k0 => ?_
 refine aw (h := aj (oH x.m)) rfl rfl (by first | exact rfl | (simp only [ev, zP, M, E]; exact rfl)) (by simp only [zV, acs, reduceCtorEq, M, E, O, Z, Y, V, Mdl.av, Mdl.cs]) ?_
 apply k0; clear k0; simp only [zP, E]
 (refine aa rfl fun _ k0 => ?_; simp only [zO, zT, acs, reduceCtorEq, M, E, O, Z, Y, V, Mdl.av, Mdl.cs]; (repeat refine an ?_); (try refine .inl ?_); apply k0; clear k0; simp only [zP, E])
 refine ae ?_
 apply k19; clear k19; refine kp [1, 2, 6, 16, 17, 18] ?_
 refine ab fun _ k20 => ?_
 refine af hP hN rfl ?_
 iterate 2 (refine aa rfl fun _ k0 => ?_; simp only [zO, zT, acs, reduceCtorEq, M, E, O, Z, Y, V, Mdl.av, Mdl.cs]; (repeat refine an ?_); (try refine .inl ?_); apply k0; clear k0; simp only [zP, E])
 refine ae ?_
 apply k20; clear k20; refine kp [1, 2, 6, 16, 17, 18, 30] ?_
 refine cd (fun hc21 => ?_) (fun hc21 => ?_)
 ·(try simp only [zB, reduceCtorEq] at hc21)
  refine ab fun _ k22 => ?_
  refine af hP hN rfl ?_
  iterate 2 (refine aa rfl fun _ k0 => ?_; simp only [zO, zT, acs, reduceCtorEq, M, E, O, Z, Y, V, Mdl.av, Mdl.cs]; (repeat refine an ?_); (try refine .inl ?_); apply k0; clear k0; simp only [zP, E])
  refine ae ?_
  apply k22; clear k22; refine kp [1, 2, 6, 16, 17, 18, 30] ?_
  refine aq ?_
  refine ⟨nr, _, rfl, ?_⟩; simp only [zF, zP, M, E, Mdl.av, Mdl.cs]
  refine VLE.of_eq ?_
  refine congrArg (fun n => AV.one (AC.int IntKind.i64 n)) ?_
  symm
  first
  | exact nB (by assumption)
  | exact nH (by assumption) (by omega) hq (by assumption)
  | (have hi0 : alE x.ins = 0 := hq 0 (by omega)
     have hi1 : alE x.outs = 0 := hq 1 (by omega)
     first
     | exact oO (by assumption) hi0 hi1 (by assumption)
     | exact oe (by assumption) hi0 hi1 (by assumption) (by omega)
     | exact m7 (by assumption) hi0 hi1 (by assumption) (by assumption))
 (try simp only [zB, reduceCtorEq] at hc21)
 refine ax ?_
 apply k18; clear k18; refine kp [1, 2, 6, 16, 17, 18, 30] ?_
 refine ab fun _ k23 => ?_
 refine af hP hN rfl ?_
 iterate 2 (refine aa rfl fun _ k0 => ?_; simp only [zO, zT, acs, reduceCtorEq, M, E, O, Z, Y, V, Mdl.av, Mdl.cs]; (repeat refine an ?_); (try refine .inl ?_); apply k0; clear k0; simp only [zP, E])
 refine aa rfl fun _ k0 => ?_
 refine aw (h := aj (sh x.m)) rfl rfl (by first | exact rfl | (simp only [ev, zP, M, E]; exact rfl)) (by simp only [zV, acs, reduceCtorEq, M, E, O, Z, Y, V, Mdl.av, Mdl.cs]) ?_
 apply k0; clear k0; simp only [zP, E]
 (refine aa rfl fun _ k0 => ?_; simp only [zO, zT, acs, reduceCtorEq, M, E, O, Z, Y, V, Mdl.av, Mdl.cs]; (repeat refine an ?_); (try refine .inl ?_); apply k0; clear k0; simp only [zP, E])
 refine ae ?_
 apply k23; clear k23; refine kp [1, 2, 6, 7, 16, 17, 18, 30] ?_
 refine ab fun _ k24 => ?_
 refine ab fun _ k25 => ?_
 refine ct hP hN Tryd.mixed rfl ?_
 iterate 9 (refine aa rfl fun _ k0 => ?_; simp only [zO, zT, acs, reduceCtorEq, M, E, O, Z, Y, V, Mdl.av, Mdl.cs]; (repeat refine an ?_); (try refine .inl ?_); apply k0; clear k0; simp only [zP, E])
 refine' ar (want := false) 7 rfl (m := 43) (by simp only [zP, M, E]; exact rfl) (by kernel_rfl) rfl rfl rfl rfl rfl (fun hg26 => ?a26) ?b26 ?c26
 case a26 =>
  have hq26 := hg26; (try simp only [zB, reduceCtorEq] at hg26); simp only [zE]
  (refine aK rfl fun _ k0 => ?_; simp only [zO, zT, acs, reduceCtorEq, M, E, O, Z, Y, V, Mdl.av, Mdl.cs]; (repeat refine an ?_); (try refine .inl ?_); apply k0; clear k0; simp only [zP, E])
  refine aK rfl fun _ k0 => ?_
  refine aw (h := aj (sH (dN x.m) (sQ (by omega)))) rfl rfl (by first | exact rfl | (simp only [ev, zP, M, E]; exact rfl)) (by simp only [zV, acs, reduceCtorEq, M, E, O, Z, Y, V, Mdl.av, Mdl.cs]) ?_
  apply k0; clear k0; simp only [zP, E]
  iterate 5 (refine aK rfl fun _ k0 => ?_; simp only [zO, zT, acs, reduceCtorEq, M, E, O, Z, Y, V, Mdl.av, Mdl.cs]; (repeat refine an ?_); (try refine .inl ?_); apply k0; clear k0; simp only [zP, E])
  (refine aa rfl fun _ k0 => ?_; simp only [zO, zT, acs, reduceCtorEq, M, E, O, Z, Y, V, Mdl.av, Mdl.cs]; (repeat refine an ?_); (try refine .inl ?_); apply k0; clear k0; simp only [zP, E])
  refine ae ?_
  refine ⟨by simp only [zP, M, E]; exact rfl, rfl, ?_, rfl⟩; (repeat refine au rfl ?_); exact aL (by exact rfl) hq26
 case b26 => exact bb
 simp only [aF, az]
 refine ae ?_
 refine ⟨by kernel_rfl, ?_⟩
 apply k25; clear k25; refine kp [1, 2, 6, 7, 16, 17, 18, 30, 51] ?_
 refine cd (fun hc27 => ?_) (fun hc27 => ?_)
 ·(try simp only [zB, reduceCtorEq] at hc27)
  refine ab fun _ k28 => ?_
  refine af hP hN rfl ?_
  (refine aa rfl fun _ k0 => ?_; simp only [zO, zT, acs, reduceCtorEq, M, E, O, Z, Y, V, Mdl.av, Mdl.cs]; (repeat refine an ?_); (try refine .inl ?_); apply k0; clear k0; simp only [zP, E])
  refine ae ?_
  apply k28; clear k28; refine kp [1, 2, 6, 7, 16, 17, 18, 30, 51] ?_
  refine aq ?_
  refine ⟨nr, _, rfl, ?_⟩; simp only [zF, zP, M, E, Mdl.av, Mdl.cs]
  refine VLE.of_eq ?_
  refine congrArg (fun n => AV.one (AC.int IntKind.i64 n)) ?_
  symm
  first
  | exact nB (by assumption)
  | exact nH (by assumption) (by omega) hq (by assumption)
  | (have hi0 : alE x.ins = 0 := hq 0 (by omega)
     have hi1 : alE x.outs = 0 := hq 1 (by omega)
     first
     | exact oO (by assumption) hi0 hi1 (by assumption)
     | exact oe (by assumption) hi0 hi1 (by assumption) (by omega)
     | exact m7 (by assumption) hi0 hi1 (by assumption) (by assumption))
 (try simp only [zB, reduceCtorEq] at hc27)
 refine ax ?_
 apply k24; clear k24; refine kp [1, 2, 6, 7, 16, 17, 18, 30, 51] ?_
 refine ab fun _ k29 => ?_
 refine af hP hN rfl ?_
 (refine aa rfl fun _ k0 => ?_; simp only [zO, zT, acs, reduceCtorEq, M, E, O, Z, Y, V, Mdl.av, Mdl.cs]; (repeat refine an ?_); (try refine .inl ?_); apply k0; clear k0; simp only [zP, E])
 refine ae ?_
 apply k29; clear k29; refine kp [1, 2, 6, 7, 16, 17, 18, 30, 51] ?_
 refine aq ?_
 refine ⟨nr, _, rfl, ?_⟩; simp only [zF, zP, M, E, Mdl.av, Mdl.cs]
 refine VLE.of_eq ?_
 refine congrArg (fun n => AV.one (AC.int IntKind.i64 n)) ?_
 symm
 first
 | exact nB (by assumption)
 | exact nH (by assumption) (by omega) hq (by assumption)
 | (have hi0 : alE x.ins = 0 := hq 0 (by omega)
    have hi1 : alE x.outs = 0 := hq 1 (by omega)
    first
    | exact oO (by assumption) hi0 hi1 (by assumption)
    | exact oe (by assumption) hi0 hi1 (by assumption) (by omega)
    | exact m7 (by assumption) hi0 hi1 (by assumption) (by assumption))
open Go.Shelf in
def Tryd.lays156_ren : Go.Shelf.Ren := ⟨fun | 156 => 17 | 165 => 28 | 166 => 29 | 169 => 30 | 240 => 43 | 241 => 44 | 276 => 55 | 277 => 56 | n => n, fun | 31 => 22 | 9 => 9 | 3 => 3 | 4 => 4 | 0 => 0 | 20 => 20 | 72 => 66 | 76 => 70 | 70 => 63 | 37 => 64 | 75 => 69 | 127 => 84 | 164 => 95 | 5 => 5 | 80 => 72 | n => n, fun | n => n⟩
theorem Tryd.lays156 : Go.Proofs.Lays.n156 Tryd.prog Tryd.lays156_ren := {
  mixed := by kernel_rfl,
  f156 := Tryd.func17.trans (congrArg some (by kernel_rfl)),
  f165 := Tryd.func28.trans (congrArg some (by kernel_rfl)),
  f166 := Tryd.func29.trans (congrArg some (by kernel_rfl)),
  f169 := Tryd.func30.trans (congrArg some (by kernel_rfl)),
  f240 := Tryd.func43.trans (congrArg some (by kernel_rfl)),
  f241 := Tryd.func44.trans (congrArg some (by kernel_rfl)),
  f276 := Tryd.func55.trans (congrArg some (by kernel_rfl)),
  f277 := Tryd.func56.trans (congrArg some (by kernel_rfl)),
  t0 := Tryd.underlying0,
  a0 := Tryd.isAgg0,
  z0 := Tryd.sizeOf0,
  v0 := Tryd.zeroValue0,
  t3 := Tryd.underlying3,
  a3 := Tryd.isAgg3,
  z3 := Tryd.sizeOf3,
  v3 := Tryd.zeroValue3,
  t4 := Tryd.underlying4,
  a4 := Tryd.isAgg4,
  z4 := Tryd.sizeOf4,
  v4 := Tryd.zeroValue4,
  t9 := Tryd.underlying9,
  a9 := Tryd.isAgg9,
  z9 := Tryd.sizeOf9,
  v9 := Tryd.zeroValue9,
  t20 := Tryd.underlying20,
  a20 := Tryd.isAgg20,
  z20 := Tryd.sizeOf20,
  v20 := Tryd.zeroValue20,
  t31 := Tryd.underlying22,
  a31 := Tryd.isAgg22,
  z31 := Tryd.sizeOf22,
  v31 := Tryd.zeroValue22,
  t37 := Tryd.underlying64,
  a37 := Tryd.isAgg64,
  z37 := Tryd.sizeOf64,
  v37 := Tryd.zeroValue64,
  t70 := Tryd.underlying63,
  a70 := Tryd.isAgg63,
  z70 := Tryd.sizeOf63,
  v70 := Tryd.zeroValue63,
  t72 := Tryd.underlying66,
  a72 := Tryd.isAgg66,
  z72 := Tryd.sizeOf66,
  v72 := Tryd.zeroValue66,
  t75 := Tryd.underlying69,
  a75 := Tryd.isAgg69,
  z75 := Tryd.sizeOf69,
  v75 := Tryd.zeroValue69,
  t76 := Tryd.underlying70,
  a76 := Tryd.isAgg70,
  z76 := Tryd.sizeOf70,
  v76 := Tryd.zeroValue70,
  t127 := Tryd.underlying84,
  a127 := Tryd.isAgg84,
  z127 := Tryd.sizeOf84,
  v127 := Tryd.zeroValue84,
  t164 := Tryd.underlying95,
  a164 := Tryd.isAgg95,
  z164 := Tryd.sizeOf95,
  v164 := Tryd.zeroValue95 }
theorem nP : Builder.Extra Tryd.prog Tryd.lays156_ren where
  sizeBuilder := by kernel_rfl
  liesBuilder := by kernel_rfl
  t5 := Tryd.underlying5
  a5 := Tryd.isAgg5
  z5 := Tryd.sizeOf5
  v5 := Tryd.zeroValue5
  infoByte := by kernel_rfl
  cellsByte := by kernel_rfl
  sizeByte := by kernel_rfl
  neB5 := by decide
theorem fe (xs : List (List UInt8)) (sep : List UInt8) (h1 : xs.length ≤ 140737488355328) (h2 : (Lib.join xs sep).length ≤ 140737488355328) : bG Tryd.prog 17 [.one (.list .str xs), .one (.str sep)] (.one (.str (Lib.join xs sep))) := by
  refine ⟨⟨Tryd.f17, Tryd.func17, by kernel_rfl, by kernel_rfl⟩, fun C L σ w vs hP hi ha => ?_⟩
  cases vs with
  | nil => exact ha.elim
  | cons v vs =>
  cases vs with
  | nil => exact ha.2.elim
  | cons v2 vs =>
  cases vs with
  | cons _ _ => exact ha.2.2.elim
  | nil =>
  obtain ⟨hv, hv2, _⟩ := ha
  have e2 : v2 = .string ⟨sep.toArray⟩ := hv2.2
  subst e2
  have hd : Dat (avd C L σ) w (.list .str) xs [v] := hv.2
  obtain ⟨A, c, e1, hc, _, hel⟩ := hd
  obtain ⟨rfl, _⟩ := List.cons.inj e1
  cases xs with
  | nil => 
    refine Calls.mono (Any.strings_Join_none Tryd.lays156 nP A c ⟨sep.toArray⟩ w) fun e w' hh => ?_
    obtain ⟨e3, rfl⟩ := hh
    exact ⟨_, e3, MORE.refl _, rfl, by rw [Lib.join_nil]; rfl⟩
  | cons x xs =>
    obtain ⟨b, o, rfl, _, hb, hcl⟩ := hel (Nat.succ_pos _)
    have hm : ∀ l : List (List UInt8), (l.map fun x => (⟨x.toArray⟩ : ByteArray)).map (·.data.toList) = l := fun l => by
      rw [List.map_map]
      exact (List.map_congr_left fun a _ => rfl).trans (List.map_id l)
    have h := Any.strings_Join Tryd.lays156 nP b o c ((x :: xs).map fun x => (⟨x.toArray⟩ : ByteArray)) ⟨sep.toArray⟩ w (fun j y hj => by
      rw [List.getElem?_map] at hj
      obtain ⟨z, hz, rfl⟩ := Option.map_eq_some_iff.1 hj
      have hlt := (List.getElem?_eq_some_iff.1 hz).1
      obtain ⟨cs', l1, l2, l3⟩ := hcl j hlt
      have l4 := l2 0 (by decide)
      have e5 : cs' = [.string ⟨(List.getD (x :: xs) j []).toArray⟩] := l3
      rw [e5] at l4
      have e6 : List.getD (x :: xs) j [] = z := by simp [List.getD, hz]
      rw [e6] at l4
      have e7 : o + j * Ty.str.size + 0 = o + j := by show o + j * 1 + 0 = o + j; omega
      rw [e7] at l4
      exact l4) hb (by rw [bV]; exact h1) (by rw [bV]; exact hc) (by rw [hm]; exact h2)
    rw [hm, bV] at h
    refine Calls.mono h fun e w' hh => ?_
    obtain ⟨e3, hw⟩ := hh
    exact ⟨_, e3, ⟨hw.size, hw.os, hw.tape, hw.output, hw.block⟩, rfl, rfl⟩
set_option maxHeartbeats 2000000 in
theorem jd (x : Mdl) (hb : mvE x = 0 → x.m.nx.length ≤ 100) : bG Tryd.prog 9 [x.av] (.tup [.one (.str (SM x)), .one (.int .i64 (mvE x))]) := by
 refine aO Tryd.func9 rfl (by kernel_rfl) (Nat.le_of_ble_eq_true rfl) rfl fun C hP hN hB => ?_
 replace hN : C.N = 110 := hN
 simp only [aT, E]
 refine ab fun _ k1 => ?_
 refine af hP hN rfl ?_
 iterate 3 (refine aa rfl fun _ k0 => ?_; simp only [zO, zT, acs, reduceCtorEq, M, E, O, Z, Y, V, Mdl.av, Mdl.cs]; (repeat refine an ?_); (try refine .inl ?_); apply k0; clear k0; simp only [zP, E])
 refine ae ?_
 apply k1; clear k1; refine kp [0, 1, 2, 3] ?_
 refine ab fun _ k2 => ?_
 refine ab fun _ k3 => ?_
 refine af hP hN rfl ?_
 (refine aa rfl fun _ k0 => ?_; simp only [zO, zT, acs, reduceCtorEq, M, E, O, Z, Y, V, Mdl.av, Mdl.cs]; (repeat refine an ?_); (try refine .inl ?_); apply k0; clear k0; simp only [zP, E])
 refine aa rfl fun _ k0 => ?_
 refine aw (h := aj (gZ x)) rfl rfl (by first | exact rfl | (simp only [ev, zP, M, E]; exact rfl)) (by simp only [zV, acs, reduceCtorEq, M, E, O, Z, Y, V, Mdl.av, Mdl.cs]) ?_
 apply k0; clear k0; simp only [zP, E]
 (refine aa rfl fun _ k0 => ?_; simp only [zO, zT, acs, reduceCtorEq, M, E, O, Z, Y, V, Mdl.av, Mdl.cs]; (repeat refine an ?_); (try refine .inl ?_); apply k0; clear k0; simp only [zP, E])
 refine ae ?_
 apply k3; clear k3; refine kp [0, 1, 2, 3, 4] ?_
 refine ab fun _ k4 => ?_
 refine af hP hN rfl ?_
 iterate 2 (refine aa rfl fun _ k0 => ?_; simp only [zO, zT, acs, reduceCtorEq, M, E, O, Z, Y, V, Mdl.av, Mdl.cs]; (repeat refine an ?_); (try refine .inl ?_); apply k0; clear k0; simp only [zP, E])
 refine ae ?_
 apply k4; clear k4; refine kp [0, 1, 2, 3, 4, 15] ?_
 refine cd (fun hc5 => ?_) (fun hc5 => ?_)
 ·(try simp only [zB, reduceCtorEq] at hc5)
  refine ab fun _ k6 => ?_
  refine af hP hN rfl ?_
  iterate 3 (refine aa rfl fun _ k0 => ?_; simp only [zO, zT, acs, reduceCtorEq, M, E, O, Z, Y, V, Mdl.av, Mdl.cs]; (repeat refine an ?_); (try refine .inl ?_); apply k0; clear k0; simp only [zP, E])
  refine ae ?_
  apply k6; clear k6; refine kp [0, 1, 2, 3, 4, 15] ?_
  refine aq ?_
  refine ⟨nr, _, rfl, ?_⟩; simp only [zF, zP, M, E, Mdl.av, Mdl.cs]
  refine VLE.of_eq ?_
  first | (rw [ib (by assumption)]; done) | (rw [kH (by assumption), ‹mvE x = 0›]; done)
 (try simp only [zB, reduceCtorEq] at hc5)
 have hv0 : mvE x = 0 := by omega
 have hv := jZ hv0; have hm := hv.mo; have hb := hb hv0
 have hol := hm.ol; have hi1 := hm.i1; have hi2 := hm.i2; have hn1 := hm.n1; have hn2 := hm.n2; have hs1 := hm.s1; have hs2 := hm.s2; have hil := hv.il; have hon := hv.ao.n1
 refine ax ?_
 apply k2; clear k2; refine kp [0, 1, 2, 3, 4, 15] ?_
 refine ab fun _ k7 => ?_
 refine af hP hN rfl ?_
 (refine aa rfl fun _ k0 => ?_; simp only [zO, zT, acs, reduceCtorEq, M, E, O, Z, Y, V, Mdl.av, Mdl.cs]; (repeat refine an ?_); (try refine .inl ?_); apply k0; clear k0; simp only [zP, E])
 refine ae ?_
 apply k7; clear k7; refine kp [0, 1, 2, 3, 4, 5, 15] ?_
 refine ab fun _ k8 => ?_
 refine ab fun _ k9 => ?_
 refine af hP hN rfl ?_
 iterate 5 (refine aa rfl fun _ k0 => ?_; simp only [zO, zT, acs, reduceCtorEq, M, E, O, Z, Y, V, Mdl.av, Mdl.cs]; (repeat refine an ?_); (try refine .inl ?_); apply k0; clear k0; simp only [zP, E])
 refine ae ?_
 apply k9; clear k9; refine kp [0, 1, 2, 3, 4, 5, 15, 20, 21] ?_
 refine aD ?_
 refine o8 5 .str 9 (by decide) rfl ?_; simp only [ak, ay, ah, am, Nat.zero_add, E]
 refine bu (fun n10 s10 => ∃ (k : Nat) (u : Nat), (k ≤ x.m.nx.length) ∧ n10 = x.m.nx.length - k ∧ s10 = { env := [(1, .one (.ptr 0 0 0 0)), (2, .one (.str [])), (3, .one (.int .i64 0)), (5, .one (.row 1 u)), (20, .one (.int .i64 (x.m.nx.length : Int))), (21, .one (.int .i64 (k : Int)))], L := [.vars 29 [.str x.nm, .list .str x.ins, .list .str x.outs, .int .i64 x.m.inp, .int .i64 x.m.st, .list (.list (.int .i64)) x.m.nx, .list (.list (.int .i64)) x.m.ot], .row .str 9 u (qs k)] }) ?_ ?_
 ·exact ⟨_, _, aM [1, 2, 3, 5, 20, 21], 0, 0, Nat.zero_le _, rfl, rfl⟩
 rintro n10 s10 ⟨k, u, hk, rfl, rfl⟩
 refine ab fun _ k11 => ?_
 refine af hP hN rfl ?_
 (refine aa rfl fun _ k0 => ?_; simp only [zO, zT, acs, reduceCtorEq, M, E, O, Z, Y, V, Mdl.av, Mdl.cs]; (repeat refine an ?_); (try refine .inl ?_); apply k0; clear k0; simp only [zP, E])
 refine ae ?_
 apply k11; clear k11; refine kp [1, 2, 3, 5, 20, 21, 22] ?_
 refine ab fun _ k12 => ?_
 refine cd (fun hc13 => ?_) (fun hc13 => ?_)
 ·(try simp only [zB, reduceCtorEq] at hc13)
  refine ax ?_
  apply k12; clear k12; refine kp [1, 2, 3, 5, 20, 21, 22] ?_
  refine ab fun _ k14 => ?_
  refine aD ?_
  refine ab fun _ k15 => ?_
  refine af hP hN rfl ?_
  iterate 2 (refine aa rfl fun _ k0 => ?_; simp only [zO, zT, acs, reduceCtorEq, M, E, O, Z, Y, V, Mdl.av, Mdl.cs]; (repeat refine an ?_); (try refine .inl ?_); apply k0; clear k0; simp only [zP, E])
  refine ae ?_
  apply k15; clear k15; refine kp [1, 2, 3, 5, 6, 20, 21, 22] ?_
  refine af hP hN rfl ?_
  iterate 2 (refine aa rfl fun _ k0 => ?_; simp only [zO, zT, acs, reduceCtorEq, M, E, O, Z, Y, V, Mdl.av, Mdl.cs, cq]; (repeat refine an ?_); (try refine .inl ?_); apply k0; clear k0; simp only [zP, E])
  refine aa rfl fun _ k0 => ?_
  refine aw (h := aj (kG (k : Int) (by omega) (by omega))) rfl rfl (by first | exact rfl | (simp only [ev, zP, M, E]; exact rfl)) (by simp only [zV, acs, reduceCtorEq, M, E, O, Z, Y, V, Mdl.av, Mdl.cs, cq]) ?_
  apply k0; clear k0; simp only [zP, E]
  iterate 3 (refine aa rfl fun _ k0 => ?_; simp only [zO, zT, acs, reduceCtorEq, M, E, O, Z, Y, V, Mdl.av, Mdl.cs, cq]; (repeat refine an ?_); (try refine .inl ?_); apply k0; clear k0; simp only [zP, E])
  refine ae ?_
  apply k14; clear k14; refine kp [1, 2, 3, 5, 6, 20, 21, 22] ?_
  refine af hP hN rfl ?_
  iterate 2 (refine aa rfl fun _ k0 => ?_; simp only [zO, zT, acs, reduceCtorEq, M, E, O, Z, Y, V, Mdl.av, Mdl.cs]; (repeat refine an ?_); (try refine .inl ?_); apply k0; clear k0; simp only [zP, E])
  refine ae ?_
  refine ⟨_, _, ?_, aM [1, 2, 3, 5, 20, 21], k + 1, u + 1, by omega, rfl, by rw [rO]; rfl⟩
  omega
 (try simp only [zB, reduceCtorEq] at hc13)
 refine bv ?_
 apply k8; clear k8; refine kp [1, 2, 3, 5, 20, 21, 22] ?_
 refine ab fun _ k16 => ?_
 obtain rfl : k = x.m.nx.length := by omega
 refine jg 1 rfl ?_; simp only [aU, bE, zS, M, and_self, and_true, true_and, and_false, false_and, if_true, if_false, eq_self, reduceCtorEq, Nat.one_ne_zero, Nat.zero_ne_one]
 refine qu ?_; simp only [ah, List.append_assoc, am]
 have hj1 := fY hv ([105, 110, 112, 117, 116, 115, 32] ++ Lib.join x.ins [32]) (by simp [hdT])
 have hj2 := fY hv ([111, 117, 116, 112, 117, 116, 115, 32] ++ Lib.join x.outs [32]) (by simp [hdT])
 have hj3 := fY hv ([115, 116, 97, 116, 101, 115, 32] ++ Lib.join (qs x.m.nx.length) [32]) (by simp [hdT])
 have hj4 := fY hv ([115, 116, 97, 114, 116, 32] ++ qn x.m.st.toNat) (by simp [hdT])
 have hj5 := (d7 hv.nm).2.2
 have hj6 := cq x.m.nx.length
 simp only [ag, ak, ay] at hj1 hj2 hj3 hj4
 refine ct hP hN Tryd.mixed rfl ?_
 iterate 6 (refine aa rfl fun _ k0 => ?_; simp only [zO, zT, acs, reduceCtorEq, M, E, O, Z, Y, V, Mdl.av, Mdl.cs, ag, ak, ay]; (repeat refine an ?_); (try refine .inl ?_); apply k0; clear k0; simp only [zP, E])
 refine aa rfl fun _ k0 => ?_
 refine aw (h := aj (fe x.ins [32] (by omega) (by omega))) rfl rfl (by first | exact rfl | (simp only [ev, zP, M, E]; exact rfl)) (by simp only [zV, acs, reduceCtorEq, M, E, O, Z, Y, V, Mdl.av, Mdl.cs, ag, ak, ay]) ?_
 apply k0; clear k0; simp only [zP, E]
 iterate 4 (refine aa rfl fun _ k0 => ?_; simp only [zO, zT, acs, reduceCtorEq, M, E, O, Z, Y, V, Mdl.av, Mdl.cs, ag, ak, ay]; (repeat refine an ?_); (try refine .inl ?_); apply k0; clear k0; simp only [zP, E])
 refine aa rfl fun _ k0 => ?_
 refine aw (h := aj (fe x.outs [32] (by omega) (by omega))) rfl rfl (by first | exact rfl | (simp only [ev, zP, M, E]; exact rfl)) (by simp only [zV, acs, reduceCtorEq, M, E, O, Z, Y, V, Mdl.av, Mdl.cs, ag, ak, ay]) ?_
 apply k0; clear k0; simp only [zP, E]
 iterate 2 (refine aa rfl fun _ k0 => ?_; simp only [zO, zT, acs, reduceCtorEq, M, E, O, Z, Y, V, Mdl.av, Mdl.cs, ag, ak, ay]; (repeat refine an ?_); (try refine .inl ?_); apply k0; clear k0; simp only [zP, E])
 refine aa rfl fun _ k0 => ?_
 refine aw (h := aj (fe (qs x.m.nx.length) [32] (by omega) (by omega))) rfl rfl (by first | exact rfl | (simp only [ev, zP, M, E]; exact rfl)) (by simp only [zV, acs, reduceCtorEq, M, E, O, Z, Y, V, Mdl.av, Mdl.cs, ag, ak, ay]) ?_
 apply k0; clear k0; simp only [zP, E]
 iterate 4 (refine aa rfl fun _ k0 => ?_; simp only [zO, zT, acs, reduceCtorEq, M, E, O, Z, Y, V, Mdl.av, Mdl.cs, ag, ak, ay]; (repeat refine an ?_); (try refine .inl ?_); apply k0; clear k0; simp only [zP, E])
 refine aa rfl fun _ k0 => ?_
 refine aw (h := aj (kG x.m.st (by omega) (by omega))) rfl rfl (by first | exact rfl | (simp only [ev, zP, M, E]; exact rfl)) (by simp only [zV, acs, reduceCtorEq, M, E, O, Z, Y, V, Mdl.av, Mdl.cs, ag, ak, ay]) ?_
 apply k0; clear k0; simp only [zP, E]
 (refine aa rfl fun _ k0 => ?_; simp only [zO, zT, acs, reduceCtorEq, M, E, O, Z, Y, V, Mdl.av, Mdl.cs, ag, ak, ay]; (repeat refine an ?_); (try refine .inl ?_); apply k0; clear k0; simp only [zP, E])
 (refine aa rfl fun _ k0 => ?_; simp only [zO, zT, acs, reduceCtorEq, M, E, O, Z, Y, V, Mdl.av, Mdl.cs, ag, ak, ay]; (repeat refine an ?_); refine Or.inr (Or.inr (Or.inl ⟨2, by exact rfl, ?_⟩)); refine k0 _ ?_; clear k0; simp only [zP, E])
 (refine aa rfl fun _ k0 => ?_; simp only [zO, zT, acs, reduceCtorEq, M, E, O, Z, Y, V, Mdl.av, Mdl.cs, ag, ak, ay]; (repeat refine an ?_); (try refine .inl ?_); apply k0; clear k0; simp only [zP, E])
 refine ae ?_
 refine ⟨by kernel_rfl, ?_⟩
 apply k16; clear k16; refine kp [1, 2, 3, 5, 7, 20, 21, 22] ?_
 refine ab fun _ k17 => ?_
 refine ab fun _ k18 => ?_
 refine af hP hN rfl ?_
 iterate 5 (refine aa rfl fun _ k0 => ?_; simp only [zO, zT, acs, reduceCtorEq, M, E, O, Z, Y, V, Mdl.av, Mdl.cs]; (repeat refine an ?_); (try refine .inl ?_); apply k0; clear k0; simp only [zP, E])
 refine ae ?_
 apply k18; clear k18; refine kp [1, 2, 3, 5, 7, 20, 21, 22, 54, 55, 56] ?_
 refine aD ?_
 refine bu (fun n19 s19 => ∃ (s : Nat) (v : Nat), (s ≤ x.m.nx.length) ∧ n19 = x.m.nx.length - s ∧ s19 = { env := [(1, .one (.ptr 0 0 0 0)), (2, .one (.str [])), (3, .one (.int .i64 0)), (5, .one (.list .str (qs x.m.nx.length))), (7, .one (.row 2 v)), (54, .one (.list (.list (.int .i64)) x.m.nx)), (55, .one (.int .i64 (x.m.nx.length : Int))), (56, .one (.int .i64 (s : Int)))], L := [.vars 29 [.str x.nm, .list .str x.ins, .list .str x.outs, .int .i64 x.m.inp, .int .i64 x.m.st, .list (.list (.int .i64)) x.m.nx, .list (.list (.int .i64)) x.m.ot], .dead u, .row .str 9 v (hdT x ++ dv x s)] }) ?_ ?_
 ·exact ⟨_, _, aM [1, 2, 3, 5, 7, 54, 55, 56], 0, 1, Nat.zero_le _, rfl, by simp only [dv, List.range_zero, bE, List.flatten_nil, List.append_nil]; rfl⟩
 rintro n19 s19 ⟨s, v, hs, rfl, rfl⟩
 refine ab fun _ k20 => ?_
 refine af hP hN rfl ?_
 (refine aa rfl fun _ k0 => ?_; simp only [zO, zT, acs, reduceCtorEq, M, E, O, Z, Y, V, Mdl.av, Mdl.cs]; (repeat refine an ?_); (try refine .inl ?_); apply k0; clear k0; simp only [zP, E])
 refine ae ?_
 apply k20; clear k20; refine kp [1, 2, 3, 5, 7, 54, 55, 56, 57] ?_
 refine ab fun _ k21 => ?_
 refine cd (fun hc22 => ?_) (fun hc22 => ?_)
 ·(try simp only [zB, reduceCtorEq] at hc22)
  refine ax ?_
  apply k21; clear k21; refine kp [1, 2, 3, 5, 7, 54, 55, 56, 57] ?_
  refine ab fun _ k23 => ?_
  refine aD ?_
  refine ab fun _ k24 => ?_
  have hrl := hm.rl s (by omega)
  refine af hP hN rfl ?_
  iterate 5 (refine aa rfl fun _ k0 => ?_; simp only [zO, zT, acs, reduceCtorEq, M, E, O, Z, Y, V, Mdl.av, Mdl.cs]; (repeat refine an ?_); (try refine .inl ?_); apply k0; clear k0; simp only [zP, E])
  refine ae ?_
  apply k24; clear k24; refine kp [1, 2, 3, 5, 7, 8, 9, 54, 55, 56, 57] ?_
  refine ab fun _ k25 => ?_
  refine af hP hN rfl ?_
  iterate 3 (refine aa rfl fun _ k0 => ?_; simp only [zO, zT, acs, reduceCtorEq, M, E, O, Z, Y, V, Mdl.av, Mdl.cs]; (repeat refine an ?_); (try refine .inl ?_); apply k0; clear k0; simp only [zP, E])
  refine ae ?_
  apply k25; clear k25; refine kp [1, 2, 3, 5, 7, 8, 9, 54, 55, 56, 57, 61, 62, 63] ?_
  refine aD ?_
  refine bu (fun n26 s26 => ∃ (j : Nat) (v : Nat), (j ≤ (x.m.nx.getD s []).length) ∧ n26 = (x.m.nx.getD s []).length - j ∧ s26 = { env := [(1, .one (.ptr 0 0 0 0)), (2, .one (.str [])), (3, .one (.int .i64 0)), (5, .one (.list .str (qs x.m.nx.length))), (7, .one (.row 2 v)), (8, .one (.int .i64 (s : Int))), (9, .one (.list (.int .i64) (x.m.nx.getD s []))), (54, .one (.list (.list (.int .i64)) x.m.nx)), (55, .one (.int .i64 (x.m.nx.length : Int))), (56, .one (.int .i64 (s : Int))), (57, .one (.bool (decide ((s : Int) < x.m.nx.length)))), (61, .one (.list (.int .i64) (x.m.nx.getD s []))), (62, .one (.int .i64 ((x.m.nx.getD s []).length : Int))), (63, .one (.int .i64 (j : Int)))], L := [.vars 29 [.str x.nm, .list .str x.ins, .list .str x.outs, .int .i64 x.m.inp, .int .i64 x.m.st, .list (.list (.int .i64)) x.m.nx, .list (.list (.int .i64)) x.m.ot], .dead u, .row .str 9 v (hdT x ++ dv x s ++ ew x s j)] }) ?_ ?_
  ·exact ⟨_, _, aM [1, 2, 3, 5, 7, 8, 9, 54, 55, 56, 57, 61, 62, 63], 0, v, Nat.zero_le _, rfl, by simp only [ew, List.range_zero, bE, List.append_nil]; rfl⟩
  rintro n26 s26 ⟨j, v, hj, rfl, rfl⟩
  refine ab fun _ k27 => ?_
  refine af hP hN rfl ?_
  (refine aa rfl fun _ k0 => ?_; simp only [zO, zT, acs, reduceCtorEq, M, E, O, Z, Y, V, Mdl.av, Mdl.cs]; (repeat refine an ?_); (try refine .inl ?_); apply k0; clear k0; simp only [zP, E])
  refine ae ?_
  apply k27; clear k27; refine kp [1, 2, 3, 5, 7, 8, 9, 54, 55, 56, 57, 61, 62, 63, 64] ?_
  refine ab fun _ k28 => ?_
  refine cd (fun hc29 => ?_) (fun hc29 => ?_)
  ·(try simp only [zB, reduceCtorEq] at hc29)
   refine ax ?_
   apply k28; clear k28; refine kp [1, 2, 3, 5, 7, 8, 9, 54, 55, 56, 57, 61, 62, 63, 64] ?_
   refine ab fun _ k30 => ?_
   refine aD ?_
   refine ab fun _ k31 => ?_
   refine af hP hN rfl ?_
   iterate 5 (refine aa rfl fun _ k0 => ?_; simp only [zO, zT, acs, reduceCtorEq, M, E, O, Z, Y, V, Mdl.av, Mdl.cs]; (repeat refine an ?_); (try refine .inl ?_); apply k0; clear k0; simp only [zP, E])
   refine ae ?_
   apply k31; clear k31; refine kp [1, 2, 3, 5, 7, 8, 9, 10, 11, 54, 55, 56, 57, 61, 62, 63, 64] ?_
   have hrl := hm.rl s (by omega); have hql := hm.ql s (by omega)
   have hnr := hm.nr s j (by omega) (by omega); have hor := hm.or s j (by omega) (by omega); have hox := hv.ol s j (by omega) (by omega)
   have hq1 := cV (n := x.m.nx.length) (i := s) (by omega)
   have hq2 := cV (n := x.m.nx.length) (i := ((x.m.nx.getD s []).getD j 0).toNat) (by omega)
   have hl1 := gn (n := s) (by omega); have hl2 := gn (n := ((x.m.nx.getD s []).getD j 0).toNat) (by omega)
   have hl3 := gd hv.ai j; have hl4 := gd hv.ao ((x.m.ot.getD s []).getD j 0).toNat
   have hqn := cq x.m.nx.length
   have htl := gK hv (k := s) (by omega)
   have hrn := kP x s j; have hh5 : (hdT x).length = 5 := rfl
   refine ct hP hN Tryd.mixed rfl ?_
   iterate 38 (refine aa rfl fun _ k0 => ?_; simp only [zO, zT, acs, reduceCtorEq, M, E, O, Z, Y, V, Mdl.av, Mdl.cs, hq1, hq2, ag, ak, ay, aJ]; (repeat refine an ?_); (try refine .inl ?_); apply k0; clear k0; simp only [zP, E])
   refine ae ?_
   refine ⟨by kernel_rfl, ?_⟩
   apply k30; clear k30; refine kp [1, 2, 3, 5, 7, 8, 9, 10, 11, 54, 55, 56, 57, 61, 62, 63, 64] ?_
   refine af hP hN rfl ?_
   iterate 2 (refine aa rfl fun _ k0 => ?_; simp only [zO, zT, acs, reduceCtorEq, M, E, O, Z, Y, V, Mdl.av, Mdl.cs]; (repeat refine an ?_); (try refine .inl ?_); apply k0; clear k0; simp only [zP, E])
   refine ae ?_
   refine ⟨_, _, ?_, aM [1, 2, 3, 5, 7, 8, 9, 54, 55, 56, 57, 61, 62, 63], j + 1, v + 1, by omega, rfl, ?_⟩
   · omega
   · rw [om, ← List.append_assoc]; rfl
  (try simp only [zB, reduceCtorEq] at hc29)
  refine bv ?_
  apply k23; clear k23; refine kp [1, 2, 3, 5, 7, 8, 9, 54, 55, 56, 57, 61, 62, 63, 64] ?_
  refine af hP hN rfl ?_
  iterate 2 (refine aa rfl fun _ k0 => ?_; simp only [zO, zT, acs, reduceCtorEq, M, E, O, Z, Y, V, Mdl.av, Mdl.cs]; (repeat refine an ?_); (try refine .inl ?_); apply k0; clear k0; simp only [zP, E])
  refine ae ?_
  refine ⟨_, _, ?_, aM [1, 2, 3, 5, 7, 54, 55, 56], s + 1, v, by omega, rfl, ?_⟩
  · omega
  · rw [gY, ← List.append_assoc, show (x.m.nx.getD s []).length = j by omega]; rfl
 (try simp only [zB, reduceCtorEq] at hc22)
 refine bv ?_
 apply k17; clear k17; refine kp [1, 2, 3, 5, 7, 54, 55, 56, 57] ?_
 refine ab fun _ k32 => ?_
 obtain rfl : s = x.m.nx.length := by omega
 refine jg 2 rfl ?_; simp only [aU, bE, zS, M, and_self, and_true, true_and, and_false, false_and, if_true, if_false, eq_self, reduceCtorEq, Nat.one_ne_zero, Nat.zero_ne_one]
 have hsl := pB hv; have htl := gK hv (Nat.le_refl _); have hh5 : (hdT x).length = 5 := rfl
 refine af hP hN rfl ?_
 (refine aa rfl fun _ k0 => ?_; simp only [zO, zT, acs, reduceCtorEq, M, E, O, Z, Y, V, Mdl.av, Mdl.cs, ag, ak, ay]; (repeat refine an ?_); (try refine .inl ?_); apply k0; clear k0; simp only [zP, E])
 refine aa rfl fun _ k0 => ?_
 refine aw (h := aj (fe (hdT x ++ dv x x.m.nx.length) [10] (by rw [ag]; omega) (by omega))) rfl rfl (by first | exact rfl | (simp only [ev, zP, M, E]; exact rfl)) (by simp only [zV, acs, reduceCtorEq, M, E, O, Z, Y, V, Mdl.av, Mdl.cs, ag, ak, ay]) ?_
 apply k0; clear k0; simp only [zP, E]
 iterate 3 (refine aa rfl fun _ k0 => ?_; simp only [zO, zT, acs, reduceCtorEq, M, E, O, Z, Y, V, Mdl.av, Mdl.cs, ag, ak, ay]; (repeat refine an ?_); (try refine .inl ?_); apply k0; clear k0; simp only [zP, E])
 refine ae ?_
 apply k32; clear k32; refine kp [1, 2, 3, 5, 7, 54, 55, 56, 57] ?_
 refine aq ?_
 refine ⟨nr, _, rfl, ?_⟩; simp only [zF, zP, M, E, Mdl.av, Mdl.cs]
 refine VLE.of_eq ?_
 first | (rw [ib (by assumption)]; done) | (rw [kH (by assumption), ‹mvE x = 0›]; done)
theorem tP : bG Tryd.prog 11 [.one (.str gtA)] (.tup [dO.av, .one (.int .i64 0), .one (.int .i64 0)]) := by
  have h := dY gtA (by decide +kernel)
  rw [sG] at h
  exact h
theorem rA : bG Tryd.prog 9 [dO.av] (.tup [.one (.str gtA), .one (.int .i64 0)]) := by
  have h := jd dO (fun _ => by decide)
  rw [pJ, mM] at h
  exact h
theorem tL : bG Tryd.prog 11 [.one (.str gtx)] (.tup [(PM gtx).1.av, .one (.int .i64 9), .one (.int .i64 12)]) := by
  have h := dY gtx (by decide +kernel)
  rw [congrArg Prod.fst pW, congrArg Prod.snd pW] at h
  exact h
theorem tI : bG Tryd.prog 11 [.one (.str gtB)] (.tup [(PM gtB).1.av, .one (.int .i64 9), .one (.int .i64 8)]) := by
  have h := dY gtB (by decide +kernel)
  rw [congrArg Prod.fst pH, congrArg Prod.snd pH] at h
  exact h
theorem tO : bG Tryd.prog 11 [.one (.str gtC)] (.tup [(PM gtC).1.av, .one (.int .i64 9), .one (.int .i64 7)]) := by
  have h := dY gtC (by decide +kernel)
  rw [congrArg Prod.fst pT, congrArg Prod.snd pT] at h
  exact h
theorem tJ : bG Tryd.prog 11 [.one (.str [])] (.tup [(PM []).1.av, .one (.int .i64 1), .one (.int .i64 12)]) := by
  have h := dY [] (by decide +kernel)
  rw [congrArg Prod.fst pV, congrArg Prod.snd pV] at h
  exact h
theorem nu (a b : List Bs) : bG Tryd.prog 40 [.one (.list .str a), .one (.list .str b)] (.one (.bool (decide (a = b)))) := by
 refine aO Tryd.func40 rfl (by kernel_rfl) (Nat.le_of_ble_eq_true rfl) rfl fun C hP hN hB => ?_
 replace hN : C.N = 26 := hN
 simp only [aT, E]
 refine fS 0 rfl fun hf0 => ?_; simp only [lkp, if_true, if_false, reduceCtorEq, M, eq_self, Nat.one_ne_zero, Nat.zero_ne_one, kO, jn, jp, Fit, and_true, implies_true, true_and] at hf0
 refine ab fun _ k1 => ?_
 refine af hP hN rfl ?_
 (refine aa rfl fun _ k0 => ?_; simp only [zO, zT, acs, reduceCtorEq, M, E, O, Z, Y, V]; (repeat refine an ?_); (try refine .inl ?_); apply k0; clear k0; simp only [zP, E])
 refine ae ?_
 apply k1; clear k1; refine kp [0, 1, 4] ?_
 refine ab fun _ k2 => ?_
 refine ab fun _ k3 => ?_
 refine af hP hN rfl ?_
 iterate 5 (refine aa rfl fun _ k0 => ?_; simp only [zO, zT, acs, reduceCtorEq, M, E, O, Z, Y, V]; (repeat refine an ?_); (try refine .inl ?_); apply k0; clear k0; simp only [zP, E])
 refine ae ?_
 apply k3; clear k3; refine kp [0, 1, 4, 10] ?_
 refine cd (fun hc4 => ?_) (fun hc4 => ?_)
 ·(try simp only [zB, reduceCtorEq] at hc4)
  have hle : ¬ a.length = b.length := by omega
  refine ab fun _ k5 => ?_
  refine af hP hN rfl ?_
  (refine aa rfl fun _ k0 => ?_; simp only [zO, zT, acs, reduceCtorEq, M, E, O, Z, Y, V]; (repeat refine an ?_); (try refine .inl ?_); apply k0; clear k0; simp only [zP, E])
  refine ae ?_
  apply k5; clear k5; refine kp [0, 1, 4, 10] ?_
  refine aq ?_
  refine ⟨nr, _, rfl, ?_⟩; simp only [zF, zP, M, E]
  refine VLE.of_eq ?_
  refine congrArg (fun b => AV.one (AC.bool b)) ?_
  symm
  first
  | exact decide_eq_false fun e => hle (by rw [e])
  | exact decide_eq_false fun e => hne (by rw [e])
  | exact decide_eq_true (mQ hle fun q hq2 => hq q (by omega))
 (try simp only [zB, reduceCtorEq] at hc4)
 have hle : a.length = b.length := by omega
 refine ax ?_
 apply k2; clear k2; refine kp [0, 1, 4, 10] ?_
 refine ab fun _ k6 => ?_
 refine ab fun _ k7 => ?_
 refine af hP hN rfl ?_
 (refine aa rfl fun _ k0 => ?_; simp only [zO, zT, acs, reduceCtorEq, M, E, O, Z, Y, V]; (repeat refine an ?_); (try refine .inl ?_); apply k0; clear k0; simp only [zP, E])
 refine ae ?_
 apply k7; clear k7; refine kp [0, 1, 4, 5, 10] ?_
 refine aD ?_
 refine bu (fun n8 s8 => ∃ (k : Nat), (k ≤ a.length) ∧ (∀ q, q < k → a.getD q [] = b.getD q []) ∧ n8 = a.length - k ∧ s8 = { env := [(0, .one (.list .str a)), (1, .one (.list .str b)), (4, .one (.bool false)), (5, .one (.int .i64 (k : Int)))], L := [] }) ?_ ?_
 ·exact ⟨_, _, aM [0, 1, 4, 5], 0, Nat.zero_le _, fun q hq => by omega, rfl, rfl⟩
 rintro n8 s8 ⟨k, hk, hq, rfl, rfl⟩
 refine ab fun _ k9 => ?_
 refine ab fun _ k10 => ?_
 refine af hP hN rfl ?_
 iterate 4 (refine aa rfl fun _ k0 => ?_; simp only [zO, zT, acs, reduceCtorEq, M, E, O, Z, Y, V]; (repeat refine an ?_); (try refine .inl ?_); apply k0; clear k0; simp only [zP, E])
 refine ae ?_
 apply k10; clear k10; refine kp [0, 1, 4, 5, 14] ?_
 refine cd (fun hc11 => ?_) (fun hc11 => ?_)
 ·(try simp only [zB, reduceCtorEq] at hc11)
  refine ax ?_
  apply k9; clear k9; refine kp [0, 1, 4, 5, 14] ?_
  refine ab fun _ k12 => ?_
  refine aD ?_
  refine ab fun _ k13 => ?_
  refine ct hP hN Tryd.mixed rfl ?_
  iterate 9 (refine aa rfl fun _ k0 => ?_; simp only [zO, zT, acs, reduceCtorEq, M, E, O, Z, Y, V]; (repeat refine an ?_); (try refine .inl ?_); apply k0; clear k0; simp only [zP, E])
  refine ae ?_
  refine ⟨by kernel_rfl, ?_⟩
  apply k13; clear k13; refine kp [0, 1, 4, 5, 14, 25] ?_
  refine cd (fun hc14 => ?_) (fun hc14 => ?_)
  ·(try simp only [zB, reduceCtorEq] at hc14)
   have hne : a.getD k [] ≠ b.getD k [] := by simpa using hc14
   refine ab fun _ k15 => ?_
   refine af hP hN rfl ?_
   (refine aa rfl fun _ k0 => ?_; simp only [zO, zT, acs, reduceCtorEq, M, E, O, Z, Y, V]; (repeat refine an ?_); (try refine .inl ?_); apply k0; clear k0; simp only [zP, E])
   refine ae ?_
   apply k15; clear k15; refine kp [0, 1, 4, 5, 14, 25] ?_
   refine aq ?_
   refine ⟨nr, _, rfl, ?_⟩; simp only [zF, zP, M, E]
   refine VLE.of_eq ?_
   refine congrArg (fun b => AV.one (AC.bool b)) ?_
   symm
   first
   | exact decide_eq_false fun e => hle (by rw [e])
   | exact decide_eq_false fun e => hne (by rw [e])
   | exact decide_eq_true (mQ hle fun q hq2 => hq q (by omega))
  (try simp only [zB, reduceCtorEq] at hc14)
  have heq : a.getD k [] = b.getD k [] := by simpa using hc14
  refine ax ?_
  apply k12; clear k12; refine kp [0, 1, 4, 5, 14, 25] ?_
  refine af hP hN rfl ?_
  iterate 3 (refine aa rfl fun _ k0 => ?_; simp only [zO, zT, acs, reduceCtorEq, M, E, O, Z, Y, V]; (repeat refine an ?_); (try refine .inl ?_); apply k0; clear k0; simp only [zP, E])
  refine ae ?_
  refine ⟨_, _, ?_, aM [0, 1, 4, 5], k + 1, by omega, fun q hq2 => ?_, rfl, rfl⟩
  · omega
  · by_cases e : q = k
    · rw [e]; exact heq
    · exact hq q (by omega)
 (try simp only [zB, reduceCtorEq] at hc11)
 refine bv ?_
 apply k6; clear k6; refine kp [0, 1, 4, 5, 14] ?_
 refine ab fun _ k16 => ?_
 refine af hP hN rfl ?_
 (refine aa rfl fun _ k0 => ?_; simp only [zO, zT, acs, reduceCtorEq, M, E, O, Z, Y, V]; (repeat refine an ?_); (try refine .inl ?_); apply k0; clear k0; simp only [zP, E])
 refine ae ?_
 apply k16; clear k16; refine kp [0, 1, 4, 5, 14] ?_
 refine aq ?_
 refine ⟨nr, _, rfl, ?_⟩; simp only [zF, zP, M, E]
 refine VLE.of_eq ?_
 refine congrArg (fun b => AV.one (AC.bool b)) ?_
 symm
 first
 | exact decide_eq_false fun e => hle (by rw [e])
 | exact decide_eq_false fun e => hne (by rw [e])
 | exact decide_eq_true (mQ hle fun q hq2 => hq q (by omega))
theorem mm (a b : List Bs) : bG Tryd.prog 25 [.agg [.list .str a], .agg [.list .str b]] (.one (.bool (decide (a = b)))) := by
 refine aO Tryd.func25 rfl (by kernel_rfl) (Nat.le_of_ble_eq_true rfl) rfl fun C hP hN hB => ?_
 replace hN : C.N = 10 := hN
 simp only [aT, E]
 refine ab fun _ k1 => ?_
 refine af hP hN rfl ?_
 iterate 3 (refine aa rfl fun _ k0 => ?_; simp only [zO, zT, acs, reduceCtorEq, M, E, O, Z, Y, V]; (repeat refine an ?_); (try refine .inl ?_); apply k0; clear k0; simp only [zP, E])
 refine ae ?_
 apply k1; clear k1; refine kp [0, 1, 2, 3, 4] ?_
 refine ab fun _ k2 => ?_
 refine af hP hN rfl ?_
 iterate 4 (refine aa rfl fun _ k0 => ?_; simp only [zO, zT, acs, reduceCtorEq, M, E, O, Z, Y, V]; (repeat refine an ?_); (try refine .inl ?_); apply k0; clear k0; simp only [zP, E])
 refine aa rfl fun _ k0 => ?_
 refine aw (h := aj (nu a b)) rfl rfl (by first | exact rfl | (simp only [ev, zP, M, E]; exact rfl)) (by simp only [zV, acs, reduceCtorEq, M, E, O, Z, Y, V]) ?_
 apply k0; clear k0; simp only [zP, E]
 (refine aa rfl fun _ k0 => ?_; simp only [zO, zT, acs, reduceCtorEq, M, E, O, Z, Y, V]; (repeat refine an ?_); (try refine .inl ?_); apply k0; clear k0; simp only [zP, E])
 refine ae ?_
 apply k2; clear k2; refine kp [0, 1, 2, 3, 4] ?_
 refine aq ?_
 refine ⟨nr, _, rfl, ?_⟩; simp only [zF, zP, M, E]
 refine VLE.of_eq ?_
 rfl
theorem th (xs ys : List Int) : bG Tryd.prog 53 [.one (.list (.int .i64) xs), .one (.list (.int .i64) ys)] (.one (.bool (decide (xs = ys)))) := by
 refine aO Tryd.func53 rfl (by kernel_rfl) (Nat.le_of_ble_eq_true rfl) rfl fun C hP hN hB => ?_
 replace hN : C.N = 26 := hN
 simp only [aT, E]
 refine fS 0 rfl fun hf0 => ?_; simp only [lkp, if_true, if_false, reduceCtorEq, M, eq_self, Nat.one_ne_zero, Nat.zero_ne_one, kO, jn, jp, Fit, and_true, implies_true, true_and] at hf0
 refine ab fun _ k1 => ?_
 refine af hP hN rfl ?_
 (refine aa rfl fun _ k0 => ?_; simp only [zO, zT, acs, reduceCtorEq, M, E, O, Z, Y, V]; (repeat refine an ?_); (try refine .inl ?_); apply k0; clear k0; simp only [zP, E])
 refine ae ?_
 apply k1; clear k1; refine kp [0, 1, 4] ?_
 refine ab fun _ k2 => ?_
 refine ab fun _ k3 => ?_
 refine af hP hN rfl ?_
 iterate 5 (refine aa rfl fun _ k0 => ?_; simp only [zO, zT, acs, reduceCtorEq, M, E, O, Z, Y, V]; (repeat refine an ?_); (try refine .inl ?_); apply k0; clear k0; simp only [zP, E])
 refine ae ?_
 apply k3; clear k3; refine kp [0, 1, 4, 10] ?_
 refine cd (fun hc4 => ?_) (fun hc4 => ?_)
 ·(try simp only [zB, reduceCtorEq] at hc4)
  refine ab fun _ k5 => ?_
  refine af hP hN rfl ?_
  (refine aa rfl fun _ k0 => ?_; simp only [zO, zT, acs, reduceCtorEq, M, E, O, Z, Y, V]; (repeat refine an ?_); (try refine .inl ?_); apply k0; clear k0; simp only [zP, E])
  refine ae ?_
  apply k5; clear k5; refine kp [0, 1, 4, 10] ?_
  refine aq ?_
  refine ⟨nr, _, rfl, ?_⟩; simp only [zF, zP, M, E]
  refine VLE.of_eq ?_
  first
  | (refine db ?_; rintro rfl; first | exact absurd rfl ‹¬ _› | omega)
  | (refine dw ?_; have hk1 : k = xs.length := by omega
     have hk2 : k = ys.length := by omega
     rw [hk1, aE, ← hk1, hk2, aE] at hT; exact hT)
 (try simp only [zB, reduceCtorEq] at hc4)
 refine ax ?_
 apply k2; clear k2; refine kp [0, 1, 4, 10] ?_
 refine ab fun _ k6 => ?_
 refine ab fun _ k7 => ?_
 refine af hP hN rfl ?_
 (refine aa rfl fun _ k0 => ?_; simp only [zO, zT, acs, reduceCtorEq, M, E, O, Z, Y, V]; (repeat refine an ?_); (try refine .inl ?_); apply k0; clear k0; simp only [zP, E])
 refine ae ?_
 apply k7; clear k7; refine kp [0, 1, 4, 5, 10] ?_
 refine aD ?_
 refine bu (fun n8 s8 => ∃ (k : Nat), (k ≤ xs.length) ∧ (xs.take k = ys.take k) ∧ n8 = xs.length - k ∧ s8 = { env := [(0, .one (.list (.int .i64) xs)), (1, .one (.list (.int .i64) ys)), (5, .one (.int .i64 (k : Int)))], L := [] }) ?_ ?_
 ·exact ⟨_, _, aM [0, 1, 5], 0, Nat.zero_le _, rfl, rfl, rfl⟩
 rintro n8 s8 ⟨k, hk, hT, rfl, rfl⟩
 refine ab fun _ k9 => ?_
 refine ab fun _ k10 => ?_
 refine af hP hN rfl ?_
 iterate 4 (refine aa rfl fun _ k0 => ?_; simp only [zO, zT, acs, reduceCtorEq, M, E, O, Z, Y, V]; (repeat refine an ?_); (try refine .inl ?_); apply k0; clear k0; simp only [zP, E])
 refine ae ?_
 apply k10; clear k10; refine kp [0, 1, 5, 14] ?_
 refine cd (fun hc11 => ?_) (fun hc11 => ?_)
 ·(try simp only [zB, reduceCtorEq] at hc11)
  refine ax ?_
  apply k9; clear k9; refine kp [0, 1, 5, 14] ?_
  refine ab fun _ k12 => ?_
  refine aD ?_
  refine ab fun _ k13 => ?_
  refine ct hP hN Tryd.mixed rfl ?_
  iterate 9 (refine aa rfl fun _ k0 => ?_; simp only [zO, zT, acs, reduceCtorEq, M, E, O, Z, Y, V]; (repeat refine an ?_); (try refine .inl ?_); apply k0; clear k0; simp only [zP, E])
  refine ae ?_
  refine ⟨by kernel_rfl, ?_⟩
  apply k13; clear k13; refine kp [0, 1, 5, 14, 25] ?_
  refine cd (fun hc14 => ?_) (fun hc14 => ?_)
  ·(try simp only [zB, reduceCtorEq] at hc14)
   refine ab fun _ k15 => ?_
   refine af hP hN rfl ?_
   (refine aa rfl fun _ k0 => ?_; simp only [zO, zT, acs, reduceCtorEq, M, E, O, Z, Y, V]; (repeat refine an ?_); (try refine .inl ?_); apply k0; clear k0; simp only [zP, E])
   refine ae ?_
   apply k15; clear k15; refine kp [0, 1, 4, 5, 14, 25] ?_
   refine aq ?_
   refine ⟨nr, _, rfl, ?_⟩; simp only [zF, zP, M, E]
   refine VLE.of_eq ?_
   first
   | (refine db ?_; rintro rfl; first | exact absurd rfl ‹¬ _› | omega)
   | (refine dw ?_; have hk1 : k = xs.length := by omega
      have hk2 : k = ys.length := by omega
      rw [hk1, aE, ← hk1, hk2, aE] at hT; exact hT)
  (try simp only [zB, reduceCtorEq] at hc14)
  refine ax ?_
  apply k12; clear k12; refine kp [0, 1, 5, 14, 25] ?_
  refine af hP hN rfl ?_
  iterate 3 (refine aa rfl fun _ k0 => ?_; simp only [zO, zT, acs, reduceCtorEq, M, E, O, Z, Y, V]; (repeat refine an ?_); (try refine .inl ?_); apply k0; clear k0; simp only [zP, E])
  refine ae ?_
  refine ⟨_, _, ?_, aM [0, 1, 5], k + 1, by omega, gF (d := 0) hT (by omega) (by omega) ?_, rfl, rfl⟩
  · omega
  · first | assumption | omega
 (try simp only [zB, reduceCtorEq] at hc11)
 refine bv ?_
 apply k6; clear k6; refine kp [0, 1, 5, 14] ?_
 refine ab fun _ k16 => ?_
 refine af hP hN rfl ?_
 (refine aa rfl fun _ k0 => ?_; simp only [zO, zT, acs, reduceCtorEq, M, E, O, Z, Y, V]; (repeat refine an ?_); (try refine .inl ?_); apply k0; clear k0; simp only [zP, E])
 refine ae ?_
 apply k16; clear k16; refine kp [0, 1, 4, 5, 14] ?_
 refine aq ?_
 refine ⟨nr, _, rfl, ?_⟩; simp only [zF, zP, M, E]
 refine VLE.of_eq ?_
 first
 | (refine db ?_; rintro rfl; first | exact absurd rfl ‹¬ _› | omega)
 | (refine dw ?_; have hk1 : k = xs.length := by omega
    have hk2 : k = ys.length := by omega
    rw [hk1, aE, ← hk1, hk2, aE] at hT; exact hT)
theorem nM (xs ys : List (List Int)) : bG Tryd.prog 41 [.one (.list (.list (.int .i64)) xs), .one (.list (.list (.int .i64)) ys)] (.one (.bool (decide (xs = ys)))) := by
 refine aO Tryd.func41 rfl (by kernel_rfl) (Nat.le_of_ble_eq_true rfl) rfl fun C hP hN hB => ?_
 replace hN : C.N = 27 := hN
 simp only [aT, E]
 refine fS 0 rfl fun hf0 => ?_; simp only [lkp, if_true, if_false, reduceCtorEq, M, eq_self, Nat.one_ne_zero, Nat.zero_ne_one, kO, jn, jp, Fit, and_true, implies_true, true_and] at hf0
 refine ab fun _ k1 => ?_
 refine af hP hN rfl ?_
 (refine aa rfl fun _ k0 => ?_; simp only [zO, zT, acs, reduceCtorEq, M, E, O, Z, Y, V]; (repeat refine an ?_); (try refine .inl ?_); apply k0; clear k0; simp only [zP, E])
 refine ae ?_
 apply k1; clear k1; refine kp [0, 1, 4] ?_
 refine ab fun _ k2 => ?_
 refine ab fun _ k3 => ?_
 refine af hP hN rfl ?_
 iterate 5 (refine aa rfl fun _ k0 => ?_; simp only [zO, zT, acs, reduceCtorEq, M, E, O, Z, Y, V]; (repeat refine an ?_); (try refine .inl ?_); apply k0; clear k0; simp only [zP, E])
 refine ae ?_
 apply k3; clear k3; refine kp [0, 1, 4, 10] ?_
 refine cd (fun hc4 => ?_) (fun hc4 => ?_)
 ·(try simp only [zB, reduceCtorEq] at hc4)
  refine ab fun _ k5 => ?_
  refine af hP hN rfl ?_
  (refine aa rfl fun _ k0 => ?_; simp only [zO, zT, acs, reduceCtorEq, M, E, O, Z, Y, V]; (repeat refine an ?_); (try refine .inl ?_); apply k0; clear k0; simp only [zP, E])
  refine ae ?_
  apply k5; clear k5; refine kp [0, 1, 4, 10] ?_
  refine aq ?_
  refine ⟨nr, _, rfl, ?_⟩; simp only [zF, zP, M, E]
  refine VLE.of_eq ?_
  first
  | (refine db ?_; rintro rfl; first | exact absurd rfl ‹¬ _› | omega)
  | (refine dw ?_; have hk1 : k = xs.length := by omega
     have hk2 : k = ys.length := by omega
     rw [hk1, aE, ← hk1, hk2, aE] at hT; exact hT)
 (try simp only [zB, reduceCtorEq] at hc4)
 refine ax ?_
 apply k2; clear k2; refine kp [0, 1, 4, 10] ?_
 refine ab fun _ k6 => ?_
 refine ab fun _ k7 => ?_
 refine af hP hN rfl ?_
 (refine aa rfl fun _ k0 => ?_; simp only [zO, zT, acs, reduceCtorEq, M, E, O, Z, Y, V]; (repeat refine an ?_); (try refine .inl ?_); apply k0; clear k0; simp only [zP, E])
 refine ae ?_
 apply k7; clear k7; refine kp [0, 1, 4, 5, 10] ?_
 refine aD ?_
 refine bu (fun n8 s8 => ∃ (k : Nat), (k ≤ xs.length) ∧ (xs.take k = ys.take k) ∧ n8 = xs.length - k ∧ s8 = { env := [(0, .one (.list (.list (.int .i64)) xs)), (1, .one (.list (.list (.int .i64)) ys)), (5, .one (.int .i64 (k : Int)))], L := [] }) ?_ ?_
 ·exact ⟨_, _, aM [0, 1, 5], 0, Nat.zero_le _, rfl, rfl, rfl⟩
 rintro n8 s8 ⟨k, hk, hT, rfl, rfl⟩
 refine ab fun _ k9 => ?_
 refine ab fun _ k10 => ?_
 refine af hP hN rfl ?_
 iterate 4 (refine aa rfl fun _ k0 => ?_; simp only [zO, zT, acs, reduceCtorEq, M, E, O, Z, Y, V]; (repeat refine an ?_); (try refine .inl ?_); apply k0; clear k0; simp only [zP, E])
 refine ae ?_
 apply k10; clear k10; refine kp [0, 1, 5, 14] ?_
 refine cd (fun hc11 => ?_) (fun hc11 => ?_)
 ·(try simp only [zB, reduceCtorEq] at hc11)
  refine ax ?_
  apply k9; clear k9; refine kp [0, 1, 5, 14] ?_
  refine ab fun _ k12 => ?_
  refine aD ?_
  refine ab fun _ k13 => ?_
  refine ct hP hN Tryd.mixed rfl ?_
  iterate 8 (refine aa rfl fun _ k0 => ?_; simp only [zO, zT, acs, reduceCtorEq, M, E, O, Z, Y, V]; (repeat refine an ?_); (try refine .inl ?_); apply k0; clear k0; simp only [zP, E])
  refine aa rfl fun _ k0 => ?_
  refine aw (h := aj (th (xs.getD k []) (ys.getD k []))) rfl rfl (by first | exact rfl | (simp only [ev, zP, M, E]; exact rfl)) (by simp only [zV, acs, reduceCtorEq, M, E, O, Z, Y, V]) ?_
  apply k0; clear k0; simp only [zP, E]
  (refine aa rfl fun _ k0 => ?_; simp only [zO, zT, acs, reduceCtorEq, M, E, O, Z, Y, V]; (repeat refine an ?_); (try refine .inl ?_); apply k0; clear k0; simp only [zP, E])
  refine ae ?_
  refine ⟨by kernel_rfl, ?_⟩
  apply k13; clear k13; refine kp [0, 1, 5, 14, 26] ?_
  refine cd (fun hc14 => ?_) (fun hc14 => ?_)
  ·(try simp only [zB, reduceCtorEq] at hc14)
   refine ab fun _ k15 => ?_
   refine af hP hN rfl ?_
   (refine aa rfl fun _ k0 => ?_; simp only [zO, zT, acs, reduceCtorEq, M, E, O, Z, Y, V]; (repeat refine an ?_); (try refine .inl ?_); apply k0; clear k0; simp only [zP, E])
   refine ae ?_
   apply k15; clear k15; refine kp [0, 1, 4, 5, 14, 26] ?_
   refine aq ?_
   refine ⟨nr, _, rfl, ?_⟩; simp only [zF, zP, M, E]
   refine VLE.of_eq ?_
   first
   | (refine db ?_; rintro rfl; first | exact absurd rfl ‹¬ _› | omega)
   | (refine dw ?_; have hk1 : k = xs.length := by omega
      have hk2 : k = ys.length := by omega
      rw [hk1, aE, ← hk1, hk2, aE] at hT; exact hT)
  (try simp only [zB, reduceCtorEq] at hc14)
  refine ax ?_
  apply k12; clear k12; refine kp [0, 1, 5, 14, 26] ?_
  refine af hP hN rfl ?_
  iterate 3 (refine aa rfl fun _ k0 => ?_; simp only [zO, zT, acs, reduceCtorEq, M, E, O, Z, Y, V]; (repeat refine an ?_); (try refine .inl ?_); apply k0; clear k0; simp only [zP, E])
  refine ae ?_
  refine ⟨_, _, ?_, aM [0, 1, 5], k + 1, by omega, gF (d := []) hT (by omega) (by omega) ?_, rfl, rfl⟩
  · omega
  · first | assumption | omega
 (try simp only [zB, reduceCtorEq] at hc11)
 refine bv ?_
 apply k6; clear k6; refine kp [0, 1, 5, 14] ?_
 refine ab fun _ k16 => ?_
 refine af hP hN rfl ?_
 (refine aa rfl fun _ k0 => ?_; simp only [zO, zT, acs, reduceCtorEq, M, E, O, Z, Y, V]; (repeat refine an ?_); (try refine .inl ?_); apply k0; clear k0; simp only [zP, E])
 refine ae ?_
 apply k16; clear k16; refine kp [0, 1, 4, 5, 14] ?_
 refine aq ?_
 refine ⟨nr, _, rfl, ?_⟩; simp only [zF, zP, M, E]
 refine VLE.of_eq ?_
 first
 | (refine db ?_; rintro rfl; first | exact absurd rfl ‹¬ _› | omega)
 | (refine dw ?_; have hk1 : k = xs.length := by omega
    have hk2 : k = ys.length := by omega
    rw [hk1, aE, ← hk1, hk2, aE] at hT; exact hT)
theorem rC (m n : Mly) : bG Tryd.prog 26 [m.av, n.av] (.one (.bool (iz m n))) := by
 refine aO Tryd.func26 rfl (by kernel_rfl) (Nat.le_of_ble_eq_true rfl) rfl fun C hP hN hB => ?_
 replace hN : C.N = 31 := hN
 simp only [aT, E]
 refine ab fun _ k1 => ?_
 refine af hP hN rfl ?_
 iterate 3 (refine aa rfl fun _ k0 => ?_; simp only [zO, zT, acs, reduceCtorEq, M, E, O, Z, Y, V, Mly.av]; (repeat refine an ?_); (try refine .inl ?_); apply k0; clear k0; simp only [zP, E])
 refine ae ?_
 apply k1; clear k1; refine kp [0, 1, 2, 3, 4] ?_
 refine ab fun _ k2 => ?_
 refine af hP hN rfl ?_
 iterate 6 (refine aa rfl fun _ k0 => ?_; simp only [zO, zT, acs, reduceCtorEq, M, E, O, Z, Y, V, Mly.av]; (repeat refine an ?_); (try refine .inl ?_); apply k0; clear k0; simp only [zP, E])
 refine' ar (want := true) 5 rfl (m := 10) (by simp only [zP, M, E]; exact rfl) (by kernel_rfl) rfl rfl rfl rfl rfl (fun hg3 => ?a3) ?b3 ?c3
 case a3 =>
  have hq3 := hg3; (try simp only [zB, reduceCtorEq] at hg3); simp only [zE]
  iterate 5 (refine aK rfl fun _ k0 => ?_; simp only [zO, zT, acs, reduceCtorEq, M, E, O, Z, Y, V, Mly.av]; (repeat refine an ?_); (try refine .inl ?_); apply k0; clear k0; simp only [zP, E])
  (refine aa rfl fun _ k0 => ?_; simp only [zO, zT, acs, reduceCtorEq, M, E, O, Z, Y, V, Mly.av]; (repeat refine an ?_); (try refine .inl ?_); apply k0; clear k0; simp only [zP, E])
  refine ae ?_
  refine ⟨by simp only [zP, M, E]; exact rfl, rfl, ?_, rfl⟩; (repeat refine au rfl ?_); exact aL (by exact rfl) hq3
 case b3 => exact bb
 simp only [aF, az]
 (refine aa rfl fun _ k0 => ?_; simp only [zO, zT, acs, reduceCtorEq, M, E, O, Z, Y, V, Mly.av]; (repeat refine an ?_); (try refine .inl ?_); apply k0; clear k0; simp only [zP, E])
 refine' ar (want := true) 5 rfl (m := 17) (by simp only [zP, M, E]; exact rfl) (by kernel_rfl) rfl rfl rfl rfl rfl (fun hg4 => ?a4) ?b4 ?c4
 case a4 =>
  have hq4 := hg4; (try simp only [zB, reduceCtorEq] at hg4); simp only [zE]
  iterate 4 (refine aK rfl fun _ k0 => ?_; simp only [zO, zT, acs, reduceCtorEq, M, E, O, Z, Y, V, Mly.av]; (repeat refine an ?_); (try refine .inl ?_); apply k0; clear k0; simp only [zP, E])
  refine aK rfl fun _ k0 => ?_
  refine aw (h := aj (nM m.nx n.nx)) rfl rfl (by first | exact rfl | (simp only [ev, zP, M, E]; exact rfl)) (by simp only [zV, acs, reduceCtorEq, M, E, O, Z, Y, V, Mly.av]) ?_
  apply k0; clear k0; simp only [zP, E]
  (refine aa rfl fun _ k0 => ?_; simp only [zO, zT, acs, reduceCtorEq, M, E, O, Z, Y, V, Mly.av]; (repeat refine an ?_); (try refine .inl ?_); apply k0; clear k0; simp only [zP, E])
  refine ae ?_
  refine ⟨by simp only [zP, M, E]; exact rfl, rfl, ?_, rfl⟩; (repeat refine au rfl ?_); exact aL (by exact rfl) hq4
 case b4 => exact bb
 simp only [aF, az]
 (refine aa rfl fun _ k0 => ?_; simp only [zO, zT, acs, reduceCtorEq, M, E, O, Z, Y, V, Mly.av]; (repeat refine an ?_); (try refine .inl ?_); apply k0; clear k0; simp only [zP, E])
 refine' ar (want := true) 5 rfl (m := 24) (by simp only [zP, M, E]; exact rfl) (by kernel_rfl) rfl rfl rfl rfl rfl (fun hg5 => ?a5) ?b5 ?c5
 case a5 =>
  have hq5 := hg5; (try simp only [zB, reduceCtorEq] at hg5); simp only [zE]
  iterate 4 (refine aK rfl fun _ k0 => ?_; simp only [zO, zT, acs, reduceCtorEq, M, E, O, Z, Y, V, Mly.av]; (repeat refine an ?_); (try refine .inl ?_); apply k0; clear k0; simp only [zP, E])
  refine aK rfl fun _ k0 => ?_
  refine aw (h := aj (nM m.ot n.ot)) rfl rfl (by first | exact rfl | (simp only [ev, zP, M, E]; exact rfl)) (by simp only [zV, acs, reduceCtorEq, M, E, O, Z, Y, V, Mly.av]) ?_
  apply k0; clear k0; simp only [zP, E]
  (refine aa rfl fun _ k0 => ?_; simp only [zO, zT, acs, reduceCtorEq, M, E, O, Z, Y, V, Mly.av]; (repeat refine an ?_); (try refine .inl ?_); apply k0; clear k0; simp only [zP, E])
  refine ae ?_
  refine ⟨by simp only [zP, M, E]; exact rfl, rfl, ?_, rfl⟩; (repeat refine au rfl ?_); exact aL (by exact rfl) hq5
 case b5 => exact bb
 simp only [aF, az]
 (refine aa rfl fun _ k0 => ?_; simp only [zO, zT, acs, reduceCtorEq, M, E, O, Z, Y, V, Mly.av]; (repeat refine an ?_); (try refine .inl ?_); apply k0; clear k0; simp only [zP, E])
 refine ae ?_
 apply k2; clear k2; refine kp [0, 1, 2, 3, 4] ?_
 refine aq ?_
 refine ⟨nr, _, rfl, ?_⟩; simp only [zF, zP, M, E, Mly.av]
 refine VLE.of_eq ?_
 rfl
theorem pc (x y : Mdl) : bG Tryd.prog 12 [x.av, y.av] (.one (.bool (decide (x.nm = y.nm) && decide (x.ins = y.ins) && decide (x.outs = y.outs) && iz x.m y.m))) := by
 refine aO Tryd.func12 rfl (by kernel_rfl) (Nat.le_of_ble_eq_true rfl) rfl fun C hP hN hB => ?_
 replace hN : C.N = 31 := hN
 simp only [aT, E]
 refine ab fun _ k1 => ?_
 refine af hP hN rfl ?_
 iterate 3 (refine aa rfl fun _ k0 => ?_; simp only [zO, zT, acs, reduceCtorEq, M, E, O, Z, Y, V, Mdl.av, Mdl.cs]; (repeat refine an ?_); (try refine .inl ?_); apply k0; clear k0; simp only [zP, E])
 refine ae ?_
 apply k1; clear k1; refine kp [0, 1, 2, 3, 4] ?_
 refine ab fun _ k2 => ?_
 refine af hP hN rfl ?_
 iterate 6 (refine aa rfl fun _ k0 => ?_; simp only [zO, zT, acs, reduceCtorEq, M, E, O, Z, Y, V, Mdl.av, Mdl.cs]; (repeat refine an ?_); (try refine .inl ?_); apply k0; clear k0; simp only [zP, E])
 refine' ar (want := true) 5 rfl (m := 10) (by simp only [zP, M, E]; exact rfl) (by kernel_rfl) rfl rfl rfl rfl rfl (fun hg3 => ?a3) ?b3 ?c3
 case a3 =>
  have hq3 := hg3; (try simp only [zB, reduceCtorEq] at hg3); simp only [zE]
  iterate 4 (refine aK rfl fun _ k0 => ?_; simp only [zO, zT, acs, reduceCtorEq, M, E, O, Z, Y, V, Mdl.av, Mdl.cs]; (repeat refine an ?_); (try refine .inl ?_); apply k0; clear k0; simp only [zP, E])
  refine aK rfl fun _ k0 => ?_
  refine aw (h := aj (mm x.ins y.ins)) rfl rfl (by first | exact rfl | (simp only [ev, zP, M, E]; exact rfl)) (by simp only [zV, acs, reduceCtorEq, M, E, O, Z, Y, V, Mdl.av, Mdl.cs]) ?_
  apply k0; clear k0; simp only [zP, E]
  (refine aa rfl fun _ k0 => ?_; simp only [zO, zT, acs, reduceCtorEq, M, E, O, Z, Y, V, Mdl.av, Mdl.cs]; (repeat refine an ?_); (try refine .inl ?_); apply k0; clear k0; simp only [zP, E])
  refine ae ?_
  refine ⟨by simp only [zP, M, E]; exact rfl, rfl, ?_, rfl⟩; (repeat refine au rfl ?_); exact aL (by exact rfl) hq3
 case b3 => exact bb
 simp only [aF, az]
 (refine aa rfl fun _ k0 => ?_; simp only [zO, zT, acs, reduceCtorEq, M, E, O, Z, Y, V, Mdl.av, Mdl.cs]; (repeat refine an ?_); (try refine .inl ?_); apply k0; clear k0; simp only [zP, E])
 refine' ar (want := true) 5 rfl (m := 17) (by simp only [zP, M, E]; exact rfl) (by kernel_rfl) rfl rfl rfl rfl rfl (fun hg4 => ?a4) ?b4 ?c4
 case a4 =>
  have hq4 := hg4; (try simp only [zB, reduceCtorEq] at hg4); simp only [zE]
  iterate 4 (refine aK rfl fun _ k0 => ?_; simp only [zO, zT, acs, reduceCtorEq, M, E, O, Z, Y, V, Mdl.av, Mdl.cs]; (repeat refine an ?_); (try refine .inl ?_); apply k0; clear k0; simp only [zP, E])
  refine aK rfl fun _ k0 => ?_
  refine aw (h := aj (mm x.outs y.outs)) rfl rfl (by first | exact rfl | (simp only [ev, zP, M, E]; exact rfl)) (by simp only [zV, acs, reduceCtorEq, M, E, O, Z, Y, V, Mdl.av, Mdl.cs]) ?_
  apply k0; clear k0; simp only [zP, E]
  (refine aa rfl fun _ k0 => ?_; simp only [zO, zT, acs, reduceCtorEq, M, E, O, Z, Y, V, Mdl.av, Mdl.cs]; (repeat refine an ?_); (try refine .inl ?_); apply k0; clear k0; simp only [zP, E])
  refine ae ?_
  refine ⟨by simp only [zP, M, E]; exact rfl, rfl, ?_, rfl⟩; (repeat refine au rfl ?_); exact aL (by exact rfl) hq4
 case b4 => exact bb
 simp only [aF, az]
 (refine aa rfl fun _ k0 => ?_; simp only [zO, zT, acs, reduceCtorEq, M, E, O, Z, Y, V, Mdl.av, Mdl.cs]; (repeat refine an ?_); (try refine .inl ?_); apply k0; clear k0; simp only [zP, E])
 refine' ar (want := true) 5 rfl (m := 24) (by simp only [zP, M, E]; exact rfl) (by kernel_rfl) rfl rfl rfl rfl rfl (fun hg5 => ?a5) ?b5 ?c5
 case a5 =>
  have hq5 := hg5; (try simp only [zB, reduceCtorEq] at hg5); simp only [zE]
  iterate 4 (refine aK rfl fun _ k0 => ?_; simp only [zO, zT, acs, reduceCtorEq, M, E, O, Z, Y, V, Mdl.av, Mdl.cs]; (repeat refine an ?_); (try refine .inl ?_); apply k0; clear k0; simp only [zP, E])
  refine aK rfl fun _ k0 => ?_
  refine aw (h := aj (rC x.m y.m)) rfl rfl (by first | exact rfl | (simp only [ev, zP, M, E]; exact rfl)) (by simp only [zV, acs, reduceCtorEq, M, E, O, Z, Y, V, Mdl.av, Mdl.cs]) ?_
  apply k0; clear k0; simp only [zP, E]
  (refine aa rfl fun _ k0 => ?_; simp only [zO, zT, acs, reduceCtorEq, M, E, O, Z, Y, V, Mdl.av, Mdl.cs]; (repeat refine an ?_); (try refine .inl ?_); apply k0; clear k0; simp only [zP, E])
  refine ae ?_
  refine ⟨by simp only [zP, M, E]; exact rfl, rfl, ?_, rfl⟩; (repeat refine au rfl ?_); exact aL (by exact rfl) hq5
 case b5 => exact bb
 simp only [aF, az]
 (refine aa rfl fun _ k0 => ?_; simp only [zO, zT, acs, reduceCtorEq, M, E, O, Z, Y, V, Mdl.av, Mdl.cs]; (repeat refine an ?_); (try refine .inl ?_); apply k0; clear k0; simp only [zP, E])
 refine ae ?_
 apply k2; clear k2; refine kp [0, 1, 2, 3, 4] ?_
 refine aq ?_
 refine ⟨nr, _, rfl, ?_⟩; simp only [zF, zP, M, E, Mdl.av, Mdl.cs]
 refine VLE.of_eq ?_
 rfl
theorem lw (x y : Mdl) : bG Tryd.prog 12 [x.av, y.av] (.one (.bool (gR x y))) := pc x y
set_option maxHeartbeats 2000000 in
theorem gX  : bG Tryd.prog 8 [] (.one (.bool true)) := by
 refine aO Tryd.func8 rfl (by kernel_rfl) (Nat.le_of_ble_eq_true rfl) rfl fun C hP hN hB => ?_
 replace hN : C.N = 99 := hN
 simp only [aT, E]
 refine ab fun _ k1 => ?_
 refine af hP hN rfl ?_
 (refine aa rfl fun _ k0 => ?_; simp only [zO, zT, acs, reduceCtorEq, M, E, O, Z, Y, V, Mdl.av, Mdl.cs]; (repeat refine an ?_); (try refine .inl ?_); apply k0; clear k0; simp only [zP, E])
 refine ae ?_
 apply k1; clear k1; refine kp [0] ?_
 refine ab fun _ k2 => ?_
 refine af hP hN rfl ?_
 refine aa rfl fun _ k0 => ?_
 refine aw (h := aj mz) rfl rfl (by first | exact rfl | (simp only [ev, zP, M, E]; exact rfl)) (by simp only [zV, acs, reduceCtorEq, M, E, O, Z, Y, V, Mdl.av, Mdl.cs]) ?_
 apply k0; clear k0; simp only [zP, E]
 refine aa rfl fun _ k0 => ?_
 refine aw (h := aj rA) rfl rfl (by first | exact rfl | (simp only [ev, zP, M, E]; exact rfl)) (by simp only [zV, acs, reduceCtorEq, M, E, O, Z, Y, V, Mdl.av, Mdl.cs]) ?_
 apply k0; clear k0; simp only [zP, E]
 iterate 5 (refine aa rfl fun _ k0 => ?_; simp only [zO, zT, acs, reduceCtorEq, M, E, O, Z, Y, V, Mdl.av, Mdl.cs]; (repeat refine an ?_); (try refine .inl ?_); apply k0; clear k0; simp only [zP, E])
 refine ae ?_
 apply k2; clear k2; refine kp [0, 1, 2] ?_
 refine ab fun _ k3 => ?_
 refine af hP hN rfl ?_
 refine aa rfl fun _ k0 => ?_
 refine aw (h := aj tP) rfl rfl (by first | exact rfl | (simp only [ev, zP, M, E]; exact rfl)) (by simp only [zV, acs, reduceCtorEq, M, E, O, Z, Y, V, Mdl.av, Mdl.cs, List.append_eq, ah, am, gtx, gtA, gtB, gtC]) ?_
 apply k0; clear k0; simp only [zP, E]
 iterate 8 (refine aa rfl fun _ k0 => ?_; simp only [zO, zT, acs, reduceCtorEq, M, E, O, Z, Y, V, Mdl.av, Mdl.cs, List.append_eq, ah, am, gtx, gtA, gtB, gtC]; (repeat refine an ?_); (try refine .inl ?_); apply k0; clear k0; simp only [zP, E])
 refine ae ?_
 apply k3; clear k3; refine kp [0, 1, 2, 3, 4, 5] ?_
 refine ab fun _ k4 => ?_
 refine af hP hN rfl ?_
 refine aa rfl fun _ k0 => ?_
 refine aw (h := aj tL) rfl rfl (by first | exact rfl | (simp only [ev, zP, M, E]; exact rfl)) (by simp only [zV, acs, reduceCtorEq, M, E, O, Z, Y, V, Mdl.av, Mdl.cs, List.append_eq, ah, am, gtx, gtA, gtB, gtC]) ?_
 apply k0; clear k0; simp only [zP, E]
 iterate 8 (refine aa rfl fun _ k0 => ?_; simp only [zO, zT, acs, reduceCtorEq, M, E, O, Z, Y, V, Mdl.av, Mdl.cs, List.append_eq, ah, am, gtx, gtA, gtB, gtC]; (repeat refine an ?_); (try refine .inl ?_); apply k0; clear k0; simp only [zP, E])
 refine ae ?_
 apply k4; clear k4; refine kp [0, 1, 2, 3, 4, 5, 7, 8] ?_
 refine ab fun _ k5 => ?_
 refine af hP hN rfl ?_
 refine aa rfl fun _ k0 => ?_
 refine aw (h := aj tI) rfl rfl (by first | exact rfl | (simp only [ev, zP, M, E]; exact rfl)) (by simp only [zV, acs, reduceCtorEq, M, E, O, Z, Y, V, Mdl.av, Mdl.cs, List.append_eq, ah, am, gtx, gtA, gtB, gtC]) ?_
 apply k0; clear k0; simp only [zP, E]
 iterate 8 (refine aa rfl fun _ k0 => ?_; simp only [zO, zT, acs, reduceCtorEq, M, E, O, Z, Y, V, Mdl.av, Mdl.cs, List.append_eq, ah, am, gtx, gtA, gtB, gtC]; (repeat refine an ?_); (try refine .inl ?_); apply k0; clear k0; simp only [zP, E])
 refine ae ?_
 apply k5; clear k5; refine kp [0, 1, 2, 3, 4, 5, 7, 8, 10, 11] ?_
 refine ab fun _ k6 => ?_
 refine af hP hN rfl ?_
 refine aa rfl fun _ k0 => ?_
 refine aw (h := aj tO) rfl rfl (by first | exact rfl | (simp only [ev, zP, M, E]; exact rfl)) (by simp only [zV, acs, reduceCtorEq, M, E, O, Z, Y, V, Mdl.av, Mdl.cs, List.append_eq, ah, am, gtx, gtA, gtB, gtC]) ?_
 apply k0; clear k0; simp only [zP, E]
 iterate 8 (refine aa rfl fun _ k0 => ?_; simp only [zO, zT, acs, reduceCtorEq, M, E, O, Z, Y, V, Mdl.av, Mdl.cs, List.append_eq, ah, am, gtx, gtA, gtB, gtC]; (repeat refine an ?_); (try refine .inl ?_); apply k0; clear k0; simp only [zP, E])
 refine ae ?_
 apply k6; clear k6; refine kp [0, 1, 2, 3, 4, 5, 7, 8, 10, 11, 13, 14] ?_
 refine ab fun _ k7 => ?_
 refine af hP hN rfl ?_
 refine aa rfl fun _ k0 => ?_
 refine aw (h := aj tJ) rfl rfl (by first | exact rfl | (simp only [ev, zP, M, E]; exact rfl)) (by simp only [zV, acs, reduceCtorEq, M, E, O, Z, Y, V, Mdl.av, Mdl.cs]) ?_
 apply k0; clear k0; simp only [zP, E]
 iterate 8 (refine aa rfl fun _ k0 => ?_; simp only [zO, zT, acs, reduceCtorEq, M, E, O, Z, Y, V, Mdl.av, Mdl.cs]; (repeat refine an ?_); (try refine .inl ?_); apply k0; clear k0; simp only [zP, E])
 refine ae ?_
 apply k7; clear k7; refine kp [0, 1, 2, 3, 4, 5, 7, 8, 10, 11, 13, 14, 16, 17] ?_
 refine ab fun _ k8 => ?_
 refine ct hP hN Tryd.mixed rfl ?_
 iterate 3 (refine aa rfl fun _ k0 => ?_; simp only [zO, zT, acs, reduceCtorEq, M, E, O, Z, Y, V, Mdl.av, Mdl.cs, List.append_eq, ah, am, gtx, gtA, gtB, gtC]; (repeat refine an ?_); (try refine .inl ?_); apply k0; clear k0; simp only [zP, E])
 refine' ar (want := true) 2 rfl (m := 50) (by simp only [zP, M, E]; exact rfl) (by kernel_rfl) rfl rfl rfl rfl rfl (fun hg9 => ?a9) ?b9 ?c9
 case a9 =>
  have hq9 := hg9; (try simp only [zB, reduceCtorEq] at hg9); simp only [zE]
  iterate 2 (refine aK rfl fun _ k0 => ?_; simp only [zO, zT, acs, reduceCtorEq, M, E, O, Z, Y, V, Mdl.av, Mdl.cs, List.append_eq, ah, am, gtx, gtA, gtB, gtC]; (repeat refine an ?_); (try refine .inl ?_); apply k0; clear k0; simp only [zP, E])
  (refine aa rfl fun _ k0 => ?_; simp only [zO, zT, acs, reduceCtorEq, M, E, O, Z, Y, V, Mdl.av, Mdl.cs, List.append_eq, ah, am, gtx, gtA, gtB, gtC]; (repeat refine an ?_); (try refine .inl ?_); apply k0; clear k0; simp only [zP, E])
  refine ae ?_
  refine ⟨by simp only [zP, M, E]; exact rfl, rfl, ?_, rfl⟩; (repeat refine au rfl ?_); exact aL (by exact rfl) hq9
 case b9 => exact bb
 simp only [aF, az]
 (refine aa rfl fun _ k0 => ?_; simp only [zO, zT, acs, reduceCtorEq, M, E, O, Z, Y, V, Mdl.av, Mdl.cs, List.append_eq, ah, am, gtx, gtA, gtB, gtC]; (repeat refine an ?_); (try refine .inl ?_); apply k0; clear k0; simp only [zP, E])
 refine' ar (want := true) 3 rfl (m := 54) (by simp only [zP, M, E]; exact rfl) (by kernel_rfl) rfl rfl rfl rfl rfl (fun hg10 => ?a10) ?b10 ?c10
 case a10 =>
  have hq10 := hg10; (try simp only [zB, reduceCtorEq] at hg10); simp only [zE]
  (refine aK rfl fun _ k0 => ?_; simp only [zO, zT, acs, reduceCtorEq, M, E, O, Z, Y, V, Mdl.av, Mdl.cs, List.append_eq, ah, am, gtx, gtA, gtB, gtC]; (repeat refine an ?_); (try refine .inl ?_); apply k0; clear k0; simp only [zP, E])
  refine aK rfl fun _ k0 => ?_
  refine aw (h := aj mz) rfl rfl (by first | exact rfl | (simp only [ev, zP, M, E]; exact rfl)) (by simp only [zV, acs, reduceCtorEq, M, E, O, Z, Y, V, Mdl.av, Mdl.cs, List.append_eq, ah, am, gtx, gtA, gtB, gtC]) ?_
  apply k0; clear k0; simp only [zP, E]
  refine aK rfl fun _ k0 => ?_
  refine aw (h := aj (lw dO dO)) rfl rfl (by first | exact rfl | (simp only [ev, zP, M, E]; exact rfl)) (by simp only [zV, acs, reduceCtorEq, M, E, O, Z, Y, V, Mdl.av, Mdl.cs, List.append_eq, ah, am, gtx, gtA, gtB, gtC]) ?_
  apply k0; clear k0; simp only [zP, E]
  (refine aa rfl fun _ k0 => ?_; simp only [zO, zT, acs, reduceCtorEq, M, E, O, Z, Y, V, Mdl.av, Mdl.cs, List.append_eq, ah, am, gtx, gtA, gtB, gtC]; (repeat refine an ?_); (try refine .inl ?_); apply k0; clear k0; simp only [zP, E])
  refine ae ?_
  refine ⟨by simp only [zP, M, E]; exact rfl, rfl, ?_, rfl⟩; (repeat refine au rfl ?_); exact aL (by exact rfl) hq10
 case b10 => exact bb
 simp only [aF, az]
 (refine aa rfl fun _ k0 => ?_; simp only [zO, zT, acs, reduceCtorEq, M, E, O, Z, Y, V, Mdl.av, Mdl.cs, List.append_eq, ah, am, gtx, gtA, gtB, gtC]; (repeat refine an ?_); (try refine .inl ?_); apply k0; clear k0; simp only [zP, E])
 refine' ar (want := true) 2 rfl (m := 59) (by simp only [zP, M, E]; exact rfl) (by kernel_rfl) rfl rfl rfl rfl rfl (fun hg11 => ?a11) ?b11 ?c11
 case a11 =>
  have hq11 := hg11; (try simp only [zB, reduceCtorEq] at hg11); simp only [zE]
  iterate 2 (refine aK rfl fun _ k0 => ?_; simp only [zO, zT, acs, reduceCtorEq, M, E, O, Z, Y, V, Mdl.av, Mdl.cs, List.append_eq, ah, am, gtx, gtA, gtB, gtC]; (repeat refine an ?_); (try refine .inl ?_); apply k0; clear k0; simp only [zP, E])
  (refine aa rfl fun _ k0 => ?_; simp only [zO, zT, acs, reduceCtorEq, M, E, O, Z, Y, V, Mdl.av, Mdl.cs, List.append_eq, ah, am, gtx, gtA, gtB, gtC]; (repeat refine an ?_); (try refine .inl ?_); apply k0; clear k0; simp only [zP, E])
  refine ae ?_
  refine ⟨by simp only [zP, M, E]; exact rfl, rfl, ?_, rfl⟩; (repeat refine au rfl ?_); exact aL (by exact rfl) hq11
 case b11 => exact bb
 simp only [aF, az]
 (refine aa rfl fun _ k0 => ?_; simp only [zO, zT, acs, reduceCtorEq, M, E, O, Z, Y, V, Mdl.av, Mdl.cs, List.append_eq, ah, am, gtx, gtA, gtB, gtC]; (repeat refine an ?_); (try refine .inl ?_); apply k0; clear k0; simp only [zP, E])
 refine' ar (want := true) 2 rfl (m := 63) (by simp only [zP, M, E]; exact rfl) (by kernel_rfl) rfl rfl rfl rfl rfl (fun hg12 => ?a12) ?b12 ?c12
 case a12 =>
  have hq12 := hg12; (try simp only [zB, reduceCtorEq] at hg12); simp only [zE]
  iterate 2 (refine aK rfl fun _ k0 => ?_; simp only [zO, zT, acs, reduceCtorEq, M, E, O, Z, Y, V, Mdl.av, Mdl.cs, List.append_eq, ah, am, gtx, gtA, gtB, gtC]; (repeat refine an ?_); (try refine .inl ?_); apply k0; clear k0; simp only [zP, E])
  (refine aa rfl fun _ k0 => ?_; simp only [zO, zT, acs, reduceCtorEq, M, E, O, Z, Y, V, Mdl.av, Mdl.cs, List.append_eq, ah, am, gtx, gtA, gtB, gtC]; (repeat refine an ?_); (try refine .inl ?_); apply k0; clear k0; simp only [zP, E])
  refine ae ?_
  refine ⟨by simp only [zP, M, E]; exact rfl, rfl, ?_, rfl⟩; (repeat refine au rfl ?_); exact aL (by exact rfl) hq12
 case b12 => exact bb
 simp only [aF, az]
 (refine aa rfl fun _ k0 => ?_; simp only [zO, zT, acs, reduceCtorEq, M, E, O, Z, Y, V, Mdl.av, Mdl.cs, List.append_eq, ah, am, gtx, gtA, gtB, gtC]; (repeat refine an ?_); (try refine .inl ?_); apply k0; clear k0; simp only [zP, E])
 refine' ar (want := true) 2 rfl (m := 67) (by simp only [zP, M, E]; exact rfl) (by kernel_rfl) rfl rfl rfl rfl rfl (fun hg13 => ?a13) ?b13 ?c13
 case a13 =>
  have hq13 := hg13; (try simp only [zB, reduceCtorEq] at hg13); simp only [zE]
  iterate 2 (refine aK rfl fun _ k0 => ?_; simp only [zO, zT, acs, reduceCtorEq, M, E, O, Z, Y, V, Mdl.av, Mdl.cs, List.append_eq, ah, am, gtx, gtA, gtB, gtC]; (repeat refine an ?_); (try refine .inl ?_); apply k0; clear k0; simp only [zP, E])
  (refine aa rfl fun _ k0 => ?_; simp only [zO, zT, acs, reduceCtorEq, M, E, O, Z, Y, V, Mdl.av, Mdl.cs, List.append_eq, ah, am, gtx, gtA, gtB, gtC]; (repeat refine an ?_); (try refine .inl ?_); apply k0; clear k0; simp only [zP, E])
  refine ae ?_
  refine ⟨by simp only [zP, M, E]; exact rfl, rfl, ?_, rfl⟩; (repeat refine au rfl ?_); exact aL (by exact rfl) hq13
 case b13 => exact bb
 simp only [aF, az]
 (refine aa rfl fun _ k0 => ?_; simp only [zO, zT, acs, reduceCtorEq, M, E, O, Z, Y, V, Mdl.av, Mdl.cs, List.append_eq, ah, am, gtx, gtA, gtB, gtC]; (repeat refine an ?_); (try refine .inl ?_); apply k0; clear k0; simp only [zP, E])
 refine' ar (want := true) 2 rfl (m := 71) (by simp only [zP, M, E]; exact rfl) (by kernel_rfl) rfl rfl rfl rfl rfl (fun hg14 => ?a14) ?b14 ?c14
 case a14 =>
  have hq14 := hg14; (try simp only [zB, reduceCtorEq] at hg14); simp only [zE]
  iterate 2 (refine aK rfl fun _ k0 => ?_; simp only [zO, zT, acs, reduceCtorEq, M, E, O, Z, Y, V, Mdl.av, Mdl.cs, List.append_eq, ah, am, gtx, gtA, gtB, gtC]; (repeat refine an ?_); (try refine .inl ?_); apply k0; clear k0; simp only [zP, E])
  (refine aa rfl fun _ k0 => ?_; simp only [zO, zT, acs, reduceCtorEq, M, E, O, Z, Y, V, Mdl.av, Mdl.cs, List.append_eq, ah, am, gtx, gtA, gtB, gtC]; (repeat refine an ?_); (try refine .inl ?_); apply k0; clear k0; simp only [zP, E])
  refine ae ?_
  refine ⟨by simp only [zP, M, E]; exact rfl, rfl, ?_, rfl⟩; (repeat refine au rfl ?_); exact aL (by exact rfl) hq14
 case b14 => exact bb
 simp only [aF, az]
 (refine aa rfl fun _ k0 => ?_; simp only [zO, zT, acs, reduceCtorEq, M, E, O, Z, Y, V, Mdl.av, Mdl.cs, List.append_eq, ah, am, gtx, gtA, gtB, gtC]; (repeat refine an ?_); (try refine .inl ?_); apply k0; clear k0; simp only [zP, E])
 refine' ar (want := true) 2 rfl (m := 75) (by simp only [zP, M, E]; exact rfl) (by kernel_rfl) rfl rfl rfl rfl rfl (fun hg15 => ?a15) ?b15 ?c15
 case a15 =>
  have hq15 := hg15; (try simp only [zB, reduceCtorEq] at hg15); simp only [zE]
  iterate 2 (refine aK rfl fun _ k0 => ?_; simp only [zO, zT, acs, reduceCtorEq, M, E, O, Z, Y, V, Mdl.av, Mdl.cs, List.append_eq, ah, am, gtx, gtA, gtB, gtC]; (repeat refine an ?_); (try refine .inl ?_); apply k0; clear k0; simp only [zP, E])
  (refine aa rfl fun _ k0 => ?_; simp only [zO, zT, acs, reduceCtorEq, M, E, O, Z, Y, V, Mdl.av, Mdl.cs, List.append_eq, ah, am, gtx, gtA, gtB, gtC]; (repeat refine an ?_); (try refine .inl ?_); apply k0; clear k0; simp only [zP, E])
  refine ae ?_
  refine ⟨by simp only [zP, M, E]; exact rfl, rfl, ?_, rfl⟩; (repeat refine au rfl ?_); exact aL (by exact rfl) hq15
 case b15 => exact bb
 simp only [aF, az]
 (refine aa rfl fun _ k0 => ?_; simp only [zO, zT, acs, reduceCtorEq, M, E, O, Z, Y, V, Mdl.av, Mdl.cs, List.append_eq, ah, am, gtx, gtA, gtB, gtC]; (repeat refine an ?_); (try refine .inl ?_); apply k0; clear k0; simp only [zP, E])
 refine' ar (want := true) 2 rfl (m := 79) (by simp only [zP, M, E]; exact rfl) (by kernel_rfl) rfl rfl rfl rfl rfl (fun hg16 => ?a16) ?b16 ?c16
 case a16 =>
  have hq16 := hg16; (try simp only [zB, reduceCtorEq] at hg16); simp only [zE]
  iterate 2 (refine aK rfl fun _ k0 => ?_; simp only [zO, zT, acs, reduceCtorEq, M, E, O, Z, Y, V, Mdl.av, Mdl.cs, List.append_eq, ah, am, gtx, gtA, gtB, gtC]; (repeat refine an ?_); (try refine .inl ?_); apply k0; clear k0; simp only [zP, E])
  (refine aa rfl fun _ k0 => ?_; simp only [zO, zT, acs, reduceCtorEq, M, E, O, Z, Y, V, Mdl.av, Mdl.cs, List.append_eq, ah, am, gtx, gtA, gtB, gtC]; (repeat refine an ?_); (try refine .inl ?_); apply k0; clear k0; simp only [zP, E])
  refine ae ?_
  refine ⟨by simp only [zP, M, E]; exact rfl, rfl, ?_, rfl⟩; (repeat refine au rfl ?_); exact aL (by exact rfl) hq16
 case b16 => exact bb
 simp only [aF, az]
 (refine aa rfl fun _ k0 => ?_; simp only [zO, zT, acs, reduceCtorEq, M, E, O, Z, Y, V, Mdl.av, Mdl.cs, List.append_eq, ah, am, gtx, gtA, gtB, gtC]; (repeat refine an ?_); (try refine .inl ?_); apply k0; clear k0; simp only [zP, E])
 refine' ar (want := true) 2 rfl (m := 83) (by simp only [zP, M, E]; exact rfl) (by kernel_rfl) rfl rfl rfl rfl rfl (fun hg17 => ?a17) ?b17 ?c17
 case a17 =>
  have hq17 := hg17; (try simp only [zB, reduceCtorEq] at hg17); simp only [zE]
  iterate 2 (refine aK rfl fun _ k0 => ?_; simp only [zO, zT, acs, reduceCtorEq, M, E, O, Z, Y, V, Mdl.av, Mdl.cs, List.append_eq, ah, am, gtx, gtA, gtB, gtC]; (repeat refine an ?_); (try refine .inl ?_); apply k0; clear k0; simp only [zP, E])
  (refine aa rfl fun _ k0 => ?_; simp only [zO, zT, acs, reduceCtorEq, M, E, O, Z, Y, V, Mdl.av, Mdl.cs, List.append_eq, ah, am, gtx, gtA, gtB, gtC]; (repeat refine an ?_); (try refine .inl ?_); apply k0; clear k0; simp only [zP, E])
  refine ae ?_
  refine ⟨by simp only [zP, M, E]; exact rfl, rfl, ?_, rfl⟩; (repeat refine au rfl ?_); exact aL (by exact rfl) hq17
 case b17 => exact bb
 simp only [aF, az]
 (refine aa rfl fun _ k0 => ?_; simp only [zO, zT, acs, reduceCtorEq, M, E, O, Z, Y, V, Mdl.av, Mdl.cs, List.append_eq, ah, am, gtx, gtA, gtB, gtC]; (repeat refine an ?_); (try refine .inl ?_); apply k0; clear k0; simp only [zP, E])
 refine' ar (want := true) 2 rfl (m := 87) (by simp only [zP, M, E]; exact rfl) (by kernel_rfl) rfl rfl rfl rfl rfl (fun hg18 => ?a18) ?b18 ?c18
 case a18 =>
  have hq18 := hg18; (try simp only [zB, reduceCtorEq] at hg18); simp only [zE]
  iterate 2 (refine aK rfl fun _ k0 => ?_; simp only [zO, zT, acs, reduceCtorEq, M, E, O, Z, Y, V, Mdl.av, Mdl.cs, List.append_eq, ah, am, gtx, gtA, gtB, gtC]; (repeat refine an ?_); (try refine .inl ?_); apply k0; clear k0; simp only [zP, E])
  (refine aa rfl fun _ k0 => ?_; simp only [zO, zT, acs, reduceCtorEq, M, E, O, Z, Y, V, Mdl.av, Mdl.cs, List.append_eq, ah, am, gtx, gtA, gtB, gtC]; (repeat refine an ?_); (try refine .inl ?_); apply k0; clear k0; simp only [zP, E])
  refine ae ?_
  refine ⟨by simp only [zP, M, E]; exact rfl, rfl, ?_, rfl⟩; (repeat refine au rfl ?_); exact aL (by exact rfl) hq18
 case b18 => exact bb
 simp only [aF, az]
 (refine aa rfl fun _ k0 => ?_; simp only [zO, zT, acs, reduceCtorEq, M, E, O, Z, Y, V, Mdl.av, Mdl.cs, List.append_eq, ah, am, gtx, gtA, gtB, gtC]; (repeat refine an ?_); (try refine .inl ?_); apply k0; clear k0; simp only [zP, E])
 refine' ar (want := true) 2 rfl (m := 91) (by simp only [zP, M, E]; exact rfl) (by kernel_rfl) rfl rfl rfl rfl rfl (fun hg19 => ?a19) ?b19 ?c19
 case a19 =>
  have hq19 := hg19; (try simp only [zB, reduceCtorEq] at hg19); simp only [zE]
  iterate 2 (refine aK rfl fun _ k0 => ?_; simp only [zO, zT, acs, reduceCtorEq, M, E, O, Z, Y, V, Mdl.av, Mdl.cs, List.append_eq, ah, am, gtx, gtA, gtB, gtC]; (repeat refine an ?_); (try refine .inl ?_); apply k0; clear k0; simp only [zP, E])
  (refine aa rfl fun _ k0 => ?_; simp only [zO, zT, acs, reduceCtorEq, M, E, O, Z, Y, V, Mdl.av, Mdl.cs, List.append_eq, ah, am, gtx, gtA, gtB, gtC]; (repeat refine an ?_); (try refine .inl ?_); apply k0; clear k0; simp only [zP, E])
  refine ae ?_
  refine ⟨by simp only [zP, M, E]; exact rfl, rfl, ?_, rfl⟩; (repeat refine au rfl ?_); exact aL (by exact rfl) hq19
 case b19 => exact bb
 simp only [aF, az]
 (refine aa rfl fun _ k0 => ?_; simp only [zO, zT, acs, reduceCtorEq, M, E, O, Z, Y, V, Mdl.av, Mdl.cs, List.append_eq, ah, am, gtx, gtA, gtB, gtC]; (repeat refine an ?_); (try refine .inl ?_); apply k0; clear k0; simp only [zP, E])
 refine' ar (want := true) 2 rfl (m := 95) (by simp only [zP, M, E]; exact rfl) (by kernel_rfl) rfl rfl rfl rfl rfl (fun hg20 => ?a20) ?b20 ?c20
 case a20 =>
  have hq20 := hg20; (try simp only [zB, reduceCtorEq] at hg20); simp only [zE]
  iterate 2 (refine aK rfl fun _ k0 => ?_; simp only [zO, zT, acs, reduceCtorEq, M, E, O, Z, Y, V, Mdl.av, Mdl.cs, List.append_eq, ah, am, gtx, gtA, gtB, gtC]; (repeat refine an ?_); (try refine .inl ?_); apply k0; clear k0; simp only [zP, E])
  (refine aa rfl fun _ k0 => ?_; simp only [zO, zT, acs, reduceCtorEq, M, E, O, Z, Y, V, Mdl.av, Mdl.cs, List.append_eq, ah, am, gtx, gtA, gtB, gtC]; (repeat refine an ?_); (try refine .inl ?_); apply k0; clear k0; simp only [zP, E])
  refine ae ?_
  refine ⟨by simp only [zP, M, E]; exact rfl, rfl, ?_, rfl⟩; (repeat refine au rfl ?_); exact aL (by exact rfl) hq20
 case b20 => exact bb
 simp only [aF, az]
 (refine aa rfl fun _ k0 => ?_; simp only [zO, zT, acs, reduceCtorEq, M, E, O, Z, Y, V, Mdl.av, Mdl.cs, List.append_eq, ah, am, gtx, gtA, gtB, gtC]; (repeat refine an ?_); (try refine .inl ?_); apply k0; clear k0; simp only [zP, E])
 refine ae ?_
 refine ⟨by kernel_rfl, ?_⟩
 apply k8; clear k8; refine kp [0, 1, 2, 3, 4, 5, 7, 8, 10, 11, 13, 14, 16, 17] ?_
 refine aq ?_
 refine ⟨nr, _, rfl, ?_⟩; simp only [zF, zP, M, E, Mdl.av, Mdl.cs]
 refine VLE.of_eq ?_
 rw [dK]; rfl
theorem ki (xs : List Bs) : bG Tryd.prog 14 [.agg [.list .str xs]] (.one (.bool (grB xs))) := by
 refine aO Tryd.func14 rfl (by kernel_rfl) (Nat.le_of_ble_eq_true rfl) rfl fun C hP hN hB => ?_
 replace hN : C.N = 26 := hN
 simp only [aT, E]
 refine ab fun _ k1 => ?_
 refine af hP hN rfl ?_
 iterate 2 (refine aa rfl fun _ k0 => ?_; simp only [zO, zT, acs, reduceCtorEq, M, E, O, Z, Y, V]; (repeat refine an ?_); (try refine .inl ?_); apply k0; clear k0; simp only [zP, E])
 refine ae ?_
 apply k1; clear k1; refine kp [0, 1, 2] ?_
 refine ab fun _ k2 => ?_
 refine ab fun _ k3 => ?_
 refine af hP hN rfl ?_
 (refine aa rfl fun _ k0 => ?_; simp only [zO, zT, acs, reduceCtorEq, M, E, O, Z, Y, V]; (repeat refine an ?_); (try refine .inl ?_); apply k0; clear k0; simp only [zP, E])
 refine ae ?_
 apply k3; clear k3; refine kp [0, 1, 2, 3] ?_
 refine aD ?_
 refine bu (fun n4 s4 => ∃ (k : Nat), (k ≤ xs.length) ∧ (∀ q, q < k → (xs.getD q []).length ≤ 100) ∧ (k ≤ 71) ∧ n4 = xs.length - k ∧ s4 = { env := [(1, .one (.ptr 0 0 0 0)), (2, .one (.bool false)), (3, .one (.int .i64 (k : Int)))], L := [.vars 24 [.list .str xs]] }) ?_ ?_
 ·exact ⟨_, _, aM [1, 2, 3], 0, Nat.zero_le _, fun q hq => by omega, by omega, rfl, rfl⟩
 rintro n4 s4 ⟨k, hk, hq, hk7, rfl, rfl⟩
 refine ab fun _ k5 => ?_
 refine ab fun _ k6 => ?_
 refine af hP hN rfl ?_
 iterate 6 (refine aa rfl fun _ k0 => ?_; simp only [zO, zT, acs, reduceCtorEq, M, E, O, Z, Y, V]; (repeat refine an ?_); (try refine .inl ?_); apply k0; clear k0; simp only [zP, E])
 refine' ar (want := true) 2 rfl (m := 9) (by simp only [zP, M, E]; exact rfl) (by kernel_rfl) rfl rfl rfl rfl rfl (fun hg7 => ?a7) ?b7 ?c7
 case a7 =>
  have hq7 := hg7; (try simp only [zB, reduceCtorEq] at hg7); simp only [zE]
  iterate 2 (refine aK rfl fun _ k0 => ?_; simp only [zO, zT, acs, reduceCtorEq, M, E, O, Z, Y, V]; (repeat refine an ?_); (try refine .inl ?_); apply k0; clear k0; simp only [zP, E])
  (refine aa rfl fun _ k0 => ?_; simp only [zO, zT, acs, reduceCtorEq, M, E, O, Z, Y, V]; (repeat refine an ?_); (try refine .inl ?_); apply k0; clear k0; simp only [zP, E])
  refine ae ?_
  refine ⟨by simp only [zP, M, E]; exact rfl, rfl, ?_, rfl⟩; (repeat refine au rfl ?_); exact aL (by exact rfl) hq7
 case b7 => exact bb
 simp only [aF, az]
 refine ae ?_
 apply k6; clear k6; refine kp [1, 2, 3, 12] ?_
 refine cd (fun hc8 => ?_) (fun hc8 => ?_)
 ·(try simp only [zB, reduceCtorEq] at hc8)
  refine ax ?_
  apply k5; clear k5; refine kp [1, 2, 3, 12] ?_
  refine ab fun _ k9 => ?_
  refine aD ?_
  refine ab fun _ k10 => ?_
  refine af hP hN rfl ?_
  iterate 7 (refine aa rfl fun _ k0 => ?_; simp only [zO, zT, acs, reduceCtorEq, M, E, O, Z, Y, V]; (repeat refine an ?_); (try refine .inl ?_); apply k0; clear k0; simp only [zP, E])
  refine ae ?_
  apply k10; clear k10; refine kp [1, 2, 3, 12, 21] ?_
  refine cd (fun hc11 => ?_) (fun hc11 => ?_)
  ·(try simp only [zB, reduceCtorEq] at hc11)
   refine ab fun _ k12 => ?_
   refine af hP hN rfl ?_
   (refine aa rfl fun _ k0 => ?_; simp only [zO, zT, acs, reduceCtorEq, M, E, O, Z, Y, V]; (repeat refine an ?_); (try refine .inl ?_); apply k0; clear k0; simp only [zP, E])
   refine ae ?_
   apply k12; clear k12; refine kp [1, 2, 3, 12, 21] ?_
   refine aq ?_
   refine ⟨nr, _, rfl, ?_⟩; simp only [zF, zP, M, E]
   refine VLE.of_eq ?_
   refine congrArg (fun b => AV.one (AC.bool b)) ?_
   symm
   first
   | exact tE (k := k) (by omega) (by omega) (by omega)
   | exact tB (k := k) (by omega) hq
  (try simp only [zB, reduceCtorEq] at hc11)
  refine ax ?_
  apply k9; clear k9; refine kp [1, 2, 3, 12, 21] ?_
  refine af hP hN rfl ?_
  iterate 3 (refine aa rfl fun _ k0 => ?_; simp only [zO, zT, acs, reduceCtorEq, M, E, O, Z, Y, V]; (repeat refine an ?_); (try refine .inl ?_); apply k0; clear k0; simp only [zP, E])
  refine ae ?_
  refine ⟨_, _, ?_, aM [1, 2, 3], k + 1, by omega, fun q hq2 => ?_, by omega, rfl, rfl⟩
  · omega
  · by_cases e : q = k
    · rw [e]; omega
    · exact hq q (by omega)
 (try simp only [zB, reduceCtorEq] at hc8)
 refine bv ?_
 apply k2; clear k2; refine kp [1, 2, 3, 12] ?_
 refine ab fun _ k13 => ?_
 refine af hP hN rfl ?_
 iterate 5 (refine aa rfl fun _ k0 => ?_; simp only [zO, zT, acs, reduceCtorEq, M, E, O, Z, Y, V]; (repeat refine an ?_); (try refine .inl ?_); apply k0; clear k0; simp only [zP, E])
 refine ae ?_
 apply k13; clear k13; refine kp [1, 2, 3, 12] ?_
 refine aq ?_
 refine ⟨nr, _, rfl, ?_⟩; simp only [zF, zP, M, E]
 refine VLE.of_eq ?_
 refine congrArg (fun b => AV.one (AC.bool b)) ?_
 symm
 first
 | exact tE (k := k) (by omega) (by omega) (by omega)
 | exact tB (k := k) (by omega) hq
theorem kv (x : Mdl) : bG Tryd.prog 7 [x.av] (.one (.bool (mr x))) := by
 refine aO Tryd.func7 rfl (by kernel_rfl) (Nat.le_of_ble_eq_true rfl) rfl fun C hP hN hB => ?_
 replace hN : C.N = 73 := hN
 simp only [aT, E]
 refine ab fun _ k1 => ?_
 refine af hP hN rfl ?_
 iterate 2 (refine aa rfl fun _ k0 => ?_; simp only [zO, zT, acs, reduceCtorEq, M, E, O, Z, Y, V, Mdl.av, Mdl.cs]; (repeat refine an ?_); (try refine .inl ?_); apply k0; clear k0; simp only [zP, E])
 refine ae ?_
 apply k1; clear k1; refine kp [0, 1, 2] ?_
 refine ab fun _ k2 => ?_
 refine ab fun _ k3 => ?_
 refine af hP hN rfl ?_
 (refine aa rfl fun _ k0 => ?_; simp only [zO, zT, acs, reduceCtorEq, M, E, O, Z, Y, V, Mdl.av, Mdl.cs]; (repeat refine an ?_); (try refine .inl ?_); apply k0; clear k0; simp only [zP, E])
 refine ae ?_
 apply k3; clear k3; refine kp [0, 1, 2, 3] ?_
 refine aD ?_
 refine bu (fun n4 s4 => ∃ (k : Nat), (k ≤ x.m.nx.length) ∧ (∀ q, q < k → (x.m.nx.getD q []).length ≤ 6) ∧ (k ≤ 13) ∧ n4 = x.m.nx.length - k ∧ s4 = { env := [(1, .one (.ptr 0 0 0 0)), (2, .one (.bool false)), (3, .one (.int .i64 (k : Int)))], L := [.vars 29 [.str x.nm, .list .str x.ins, .list .str x.outs, .int .i64 x.m.inp, .int .i64 x.m.st, .list (.list (.int .i64)) x.m.nx, .list (.list (.int .i64)) x.m.ot]] }) ?_ ?_
 ·exact ⟨_, _, aM [1, 2, 3], 0, Nat.zero_le _, fun q hq => by omega, by omega, rfl, rfl⟩
 rintro n4 s4 ⟨k, hk, hq, hk7, rfl, rfl⟩
 refine ab fun _ k5 => ?_
 refine ab fun _ k6 => ?_
 refine af hP hN rfl ?_
 iterate 7 (refine aa rfl fun _ k0 => ?_; simp only [zO, zT, acs, reduceCtorEq, M, E, O, Z, Y, V, Mdl.av, Mdl.cs]; (repeat refine an ?_); (try refine .inl ?_); apply k0; clear k0; simp only [zP, E])
 refine' ar (want := true) 2 rfl (m := 11) (by simp only [zP, M, E]; exact rfl) (by kernel_rfl) rfl rfl rfl rfl rfl (fun hg7 => ?a7) ?b7 ?c7
 case a7 =>
  have hq7 := hg7; (try simp only [zB, reduceCtorEq] at hg7); simp only [zE]
  iterate 2 (refine aK rfl fun _ k0 => ?_; simp only [zO, zT, acs, reduceCtorEq, M, E, O, Z, Y, V, Mdl.av, Mdl.cs]; (repeat refine an ?_); (try refine .inl ?_); apply k0; clear k0; simp only [zP, E])
  (refine aa rfl fun _ k0 => ?_; simp only [zO, zT, acs, reduceCtorEq, M, E, O, Z, Y, V, Mdl.av, Mdl.cs]; (repeat refine an ?_); (try refine .inl ?_); apply k0; clear k0; simp only [zP, E])
  refine ae ?_
  refine ⟨by simp only [zP, M, E]; exact rfl, rfl, ?_, rfl⟩; (repeat refine au rfl ?_); exact aL (by exact rfl) hq7
 case b7 => exact bb
 simp only [aF, az]
 refine ae ?_
 apply k6; clear k6; refine kp [1, 2, 3, 14] ?_
 refine cd (fun hc8 => ?_) (fun hc8 => ?_)
 ·(try simp only [zB, reduceCtorEq] at hc8)
  refine ax ?_
  apply k5; clear k5; refine kp [1, 2, 3, 14] ?_
  refine ab fun _ k9 => ?_
  refine aD ?_
  refine ab fun _ k10 => ?_
  refine af hP hN rfl ?_
  iterate 8 (refine aa rfl fun _ k0 => ?_; simp only [zO, zT, acs, reduceCtorEq, M, E, O, Z, Y, V, Mdl.av, Mdl.cs]; (repeat refine an ?_); (try refine .inl ?_); apply k0; clear k0; simp only [zP, E])
  refine ae ?_
  apply k10; clear k10; refine kp [1, 2, 3, 14, 24] ?_
  refine cd (fun hc11 => ?_) (fun hc11 => ?_)
  ·(try simp only [zB, reduceCtorEq] at hc11)
   refine ab fun _ k12 => ?_
   refine af hP hN rfl ?_
   (refine aa rfl fun _ k0 => ?_; simp only [zO, zT, acs, reduceCtorEq, M, E, O, Z, Y, V, Mdl.av, Mdl.cs]; (repeat refine an ?_); (try refine .inl ?_); apply k0; clear k0; simp only [zP, E])
   refine ae ?_
   apply k12; clear k12; refine kp [1, 2, 3, 14, 24] ?_
   refine aq ?_
   refine ⟨nr, _, rfl, ?_⟩; simp only [zF, zP, M, E, Mdl.av, Mdl.cs]
   refine VLE.of_eq ?_
   refine congrArg (fun b => AV.one (AC.bool b)) ?_
   symm
   unfold mr
   first
   | (rw [gg (l := x.m.nx) (k := k) (by omega) (by omega) (by omega)]; rfl)
   | (rw [gg (l := x.m.ot) (k := j) (by omega) (by omega) (by omega)]; simp)
   | (rw [gl (l := x.m.nx) (k := k) (by omega) hq, gl (l := x.m.ot) (k := j) (by omega) hr, Bool.false_or, Bool.false_or])
  (try simp only [zB, reduceCtorEq] at hc11)
  refine ax ?_
  apply k9; clear k9; refine kp [1, 2, 3, 14, 24] ?_
  refine af hP hN rfl ?_
  iterate 3 (refine aa rfl fun _ k0 => ?_; simp only [zO, zT, acs, reduceCtorEq, M, E, O, Z, Y, V, Mdl.av, Mdl.cs]; (repeat refine an ?_); (try refine .inl ?_); apply k0; clear k0; simp only [zP, E])
  refine ae ?_
  refine ⟨_, _, ?_, aM [1, 2, 3], k + 1, by omega, fun q hq2 => ?_, by omega, rfl, rfl⟩
  · omega
  · by_cases e : q = k
    · rw [e]; omega
    · exact hq q (by omega)
 (try simp only [zB, reduceCtorEq] at hc8)
 refine bv ?_
 apply k2; clear k2; refine kp [1, 2, 3, 14] ?_
 refine ab fun _ k13 => ?_
 refine ab fun _ k14 => ?_
 refine af hP hN rfl ?_
 (refine aa rfl fun _ k0 => ?_; simp only [zO, zT, acs, reduceCtorEq, M, E, O, Z, Y, V, Mdl.av, Mdl.cs]; (repeat refine an ?_); (try refine .inl ?_); apply k0; clear k0; simp only [zP, E])
 refine ae ?_
 apply k14; clear k14; refine kp [1, 2, 3, 4, 14] ?_
 refine aD ?_
 refine bu (fun n15 s15 => ∃ (j : Nat), (j ≤ x.m.ot.length) ∧ (∀ q, q < j → (x.m.ot.getD q []).length ≤ 6) ∧ (j ≤ 21) ∧ n15 = x.m.ot.length - j ∧ s15 = { env := [(1, .one (.ptr 0 0 0 0)), (2, .one (.bool false)), (4, .one (.int .i64 (j : Int)))], L := [.vars 29 [.str x.nm, .list .str x.ins, .list .str x.outs, .int .i64 x.m.inp, .int .i64 x.m.st, .list (.list (.int .i64)) x.m.nx, .list (.list (.int .i64)) x.m.ot]] }) ?_ ?_
 ·exact ⟨_, _, aM [1, 2, 4], 0, Nat.zero_le _, fun q hq => by omega, by omega, rfl, rfl⟩
 rintro n15 s15 ⟨j, hj, hr, hj7, rfl, rfl⟩
 refine ab fun _ k16 => ?_
 refine ab fun _ k17 => ?_
 refine af hP hN rfl ?_
 iterate 7 (refine aa rfl fun _ k0 => ?_; simp only [zO, zT, acs, reduceCtorEq, M, E, O, Z, Y, V, Mdl.av, Mdl.cs]; (repeat refine an ?_); (try refine .inl ?_); apply k0; clear k0; simp only [zP, E])
 refine' ar (want := true) 2 rfl (m := 31) (by simp only [zP, M, E]; exact rfl) (by kernel_rfl) rfl rfl rfl rfl rfl (fun hg18 => ?a18) ?b18 ?c18
 case a18 =>
  have hq18 := hg18; (try simp only [zB, reduceCtorEq] at hg18); simp only [zE]
  iterate 2 (refine aK rfl fun _ k0 => ?_; simp only [zO, zT, acs, reduceCtorEq, M, E, O, Z, Y, V, Mdl.av, Mdl.cs]; (repeat refine an ?_); (try refine .inl ?_); apply k0; clear k0; simp only [zP, E])
  (refine aa rfl fun _ k0 => ?_; simp only [zO, zT, acs, reduceCtorEq, M, E, O, Z, Y, V, Mdl.av, Mdl.cs]; (repeat refine an ?_); (try refine .inl ?_); apply k0; clear k0; simp only [zP, E])
  refine ae ?_
  refine ⟨by simp only [zP, M, E]; exact rfl, rfl, ?_, rfl⟩; (repeat refine au rfl ?_); exact aL (by exact rfl) hq18
 case b18 => exact bb
 simp only [aF, az]
 refine ae ?_
 apply k17; clear k17; refine kp [1, 2, 4, 34] ?_
 refine cd (fun hc19 => ?_) (fun hc19 => ?_)
 ·(try simp only [zB, reduceCtorEq] at hc19)
  refine ax ?_
  apply k16; clear k16; refine kp [1, 2, 4, 34] ?_
  refine ab fun _ k20 => ?_
  refine aD ?_
  refine ab fun _ k21 => ?_
  refine af hP hN rfl ?_
  iterate 8 (refine aa rfl fun _ k0 => ?_; simp only [zO, zT, acs, reduceCtorEq, M, E, O, Z, Y, V, Mdl.av, Mdl.cs]; (repeat refine an ?_); (try refine .inl ?_); apply k0; clear k0; simp only [zP, E])
  refine ae ?_
  apply k21; clear k21; refine kp [1, 2, 4, 34, 44] ?_
  refine cd (fun hc22 => ?_) (fun hc22 => ?_)
  ·(try simp only [zB, reduceCtorEq] at hc22)
   refine ab fun _ k23 => ?_
   refine af hP hN rfl ?_
   (refine aa rfl fun _ k0 => ?_; simp only [zO, zT, acs, reduceCtorEq, M, E, O, Z, Y, V, Mdl.av, Mdl.cs]; (repeat refine an ?_); (try refine .inl ?_); apply k0; clear k0; simp only [zP, E])
   refine ae ?_
   apply k23; clear k23; refine kp [1, 2, 4, 34, 44] ?_
   refine aq ?_
   refine ⟨nr, _, rfl, ?_⟩; simp only [zF, zP, M, E, Mdl.av, Mdl.cs]
   refine VLE.of_eq ?_
   refine congrArg (fun b => AV.one (AC.bool b)) ?_
   symm
   unfold mr
   first
   | (rw [gg (l := x.m.nx) (k := k) (by omega) (by omega) (by omega)]; rfl)
   | (rw [gg (l := x.m.ot) (k := j) (by omega) (by omega) (by omega)]; simp)
   | (rw [gl (l := x.m.nx) (k := k) (by omega) hq, gl (l := x.m.ot) (k := j) (by omega) hr, Bool.false_or, Bool.false_or])
  (try simp only [zB, reduceCtorEq] at hc22)
  refine ax ?_
  apply k20; clear k20; refine kp [1, 2, 4, 34, 44] ?_
  refine af hP hN rfl ?_
  iterate 3 (refine aa rfl fun _ k0 => ?_; simp only [zO, zT, acs, reduceCtorEq, M, E, O, Z, Y, V, Mdl.av, Mdl.cs]; (repeat refine an ?_); (try refine .inl ?_); apply k0; clear k0; simp only [zP, E])
  refine ae ?_
  refine ⟨_, _, ?_, aM [1, 2, 4], j + 1, by omega, fun q hq2 => ?_, by omega, rfl, rfl⟩
  · omega
  · by_cases e : q = j
    · rw [e]; omega
    · exact hr q (by omega)
 (try simp only [zB, reduceCtorEq] at hc19)
 refine bv ?_
 apply k13; clear k13; refine kp [1, 2, 4, 34] ?_
 refine ab fun _ k24 => ?_
 refine af hP hN rfl ?_
 iterate 5 (refine aa rfl fun _ k0 => ?_; simp only [zO, zT, acs, reduceCtorEq, M, E, O, Z, Y, V, Mdl.av, Mdl.cs]; (repeat refine an ?_); (try refine .inl ?_); apply k0; clear k0; simp only [zP, E])
 refine' ar (want := false) 3 rfl (m := 49) (by simp only [zP, M, E]; exact rfl) (by kernel_rfl) rfl rfl rfl rfl rfl (fun hg25 => ?a25) ?b25 ?c25
 case a25 =>
  have hq25 := hg25; (try simp only [zB, reduceCtorEq] at hg25); simp only [zE]
  iterate 2 (refine aK rfl fun _ k0 => ?_; simp only [zO, zT, acs, reduceCtorEq, M, E, O, Z, Y, V, Mdl.av, Mdl.cs]; (repeat refine an ?_); (try refine .inl ?_); apply k0; clear k0; simp only [zP, E])
  refine aK rfl fun _ k0 => ?_
  refine aw (h := aj (ki x.ins)) rfl rfl (by first | exact rfl | (simp only [ev, zP, M, E]; exact rfl)) (by simp only [zV, acs, reduceCtorEq, M, E, O, Z, Y, V, Mdl.av, Mdl.cs]) ?_
  apply k0; clear k0; simp only [zP, E]
  (refine aa rfl fun _ k0 => ?_; simp only [zO, zT, acs, reduceCtorEq, M, E, O, Z, Y, V, Mdl.av, Mdl.cs]; (repeat refine an ?_); (try refine .inl ?_); apply k0; clear k0; simp only [zP, E])
  refine ae ?_
  refine ⟨by simp only [zP, M, E]; exact rfl, rfl, ?_, rfl⟩; (repeat refine au rfl ?_); exact aL (by exact rfl) hq25
 case b25 => exact bb
 simp only [aF, az]
 (refine aa rfl fun _ k0 => ?_; simp only [zO, zT, acs, reduceCtorEq, M, E, O, Z, Y, V, Mdl.av, Mdl.cs]; (repeat refine an ?_); (try refine .inl ?_); apply k0; clear k0; simp only [zP, E])
 refine' ar (want := false) 3 rfl (m := 54) (by simp only [zP, M, E]; exact rfl) (by kernel_rfl) rfl rfl rfl rfl rfl (fun hg26 => ?a26) ?b26 ?c26
 case a26 =>
  have hq26 := hg26; (try simp only [zB, reduceCtorEq] at hg26); simp only [zE]
  iterate 2 (refine aK rfl fun _ k0 => ?_; simp only [zO, zT, acs, reduceCtorEq, M, E, O, Z, Y, V, Mdl.av, Mdl.cs]; (repeat refine an ?_); (try refine .inl ?_); apply k0; clear k0; simp only [zP, E])
  refine aK rfl fun _ k0 => ?_
  refine aw (h := aj (ki x.outs)) rfl rfl (by first | exact rfl | (simp only [ev, zP, M, E]; exact rfl)) (by simp only [zV, acs, reduceCtorEq, M, E, O, Z, Y, V, Mdl.av, Mdl.cs]) ?_
  apply k0; clear k0; simp only [zP, E]
  (refine aa rfl fun _ k0 => ?_; simp only [zO, zT, acs, reduceCtorEq, M, E, O, Z, Y, V, Mdl.av, Mdl.cs]; (repeat refine an ?_); (try refine .inl ?_); apply k0; clear k0; simp only [zP, E])
  refine ae ?_
  refine ⟨by simp only [zP, M, E]; exact rfl, rfl, ?_, rfl⟩; (repeat refine au rfl ?_); exact aL (by exact rfl) hq26
 case b26 => exact bb
 simp only [aF, az]
 (refine aa rfl fun _ k0 => ?_; simp only [zO, zT, acs, reduceCtorEq, M, E, O, Z, Y, V, Mdl.av, Mdl.cs]; (repeat refine an ?_); (try refine .inl ?_); apply k0; clear k0; simp only [zP, E])
 refine' ar (want := false) 5 rfl (m := 59) (by simp only [zP, M, E]; exact rfl) (by kernel_rfl) rfl rfl rfl rfl rfl (fun hg27 => ?a27) ?b27 ?c27
 case a27 =>
  have hq27 := hg27; (try simp only [zB, reduceCtorEq] at hg27); simp only [zE]
  iterate 5 (refine aK rfl fun _ k0 => ?_; simp only [zO, zT, acs, reduceCtorEq, M, E, O, Z, Y, V, Mdl.av, Mdl.cs]; (repeat refine an ?_); (try refine .inl ?_); apply k0; clear k0; simp only [zP, E])
  (refine aa rfl fun _ k0 => ?_; simp only [zO, zT, acs, reduceCtorEq, M, E, O, Z, Y, V, Mdl.av, Mdl.cs]; (repeat refine an ?_); (try refine .inl ?_); apply k0; clear k0; simp only [zP, E])
  refine ae ?_
  refine ⟨by simp only [zP, M, E]; exact rfl, rfl, ?_, rfl⟩; (repeat refine au rfl ?_); exact aL (by exact rfl) hq27
 case b27 => exact bb
 simp only [aF, az]
 (refine aa rfl fun _ k0 => ?_; simp only [zO, zT, acs, reduceCtorEq, M, E, O, Z, Y, V, Mdl.av, Mdl.cs]; (repeat refine an ?_); (try refine .inl ?_); apply k0; clear k0; simp only [zP, E])
 refine' ar (want := false) 5 rfl (m := 66) (by simp only [zP, M, E]; exact rfl) (by kernel_rfl) rfl rfl rfl rfl rfl (fun hg28 => ?a28) ?b28 ?c28
 case a28 =>
  have hq28 := hg28; (try simp only [zB, reduceCtorEq] at hg28); simp only [zE]
  iterate 5 (refine aK rfl fun _ k0 => ?_; simp only [zO, zT, acs, reduceCtorEq, M, E, O, Z, Y, V, Mdl.av, Mdl.cs]; (repeat refine an ?_); (try refine .inl ?_); apply k0; clear k0; simp only [zP, E])
  (refine aa rfl fun _ k0 => ?_; simp only [zO, zT, acs, reduceCtorEq, M, E, O, Z, Y, V, Mdl.av, Mdl.cs]; (repeat refine an ?_); (try refine .inl ?_); apply k0; clear k0; simp only [zP, E])
  refine ae ?_
  refine ⟨by simp only [zP, M, E]; exact rfl, rfl, ?_, rfl⟩; (repeat refine au rfl ?_); exact aL (by exact rfl) hq28
 case b28 => exact bb
 simp only [aF, az]
 (refine aa rfl fun _ k0 => ?_; simp only [zO, zT, acs, reduceCtorEq, M, E, O, Z, Y, V, Mdl.av, Mdl.cs]; (repeat refine an ?_); (try refine .inl ?_); apply k0; clear k0; simp only [zP, E])
 refine ae ?_
 apply k24; clear k24; refine kp [1, 2, 4, 34] ?_
 refine aq ?_
 refine ⟨nr, _, rfl, ?_⟩; simp only [zF, zP, M, E, Mdl.av, Mdl.cs]
 refine VLE.of_eq ?_
 refine congrArg (fun b => AV.one (AC.bool b)) ?_
 symm
 unfold mr
 first
 | (rw [gg (l := x.m.nx) (k := k) (by omega) (by omega) (by omega)]; rfl)
 | (rw [gg (l := x.m.ot) (k := j) (by omega) (by omega) (by omega)]; simp)
 | (rw [gl (l := x.m.nx) (k := k) (by omega) hq, gl (l := x.m.ot) (k := j) (by omega) hr, Bool.false_or, Bool.false_or])
set_option maxHeartbeats 2000000 in
theorem t8 (x y : Mdl) : bG Tryd.prog 3 [x.av, y.av] (.one (.bool true)) := by
 refine aO Tryd.func3 rfl (by kernel_rfl) (Nat.le_of_ble_eq_true rfl) rfl fun C hP hN hB => ?_
 replace hN : C.N = 81 := hN
 simp only [aT, E]
 refine ab fun _ k1 => ?_
 refine af hP hN rfl ?_
 iterate 3 (refine aa rfl fun _ k0 => ?_; simp only [zO, zT, acs, reduceCtorEq, M, E, O, Z, Y, V, Mdl.av, Mdl.cs]; (repeat refine an ?_); (try refine .inl ?_); apply k0; clear k0; simp only [zP, E])
 refine ae ?_
 apply k1; clear k1; refine kp [0, 1, 2, 3, 4] ?_
 refine ab fun _ k2 => ?_
 refine ab fun _ k3 => ?_
 refine af hP hN rfl ?_
 (refine aa rfl fun _ k0 => ?_; simp only [zO, zT, acs, reduceCtorEq, M, E, O, Z, Y, V, Mdl.av, Mdl.cs]; (repeat refine an ?_); (try refine .inl ?_); apply k0; clear k0; simp only [zP, E])
 refine aa rfl fun _ k0 => ?_
 refine aw (h := aj (kv x)) rfl rfl (by first | exact rfl | (simp only [ev, zP, M, E]; exact rfl)) (by simp only [zV, acs, reduceCtorEq, M, E, O, Z, Y, V, Mdl.av, Mdl.cs]) ?_
 apply k0; clear k0; simp only [zP, E]
 (refine aa rfl fun _ k0 => ?_; simp only [zO, zT, acs, reduceCtorEq, M, E, O, Z, Y, V, Mdl.av, Mdl.cs]; (repeat refine an ?_); (try refine .inl ?_); apply k0; clear k0; simp only [zP, E])
 refine' ar (want := false) 2 rfl (m := 14) (by simp only [zP, M, E]; exact rfl) (by kernel_rfl) rfl rfl rfl rfl rfl (fun hg4 => ?a4) ?b4 ?c4
 case a4 =>
  have hq4 := hg4; (try simp only [zB, reduceCtorEq] at hg4); simp only [zE]
  (refine aK rfl fun _ k0 => ?_; simp only [zO, zT, acs, reduceCtorEq, M, E, O, Z, Y, V, Mdl.av, Mdl.cs]; (repeat refine an ?_); (try refine .inl ?_); apply k0; clear k0; simp only [zP, E])
  refine aK rfl fun _ k0 => ?_
  refine aw (h := aj (kv y)) rfl rfl (by first | exact rfl | (simp only [ev, zP, M, E]; exact rfl)) (by simp only [zV, acs, reduceCtorEq, M, E, O, Z, Y, V, Mdl.av, Mdl.cs]) ?_
  apply k0; clear k0; simp only [zP, E]
  (refine aa rfl fun _ k0 => ?_; simp only [zO, zT, acs, reduceCtorEq, M, E, O, Z, Y, V, Mdl.av, Mdl.cs]; (repeat refine an ?_); (try refine .inl ?_); apply k0; clear k0; simp only [zP, E])
  refine ae ?_
  refine ⟨by simp only [zP, M, E]; exact rfl, rfl, ?_, rfl⟩; (repeat refine au rfl ?_); exact aL (by exact rfl) hq4
 case b4 => exact bb
 simp only [aF, az]
 refine ae ?_
 apply k3; clear k3; refine kp [0, 1, 2, 3, 4, 17] ?_
 refine cd (fun hc5 => ?_) (fun hc5 => ?_)
 ·(try simp only [zB, reduceCtorEq] at hc5)
  refine ab fun _ k6 => ?_
  refine af hP hN rfl ?_
  refine aa rfl fun _ k0 => ?_
  refine aw (h := aj gX) rfl rfl (by first | exact rfl | (simp only [ev, zP, M, E]; exact rfl)) (by simp only [zV, acs, reduceCtorEq, M, E, O, Z, Y, V, Mdl.av, Mdl.cs]) ?_
  apply k0; clear k0; simp only [zP, E]
  (refine aa rfl fun _ k0 => ?_; simp only [zO, zT, acs, reduceCtorEq, M, E, O, Z, Y, V, Mdl.av, Mdl.cs]; (repeat refine an ?_); (try refine .inl ?_); apply k0; clear k0; simp only [zP, E])
  refine ae ?_
  apply k6; clear k6; refine kp [0, 1, 2, 3, 4, 17] ?_
  refine aq ?_
  refine ⟨nr, _, rfl, ?_⟩; simp only [zF, zP, M, E, Mdl.av, Mdl.cs]
  refine VLE.of_eq ?_
  first
  | rfl
  | (rw [ib (by assumption)]; rfl)
  | (rw [eY hv0, dK]
     by_cases hy : mvE y = 0
     · rw [lh hv0 hy]; simp
     · simp [hy])
 (try simp only [zB, reduceCtorEq] at hc5)
 have hgr := hc5
 have hg1 := jB hgr.1
 have hg2 := jB hgr.2
 refine ax ?_
 apply k2; clear k2; refine kp [0, 1, 2, 3, 4, 17] ?_
 refine ab fun _ k7 => ?_
 refine af hP hN rfl ?_
 (refine aa rfl fun _ k0 => ?_; simp only [zO, zT, acs, reduceCtorEq, M, E, O, Z, Y, V, Mdl.av, Mdl.cs]; (repeat refine an ?_); (try refine .inl ?_); apply k0; clear k0; simp only [zP, E])
 refine aa rfl fun _ k0 => ?_
 refine aw (h := aj (jd x (fun _ => by omega))) rfl rfl (by first | exact rfl | (simp only [ev, zP, M, E]; exact rfl)) (by simp only [zV, acs, reduceCtorEq, M, E, O, Z, Y, V, Mdl.av, Mdl.cs]) ?_
 apply k0; clear k0; simp only [zP, E]
 iterate 5 (refine aa rfl fun _ k0 => ?_; simp only [zO, zT, acs, reduceCtorEq, M, E, O, Z, Y, V, Mdl.av, Mdl.cs]; (repeat refine an ?_); (try refine .inl ?_); apply k0; clear k0; simp only [zP, E])
 refine ae ?_
 apply k7; clear k7; refine kp [0, 1, 2, 3, 4, 5, 6, 17] ?_
 refine ab fun _ k8 => ?_
 refine af hP hN rfl ?_
 (refine aa rfl fun _ k0 => ?_; simp only [zO, zT, acs, reduceCtorEq, M, E, O, Z, Y, V, Mdl.av, Mdl.cs]; (repeat refine an ?_); (try refine .inl ?_); apply k0; clear k0; simp only [zP, E])
 refine aa rfl fun _ k0 => ?_
 refine aw (h := aj (jd y (fun _ => by omega))) rfl rfl (by first | exact rfl | (simp only [ev, zP, M, E]; exact rfl)) (by simp only [zV, acs, reduceCtorEq, M, E, O, Z, Y, V, Mdl.av, Mdl.cs]) ?_
 apply k0; clear k0; simp only [zP, E]
 iterate 5 (refine aa rfl fun _ k0 => ?_; simp only [zO, zT, acs, reduceCtorEq, M, E, O, Z, Y, V, Mdl.av, Mdl.cs]; (repeat refine an ?_); (try refine .inl ?_); apply k0; clear k0; simp only [zP, E])
 refine ae ?_
 apply k8; clear k8; refine kp [0, 1, 2, 3, 4, 5, 6, 7, 8, 17] ?_
 refine ab fun _ k9 => ?_
 refine ab fun _ k10 => ?_
 refine af hP hN rfl ?_
 iterate 2 (refine aa rfl fun _ k0 => ?_; simp only [zO, zT, acs, reduceCtorEq, M, E, O, Z, Y, V, Mdl.av, Mdl.cs]; (repeat refine an ?_); (try refine .inl ?_); apply k0; clear k0; simp only [zP, E])
 refine aa rfl fun _ k0 => ?_
 refine aw (h := aj (gZ x)) rfl rfl (by first | exact rfl | (simp only [ev, zP, M, E]; exact rfl)) (by simp only [zV, acs, reduceCtorEq, M, E, O, Z, Y, V, Mdl.av, Mdl.cs]) ?_
 apply k0; clear k0; simp only [zP, E]
 iterate 2 (refine aa rfl fun _ k0 => ?_; simp only [zO, zT, acs, reduceCtorEq, M, E, O, Z, Y, V, Mdl.av, Mdl.cs]; (repeat refine an ?_); (try refine .inl ?_); apply k0; clear k0; simp only [zP, E])
 refine' ar (want := false) 2 rfl (m := 33) (by simp only [zP, M, E]; exact rfl) (by kernel_rfl) rfl rfl rfl rfl rfl (fun hg11 => ?a11) ?b11 ?c11
 case a11 =>
  have hq11 := hg11; (try simp only [zB, reduceCtorEq] at hg11); simp only [zE]
  iterate 2 (refine aK rfl fun _ k0 => ?_; simp only [zO, zT, acs, reduceCtorEq, M, E, O, Z, Y, V, Mdl.av, Mdl.cs]; (repeat refine an ?_); (try refine .inl ?_); apply k0; clear k0; simp only [zP, E])
  (refine aa rfl fun _ k0 => ?_; simp only [zO, zT, acs, reduceCtorEq, M, E, O, Z, Y, V, Mdl.av, Mdl.cs]; (repeat refine an ?_); (try refine .inl ?_); apply k0; clear k0; simp only [zP, E])
  refine ae ?_
  refine ⟨by simp only [zP, M, E]; exact rfl, rfl, ?_, rfl⟩; (repeat refine au rfl ?_); exact aL (by exact rfl) hq11
 case b11 => exact bb
 simp only [aF, az]
 refine ae ?_
 apply k10; clear k10; refine kp [0, 1, 2, 3, 4, 5, 6, 7, 8, 17, 36] ?_
 refine cd (fun hc12 => ?_) (fun hc12 => ?_)
 ·(try simp only [zB, reduceCtorEq] at hc12)
  refine ab fun _ k13 => ?_
  refine af hP hN rfl ?_
  iterate 2 (refine aa rfl fun _ k0 => ?_; simp only [zO, zT, acs, reduceCtorEq, M, E, O, Z, Y, V, Mdl.av, Mdl.cs]; (repeat refine an ?_); (try refine .inl ?_); apply k0; clear k0; simp only [zP, E])
  refine aa rfl fun _ k0 => ?_
  refine aw (h := aj (gZ x)) rfl rfl (by first | exact rfl | (simp only [ev, zP, M, E]; exact rfl)) (by simp only [zV, acs, reduceCtorEq, M, E, O, Z, Y, V, Mdl.av, Mdl.cs]) ?_
  apply k0; clear k0; simp only [zP, E]
  iterate 2 (refine aa rfl fun _ k0 => ?_; simp only [zO, zT, acs, reduceCtorEq, M, E, O, Z, Y, V, Mdl.av, Mdl.cs]; (repeat refine an ?_); (try refine .inl ?_); apply k0; clear k0; simp only [zP, E])
  refine' ar (want := true) 2 rfl (m := 41) (by simp only [zP, M, E]; exact rfl) (by kernel_rfl) rfl rfl rfl rfl rfl (fun hg14 => ?a14) ?b14 ?c14
  case a14 =>
   have hq14 := hg14; (try simp only [zB, reduceCtorEq] at hg14); simp only [zE]
   iterate 2 (refine aK rfl fun _ k0 => ?_; simp only [zO, zT, acs, reduceCtorEq, M, E, O, Z, Y, V, Mdl.av, Mdl.cs]; (repeat refine an ?_); (try refine .inl ?_); apply k0; clear k0; simp only [zP, E])
   (refine aa rfl fun _ k0 => ?_; simp only [zO, zT, acs, reduceCtorEq, M, E, O, Z, Y, V, Mdl.av, Mdl.cs]; (repeat refine an ?_); (try refine .inl ?_); apply k0; clear k0; simp only [zP, E])
   refine ae ?_
   refine ⟨by simp only [zP, M, E]; exact rfl, rfl, ?_, rfl⟩; (repeat refine au rfl ?_); exact aL (by exact rfl) hq14
  case b14 => exact bb
  simp only [aF, az]
  (refine aa rfl fun _ k0 => ?_; simp only [zO, zT, acs, reduceCtorEq, M, E, O, Z, Y, V, Mdl.av, Mdl.cs]; (repeat refine an ?_); (try refine .inl ?_); apply k0; clear k0; simp only [zP, E])
  refine' ar (want := true) 1 rfl (m := 45) (by simp only [zP, M, E]; exact rfl) (by kernel_rfl) rfl rfl rfl rfl rfl (fun hg15 => ?a15) ?b15 ?c15
  case a15 =>
   have hq15 := hg15; (try simp only [zB, reduceCtorEq] at hg15); simp only [zE]
   refine aK rfl fun _ k0 => ?_
   refine aw (h := aj gX) rfl rfl (by first | exact rfl | (simp only [ev, zP, M, E]; exact rfl)) (by simp only [zV, acs, reduceCtorEq, M, E, O, Z, Y, V, Mdl.av, Mdl.cs]) ?_
   apply k0; clear k0; simp only [zP, E]
   (refine aa rfl fun _ k0 => ?_; simp only [zO, zT, acs, reduceCtorEq, M, E, O, Z, Y, V, Mdl.av, Mdl.cs]; (repeat refine an ?_); (try refine .inl ?_); apply k0; clear k0; simp only [zP, E])
   refine ae ?_
   refine ⟨by simp only [zP, M, E]; exact rfl, rfl, ?_, rfl⟩; (repeat refine au rfl ?_); exact aL (by exact rfl) hq15
  case b15 => exact bb
  simp only [aF, az]
  (refine aa rfl fun _ k0 => ?_; simp only [zO, zT, acs, reduceCtorEq, M, E, O, Z, Y, V, Mdl.av, Mdl.cs]; (repeat refine an ?_); (try refine .inl ?_); apply k0; clear k0; simp only [zP, E])
  refine ae ?_
  apply k13; clear k13; refine kp [0, 1, 2, 3, 4, 5, 6, 7, 8, 17, 36] ?_
  refine aq ?_
  refine ⟨nr, _, rfl, ?_⟩; simp only [zF, zP, M, E, Mdl.av, Mdl.cs]
  refine VLE.of_eq ?_
  first
  | rfl
  | (rw [ib (by assumption)]; rfl)
  | (rw [eY hv0, dK]
     by_cases hy : mvE y = 0
     · rw [lh hv0 hy]; simp
     · simp [hy])
 (try simp only [zB, reduceCtorEq] at hc12)
 have hv0 := hc12
 have hsz := oK hv0
 refine ax ?_
 apply k9; clear k9; refine kp [0, 1, 2, 3, 4, 5, 6, 7, 8, 17, 36] ?_
 refine ab fun _ k16 => ?_
 refine af hP hN rfl ?_
 (refine aa rfl fun _ k0 => ?_; simp only [zO, zT, acs, reduceCtorEq, M, E, O, Z, Y, V, Mdl.av, Mdl.cs]; (repeat refine an ?_); (try refine .inl ?_); apply k0; clear k0; simp only [zP, E])
 refine aa rfl fun _ k0 => ?_
 refine aw (h := aj (dY (SM x) (by omega))) rfl rfl (by first | exact rfl | (simp only [ev, zP, M, E]; exact rfl)) (by simp only [zV, acs, reduceCtorEq, M, E, O, Z, Y, V, Mdl.av, Mdl.cs]) ?_
 apply k0; clear k0; simp only [zP, E]
 iterate 8 (refine aa rfl fun _ k0 => ?_; simp only [zO, zT, acs, reduceCtorEq, M, E, O, Z, Y, V, Mdl.av, Mdl.cs]; (repeat refine an ?_); (try refine .inl ?_); apply k0; clear k0; simp only [zP, E])
 refine ae ?_
 apply k16; clear k16; refine kp [0, 1, 2, 3, 4, 5, 6, 7, 8, 9, 10, 11, 17, 36] ?_
 refine ab fun _ k17 => ?_
 refine af hP hN rfl ?_
 iterate 2 (refine aa rfl fun _ k0 => ?_; simp only [zO, zT, acs, reduceCtorEq, M, E, O, Z, Y, V, Mdl.av, Mdl.cs]; (repeat refine an ?_); (try refine .inl ?_); apply k0; clear k0; simp only [zP, E])
 refine aa rfl fun _ k0 => ?_
 refine aw (h := aj (lw (PM (SM x)).1 x)) rfl rfl (by first | exact rfl | (simp only [ev, zP, M, E]; exact rfl)) (by simp only [zV, acs, reduceCtorEq, M, E, O, Z, Y, V, Mdl.av, Mdl.cs]) ?_
 apply k0; clear k0; simp only [zP, E]
 (refine aa rfl fun _ k0 => ?_; simp only [zO, zT, acs, reduceCtorEq, M, E, O, Z, Y, V, Mdl.av, Mdl.cs]; (repeat refine an ?_); (try refine .inl ?_); apply k0; clear k0; simp only [zP, E])
 refine' ar (want := true) 2 rfl (m := 57) (by simp only [zP, M, E]; exact rfl) (by kernel_rfl) rfl rfl rfl rfl rfl (fun hg18 => ?a18) ?b18 ?c18
 case a18 =>
  have hq18 := hg18; (try simp only [zB, reduceCtorEq] at hg18); simp only [zE]
  iterate 2 (refine aK rfl fun _ k0 => ?_; simp only [zO, zT, acs, reduceCtorEq, M, E, O, Z, Y, V, Mdl.av, Mdl.cs]; (repeat refine an ?_); (try refine .inl ?_); apply k0; clear k0; simp only [zP, E])
  (refine aa rfl fun _ k0 => ?_; simp only [zO, zT, acs, reduceCtorEq, M, E, O, Z, Y, V, Mdl.av, Mdl.cs]; (repeat refine an ?_); (try refine .inl ?_); apply k0; clear k0; simp only [zP, E])
  refine ae ?_
  refine ⟨by simp only [zP, M, E]; exact rfl, rfl, ?_, rfl⟩; (repeat refine au rfl ?_); exact aL (by exact rfl) hq18
 case b18 => exact bb
 simp only [aF, az]
 (refine aa rfl fun _ k0 => ?_; simp only [zO, zT, acs, reduceCtorEq, M, E, O, Z, Y, V, Mdl.av, Mdl.cs]; (repeat refine an ?_); (try refine .inl ?_); apply k0; clear k0; simp only [zP, E])
 refine' ar (want := true) 2 rfl (m := 61) (by simp only [zP, M, E]; exact rfl) (by kernel_rfl) rfl rfl rfl rfl rfl (fun hg19 => ?a19) ?b19 ?c19
 case a19 =>
  have hq19 := hg19; (try simp only [zB, reduceCtorEq] at hg19); simp only [zE]
  iterate 2 (refine aK rfl fun _ k0 => ?_; simp only [zO, zT, acs, reduceCtorEq, M, E, O, Z, Y, V, Mdl.av, Mdl.cs]; (repeat refine an ?_); (try refine .inl ?_); apply k0; clear k0; simp only [zP, E])
  (refine aa rfl fun _ k0 => ?_; simp only [zO, zT, acs, reduceCtorEq, M, E, O, Z, Y, V, Mdl.av, Mdl.cs]; (repeat refine an ?_); (try refine .inl ?_); apply k0; clear k0; simp only [zP, E])
  refine ae ?_
  refine ⟨by simp only [zP, M, E]; exact rfl, rfl, ?_, rfl⟩; (repeat refine au rfl ?_); exact aL (by exact rfl) hq19
 case b19 => exact bb
 simp only [aF, az]
 (refine aa rfl fun _ k0 => ?_; simp only [zO, zT, acs, reduceCtorEq, M, E, O, Z, Y, V, Mdl.av, Mdl.cs]; (repeat refine an ?_); (try refine .inl ?_); apply k0; clear k0; simp only [zP, E])
 refine' ar (want := true) 11 rfl (m := 65) (by simp only [zP, M, E]; exact rfl) (by kernel_rfl) rfl rfl rfl rfl rfl (fun hg20 => ?a20) ?b20 ?c20
 case a20 =>
  have hq20 := hg20; (try simp only [zB, reduceCtorEq] at hg20); simp only [zE]
  iterate 3 (refine aK rfl fun _ k0 => ?_; simp only [zO, zT, acs, reduceCtorEq, M, E, O, Z, Y, V, Mdl.av, Mdl.cs]; (repeat refine an ?_); (try refine .inl ?_); apply k0; clear k0; simp only [zP, E])
  refine' ar (want := false) 7 rfl (m := 68) (by simp only [zP, M, E]; exact rfl) (by kernel_rfl) rfl rfl rfl rfl rfl (fun hg21 => ?a21) ?b21 ?c21
  case a21 =>
   have hq21 := hg21; (try simp only [zB, reduceCtorEq] at hg21); simp only [zE]
   iterate 5 (refine aK rfl fun _ k0 => ?_; simp only [zO, zT, acs, reduceCtorEq, M, E, O, Z, Y, V, Mdl.av, Mdl.cs]; (repeat refine an ?_); (try refine .inl ?_); apply k0; clear k0; simp only [zP, E])
   refine aK rfl fun _ k0 => ?_
   refine aw (h := aj (lw x y)) rfl rfl (by first | exact rfl | (simp only [ev, zP, M, E]; exact rfl)) (by simp only [zV, acs, reduceCtorEq, M, E, O, Z, Y, V, Mdl.av, Mdl.cs]) ?_
   apply k0; clear k0; simp only [zP, E]
   iterate 2 (refine aK rfl fun _ k0 => ?_; simp only [zO, zT, acs, reduceCtorEq, M, E, O, Z, Y, V, Mdl.av, Mdl.cs]; (repeat refine an ?_); (try refine .inl ?_); apply k0; clear k0; simp only [zP, E])
   refine ae ?_
   refine ⟨by simp only [zP, M, E]; exact rfl, rfl, ?_, rfl⟩; (repeat refine au rfl ?_); exact aL (by exact rfl) hq21
  case b21 => exact bb
  simp only [aF, az]
  (refine aa rfl fun _ k0 => ?_; simp only [zO, zT, acs, reduceCtorEq, M, E, O, Z, Y, V, Mdl.av, Mdl.cs]; (repeat refine an ?_); (try refine .inl ?_); apply k0; clear k0; simp only [zP, E])
  refine ae ?_
  refine ⟨by simp only [zP, M, E]; exact rfl, rfl, ?_, rfl⟩; (repeat refine au rfl ?_); exact aL (by exact rfl) hq20
 case b20 => exact bb
 simp only [aF, az]
 (refine aa rfl fun _ k0 => ?_; simp only [zO, zT, acs, reduceCtorEq, M, E, O, Z, Y, V, Mdl.av, Mdl.cs]; (repeat refine an ?_); (try refine .inl ?_); apply k0; clear k0; simp only [zP, E])
 refine' ar (want := true) 1 rfl (m := 78) (by simp only [zP, M, E]; exact rfl) (by kernel_rfl) rfl rfl rfl rfl rfl (fun hg22 => ?a22) ?b22 ?c22
 case a22 =>
  have hq22 := hg22; (try simp only [zB, reduceCtorEq] at hg22); simp only [zE]
  refine aK rfl fun _ k0 => ?_
  refine aw (h := aj gX) rfl rfl (by first | exact rfl | (simp only [ev, zP, M, E]; exact rfl)) (by simp only [zV, acs, reduceCtorEq, M, E, O, Z, Y, V, Mdl.av, Mdl.cs]) ?_
  apply k0; clear k0; simp only [zP, E]
  (refine aa rfl fun _ k0 => ?_; simp only [zO, zT, acs, reduceCtorEq, M, E, O, Z, Y, V, Mdl.av, Mdl.cs]; (repeat refine an ?_); (try refine .inl ?_); apply k0; clear k0; simp only [zP, E])
  refine ae ?_
  refine ⟨by simp only [zP, M, E]; exact rfl, rfl, ?_, rfl⟩; (repeat refine au rfl ?_); exact aL (by exact rfl) hq22
 case b22 => exact bb
 simp only [aF, az]
 (refine aa rfl fun _ k0 => ?_; simp only [zO, zT, acs, reduceCtorEq, M, E, O, Z, Y, V, Mdl.av, Mdl.cs]; (repeat refine an ?_); (try refine .inl ?_); apply k0; clear k0; simp only [zP, E])
 refine ae ?_
 apply k17; clear k17; refine kp [0, 1, 2, 3, 4, 5, 6, 7, 8, 9, 10, 11, 17, 36] ?_
 refine aq ?_
 refine ⟨nr, _, rfl, ?_⟩; simp only [zF, zP, M, E, Mdl.av, Mdl.cs]
 refine VLE.of_eq ?_
 first
 | rfl
 | (rw [ib (by assumption)]; rfl)
 | (rw [eY hv0, dK]
    by_cases hy : mvE y = 0
    · rw [lh hv0 hy]; simp
    · simp [hy])
end Go.Proofs.YtmfkpljjhiglpaaDoor
