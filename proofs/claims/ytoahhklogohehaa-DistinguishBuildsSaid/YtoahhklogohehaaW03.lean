/- Contracts of functions of this seat, each out of a walk through its code, and plain facts on what they compute. Conditions: those that each theorem names. -/
import Derived.Test.YtoahhklogohehaaW02
set_option linter.unusedSimpArgs false
set_option linter.unusedVariables false
set_option maxRecDepth 100000
namespace Go.Proofs.Ytoahhklogohehaa
open Go Go.AV
open Nat renaming reduceEqDiff → aa, reduceAdd → V, reduceLeDiff → ad, reduceLT → ag, reduceMul → af, reduceSub → ae
open List renaming set_cons_zero → cT, set_cons_succ → cC, getD_cons_zero → ar, length_append → aq, map_cons → aJ, cons_append → aH, map_nil → bg, length_cons → au, nil_append → aZ, take_succ_cons → dQ, length_nil → aC, length_map → aD, length_replicate → bp, take_length → aE, mem_cons_self → aO, mem_cons_of_mem → aL
open Int renaming toNat_natCast → ah
theorem ku (m : Mly) : c7 Try.prog 48 [m.av] (.one (.int .i64 (aR m))) := by
 refine aS Try.func48 rfl (by kernel_rfl) (Nat.le_of_ble_eq_true rfl) rfl fun C hP hN hB => ?_
 replace hN : C.N = 104 := hN
 simp only [bc, V]
 refine ai fun _ k1 => ?_
 refine ak hP hN rfl ?_
 iterate 2 (refine aj rfl fun _ k0 => ?_; simp only [zO, zT, acs, reduceCtorEq, aa, V, ad, ag, af, ae, Mly.av]; (repeat refine an ?_); (try refine .inl ?_); apply k0; clear k0; simp only [zP, V])
 refine am ?_
 apply k1; clear k1; refine kp [0, 1, 2] ?_
 refine ai fun _ k2 => ?_
 refine ak hP hN rfl ?_
 iterate 4 (refine aj rfl fun _ k0 => ?_; simp only [zO, zT, acs, reduceCtorEq, aa, V, ad, ag, af, ae, Mly.av]; (repeat refine an ?_); (try refine .inl ?_); apply k0; clear k0; simp only [zP, V])
 refine am ?_
 apply k2; clear k2; refine kp [0, 1, 2, 3] ?_
 refine ai fun _ k3 => ?_
 refine az ?_
 refine ai fun _ k4 => ?_
 refine ak hP hN rfl ?_
 iterate 4 (refine aj rfl fun _ k0 => ?_; simp only [zO, zT, acs, reduceCtorEq, aa, V, ad, ag, af, ae, Mly.av]; (repeat refine an ?_); (try refine .inl ?_); apply k0; clear k0; simp only [zP, V])
 refine' aT (want := false) 3 rfl (m := 15) (by simp only [zP, aa, V]; exact rfl) (by kernel_rfl) rfl rfl rfl rfl rfl (fun hg5 => ?a5) ?b5 ?c5
 case a5 =>
  have hq5 := hg5; (try simp only [zB, reduceCtorEq] at hg5); simp only [zE]
  iterate 3 (refine bo rfl fun _ k0 => ?_; simp only [zO, zT, acs, reduceCtorEq, aa, V, ad, ag, af, ae, Mly.av]; (repeat refine an ?_); (try refine .inl ?_); apply k0; clear k0; simp only [zP, V])
  (refine aj rfl fun _ k0 => ?_; simp only [zO, zT, acs, reduceCtorEq, aa, V, ad, ag, af, ae, Mly.av]; (repeat refine an ?_); (try refine .inl ?_); apply k0; clear k0; simp only [zP, V])
  refine am ?_
  refine ⟨by simp only [zP, aa, V]; exact rfl, rfl, ?_, rfl⟩; (repeat refine aU rfl ?_); exact bu (by exact rfl) hq5
 case b5 => exact cJ
 simp only [bj, b6]
 (refine aj rfl fun _ k0 => ?_; simp only [zO, zT, acs, reduceCtorEq, aa, V, ad, ag, af, ae, Mly.av]; (repeat refine an ?_); (try refine .inl ?_); apply k0; clear k0; simp only [zP, V])
 refine am ?_
 apply k4; clear k4; refine kp [0, 1, 2, 3, 11] ?_
 refine cd (fun hc6 => ?_) (fun hc6 => ?_)
 ·(try simp only [zB, reduceCtorEq] at hc6)
  refine ai fun _ k7 => ?_
  refine ak hP hN rfl ?_
  (refine aj rfl fun _ k0 => ?_; simp only [zO, zT, acs, reduceCtorEq, aa, V, ad, ag, af, ae, Mly.av]; (repeat refine an ?_); (try refine .inl ?_); apply k0; clear k0; simp only [zP, V])
  refine am ?_
  apply k7; clear k7; refine kp [0, 1, 2, 3, 11] ?_
  refine aG ?_
  refine ⟨nr, _, rfl, ?_⟩; simp only [zF, zP, aa, V, Mly.av]
  refine VLE.of_eq ?_
  refine congrArg (fun n => AV.one (AC.int IntKind.i64 n)) ?_
  symm
  unfold aR
  first
  | (rw [if_pos (by omega)]; done)
  | (rw [if_neg (by omega), if_pos (by omega)]; done)
  | (rw [if_neg (by omega), if_neg (by omega), if_pos (by omega)]; done)
  | (rw [if_neg (by omega), if_neg (by omega), if_neg (by omega), if_pos (by omega)]; done)
  | (rw [if_neg (by omega), if_neg (by omega), if_neg (by omega), if_neg (by omega), if_pos (by omega)]; done)
  | (rw [if_neg (by omega), if_neg (by omega), if_neg (by omega), if_neg (by omega), if_neg (by omega)]
     first
     | exact (cA hrows (by omega) (by rw [cV hc32.1 hc32.2 (j := j) (by omega) (by unfold cb; omega)]; decide)).trans (cV hc32.1 hc32.2 (by omega) (by unfold cb; omega))
     | exact (cA hrows (by omega) (by rw [cW hc32]; decide)).trans (cW hc32)
     | exact cD fun i hi => hrows i (by omega))
 (try simp only [zB, reduceCtorEq] at hc6)
 refine ai fun _ k8 => ?_
 refine ak hP hN rfl ?_
 iterate 3 (refine aj rfl fun _ k0 => ?_; simp only [zO, zT, acs, reduceCtorEq, aa, V, ad, ag, af, ae, Mly.av]; (repeat refine an ?_); (try refine .inl ?_); apply k0; clear k0; simp only [zP, V])
 refine am ?_
 apply k8; clear k8; refine kp [0, 1, 2, 3, 11, 20] ?_
 refine cd (fun hc9 => ?_) (fun hc9 => ?_)
 ·(try simp only [zB, reduceCtorEq] at hc9)
  refine ai fun _ k10 => ?_
  refine ak hP hN rfl ?_
  (refine aj rfl fun _ k0 => ?_; simp only [zO, zT, acs, reduceCtorEq, aa, V, ad, ag, af, ae, Mly.av]; (repeat refine an ?_); (try refine .inl ?_); apply k0; clear k0; simp only [zP, V])
  refine am ?_
  apply k10; clear k10; refine kp [0, 1, 2, 3, 11, 20] ?_
  refine aG ?_
  refine ⟨nr, _, rfl, ?_⟩; simp only [zF, zP, aa, V, Mly.av]
  refine VLE.of_eq ?_
  refine congrArg (fun n => AV.one (AC.int IntKind.i64 n)) ?_
  symm
  unfold aR
  first
  | (rw [if_pos (by omega)]; done)
  | (rw [if_neg (by omega), if_pos (by omega)]; done)
  | (rw [if_neg (by omega), if_neg (by omega), if_pos (by omega)]; done)
  | (rw [if_neg (by omega), if_neg (by omega), if_neg (by omega), if_pos (by omega)]; done)
  | (rw [if_neg (by omega), if_neg (by omega), if_neg (by omega), if_neg (by omega), if_pos (by omega)]; done)
  | (rw [if_neg (by omega), if_neg (by omega), if_neg (by omega), if_neg (by omega), if_neg (by omega)]
     first
     | exact (cA hrows (by omega) (by rw [cV hc32.1 hc32.2 (j := j) (by omega) (by unfold cb; omega)]; decide)).trans (cV hc32.1 hc32.2 (by omega) (by unfold cb; omega))
     | exact (cA hrows (by omega) (by rw [cW hc32]; decide)).trans (cW hc32)
     | exact cD fun i hi => hrows i (by omega))
 (try simp only [zB, reduceCtorEq] at hc9)
 refine ai fun _ k11 => ?_
 refine ak hP hN rfl ?_
 iterate 3 (refine aj rfl fun _ k0 => ?_; simp only [zO, zT, acs, reduceCtorEq, aa, V, ad, ag, af, ae, Mly.av]; (repeat refine an ?_); (try refine .inl ?_); apply k0; clear k0; simp only [zP, V])
 refine am ?_
 apply k11; clear k11; refine kp [0, 1, 2, 3, 11, 20, 23] ?_
 refine cd (fun hc12 => ?_) (fun hc12 => ?_)
 ·(try simp only [zB, reduceCtorEq] at hc12)
  refine ai fun _ k13 => ?_
  refine ak hP hN rfl ?_
  (refine aj rfl fun _ k0 => ?_; simp only [zO, zT, acs, reduceCtorEq, aa, V, ad, ag, af, ae, Mly.av]; (repeat refine an ?_); (try refine .inl ?_); apply k0; clear k0; simp only [zP, V])
  refine am ?_
  apply k13; clear k13; refine kp [0, 1, 2, 3, 11, 20, 23] ?_
  refine aG ?_
  refine ⟨nr, _, rfl, ?_⟩; simp only [zF, zP, aa, V, Mly.av]
  refine VLE.of_eq ?_
  refine congrArg (fun n => AV.one (AC.int IntKind.i64 n)) ?_
  symm
  unfold aR
  first
  | (rw [if_pos (by omega)]; done)
  | (rw [if_neg (by omega), if_pos (by omega)]; done)
  | (rw [if_neg (by omega), if_neg (by omega), if_pos (by omega)]; done)
  | (rw [if_neg (by omega), if_neg (by omega), if_neg (by omega), if_pos (by omega)]; done)
  | (rw [if_neg (by omega), if_neg (by omega), if_neg (by omega), if_neg (by omega), if_pos (by omega)]; done)
  | (rw [if_neg (by omega), if_neg (by omega), if_neg (by omega), if_neg (by omega), if_neg (by omega)]
     first
     | exact (cA hrows (by omega) (by rw [cV hc32.1 hc32.2 (j := j) (by omega) (by unfold cb; omega)]; decide)).trans (cV hc32.1 hc32.2 (by omega) (by unfold cb; omega))
     | exact (cA hrows (by omega) (by rw [cW hc32]; decide)).trans (cW hc32)
     | exact cD fun i hi => hrows i (by omega))
 (try simp only [zB, reduceCtorEq] at hc12)
 refine ai fun _ k14 => ?_
 refine ak hP hN rfl ?_
 iterate 4 (refine aj rfl fun _ k0 => ?_; simp only [zO, zT, acs, reduceCtorEq, aa, V, ad, ag, af, ae, Mly.av]; (repeat refine an ?_); (try refine .inl ?_); apply k0; clear k0; simp only [zP, V])
 refine' aT (want := false) 4 rfl (m := 30) (by simp only [zP, aa, V]; exact rfl) (by kernel_rfl) rfl rfl rfl rfl rfl (fun hg15 => ?a15) ?b15 ?c15
 case a15 =>
  have hq15 := hg15; (try simp only [zB, reduceCtorEq] at hg15); simp only [zE]
  iterate 4 (refine bo rfl fun _ k0 => ?_; simp only [zO, zT, acs, reduceCtorEq, aa, V, ad, ag, af, ae, Mly.av]; (repeat refine an ?_); (try refine .inl ?_); apply k0; clear k0; simp only [zP, V])
  (refine aj rfl fun _ k0 => ?_; simp only [zO, zT, acs, reduceCtorEq, aa, V, ad, ag, af, ae, Mly.av]; (repeat refine an ?_); (try refine .inl ?_); apply k0; clear k0; simp only [zP, V])
  refine am ?_
  refine ⟨by simp only [zP, aa, V]; exact rfl, rfl, ?_, rfl⟩; (repeat refine aU rfl ?_); exact bu (by exact rfl) hq15
 case b15 => exact cJ
 simp only [bj, b6]
 (refine aj rfl fun _ k0 => ?_; simp only [zO, zT, acs, reduceCtorEq, aa, V, ad, ag, af, ae, Mly.av]; (repeat refine an ?_); (try refine .inl ?_); apply k0; clear k0; simp only [zP, V])
 refine am ?_
 apply k14; clear k14; refine kp [0, 1, 2, 3, 11, 20, 23, 26] ?_
 refine cd (fun hc16 => ?_) (fun hc16 => ?_)
 ·(try simp only [zB, reduceCtorEq] at hc16)
  refine ai fun _ k17 => ?_
  refine ak hP hN rfl ?_
  (refine aj rfl fun _ k0 => ?_; simp only [zO, zT, acs, reduceCtorEq, aa, V, ad, ag, af, ae, Mly.av]; (repeat refine an ?_); (try refine .inl ?_); apply k0; clear k0; simp only [zP, V])
  refine am ?_
  apply k17; clear k17; refine kp [0, 1, 2, 3, 11, 20, 23, 26] ?_
  refine aG ?_
  refine ⟨nr, _, rfl, ?_⟩; simp only [zF, zP, aa, V, Mly.av]
  refine VLE.of_eq ?_
  refine congrArg (fun n => AV.one (AC.int IntKind.i64 n)) ?_
  symm
  unfold aR
  first
  | (rw [if_pos (by omega)]; done)
  | (rw [if_neg (by omega), if_pos (by omega)]; done)
  | (rw [if_neg (by omega), if_neg (by omega), if_pos (by omega)]; done)
  | (rw [if_neg (by omega), if_neg (by omega), if_neg (by omega), if_pos (by omega)]; done)
  | (rw [if_neg (by omega), if_neg (by omega), if_neg (by omega), if_neg (by omega), if_pos (by omega)]; done)
  | (rw [if_neg (by omega), if_neg (by omega), if_neg (by omega), if_neg (by omega), if_neg (by omega)]
     first
     | exact (cA hrows (by omega) (by rw [cV hc32.1 hc32.2 (j := j) (by omega) (by unfold cb; omega)]; decide)).trans (cV hc32.1 hc32.2 (by omega) (by unfold cb; omega))
     | exact (cA hrows (by omega) (by rw [cW hc32]; decide)).trans (cW hc32)
     | exact cD fun i hi => hrows i (by omega))
 (try simp only [zB, reduceCtorEq] at hc16)
 refine ai fun _ k18 => ?_
 refine ak hP hN rfl ?_
 iterate 6 (refine aj rfl fun _ k0 => ?_; simp only [zO, zT, acs, reduceCtorEq, aa, V, ad, ag, af, ae, Mly.av]; (repeat refine an ?_); (try refine .inl ?_); apply k0; clear k0; simp only [zP, V])
 refine am ?_
 apply k18; clear k18; refine kp [0, 1, 2, 3, 11, 20, 23, 26, 36] ?_
 refine cd (fun hc19 => ?_) (fun hc19 => ?_)
 ·(try simp only [zB, reduceCtorEq] at hc19)
  refine ai fun _ k20 => ?_
  refine ak hP hN rfl ?_
  (refine aj rfl fun _ k0 => ?_; simp only [zO, zT, acs, reduceCtorEq, aa, V, ad, ag, af, ae, Mly.av]; (repeat refine an ?_); (try refine .inl ?_); apply k0; clear k0; simp only [zP, V])
  refine am ?_
  apply k20; clear k20; refine kp [0, 1, 2, 3, 11, 20, 23, 26, 36] ?_
  refine aG ?_
  refine ⟨nr, _, rfl, ?_⟩; simp only [zF, zP, aa, V, Mly.av]
  refine VLE.of_eq ?_
  refine congrArg (fun n => AV.one (AC.int IntKind.i64 n)) ?_
  symm
  unfold aR
  first
  | (rw [if_pos (by omega)]; done)
  | (rw [if_neg (by omega), if_pos (by omega)]; done)
  | (rw [if_neg (by omega), if_neg (by omega), if_pos (by omega)]; done)
  | (rw [if_neg (by omega), if_neg (by omega), if_neg (by omega), if_pos (by omega)]; done)
  | (rw [if_neg (by omega), if_neg (by omega), if_neg (by omega), if_neg (by omega), if_pos (by omega)]; done)
  | (rw [if_neg (by omega), if_neg (by omega), if_neg (by omega), if_neg (by omega), if_neg (by omega)]
     first
     | exact (cA hrows (by omega) (by rw [cV hc32.1 hc32.2 (j := j) (by omega) (by unfold cb; omega)]; decide)).trans (cV hc32.1 hc32.2 (by omega) (by unfold cb; omega))
     | exact (cA hrows (by omega) (by rw [cW hc32]; decide)).trans (cW hc32)
     | exact cD fun i hi => hrows i (by omega))
 (try simp only [zB, reduceCtorEq] at hc19)
 refine ay ?_
 apply k3; clear k3; refine kp [0, 1, 2, 3, 11, 20, 23, 26, 36] ?_
 refine ai fun _ k21 => ?_
 refine ai fun _ k22 => ?_
 refine ak hP hN rfl ?_
 iterate 2 (refine aj rfl fun _ k0 => ?_; simp only [zO, zT, acs, reduceCtorEq, aa, V, ad, ag, af, ae, Mly.av]; (repeat refine an ?_); (try refine .inl ?_); apply k0; clear k0; simp only [zP, V])
 refine am ?_
 apply k22; clear k22; refine kp [0, 1, 2, 3, 11, 20, 23, 26, 36, 42, 43] ?_
 refine az ?_
 refine ba (fun n23 s23 => ∃ (k : Nat), (k ≤ m.nx.length) ∧ (∀ i, i < k → jd m i = 0) ∧ n23 = m.nx.length - k ∧ s23 = { env := [(1, .one (.ptr 0 0 0 0)), (3, .one (.int .i64 (m.nx.length : Int))), (42, .one (.int .i64 (m.nx.length : Int))), (43, .one (.int .i64 (k : Int)))], L := [.vars 24 [.int .i64 m.inp, .int .i64 m.st, .list (.list (.int .i64)) m.nx, .list (.list (.int .i64)) m.ot]] }) ?_ ?_
 ·exact ⟨_, _, ax [1, 3, 42, 43], 0, Nat.zero_le _, fun i hi => by omega, rfl, rfl⟩
 rintro n23 s23 ⟨k, hk, hrows, rfl, rfl⟩
 refine ai fun _ k24 => ?_
 refine ak hP hN rfl ?_
 (refine aj rfl fun _ k0 => ?_; simp only [zO, zT, acs, reduceCtorEq, aa, V, ad, ag, af, ae, Mly.av]; (repeat refine an ?_); (try refine .inl ?_); apply k0; clear k0; simp only [zP, V])
 refine am ?_
 apply k24; clear k24; refine kp [1, 3, 42, 43, 44] ?_
 refine ai fun _ k25 => ?_
 refine cd (fun hc26 => ?_) (fun hc26 => ?_)
 ·(try simp only [zB, reduceCtorEq] at hc26)
  refine ay ?_
  apply k25; clear k25; refine kp [1, 3, 42, 43, 44] ?_
  refine ai fun _ k27 => ?_
  refine az ?_
  refine ai fun _ k28 => ?_
  refine ak hP hN rfl ?_
  iterate 2 (refine aj rfl fun _ k0 => ?_; simp only [zO, zT, acs, reduceCtorEq, aa, V, ad, ag, af, ae, Mly.av]; (repeat refine an ?_); (try refine .inl ?_); apply k0; clear k0; simp only [zP, V])
  refine am ?_
  apply k28; clear k28; refine kp [1, 3, 4, 42, 43, 44] ?_
  refine ai fun _ k29 => ?_
  refine ai fun _ k30 => ?_
  refine bf hP hN Try.mixed rfl ?_
  iterate 10 (refine aj rfl fun _ k0 => ?_; simp only [zO, zT, acs, reduceCtorEq, aa, V, ad, ag, af, ae, Mly.av]; (repeat refine an ?_); (try refine .inl ?_); apply k0; clear k0; simp only [zP, V])
  refine' aT (want := false) 9 rfl (m := 55) (by simp only [zP, aa, V]; exact rfl) (by kernel_rfl) rfl rfl rfl rfl rfl (fun hg31 => ?a31) ?b31 ?c31
  case a31 =>
   have hq31 := hg31; (try simp only [zB, reduceCtorEq] at hg31); simp only [zE]
   iterate 9 (refine bo rfl fun _ k0 => ?_; simp only [zO, zT, acs, reduceCtorEq, aa, V, ad, ag, af, ae, Mly.av]; (repeat refine an ?_); (try refine .inl ?_); apply k0; clear k0; simp only [zP, V])
   (refine aj rfl fun _ k0 => ?_; simp only [zO, zT, acs, reduceCtorEq, aa, V, ad, ag, af, ae, Mly.av]; (repeat refine an ?_); (try refine .inl ?_); apply k0; clear k0; simp only [zP, V])
   refine am ?_
   refine ⟨by simp only [zP, aa, V]; exact rfl, rfl, ?_, rfl⟩; (repeat refine aU rfl ?_); exact bu (by exact rfl) hq31
  case b31 => exact cJ
  simp only [bj, b6]
  refine am ?_
  refine ⟨by kernel_rfl, ?_⟩
  apply k30; clear k30; refine kp [1, 3, 4, 42, 43, 44, 65] ?_
  refine cd (fun hc32 => ?_) (fun hc32 => ?_)
  ·(try simp only [zB, reduceCtorEq] at hc32)
   refine ai fun _ k33 => ?_
   refine ak hP hN rfl ?_
   (refine aj rfl fun _ k0 => ?_; simp only [zO, zT, acs, reduceCtorEq, aa, V, ad, ag, af, ae, Mly.av]; (repeat refine an ?_); (try refine .inl ?_); apply k0; clear k0; simp only [zP, V])
   refine am ?_
   apply k33; clear k33; refine kp [1, 2, 3, 4, 42, 43, 44, 65] ?_
   refine aG ?_
   refine ⟨nr, _, rfl, ?_⟩; simp only [zF, zP, aa, V, Mly.av]
   refine VLE.of_eq ?_
   refine congrArg (fun n => AV.one (AC.int IntKind.i64 n)) ?_
   symm
   unfold aR
   first
   | (rw [if_pos (by omega)]; done)
   | (rw [if_neg (by omega), if_pos (by omega)]; done)
   | (rw [if_neg (by omega), if_neg (by omega), if_pos (by omega)]; done)
   | (rw [if_neg (by omega), if_neg (by omega), if_neg (by omega), if_pos (by omega)]; done)
   | (rw [if_neg (by omega), if_neg (by omega), if_neg (by omega), if_neg (by omega), if_pos (by omega)]; done)
   | (rw [if_neg (by omega), if_neg (by omega), if_neg (by omega), if_neg (by omega), if_neg (by omega)]
      first
      | exact (cA hrows (by omega) (by rw [cV hc32.1 hc32.2 (j := j) (by omega) (by unfold cb; omega)]; decide)).trans (cV hc32.1 hc32.2 (by omega) (by unfold cb; omega))
      | exact (cA hrows (by omega) (by rw [cW hc32]; decide)).trans (cW hc32)
      | exact cD fun i hi => hrows i (by omega))
  (try simp only [zB, reduceCtorEq] at hc32)
  refine ay ?_
  apply k29; clear k29; refine kp [1, 3, 4, 42, 43, 44, 65] ?_
  refine ai fun _ k34 => ?_
  refine ak hP hN rfl ?_
  iterate 3 (refine aj rfl fun _ k0 => ?_; simp only [zO, zT, acs, reduceCtorEq, aa, V, ad, ag, af, ae, Mly.av]; (repeat refine an ?_); (try refine .inl ?_); apply k0; clear k0; simp only [zP, V])
  refine am ?_
  apply k34; clear k34; refine kp [1, 3, 4, 42, 43, 44, 65, 67, 68] ?_
  refine az ?_
  refine ba (fun n35 s35 => ∃ (j : Nat), ((j : Int) ≤ m.inp) ∧ (∀ a, a < j → ¬ cb m k a) ∧ n35 = m.inp.toNat - j ∧ s35 = { env := [(1, .one (.ptr 0 0 0 0)), (3, .one (.int .i64 (m.nx.length : Int))), (4, .one (.int .i64 (k : Int))), (42, .one (.int .i64 (m.nx.length : Int))), (43, .one (.int .i64 (k : Int))), (67, .one (.int .i64 m.inp)), (68, .one (.int .i64 (j : Int)))], L := [.vars 24 [.int .i64 m.inp, .int .i64 m.st, .list (.list (.int .i64)) m.nx, .list (.list (.int .i64)) m.ot]] }) ?_ ?_
  ·refine ⟨_, _, ax [1, 3, 4, 42, 43, 67, 68], 0, ?_, fun i hi => by omega, rfl, rfl⟩; omega
  rintro n35 s35 ⟨j, hj, hcells, rfl, rfl⟩
  refine ai fun _ k36 => ?_
  refine ak hP hN rfl ?_
  (refine aj rfl fun _ k0 => ?_; simp only [zO, zT, acs, reduceCtorEq, aa, V, ad, ag, af, ae, Mly.av]; (repeat refine an ?_); (try refine .inl ?_); apply k0; clear k0; simp only [zP, V])
  refine am ?_
  apply k36; clear k36; refine kp [1, 3, 4, 42, 43, 67, 68, 69] ?_
  refine ai fun _ k37 => ?_
  refine cd (fun hc38 => ?_) (fun hc38 => ?_)
  ·(try simp only [zB, reduceCtorEq] at hc38)
   refine ay ?_
   apply k37; clear k37; refine kp [1, 3, 4, 42, 43, 67, 68, 69] ?_
   refine ai fun _ k39 => ?_
   refine az ?_
   refine ai fun _ k40 => ?_
   refine ak hP hN rfl ?_
   iterate 2 (refine aj rfl fun _ k0 => ?_; simp only [zO, zT, acs, reduceCtorEq, aa, V, ad, ag, af, ae, Mly.av]; (repeat refine an ?_); (try refine .inl ?_); apply k0; clear k0; simp only [zP, V])
   refine am ?_
   apply k40; clear k40; refine kp [1, 3, 4, 5, 42, 43, 67, 68, 69] ?_
   refine ai fun _ k41 => ?_
   refine bf hP hN Try.mixed rfl ?_
   iterate 18 (refine aj rfl fun _ k0 => ?_; simp only [zO, zT, acs, reduceCtorEq, aa, V, ad, ag, af, ae, Mly.av]; (repeat refine an ?_); (try refine .inl ?_); apply k0; clear k0; simp only [zP, V])
   refine am ?_
   refine ⟨by kernel_rfl, ?_⟩
   apply k41; clear k41; refine kp [1, 3, 4, 5, 6, 7, 42, 43, 67, 68, 69] ?_
   refine ai fun _ k42 => ?_
   refine ak hP hN rfl ?_
   iterate 3 (refine aj rfl fun _ k0 => ?_; simp only [zO, zT, acs, reduceCtorEq, aa, V, ad, ag, af, ae, Mly.av]; (repeat refine an ?_); (try refine .inl ?_); apply k0; clear k0; simp only [zP, V])
   refine' aT (want := false) 3 rfl (m := 89) (by simp only [zP, aa, V]; exact rfl) (by kernel_rfl) rfl rfl rfl rfl rfl (fun hg43 => ?a43) ?b43 ?c43
   case a43 =>
    have hq43 := hg43; (try simp only [zB, reduceCtorEq] at hg43); simp only [zE]
    iterate 3 (refine bo rfl fun _ k0 => ?_; simp only [zO, zT, acs, reduceCtorEq, aa, V, ad, ag, af, ae, Mly.av]; (repeat refine an ?_); (try refine .inl ?_); apply k0; clear k0; simp only [zP, V])
    (refine aj rfl fun _ k0 => ?_; simp only [zO, zT, acs, reduceCtorEq, aa, V, ad, ag, af, ae, Mly.av]; (repeat refine an ?_); (try refine .inl ?_); apply k0; clear k0; simp only [zP, V])
    refine am ?_
    refine ⟨by simp only [zP, aa, V]; exact rfl, rfl, ?_, rfl⟩; (repeat refine aU rfl ?_); exact bu (by exact rfl) hq43
   case b43 => exact cJ
   simp only [bj, b6]
   (refine aj rfl fun _ k0 => ?_; simp only [zO, zT, acs, reduceCtorEq, aa, V, ad, ag, af, ae, Mly.av]; (repeat refine an ?_); (try refine .inl ?_); apply k0; clear k0; simp only [zP, V])
   refine' aT (want := false) 2 rfl (m := 94) (by simp only [zP, aa, V]; exact rfl) (by kernel_rfl) rfl rfl rfl rfl rfl (fun hg44 => ?a44) ?b44 ?c44
   case a44 =>
    have hq44 := hg44; (try simp only [zB, reduceCtorEq] at hg44); simp only [zE]
    iterate 2 (refine bo rfl fun _ k0 => ?_; simp only [zO, zT, acs, reduceCtorEq, aa, V, ad, ag, af, ae, Mly.av]; (repeat refine an ?_); (try refine .inl ?_); apply k0; clear k0; simp only [zP, V])
    (refine aj rfl fun _ k0 => ?_; simp only [zO, zT, acs, reduceCtorEq, aa, V, ad, ag, af, ae, Mly.av]; (repeat refine an ?_); (try refine .inl ?_); apply k0; clear k0; simp only [zP, V])
    refine am ?_
    refine ⟨by simp only [zP, aa, V]; exact rfl, rfl, ?_, rfl⟩; (repeat refine aU rfl ?_); exact bu (by exact rfl) hq44
   case b44 => exact cJ
   simp only [bj, b6]
   (refine aj rfl fun _ k0 => ?_; simp only [zO, zT, acs, reduceCtorEq, aa, V, ad, ag, af, ae, Mly.av]; (repeat refine an ?_); (try refine .inl ?_); apply k0; clear k0; simp only [zP, V])
   refine' aT (want := false) 2 rfl (m := 98) (by simp only [zP, aa, V]; exact rfl) (by kernel_rfl) rfl rfl rfl rfl rfl (fun hg45 => ?a45) ?b45 ?c45
   case a45 =>
    have hq45 := hg45; (try simp only [zB, reduceCtorEq] at hg45); simp only [zE]
    iterate 2 (refine bo rfl fun _ k0 => ?_; simp only [zO, zT, acs, reduceCtorEq, aa, V, ad, ag, af, ae, Mly.av]; (repeat refine an ?_); (try refine .inl ?_); apply k0; clear k0; simp only [zP, V])
    (refine aj rfl fun _ k0 => ?_; simp only [zO, zT, acs, reduceCtorEq, aa, V, ad, ag, af, ae, Mly.av]; (repeat refine an ?_); (try refine .inl ?_); apply k0; clear k0; simp only [zP, V])
    refine am ?_
    refine ⟨by simp only [zP, aa, V]; exact rfl, rfl, ?_, rfl⟩; (repeat refine aU rfl ?_); exact bu (by exact rfl) hq45
   case b45 => exact cJ
   simp only [bj, b6]
   refine am ?_
   apply k42; clear k42; refine kp [1, 3, 4, 5, 6, 7, 42, 43, 67, 68, 69, 101] ?_
   refine cd (fun hc46 => ?_) (fun hc46 => ?_)
   ·(try simp only [zB, reduceCtorEq] at hc46)
    refine ai fun _ k47 => ?_
    refine ak hP hN rfl ?_
    (refine aj rfl fun _ k0 => ?_; simp only [zO, zT, acs, reduceCtorEq, aa, V, ad, ag, af, ae, Mly.av]; (repeat refine an ?_); (try refine .inl ?_); apply k0; clear k0; simp only [zP, V])
    refine am ?_
    apply k47; clear k47; refine kp [1, 2, 3, 4, 5, 6, 7, 42, 43, 67, 68, 69, 101] ?_
    refine aG ?_
    refine ⟨nr, _, rfl, ?_⟩; simp only [zF, zP, aa, V, Mly.av]
    refine VLE.of_eq ?_
    refine congrArg (fun n => AV.one (AC.int IntKind.i64 n)) ?_
    symm
    unfold aR
    first
    | (rw [if_pos (by omega)]; done)
    | (rw [if_neg (by omega), if_pos (by omega)]; done)
    | (rw [if_neg (by omega), if_neg (by omega), if_pos (by omega)]; done)
    | (rw [if_neg (by omega), if_neg (by omega), if_neg (by omega), if_pos (by omega)]; done)
    | (rw [if_neg (by omega), if_neg (by omega), if_neg (by omega), if_neg (by omega), if_pos (by omega)]; done)
    | (rw [if_neg (by omega), if_neg (by omega), if_neg (by omega), if_neg (by omega), if_neg (by omega)]
       first
       | exact (cA hrows (by omega) (by rw [cV hc32.1 hc32.2 (j := j) (by omega) (by unfold cb; omega)]; decide)).trans (cV hc32.1 hc32.2 (by omega) (by unfold cb; omega))
       | exact (cA hrows (by omega) (by rw [cW hc32]; decide)).trans (cW hc32)
       | exact cD fun i hi => hrows i (by omega))
   (try simp only [zB, reduceCtorEq] at hc46)
   refine ay ?_
   apply k39; clear k39; refine kp [1, 3, 4, 5, 6, 7, 42, 43, 67, 68, 69, 101] ?_
   refine ak hP hN rfl ?_
   iterate 2 (refine aj rfl fun _ k0 => ?_; simp only [zO, zT, acs, reduceCtorEq, aa, V, ad, ag, af, ae, Mly.av]; (repeat refine an ?_); (try refine .inl ?_); apply k0; clear k0; simp only [zP, V])
   refine am ?_
   refine ⟨_, _, ?_, ax [1, 3, 4, 42, 43, 67, 68], j + 1, ?_, fun a ha => ?_, rfl, rfl⟩
   · omega
   · omega
   · by_cases e : a = j
     · rw [e]; unfold cb; omega
     · exact hcells a (by omega)
  (try simp only [zB, reduceCtorEq] at hc38)
  refine aV ?_
  apply k27; clear k27; refine kp [1, 3, 4, 42, 43, 67, 68, 69] ?_
  refine ak hP hN rfl ?_
  iterate 2 (refine aj rfl fun _ k0 => ?_; simp only [zO, zT, acs, reduceCtorEq, aa, V, ad, ag, af, ae, Mly.av]; (repeat refine an ?_); (try refine .inl ?_); apply k0; clear k0; simp only [zP, V])
  refine am ?_
  refine ⟨_, _, ?_, ax [1, 3, 42, 43], k + 1, by omega, fun i hi => ?_, rfl, rfl⟩
  · omega
  · by_cases e : i = k
    · rw [e]; exact lW hc32.1 hc32.2 fun a ha => hcells a (by omega)
    · exact hrows i (by omega)
 (try simp only [zB, reduceCtorEq] at hc26)
 refine aV ?_
 apply k21; clear k21; refine kp [1, 3, 42, 43, 44] ?_
 refine ai fun _ k48 => ?_
 refine ak hP hN rfl ?_
 (refine aj rfl fun _ k0 => ?_; simp only [zO, zT, acs, reduceCtorEq, aa, V, ad, ag, af, ae, Mly.av]; (repeat refine an ?_); (try refine .inl ?_); apply k0; clear k0; simp only [zP, V])
 refine am ?_
 apply k48; clear k48; refine kp [1, 2, 3, 42, 43, 44] ?_
 refine aG ?_
 refine ⟨nr, _, rfl, ?_⟩; simp only [zF, zP, aa, V, Mly.av]
 refine VLE.of_eq ?_
 refine congrArg (fun n => AV.one (AC.int IntKind.i64 n)) ?_
 symm
 unfold aR
 first
 | (rw [if_pos (by omega)]; done)
 | (rw [if_neg (by omega), if_pos (by omega)]; done)
 | (rw [if_neg (by omega), if_neg (by omega), if_pos (by omega)]; done)
 | (rw [if_neg (by omega), if_neg (by omega), if_neg (by omega), if_pos (by omega)]; done)
 | (rw [if_neg (by omega), if_neg (by omega), if_neg (by omega), if_neg (by omega), if_pos (by omega)]; done)
 | (rw [if_neg (by omega), if_neg (by omega), if_neg (by omega), if_neg (by omega), if_neg (by omega)]
    first
    | exact (cA hrows (by omega) (by rw [cV hc32.1 hc32.2 (j := j) (by omega) (by unfold cb; omega)]; decide)).trans (cV hc32.1 hc32.2 (by omega) (by unfold cb; omega))
    | exact (cA hrows (by omega) (by rw [cW hc32]; decide)).trans (cW hc32)
    | exact cD fun i hi => hrows i (by omega))
theorem AP (m : Mly) (k : Int) : c7 Try.prog 89 [m.av, .one (.int .i64 k)] (.tup [.one (.list (.int .i64) (if aR m = 0 then m.refC k else [])), .one (.int .i64 (aR m))]) := by
 refine aS Try.func89 rfl (by kernel_rfl) (Nat.le_of_ble_eq_true rfl) rfl fun C hP hN hB => ?_
 replace hN : C.N = 21 := hN
 simp only [bc, V]
 refine ai fun _ k1 => ?_
 refine ak hP hN rfl ?_
 iterate 3 (refine aj rfl fun _ k0 => ?_; simp only [zO, zT, acs, reduceCtorEq, aa, V, ad, ag, af, ae, Mly.av]; (repeat refine an ?_); (try refine .inl ?_); apply k0; clear k0; simp only [zP, V])
 refine am ?_
 apply k1; clear k1; refine kp [0, 1, 2, 4, 5] ?_
 refine ai fun _ k2 => ?_
 refine ai fun _ k3 => ?_
 refine ak hP hN rfl ?_
 (refine aj rfl fun _ k0 => ?_; simp only [zO, zT, acs, reduceCtorEq, aa, V, ad, ag, af, ae, Mly.av]; (repeat refine an ?_); (try refine .inl ?_); apply k0; clear k0; simp only [zP, V])
 refine aj rfl fun _ k0 => ?_
 refine aK (h := aB (ku m)) rfl rfl (by first | exact rfl | (simp only [ev, zP, aa, V]; exact rfl)) (by simp only [zV, acs, reduceCtorEq, aa, V, ad, ag, af, ae, Mly.av]) ?_
 apply k0; clear k0; simp only [zP, V]
 (refine aj rfl fun _ k0 => ?_; simp only [zO, zT, acs, reduceCtorEq, aa, V, ad, ag, af, ae, Mly.av]; (repeat refine an ?_); (try refine .inl ?_); apply k0; clear k0; simp only [zP, V])
 refine am ?_
 apply k3; clear k3; refine kp [0, 1, 2, 4, 5, 6] ?_
 refine ai fun _ k4 => ?_
 refine ak hP hN rfl ?_
 iterate 2 (refine aj rfl fun _ k0 => ?_; simp only [zO, zT, acs, reduceCtorEq, aa, V, ad, ag, af, ae, Mly.av]; (repeat refine an ?_); (try refine .inl ?_); apply k0; clear k0; simp only [zP, V])
 refine am ?_
 apply k4; clear k4; refine kp [0, 1, 2, 4, 5, 6, 12] ?_
 refine cd (fun hc5 => ?_) (fun hc5 => ?_)
 ·(try simp only [zB, reduceCtorEq] at hc5)
  refine ai fun _ k6 => ?_
  refine ak hP hN rfl ?_
  iterate 3 (refine aj rfl fun _ k0 => ?_; simp only [zO, zT, acs, reduceCtorEq, aa, V, ad, ag, af, ae, Mly.av]; (repeat refine an ?_); (try refine .inl ?_); apply k0; clear k0; simp only [zP, V])
  refine am ?_
  apply k6; clear k6; refine kp [0, 1, 2, 4, 5, 6, 12] ?_
  refine aG ?_
  refine ⟨nr, _, rfl, ?_⟩; simp only [zF, zP, aa, V, Mly.av]
  first
  | (rw [if_neg ‹¬aR m = 0›]; exact bS ⟨aQ (bl rfl), aQ (.refl _), trivial⟩)
  | (rw [if_pos ‹aR m = 0›, ‹aR m = 0›]; exact bS ⟨aQ (.refl _), aQ (.refl _), trivial⟩)
 (try simp only [zB, reduceCtorEq] at hc5)
 refine ay ?_
 apply k2; clear k2; refine kp [0, 1, 2, 4, 5, 6, 12] ?_
 refine ai fun _ k7 => ?_
 refine ak hP hN rfl ?_
 iterate 2 (refine aj rfl fun _ k0 => ?_; simp only [zO, zT, acs, reduceCtorEq, aa, V, ad, ag, af, ae, Mly.av]; (repeat refine an ?_); (try refine .inl ?_); apply k0; clear k0; simp only [zP, V])
 refine aj rfl fun _ k0 => ?_
 refine aK (h := aB (w9 m k (fc (by assumption)))) rfl rfl (by first | exact rfl | (simp only [ev, zP, aa, V]; exact rfl)) (by simp only [zV, acs, reduceCtorEq, aa, V, ad, ag, af, ae, Mly.av]) ?_
 apply k0; clear k0; simp only [zP, V]
 iterate 5 (refine aj rfl fun _ k0 => ?_; simp only [zO, zT, acs, reduceCtorEq, aa, V, ad, ag, af, ae, Mly.av]; (repeat refine an ?_); (try refine .inl ?_); apply k0; clear k0; simp only [zP, V])
 refine am ?_
 apply k7; clear k7; refine kp [0, 1, 2, 4, 5, 6, 7, 12] ?_
 refine ai fun _ k8 => ?_
 refine ak hP hN rfl ?_
 iterate 3 (refine aj rfl fun _ k0 => ?_; simp only [zO, zT, acs, reduceCtorEq, aa, V, ad, ag, af, ae, Mly.av]; (repeat refine an ?_); (try refine .inl ?_); apply k0; clear k0; simp only [zP, V])
 refine am ?_
 apply k8; clear k8; refine kp [0, 1, 2, 4, 5, 6, 7, 12] ?_
 refine aG ?_
 refine ⟨nr, _, rfl, ?_⟩; simp only [zF, zP, aa, V, Mly.av]
 first
 | (rw [if_neg ‹¬aR m = 0›]; exact bS ⟨aQ (bl rfl), aQ (.refl _), trivial⟩)
 | (rw [if_pos ‹aR m = 0›, ‹aR m = 0›]; exact bS ⟨aQ (.refl _), aQ (.refl _), trivial⟩)
theorem w6 (m : Mly) : c7 Try.prog 82 [m.av] (.tup [.one (.list (.int .i64) (if aR m = 0 then m.eqc else [])), .one (.int .i64 (aR m))]) := by
 refine aS Try.func82 rfl (by kernel_rfl) (Nat.le_of_ble_eq_true rfl) rfl fun C hP hN hB => ?_
 replace hN : C.N = 8 := hN
 simp only [bc, V]
 refine ai fun _ k1 => ?_
 refine ak hP hN rfl ?_
 iterate 3 (refine aj rfl fun _ k0 => ?_; simp only [zO, zT, acs, reduceCtorEq, aa, V, ad, ag, af, ae, Mly.av]; (repeat refine an ?_); (try refine .inl ?_); apply k0; clear k0; simp only [zP, V])
 refine am ?_
 apply k1; clear k1; refine kp [0, 1, 2, 3] ?_
 refine ai fun _ k2 => ?_
 refine ak hP hN rfl ?_
 (refine aj rfl fun _ k0 => ?_; simp only [zO, zT, acs, reduceCtorEq, aa, V, ad, ag, af, ae, Mly.av]; (repeat refine an ?_); (try refine .inl ?_); apply k0; clear k0; simp only [zP, V])
 refine aj rfl fun _ k0 => ?_
 refine aK (h := aB (AP m 128)) rfl rfl (by first | exact rfl | (simp only [ev, zP, aa, V]; exact rfl)) (by simp only [zV, acs, reduceCtorEq, aa, V, ad, ag, af, ae, Mly.av]) ?_
 apply k0; clear k0; simp only [zP, V]
 iterate 4 (refine aj rfl fun _ k0 => ?_; simp only [zO, zT, acs, reduceCtorEq, aa, V, ad, ag, af, ae, Mly.av]; (repeat refine an ?_); (try refine .inl ?_); apply k0; clear k0; simp only [zP, V])
 refine am ?_
 apply k2; clear k2; refine kp [0, 1, 2, 3] ?_
 refine aG ?_
 refine ⟨nr, _, rfl, ?_⟩; simp only [zF, zP, aa, V, Mly.av]
 refine VLE.of_eq ?_
 rfl
theorem uK (m : Mly) (hv : aR m = 0) : c7 Try.prog 82 [m.av] (.tup [.one (.list (.int .i64) m.eqc), .one (.int .i64 0)]) := by
  have h := w6 m
  rw [if_pos hv, hv] at h
  exact h

theorem xa  : c7 Try.prog 51 [.one .nils] (.one .nils) := by
 refine aS Try.func51 rfl (by kernel_rfl) (Nat.le_of_ble_eq_true rfl) rfl fun C hP hN hB => ?_
 replace hN : C.N = 8 := hN
 simp only [bc, V]
 refine ai fun _ k1 => ?_
 refine ak hP hN rfl ?_
 (refine aj rfl fun _ k0 => ?_; simp only [zO, zT, acs, reduceCtorEq, aa, V, ad, ag, af, ae]; (repeat refine an ?_); (try refine .inl ?_); apply k0; clear k0; simp only [zP, V])
 refine am ?_
 apply k1; clear k1; refine kp [0, 2] ?_
 refine ai fun _ k2 => ?_
 refine ai fun _ k3 => ?_
 refine ak hP hN rfl ?_
 iterate 2 (refine aj rfl fun _ k0 => ?_; simp only [zO, zT, acs, reduceCtorEq, aa, V, ad, ag, af, ae]; (repeat refine an ?_); (try refine .inl ?_); apply k0; clear k0; simp only [zP, V])
 refine am ?_
 apply k3; clear k3; refine kp [0, 2, 4] ?_
 refine cd (fun hc4 => ?_) (fun hc4 => ?_)
 ·(try simp only [zB, reduceCtorEq] at hc4)
  refine ai fun _ k5 => ?_
  refine ak hP hN rfl ?_
  (refine aj rfl fun _ k0 => ?_; simp only [zO, zT, acs, reduceCtorEq, aa, V, ad, ag, af, ae]; (repeat refine an ?_); (try refine .inl ?_); apply k0; clear k0; simp only [zP, V])
  refine am ?_
  apply k5; clear k5; refine kp [0, 2, 4] ?_
  refine aG ?_
  refine ⟨nr, _, rfl, ?_⟩; simp only [zF, zP, aa, V]
  refine VLE.of_eq ?_
  rfl
 · exfalso; (try simp only [zB, reduceCtorEq] at hc4); all_goals (first | (cases hc4; done) | omega | (simp at hc4; done) | (simp_all; done))
theorem Au  : c7 Try.prog 51 [.one .emp] (.one (.list (.int .i64) [])) := by
 refine aS Try.func51 rfl (by kernel_rfl) (Nat.le_of_ble_eq_true rfl) rfl fun C hP hN hB => ?_
 replace hN : C.N = 8 := hN
 simp only [bc, V]
 refine ai fun _ k1 => ?_
 refine ak hP hN rfl ?_
 (refine aj rfl fun _ k0 => ?_; simp only [zO, zT, acs, reduceCtorEq, aa, V, ad, ag, af, ae]; (repeat refine an ?_); (try refine .inl ?_); apply k0; clear k0; simp only [zP, V])
 refine am ?_
 apply k1; clear k1; refine kp [0, 2] ?_
 refine ai fun _ k2 => ?_
 refine ai fun _ k3 => ?_
 refine ak hP hN rfl ?_
 iterate 2 (refine aj rfl fun _ k0 => ?_; simp only [zO, zT, acs, reduceCtorEq, aa, V, ad, ag, af, ae]; (repeat refine an ?_); (try refine .inl ?_); apply k0; clear k0; simp only [zP, V])
 refine am ?_
 apply k3; clear k3; refine kp [0, 2, 4] ?_
 refine cd (fun hc4 => ?_) (fun hc4 => ?_)
 · exfalso; (try simp only [zB, reduceCtorEq] at hc4); all_goals (first | (cases hc4; done) | omega | (simp at hc4; done) | (simp_all; done))
 (try simp only [zB, reduceCtorEq] at hc4)
 refine ay ?_
 apply k2; clear k2; refine kp [0, 2, 4] ?_
 refine ai fun _ k5 => ?_
 refine ak hP hN rfl ?_
 (refine aj rfl fun _ k0 => ?_; simp only [zO, zT, acs, reduceCtorEq, aa, V, ad, ag, af, ae]; (repeat refine an ?_); refine Or.inr (Or.inl (k0 _ ?_)); clear k0; simp only [zP, V])
 iterate 3 (refine aj rfl fun _ k0 => ?_; simp only [zO, zT, acs, reduceCtorEq, aa, V, ad, ag, af, ae]; (repeat refine an ?_); (try refine .inl ?_); apply k0; clear k0; simp only [zP, V])
 refine am ?_
 apply k5; clear k5; refine kp [0, 2, 4] ?_
 refine aG ?_
 refine ⟨nr, _, rfl, ?_⟩; simp only [zF, zP, aa, V]
 refine VLE.of_eq ?_
 rfl
theorem AX (xs : List Int) (h0 : 0 < xs.length) (h1 : xs.length ≤ 10000000000000) : c7 Try.prog 51 [.one (.list (.int .i64) xs)] (.one (.list (.int .i64) xs)) := by
 refine aS Try.func51 rfl (by kernel_rfl) (Nat.le_of_ble_eq_true rfl) rfl fun C hP hN hB => ?_
 replace hN : C.N = 8 := hN
 simp only [bc, V]
 refine ai fun _ k1 => ?_
 refine ak hP hN rfl ?_
 (refine aj rfl fun _ k0 => ?_; simp only [zO, zT, acs, reduceCtorEq, aa, V, ad, ag, af, ae]; (repeat refine an ?_); (try refine .inl ?_); apply k0; clear k0; simp only [zP, V])
 refine am ?_
 apply k1; clear k1; refine kp [0, 2] ?_
 refine ai fun _ k2 => ?_
 refine ai fun _ k3 => ?_
 refine ak hP hN rfl ?_
 iterate 2 (refine aj rfl fun _ k0 => ?_; simp only [zO, zT, acs, reduceCtorEq, aa, V, ad, ag, af, ae]; (repeat refine an ?_); (try refine .inl ?_); apply k0; clear k0; simp only [zP, V])
 refine am ?_
 apply k3; clear k3; refine kp [0, 2, 4] ?_
 refine cd (fun hc4 => ?_) (fun hc4 => ?_)
 · exfalso; (try simp only [zB, reduceCtorEq] at hc4); all_goals (first | (cases hc4; done) | omega | (simp at hc4; done) | (simp_all; done))
 (try simp only [zB, reduceCtorEq] at hc4)
 refine ay ?_
 apply k2; clear k2; refine kp [0, 2, 4] ?_
 refine ai fun _ k5 => ?_
 refine ak hP hN rfl ?_
 (refine aj rfl fun _ k0 => ?_; simp only [zO, zT, acs, reduceCtorEq, aa, V, ad, ag, af, ae]; (repeat refine an ?_); refine Or.inr (Or.inl (k0 _ ?_)); clear k0; simp only [zP, V])
 iterate 3 (refine aj rfl fun _ k0 => ?_; simp only [zO, zT, acs, reduceCtorEq, aa, V, ad, ag, af, ae]; (repeat refine an ?_); (try refine .inl ?_); apply k0; clear k0; simp only [zP, V])
 refine am ?_
 apply k5; clear k5; refine kp [0, 2, 4] ?_
 refine aG ?_
 refine ⟨nr, _, rfl, ?_⟩; simp only [zF, zP, aa, V]
 refine VLE.of_eq ?_
 rfl
theorem tV (xs : List Int) (h : xs.length ≤ 10000000000000) : c7 Try.prog 51 [.one (.list (.int .i64) xs)] (.one (.list (.int .i64) xs)) :=
  uI (t := .int .i64) (fun e => vJ xa (j7 (bl e))) (fun e => by subst e; exact Au) (fun h0 => AX xs h0 h) xa.1

theorem tU (m : Mly) : c7 Try.prog 69 [m.av] (.one (.list (.int .i64) m.reach)) := by
 refine aS Try.func69 rfl (by kernel_rfl) (Nat.le_of_ble_eq_true rfl) rfl fun C hP hN hB => ?_
 replace hN : C.N = 55 := hN
 simp only [bc, V]
 refine ai fun _ k1 => ?_
 refine ak hP hN rfl ?_
 iterate 2 (refine aj rfl fun _ k0 => ?_; simp only [zO, zT, acs, reduceCtorEq, aa, V, ad, ag, af, ae, Mly.av]; (repeat refine an ?_); (try refine .inl ?_); apply k0; clear k0; simp only [zP, V])
 refine am ?_
 apply k1; clear k1; refine kp [0, 1, 2] ?_
 refine ai fun _ k2 => ?_
 refine ai fun _ k3 => ?_
 refine ak hP hN rfl ?_
 (refine aj rfl fun _ k0 => ?_; simp only [zO, zT, acs, reduceCtorEq, aa, V, ad, ag, af, ae, Mly.av]; (repeat refine an ?_); (try refine .inl ?_); apply k0; clear k0; simp only [zP, V])
 refine aj rfl fun _ k0 => ?_
 refine aK (h := aB (ku m)) rfl rfl (by first | exact rfl | (simp only [ev, zP, aa, V]; exact rfl)) (by simp only [zV, acs, reduceCtorEq, aa, V, ad, ag, af, ae, Mly.av]) ?_
 apply k0; clear k0; simp only [zP, V]
 (refine aj rfl fun _ k0 => ?_; simp only [zO, zT, acs, reduceCtorEq, aa, V, ad, ag, af, ae, Mly.av]; (repeat refine an ?_); (try refine .inl ?_); apply k0; clear k0; simp only [zP, V])
 refine am ?_
 apply k3; clear k3; refine kp [0, 1, 2, 10] ?_
 refine cd (fun hc4 => ?_) (fun hc4 => ?_)
 ·(try simp only [zB, reduceCtorEq] at hc4)
  refine ai fun _ k5 => ?_
  refine ak hP hN rfl ?_
  (refine aj rfl fun _ k0 => ?_; simp only [zO, zT, acs, reduceCtorEq, aa, V, ad, ag, af, ae, Mly.av]; (repeat refine an ?_); (try refine .inl ?_); apply k0; clear k0; simp only [zP, V])
  refine am ?_
  apply k5; clear k5; refine kp [0, 1, 2, 10] ?_
  refine aG ?_
  refine ⟨nr, _, rfl, ?_⟩; simp only [zF, zP, aa, V, Mly.av]
  first
  | (rw [pY ‹¬aR m = 0›]; exact j7 (bl rfl))
  | (rw [← hrf, fL _ _ _ _ (by omega)]; exact VLE.of_eq (by simp))
 (try simp only [zB, reduceCtorEq] at hc4)
 refine ay ?_
 apply k2; clear k2; refine kp [0, 1, 2, 10] ?_
 refine ai fun _ k6 => ?_
 have hv : aR m = 0 := by assumption
 have hm := fc hv; have h1 := hm.s1; have h2 := hm.s2; have h3 := hm.n2; have hrp : (List.replicate m.nx.length false).length = m.nx.length := bp
 refine ak hP hN rfl ?_
 iterate 3 (refine aj rfl fun _ k0 => ?_; simp only [zO, zT, acs, reduceCtorEq, aa, V, ad, ag, af, ae, Mly.av]; (repeat refine an ?_); (try refine .inl ?_); apply k0; clear k0; simp only [zP, V])
 (refine aj rfl fun _ k0 => ?_; simp only [zE, op1, ev, lkp, d6, bP, bG, d8, Nat.mul_one, bQ, cI, acs, Ty.dflt, zG, bV, cj, eT, eg, cM, db, eC, Nat.div_one, cL, df, Ty.size, bq, dite_true, d9, reduceCtorEq, aa, V, ad, ag, af, ae, Try.el107, Try.el22, Try.st24, Try.td107, Try.td2, Try.td22, Try.td24, Try.td3, Mly.av]; (repeat refine an ?_); (try refine .inl ?_); apply k0; clear k0; simp only [zP, V])
 (refine aj rfl fun _ k0 => ?_; simp only [zO, zT, acs, reduceCtorEq, aa, V, ad, ag, af, ae, Mly.av]; (repeat refine an ?_); (try refine .inl ?_); apply k0; clear k0; simp only [zP, V])
 refine am ?_
 apply k6; clear k6; refine kp [0, 1, 2, 3, 10] ?_
 refine ai fun _ k7 => ?_
 refine ak hP hN rfl ?_
 iterate 5 (refine aj rfl fun _ k0 => ?_; simp only [zO, zT, acs, reduceCtorEq, aa, V, ad, ag, af, ae, Mly.av]; (repeat refine an ?_); (try refine .inl ?_); apply k0; clear k0; simp only [zP, V])
 refine am ?_
 apply k7; clear k7; refine kp [0, 1, 2, 3, 10] ?_
 refine ai fun _ k8 => ?_
 refine ak hP hN rfl ?_
 iterate 2 (refine aj rfl fun _ k0 => ?_; simp only [zO, zT, acs, reduceCtorEq, aa, V, ad, ag, af, ae, Mly.av]; (repeat refine an ?_); (try refine .inl ?_); apply k0; clear k0; simp only [zP, V])
 (refine aj rfl fun _ k0 => ?_; simp only [zO, zT, acs, reduceCtorEq, aa, V, ad, ag, af, ae, Mly.av]; (repeat refine an ?_); refine Or.inr (Or.inl (k0 _ ?_)); clear k0; simp only [zP, V])
 (refine aj rfl fun _ k0 => ?_; simp only [zO, zT, acs, reduceCtorEq, aa, V, ad, ag, af, ae, Mly.av]; (repeat refine an ?_); (try refine .inl ?_); apply k0; clear k0; simp only [zP, V])
 refine am ?_
 apply k8; clear k8; refine kp [0, 1, 2, 3, 4, 10] ?_
 refine ai fun _ k9 => ?_
 refine ai fun _ k10 => ?_
 refine ak hP hN rfl ?_
 (refine aj rfl fun _ k0 => ?_; simp only [zO, zT, acs, reduceCtorEq, aa, V, ad, ag, af, ae, Mly.av]; (repeat refine an ?_); (try refine .inl ?_); apply k0; clear k0; simp only [zP, V])
 refine am ?_
 apply k10; clear k10; refine kp [0, 1, 2, 3, 4, 5, 10] ?_
 refine az ?_
 refine ba (fun n11 s11 => ∃ (i : Nat) (l : List Int) (v : Nat), (RSet m.nx.length l) ∧ (m.rf (m.nx.length + 1 - i) i l = m.reach) ∧ (i ≤ l.length) ∧ n11 = m.nx.length + 1 - i ∧ s11 = { env := [(1, .one (.ptr 0 0 0 0)), (3, .one (.row 1 0)), (4, .one (.row 2 v)), (5, .one (.int .i64 (i : Int)))], L := [.vars 24 [.int .i64 m.inp, .int .i64 m.st, .list (.list (.int .i64)) m.nx, .list (.list (.int .i64)) m.ot], .row .bool 4 0 (fK m.nx.length l), .row (.int .i64) 3 v l] }) ?_ ?_
 ·refine ⟨_, _, ax [1, 3, 4, 5], 0, [m.st], 0, i9 hm, (dY hv).symm, Nat.zero_le _, rfl, ?_⟩
  have hs := ng (n := m.nx.length) (l := []) hm.s1 hm.s2
  rw [y7]
  simp only [aZ] at hs
  rw [hs]; rfl
 rintro n11 s11 ⟨i, l, v, hR, hrf, hi, rfl, rfl⟩
 refine ai fun _ k12 => ?_
 refine ai fun _ k13 => ?_
 refine ak hP hN rfl ?_
 iterate 4 (refine aj rfl fun _ k0 => ?_; simp only [zO, zT, acs, reduceCtorEq, aa, V, ad, ag, af, ae, Mly.av]; (repeat refine an ?_); (try refine .inl ?_); apply k0; clear k0; simp only [zP, V])
 refine am ?_
 apply k13; clear k13; refine kp [1, 3, 4, 5, 25] ?_
 refine cd (fun hc14 => ?_) (fun hc14 => ?_)
 ·(try simp only [zB, reduceCtorEq] at hc14)
  refine ay ?_
  apply k12; clear k12; refine kp [1, 3, 4, 5, 25] ?_
  refine ai fun _ k15 => ?_
  refine az ?_
  refine ai fun _ k16 => ?_
  have hx := hR.at_ (i := i) (by omega); have hl := hR.len; have hrl := hm.rl (l.getD i 0).toNat (by omega); have hi2 := hm.i2; have hrow : ((m.row (l.getD i 0)).length : Int) = m.inp := hrl
  refine bf hP hN Try.mixed rfl ?_
  iterate 10 (refine aj rfl fun _ k0 => ?_; simp only [zO, zT, acs, reduceCtorEq, aa, V, ad, ag, af, ae, Mly.av]; (repeat refine an ?_); (try refine .inl ?_); apply k0; clear k0; simp only [zP, V])
  refine am ?_
  refine ⟨by kernel_rfl, ?_⟩
  apply k16; clear k16; refine kp [1, 3, 4, 5, 25, 35, 36, 37] ?_
  refine az ?_
  refine ba (fun n17 s17 => ∃ (j : Nat) (v2 : Nat), (j ≤ (m.row (l.getD i 0)).length) ∧ (RSet m.nx.length (((m.row (l.getD i 0)).take j).foldl cg l)) ∧ n17 = (m.row (l.getD i 0)).length - j ∧ s17 = { env := [(1, .one (.ptr 0 0 0 0)), (3, .one (.row 1 0)), (4, .one (.row 2 v2)), (5, .one (.int .i64 (i : Int))), (35, .one (.list (.int .i64) (m.row (l.getD i 0)))), (36, .one (.int .i64 ((m.row (l.getD i 0)).length : Int))), (37, .one (.int .i64 (j : Int)))], L := [.vars 24 [.int .i64 m.inp, .int .i64 m.st, .list (.list (.int .i64)) m.nx, .list (.list (.int .i64)) m.ot], .row .bool 4 0 (fK m.nx.length (((m.row (l.getD i 0)).take j).foldl cg l)), .row (.int .i64) 3 v2 (((m.row (l.getD i 0)).take j).foldl cg l)] }) ?_ ?_
  ·exact ⟨_, _, ax [1, 3, 4, 5, 35, 36, 37], 0, v, Nat.zero_le _, hR, rfl, rfl⟩
  rintro n17 s17 ⟨j, v2, hj, hRc, rfl, rfl⟩
  refine ai fun _ k18 => ?_
  refine ak hP hN rfl ?_
  (refine aj rfl fun _ k0 => ?_; simp only [zO, zT, acs, reduceCtorEq, aa, V, ad, ag, af, ae, Mly.av]; (repeat refine an ?_); (try refine .inl ?_); apply k0; clear k0; simp only [zP, V])
  refine am ?_
  apply k18; clear k18; refine kp [1, 3, 4, 5, 35, 36, 37, 38] ?_
  refine ai fun _ k19 => ?_
  refine cd (fun hc20 => ?_) (fun hc20 => ?_)
  ·(try simp only [zB, reduceCtorEq] at hc20)
   refine ay ?_
   apply k19; clear k19; refine kp [1, 3, 4, 5, 35, 36, 37, 38] ?_
   refine ai fun _ k21 => ?_
   refine az ?_
   refine ai fun _ k22 => ?_
   refine ak hP hN rfl ?_
   iterate 3 (refine aj rfl fun _ k0 => ?_; simp only [zO, zT, acs, reduceCtorEq, aa, V, ad, ag, af, ae, Mly.av]; (repeat refine an ?_); (try refine .inl ?_); apply k0; clear k0; simp only [zP, V])
   refine am ?_
   apply k22; clear k22; refine kp [1, 3, 4, 5, 7, 35, 36, 37, 38] ?_
   refine ai fun _ k23 => ?_
   have ht := gX hm hx.1 hx.2 ((m.row (l.getD i 0)).getD j 0) (bh (by omega)); have hse := zy (l := (((m.row (l.getD i 0)).take j).foldl cg l)) ht.1 ht.2; have hsl := xE m.nx.length (((m.row (l.getD i 0)).take j).foldl cg l); have hcl := hRc.len
   refine ak hP hN rfl ?_
   iterate 5 (refine aj rfl fun _ k0 => ?_; simp only [zO, zT, acs, reduceCtorEq, aa, V, ad, ag, af, ae, Mly.av]; (repeat refine an ?_); (try refine .inl ?_); apply k0; clear k0; simp only [zP, V])
   refine am ?_
   apply k23; clear k23; refine kp [1, 3, 4, 5, 7, 35, 36, 37, 38, 45] ?_
   refine cd (fun hc24 => ?_) (fun hc24 => ?_)
   ·(try simp only [zB, reduceCtorEq] at hc24)
    refine ai fun _ k25 => ?_
    refine ak hP hN rfl ?_
    iterate 4 (refine aj rfl fun _ k0 => ?_; simp only [zO, zT, acs, reduceCtorEq, aa, V, ad, ag, af, ae, Mly.av]; (repeat refine an ?_); (try refine .inl ?_); apply k0; clear k0; simp only [zP, V])
    refine am ?_
    apply k25; clear k25; refine kp [1, 3, 4, 5, 7, 35, 36, 37, 38, 45] ?_
    refine ak hP hN rfl ?_
    iterate 5 (refine aj rfl fun _ k0 => ?_; simp only [zO, zT, acs, reduceCtorEq, aa, V, ad, ag, af, ae, Mly.av]; (repeat refine an ?_); (try refine .inl ?_); apply k0; clear k0; simp only [zP, V])
    refine am ?_
    apply k21; clear k21; refine kp [1, 3, 4, 5, 7, 35, 36, 37, 38, 45] ?_
    refine ak hP hN rfl ?_
    iterate 2 (refine aj rfl fun _ k0 => ?_; simp only [zO, zT, acs, reduceCtorEq, aa, V, ad, ag, af, ae, Mly.av]; (repeat refine an ?_); (try refine .inl ?_); apply k0; clear k0; simp only [zP, V])
    refine am ?_
    first
    | (have hnin : ¬ ((m.row (l.getD i 0)).getD j 0 ∈ (((m.row (l.getD i 0)).take j).foldl cg l)) := by
         intro hin; rw [decide_eq_true hin] at hse; have hh := hc24; rw [hse] at hh; cases hh
       refine ⟨_, _, ?_, ax [1, 3, 4, 5, 35, 36, 37], j + 1, v2 + 1, by omega, ?_, rfl, ?_⟩
       · omega
       · exact RSet.take hm hR hx.1 hx.2 (j + 1)
       · rw [gG (by omega), eV hnin, ← ng ht.1 ht.2]; rfl)
    | (have hin : ((m.row (l.getD i 0)).getD j 0 ∈ (((m.row (l.getD i 0)).take j).foldl cg l)) := by
         have hh := hc24; rw [hse] at hh; exact of_decide_eq_true hh
       refine ⟨_, _, ?_, ax [1, 3, 4, 5, 35, 36, 37], j + 1, v2, by omega, ?_, rfl, ?_⟩
       · omega
       · exact RSet.take hm hR hx.1 hx.2 (j + 1)
       · rw [gG (by omega), gm hin]; rfl)
   (try simp only [zB, reduceCtorEq] at hc24)
   refine ay ?_
   apply k21; clear k21; refine kp [1, 3, 4, 5, 7, 35, 36, 37, 38, 45] ?_
   refine ak hP hN rfl ?_
   iterate 2 (refine aj rfl fun _ k0 => ?_; simp only [zO, zT, acs, reduceCtorEq, aa, V, ad, ag, af, ae, Mly.av]; (repeat refine an ?_); (try refine .inl ?_); apply k0; clear k0; simp only [zP, V])
   refine am ?_
   first
   | (have hnin : ¬ ((m.row (l.getD i 0)).getD j 0 ∈ (((m.row (l.getD i 0)).take j).foldl cg l)) := by
        intro hin; rw [decide_eq_true hin] at hse; have hh := hc24; rw [hse] at hh; cases hh
      refine ⟨_, _, ?_, ax [1, 3, 4, 5, 35, 36, 37], j + 1, v2 + 1, by omega, ?_, rfl, ?_⟩
      · omega
      · exact RSet.take hm hR hx.1 hx.2 (j + 1)
      · rw [gG (by omega), eV hnin, ← ng ht.1 ht.2]; rfl)
   | (have hin : ((m.row (l.getD i 0)).getD j 0 ∈ (((m.row (l.getD i 0)).take j).foldl cg l)) := by
        have hh := hc24; rw [hse] at hh; exact of_decide_eq_true hh
      refine ⟨_, _, ?_, ax [1, 3, 4, 5, 35, 36, 37], j + 1, v2, by omega, ?_, rfl, ?_⟩
      · omega
      · exact RSet.take hm hR hx.1 hx.2 (j + 1)
      · rw [gG (by omega), gm hin]; rfl)
  (try simp only [zB, reduceCtorEq] at hc20)
  refine aV ?_
  apply k15; clear k15; refine kp [1, 3, 4, 5, 35, 36, 37, 38] ?_
  refine ak hP hN rfl ?_
  iterate 3 (refine aj rfl fun _ k0 => ?_; simp only [zO, zT, acs, reduceCtorEq, aa, V, ad, ag, af, ae, Mly.av]; (repeat refine an ?_); (try refine .inl ?_); apply k0; clear k0; simp only [zP, V])
  refine am ?_
  have hjr : (m.row (l.getD i 0)).take j = m.row (l.getD i 0) := List.take_of_length_le (by omega)
  rw [hjr] at hRc
  have hge := mH (m.row (l.getD i 0)) l
  refine ⟨_, _, ?_, ax [1, 3, 4, 5], i + 1, (m.row (l.getD i 0)).foldl cg l, v2, hRc, ?_, by omega, rfl, ?_⟩
  · omega
  · rw [← hrf, show m.nx.length + 1 - i = (m.nx.length + 1 - (i + 1)) + 1 by omega, gY m _ _ _ (by omega)]
  · rw [hjr]; rfl
 (try simp only [zB, reduceCtorEq] at hc14)
 refine aV ?_
 apply k9; clear k9; refine kp [1, 3, 4, 5, 25] ?_
 refine ai fun _ k26 => ?_
 refine ak hP hN rfl ?_
 iterate 2 (refine aj rfl fun _ k0 => ?_; simp only [zO, zT, acs, reduceCtorEq, aa, V, ad, ag, af, ae, Mly.av]; (repeat refine an ?_); (try refine .inl ?_); apply k0; clear k0; simp only [zP, V])
 refine am ?_
 apply k26; clear k26; refine kp [1, 2, 3, 4, 5, 25] ?_
 refine aG ?_
 refine ⟨nr, _, rfl, ?_⟩; simp only [zF, zP, aa, V, Mly.av]
 first
 | (rw [pY ‹¬aR m = 0›]; exact j7 (bl rfl))
 | (rw [← hrf, fL _ _ _ _ (by omega)]; exact VLE.of_eq (by simp))
theorem AJ (m : Mly) : c7 Try.prog 81 [m.av] (.tup [m.trim.av, .one (.int .i64 (aR m))]) := by
 refine aS Try.func81 rfl (by kernel_rfl) (Nat.le_of_ble_eq_true rfl) rfl fun C hP hN hB => ?_
 replace hN : C.N = 89 := hN
 simp only [bc, V]
 refine ai fun _ k1 => ?_
 refine ak hP hN rfl ?_
 iterate 3 (refine aj rfl fun _ k0 => ?_; simp only [zO, zT, acs, reduceCtorEq, aa, V, ad, ag, af, ae, Mly.av]; (repeat refine an ?_); (try refine .inl ?_); apply k0; clear k0; simp only [zP, V])
 refine am ?_
 apply k1; clear k1; refine kp [0, 1, 2, 3] ?_
 refine ai fun _ k2 => ?_
 refine ai fun _ k3 => ?_
 refine ak hP hN rfl ?_
 (refine aj rfl fun _ k0 => ?_; simp only [zO, zT, acs, reduceCtorEq, aa, V, ad, ag, af, ae, Mly.av]; (repeat refine an ?_); (try refine .inl ?_); apply k0; clear k0; simp only [zP, V])
 refine aj rfl fun _ k0 => ?_
 refine aK (h := aB (ku m)) rfl rfl (by first | exact rfl | (simp only [ev, zP, aa, V]; exact rfl)) (by simp only [zV, acs, reduceCtorEq, aa, V, ad, ag, af, ae, Mly.av]) ?_
 apply k0; clear k0; simp only [zP, V]
 (refine aj rfl fun _ k0 => ?_; simp only [zO, zT, acs, reduceCtorEq, aa, V, ad, ag, af, ae, Mly.av]; (repeat refine an ?_); (try refine .inl ?_); apply k0; clear k0; simp only [zP, V])
 refine am ?_
 apply k3; clear k3; refine kp [0, 1, 2, 3, 4] ?_
 refine ai fun _ k4 => ?_
 refine ak hP hN rfl ?_
 iterate 2 (refine aj rfl fun _ k0 => ?_; simp only [zO, zT, acs, reduceCtorEq, aa, V, ad, ag, af, ae, Mly.av]; (repeat refine an ?_); (try refine .inl ?_); apply k0; clear k0; simp only [zP, V])
 refine am ?_
 apply k4; clear k4; refine kp [0, 1, 2, 3, 4, 18] ?_
 refine cd (fun hc5 => ?_) (fun hc5 => ?_)
 ·(try simp only [zB, reduceCtorEq] at hc5)
  refine ai fun _ k6 => ?_
  refine ak hP hN rfl ?_
  iterate 4 (refine aj rfl fun _ k0 => ?_; simp only [zO, zT, acs, reduceCtorEq, aa, V, ad, ag, af, ae, Mly.av]; (repeat refine an ?_); (try refine .inl ?_); apply k0; clear k0; simp only [zP, V])
  refine am ?_
  apply k6; clear k6; refine kp [0, 1, 2, 3, 4, 18] ?_
  refine aG ?_
  refine ⟨nr, _, rfl, ?_⟩; simp only [zF, zP, aa, V, Mly.av]
  first
  | (rw [rd ‹¬aR m = 0›]
     exact bS ⟨d5 ⟨.refl _, .refl _, bl rfl, bl rfl, trivial⟩, aQ (.refl _), trivial⟩)
  | (rw [qA hv, hv]
     have hk3 : k = m.reach.length := by omega
     have e1 : m.tnx.take k = m.tnx := List.take_of_length_le (by simp [Mly.tnx]; omega)
     have e2 : m.tot.take k = m.tot := List.take_of_length_le (by simp [Mly.tot]; omega)
     rw [e1, e2]
     exact VLE.of_eq (by simp [fzC]; rfl))
 (try simp only [zB, reduceCtorEq] at hc5)
 refine ay ?_
 apply k2; clear k2; refine kp [0, 1, 2, 3, 4, 18] ?_
 refine ai fun _ k7 => ?_
 refine ak hP hN rfl ?_
 (refine aj rfl fun _ k0 => ?_; simp only [zO, zT, acs, reduceCtorEq, aa, V, ad, ag, af, ae, Mly.av]; (repeat refine an ?_); (try refine .inl ?_); apply k0; clear k0; simp only [zP, V])
 refine aj rfl fun _ k0 => ?_
 refine aK (h := aB (tU m)) rfl rfl (by first | exact rfl | (simp only [ev, zP, aa, V]; exact rfl)) (by simp only [zV, acs, reduceCtorEq, aa, V, ad, ag, af, ae, Mly.av]) ?_
 apply k0; clear k0; simp only [zP, V]
 (refine aj rfl fun _ k0 => ?_; simp only [zO, zT, acs, reduceCtorEq, aa, V, ad, ag, af, ae, Mly.av]; (repeat refine an ?_); (try refine .inl ?_); apply k0; clear k0; simp only [zP, V])
 refine am ?_
 apply k7; clear k7; refine kp [0, 1, 2, 3, 4, 5, 18] ?_
 refine ai fun _ k8 => ?_
 have hv : aR m = 0 := by assumption
 have hm := fc hv; have h3 := hm.n2; have hR := fX hm; have hRl := hR.len; have hi1 := hm.i1; have hi2 := hm.i2; have hol := hm.ol
 refine ak hP hN rfl ?_
 iterate 3 (refine aj rfl fun _ k0 => ?_; simp only [zO, zT, acs, reduceCtorEq, aa, V, ad, ag, af, ae, Mly.av]; (repeat refine an ?_); (try refine .inl ?_); apply k0; clear k0; simp only [zP, V])
 (refine aj rfl fun _ k0 => ?_; simp only [zE, op1, ev, lkp, d6, bP, bG, d8, Nat.mul_one, bQ, cI, acs, Ty.dflt, zG, bV, cj, eT, eg, cM, db, eC, Nat.div_one, cL, df, Ty.size, bq, dite_true, d9, reduceCtorEq, aa, V, ad, ag, af, ae, Try.el22, Try.el41, Try.st24, Try.td2, Try.td22, Try.td24, Try.td3, Try.td41, Mly.av]; (repeat refine an ?_); (try refine .inl ?_); apply k0; clear k0; simp only [zP, V])
 (refine aj rfl fun _ k0 => ?_; simp only [zO, zT, acs, reduceCtorEq, aa, V, ad, ag, af, ae, Mly.av]; (repeat refine an ?_); (try refine .inl ?_); apply k0; clear k0; simp only [zP, V])
 refine am ?_
 apply k8; clear k8; refine kp [0, 1, 2, 3, 4, 5, 6, 18] ?_
 refine ai fun _ k9 => ?_
 refine ai fun _ k10 => ?_
 refine ak hP hN rfl ?_
 iterate 3 (refine aj rfl fun _ k0 => ?_; simp only [zO, zT, acs, reduceCtorEq, aa, V, ad, ag, af, ae, Mly.av]; (repeat refine an ?_); (try refine .inl ?_); apply k0; clear k0; simp only [zP, V])
 refine am ?_
 apply k10; clear k10; refine kp [0, 1, 2, 3, 4, 5, 6, 18, 27, 28, 29] ?_
 refine az ?_
 refine ba (fun n11 s11 => ∃ (k : Nat), (k ≤ m.reach.length) ∧ n11 = m.reach.length - k ∧ s11 = { env := [(1, .one (.ptr 0 0 0 0)), (2, .one (.ptr 1 0 0 0)), (5, .one (.list (.int .i64) m.reach)), (6, .one (.row 2 0)), (27, .one (.list (.int .i64) m.reach)), (28, .one (.int .i64 (m.reach.length : Int))), (29, .one (.int .i64 (k : Int)))], L := [.vars 24 [.int .i64 m.inp, .int .i64 m.st, .list (.list (.int .i64)) m.nx, .list (.list (.int .i64)) m.ot], .vars 24 [.int .i64 0, .int .i64 0, .nils, .nils], .row (.int .i64) 3 0 (nY m.nx.length m.reach k)] }) ?_ ?_
 ·exact ⟨_, _, ax [1, 2, 5, 6, 27, 28, 29], 0, Nat.zero_le _, rfl, rfl⟩
 rintro n11 s11 ⟨k, hk, rfl, rfl⟩
 refine ai fun _ k12 => ?_
 refine ak hP hN rfl ?_
 (refine aj rfl fun _ k0 => ?_; simp only [zO, zT, acs, reduceCtorEq, aa, V, ad, ag, af, ae, Mly.av]; (repeat refine an ?_); (try refine .inl ?_); apply k0; clear k0; simp only [zP, V])
 refine am ?_
 apply k12; clear k12; refine kp [1, 2, 5, 6, 27, 28, 29, 30] ?_
 refine ai fun _ k13 => ?_
 refine cd (fun hc14 => ?_) (fun hc14 => ?_)
 ·(try simp only [zB, reduceCtorEq] at hc14)
  refine ay ?_
  apply k13; clear k13; refine kp [1, 2, 5, 6, 27, 28, 29, 30] ?_
  refine ai fun _ k15 => ?_
  refine az ?_
  refine ai fun _ k16 => ?_
  refine ak hP hN rfl ?_
  iterate 5 (refine aj rfl fun _ k0 => ?_; simp only [zO, zT, acs, reduceCtorEq, aa, V, ad, ag, af, ae, Mly.av]; (repeat refine an ?_); (try refine .inl ?_); apply k0; clear k0; simp only [zP, V])
  refine am ?_
  apply k16; clear k16; refine kp [1, 2, 5, 6, 7, 8, 27, 28, 29, 30] ?_
  have hx := hR.at_ (i := k) (by omega); have hnl := kH m.nx.length m.reach k
  refine ak hP hN rfl ?_
  iterate 5 (refine aj rfl fun _ k0 => ?_; simp only [zO, zT, acs, reduceCtorEq, aa, V, ad, ag, af, ae, Mly.av]; (repeat refine an ?_); (try refine .inl ?_); apply k0; clear k0; simp only [zP, V])
  refine am ?_
  apply k15; clear k15; refine kp [1, 2, 5, 6, 7, 8, 27, 28, 29, 30] ?_
  refine ak hP hN rfl ?_
  iterate 2 (refine aj rfl fun _ k0 => ?_; simp only [zO, zT, acs, reduceCtorEq, aa, V, ad, ag, af, ae, Mly.av]; (repeat refine an ?_); (try refine .inl ?_); apply k0; clear k0; simp only [zP, V])
  refine am ?_
  refine ⟨_, _, ?_, ax [1, 2, 5, 6, 27, 28, 29], k + 1, by omega, rfl, rfl⟩
  · omega
 (try simp only [zB, reduceCtorEq] at hc14)
 refine aV ?_
 apply k9; clear k9; refine kp [1, 2, 5, 6, 27, 28, 29, 30] ?_
 refine ai fun _ k17 => ?_
 refine ak hP hN rfl ?_
 iterate 5 (refine aj rfl fun _ k0 => ?_; simp only [zO, zT, acs, reduceCtorEq, aa, V, ad, ag, af, ae, Mly.av]; (repeat refine an ?_); (try refine .inl ?_); apply k0; clear k0; simp only [zP, V])
 refine am ?_
 apply k17; clear k17; refine kp [1, 2, 5, 6, 9, 27, 28, 29, 30] ?_
 refine ai fun _ k18 => ?_
 refine ai fun _ k19 => ?_
 refine ak hP hN rfl ?_
 iterate 3 (refine aj rfl fun _ k0 => ?_; simp only [zO, zT, acs, reduceCtorEq, aa, V, ad, ag, af, ae, Mly.av]; (repeat refine an ?_); (try refine .inl ?_); apply k0; clear k0; simp only [zP, V])
 refine am ?_
 apply k19; clear k19; refine kp [1, 2, 5, 6, 9, 27, 28, 29, 30, 42, 43, 44] ?_
 refine az ?_
 refine eU 3 2 (.list (.int .i64)) 41 (by decide) rfl rfl ?_; simp only [zS, au, aC, aH, aZ, Nat.zero_add, V]
 refine eU 3 3 (.list (.int .i64)) 41 (by decide) rfl rfl ?_; simp only [zS, au, aC, aH, aZ, Nat.zero_add, V]
 have hkl : k = m.reach.length := by omega
 refine ba (fun n20 s20 => ∃ (k : Nat) (v : Nat), (k ≤ m.reach.length) ∧ n20 = m.reach.length - k ∧ s20 = { env := [(1, .one (.ptr 0 0 0 0)), (2, .one (.ptr 1 0 0 0)), (6, .one (.row 2 0)), (9, .one (.ptr 3 0 0 0)), (42, .one (.list (.int .i64) m.reach)), (43, .one (.int .i64 (m.reach.length : Int))), (44, .one (.int .i64 (k : Int)))], L := [.vars 24 [.int .i64 m.inp, .int .i64 m.st, .list (.list (.int .i64)) m.nx, .list (.list (.int .i64)) m.ot], .vars 24 [.int .i64 0, .int .i64 0, .nils, .nils], .row (.int .i64) 3 0 m.num, .vars 24 [.int .i64 m.inp, .int .i64 0, .row 4 v, .row 5 v], .row (.list (.int .i64)) 41 v (m.tnx.take k), .row (.list (.int .i64)) 41 v (m.tot.take k)] }) ?_ ?_
 ·refine ⟨_, _, ax [1, 2, 6, 9, 42, 43, 44], 0, 0, Nat.zero_le _, rfl, ?_⟩
  rw [hkl]; rfl
 rintro n20 s20 ⟨k, v, hk2, rfl, rfl⟩
 refine ai fun _ k21 => ?_
 refine ak hP hN rfl ?_
 (refine aj rfl fun _ k0 => ?_; simp only [zO, zT, acs, reduceCtorEq, aa, V, ad, ag, af, ae, Mly.av]; (repeat refine an ?_); (try refine .inl ?_); apply k0; clear k0; simp only [zP, V])
 refine am ?_
 apply k21; clear k21; refine kp [1, 2, 6, 9, 42, 43, 44, 45] ?_
 refine ai fun _ k22 => ?_
 refine cd (fun hc23 => ?_) (fun hc23 => ?_)
 ·(try simp only [zB, reduceCtorEq] at hc23)
  refine ay ?_
  apply k22; clear k22; refine kp [1, 2, 6, 9, 42, 43, 44, 45] ?_
  refine ai fun _ k24 => ?_
  refine az ?_
  refine ai fun _ k25 => ?_
  have hx := hR.at_ (i := k) (by omega)
  refine ak hP hN rfl ?_
  iterate 3 (refine aj rfl fun _ k0 => ?_; simp only [zO, zT, acs, reduceCtorEq, aa, V, ad, ag, af, ae, Mly.av]; (repeat refine an ?_); (try refine .inl ?_); apply k0; clear k0; simp only [zP, V])
  refine am ?_
  apply k25; clear k25; refine kp [1, 2, 6, 9, 11, 42, 43, 44, 45] ?_
  refine ai fun _ k26 => ?_
  have hrow : ((m.row (m.reach.getD k 0)).length : Int) = m.inp := hm.rl (m.reach.getD k 0).toNat (by omega); have hrot := hm.ql (m.reach.getD k 0).toNat (by omega)
  refine ak hP hN rfl ?_
  iterate 2 (refine aj rfl fun _ k0 => ?_; simp only [zO, zT, acs, reduceCtorEq, aa, V, ad, ag, af, ae, Mly.av]; (repeat refine an ?_); (try refine .inl ?_); apply k0; clear k0; simp only [zP, V])
  (refine aj rfl fun _ k0 => ?_; simp only [zE, op1, ev, lkp, d6, bP, bG, d8, Nat.mul_one, bQ, cI, acs, Ty.dflt, zG, bV, d9, bq, Ty.size, reduceCtorEq, aa, V, ad, ag, af, ae, Try.el41, Try.st24, Try.td24, Try.td3, Try.td41, Mly.av]; (repeat refine an ?_); (try refine .inl ?_); apply k0; clear k0; simp only [zP, V])
  (refine aj rfl fun _ k0 => ?_; simp only [zO, zT, acs, reduceCtorEq, aa, V, ad, ag, af, ae, Mly.av]; (repeat refine an ?_); (try refine .inl ?_); apply k0; clear k0; simp only [zP, V])
  refine am ?_
  apply k26; clear k26; refine kp [1, 2, 6, 9, 11, 12, 42, 43, 44, 45] ?_
  refine ai fun _ k27 => ?_
  refine ai fun _ k28 => ?_
  refine ak hP hN rfl ?_
  iterate 7 (refine aj rfl fun _ k0 => ?_; simp only [zO, zT, acs, reduceCtorEq, aa, V, ad, ag, af, ae, Mly.av]; (repeat refine an ?_); (try refine .inl ?_); apply k0; clear k0; simp only [zP, V])
  refine am ?_
  apply k28; clear k28; refine kp [1, 2, 6, 9, 11, 12, 42, 43, 44, 45, 55, 56, 57] ?_
  refine az ?_
  refine ba (fun n29 s29 => ∃ (j : Nat), (j ≤ (m.row (m.reach.getD k 0)).length) ∧ n29 = (m.row (m.reach.getD k 0)).length - j ∧ s29 = { env := [(1, .one (.ptr 0 0 0 0)), (2, .one (.ptr 1 0 0 0)), (6, .one (.row 2 0)), (9, .one (.ptr 3 0 0 0)), (11, .one (.int .i64 (m.reach.getD k 0))), (12, .one (.row 6 0)), (42, .one (.list (.int .i64) m.reach)), (43, .one (.int .i64 (m.reach.length : Int))), (44, .one (.int .i64 (k : Int))), (55, .one (.list (.int .i64) (m.row (m.reach.getD k 0)))), (56, .one (.int .i64 ((m.row (m.reach.getD k 0)).length : Int))), (57, .one (.int .i64 (j : Int)))], L := [.vars 24 [.int .i64 m.inp, .int .i64 m.st, .list (.list (.int .i64)) m.nx, .list (.list (.int .i64)) m.ot], .vars 24 [.int .i64 0, .int .i64 0, .nils, .nils], .row (.int .i64) 3 0 m.num, .vars 24 [.int .i64 m.inp, .int .i64 0, .row 4 v, .row 5 v], .row (.list (.int .i64)) 41 v (m.tnx.take k), .row (.list (.int .i64)) 41 v (m.tot.take k), .row (.int .i64) 3 0 (ii m.num (m.row (m.reach.getD k 0)) j)] }) ?_ ?_
  ·refine ⟨_, _, ax [1, 2, 6, 9, 11, 12, 42, 43, 44, 55, 56, 57], 0, Nat.zero_le _, rfl, ?_⟩
   rw [uw, show (m.row (m.reach.getD k 0)).length = m.inp.toNat by omega]; rfl
  rintro n29 s29 ⟨j, hj, rfl, rfl⟩
  refine ai fun _ k30 => ?_
  refine ak hP hN rfl ?_
  (refine aj rfl fun _ k0 => ?_; simp only [zO, zT, acs, reduceCtorEq, aa, V, ad, ag, af, ae, Mly.av]; (repeat refine an ?_); (try refine .inl ?_); apply k0; clear k0; simp only [zP, V])
  refine am ?_
  apply k30; clear k30; refine kp [1, 2, 6, 9, 11, 12, 42, 43, 44, 55, 56, 57, 58] ?_
  refine ai fun _ k31 => ?_
  refine cd (fun hc32 => ?_) (fun hc32 => ?_)
  ·(try simp only [zB, reduceCtorEq] at hc32)
   refine ay ?_
   apply k31; clear k31; refine kp [1, 2, 6, 9, 11, 12, 42, 43, 44, 55, 56, 57, 58] ?_
   refine ai fun _ k33 => ?_
   refine az ?_
   refine ai fun _ k34 => ?_
   refine ak hP hN rfl ?_
   iterate 5 (refine aj rfl fun _ k0 => ?_; simp only [zO, zT, acs, reduceCtorEq, aa, V, ad, ag, af, ae, Mly.av]; (repeat refine an ?_); (try refine .inl ?_); apply k0; clear k0; simp only [zP, V])
   refine am ?_
   apply k34; clear k34; refine kp [1, 2, 6, 9, 11, 12, 13, 14, 42, 43, 44, 55, 56, 57, 58] ?_
   have ht := gX hm hx.1 hx.2 ((m.row (m.reach.getD k 0)).getD j 0) (bh (by omega)); have hnl : m.num.length = m.nx.length := kH _ _ _; have hnf := vX m.num (m.row (m.reach.getD k 0)) hj
   refine ak hP hN rfl ?_
   iterate 8 (refine aj rfl fun _ k0 => ?_; simp only [zO, zT, acs, reduceCtorEq, aa, V, ad, ag, af, ae, Mly.av]; (repeat refine an ?_); (try refine .inl ?_); apply k0; clear k0; simp only [zP, V])
   refine am ?_
   apply k33; clear k33; refine kp [1, 2, 6, 9, 11, 12, 13, 14, 42, 43, 44, 55, 56, 57, 58] ?_
   refine ak hP hN rfl ?_
   iterate 2 (refine aj rfl fun _ k0 => ?_; simp only [zO, zT, acs, reduceCtorEq, aa, V, ad, ag, af, ae, Mly.av]; (repeat refine an ?_); (try refine .inl ?_); apply k0; clear k0; simp only [zP, V])
   refine am ?_
   refine ⟨_, _, ?_, ax [1, 2, 6, 9, 11, 12, 42, 43, 44, 55, 56, 57], j + 1, by omega, rfl, ?_⟩
   · omega
   · rw [← vM _ _ (by omega)]; rfl
  (try simp only [zB, reduceCtorEq] at hc32)
  refine aV ?_
  apply k27; clear k27; refine kp [1, 2, 6, 9, 11, 12, 42, 43, 44, 55, 56, 57, 58] ?_
  refine ai fun _ k35 => ?_
  refine cH 6 rfl ?_; simp only [aJ, bg, zS, aa, and_self, and_true, true_and, and_false, false_and, if_true, if_false, eq_self, reduceCtorEq, Nat.one_ne_zero, Nat.zero_ne_one]
  have htl : (m.tnx.take k).length = k := by simp [Mly.tnx]; omega
  have hol2 : (m.tot.take k).length = k := by simp [Mly.tot]; omega
  refine ak hP hN rfl ?_
  iterate 7 (refine aj rfl fun _ k0 => ?_; simp only [zO, zT, acs, reduceCtorEq, aa, V, ad, ag, af, ae, Mly.av]; (repeat refine an ?_); (try refine .inl ?_); apply k0; clear k0; simp only [zP, V])
  refine am ?_
  apply k35; clear k35; refine kp [1, 2, 6, 9, 11, 12, 42, 43, 44, 55, 56, 57, 58] ?_
  refine bf hP hN Try.mixed rfl ?_
  iterate 7 (refine aj rfl fun _ k0 => ?_; simp only [zO, zT, acs, reduceCtorEq, aa, V, ad, ag, af, ae, Mly.av]; (repeat refine an ?_); (try refine .inl ?_); apply k0; clear k0; simp only [zP, V])
  refine aj rfl fun _ k0 => ?_
  refine aK (h := aB (tV (m.ot.getD (m.reach.getD k 0).toNat []) (by omega))) rfl rfl (by first | exact rfl | (simp only [ev, zP, aa, V]; exact rfl)) (by simp only [zV, acs, reduceCtorEq, aa, V, ad, ag, af, ae, Mly.av]) ?_
  apply k0; clear k0; simp only [zP, V]
  iterate 4 (refine aj rfl fun _ k0 => ?_; simp only [zO, zT, acs, reduceCtorEq, aa, V, ad, ag, af, ae, Mly.av]; (repeat refine an ?_); (try refine .inl ?_); apply k0; clear k0; simp only [zP, V])
  refine am ?_
  refine ⟨by kernel_rfl, ?_⟩
  apply k24; clear k24; refine kp [1, 2, 6, 9, 11, 12, 42, 43, 44, 55, 56, 57, 58] ?_
  refine cF (n := 6) (L1 := [_, _, _, _, _, _]) rfl rfl (by rw [hB]; decide) rfl rfl ?_
  refine ak hP hN rfl ?_
  iterate 2 (refine aj rfl fun _ k0 => ?_; simp only [zO, zT, acs, reduceCtorEq, aa, V, ad, ag, af, ae, Mly.av]; (repeat refine an ?_); (try refine .inl ?_); apply k0; clear k0; simp only [zP, V])
  refine am ?_
  have hjr : j = (m.row (m.reach.getD k 0)).length := by omega
  refine ⟨_, _, ?_, ax [1, 2, 6, 9, 42, 43, 44], k + 1, v + 1, by omega, rfl, ?_⟩
  · omega
  · rw [show m.tnx.take (k + 1) = m.tnx.take k ++ [ii m.num (m.row (m.reach.getD k 0)) j] by rw [hjr, wj]; exact kd _ 0 (by omega), show m.tot.take (k + 1) = m.tot.take k ++ [m.ot.getD (m.reach.getD k 0).toNat []] from kd _ 0 (by omega)]; rfl
 (try simp only [zB, reduceCtorEq] at hc23)
 refine aV ?_
 apply k18; clear k18; refine kp [1, 2, 6, 9, 42, 43, 44, 45] ?_
 refine ai fun _ k36 => ?_
 refine ak hP hN rfl ?_
 iterate 3 (refine aj rfl fun _ k0 => ?_; simp only [zO, zT, acs, reduceCtorEq, aa, V, ad, ag, af, ae, Mly.av]; (repeat refine an ?_); (try refine .inl ?_); apply k0; clear k0; simp only [zP, V])
 refine am ?_
 apply k36; clear k36; refine kp [1, 2, 3, 6, 9, 42, 43, 44, 45] ?_
 refine aG ?_
 refine ⟨nr, _, rfl, ?_⟩; simp only [zF, zP, aa, V, Mly.av]
 first
 | (rw [rd ‹¬aR m = 0›]
    exact bS ⟨d5 ⟨.refl _, .refl _, bl rfl, bl rfl, trivial⟩, aQ (.refl _), trivial⟩)
 | (rw [qA hv, hv]
    have hk3 : k = m.reach.length := by omega
    have e1 : m.tnx.take k = m.tnx := List.take_of_length_le (by simp [Mly.tnx]; omega)
    have e2 : m.tot.take k = m.tot := List.take_of_length_le (by simp [Mly.tot]; omega)
    rw [e1, e2]
    exact VLE.of_eq (by simp [fzC]; rfl))
set_option maxHeartbeats 1000000 in
theorem Br (m : Mly) : c7 Try.prog 70 [m.av] (.tup [m.mres.av, .one (.int .i64 (aR m))]) := by
 refine aS Try.func70 rfl (by kernel_rfl) (Nat.le_of_ble_eq_true rfl) rfl fun C hP hN hB => ?_
 replace hN : C.N = 84 := hN
 simp only [bc, V]
 refine ai fun _ k1 => ?_
 refine ak hP hN rfl ?_
 iterate 3 (refine aj rfl fun _ k0 => ?_; simp only [zO, zT, acs, reduceCtorEq, aa, V, ad, ag, af, ae, Mly.av]; (repeat refine an ?_); (try refine .inl ?_); apply k0; clear k0; simp only [zP, V])
 refine am ?_
 apply k1; clear k1; refine kp [0, 1, 2, 3] ?_
 refine ai fun _ k2 => ?_
 refine ak hP hN rfl ?_
 (refine aj rfl fun _ k0 => ?_; simp only [zO, zT, acs, reduceCtorEq, aa, V, ad, ag, af, ae, Mly.av]; (repeat refine an ?_); (try refine .inl ?_); apply k0; clear k0; simp only [zP, V])
 refine aj rfl fun _ k0 => ?_
 refine aK (h := aB (AJ m)) rfl rfl (by first | exact rfl | (simp only [ev, zP, aa, V]; exact rfl)) (by simp only [zV, acs, reduceCtorEq, aa, V, ad, ag, af, ae, Mly.av]) ?_
 apply k0; clear k0; simp only [zP, V]
 iterate 6 (refine aj rfl fun _ k0 => ?_; simp only [zO, zT, acs, reduceCtorEq, aa, V, ad, ag, af, ae, Mly.av]; (repeat refine an ?_); (try refine .inl ?_); apply k0; clear k0; simp only [zP, V])
 refine am ?_
 apply k2; clear k2; refine kp [0, 1, 2, 3, 4, 5] ?_
 refine ai fun _ k3 => ?_
 refine ai fun _ k4 => ?_
 refine ak hP hN rfl ?_
 iterate 2 (refine aj rfl fun _ k0 => ?_; simp only [zO, zT, acs, reduceCtorEq, aa, V, ad, ag, af, ae, Mly.av]; (repeat refine an ?_); (try refine .inl ?_); apply k0; clear k0; simp only [zP, V])
 refine am ?_
 apply k4; clear k4; refine kp [0, 1, 2, 3, 4, 5, 19] ?_
 refine cd (fun hc5 => ?_) (fun hc5 => ?_)
 ·(try simp only [zB, reduceCtorEq] at hc5)
  refine ai fun _ k6 => ?_
  refine ak hP hN rfl ?_
  iterate 4 (refine aj rfl fun _ k0 => ?_; simp only [zO, zT, acs, reduceCtorEq, aa, V, ad, ag, af, ae, Mly.av]; (repeat refine an ?_); (try refine .inl ?_); apply k0; clear k0; simp only [zP, V])
  refine am ?_
  apply k6; clear k6; refine kp [0, 1, 2, 3, 4, 5, 19] ?_
  refine aG ?_
  refine ⟨nr, _, rfl, ?_⟩; simp only [zF, zP, aa, V, Mly.av]
  first
  | (rw [mM ‹¬aR m = 0›]; exact bS ⟨d5 ⟨.refl _, .refl _, bl rfl, bl rfl, trivial⟩, aQ (.refl _), trivial⟩)
  | (have hk3 : k = m.trim.nx.length := by omega
     subst hk3
     rw [uz hv, hv]
     exact VLE.of_eq (by simp [fzC]; rfl))
 (try simp only [zB, reduceCtorEq] at hc5)
 have hv : aR m = 0 := by omega
 have hm := fc hv; have ht : MOK m.trim := by rw [wW hv]; exact rJ hm
 have hvt := dI ht; have hst := fw ht; have hel := hst.len; have hn2 := ht.n2; have hi1 := ht.i1; have hi2 := ht.i2; have hol := ht.ol; have hn1 := ht.n1
 refine ay ?_
 apply k3; clear k3; refine kp [0, 1, 2, 3, 4, 5, 19] ?_
 refine ai fun _ k7 => ?_
 refine ak hP hN rfl ?_
 (refine aj rfl fun _ k0 => ?_; simp only [zO, zT, acs, reduceCtorEq, aa, V, ad, ag, af, ae, Mly.av]; (repeat refine an ?_); (try refine .inl ?_); apply k0; clear k0; simp only [zP, V])
 refine aj rfl fun _ k0 => ?_
 refine aK (h := aB (uK m.trim hvt)) rfl rfl (by first | exact rfl | (simp only [ev, zP, aa, V]; exact rfl)) (by simp only [zV, acs, reduceCtorEq, aa, V, ad, ag, af, ae, Mly.av]) ?_
 apply k0; clear k0; simp only [zP, V]
 iterate 5 (refine aj rfl fun _ k0 => ?_; simp only [zO, zT, acs, reduceCtorEq, aa, V, ad, ag, af, ae, Mly.av]; (repeat refine an ?_); (try refine .inl ?_); apply k0; clear k0; simp only [zP, V])
 refine am ?_
 apply k7; clear k7; refine kp [0, 1, 2, 3, 4, 5, 6, 19] ?_
 refine ai fun _ k8 => ?_
 refine ai fun _ k9 => ?_
 refine ak hP hN rfl ?_
 iterate 2 (refine aj rfl fun _ k0 => ?_; simp only [zO, zT, acs, reduceCtorEq, aa, V, ad, ag, af, ae, Mly.av]; (repeat refine an ?_); (try refine .inl ?_); apply k0; clear k0; simp only [zP, V])
 refine am ?_
 apply k9; clear k9; refine kp [0, 1, 2, 3, 4, 5, 6, 19, 28] ?_
 refine cd (fun hc10 => ?_) (fun hc10 => ?_)
 · exfalso; (try simp only [zB, reduceCtorEq] at hc10); all_goals (first | (cases hc10; done) | omega | (simp at hc10; done) | (simp_all; done))
 (try simp only [zB, reduceCtorEq] at hc10)
 refine ay ?_
 apply k8; clear k8; refine kp [0, 1, 2, 3, 4, 5, 6, 19, 28] ?_
 refine ai fun _ k11 => ?_
 refine ak hP hN rfl ?_
 iterate 5 (refine aj rfl fun _ k0 => ?_; simp only [zO, zT, acs, reduceCtorEq, aa, V, ad, ag, af, ae, Mly.av]; (repeat refine an ?_); (try refine .inl ?_); apply k0; clear k0; simp only [zP, V])
 refine am ?_
 apply k11; clear k11; refine kp [0, 1, 2, 3, 4, 5, 6, 7, 19, 28] ?_
 refine ai fun _ k12 => ?_
 refine ai fun _ k13 => ?_
 refine ak hP hN rfl ?_
 iterate 3 (refine aj rfl fun _ k0 => ?_; simp only [zO, zT, acs, reduceCtorEq, aa, V, ad, ag, af, ae, Mly.av]; (repeat refine an ?_); (try refine .inl ?_); apply k0; clear k0; simp only [zP, V])
 refine am ?_
 apply k13; clear k13; refine kp [0, 1, 2, 3, 4, 5, 6, 7, 19, 28, 34, 35, 36] ?_
 refine az ?_
 refine eU 3 2 (.list (.int .i64)) 41 (by decide) rfl rfl ?_; simp only [zS, au, aC, aH, aZ, Nat.zero_add, V]
 refine eU 3 3 (.list (.int .i64)) 41 (by decide) rfl rfl ?_; simp only [zS, au, aC, aH, aZ, Nat.zero_add, V]
 refine ba (fun n14 s14 => ∃ (k : Nat) (v : Nat), (k ≤ m.trim.nx.length) ∧ n14 = m.trim.nx.length - k ∧ s14 = { env := [(2, .one (.ptr 1 0 0 0)), (3, .one (.int .i64 0)), (4, .one (.ptr 2 0 0 0)), (6, .one (.list (.int .i64) m.trim.eqc)), (7, .one (.ptr 3 0 0 0)), (34, .one (.list (.int .i64) m.trim.eqc)), (35, .one (.int .i64 (m.trim.eqc.length : Int))), (36, .one (.int .i64 (k : Int)))], L := [.vars 24 [.int .i64 m.inp, .int .i64 m.st, .list (.list (.int .i64)) m.nx, .list (.list (.int .i64)) m.ot], .vars 24 [.int .i64 0, .int .i64 0, .nils, .nils], .vars 24 [.int .i64 m.trim.inp, .int .i64 m.trim.st, .list (.list (.int .i64)) m.trim.nx, .list (.list (.int .i64)) m.trim.ot], .vars 24 [.int .i64 m.trim.inp, .int .i64 0, .row 4 v, .row 5 v], .row (.list (.int .i64)) 41 v (m.trim.qN k), .row (.list (.int .i64)) 41 v (m.trim.qO k)] }) ?_ ?_
 ·refine ⟨_, _, ax [2, 3, 4, 6, 7, 34, 35, 36], 0, 0, Nat.zero_le _, rfl, rfl⟩
 rintro n14 s14 ⟨k, v, hk, rfl, rfl⟩
 refine ai fun _ k15 => ?_
 refine ak hP hN rfl ?_
 (refine aj rfl fun _ k0 => ?_; simp only [zO, zT, acs, reduceCtorEq, aa, V, ad, ag, af, ae, Mly.av]; (repeat refine an ?_); (try refine .inl ?_); apply k0; clear k0; simp only [zP, V])
 refine am ?_
 apply k15; clear k15; refine kp [2, 3, 4, 6, 7, 34, 35, 36, 37] ?_
 refine ai fun _ k16 => ?_
 refine cd (fun hc17 => ?_) (fun hc17 => ?_)
 ·(try simp only [zB, reduceCtorEq] at hc17)
  refine ay ?_
  apply k16; clear k16; refine kp [2, 3, 4, 6, 7, 34, 35, 36, 37] ?_
  refine ai fun _ k18 => ?_
  refine az ?_
  refine ai fun _ k19 => ?_
  refine ak hP hN rfl ?_
  iterate 5 (refine aj rfl fun _ k0 => ?_; simp only [zO, zT, acs, reduceCtorEq, aa, V, ad, ag, af, ae, Mly.av]; (repeat refine an ?_); (try refine .inl ?_); apply k0; clear k0; simp only [zP, V])
  refine am ?_
  apply k19; clear k19; refine kp [2, 3, 4, 6, 7, 8, 9, 34, 35, 36, 37] ?_
  refine ai fun _ k20 => ?_
  refine ai fun _ k21 => ?_
  have hrp := (sT (gU ht) k (by omega)).len; have hql := B1 m.trim k; have hqo := Ak m.trim k; have hcb := gU ht k (by omega); simp only [iH, Bool.or_eq_false_iff, decide_eq_false_iff_not] at hcb
  refine ak hP hN rfl ?_
  iterate 5 (refine aj rfl fun _ k0 => ?_; simp only [zO, zT, acs, reduceCtorEq, aa, V, ad, ag, af, ae, Mly.av]; (repeat refine an ?_); (try refine .inl ?_); apply k0; clear k0; simp only [zP, V])
  refine am ?_
  apply k21; clear k21; refine kp [2, 3, 4, 6, 7, 8, 9, 34, 35, 36, 37, 45] ?_
  refine cd (fun hc22 => ?_) (fun hc22 => ?_)
  ·(try simp only [zB, reduceCtorEq] at hc22)
   refine aV ?_
   apply k18; clear k18; refine kp [2, 3, 4, 6, 7, 8, 9, 34, 35, 36, 37, 45] ?_
   first | (refine cF (n := 7) (L1 := [_, _, _, _, _, _, _]) rfl rfl (by rw [hB]; decide) rfl rfl ?_; refine cF (n := 6) (L1 := [_, _, _, _, _, _]) rfl rfl (by rw [hB]; decide) rfl rfl ?_) | skip
   refine ak hP hN rfl ?_
   iterate 2 (refine aj rfl fun _ k0 => ?_; simp only [zO, zT, acs, reduceCtorEq, aa, V, ad, ag, af, ae, Mly.av]; (repeat refine an ?_); (try refine .inl ?_); apply k0; clear k0; simp only [zP, V])
   refine am ?_
   first
   | (have hnw : ¬ m.trim.eqc.getD k 0 = cN m.trim.eqc k := by omega
      refine ⟨_, _, ?_, ax [2, 3, 4, 6, 7, 34, 35, 36], k + 1, v, by omega, rfl, ?_⟩
      · omega
      · rw [(oM hnw).1, (oM hnw).2]; rfl)
   | (have hnw : m.trim.eqc.getD k 0 = cN m.trim.eqc k := by omega
      have hjr : j = (m.trim.nx.getD k []).length := by omega
      have htk : ((m.trim.nx.getD k []).take j).map m.trim.f = (m.trim.nx.getD k []).map m.trim.f := by rw [hjr, aE]
      refine ⟨_, _, ?_, ax [2, 3, 4, 6, 7, 34, 35, 36], k + 1, v + 1, by omega, rfl, ?_⟩
      · omega
      · rw [(oK hnw).1, (oK hnw).2, ← htk]; rfl)
  (try simp only [zB, reduceCtorEq] at hc22)
  refine ay ?_
  apply k20; clear k20; refine kp [2, 3, 4, 6, 7, 8, 9, 34, 35, 36, 37, 45] ?_
  refine ai fun _ k23 => ?_
  refine ak hP hN rfl ?_
  (refine aj rfl fun _ k0 => ?_; simp only [zO, zT, acs, reduceCtorEq, aa, V, ad, ag, af, ae, Mly.av]; (repeat refine an ?_); (try refine .inl ?_); apply k0; clear k0; simp only [zP, V])
  refine am ?_
  apply k23; clear k23; refine kp [2, 3, 4, 6, 7, 8, 9, 10, 34, 35, 36, 37, 45] ?_
  refine ai fun _ k24 => ?_
  refine ai fun _ k25 => ?_
  have hrl := ht.rl k (by omega); have hrq := ht.ql k (by omega)
  refine ak hP hN rfl ?_
  iterate 7 (refine aj rfl fun _ k0 => ?_; simp only [zO, zT, acs, reduceCtorEq, aa, V, ad, ag, af, ae, Mly.av]; (repeat refine an ?_); (try refine .inl ?_); apply k0; clear k0; simp only [zP, V])
  refine am ?_
  apply k25; clear k25; refine kp [2, 3, 4, 6, 7, 8, 9, 10, 34, 35, 36, 37, 45, 50, 51, 52] ?_
  refine az ?_
  refine eI 10 (.int .i64) 3 (by decide) rfl ?_; simp only [au, aC, aH, aZ, Nat.zero_add, V]
  refine ba (fun n26 s26 => ∃ (j : Nat) (v2 : Nat), (j ≤ (m.trim.nx.getD k []).length) ∧ n26 = (m.trim.nx.getD k []).length - j ∧ s26 = { env := [(2, .one (.ptr 1 0 0 0)), (3, .one (.int .i64 0)), (4, .one (.ptr 2 0 0 0)), (6, .one (.list (.int .i64) m.trim.eqc)), (7, .one (.ptr 3 0 0 0)), (8, .one (.int .i64 (k : Int))), (9, .one (.int .i64 (m.trim.eqc.getD k 0))), (10, .one (.row 6 v2)), (34, .one (.list (.int .i64) m.trim.eqc)), (35, .one (.int .i64 (m.trim.eqc.length : Int))), (36, .one (.int .i64 (k : Int))), (50, .one (.list (.int .i64) (m.trim.nx.getD k []))), (51, .one (.int .i64 ((m.trim.nx.getD k []).length : Int))), (52, .one (.int .i64 (j : Int)))], L := [.vars 24 [.int .i64 m.inp, .int .i64 m.st, .list (.list (.int .i64)) m.nx, .list (.list (.int .i64)) m.ot], .vars 24 [.int .i64 0, .int .i64 0, .nils, .nils], .vars 24 [.int .i64 m.trim.inp, .int .i64 m.trim.st, .list (.list (.int .i64)) m.trim.nx, .list (.list (.int .i64)) m.trim.ot], .vars 24 [.int .i64 m.trim.inp, .int .i64 0, .row 4 v, .row 5 v], .row (.list (.int .i64)) 41 v (m.trim.qN k), .row (.list (.int .i64)) 41 v (m.trim.qO k), .row (.int .i64) 3 v2 (((m.trim.nx.getD k []).take j).map m.trim.f)] }) ?_ ?_
  ·refine ⟨_, _, ax [2, 3, 4, 6, 7, 8, 9, 10, 34, 35, 36, 50, 51, 52], 0, 0, Nat.zero_le _, rfl, rfl⟩
  rintro n26 s26 ⟨j, v2, hj, rfl, rfl⟩
  refine ai fun _ k27 => ?_
  refine ak hP hN rfl ?_
  (refine aj rfl fun _ k0 => ?_; simp only [zO, zT, acs, reduceCtorEq, aa, V, ad, ag, af, ae, Mly.av]; (repeat refine an ?_); (try refine .inl ?_); apply k0; clear k0; simp only [zP, V])
  refine am ?_
  apply k27; clear k27; refine kp [2, 3, 4, 6, 7, 8, 9, 10, 34, 35, 36, 50, 51, 52, 53] ?_
  refine ai fun _ k28 => ?_
  refine cd (fun hc29 => ?_) (fun hc29 => ?_)
  ·(try simp only [zB, reduceCtorEq] at hc29)
   refine ay ?_
   apply k28; clear k28; refine kp [2, 3, 4, 6, 7, 8, 9, 10, 34, 35, 36, 50, 51, 52, 53] ?_
   refine ai fun _ k30 => ?_
   refine az ?_
   refine ai fun _ k31 => ?_
   refine ak hP hN rfl ?_
   iterate 3 (refine aj rfl fun _ k0 => ?_; simp only [zO, zT, acs, reduceCtorEq, aa, V, ad, ag, af, ae, Mly.av]; (repeat refine an ?_); (try refine .inl ?_); apply k0; clear k0; simp only [zP, V])
   refine am ?_
   apply k31; clear k31; refine kp [2, 3, 4, 6, 7, 8, 9, 10, 12, 34, 35, 36, 50, 51, 52, 53] ?_
   have hnr := ht.nr k j (by omega) (by omega)
   refine ak hP hN rfl ?_
   iterate 8 (refine aj rfl fun _ k0 => ?_; simp only [zO, zT, acs, reduceCtorEq, aa, V, ad, ag, af, ae, Mly.av, aD, List.length_take]; (repeat refine an ?_); (try refine .inl ?_); apply k0; clear k0; simp only [zP, V])
   refine am ?_
   apply k30; clear k30; refine kp [2, 3, 4, 6, 7, 8, 9, 10, 12, 34, 35, 36, 50, 51, 52, 53] ?_
   refine ak hP hN rfl ?_
   iterate 2 (refine aj rfl fun _ k0 => ?_; simp only [zO, zT, acs, reduceCtorEq, aa, V, ad, ag, af, ae, Mly.av]; (repeat refine an ?_); (try refine .inl ?_); apply k0; clear k0; simp only [zP, V])
   refine am ?_
   refine ⟨_, _, ?_, ax [2, 3, 4, 6, 7, 8, 9, 10, 34, 35, 36, 50, 51, 52], j + 1, v2 + 1, by omega, rfl, ?_⟩
   · omega
   · rw [ov m.trim.f (by omega)]; rfl
  (try simp only [zB, reduceCtorEq] at hc29)
  refine aV ?_
  apply k24; clear k24; refine kp [2, 3, 4, 6, 7, 8, 9, 10, 34, 35, 36, 50, 51, 52, 53] ?_
  refine ai fun _ k32 => ?_
  refine cH 6 rfl ?_; simp only [aJ, bg, zS, aa, and_self, and_true, true_and, and_false, false_and, if_true, if_false, eq_self, reduceCtorEq, Nat.one_ne_zero, Nat.zero_ne_one]
  have hrle := yZ m.trim.eqc k
  refine ak hP hN rfl ?_
  iterate 7 (refine aj rfl fun _ k0 => ?_; simp only [zO, zT, acs, reduceCtorEq, aa, V, ad, ag, af, ae, Mly.av]; (repeat refine an ?_); (try refine .inl ?_); apply k0; clear k0; simp only [zP, V])
  refine am ?_
  apply k32; clear k32; refine kp [2, 3, 4, 6, 7, 8, 9, 10, 34, 35, 36, 50, 51, 52, 53] ?_
  refine kz ?_; simp only [aH, List.append_assoc, aZ]
  refine bf hP hN Try.mixed rfl ?_
  iterate 2 (refine aj rfl fun _ k0 => ?_; simp only [zO, zT, acs, reduceCtorEq, aa, V, ad, ag, af, ae, Mly.av]; (repeat refine an ?_); (try refine .inl ?_); apply k0; clear k0; simp only [zP, V])
  (refine aj rfl fun _ k0 => ?_; simp only [zO, zT, acs, reduceCtorEq, aa, V, ad, ag, af, ae, Mly.av]; (repeat refine an ?_); refine Or.inr (Or.inr (Or.inl ⟨7, by exact rfl, ?_⟩)); refine k0 _ ?_; clear k0; simp only [zP, V])
  iterate 5 (refine aj rfl fun _ k0 => ?_; simp only [zO, zT, acs, reduceCtorEq, aa, V, ad, ag, af, ae, Mly.av]; (repeat refine an ?_); (try refine .inl ?_); apply k0; clear k0; simp only [zP, V])
  (refine aj rfl fun _ k0 => ?_; simp only [zO, zT, acs, reduceCtorEq, aa, V, ad, ag, af, ae, Mly.av]; (repeat refine an ?_); refine Or.inr (k0 _ ?_); clear k0; simp only [zP, V])
  iterate 4 (refine aj rfl fun _ k0 => ?_; simp only [zO, zT, acs, reduceCtorEq, aa, V, ad, ag, af, ae, Mly.av]; (repeat refine an ?_); (try refine .inl ?_); apply k0; clear k0; simp only [zP, V])
  refine am ?_
  refine ⟨by kernel_rfl, ?_⟩
  apply k18; clear k18; refine kp [2, 3, 4, 6, 7, 8, 9, 10, 34, 35, 36, 50, 51, 52, 53] ?_
  first | (refine cF (n := 7) (L1 := [_, _, _, _, _, _, _]) rfl rfl (by rw [hB]; decide) rfl rfl ?_; refine cF (n := 6) (L1 := [_, _, _, _, _, _]) rfl rfl (by rw [hB]; decide) rfl rfl ?_) | skip
  refine ak hP hN rfl ?_
  iterate 2 (refine aj rfl fun _ k0 => ?_; simp only [zO, zT, acs, reduceCtorEq, aa, V, ad, ag, af, ae, Mly.av]; (repeat refine an ?_); (try refine .inl ?_); apply k0; clear k0; simp only [zP, V])
  refine am ?_
  first
  | (have hnw : ¬ m.trim.eqc.getD k 0 = cN m.trim.eqc k := by omega
     refine ⟨_, _, ?_, ax [2, 3, 4, 6, 7, 34, 35, 36], k + 1, v, by omega, rfl, ?_⟩
     · omega
     · rw [(oM hnw).1, (oM hnw).2]; rfl)
  | (have hnw : m.trim.eqc.getD k 0 = cN m.trim.eqc k := by omega
     have hjr : j = (m.trim.nx.getD k []).length := by omega
     have htk : ((m.trim.nx.getD k []).take j).map m.trim.f = (m.trim.nx.getD k []).map m.trim.f := by rw [hjr, aE]
     refine ⟨_, _, ?_, ax [2, 3, 4, 6, 7, 34, 35, 36], k + 1, v + 1, by omega, rfl, ?_⟩
     · omega
     · rw [(oK hnw).1, (oK hnw).2, ← htk]; rfl)
 (try simp only [zB, reduceCtorEq] at hc17)
 refine aV ?_
 apply k12; clear k12; refine kp [2, 3, 4, 6, 7, 34, 35, 36, 37] ?_
 refine ai fun _ k33 => ?_
 refine ak hP hN rfl ?_
 iterate 3 (refine aj rfl fun _ k0 => ?_; simp only [zO, zT, acs, reduceCtorEq, aa, V, ad, ag, af, ae, Mly.av]; (repeat refine an ?_); (try refine .inl ?_); apply k0; clear k0; simp only [zP, V])
 refine am ?_
 apply k33; clear k33; refine kp [2, 3, 4, 6, 7, 34, 35, 36, 37] ?_
 refine aG ?_
 refine ⟨nr, _, rfl, ?_⟩; simp only [zF, zP, aa, V, Mly.av]
 first
 | (rw [mM ‹¬aR m = 0›]; exact bS ⟨d5 ⟨.refl _, .refl _, bl rfl, bl rfl, trivial⟩, aQ (.refl _), trivial⟩)
 | (have hk3 : k = m.trim.nx.length := by omega
    subst hk3
    rw [uz hv, hv]
    exact VLE.of_eq (by simp [fzC]; rfl))
theorem xG (m : Mly) : c7 Try.prog 50 [m.av] (.one (.bool (mnB m))) := by
 refine aS Try.func50 rfl (by kernel_rfl) (Nat.le_of_ble_eq_true rfl) rfl fun C hP hN hB => ?_
 replace hN : C.N = 33 := hN
 simp only [bc, V]
 refine ai fun _ k1 => ?_
 refine ak hP hN rfl ?_
 iterate 2 (refine aj rfl fun _ k0 => ?_; simp only [zO, zT, acs, reduceCtorEq, aa, V, ad, ag, af, ae, Mly.av]; (repeat refine an ?_); (try refine .inl ?_); apply k0; clear k0; simp only [zP, V])
 refine am ?_
 apply k1; clear k1; refine kp [0, 1, 2] ?_
 refine ai fun _ k2 => ?_
 refine ai fun _ k3 => ?_
 refine bf hP hN Try.mixed rfl ?_
 (refine aj rfl fun _ k0 => ?_; simp only [zO, zT, acs, reduceCtorEq, aa, V, ad, ag, af, ae, Mly.av]; (repeat refine an ?_); (try refine .inl ?_); apply k0; clear k0; simp only [zP, V])
 refine aj rfl fun _ k0 => ?_
 refine aK (h := aB (ku m)) rfl rfl (by first | exact rfl | (simp only [ev, zP, aa, V]; exact rfl)) (by simp only [zV, acs, reduceCtorEq, aa, V, ad, ag, af, ae, Mly.av]) ?_
 apply k0; clear k0; simp only [zP, V]
 iterate 2 (refine aj rfl fun _ k0 => ?_; simp only [zO, zT, acs, reduceCtorEq, aa, V, ad, ag, af, ae, Mly.av]; (repeat refine an ?_); (try refine .inl ?_); apply k0; clear k0; simp only [zP, V])
 refine' aT (want := false) 7 rfl (m := 8) (by simp only [zP, aa, V]; exact rfl) (by kernel_rfl) rfl rfl rfl rfl rfl (fun hg4 => ?a4) ?b4 ?c4
 case a4 =>
  have hq4 := hg4; (try simp only [zB, reduceCtorEq] at hg4); simp only [zE]
  (refine bo rfl fun _ k0 => ?_; simp only [zO, zT, acs, reduceCtorEq, aa, V, ad, ag, af, ae, Mly.av]; (repeat refine an ?_); (try refine .inl ?_); apply k0; clear k0; simp only [zP, V])
  refine bo rfl fun _ k0 => ?_
  refine aK (h := aB (tU m)) rfl rfl (by first | exact rfl | (simp only [ev, zP, aa, V]; exact rfl)) (by simp only [zV, acs, reduceCtorEq, aa, V, ad, ag, af, ae, Mly.av]) ?_
  apply k0; clear k0; simp only [zP, V]
  iterate 5 (refine bo rfl fun _ k0 => ?_; simp only [zO, zT, acs, reduceCtorEq, aa, V, ad, ag, af, ae, Mly.av]; (repeat refine an ?_); (try refine .inl ?_); apply k0; clear k0; simp only [zP, V])
  (refine aj rfl fun _ k0 => ?_; simp only [zO, zT, acs, reduceCtorEq, aa, V, ad, ag, af, ae, Mly.av]; (repeat refine an ?_); (try refine .inl ?_); apply k0; clear k0; simp only [zP, V])
  refine am ?_
  refine ⟨by simp only [zP, aa, V]; exact rfl, rfl, ?_, rfl⟩; (repeat refine aU rfl ?_); exact bu (by exact rfl) hq4
 case b4 => exact cJ
 simp only [bj, b6]
 refine am ?_
 refine ⟨by kernel_rfl, ?_⟩
 apply k3; clear k3; refine kp [0, 1, 2, 16] ?_
 refine cd (fun hc5 => ?_) (fun hc5 => ?_)
 ·(try simp only [zB, reduceCtorEq] at hc5)
  have hno := Bn (m := m) (by have h9 := hc5; omega)
  refine ai fun _ k6 => ?_
  refine ak hP hN rfl ?_
  (refine aj rfl fun _ k0 => ?_; simp only [zO, zT, acs, reduceCtorEq, aa, V, ad, ag, af, ae, Mly.av]; (repeat refine an ?_); (try refine .inl ?_); apply k0; clear k0; simp only [zP, V])
  refine am ?_
  apply k6; clear k6; refine kp [0, 1, 2, 16] ?_
  refine aG ?_
  refine ⟨nr, _, rfl, ?_⟩; simp only [zF, zP, aa, V, Mly.av]
  refine VLE.of_eq ?_
  first | (rw [hno]; done) | (rw [hno]; rfl) | (rw [hnb, hyes.1, he9]; rfl)
 (try simp only [zB, reduceCtorEq] at hc5)
 have hyes : aR m = 0 ∧ m.reach.length = m.nx.length := by have h9 := hc5; omega
 have hnb := BC hyes.1 hyes.2
 have he9 : decide ((m.mres.nx.length : Int) = (m.nx.length : Int)) = decide (m.mres.nx.length = m.nx.length) := by rw [decide_eq_decide]; omega
 refine ay ?_
 apply k2; clear k2; refine kp [0, 1, 2, 16] ?_
 refine ai fun _ k7 => ?_
 refine ak hP hN rfl ?_
 (refine aj rfl fun _ k0 => ?_; simp only [zO, zT, acs, reduceCtorEq, aa, V, ad, ag, af, ae, Mly.av]; (repeat refine an ?_); (try refine .inl ?_); apply k0; clear k0; simp only [zP, V])
 refine aj rfl fun _ k0 => ?_
 refine aK (h := aB (Br m)) rfl rfl (by first | exact rfl | (simp only [ev, zP, aa, V]; exact rfl)) (by simp only [zV, acs, reduceCtorEq, aa, V, ad, ag, af, ae, Mly.av]) ?_
 apply k0; clear k0; simp only [zP, V]
 iterate 6 (refine aj rfl fun _ k0 => ?_; simp only [zO, zT, acs, reduceCtorEq, aa, V, ad, ag, af, ae, Mly.av]; (repeat refine an ?_); (try refine .inl ?_); apply k0; clear k0; simp only [zP, V])
 refine am ?_
 apply k7; clear k7; refine kp [0, 1, 2, 3, 4, 16] ?_
 refine ai fun _ k8 => ?_
 refine ak hP hN rfl ?_
 iterate 3 (refine aj rfl fun _ k0 => ?_; simp only [zO, zT, acs, reduceCtorEq, aa, V, ad, ag, af, ae, Mly.av]; (repeat refine an ?_); (try refine .inl ?_); apply k0; clear k0; simp only [zP, V])
 refine' aT (want := true) 7 rfl (m := 24) (by simp only [zP, aa, V]; exact rfl) (by kernel_rfl) rfl rfl rfl rfl rfl (fun hg9 => ?a9) ?b9 ?c9
 case a9 =>
  have hq9 := hg9; (try simp only [zB, reduceCtorEq] at hg9); simp only [zE]
  iterate 7 (refine bo rfl fun _ k0 => ?_; simp only [zO, zT, acs, reduceCtorEq, aa, V, ad, ag, af, ae, Mly.av]; (repeat refine an ?_); (try refine .inl ?_); apply k0; clear k0; simp only [zP, V])
  (refine aj rfl fun _ k0 => ?_; simp only [zO, zT, acs, reduceCtorEq, aa, V, ad, ag, af, ae, Mly.av]; (repeat refine an ?_); (try refine .inl ?_); apply k0; clear k0; simp only [zP, V])
  refine am ?_
  refine ⟨by simp only [zP, aa, V]; exact rfl, rfl, ?_, rfl⟩; (repeat refine aU rfl ?_); exact bu (by exact rfl) hq9
 case b9 => exact cJ
 simp only [bj, b6]
 (refine aj rfl fun _ k0 => ?_; simp only [zO, zT, acs, reduceCtorEq, aa, V, ad, ag, af, ae, Mly.av]; (repeat refine an ?_); (try refine .inl ?_); apply k0; clear k0; simp only [zP, V])
 refine am ?_
 apply k8; clear k8; refine kp [0, 1, 2, 3, 4, 16] ?_
 refine aG ?_
 refine ⟨nr, _, rfl, ?_⟩; simp only [zF, zP, aa, V, Mly.av]
 refine VLE.of_eq ?_
 first | (rw [hno]; done) | (rw [hno]; rfl) | (rw [hnb, hyes.1, he9]; rfl)
theorem rz (m : Mly) : c7 Try.prog 32 [m.av] (.one (.int .i64 (dT m))) := by
 refine aS Try.func32 rfl (by kernel_rfl) (Nat.le_of_ble_eq_true rfl) rfl fun C hP hN hB => ?_
 replace hN : C.N = 12 := hN
 simp only [bc, V]
 refine ai fun _ k1 => ?_
 refine ak hP hN rfl ?_
 iterate 2 (refine aj rfl fun _ k0 => ?_; simp only [zO, zT, acs, reduceCtorEq, aa, V, ad, ag, af, ae, Mly.av]; (repeat refine an ?_); (try refine .inl ?_); apply k0; clear k0; simp only [zP, V])
 refine am ?_
 apply k1; clear k1; refine kp [0, 1, 2] ?_
 refine ai fun _ k2 => ?_
 refine ai fun _ k3 => ?_
 refine ak hP hN rfl ?_
 (refine aj rfl fun _ k0 => ?_; simp only [zO, zT, acs, reduceCtorEq, aa, V, ad, ag, af, ae, Mly.av]; (repeat refine an ?_); (try refine .inl ?_); apply k0; clear k0; simp only [zP, V])
 refine aj rfl fun _ k0 => ?_
 refine aK (h := aB (ku m)) rfl rfl (by first | exact rfl | (simp only [ev, zP, aa, V]; exact rfl)) (by simp only [zV, acs, reduceCtorEq, aa, V, ad, ag, af, ae, Mly.av]) ?_
 apply k0; clear k0; simp only [zP, V]
 (refine aj rfl fun _ k0 => ?_; simp only [zO, zT, acs, reduceCtorEq, aa, V, ad, ag, af, ae, Mly.av]; (repeat refine an ?_); (try refine .inl ?_); apply k0; clear k0; simp only [zP, V])
 refine am ?_
 apply k3; clear k3; refine kp [0, 1, 2, 3] ?_
 refine ai fun _ k4 => ?_
 refine ak hP hN rfl ?_
 iterate 2 (refine aj rfl fun _ k0 => ?_; simp only [zO, zT, acs, reduceCtorEq, aa, V, ad, ag, af, ae, Mly.av]; (repeat refine an ?_); (try refine .inl ?_); apply k0; clear k0; simp only [zP, V])
 refine am ?_
 apply k4; clear k4; refine kp [0, 1, 2, 3, 7] ?_
 refine cd (fun hc5 => ?_) (fun hc5 => ?_)
 ·(try simp only [zB, reduceCtorEq] at hc5)
  refine ai fun _ k6 => ?_
  refine ak hP hN rfl ?_
  iterate 2 (refine aj rfl fun _ k0 => ?_; simp only [zO, zT, acs, reduceCtorEq, aa, V, ad, ag, af, ae, Mly.av]; (repeat refine an ?_); (try refine .inl ?_); apply k0; clear k0; simp only [zP, V])
  refine am ?_
  apply k6; clear k6; refine kp [0, 1, 2, 3, 7] ?_
  refine aG ?_
  refine ⟨nr, _, rfl, ?_⟩; simp only [zF, zP, aa, V, Mly.av]
  refine VLE.of_eq ?_
  refine congrArg (fun n => AV.one (AC.int IntKind.i64 n)) ?_
  unfold dT
  symm
  first
  | (rw [if_pos (by omega)]; done)
  | (rw [if_neg (by omega), if_neg (by simp_all)]; done)
  | (rw [if_neg (by omega), if_pos (by simp_all)]; done)
 (try simp only [zB, reduceCtorEq] at hc5)
 refine ay ?_
 apply k2; clear k2; refine kp [0, 1, 2, 3, 7] ?_
 refine ai fun _ k7 => ?_
 refine ai fun _ k8 => ?_
 refine ak hP hN rfl ?_
 (refine aj rfl fun _ k0 => ?_; simp only [zO, zT, acs, reduceCtorEq, aa, V, ad, ag, af, ae, Mly.av]; (repeat refine an ?_); (try refine .inl ?_); apply k0; clear k0; simp only [zP, V])
 refine aj rfl fun _ k0 => ?_
 refine aK (h := aB (xG m)) rfl rfl (by first | exact rfl | (simp only [ev, zP, aa, V]; exact rfl)) (by simp only [zV, acs, reduceCtorEq, aa, V, ad, ag, af, ae, Mly.av]) ?_
 apply k0; clear k0; simp only [zP, V]
 (refine aj rfl fun _ k0 => ?_; simp only [zO, zT, acs, reduceCtorEq, aa, V, ad, ag, af, ae, Mly.av]; (repeat refine an ?_); (try refine .inl ?_); apply k0; clear k0; simp only [zP, V])
 refine am ?_
 apply k8; clear k8; refine kp [0, 1, 2, 3, 7, 11] ?_
 refine cd (fun hc9 => ?_) (fun hc9 => ?_)
 ·(try simp only [zB, reduceCtorEq] at hc9)
  refine ai fun _ k10 => ?_
  refine ak hP hN rfl ?_
  (refine aj rfl fun _ k0 => ?_; simp only [zO, zT, acs, reduceCtorEq, aa, V, ad, ag, af, ae, Mly.av]; (repeat refine an ?_); (try refine .inl ?_); apply k0; clear k0; simp only [zP, V])
  refine am ?_
  apply k10; clear k10; refine kp [0, 1, 2, 3, 7, 11] ?_
  refine aG ?_
  refine ⟨nr, _, rfl, ?_⟩; simp only [zF, zP, aa, V, Mly.av]
  refine VLE.of_eq ?_
  refine congrArg (fun n => AV.one (AC.int IntKind.i64 n)) ?_
  unfold dT
  symm
  first
  | (rw [if_pos (by omega)]; done)
  | (rw [if_neg (by omega), if_neg (by simp_all)]; done)
  | (rw [if_neg (by omega), if_pos (by simp_all)]; done)
 (try simp only [zB, reduceCtorEq] at hc9)
 refine ay ?_
 apply k7; clear k7; refine kp [0, 1, 2, 3, 7, 11] ?_
 refine ai fun _ k11 => ?_
 refine ak hP hN rfl ?_
 (refine aj rfl fun _ k0 => ?_; simp only [zO, zT, acs, reduceCtorEq, aa, V, ad, ag, af, ae, Mly.av]; (repeat refine an ?_); (try refine .inl ?_); apply k0; clear k0; simp only [zP, V])
 refine am ?_
 apply k11; clear k11; refine kp [0, 1, 2, 3, 7, 11] ?_
 refine aG ?_
 refine ⟨nr, _, rfl, ?_⟩; simp only [zF, zP, aa, V, Mly.av]
 refine VLE.of_eq ?_
 refine congrArg (fun n => AV.one (AC.int IntKind.i64 n)) ?_
 unfold dT
 symm
 first
 | (rw [if_pos (by omega)]; done)
 | (rw [if_neg (by omega), if_neg (by simp_all)]; done)
 | (rw [if_neg (by omega), if_pos (by simp_all)]; done)
section
open Go.RowKit Go.Shelf
attribute [local go_sem] Oper.semAt_some
structure NV12 where
  sa : Option Addr
  sn : Nat
  sc : Nat
  i : Int
  ka : Option Addr
  kn : Nat
  kc : Nat
def NV12.v (x : NV12) : Value := .agg #[.slice x.sa x.sn x.sc, .int .i64 x.i, .slice x.ka x.kn x.kc]
def fJ (f : Nat → NV12) (k : Nat) : List NV12 := ((List.range k).map f).filter fun x => decide (x.i = -1)
theorem B3 {f : Nat → NV12} {k : Nat} (h : (f k).i = -1) : fJ f (k + 1) = fJ f k ++ [f k] := by
  unfold fJ; rw [List.range_succ, List.map_append, List.filter_append]; simp [h]
theorem B9 {f : Nat → NV12} {k : Nat} (h : ¬ (f k).i = -1) : fJ f (k + 1) = fJ f k := by
  unfold fJ; rw [List.range_succ, List.map_append, List.filter_append]; simp [h]
theorem yo {f : Nat → NV12} {k : Nat} : (fJ f k).length ≤ k := by
  unfold fJ; exact Nat.le_trans (List.length_filter_le _ _) (by simp)
set_option maxHeartbeats 2000000 in
theorem Ad (F : Fence) (n : Nat) (h61 : F.fn 61) (hro : F.round = none) (hn : 1 ≤ n) (l Bs n₀ b off len cap : Nat) (f : Nat → NV12) (hln : len ≤ 1000000000) (hb : b < n₀) (J Jx : List NV12 → World → Prop)
    (hY : ∀ pre x W, J pre W → pre.length < len → YieldAt F (n - 1) Try.prog l #[NV12.v x] W fun e W' =>
      (e = .returned (.bool true) ∧ J (pre ++ [x]) W' ∧ Below n₀ W W') ∨ (e = .returned (.bool false) ∧ Jx (pre ++ [x]) W'))
    (W : World) (hn₀ : n₀ ≤ W.heap.size) (hJ : AbidesFrom W.heap.size J)
    (hBs : W.cell? ⟨Bs, 0, none⟩ = some (.slice (some ⟨b, off, none⟩) len cap)) (hc0 : ∀ j, j < len → W.cell? ⟨b, off + j * 3, none⟩ = some (.slice (f j).sa (f j).sn (f j).sc)) (hc1 : ∀ j, j < len → W.cell? ⟨b, off + j * 3 + 1, none⟩ = some (.int .i64 (f j).i)) (hc2 : ∀ j, j < len → W.cell? ⟨b, off + j * 3 + 2, none⟩ = some (.slice (f j).ka (f j).kn (f j).kc)) (h0 : J [] W) :
    CallsIn F n Try.prog 61 #[.func (.yield l) #[] #[], .pointer (some ⟨Bs, 0, none⟩)] W fun e W' => (∃ v, e = .returned v) ∧
      ((∃ ys, ys = fJ f len ∧ J ys W') ∨ (∃ pre, (∃ k, k ≤ len ∧ pre = fJ f k) ∧ Jx pre W')) := by
  refine callsIn_of_wp Try.func61 rfl h61 ?_ hro
  simp only [Try.ntmps61, List.size_toArray, au, aC, V, ae, Array.replicate_succ, Array.replicate_zero, List.push_toArray, List.append_toArray, aZ, aH]
  gi_wp2
  gi_loopw [8] (fun i wr => ∃ k : Nat, k ≤ len ∧ i = .int .i64 k ∧ J (fJ f k) wr ∧ Below n₀ W wr)
    (fun i _ => len - (intOf i).toNat)
  case atStart => exact ⟨0, Nat.zero_le _, rfl, h0, Below.refl _ _⟩
  case round =>
    obtain ⟨k, hk, rfl, hJs, hnx⟩ := hrel
    by_cases hlt : k < len
    · have q0 := (hnx.cell (p := ⟨b, off + k * 3, none⟩) hb).trans (hc0 k hlt)
      have q1 := (hnx.cell (p := ⟨b, off + k * 3 + 1, none⟩) hb).trans (hc1 k hlt)
      have q2 := (hnx.cell (p := ⟨b, off + k * 3 + 2, none⟩) hb).trans (hc2 k hlt)
      rcases hf : f k with ⟨sa, sn, sc, i, ka, kn, kc⟩
      rw [hf] at q0 q1 q2
      dsimp only at q0 q1 q2
      by_cases hi : i = -1
      · subst hi
        have hJ1 : J (fJ f k) (wr.alloc (.cells #[.slice sa sn sc, .int .i64 (-1), .slice ka kn kc] 52)) := hJ _ wr _ none hJs (World.grownBy_alloc wr _ none) (fun r e => by cases e)
        have hll := yo (f := f) (k := k)
        obtain ⟨fn, tmps, assign, body, hy, hR⟩ := hY _ (f k) _ hJ1 (by omega)
        rw [hf] at hy hR
        dsimp only [NV12.v] at hy
        gi_wp2
        refine hR.mono ?_
        have hlv : fJ f (k + 1) = fJ f k ++ [⟨sa, sn, sc, -1, ka, kn, kc⟩] := by rw [B3 (by rw [hf]), hf]
        rintro e W3 (⟨rfl, hJ3, hk3⟩ | ⟨rfl, hJx3⟩)
        · gi_wp2
          go_roundw
          case rel => exact ⟨k + 1, by omega, by simp, by rw [hlv]; exact hJ3, hnx.trans (((Below.refl n₀ wr).alloc (Nat.le_trans hn₀ hnx.size) _).trans hk3)⟩
          case measure => simp [intOf]; omega
        · gi_wp2
          refine bodyPost_ret (results_none rfl _ _ _) rfl ?_
          exact ⟨⟨_, rfl⟩, .inr ⟨_, ⟨k + 1, by omega, hlv.symm⟩, hJx3⟩⟩
      · have hi2 : (i == -1) = false := by simp [hi]
        gi_wp2
        refine ⟨fun _ h => (by cases h), ?_⟩
        gi_wp2
        go_roundw
        case rel => exact ⟨k + 1, by omega, by simp, by rw [B9 (by rw [hf]; exact hi)]; exact hJ _ wr _ none hJs (World.grownBy_alloc wr _ none) (fun r e => by cases e), hnx.trans ((Below.refl n₀ wr).alloc (Nat.le_trans hn₀ hnx.size) _)⟩
        case measure => simp [intOf]; omega
    · obtain rfl : k = len := by omega
      gi_wp2
      go_end0
      exact ⟨⟨_, rfl⟩, .inl ⟨_, rfl, hJs⟩⟩

set_option maxHeartbeats 1000000 in
theorem xX (F : Fence) (n : Nat) (h61 : F.fn 61) (hro : F.round = none) (l Bs : Nat) (A : Option Addr) (cap : Nat) (J : List NV12 → World → Prop) (W : World) (hBs : W.cell? ⟨Bs, 0, none⟩ = some (.slice A 0 cap)) (h0 : J [] W) :
    CallsIn F n Try.prog 61 #[.func (.yield l) #[] #[], .pointer (some ⟨Bs, 0, none⟩)] W fun e W' => (∃ v, e = .returned v) ∧ J [] W' := by
  refine callsIn_of_wp Try.func61 rfl h61 ?_ hro
  simp only [Try.ntmps61, List.size_toArray, au, aC, V, ae, Array.replicate_succ, Array.replicate_zero, List.push_toArray, List.append_toArray, aZ, aH]
  gi_wp2
  gi_loopw [8] (fun i wr => i = .int .i64 0 ∧ J [] wr) (fun _ _ => 0)
  case atStart => exact ⟨rfl, h0⟩
  case round =>
    obtain ⟨rfl, hJs⟩ := hrel
    gi_wp2
    go_end0
    exact ⟨⟨_, rfl⟩, hJs⟩

set_option maxHeartbeats 1000000 in
theorem zq (F : Fence) (n : Nat) (h39 : F.fn 39) (hro : F.round = none) (A : Option Addr) (len cap : Nat) (w : World) :
    CallsIn F n Try.prog 39 #[.agg #[.slice A len cap]] w fun e w' => e = .returned (.func (.func 61) #[] #[.pointer (some ⟨w.heap.size, 0, none⟩)]) ∧ w' = w.alloc (.cells #[.slice A len cap] 29) := by
  refine callsIn_of_wp Try.func39 rfl h39 ?_ hro
  simp only [Try.ntmps39, List.size_toArray, au, aC, V, ae, Array.replicate_succ, Array.replicate_zero, List.push_toArray, List.append_toArray, aZ, aH]
  gi_wp2
  go_ret
  exact ⟨rfl, rfl⟩

def p7 (n₀ : Nat) (W : World) (A : Option Addr) (len : Nat) (f : Nat → NV12) : Prop :=
  0 < len → ∃ b off, A = some ⟨b, off, none⟩ ∧ b < n₀ ∧ (∀ j, j < len → W.cell? ⟨b, off + j * 3, none⟩ = some (.slice (f j).sa (f j).sn (f j).sc)) ∧ (∀ j, j < len → W.cell? ⟨b, off + j * 3 + 1, none⟩ = some (.int .i64 (f j).i)) ∧
    (∀ j, j < len → W.cell? ⟨b, off + j * 3 + 2, none⟩ = some (.slice (f j).ka (f j).kn (f j).kc))

theorem vW (F : Fence) (n : Nat) (h61 : F.fn 61) (hro : F.round = none) (hn : 1 ≤ n) (Bs n₀ : Nat) (A : Option Addr) (len cap : Nat) (f : Nat → NV12) (hln : len ≤ 1000000000) (w : World) (hBs : Bs < w.heap.size) (hn₀ : n₀ ≤ w.heap.size)
    (hc : w.cell? ⟨Bs, 0, none⟩ = some (.slice A len cap)) (hI : p7 n₀ w A len f) :
    SeqStopsK F n Try.prog 61 #[.pointer (some ⟨Bs, 0, none⟩)] (fun x : NV12 => #[NV12.v x]) (Below n₀) (fun ys => ys = fJ f len) (fun pre => ∃ k, k ≤ len ∧ pre = fJ f k) len w := fun l J Jx W hW hJ _ hY h0 => by
  have hc' := (hW.cell (p := ⟨Bs, 0, none⟩) hBs).trans hc
  rcases Nat.eq_zero_or_pos len with e | e
  · subst e
    exact (xX F n h61 hro l Bs A cap J W hc' h0).mono fun e W' ⟨he, hj⟩ => ⟨he, .inl ⟨_, rfl, hj⟩⟩
  · obtain ⟨b, off, rfl, hb, c0, c1, c2⟩ := hI e
    have hbw : b < w.heap.size := by omega
    exact Ad F n h61 hro hn l Bs n₀ b off len cap f hln hb J Jx hY W (Nat.le_trans hn₀ hW.size) hJ hc'
      (fun j hj => (hW.cell (p := ⟨b, off + j * 3, none⟩) hbw).trans (c0 j hj)) (fun j hj => (hW.cell (p := ⟨b, off + j * 3 + 1, none⟩) hbw).trans (c1 j hj)) (fun j hj => (hW.cell (p := ⟨b, off + j * 3 + 2, none⟩) hbw).trans (c2 j hj)) h0

theorem tJ {n₀ : Nat} {W W' : World} (h : Below n₀ W W') {A : Option Addr} {len : Nat} {f : Nat → NV12} (hd : p7 n₀ W A len f) : p7 n₀ W' A len f := fun e => by
  obtain ⟨b, off, ea, hb, c0, c1, c2⟩ := hd e
  exact ⟨b, off, ea, hb, fun j hj => (h.cell (p := ⟨b, off + j * 3, none⟩) hb).trans (c0 j hj), fun j hj => (h.cell (p := ⟨b, off + j * 3 + 1, none⟩) hb).trans (c1 j hj), fun j hj => (h.cell (p := ⟨b, off + j * 3 + 2, none⟩) hb).trans (c2 j hj)⟩
theorem xO {f : Nat → NV12} {k n : Nat} (h : k ≤ n) {x : NV12} (hx : x ∈ fJ f k) : x ∈ fJ f n := by
  unfold fJ at hx ⊢
  obtain ⟨h1, h2⟩ := List.mem_filter.1 hx
  obtain ⟨j, hj, e⟩ := List.mem_map.1 h1
  have := List.mem_range.1 hj
  exact List.mem_filter.2 ⟨List.mem_map.2 ⟨j, List.mem_range.2 (by omega), e⟩, h2⟩

def yE (W : World) (B : Nat) (x : NV12) : Prop := W.heap[B]? = some (.cells #[.slice x.sa x.sn x.sc, .int .i64 x.i, .slice x.ka x.kn x.kc] 52 (0, 0))
theorem wb {β : Type} (B : Nat) (f : β → NV12) : Own (fun s W => yE W B (f s)) := fun s X Y row hs hg hrow =>
  (hg.block B (Array.getElem?_eq_some_iff.1 hs).1 (fun e' => by obtain ⟨o, ho, hc⟩ := hrow B e'.symm; rw [show X.heap[B]? = _ from hs] at ho; cases ho; cases hc)).trans hs

set_option maxHeartbeats 4000000 in
theorem A9 (F : Fence) (n : Nat) (h18 : F.fn 18) (h39 : F.fn 39) (h61 : F.fn 61) (hro : F.round = none) (hn : 6 ≤ n) (A : Option Addr) (len cap : Nat) (f : Nat → NV12) (hln : len ≤ 1000000000) (w : World) (hI : p7 w.heap.size w A len f) :
    CallsIn F n Try.prog 18 #[.agg #[.slice A len cap]] w fun e W' => (∃ r, e = .returned (.bool r) ∧ (r = true ↔ (∀ x ∈ fJ f len, x.sn = 1) ∧ 0 < len)) ∧ Below w.heap.size w W' := by
  have h1 : 1 ≤ n := by omega
  refine callsIn_of_wp_marks Try.func18 rfl h18 ?_ hro
  simp only [Try.ntmps18, List.size_toArray, au, aC, V, ae, Array.replicate_succ, Array.replicate_zero, List.push_toArray, List.append_toArray, aZ, aH]
  gi_wp2_with (gi_at_call 39; refine (zq F (n - 1) h39 hro _ _ _ _).mono ?_; rintro e w' ⟨rfl, rfl⟩)
  have bT := ((Boxed.new w 29 (.slice A len cap)).alloc (.cells #[.bool false] 4)).alloc (.cells #[.slice A len cap] 29)
  have bR := (Boxed.new (w.alloc (.cells #[.slice A len cap] 29)) 4 (.bool false)).alloc (.cells #[.slice A len cap] 29)
  have bA := Boxed.new ((w.alloc (.cells #[.slice A len cap] 29)).alloc (.cells #[.bool false] 4)) 29 (.slice A len cap)
  simp only [World.size_alloc] at bR bA
  have hB0 : Below w.heap.size w (((w.alloc (.cells #[.slice A len cap] 29)).alloc (.cells #[.bool false] 4)).alloc (.cells #[.slice A len cap] 29)) := (((Below.refl _ w).alloc (Nat.le_refl _) _).alloc (by simp) _).alloc (by simp; omega) _
  have hsz : (((w.alloc (.cells #[.slice A len cap] 29)).alloc (.cells #[.bool false] 4)).alloc (.cells #[.slice A len cap] 29)).heap.size = w.heap.size + 3 := by simp
  obtain ⟨W0, hW0⟩ : ∃ W0, (((w.alloc (.cells #[.slice A len cap] 29)).alloc (.cells #[.bool false] 4)).alloc (.cells #[.slice A len cap] 29)) = W0 := ⟨_, rfl⟩
  rw [hW0] at bT bR bA hB0 hsz ⊢
  clear hW0
  refine wpIn_rangeFunc_ownH hro h1 (gf := 61) (lb := #[.pointer (some ⟨w.heap.size + 1 + 1, 0, none⟩)]) rfl h61 (enters_of Try.func61 (by kernel_rfl) rfl)
    (vW F (n - 1) h61 hro (by omega) (w.heap.size + 1 + 1) w.heap.size A len cap f hln W0 (by omega) (by omega) bA.cell (tJ hB0 hI)) belowK_t (belowK_b (by omega)) (Below.refl _ _) (fun _ => rfl)
    (fun pre W => (Boxed W (w.heap.size + 1) 4 (.bool false) ∧ Boxed W w.heap.size 29 (.slice A len cap)) ∧ (Below w.heap.size w W ∧ ∀ x ∈ pre, x.sn = 1))
    (fun c pre W => (Boxed W (w.heap.size + 1) 4 (.bool false) ∧ Boxed W w.heap.size 29 (.slice A len cap)) ∧ (Below w.heap.size w W ∧ (c = .ret ∧ ∃ x ∈ pre, ¬ x.sn = 1)))
    (OwnFrom.and (OwnFrom.and (Own.from (boxed_own _ _ _) _) (Own.from (boxed_own _ _ _) _)) (OwnFrom.and (ownFrom_below (Nat.le_refl _) (by omega)) (fun _ _ _ _ hs _ _ => hs)))
    (fun c => OwnFrom.and (OwnFrom.and (Own.from (boxed_own _ _ _) _) (Own.from (boxed_own _ _ _) _)) (OwnFrom.and (ownFrom_below (Nat.le_refl _) (by omega)) (fun _ _ _ _ hs _ _ => hs)))
    ⟨⟨bR, bT⟩, hB0, fun x hx => by cases hx⟩
    (fun x a' W => ∃ Bx, w.heap.size + 1 < Bx ∧ yE W Bx x ∧ a' = { tmps := #[.agg #[.slice A len cap], .pointer (some ⟨w.heap.size, 0, none⟩), .pointer (some ⟨w.heap.size + 1, 0, none⟩), .pointer (some ⟨Bx, 0, none⟩), .agg #[.slice A len cap], .func (.func 61) #[] #[.pointer (some ⟨w.heap.size + 1 + 1, 0, none⟩)], x.v, undef, undef, undef, undef, undef, undef, undef, undef], defers := [] })
    (fun x a' _ X Y row hs hg hr => by obtain ⟨Bx, h1, h2, h3⟩ := hs; exact ⟨Bx, h1, wb Bx (fun (_ : Unit) => x) () X Y row h2 hg (fun r e => (hr r e).2), h3⟩)
    ?assign ?body ?done ?stop
  case assign =>
    rintro l pre ⟨sa, sn, sc, i, ka, kn, kc⟩ W K ⟨⟨bS1, bB1⟩, hB1, hp⟩ hK
    dsimp only [NV12.v]
    gi_wp2
    exact hK _ _ ((KeepsOthers.alloc _ _).from _) ((Below.refl _ W).alloc hB1.size _) ⟨⟨bS1.alloc _, bB1.alloc _⟩, hB1.alloc hB1.size _, hp⟩ ⟨W.heap.size, bS1.lt, World.alloc_heap_new W _, rfl⟩
  case body =>
    rintro l pre ⟨sa, sn, sc, i, ka, kn, kc⟩ a' W hl ⟨r, hr⟩ ⟨⟨bS1, bB1⟩, hB1, hp⟩ ⟨Bx, hBx, bX, rfl⟩ hlt
    dsimp only [NV12.v]
    have cS := bS1.cell
    have fS := bS1.frozen
    have cX : W.cell? ⟨Bx, 0, none⟩ = some (.slice sa sn sc) := by simp [World.cell?, show W.heap[Bx]? = _ from bX]
    gi_wp2
    · rename_i hsn
      have hsn : ¬ sn = 1 := fun e => by subst e; simp at hsn
      exact ⟨(KeepsOthers.setCell _ _ _).from _, ⟨bS1.set _, bB1.other (by omega) _⟩, hB1.setCell (p := ⟨w.heap.size + 1, 0, none⟩) (by simp) _, rfl, _, List.mem_append_right _ (List.mem_singleton.2 rfl), hsn⟩
    · rename_i hsn
      have hsn : sn = 1 := by simp at hsn; omega
      refine ⟨KeepsFrom.refl _ _, Below.refl _ _, ⟨bS1, bB1⟩, hB1, fun x hx => ?_⟩
      rcases List.mem_append.1 hx with h | h
      · exact hp x h
      · rw [List.mem_singleton] at h; rw [h]; exact hsn
  case done =>
    rintro D zs W hD rfl ⟨⟨bS1, bB1⟩, hB1, hp⟩ hK
    have cS := bS1.cell
    have fS := bS1.frozen
    have cB := bB1.cell
    gi_wp2
    have k2 : (W.setCell ⟨w.heap.size + 1, 0, none⟩ (.bool (decide (0 < len)))).heap[D]? = some (.deferred (some [])) := (KeepsOthers.setCell W ⟨w.heap.size + 1, 0, none⟩ _).same D _ hK rfl
    have hB2 := hB1.setCell (p := ⟨w.heap.size + 1, 0, none⟩) (by simp) (.bool (decide (0 < len)))
    have cS2 := (bS1.set (.bool (decide (0 < len)))).cell
    have cS3 := cell_kept cS2 (grownBy_putObj' _ D (.deferred none)) (fun r e => by cases e; exact ⟨_, k2, rfl⟩)
    refine ⟨by simp, .inl ⟨_, _, rfl, run_takeDeferred k2, ?_⟩⟩
    refine ⟨.bool (decide (0 < len)), ?_, ⟨decide (0 < len), rfl, ?_⟩, hB2.trans (belowK_b (w := w) (Nat.le_refl _) _ D _ _ (by omega) k2 rfl rfl)⟩
    · simp only [results, show Try.f18.results = #[.cell 2 4] by kernel_rfl]
      simp [loadVar, asAddr, go_sem, cS3]
    · rw [decide_eq_true_eq]; exact ⟨fun h => ⟨hp, h⟩, fun h => h.2⟩
  case stop =>
    rintro D c pre W hD ⟨k, hk, rfl⟩ ⟨⟨bS1, bB1⟩, hB1, rfl, x, hx, hx1⟩ hK
    have cS := bS1.cell
    gi_wp2
    have cS3 := cell_kept cS (grownBy_putObj' _ D (.deferred none)) (fun r e => by cases e; exact ⟨_, hK, rfl⟩)
    refine ⟨by simp, .inl ⟨_, _, rfl, run_takeDeferred hK, ?_⟩⟩
    refine ⟨.bool false, ?_, ⟨false, rfl, ?_⟩, hB1.trans (belowK_b (w := w) (Nat.le_refl _) _ D _ _ (by omega) hK rfl rfl)⟩
    · simp only [results, show Try.f18.results = #[.cell 2 4] by kernel_rfl]
      simp [loadVar, asAddr, go_sem, cS3]
    · refine ⟨fun h => (by cases h), fun h => absurd (h.1 x (xO hk hx)) hx1⟩

theorem yi {T : List aX} {f : Nat → NV12} (h : ∀ i, i < T.length → (f i).sn = (T.getD i nd0).1.length ∧ (f i).i = (T.getD i nd0).2.1) : ((∀ x ∈ fJ f T.length, x.sn = 1) ∧ 0 < T.length) ↔ gh T = true := by
  unfold gh
  rw [Bool.and_eq_true, decide_eq_true_eq, List.all_eq_true]
  refine and_congr_left fun _ => ⟨fun h1 x hx => ?_, fun h1 x hx => ?_⟩
  · obtain ⟨i, hi, rfl⟩ := List.getElem_of_mem hx
    obtain ⟨a, b⟩ := h i hi
    have e : T.getD i nd0 = T[i] := by simp [List.getD, hi]
    rw [e] at a b
    unfold cmL
    by_cases e1 : T[i].2.1 = -1
    · have := h1 (f i) (List.mem_filter.2 ⟨List.mem_map.2 ⟨i, List.mem_range.2 hi, rfl⟩, decide_eq_true (by rw [b]; exact e1)⟩)
      rw [decide_eq_true (show T[i].1.length = 1 by omega)]; simp
    · rw [decide_eq_false e1]; rfl
  · obtain ⟨h2, h3⟩ := List.mem_filter.1 hx
    obtain ⟨i, hi, rfl⟩ := List.mem_map.1 h2
    have hi := List.mem_range.1 hi
    obtain ⟨a, b⟩ := h i hi
    have h4 := h1 (T.getD i nd0) (by rw [List.getD, List.getElem?_eq_getElem hi]; exact List.getElem_mem hi)
    unfold cmL at h4
    rw [decide_eq_true (show (T.getD i nd0).2.1 = -1 by rw [← b]; exact of_decide_eq_true h3)] at h4
    rw [a]
    simpa using h4
theorem xk (T : List aX) (hT : T.length ≤ 1000000) : c7 Try.prog 18 [.agg [.list ndT T]] (.one (.bool (gh T))) := by
  refine ⟨⟨_, Try.func18, by kernel_rfl, by kernel_rfl⟩, fun C L σ w vs hP hI ha => ?_⟩
  match vs, ha with
  | [v], ⟨⟨us, hv, hus⟩, _⟩ =>
  match us, hus with
  | [u], ⟨⟨_, hd⟩, _⟩ =>
  subst hv
  have hd : Dat (avd C L σ) w (.list ndT) T [u] := hd
  simp only [Dat] at hd
  obtain ⟨A, c, e, _, _, hr⟩ := hd
  obtain rfl : u = .slice A T.length c := by simpa using e
  have hx : ∀ i, ∃ x : NV12, i < T.length → (x.sn = (T.getD i nd0).1.length ∧ x.i = (T.getD i nd0).2.1) ∧ ∀ b o, A = some ⟨b, o, none⟩ → w.cell? ⟨b, o + i * 3, none⟩ = some (.slice x.sa x.sn x.sc) ∧ w.cell? ⟨b, o + i * 3 + 1, none⟩ = some (.int .i64 x.i) ∧ w.cell? ⟨b, o + i * 3 + 2, none⟩ = some (.slice x.ka x.kn x.kc) := fun i => by
    by_cases hi : i < T.length
    · obtain ⟨b, o, eA, _, _, hc⟩ := hr (by omega)
      obtain ⟨cs, hl, h1, h2⟩ := hc i hi
      have e2 : (List.getD T i ndT.dflt) = T.getD i nd0 := rfl
      rw [e2] at h2
      rcases hq : T.getD i nd0 with ⟨st, inp, ks, un⟩
      rw [hq] at h2
      simp only [ndT, Dat] at h2
      obtain ⟨c1, c2, rfl, ⟨A1, k1, rfl, _⟩, c3, c4, rfl, rfl, c5, c6, rfl, ⟨A2, k2, rfl, _⟩, rfl⟩ := h2
      refine ⟨⟨A1, st.length, k1, inp, A2, ks.length, k2⟩, fun _ => ⟨⟨rfl, rfl⟩, fun b' o' e' => ?_⟩⟩
      rw [eA] at e'
      cases e'
      exact ⟨h1 0 (by decide), h1 1 (by decide), h1 2 (by decide)⟩
    · exact ⟨⟨none, 0, 0, 0, none, 0, 0⟩, fun h => absurd h hi⟩
  obtain ⟨f, hf⟩ := Classical.axiomOfChoice hx
  have hn : p7 w.heap.size w A T.length f := fun h0 => by
    obtain ⟨b, o, eA, _, hlt, _⟩ := hr h0
    exact ⟨b, o, eA, hlt, fun j hj => ((hf j hj).2 b o eA).1, fun j hj => ((hf j hj).2 b o eA).2.1, fun j hj => ((hf j hj).2 b o eA).2.2⟩
  refine (callsIn_wide.1 (A9 Fence.wide 6 trivial trivial trivial rfl (by omega) A T.length c f (by omega) w hn)).mono ?_
  rintro e w' ⟨⟨r, h1, h2⟩, h3⟩
  refine ⟨.bool r, h1, ⟨h3.size, h3.os, h3.tape, h3.output, h3.block⟩, rfl, ?_⟩
  have h4 := h2.trans (yi fun i hi => (hf i hi).1)
  show Value.bool r = .bool (gh T)
  cases r <;> cases hq : gh T <;> simp_all
end
theorem y3  : ld Try.prog 51 [.one .emp] (.int .i64) 3 (([] : List Int)) := by
 refine jj Try.func51 rfl (by kernel_rfl) (Nat.le_of_ble_eq_true rfl) rfl fun C hP hN hB => ?_
 replace hN : C.N = 8 := hN
 simp only [bc, V]
 refine ai fun _ k1 => ?_
 refine ak hP hN rfl ?_
 (refine aj rfl fun _ k0 => ?_; simp only [zO, zT, acs, reduceCtorEq, aa, V, ad, ag, af, ae]; (repeat refine an ?_); (try refine .inl ?_); apply k0; clear k0; simp only [zP, V])
 refine am ?_
 apply k1; clear k1; refine kp [0, 2] ?_
 refine ai fun _ k2 => ?_
 refine ai fun _ k3 => ?_
 refine ak hP hN rfl ?_
 iterate 2 (refine aj rfl fun _ k0 => ?_; simp only [zO, zT, acs, reduceCtorEq, aa, V, ad, ag, af, ae]; (repeat refine an ?_); (try refine .inl ?_); apply k0; clear k0; simp only [zP, V])
 refine am ?_
 apply k3; clear k3; refine kp [0, 2, 4] ?_
 refine cd (fun hc4 => ?_) (fun hc4 => ?_)
 · exfalso; (try simp only [zB, reduceCtorEq] at hc4); all_goals (first | (cases hc4; done) | omega | (simp at hc4; done) | (simp_all; done))
 (try simp only [zB, reduceCtorEq] at hc4)
 refine ay ?_
 apply k2; clear k2; refine kp [0, 2, 4] ?_
 refine ai fun _ k5 => ?_
 refine ak hP hN rfl ?_
 (refine aj rfl fun _ k0 => ?_; simp only [zO, zT, acs, reduceCtorEq, aa, V, ad, ag, af, ae]; (repeat refine an ?_); refine Or.inr (Or.inl (k0 _ ?_)); clear k0; simp only [zP, V])
 iterate 3 (refine aj rfl fun _ k0 => ?_; simp only [zO, zT, acs, reduceCtorEq, aa, V, ad, ag, af, ae]; (repeat refine an ?_); (try refine .inl ?_); apply k0; clear k0; simp only [zP, V])
 refine am ?_
 apply k5; clear k5; refine kp [0, 2, 4] ?_
 refine aG ?_
 refine ⟨by first | exact .inl rfl | exact .inr rfl, _, rfl, _, _, rfl, ?_⟩
 rfl
theorem rN  : ld Try.prog 51 [.one .nils] (.int .i64) 3 (([] : List Int)) := by
 refine jj Try.func51 rfl (by kernel_rfl) (Nat.le_of_ble_eq_true rfl) rfl fun C hP hN hB => ?_
 replace hN : C.N = 8 := hN
 simp only [bc, V]
 refine ai fun _ k1 => ?_
 refine ak hP hN rfl ?_
 (refine aj rfl fun _ k0 => ?_; simp only [zO, zT, acs, reduceCtorEq, aa, V, ad, ag, af, ae]; (repeat refine an ?_); (try refine .inl ?_); apply k0; clear k0; simp only [zP, V])
 refine am ?_
 apply k1; clear k1; refine kp [0, 2] ?_
 refine ai fun _ k2 => ?_
 refine ai fun _ k3 => ?_
 refine ak hP hN rfl ?_
 iterate 2 (refine aj rfl fun _ k0 => ?_; simp only [zO, zT, acs, reduceCtorEq, aa, V, ad, ag, af, ae]; (repeat refine an ?_); (try refine .inl ?_); apply k0; clear k0; simp only [zP, V])
 refine am ?_
 apply k3; clear k3; refine kp [0, 2, 4] ?_
 refine cd (fun hc4 => ?_) (fun hc4 => ?_)
 ·(try simp only [zB, reduceCtorEq] at hc4)
  refine ai fun _ k5 => ?_
  refine ak hP hN rfl ?_
  (refine aj rfl fun _ k0 => ?_; simp only [zO, zT, acs, reduceCtorEq, aa, V, ad, ag, af, ae]; (repeat refine an ?_); (try refine .inl ?_); apply k0; clear k0; simp only [zP, V])
  refine am ?_
  apply k5; clear k5; refine kp [0, 2, 4] ?_
  refine eI 2 (.int .i64) 3 (by decide) rfl ?_; simp only [au, aC, aH, aZ, Nat.zero_add, V]
  refine aG ?_
  refine ⟨by first | exact .inl rfl | exact .inr rfl, _, rfl, _, _, rfl, ?_⟩
  rfl
 · exfalso; (try simp only [zB, reduceCtorEq] at hc4); all_goals (first | (cases hc4; done) | omega | (simp at hc4; done) | (simp_all; done))
theorem nz (xs : List Int) (h0 : 0 < xs.length) (h1 : xs.length ≤ 10000000000000) : ld Try.prog 51 [.one (.list (.int .i64) xs)] (.int .i64) 3 (xs) := by
 refine jj Try.func51 rfl (by kernel_rfl) (Nat.le_of_ble_eq_true rfl) rfl fun C hP hN hB => ?_
 replace hN : C.N = 8 := hN
 simp only [bc, V]
 refine ai fun _ k1 => ?_
 refine ak hP hN rfl ?_
 (refine aj rfl fun _ k0 => ?_; simp only [zO, zT, acs, reduceCtorEq, aa, V, ad, ag, af, ae]; (repeat refine an ?_); (try refine .inl ?_); apply k0; clear k0; simp only [zP, V])
 refine am ?_
 apply k1; clear k1; refine kp [0, 2] ?_
 refine ai fun _ k2 => ?_
 refine ai fun _ k3 => ?_
 refine ak hP hN rfl ?_
 iterate 2 (refine aj rfl fun _ k0 => ?_; simp only [zO, zT, acs, reduceCtorEq, aa, V, ad, ag, af, ae]; (repeat refine an ?_); (try refine .inl ?_); apply k0; clear k0; simp only [zP, V])
 refine am ?_
 apply k3; clear k3; refine kp [0, 2, 4] ?_
 refine cd (fun hc4 => ?_) (fun hc4 => ?_)
 · exfalso; (try simp only [zB, reduceCtorEq] at hc4); all_goals (first | (cases hc4; done) | omega | (simp at hc4; done) | (simp_all; done))
 (try simp only [zB, reduceCtorEq] at hc4)
 refine ay ?_
 apply k2; clear k2; refine kp [0, 2, 4] ?_
 refine ai fun _ k5 => ?_
 refine ak hP hN rfl ?_
 (refine aj rfl fun _ k0 => ?_; simp only [zO, zT, acs, reduceCtorEq, aa, V, ad, ag, af, ae]; (repeat refine an ?_); refine Or.inr (Or.inl (k0 _ ?_)); clear k0; simp only [zP, V])
 iterate 3 (refine aj rfl fun _ k0 => ?_; simp only [zO, zT, acs, reduceCtorEq, aa, V, ad, ag, af, ae]; (repeat refine an ?_); (try refine .inl ?_); apply k0; clear k0; simp only [zP, V])
 refine am ?_
 apply k5; clear k5; refine kp [0, 2, 4] ?_
 refine aG ?_
 refine ⟨by first | exact .inl rfl | exact .inr rfl, _, rfl, _, _, rfl, ?_⟩
 rfl
theorem sU {P : Program} {f : FuncId} {t t2 : Ty} {e2 : TypeId} {xs : List t.den} {ys : List t2.den} (h0 : xs = [] → ld P f [.one .nils] t2 e2 ys) (h1 : xs = [] → ld P f [.one .emp] t2 e2 ys) (h2 : 0 < xs.length → ld P f [.one (.list t xs)] t2 e2 ys) (hc : fv P f) : ld P f [.one (.list t xs)] t2 e2 ys := by
  refine ⟨hc, fun C L σ w vs hP hI ha => ?_⟩
  obtain ⟨u, rfl, hu⟩ := ha.one
  rcases ke hu with ⟨e, h⟩ | ⟨e, h⟩ | h
  · exact (h0 e).2 C L σ w _ hP hI ⟨h, trivial⟩
  · exact (h1 e).2 C L σ w _ hP hI ⟨h, trivial⟩
  · exact (h2 h).2 C L σ w _ hP hI ⟨hu, trivial⟩
theorem yb (xs : List Int) (h : xs.length ≤ 10000000000000) : ld Try.prog 51 [.one (.list (.int .i64) xs)] (.int .i64) 3 xs :=
  sU (t := .int .i64) (fun e => by subst e; exact rN) (fun e => by subst e; exact y3) (fun h0 => nz xs h0 h) rN.1
set_option maxHeartbeats 1000000 in
theorem yf (m : Mly) (l : List Int) (a : Int) (hm : MOK m) (hs : cO m l) (ha : 0 ≤ a ∧ a < m.inp) (hl : l.length ≤ 1000) : c7 Try.prog 72 [m.av, .one (.list (.int .i64) l), .one (.int .i64 a)] (.tup [.one (.list (.int .i64) (if unS m l a l.length = true then [] else cr m l a)), .one (.bool (!unS m l a l.length)), .one (.bool (!unS m l a l.length && smO m l a l.length))]) := by
 have ol := hm.ol
 refine aS Try.func72 rfl (by kernel_rfl) (Nat.le_of_ble_eq_true rfl) rfl fun C hP hN hB => ?_
 replace hN : C.N = 106 := hN
 simp only [bc, V]
 refine ai fun _ k1 => ?_
 refine ak hP hN rfl ?_
 iterate 4 (refine aj rfl fun _ k0 => ?_; simp only [zO, zT, acs, reduceCtorEq, aa, V, ad, ag, af, ae, Mly.av, ah]; (repeat refine an ?_); (try refine .inl ?_); apply k0; clear k0; simp only [zP, V])
 refine am ?_
 apply k1; clear k1; refine kp [0, 1, 2, 3, 6, 7, 8] ?_
 refine ai fun _ k2 => ?_
 refine ak hP hN rfl ?_
 iterate 2 (refine aj rfl fun _ k0 => ?_; simp only [zO, zT, acs, reduceCtorEq, aa, V, ad, ag, af, ae, Mly.av, ah]; (repeat refine an ?_); (try refine .inl ?_); apply k0; clear k0; simp only [zP, V])
 (refine aj rfl fun _ k0 => ?_; simp only [zE, op1, ev, lkp, d6, bP, cj, eT, eg, cM, db, eC, Nat.div_one, cL, df, Ty.size, bq, dite_true, d9, Ty.dflt, reduceCtorEq, aa, V, ad, ag, af, ae, Try.el41, Try.td3, Try.td41, Mly.av, ah]; (repeat refine an ?_); (try refine .inl ?_); apply k0; clear k0; simp only [zP, V])
 (refine aj rfl fun _ k0 => ?_; simp only [zO, zT, acs, reduceCtorEq, aa, V, ad, ag, af, ae, Mly.av, ah]; (repeat refine an ?_); (try refine .inl ?_); apply k0; clear k0; simp only [zP, V])
 refine am ?_
 apply k2; clear k2; refine kp [0, 1, 2, 3, 6, 7, 8, 9] ?_
 refine ai fun _ k3 => ?_
 refine ak hP hN rfl ?_
 (refine aj rfl fun _ k0 => ?_; simp only [zO, zT, acs, reduceCtorEq, aa, V, ad, ag, af, ae, Mly.av, ah]; (repeat refine an ?_); (try refine .inl ?_); apply k0; clear k0; simp only [zP, V])
 refine am ?_
 apply k3; clear k3; refine kp [0, 1, 2, 3, 6, 7, 8, 9, 10] ?_
 refine ai fun _ k4 => ?_
 refine ai fun _ k5 => ?_
 refine ak hP hN rfl ?_
 iterate 3 (refine aj rfl fun _ k0 => ?_; simp only [zO, zT, acs, reduceCtorEq, aa, V, ad, ag, af, ae, Mly.av, ah]; (repeat refine an ?_); (try refine .inl ?_); apply k0; clear k0; simp only [zP, V])
 refine am ?_
 apply k5; clear k5; refine kp [0, 1, 2, 3, 6, 7, 8, 9, 10, 18, 19, 20] ?_
 refine az ?_
 refine ba (fun n6 s6 => ∃ (k : Nat) (v : Nat), (k ≤ l.length) ∧ (∀ k2 j2, k2 < k → j2 < k2 → clB m a (l.getD k2 0) (l.getD j2 0) = false) ∧ n6 = l.length - k ∧ s6 = { env := [(1, .one (.list (.int .i64) l)), (2, .one (.int .i64 a)), (3, .one (.ptr 0 0 0 0)), (6, .one .nils), (7, .one (.bool false)), (8, .one (.bool false)), (9, .one (.row 1 v)), (10, .one (.bool (smO m l a k))), (18, .one (.list (.int .i64) l)), (19, .one (.int .i64 (l.length : Int))), (20, .one (.int .i64 (k : Int)))], L := [.vars 24 [.int .i64 m.inp, .int .i64 m.st, .list (.list (.int .i64)) m.nx, .list (.list (.int .i64)) m.ot], .row (.int .i64) 3 v (cr m (l.take k) a)] }) ?_ ?_
 ·exact ⟨_, _, ax [1, 2, 3, 6, 7, 8, 9, 10, 18, 19, 20], 0, 0, Nat.zero_le _, fun k2 j2 h1 h2 => by omega, rfl, rfl⟩
 rintro n6 s6 ⟨k, v, hk, hu, rfl, rfl⟩
 refine ai fun _ k7 => ?_
 refine ak hP hN rfl ?_
 (refine aj rfl fun _ k0 => ?_; simp only [zO, zT, acs, reduceCtorEq, aa, V, ad, ag, af, ae, Mly.av, ah]; (repeat refine an ?_); (try refine .inl ?_); apply k0; clear k0; simp only [zP, V])
 refine am ?_
 apply k7; clear k7; refine kp [1, 2, 3, 6, 7, 8, 9, 10, 18, 19, 20, 21] ?_
 refine ai fun _ k8 => ?_
 refine cd (fun hc9 => ?_) (fun hc9 => ?_)
 ·(try simp only [zB, reduceCtorEq] at hc9)
  refine ay ?_
  apply k8; clear k8; refine kp [1, 2, 3, 6, 7, 8, 9, 10, 18, 19, 20, 21] ?_
  refine ai fun _ k10 => ?_
  refine az ?_
  refine ai fun _ k11 => ?_
  refine ak hP hN rfl ?_
  iterate 5 (refine aj rfl fun _ k0 => ?_; simp only [zO, zT, acs, reduceCtorEq, aa, V, ad, ag, af, ae, Mly.av, ah]; (repeat refine an ?_); (try refine .inl ?_); apply k0; clear k0; simp only [zP, V])
  refine am ?_
  apply k11; clear k11; refine kp [1, 2, 3, 6, 7, 8, 9, 10, 11, 12, 18, 19, 20, 21] ?_
  refine ai fun _ k12 => ?_
  refine ai fun _ k13 => ?_
  have hkl : k < l.length := by omega
  have hsk := hs _ (bh hkl)
  have htl : (l.take k).length = k := by rw [List.length_take]; omega
  have q1 := hm.rl (l.getD k 0).toNat (by omega); have q2 := hm.ql (l.getD k 0).toNat (by omega)
  refine ak hP hN rfl ?_
  iterate 2 (refine aj rfl fun _ k0 => ?_; simp only [zO, zT, acs, reduceCtorEq, aa, V, ad, ag, af, ae, Mly.av, ah, htl]; (repeat refine an ?_); (try refine .inl ?_); apply k0; clear k0; simp only [zP, V])
  (refine aj rfl fun _ k0 => ?_; simp only [zE, op1, ev, lkp, d6, bP, fD, bnd, Ty.size, cj, eT, eg, cM, db, eC, Nat.div_one, cL, df, bq, dite_true, reduceCtorEq, aa, V, ad, ag, af, ae, Try.el41, Try.td3, Try.td41, Mly.av, ah, htl]; (repeat refine an ?_); (try refine .inl ?_); apply k0; clear k0; simp only [zP, V])
  iterate 2 (refine aj rfl fun _ k0 => ?_; simp only [zO, zT, acs, reduceCtorEq, aa, V, ad, ag, af, ae, Mly.av, ah, htl]; (repeat refine an ?_); (try refine .inl ?_); apply k0; clear k0; simp only [zP, V])
  refine am ?_
  apply k13; clear k13; refine kp [1, 2, 3, 6, 7, 8, 9, 10, 11, 12, 18, 19, 20, 21, 27, 28, 29] ?_
  refine az ?_
  refine ba (fun n14 s14 => ∃ (j : Nat), (j ≤ k) ∧ (∀ j2, j2 < j → clB m a (l.getD k 0) (l.getD j2 0) = false) ∧ n14 = k - j ∧ s14 = { env := [(1, .one (.list (.int .i64) l)), (2, .one (.int .i64 a)), (3, .one (.ptr 0 0 0 0)), (6, .one .nils), (7, .one (.bool false)), (8, .one (.bool false)), (9, .one (.row 1 v)), (10, .one (.bool (smO m l a k))), (11, .one (.int .i64 (k : Int))), (12, .one (.int .i64 (l.getD k 0))), (18, .one (.list (.int .i64) l)), (19, .one (.int .i64 (l.length : Int))), (20, .one (.int .i64 (k : Int))), (27, .one (.list (.int .i64) (l.take k))), (28, .one (.int .i64 (k : Int))), (29, .one (.int .i64 (j : Int)))], L := [.vars 24 [.int .i64 m.inp, .int .i64 m.st, .list (.list (.int .i64)) m.nx, .list (.list (.int .i64)) m.ot], .row (.int .i64) 3 v (cr m (l.take k) a)] }) ?_ ?_
  ·exact ⟨_, _, ax [1, 2, 3, 6, 7, 8, 9, 10, 11, 12, 18, 19, 20, 27, 28, 29], 0, Nat.zero_le _, fun j2 h => by omega, rfl, rfl⟩
  rintro n14 s14 ⟨j, hj, hq, rfl, rfl⟩
  refine ai fun _ k15 => ?_
  refine ak hP hN rfl ?_
  (refine aj rfl fun _ k0 => ?_; simp only [zO, zT, acs, reduceCtorEq, aa, V, ad, ag, af, ae, Mly.av, ah]; (repeat refine an ?_); (try refine .inl ?_); apply k0; clear k0; simp only [zP, V])
  refine am ?_
  apply k15; clear k15; refine kp [1, 2, 3, 6, 7, 8, 9, 10, 11, 12, 18, 19, 20, 27, 28, 29, 30] ?_
  refine ai fun _ k16 => ?_
  refine cd (fun hc17 => ?_) (fun hc17 => ?_)
  ·(try simp only [zB, reduceCtorEq] at hc17)
   refine ay ?_
   apply k16; clear k16; refine kp [1, 2, 3, 6, 7, 8, 9, 10, 11, 12, 18, 19, 20, 27, 28, 29, 30] ?_
   refine ai fun _ k18 => ?_
   refine az ?_
   refine ai fun _ k19 => ?_
   have hjl : j < l.length := by omega
   have hsj := hs _ (bh hjl)
   have hgj : (l.take k).getD j 0 = (l.getD j 0) := by simp [List.getD, show j < k by omega]
   have q3 := hm.rl (l.getD j 0).toNat (by omega); have q4 := hm.ql (l.getD j 0).toNat (by omega)
   refine ak hP hN rfl ?_
   iterate 3 (refine aj rfl fun _ k0 => ?_; simp only [zO, zT, acs, reduceCtorEq, aa, V, ad, ag, af, ae, Mly.av, ah, hgj]; (repeat refine an ?_); (try refine .inl ?_); apply k0; clear k0; simp only [zP, V])
   refine am ?_
   apply k19; clear k19; refine kp [1, 2, 3, 6, 7, 8, 9, 10, 11, 12, 14, 18, 19, 20, 27, 28, 29, 30] ?_
   refine ai fun _ k20 => ?_
   refine bf hP hN Try.mixed rfl ?_
   iterate 18 (refine aj rfl fun _ k0 => ?_; simp only [zO, zT, acs, reduceCtorEq, aa, V, ad, ag, af, ae, Mly.av, ah]; (repeat refine an ?_); (try refine .inl ?_); apply k0; clear k0; simp only [zP, V])
   refine' aT (want := true) 17 rfl (m := 50) (by simp only [zP, aa, V]; exact rfl) (by kernel_rfl) rfl rfl rfl rfl rfl (fun hg21 => ?a21) ?b21 ?c21
   case a21 =>
    have hq21 := hg21; (try simp only [zB, reduceCtorEq] at hg21); simp only [zE]
    iterate 17 (refine bo rfl fun _ k0 => ?_; simp only [zO, zT, acs, reduceCtorEq, aa, V, ad, ag, af, ae, Mly.av, ah]; (repeat refine an ?_); (try refine .inl ?_); apply k0; clear k0; simp only [zP, V])
    (refine aj rfl fun _ k0 => ?_; simp only [zO, zT, acs, reduceCtorEq, aa, V, ad, ag, af, ae, Mly.av, ah]; (repeat refine an ?_); (try refine .inl ?_); apply k0; clear k0; simp only [zP, V])
    refine am ?_
    refine ⟨by simp only [zP, aa, V]; exact rfl, rfl, ?_, rfl⟩; (repeat refine aU rfl ?_); exact bu (by exact rfl) hq21
   case b21 => exact cJ
   simp only [bj, b6]
   refine am ?_
   refine ⟨by kernel_rfl, ?_⟩
   apply k20; clear k20; refine kp [1, 2, 3, 6, 7, 8, 9, 10, 11, 12, 14, 18, 19, 20, 27, 28, 29, 30, 68] ?_
   refine cd (fun hc22 => ?_) (fun hc22 => ?_)
   ·(try simp only [zB, reduceCtorEq] at hc22)
    have hy : clB m a (l.getD k 0) (l.getD j 0) = true := by have h9 := hc22; unfold clB Mly.out Mly.nxt; simpa using h9
    have hun : unS m l a l.length = true := uH hkl (by omega) hy
    refine ai fun _ k23 => ?_
    refine ak hP hN rfl ?_
    iterate 3 (refine aj rfl fun _ k0 => ?_; simp only [zO, zT, acs, reduceCtorEq, aa, V, ad, ag, af, ae, Mly.av, ah]; (repeat refine an ?_); (try refine .inl ?_); apply k0; clear k0; simp only [zP, V])
    refine am ?_
    apply k23; clear k23; refine kp [1, 2, 3, 6, 7, 8, 9, 10, 11, 12, 14, 18, 19, 20, 27, 28, 29, 30, 68] ?_
    refine aG ?_
    refine ⟨nr, _, rfl, ?_⟩; simp only [zF, zP, aa, V, Mly.av, ah]
    first
    | (rw [hun]; exact bS ⟨aQ (bl rfl), aQ (.refl _), aQ (.refl _), trivial⟩)
    | (rw [hun, hkw, aE]; exact VLE.of_eq rfl)
   (try simp only [zB, reduceCtorEq] at hc22)
   have hy : clB m a (l.getD k 0) (l.getD j 0) = false := by have h9 := hc22; unfold clB Mly.out Mly.nxt; rw [Bool.and_eq_false_iff, decide_eq_false_iff_not, decide_eq_false_iff_not]; exact h9
   refine ay ?_
   apply k18; clear k18; refine kp [1, 2, 3, 6, 7, 8, 9, 10, 11, 12, 14, 18, 19, 20, 27, 28, 29, 30, 68] ?_
   refine ak hP hN rfl ?_
   iterate 2 (refine aj rfl fun _ k0 => ?_; simp only [zO, zT, acs, reduceCtorEq, aa, V, ad, ag, af, ae, Mly.av, ah]; (repeat refine an ?_); (try refine .inl ?_); apply k0; clear k0; simp only [zP, V])
   refine am ?_
   refine ⟨_, _, ?_, ax [1, 2, 3, 6, 7, 8, 9, 10, 11, 12, 18, 19, 20, 27, 28, 29], j + 1, by omega, fun j2 h2 => ?_, rfl, rfl⟩
   · omega
   · by_cases e : j2 = j
     · rw [e]; exact hy
     · exact hq j2 (by omega)
  (try simp only [zB, reduceCtorEq] at hc17)
  refine aV ?_
  apply k12; clear k12; refine kp [1, 2, 3, 6, 7, 8, 9, 10, 11, 12, 18, 19, 20, 27, 28, 29, 30] ?_
  refine ai fun _ k24 => ?_
  have hs0 := hs _ (bh (w := l) (i := 0) (by omega))
  have q5 := hm.ql (l.getD 0 0).toNat (by omega)
  have hjk : j = k := by omega
  have hnl : (cr m (l.take k) a).length = k := by unfold cr; rw [aD]; exact htl
  have hcl : ∀ k2 j2, k2 < k + 1 → j2 < k2 → clB m a (l.getD k2 0) (l.getD j2 0) = false := fun k2 j2 h1 h2 => by
    by_cases e : k2 = k
    · rw [e]; exact hq j2 (by omega)
    · exact hu k2 j2 (by omega) h2
  have hsm := xI m l a k
  refine bf hP hN Try.mixed rfl ?_
  iterate 2 (refine aj rfl fun _ k0 => ?_; simp only [zO, zT, acs, reduceCtorEq, aa, V, ad, ag, af, ae, Mly.av, ah]; (repeat refine an ?_); (try refine .inl ?_); apply k0; clear k0; simp only [zP, V])
  refine' aT (want := true) 19 rfl (m := 71) (by simp only [zP, aa, V]; exact rfl) (by kernel_rfl) rfl rfl rfl rfl rfl (fun hg25 => ?a25) ?b25 ?c25
  case a25 =>
   have hq25 := hg25; (try simp only [zB, reduceCtorEq] at hg25); simp only [zE]
   iterate 19 (refine bo rfl fun _ k0 => ?_; simp only [zO, zT, acs, reduceCtorEq, aa, V, ad, ag, af, ae, Mly.av, ah]; (repeat refine an ?_); (try refine .inl ?_); apply k0; clear k0; simp only [zP, V])
   (refine aj rfl fun _ k0 => ?_; simp only [zO, zT, acs, reduceCtorEq, aa, V, ad, ag, af, ae, Mly.av, ah]; (repeat refine an ?_); (try refine .inl ?_); apply k0; clear k0; simp only [zP, V])
   refine am ?_
   refine ⟨by simp only [zP, aa, V]; exact rfl, rfl, ?_, rfl⟩; (repeat refine aU rfl ?_); exact bu (by exact rfl) hq25
  case b25 => exact cJ
  simp only [bj, b6]
  (refine aj rfl fun _ k0 => ?_; simp only [zO, zT, acs, reduceCtorEq, aa, V, ad, ag, af, ae, Mly.av, ah]; (repeat refine an ?_); (try refine .inl ?_); apply k0; clear k0; simp only [zP, V])
  refine am ?_
  refine ⟨by kernel_rfl, ?_⟩
  apply k24; clear k24; refine kp [1, 2, 3, 6, 7, 8, 9, 10, 11, 12, 18, 19, 20, 27, 28, 29, 30] ?_
  refine ak hP hN rfl ?_
  iterate 12 (refine aj rfl fun _ k0 => ?_; simp only [zO, zT, acs, reduceCtorEq, aa, V, ad, ag, af, ae, Mly.av, ah]; (repeat refine an ?_); (try refine .inl ?_); apply k0; clear k0; simp only [zP, V])
  refine am ?_
  apply k10; clear k10; refine kp [1, 2, 3, 6, 7, 8, 9, 10, 11, 12, 18, 19, 20, 27, 28, 29, 30] ?_
  refine ak hP hN rfl ?_
  iterate 2 (refine aj rfl fun _ k0 => ?_; simp only [zO, zT, acs, reduceCtorEq, aa, V, ad, ag, af, ae, Mly.av, ah]; (repeat refine an ?_); (try refine .inl ?_); apply k0; clear k0; simp only [zP, V])
  refine am ?_
  refine ⟨_, _, ?_, ax [1, 2, 3, 6, 7, 8, 9, 10, 18, 19, 20], k + 1, v + 1, by omega, hcl, rfl, ?_⟩
  · omega
  · rw [nR hkl, hsm]; rfl
 (try simp only [zB, reduceCtorEq] at hc9)
 refine aV ?_
 apply k4; clear k4; refine kp [1, 2, 3, 6, 7, 8, 9, 10, 18, 19, 20, 21] ?_
 refine ai fun _ k26 => ?_
 refine cH 1 rfl ?_; simp only [aJ, bg, zS, aa, and_self, and_true, true_and, and_false, false_and, if_true, if_false, eq_self, reduceCtorEq, Nat.one_ne_zero, Nat.zero_ne_one]
 have hkw : k = l.length := by omega
 have hun : unS m l a l.length = false := lV fun k2 j2 h1 h2 => hu k2 j2 (by omega) h2
 refine ak hP hN rfl ?_
 iterate 5 (refine aj rfl fun _ k0 => ?_; simp only [zO, zT, acs, reduceCtorEq, aa, V, ad, ag, af, ae, Mly.av, ah]; (repeat refine an ?_); (try refine .inl ?_); apply k0; clear k0; simp only [zP, V])
 refine am ?_
 apply k26; clear k26; refine kp [1, 2, 3, 6, 7, 8, 9, 10, 18, 19, 20, 21] ?_
 refine aG ?_
 refine ⟨nr, _, rfl, ?_⟩; simp only [zF, zP, aa, V, Mly.av, ah]
 first
 | (rw [hun]; exact bS ⟨aQ (bl rfl), aQ (.refl _), aQ (.refl _), trivial⟩)
 | (rw [hun, hkw, aE]; exact VLE.of_eq rfl)
theorem qz (xs : List Int) (hx : l7 xs) (hl : xs.length ≤ 1000000) : c7 Try.prog 71 [.one (.list (.int .i64) xs)] (.one (.str (gB xs))) := by
 refine aS Try.func71 rfl (by kernel_rfl) (Nat.le_of_ble_eq_true rfl) rfl fun C hP hN hB => ?_
 replace hN : C.N = 23 := hN
 simp only [bc, V]
 refine ai fun _ k1 => ?_
 refine ak hP hN rfl ?_
 (refine aj rfl fun _ k0 => ?_; simp only [zO, zT, acs, reduceCtorEq, aa, V, ad, ag, af, ae, eP]; (repeat refine an ?_); (try refine .inl ?_); apply k0; clear k0; simp only [zP, V])
 refine am ?_
 apply k1; clear k1; refine kp [0, 2] ?_
 refine ai fun _ k2 => ?_
 refine ak hP hN rfl ?_
 iterate 2 (refine aj rfl fun _ k0 => ?_; simp only [zO, zT, acs, reduceCtorEq, aa, V, ad, ag, af, ae, eP]; (repeat refine an ?_); (try refine .inl ?_); apply k0; clear k0; simp only [zP, V])
 (refine aj rfl fun _ k0 => ?_; simp only [zE, op1, ev, lkp, d6, bP, cj, eT, eg, cM, db, eC, Nat.div_one, cL, df, Ty.size, bq, dite_true, d9, Ty.dflt, reduceCtorEq, aa, V, ad, ag, af, ae, Try.el129, Try.el41, Try.td129, Try.td3, Try.td41, eP]; (repeat refine an ?_); (try refine .inl ?_); apply k0; clear k0; simp only [zP, V])
 (refine aj rfl fun _ k0 => ?_; simp only [zO, zT, acs, reduceCtorEq, aa, V, ad, ag, af, ae, eP]; (repeat refine an ?_); (try refine .inl ?_); apply k0; clear k0; simp only [zP, V])
 refine am ?_
 apply k2; clear k2; refine kp [0, 2, 3] ?_
 refine ai fun _ k3 => ?_
 refine ai fun _ k4 => ?_
 refine ak hP hN rfl ?_
 iterate 3 (refine aj rfl fun _ k0 => ?_; simp only [zO, zT, acs, reduceCtorEq, aa, V, ad, ag, af, ae, eP]; (repeat refine an ?_); (try refine .inl ?_); apply k0; clear k0; simp only [zP, V])
 refine am ?_
 apply k4; clear k4; refine kp [0, 2, 3, 9, 10, 11] ?_
 refine az ?_
 refine ba (fun n5 s5 => ∃ (k : Nat) (v : Nat), (k ≤ xs.length) ∧ n5 = xs.length - k ∧ s5 = { env := [(2, .one (.str [])), (3, .one (.row 0 v)), (9, .one (.list (.int .i64) xs)), (10, .one (.int .i64 (xs.length : Int))), (11, .one (.int .i64 (k : Int)))], L := [.row (.int .u8) 5 v (xs.take k)] }) ?_ ?_
 ·exact ⟨_, _, ax [2, 3, 9, 10, 11], 0, 0, Nat.zero_le _, rfl, rfl⟩
 rintro n5 s5 ⟨k, v, hk, rfl, rfl⟩
 refine ai fun _ k6 => ?_
 refine ak hP hN rfl ?_
 (refine aj rfl fun _ k0 => ?_; simp only [zO, zT, acs, reduceCtorEq, aa, V, ad, ag, af, ae, eP]; (repeat refine an ?_); (try refine .inl ?_); apply k0; clear k0; simp only [zP, V])
 refine am ?_
 apply k6; clear k6; refine kp [2, 3, 9, 10, 11, 12] ?_
 refine ai fun _ k7 => ?_
 refine cd (fun hc8 => ?_) (fun hc8 => ?_)
 ·(try simp only [zB, reduceCtorEq] at hc8)
  refine ay ?_
  apply k7; clear k7; refine kp [2, 3, 9, 10, 11, 12] ?_
  refine ai fun _ k9 => ?_
  refine az ?_
  refine ai fun _ k10 => ?_
  refine ak hP hN rfl ?_
  iterate 3 (refine aj rfl fun _ k0 => ?_; simp only [zO, zT, acs, reduceCtorEq, aa, V, ad, ag, af, ae, eP]; (repeat refine an ?_); (try refine .inl ?_); apply k0; clear k0; simp only [zP, V])
  refine am ?_
  apply k10; clear k10; refine kp [2, 3, 5, 9, 10, 11, 12] ?_
  have hxk := hx _ (bh (w := xs) (i := k) (by omega))
  have htl : (xs.take k).length = k := by rw [List.length_take]; omega
  refine ak hP hN rfl ?_
  iterate 2 (refine aj rfl fun _ k0 => ?_; simp only [zO, zT, acs, reduceCtorEq, aa, V, ad, ag, af, ae, eP]; (repeat refine an ?_); (try refine .inl ?_); apply k0; clear k0; simp only [zP, V])
  (refine aj rfl fun _ k0 => ?_; simp only [zE, op1, ev, lkp, d6, bP, gM, dp, cm, dA, rep, bq, bY, cf, Ty.size, cj, eT, eg, cM, db, eC, Nat.div_one, cL, df, dite_true, reduceCtorEq, aa, V, ad, ag, af, ae, Try.el129, Try.td1, Try.td129, Try.td3, Try.td5, eP]; (repeat refine an ?_); (try refine .inl ?_); apply k0; clear k0; simp only [zP, V])
  iterate 3 (refine aj rfl fun _ k0 => ?_; simp only [zO, zT, acs, reduceCtorEq, aa, V, ad, ag, af, ae, eP]; (repeat refine an ?_); (try refine .inl ?_); apply k0; clear k0; simp only [zP, V])
  refine am ?_
  apply k9; clear k9; refine kp [2, 3, 5, 9, 10, 11, 12] ?_
  refine ak hP hN rfl ?_
  iterate 2 (refine aj rfl fun _ k0 => ?_; simp only [zO, zT, acs, reduceCtorEq, aa, V, ad, ag, af, ae, eP]; (repeat refine an ?_); (try refine .inl ?_); apply k0; clear k0; simp only [zP, V])
  refine am ?_
  refine ⟨_, _, ?_, ax [2, 3, 9, 10, 11], k + 1, v + 1, by omega, rfl, ?_⟩
  · omega
  · rw [cY (by omega)]; rfl
 (try simp only [zB, reduceCtorEq] at hc8)
 refine aV ?_
 apply k3; clear k3; refine kp [2, 3, 9, 10, 11, 12] ?_
 refine ai fun _ k11 => ?_
 refine cH 0 rfl ?_; simp only [aJ, bg, zS, aa, and_self, and_true, true_and, and_false, false_and, if_true, if_false, eq_self, reduceCtorEq, Nat.one_ne_zero, Nat.zero_ne_one]
 have hkw : k = xs.length := by omega
 rw [hkw, aE]
 refine ak hP hN rfl ?_
 (refine aj rfl fun _ k0 => ?_; simp only [zO, zT, acs, reduceCtorEq, aa, V, ad, ag, af, ae, eP]; (repeat refine an ?_); (try refine .inl ?_); apply k0; clear k0; simp only [zP, V])
 (refine aj rfl fun _ k0 => ?_; simp only [zE, op1, ev, lkp, d6, bP, gM, reduceCtorEq, aa, V, ad, ag, af, ae, Try.el129, Try.td129, Try.td9, eP]; refine ⟨⟨_, _, rfl, Try.td5, rfl⟩, k0 _ ?_⟩; clear k0; simp only [zP, V])
 (refine aj rfl fun _ k0 => ?_; simp only [zO, zT, acs, reduceCtorEq, aa, V, ad, ag, af, ae, eP]; (repeat refine an ?_); (try refine .inl ?_); apply k0; clear k0; simp only [zP, V])
 refine am ?_
 apply k11; clear k11; refine kp [2, 3, 9, 10, 11, 12] ?_
 refine aG ?_
 refine ⟨nr, _, rfl, ?_⟩; simp only [zF, zP, aa, V, eP]
 refine VLE.of_eq ?_
 rfl
set_option maxHeartbeats 1500000 in
theorem zt (m : Mly) (l : List Int) (hm : MOK m) (hs : cO m l) (hl : l.length ≤ 1000) : c7 Try.prog 52 [m.av, .one (.list (.int .i64) l)] (.tup [.one (.list (.int .i64) ((fdW m l).getD [])), .one (.bool (fdW m l).isSome)]) := by
 refine aS Try.func52 rfl (by kernel_rfl) (Nat.le_of_ble_eq_true rfl) rfl fun C hP hN hB => ?_
 replace hN : C.N = 75 := hN
 simp only [bc, V]
 have hi1 := hm.i1; have hi2 := hm.i2
 have hks0 : (gB l).length ≤ 9223372036854775807 := by unfold gB; rw [aD]; omega
 refine ai fun _ k1 => ?_
 refine ak hP hN rfl ?_
 iterate 3 (refine aj rfl fun _ k0 => ?_; simp only [zO, zT, acs, reduceCtorEq, aa, V, ad, ag, af, ae, Mly.av, ah, aD, bK, Option.map_some, AV.valOf]; (repeat refine And.intro (by first | omega | assumption | exact hks | exact hks0 | exact rfl) ?_); (try refine .inl ?_); apply k0; clear k0; simp only [zP, V])
 refine am ?_
 apply k1; clear k1; refine kp [0, 1, 2, 4, 5] ?_
 refine ai fun _ k2 => ?_
 refine ak hP hN rfl ?_
 (refine aj rfl fun _ k0 => ?_; simp only [zE, op1, ev, lkp, d6, bP, jB, reduceCtorEq, aa, V, ad, ag, af, ae, Try.el41, Try.mk115, Try.td41, Mly.av, ah, aD, bK, Option.map_some, AV.valOf]; (repeat refine And.intro (by first | omega | assumption | exact hks | exact hks0 | exact rfl) ?_); (try refine .inl ?_); apply k0; clear k0; simp only [zP, V])
 (refine aj rfl fun _ k0 => ?_; simp only [zO, zT, acs, reduceCtorEq, aa, V, ad, ag, af, ae, Mly.av, ah, aD, bK, Option.map_some, AV.valOf]; (repeat refine And.intro (by first | omega | assumption | exact hks | exact hks0 | exact rfl) ?_); (try refine .inl ?_); apply k0; clear k0; simp only [zP, V])
 refine aj rfl fun _ k0 => ?_
 refine aK (h := aB (qz l (fh hm hs) (by omega))) rfl rfl (by first | exact rfl | (simp only [ev, zP, aa, V]; exact rfl)) (by simp only [zV, acs, reduceCtorEq, aa, V, ad, ag, af, ae, Mly.av, ah, aD, bK, Option.map_some, AV.valOf]) ?_
 apply k0; clear k0; simp only [zP, V]
 (refine aj rfl fun _ k0 => ?_; simp only [zE, op1, ev, lkp, d6, bP, eO, bK, valOf, reduceCtorEq, aa, V, ad, ag, af, ae, Try.mk115, Mly.av, ah, aD, bK, Option.map_some, AV.valOf]; (repeat refine And.intro (by first | omega | assumption | exact hks | exact hks0 | exact rfl) ?_); (try refine .inl ?_); apply k0; clear k0; simp only [zP, V])
 iterate 2 (refine aj rfl fun _ k0 => ?_; simp only [zO, zT, acs, reduceCtorEq, aa, V, ad, ag, af, ae, Mly.av, ah, aD, bK, Option.map_some, AV.valOf]; (repeat refine And.intro (by first | omega | assumption | exact hks | exact hks0 | exact rfl) ?_); (try refine .inl ?_); apply k0; clear k0; simp only [zP, V])
 refine am ?_
 apply k2; clear k2; refine kp [0, 1, 2, 4, 5, 6] ?_
 refine ai fun _ k3 => ?_
 refine ak hP hN rfl ?_
 iterate 2 (refine aj rfl fun _ k0 => ?_; simp only [zO, zT, acs, reduceCtorEq, aa, V, ad, ag, af, ae, Mly.av, ah, aD, bK, Option.map_some, AV.valOf]; (repeat refine And.intro (by first | omega | assumption | exact hks | exact hks0 | exact rfl) ?_); (try refine .inl ?_); apply k0; clear k0; simp only [zP, V])
 (refine aj rfl fun _ k0 => ?_; simp only [zO, zT, acs, reduceCtorEq, aa, V, ad, ag, af, ae, Mly.av, ah, aD, bK, Option.map_some, AV.valOf]; (repeat refine And.intro (by first | omega | assumption | exact hks | exact hks0 | exact rfl) ?_); refine Or.inr (Or.inl (k0 _ ?_)); clear k0; simp only [zP, V])
 (refine aj rfl fun _ k0 => ?_; simp only [zO, zT, acs, reduceCtorEq, aa, V, ad, ag, af, ae, Mly.av, ah, aD, bK, Option.map_some, AV.valOf]; (repeat refine And.intro (by first | omega | assumption | exact hks | exact hks0 | exact rfl) ?_); (try refine .inl ?_); apply k0; clear k0; simp only [zP, V])
 refine am ?_
 apply k3; clear k3; refine kp [0, 1, 2, 4, 5, 6, 7] ?_
 refine ai fun _ k4 => ?_
 refine ai fun _ k5 => ?_
 refine ak hP hN rfl ?_
 (refine aj rfl fun _ k0 => ?_; simp only [zO, zT, acs, reduceCtorEq, aa, V, ad, ag, af, ae, Mly.av, ah, aD, bK, Option.map_some, AV.valOf]; (repeat refine And.intro (by first | omega | assumption | exact hks | exact hks0 | exact rfl) ?_); (try refine .inl ?_); apply k0; clear k0; simp only [zP, V])
 refine am ?_
 apply k5; clear k5; refine kp [0, 1, 2, 4, 5, 6, 7, 8] ?_
 refine az ?_
 refine ba (fun n6 s6 => ∃ (k : Nat) (v : Nat) (Q : List SS), (FQ m l.length Q) ∧ ((fO m (4097 - k) k ⟨Q, none⟩).res = lc m l) ∧ n6 = 4097 - k ∧ s6 = { env := [(2, .one (.ptr 0 0 0 0)), (4, .one .nils), (5, .one (.bool false)), (6, .one (.mpv 1)), (7, .one (.row 2 v)), (8, .one (.int .i64 (k : Int)))], L := [.vars 24 [.int .i64 m.inp, .int .i64 m.st, .list (.list (.int .i64)) m.nx, .list (.list (.int .i64)) m.ot], .mp 115 .bool (esB Q), .row (.pair (.list (.int .i64)) (.pair (.list (.int .i64)) .unit)) 117 v (List.map p6 Q)] }) ?_ ?_
 ·exact ⟨_, _, ax [2, 4, 5, 6, 7, 8], 0, 0, [(l, [])], FQ.one hs, rfl, rfl, rfl⟩
 rintro n6 s6 ⟨k, v, Q, hQ, hrun, rfl, rfl⟩
 refine ai fun _ k7 => ?_
 refine ai fun _ k8 => ?_
 refine ak hP hN rfl ?_
 iterate 4 (refine aj rfl fun _ k0 => ?_; simp only [zO, zT, acs, reduceCtorEq, aa, V, ad, ag, af, ae, Mly.av, ah, aD, bK, Option.map_some, AV.valOf]; (repeat refine And.intro (by first | omega | assumption | exact hks | exact hks0 | exact rfl) ?_); (try refine .inl ?_); apply k0; clear k0; simp only [zP, V])
 refine am ?_
 apply k8; clear k8; refine kp [2, 4, 5, 6, 7, 8, 24] ?_
 refine cd (fun hc9 => ?_) (fun hc9 => ?_)
 ·(try simp only [zB, reduceCtorEq] at hc9)
  refine ay ?_
  apply k7; clear k7; refine kp [2, 4, 5, 6, 7, 8, 24] ?_
  refine ai fun _ k10 => ?_
  refine az ?_
  refine ai fun _ k11 => ?_
  refine ak hP hN rfl ?_
  iterate 3 (refine aj rfl fun _ k0 => ?_; simp only [zO, zT, acs, reduceCtorEq, aa, V, ad, ag, af, ae, Mly.av, ah, aD, bK, Option.map_some, AV.valOf]; (repeat refine And.intro (by first | omega | assumption | exact hks | exact hks0 | exact rfl) ?_); (try refine .inl ?_); apply k0; clear k0; simp only [zP, V])
  refine am ?_
  apply k11; clear k11; refine kp [2, 4, 5, 6, 7, 8, 24, 28, 29] ?_
  refine az ?_
  have hkl : k < Q.length := by omega
  have hql := hQ.le
  refine ba (fun n12 s12 => ∃ (a : Nat) (v2 : Nat) (Q2 : List SS), ((a : Int) ≤ m.inp) ∧ (FQ m l.length Q2) ∧ (k < Q2.length) ∧ ((List.range a).foldl (dn m k) ⟨Q, none⟩ = ⟨Q2, none⟩) ∧ n12 = m.inp.toNat - a ∧ s12 = { env := [(2, .one (.ptr 0 0 0 0)), (4, .one .nils), (5, .one (.bool false)), (6, .one (.mpv 1)), (7, .one (.row 2 v2)), (8, .one (.int .i64 (k : Int))), (28, .one (.int .i64 m.inp)), (29, .one (.int .i64 (a : Int)))], L := [.vars 24 [.int .i64 m.inp, .int .i64 m.st, .list (.list (.int .i64)) m.nx, .list (.list (.int .i64)) m.ot], .mp 115 .bool (esB Q2), .row (.pair (.list (.int .i64)) (.pair (.list (.int .i64)) .unit)) 117 v2 (List.map p6 Q2)] }) ?_ ?_
  ·have hi9 := hm.i1
   exact ⟨_, _, ax [2, 4, 5, 6, 7, 8, 28, 29], 0, v, Q, by omega, hQ, hkl, rfl, rfl, rfl⟩
  rintro n12 s12 ⟨a, v2, Q2, ha, hQ2, hk2, hf, rfl, rfl⟩
  refine ai fun _ k13 => ?_
  refine ak hP hN rfl ?_
  (refine aj rfl fun _ k0 => ?_; simp only [zO, zT, acs, reduceCtorEq, aa, V, ad, ag, af, ae, Mly.av, ah, aD, bK, Option.map_some, AV.valOf]; (repeat refine And.intro (by first | omega | assumption | exact hks | exact hks0 | exact rfl) ?_); (try refine .inl ?_); apply k0; clear k0; simp only [zP, V])
  refine am ?_
  apply k13; clear k13; refine kp [2, 4, 5, 6, 7, 8, 28, 29, 30] ?_
  refine ai fun _ k14 => ?_
  refine cd (fun hc15 => ?_) (fun hc15 => ?_)
  ·(try simp only [zB, reduceCtorEq] at hc15)
   refine ay ?_
   apply k14; clear k14; refine kp [2, 4, 5, 6, 7, 8, 28, 29, 30] ?_
   refine ai fun _ k16 => ?_
   refine az ?_
   refine ai fun _ k17 => ?_
   refine ak hP hN rfl ?_
   iterate 2 (refine aj rfl fun _ k0 => ?_; simp only [zO, zT, acs, reduceCtorEq, aa, V, ad, ag, af, ae, Mly.av, ah, aD, bK, Option.map_some, AV.valOf]; (repeat refine And.intro (by first | omega | assumption | exact hks | exact hks0 | exact rfl) ?_); (try refine .inl ?_); apply k0; clear k0; simp only [zP, V])
   refine am ?_
   apply k17; clear k17; refine kp [2, 4, 5, 6, 7, 8, 9, 28, 29, 30] ?_
   refine ai fun _ k18 => ?_
   obtain ⟨hsb, hln, hwl⟩ := hQ2.at_ (i := k) (by omega)
   have hgi : ∀ d, (List.map p6 Q2).getD k d = ((Q2.getD k ss0).1, ((Q2.getD k ss0).2, ())) := fun d => AI (by omega) d
   have hkL : k < Q2.length := by omega
   have hnx := oA hm (a := (a : Int)) ⟨by omega, by omega⟩ hsb
   have hq2l := hQ2.le
   have hks : (gB (cr m (Q2.getD k ss0).1 (a : Int))).length ≤ 9223372036854775807 := by unfold gB; rw [aD]; omega
   have hlk := xB (Q := Q2) (fh hm hnx.1) (fun s h => fh hm (hQ2.st s h))
   refine bf hP hN Try.mixed rfl ?_
   iterate 7 (refine aj rfl fun _ k0 => ?_; simp only [zO, zT, acs, reduceCtorEq, aa, V, ad, ag, af, ae, Mly.av, ah, aD, bK, Option.map_some, AV.valOf, hgi]; (repeat refine And.intro (by first | omega | assumption | exact hks | exact hks0 | exact rfl) ?_); (try refine .inl ?_); apply k0; clear k0; simp only [zP, V])
   refine aj rfl fun _ k0 => ?_
   refine aK (h := aB (yf m (Q2.getD k ss0).1 (a : Int) hm hsb (by omega) (by omega))) rfl rfl (by first | exact rfl | (simp only [ev, zP, aa, V]; exact rfl)) (by simp only [zV, acs, reduceCtorEq, aa, V, ad, ag, af, ae, Mly.av, ah, aD, bK, Option.map_some, AV.valOf, hgi]) ?_
   apply k0; clear k0; simp only [zP, V]
   iterate 7 (refine aj rfl fun _ k0 => ?_; simp only [zO, zT, acs, reduceCtorEq, aa, V, ad, ag, af, ae, Mly.av, ah, aD, bK, Option.map_some, AV.valOf, hgi]; (repeat refine And.intro (by first | omega | assumption | exact hks | exact hks0 | exact rfl) ?_); (try refine .inl ?_); apply k0; clear k0; simp only [zP, V])
   refine am ?_
   refine ⟨by kernel_rfl, ?_⟩
   apply k18; clear k18; refine kp [2, 4, 5, 6, 7, 8, 9, 10, 11, 12, 28, 29, 30] ?_
   refine ai fun _ k19 => ?_
   refine ai fun _ k20 => ?_
   refine ak hP hN rfl ?_
   iterate 2 (refine aj rfl fun _ k0 => ?_; simp only [zO, zT, acs, reduceCtorEq, aa, V, ad, ag, af, ae, Mly.av, ah, aD, bK, Option.map_some, AV.valOf]; (repeat refine And.intro (by first | omega | assumption | exact hks | exact hks0 | exact rfl) ?_); (try refine .inl ?_); apply k0; clear k0; simp only [zP, V])
   refine am ?_
   apply k20; clear k20; refine kp [2, 4, 5, 6, 7, 8, 9, 10, 11, 12, 28, 29, 30, 45] ?_
   refine cd (fun hc21 => ?_) (fun hc21 => ?_)
   ·(try simp only [zB, reduceCtorEq] at hc21)
    have hun : unS m (Q2.getD k ss0).1 a (Q2.getD k ss0).1.length = true := by simpa using hc21
    have hst := vS hun
    refine aV ?_
    apply k16; clear k16; refine kp [2, 4, 5, 6, 7, 8, 9, 10, 11, 12, 28, 29, 30, 45] ?_
    refine ak hP hN rfl ?_
    iterate 2 (refine aj rfl fun _ k0 => ?_; simp only [zO, zT, acs, reduceCtorEq, aa, V, ad, ag, af, ae, Mly.av, ah, aD, bK, Option.map_some, AV.valOf]; (repeat refine And.intro (by first | omega | assumption | exact hks | exact hks0 | exact rfl) ?_); (try refine .inl ?_); apply k0; clear k0; simp only [zP, V])
    refine am ?_
    first
    | (refine ⟨_, _, ?_, ax [2, 4, 5, 6, 7, 8, 28, 29], a + 1, v2, Q2, by omega, hQ2, hk2, (eQ hf).trans hst, rfl, rfl⟩
       omega)
    | (refine ⟨_, _, ?_, ax [2, 4, 5, 6, 7, 8, 28, 29], a + 1, v2 + 1, Q2 ++ [(eD m Q2 k a, dN Q2 k a)], by omega, hQ2.snoc hnx.1 (hnx.2.trans hln) (by unfold dN; rw [aq]; simp only [au, aC]; omega) (by omega), by rw [aq]; omega, (eQ hf).trans hst, rfl, ?_⟩
       · omega
       · rw [show esB (Q2 ++ [(eD m Q2 k a, dN Q2 k a)]) = _ from (qw (x := eD m Q2 k a) (w := dN Q2 k a) (fh hm hnx.1) (fun s h => fh hm (hQ2.st s h)) hps).symm, List.map_append]; rfl)
   (try simp only [zB, reduceCtorEq] at hc21)
   have hun : unS m (Q2.getD k ss0).1 a (Q2.getD k ss0).1.length = false := by simpa using hc21
   have hun2 : ¬ unS m (Q2.getD k ss0).1 a (Q2.getD k ss0).1.length = true := by rw [hun]; decide
   refine ay ?_
   apply k19; clear k19; refine kp [2, 4, 5, 6, 7, 8, 9, 10, 11, 12, 28, 29, 30, 45] ?_
   refine ai fun _ k22 => ?_
   rw [if_neg hun2]
   refine ak hP hN rfl ?_
   iterate 5 (refine aj rfl fun _ k0 => ?_; simp only [zO, zT, acs, reduceCtorEq, aa, V, ad, ag, af, ae, Mly.av, ah, aD, bK, Option.map_some, AV.valOf, hgi]; (repeat refine And.intro (by first | omega | assumption | exact hks | exact hks0 | exact rfl) ?_); (try refine .inl ?_); apply k0; clear k0; simp only [zP, V])
   refine aj rfl fun _ k0 => ?_
   refine aK (h := lI (yb (Q2.getD k ss0).2 (by omega))) rfl rfl (by first | exact rfl | (simp only [ev, zP, aa, V]; exact rfl)) (by simp only [zV, acs, reduceCtorEq, aa, V, ad, ag, af, ae, Mly.av, ah, aD, bK, Option.map_some, AV.valOf, hgi]) ?_
   apply k0; clear k0; simp only [zP, V]
   iterate 4 (refine aj rfl fun _ k0 => ?_; simp only [zO, zT, acs, reduceCtorEq, aa, V, ad, ag, af, ae, Mly.av, ah, aD, bK, Option.map_some, AV.valOf, hgi]; (repeat refine And.intro (by first | omega | assumption | exact hks | exact hks0 | exact rfl) ?_); (try refine .inl ?_); apply k0; clear k0; simp only [zP, V])
   refine am ?_
   apply k22; clear k22; refine kp [2, 4, 5, 6, 7, 8, 9, 10, 11, 12, 13, 28, 29, 30, 45] ?_
   refine ai fun _ k23 => ?_
   refine ai fun _ k24 => ?_
   refine cH 3 rfl ?_; simp only [aJ, bg, zS, aa, and_self, and_true, true_and, and_false, false_and, if_true, if_false, eq_self, reduceCtorEq, Nat.one_ne_zero, Nat.zero_ne_one]
   refine cF (n := 3) (L1 := [_, _, _]) rfl rfl (by rw [hB]; decide) rfl rfl ?_
   refine ak hP hN rfl ?_
   iterate 2 (refine aj rfl fun _ k0 => ?_; simp only [zO, zT, acs, reduceCtorEq, aa, V, ad, ag, af, ae, Mly.av, ah, aD, bK, Option.map_some, AV.valOf]; (repeat refine And.intro (by first | omega | assumption | exact hks | exact hks0 | exact rfl) ?_); (try refine .inl ?_); apply k0; clear k0; simp only [zP, V])
   refine am ?_
   apply k24; clear k24; refine kp [2, 4, 5, 6, 7, 8, 9, 10, 11, 12, 13, 28, 29, 30, 45, 56] ?_
   refine cd (fun hc25 => ?_) (fun hc25 => ?_)
   ·(try simp only [zB, reduceCtorEq] at hc25)
    have hsm : smO m (Q2.getD k ss0).1 a (Q2.getD k ss0).1.length = false := by have h9 := hc25; rw [hun] at h9; simpa using h9
    have hfd := ox hrun hkl hQ.le (by omega) hf (by rw [t9 hun hsm])
    refine ai fun _ k26 => ?_
    refine ak hP hN rfl ?_
    iterate 3 (refine aj rfl fun _ k0 => ?_; simp only [zO, zT, acs, reduceCtorEq, aa, V, ad, ag, af, ae, Mly.av, ah, aD, bK, Option.map_some, AV.valOf]; (repeat refine And.intro (by first | omega | assumption | exact hks | exact hks0 | exact rfl) ?_); (try refine .inl ?_); apply k0; clear k0; simp only [zP, V])
    refine am ?_
    apply k26; clear k26; refine kp [2, 4, 5, 6, 7, 8, 9, 10, 11, 12, 13, 28, 29, 30, 45, 56] ?_
    refine aG ?_
    refine ⟨nr, _, rfl, ?_⟩; simp only [zF, zP, aa, V, Mly.av, ah, aD, bK, Option.map_some, AV.valOf]
    rw [hfd]
    first
    | exact VLE.of_eq rfl
    | exact bS ⟨aQ (bl rfl), aQ (.refl _), trivial⟩
   (try simp only [zB, reduceCtorEq] at hc25)
   have hsm : smO m (Q2.getD k ss0).1 a (Q2.getD k ss0).1.length = true := by have h9 := hc25; rw [hun] at h9; simpa using h9
   refine ay ?_
   apply k23; clear k23; refine kp [2, 4, 5, 6, 7, 8, 9, 10, 11, 12, 13, 28, 29, 30, 45, 56] ?_
   refine ai fun _ k27 => ?_
   refine ai fun _ k28 => ?_
   refine ak hP hN rfl ?_
   iterate 2 (refine aj rfl fun _ k0 => ?_; simp only [zO, zT, acs, reduceCtorEq, aa, V, ad, ag, af, ae, Mly.av, ah, aD, bK, Option.map_some, AV.valOf, hlk]; (repeat refine And.intro (by first | omega | assumption | exact hks | exact hks0 | exact rfl) ?_); (try refine .inl ?_); apply k0; clear k0; simp only [zP, V])
   refine aj rfl fun _ k0 => ?_
   refine aK (h := aB (qz (cr m (Q2.getD k ss0).1 (a : Int)) (fh hm hnx.1) (by omega))) rfl rfl (by first | exact rfl | (simp only [ev, zP, aa, V]; exact rfl)) (by simp only [zV, acs, reduceCtorEq, aa, V, ad, ag, af, ae, Mly.av, ah, aD, bK, Option.map_some, AV.valOf, hlk]) ?_
   apply k0; clear k0; simp only [zP, V]
   (refine aj rfl fun _ k0 => ?_; simp only [zE, op1, ev, lkp, d6, bP, kU, bK, VK.ac, reduceCtorEq, aa, V, ad, ag, af, ae, Try.mk115, Try.td4, Mly.av, ah, aD, bK, Option.map_some, AV.valOf, hlk]; (repeat refine And.intro (by first | omega | assumption | exact hks | exact hks0 | exact rfl) ?_); (try refine .inl ?_); apply k0; clear k0; simp only [zP, V])
   refine am ?_
   apply k28; clear k28; refine kp [2, 4, 5, 6, 7, 8, 9, 10, 11, 12, 13, 28, 29, 30, 45, 56, 61] ?_
   refine cd (fun hc29 => ?_) (fun hc29 => ?_)
   ·(try simp only [zB, reduceCtorEq] at hc29)
    have hps : dS Q2 (eD m Q2 k a) < Q2.length := by have h9 := hc29; unfold eD; simpa using h9
    have hst := sY hun hsm hps
    refine aV ?_
    apply k16; clear k16; refine kp [2, 4, 5, 6, 7, 8, 9, 10, 11, 12, 13, 28, 29, 30, 45, 56, 61] ?_
    refine ak hP hN rfl ?_
    iterate 2 (refine aj rfl fun _ k0 => ?_; simp only [zO, zT, acs, reduceCtorEq, aa, V, ad, ag, af, ae, Mly.av, ah, aD, bK, Option.map_some, AV.valOf]; (repeat refine And.intro (by first | omega | assumption | exact hks | exact hks0 | exact rfl) ?_); (try refine .inl ?_); apply k0; clear k0; simp only [zP, V])
    refine am ?_
    first
    | (refine ⟨_, _, ?_, ax [2, 4, 5, 6, 7, 8, 28, 29], a + 1, v2, Q2, by omega, hQ2, hk2, (eQ hf).trans hst, rfl, rfl⟩
       omega)
    | (refine ⟨_, _, ?_, ax [2, 4, 5, 6, 7, 8, 28, 29], a + 1, v2 + 1, Q2 ++ [(eD m Q2 k a, dN Q2 k a)], by omega, hQ2.snoc hnx.1 (hnx.2.trans hln) (by unfold dN; rw [aq]; simp only [au, aC]; omega) (by omega), by rw [aq]; omega, (eQ hf).trans hst, rfl, ?_⟩
       · omega
       · rw [show esB (Q2 ++ [(eD m Q2 k a, dN Q2 k a)]) = _ from (qw (x := eD m Q2 k a) (w := dN Q2 k a) (fh hm hnx.1) (fun s h => fh hm (hQ2.st s h)) hps).symm, List.map_append]; rfl)
   (try simp only [zB, reduceCtorEq] at hc29)
   have hps : ¬ dS Q2 (eD m Q2 k a) < Q2.length := by have h9 := hc29; unfold eD; simpa using h9
   refine ay ?_
   apply k27; clear k27; refine kp [2, 4, 5, 6, 7, 8, 9, 10, 11, 12, 13, 28, 29, 30, 45, 56, 61] ?_
   refine ai fun _ k30 => ?_
   refine ai fun _ k31 => ?_
   refine ak hP hN rfl ?_
   iterate 3 (refine aj rfl fun _ k0 => ?_; simp only [zO, zT, acs, reduceCtorEq, aa, V, ad, ag, af, ae, Mly.av, ah, aD, bK, Option.map_some, AV.valOf]; (repeat refine And.intro (by first | omega | assumption | exact hks | exact hks0 | exact rfl) ?_); (try refine .inl ?_); apply k0; clear k0; simp only [zP, V])
   refine am ?_
   apply k31; clear k31; refine kp [2, 4, 5, 6, 7, 8, 9, 10, 11, 12, 13, 28, 29, 30, 45, 56, 61, 64] ?_
   refine cd (fun hc32 => ?_) (fun hc32 => ?_)
   ·(try simp only [zB, reduceCtorEq] at hc32)
    have hfd := ox hrun hkl hQ.le (by omega) hf (by rw [tH hun hsm hps (by omega)])
    refine ai fun _ k33 => ?_
    refine ak hP hN rfl ?_
    iterate 2 (refine aj rfl fun _ k0 => ?_; simp only [zO, zT, acs, reduceCtorEq, aa, V, ad, ag, af, ae, Mly.av, ah, aD, bK, Option.map_some, AV.valOf]; (repeat refine And.intro (by first | omega | assumption | exact hks | exact hks0 | exact rfl) ?_); (try refine .inl ?_); apply k0; clear k0; simp only [zP, V])
    refine am ?_
    apply k33; clear k33; refine kp [2, 4, 5, 6, 7, 8, 9, 10, 11, 12, 13, 28, 29, 30, 45, 56, 61, 64] ?_
    refine aG ?_
    refine ⟨nr, _, rfl, ?_⟩; simp only [zF, zP, aa, V, Mly.av, ah, aD, bK, Option.map_some, AV.valOf]
    rw [hfd]
    first
    | exact VLE.of_eq rfl
    | exact bS ⟨aQ (bl rfl), aQ (.refl _), trivial⟩
   (try simp only [zB, reduceCtorEq] at hc32)
   have hst := tc hun hsm hps (by omega)
   refine ay ?_
   apply k30; clear k30; refine kp [2, 4, 5, 6, 7, 8, 9, 10, 11, 12, 13, 28, 29, 30, 45, 56, 61, 64] ?_
   refine ai fun _ k34 => ?_
   refine ak hP hN rfl ?_
   iterate 2 (refine aj rfl fun _ k0 => ?_; simp only [zO, zT, acs, reduceCtorEq, aa, V, ad, ag, af, ae, Mly.av, ah, aD, bK, Option.map_some, AV.valOf]; (repeat refine And.intro (by first | omega | assumption | exact hks | exact hks0 | exact rfl) ?_); (try refine .inl ?_); apply k0; clear k0; simp only [zP, V])
   refine aj rfl fun _ k0 => ?_
   refine aK (h := aB (qz (cr m (Q2.getD k ss0).1 (a : Int)) (fh hm hnx.1) (by omega))) rfl rfl (by first | exact rfl | (simp only [ev, zP, aa, V]; exact rfl)) (by simp only [zV, acs, reduceCtorEq, aa, V, ad, ag, af, ae, Mly.av, ah, aD, bK, Option.map_some, AV.valOf]) ?_
   apply k0; clear k0; simp only [zP, V]
   (refine aj rfl fun _ k0 => ?_; simp only [zE, op1, ev, lkp, d6, bP, eO, bK, valOf, reduceCtorEq, aa, V, ad, ag, af, ae, Try.mk115, Mly.av, ah, aD, bK, Option.map_some, AV.valOf]; (repeat refine And.intro (by first | omega | assumption | exact hks | exact hks0 | exact rfl) ?_); (try refine .inl ?_); apply k0; clear k0; simp only [zP, V])
   refine am ?_
   apply k34; clear k34; refine kp [2, 4, 5, 6, 7, 8, 9, 10, 11, 12, 13, 28, 29, 30, 45, 56, 61, 64] ?_
   refine ak hP hN rfl ?_
   iterate 7 (refine aj rfl fun _ k0 => ?_; simp only [zO, zT, acs, reduceCtorEq, aa, V, ad, ag, af, ae, Mly.av, ah, aD, bK, Option.map_some, AV.valOf]; (repeat refine And.intro (by first | omega | assumption | exact hks | exact hks0 | exact rfl) ?_); (try refine .inl ?_); apply k0; clear k0; simp only [zP, V])
   refine am ?_
   apply k16; clear k16; refine kp [2, 4, 5, 6, 7, 8, 9, 10, 11, 12, 13, 28, 29, 30, 45, 56, 61, 64] ?_
   refine ak hP hN rfl ?_
   iterate 2 (refine aj rfl fun _ k0 => ?_; simp only [zO, zT, acs, reduceCtorEq, aa, V, ad, ag, af, ae, Mly.av, ah, aD, bK, Option.map_some, AV.valOf]; (repeat refine And.intro (by first | omega | assumption | exact hks | exact hks0 | exact rfl) ?_); (try refine .inl ?_); apply k0; clear k0; simp only [zP, V])
   refine am ?_
   first
   | (refine ⟨_, _, ?_, ax [2, 4, 5, 6, 7, 8, 28, 29], a + 1, v2, Q2, by omega, hQ2, hk2, (eQ hf).trans hst, rfl, rfl⟩
      omega)
   | (refine ⟨_, _, ?_, ax [2, 4, 5, 6, 7, 8, 28, 29], a + 1, v2 + 1, Q2 ++ [(eD m Q2 k a, dN Q2 k a)], by omega, hQ2.snoc hnx.1 (hnx.2.trans hln) (by unfold dN; rw [aq]; simp only [au, aC]; omega) (by omega), by rw [aq]; omega, (eQ hf).trans hst, rfl, ?_⟩
      · omega
      · rw [show esB (Q2 ++ [(eD m Q2 k a, dN Q2 k a)]) = _ from (qw (x := eD m Q2 k a) (w := dN Q2 k a) (fh hm hnx.1) (fun s h => fh hm (hQ2.st s h)) hps).symm, List.map_append]; rfl)
  (try simp only [zB, reduceCtorEq] at hc15)
  refine aV ?_
  apply k10; clear k10; refine kp [2, 4, 5, 6, 7, 8, 28, 29, 30] ?_
  refine ak hP hN rfl ?_
  iterate 3 (refine aj rfl fun _ k0 => ?_; simp only [zO, zT, acs, reduceCtorEq, aa, V, ad, ag, af, ae, Mly.av, ah, aD, bK, Option.map_some, AV.valOf]; (repeat refine And.intro (by first | omega | assumption | exact hks | exact hks0 | exact rfl) ?_); (try refine .inl ?_); apply k0; clear k0; simp only [zP, V])
  refine am ?_
  refine ⟨_, _, ?_, ax [2, 4, 5, 6, 7, 8], k + 1, v2, Q2, hQ2, x7 hrun hkl hQ.le (by rw [show m.inp.toNat = a by omega]; exact hf), rfl, rfl⟩
  have := hQ.le
  omega
 (try simp only [zB, reduceCtorEq] at hc9)
 refine aV ?_
 apply k4; clear k4; refine kp [2, 4, 5, 6, 7, 8, 24] ?_
 refine ai fun _ k35 => ?_
 have hfd := yM hrun (by omega)
 refine ak hP hN rfl ?_
 iterate 2 (refine aj rfl fun _ k0 => ?_; simp only [zO, zT, acs, reduceCtorEq, aa, V, ad, ag, af, ae, Mly.av, ah, aD, bK, Option.map_some, AV.valOf]; (repeat refine And.intro (by first | omega | assumption | exact hks | exact hks0 | exact rfl) ?_); (try refine .inl ?_); apply k0; clear k0; simp only [zP, V])
 refine am ?_
 apply k35; clear k35; refine kp [2, 4, 5, 6, 7, 8, 24] ?_
 refine aG ?_
 refine ⟨nr, _, rfl, ?_⟩; simp only [zF, zP, aa, V, Mly.av, ah, aD, bK, Option.map_some, AV.valOf]
 rw [hfd]
 first
 | exact VLE.of_eq rfl
 | exact bS ⟨aQ (bl rfl), aQ (.refl _), trivial⟩
theorem wZ (x : Int) : c7 Try.prog 100 [.one (.int .i64 x)] (.one (.bool (wU x))) := by
 refine aS Try.func100 rfl (by kernel_rfl) (Nat.le_of_ble_eq_true rfl) rfl fun C hP hN hB => ?_
 replace hN : C.N = 6 := hN
 simp only [bc, V]
 refine ai fun _ k1 => ?_
 refine ak hP hN rfl ?_
 (refine aj rfl fun _ k0 => ?_; simp only [zO, zT, acs, reduceCtorEq, aa, V, ad, ag, af, ae]; (repeat refine an ?_); (try refine .inl ?_); apply k0; clear k0; simp only [zP, V])
 refine am ?_
 apply k1; clear k1; refine kp [0, 2] ?_
 refine ai fun _ k2 => ?_
 refine ak hP hN rfl ?_
 iterate 4 (refine aj rfl fun _ k0 => ?_; simp only [zO, zT, acs, reduceCtorEq, aa, V, ad, ag, af, ae]; (repeat refine an ?_); (try refine .inl ?_); apply k0; clear k0; simp only [zP, V])
 refine am ?_
 apply k2; clear k2; refine kp [0, 2] ?_
 refine aG ?_
 refine ⟨nr, _, rfl, ?_⟩; simp only [zF, zP, aa, V]
 refine VLE.of_eq ?_
 rw [oO]
theorem B7 (x y : Int) : c7 Try.prog 85 [.one (.int .i64 x), .one (.int .i64 y)] (.one (.bool (decide (x < y)))) := by
 refine aS Try.func85 rfl (by kernel_rfl) (Nat.le_of_ble_eq_true rfl) rfl fun C hP hN hB => ?_
 replace hN : C.N = 17 := hN
 simp only [bc, V]
 refine ai fun _ k1 => ?_
 refine ak hP hN rfl ?_
 (refine aj rfl fun _ k0 => ?_; simp only [zO, zT, acs, reduceCtorEq, aa, V, ad, ag, af, ae]; (repeat refine an ?_); (try refine .inl ?_); apply k0; clear k0; simp only [zP, V])
 refine am ?_
 apply k1; clear k1; refine kp [0, 1, 4] ?_
 refine ai fun _ k2 => ?_
 refine ak hP hN rfl ?_
 (refine aj rfl fun _ k0 => ?_; simp only [zO, zT, acs, reduceCtorEq, aa, V, ad, ag, af, ae]; (repeat refine an ?_); (try refine .inl ?_); apply k0; clear k0; simp only [zP, V])
 refine aj rfl fun _ k0 => ?_
 refine aK (h := aB (wZ x)) rfl rfl (by first | exact rfl | (simp only [ev, zP, aa, V]; exact rfl)) (by simp only [zV, acs, reduceCtorEq, aa, V, ad, ag, af, ae]) ?_
 apply k0; clear k0; simp only [zP, V]
 (refine aj rfl fun _ k0 => ?_; simp only [zO, zT, acs, reduceCtorEq, aa, V, ad, ag, af, ae]; (repeat refine an ?_); (try refine .inl ?_); apply k0; clear k0; simp only [zP, V])
 refine' aT (want := true) 3 rfl (m := 7) (by simp only [zP, aa, V]; exact rfl) (by kernel_rfl) rfl rfl rfl rfl rfl (fun hg3 => ?a3) ?b3 ?c3
 case a3 =>
  have hq3 := hg3; (try simp only [zB, reduceCtorEq] at hg3); simp only [zE]
  (refine bo rfl fun _ k0 => ?_; simp only [zO, zT, acs, reduceCtorEq, aa, V, ad, ag, af, ae]; (repeat refine an ?_); (try refine .inl ?_); apply k0; clear k0; simp only [zP, V])
  refine bo rfl fun _ k0 => ?_
  refine aK (h := aB (wZ y)) rfl rfl (by first | exact rfl | (simp only [ev, zP, aa, V]; exact rfl)) (by simp only [zV, acs, reduceCtorEq, aa, V, ad, ag, af, ae]) ?_
  apply k0; clear k0; simp only [zP, V]
  (refine bo rfl fun _ k0 => ?_; simp only [zO, zT, acs, reduceCtorEq, aa, V, ad, ag, af, ae]; (repeat refine an ?_); (try refine .inl ?_); apply k0; clear k0; simp only [zP, V])
  (refine aj rfl fun _ k0 => ?_; simp only [zO, zT, acs, reduceCtorEq, aa, V, ad, ag, af, ae]; (repeat refine an ?_); (try refine .inl ?_); apply k0; clear k0; simp only [zP, V])
  refine am ?_
  refine ⟨by simp only [zP, aa, V]; exact rfl, rfl, ?_, rfl⟩; (repeat refine aU rfl ?_); exact bu (by exact rfl) hq3
 case b3 => exact cJ
 simp only [bj, b6]
 (refine aj rfl fun _ k0 => ?_; simp only [zO, zT, acs, reduceCtorEq, aa, V, ad, ag, af, ae]; (repeat refine an ?_); (try refine .inl ?_); apply k0; clear k0; simp only [zP, V])
 refine' aT (want := false) 3 rfl (m := 12) (by simp only [zP, aa, V]; exact rfl) (by kernel_rfl) rfl rfl rfl rfl rfl (fun hg4 => ?a4) ?b4 ?c4
 case a4 =>
  have hq4 := hg4; (try simp only [zB, reduceCtorEq] at hg4); simp only [zE]
  iterate 3 (refine bo rfl fun _ k0 => ?_; simp only [zO, zT, acs, reduceCtorEq, aa, V, ad, ag, af, ae]; (repeat refine an ?_); (try refine .inl ?_); apply k0; clear k0; simp only [zP, V])
  (refine aj rfl fun _ k0 => ?_; simp only [zO, zT, acs, reduceCtorEq, aa, V, ad, ag, af, ae]; (repeat refine an ?_); (try refine .inl ?_); apply k0; clear k0; simp only [zP, V])
  refine am ?_
  refine ⟨by simp only [zP, aa, V]; exact rfl, rfl, ?_, rfl⟩; (repeat refine aU rfl ?_); exact bu (by exact rfl) hq4
 case b4 => exact cJ
 simp only [bj, b6]
 (refine aj rfl fun _ k0 => ?_; simp only [zO, zT, acs, reduceCtorEq, aa, V, ad, ag, af, ae]; (repeat refine an ?_); (try refine .inl ?_); apply k0; clear k0; simp only [zP, V])
 refine am ?_
 apply k2; clear k2; refine kp [0, 1, 4] ?_
 refine aG ?_
 refine ⟨nr, _, rfl, ?_⟩; simp only [zF, zP, aa, V]
 refine VLE.of_eq ?_
 refine congrArg (fun b => AV.one (AC.bool b)) ?_
 simp [oO]
theorem xc (x : Int) : c7 Try.prog 86 [.one (.int .i64 x)] (.one (.bool (wU x))) := by
 refine aS Try.func86 rfl (by kernel_rfl) (Nat.le_of_ble_eq_true rfl) rfl fun C hP hN hB => ?_
 replace hN : C.N = 6 := hN
 simp only [bc, V]
 refine ai fun _ k1 => ?_
 refine ak hP hN rfl ?_
 (refine aj rfl fun _ k0 => ?_; simp only [zO, zT, acs, reduceCtorEq, aa, V, ad, ag, af, ae]; (repeat refine an ?_); (try refine .inl ?_); apply k0; clear k0; simp only [zP, V])
 refine am ?_
 apply k1; clear k1; refine kp [0, 2] ?_
 refine ai fun _ k2 => ?_
 refine ak hP hN rfl ?_
 iterate 4 (refine aj rfl fun _ k0 => ?_; simp only [zO, zT, acs, reduceCtorEq, aa, V, ad, ag, af, ae]; (repeat refine an ?_); (try refine .inl ?_); apply k0; clear k0; simp only [zP, V])
 refine am ?_
 apply k2; clear k2; refine kp [0, 2] ?_
 refine aG ?_
 refine ⟨nr, _, rfl, ?_⟩; simp only [zF, zP, aa, V]
 refine VLE.of_eq ?_
 rw [oO]
theorem vH (xs : List Int) (o : Int) (hx : xs.Pairwise (· < ·)) (ho : o ∈ xs) (hl : xs.length ≤ 1000000) : c7 Try.prog 75 [.one (.list (.int .i64) xs), .one (.int .i64 o)] (.tup [.one (.int .i64 (pos xs o : Int)), .one (.bool true)]) := by
 refine aS Try.func75 rfl (by kernel_rfl) (Nat.le_of_ble_eq_true rfl) rfl fun C hP hN hB => ?_
 replace hN : C.N = 54 := hN
 simp only [bc, V]
 refine ai fun _ k1 => ?_
 refine ak hP hN rfl ?_
 iterate 2 (refine aj rfl fun _ k0 => ?_; simp only [zO, zT, acs, reduceCtorEq, aa, V, ad, ag, af, ae, d4, Int.toNat_one, Int.reducePow, Int.reduceToNat]; (repeat refine an ?_); (try refine .inl ?_); apply k0; clear k0; simp only [zP, V])
 refine am ?_
 apply k1; clear k1; refine kp [0, 1, 4, 5] ?_
 refine ai fun _ k2 => ?_
 refine ak hP hN rfl ?_
 iterate 3 (refine aj rfl fun _ k0 => ?_; simp only [zO, zT, acs, reduceCtorEq, aa, V, ad, ag, af, ae, d4, Int.toNat_one, Int.reducePow, Int.reduceToNat]; (repeat refine an ?_); (try refine .inl ?_); apply k0; clear k0; simp only [zP, V])
 refine am ?_
 apply k2; clear k2; refine kp [0, 1, 4, 5, 6] ?_
 refine ai fun _ k3 => ?_
 refine ak hP hN rfl ?_
 iterate 3 (refine aj rfl fun _ k0 => ?_; simp only [zO, zT, acs, reduceCtorEq, aa, V, ad, ag, af, ae, d4, Int.toNat_one, Int.reducePow, Int.reduceToNat]; (repeat refine an ?_); (try refine .inl ?_); apply k0; clear k0; simp only [zP, V])
 refine am ?_
 apply k3; clear k3; refine kp [0, 1, 4, 5, 6, 7, 8] ?_
 refine ai fun _ k4 => ?_
 refine az ?_
 refine ba (fun n5 s5 => ∃ (lo hi : Nat), (lo ≤ hi ∧ hi ≤ xs.length) ∧ (∀ q, q < lo → xs.getD q 0 < o) ∧ (∀ q, hi ≤ q → q < xs.length → o ≤ xs.getD q 0) ∧ n5 = hi - lo ∧ s5 = { env := [(0, .one (.list (.int .i64) xs)), (1, .one (.int .i64 o)), (4, .one (.int .i64 0)), (5, .one (.bool false)), (6, .one (.int .i64 (xs.length : Int))), (7, .one (.int .i64 (lo : Int))), (8, .one (.int .i64 (hi : Int)))], L := [] }) ?_ ?_
 ·exact ⟨_, _, ax [0, 1, 4, 5, 6, 7, 8], 0, xs.length, ⟨Nat.zero_le _, Nat.le_refl _⟩, fun q h => by omega, fun q h h2 => by omega, rfl, rfl⟩
 rintro n5 s5 ⟨lo, hi, hlo, h1, h2, rfl, rfl⟩
 refine ai fun _ k6 => ?_
 refine ai fun _ k7 => ?_
 refine ak hP hN rfl ?_
 iterate 3 (refine aj rfl fun _ k0 => ?_; simp only [zO, zT, acs, reduceCtorEq, aa, V, ad, ag, af, ae, d4, Int.toNat_one, Int.reducePow, Int.reduceToNat]; (repeat refine an ?_); (try refine .inl ?_); apply k0; clear k0; simp only [zP, V])
 refine am ?_
 apply k7; clear k7; refine kp [0, 1, 4, 5, 6, 7, 8, 15] ?_
 refine cd (fun hc8 => ?_) (fun hc8 => ?_)
 ·(try simp only [zB, reduceCtorEq] at hc8)
  refine ay ?_
  apply k6; clear k6; refine kp [0, 1, 4, 5, 6, 7, 8, 15] ?_
  refine az ?_
  refine ai fun _ k9 => ?_
  refine ak hP hN rfl ?_
  iterate 3 (refine aj rfl fun _ k0 => ?_; simp only [zO, zT, acs, reduceCtorEq, aa, V, ad, ag, af, ae, d4, Int.toNat_one, Int.reducePow, Int.reduceToNat]; (repeat refine an ?_); (try refine .inl ?_); apply k0; clear k0; simp only [zP, V])
  (refine aj rfl fun _ k0 => ?_; simp only [zE, op1, ev, lkp, d6, bP, jp, da, fQ, iw, fo, gV, gM, reduceCtorEq, aa, V, ad, ag, af, ae, Try.td132, Try.td3, d4, Int.toNat_one, Int.reducePow, Int.reduceToNat]; (repeat refine an ?_); (try refine .inl ?_); apply k0; clear k0; simp only [zP, V])
  (refine aj rfl fun _ k0 => ?_; simp only [zO, zT, acs, reduceCtorEq, aa, V, ad, ag, af, ae, d4, Int.toNat_one, Int.reducePow, Int.reduceToNat]; (repeat refine an ?_); (try refine .inl ?_); apply k0; clear k0; simp only [zP, V])
  (refine aj rfl fun _ k0 => ?_; simp only [zE, op1, ev, lkp, d6, bP, jp, da, fQ, iw, fo, gV, gM, reduceCtorEq, aa, V, ad, ag, af, ae, Try.td132, Try.td3, d4, Int.toNat_one, Int.reducePow, Int.reduceToNat]; (repeat refine an ?_); (try refine .inl ?_); apply k0; clear k0; simp only [zP, V])
  (refine aj rfl fun _ k0 => ?_; simp only [zO, zT, acs, reduceCtorEq, aa, V, ad, ag, af, ae, d4, Int.toNat_one, Int.reducePow, Int.reduceToNat]; (repeat refine an ?_); (try refine .inl ?_); apply k0; clear k0; simp only [zP, V])
  refine am ?_
  apply k9; clear k9; refine kp [0, 1, 4, 5, 6, 7, 8, 9, 15] ?_
  refine ai fun _ k10 => ?_
  have hmid : ((lo : Int) + (hi : Int)) / 2 = (((lo + hi) / 2) : Nat) := by omega
  rw [hmid]
  have hml : ((lo + hi) / 2) < xs.length := by omega
  refine ak hP hN rfl ?_
  iterate 5 (refine aj rfl fun _ k0 => ?_; simp only [zO, zT, acs, reduceCtorEq, aa, V, ad, ag, af, ae, d4, Int.toNat_one, Int.reducePow, Int.reduceToNat]; (repeat refine an ?_); (try refine .inl ?_); apply k0; clear k0; simp only [zP, V])
  refine aj rfl fun _ k0 => ?_
  refine aK (h := aB (B7 (xs.getD ((lo + hi) / 2) 0) o)) rfl rfl (by first | exact rfl | (simp only [ev, zP, aa, V]; exact rfl)) (by simp only [zV, acs, reduceCtorEq, aa, V, ad, ag, af, ae, d4, Int.toNat_one, Int.reducePow, Int.reduceToNat]) ?_
  apply k0; clear k0; simp only [zP, V]
  refine am ?_
  apply k10; clear k10; refine kp [0, 1, 4, 5, 6, 7, 8, 9, 15, 27] ?_
  refine cd (fun hc11 => ?_) (fun hc11 => ?_)
  ·(try simp only [zB, reduceCtorEq] at hc11)
   have hv : xs.getD ((lo + hi) / 2) 0 < o := by simpa using hc11
   refine ak hP hN rfl ?_
   iterate 3 (refine aj rfl fun _ k0 => ?_; simp only [zO, zT, acs, reduceCtorEq, aa, V, ad, ag, af, ae, d4, Int.toNat_one, Int.reducePow, Int.reduceToNat]; (repeat refine an ?_); (try refine .inl ?_); apply k0; clear k0; simp only [zP, V])
   refine am ?_
   first
   | (refine ⟨_, _, ?_, ax [0, 1, 4, 5, 6, 7, 8], ((lo + hi) / 2) + 1, hi, ⟨by omega, hlo.2⟩, qB hx hml hv, h2, rfl, rfl⟩
      omega)
   | (refine ⟨_, _, ?_, ax [0, 1, 4, 5, 6, 7, 8], lo, ((lo + hi) / 2), ⟨by omega, by omega⟩, h1, oS hx hml hv, rfl, rfl⟩
      omega)
  (try simp only [zB, reduceCtorEq] at hc11)
  have hv : ¬ xs.getD ((lo + hi) / 2) 0 < o := by simpa using hc11
  refine ak hP hN rfl ?_
  iterate 2 (refine aj rfl fun _ k0 => ?_; simp only [zO, zT, acs, reduceCtorEq, aa, V, ad, ag, af, ae, d4, Int.toNat_one, Int.reducePow, Int.reduceToNat]; (repeat refine an ?_); (try refine .inl ?_); apply k0; clear k0; simp only [zP, V])
  refine am ?_
  first
  | (refine ⟨_, _, ?_, ax [0, 1, 4, 5, 6, 7, 8], ((lo + hi) / 2) + 1, hi, ⟨by omega, hlo.2⟩, qB hx hml hv, h2, rfl, rfl⟩
     omega)
  | (refine ⟨_, _, ?_, ax [0, 1, 4, 5, 6, 7, 8], lo, ((lo + hi) / 2), ⟨by omega, by omega⟩, h1, oS hx hml hv, rfl, rfl⟩
     omega)
 (try simp only [zB, reduceCtorEq] at hc8)
 refine aV ?_
 apply k4; clear k4; refine kp [0, 1, 4, 5, 6, 7, 8, 15] ?_
 refine ai fun _ k12 => ?_
 have hlh : lo = hi := by omega
 obtain ⟨hpz, hgz, hlz⟩ := Am hx ho h1 (by rw [hlh]; exact h2)
 refine ak hP hN rfl ?_
 iterate 5 (refine aj rfl fun _ k0 => ?_; simp only [zO, zT, acs, reduceCtorEq, aa, V, ad, ag, af, ae, d4, Int.toNat_one, Int.reducePow, Int.reduceToNat]; (repeat refine an ?_); (try refine .inl ?_); apply k0; clear k0; simp only [zP, V])
 refine' aT (want := true) 17 rfl (m := 35) (by simp only [zP, aa, V]; exact rfl) (by kernel_rfl) rfl rfl rfl rfl rfl (fun hg13 => ?a13) ?b13 ?c13
 case a13 =>
  have hq13 := hg13; (try simp only [zB, reduceCtorEq] at hg13); simp only [zE]
  iterate 7 (refine bo rfl fun _ k0 => ?_; simp only [zO, zT, acs, reduceCtorEq, aa, V, ad, ag, af, ae, d4, Int.toNat_one, Int.reducePow, Int.reduceToNat]; (repeat refine an ?_); (try refine .inl ?_); apply k0; clear k0; simp only [zP, V])
  refine' aT (want := false) 9 rfl (m := 42) (by simp only [zP, aa, V]; exact rfl) (by kernel_rfl) rfl rfl rfl rfl rfl (fun hg14 => ?a14) ?b14 ?c14
  case a14 =>
   have hq14 := hg14; (try simp only [zB, reduceCtorEq] at hg14); simp only [zE]
   iterate 4 (refine bo rfl fun _ k0 => ?_; simp only [zO, zT, acs, reduceCtorEq, aa, V, ad, ag, af, ae, d4, Int.toNat_one, Int.reducePow, Int.reduceToNat]; (repeat refine an ?_); (try refine .inl ?_); apply k0; clear k0; simp only [zP, V])
   refine bo rfl fun _ k0 => ?_
   refine aK (h := aB (xc (xs.getD lo 0))) rfl rfl (by first | exact rfl | (simp only [ev, zP, aa, V]; exact rfl)) (by simp only [zV, acs, reduceCtorEq, aa, V, ad, ag, af, ae, d4, Int.toNat_one, Int.reducePow, Int.reduceToNat]) ?_
   apply k0; clear k0; simp only [zP, V]
   (refine bo rfl fun _ k0 => ?_; simp only [zO, zT, acs, reduceCtorEq, aa, V, ad, ag, af, ae, d4, Int.toNat_one, Int.reducePow, Int.reduceToNat]; (repeat refine an ?_); (try refine .inl ?_); apply k0; clear k0; simp only [zP, V])
   refine' aT (want := true) 2 rfl (m := 48) (by simp only [zP, aa, V]; exact rfl) (by kernel_rfl) rfl rfl rfl rfl rfl (fun hg15 => ?a15) ?b15 ?c15
   case a15 =>
    have hq15 := hg15; (try simp only [zB, reduceCtorEq] at hg15); simp only [zE]
    (refine bo rfl fun _ k0 => ?_; simp only [zO, zT, acs, reduceCtorEq, aa, V, ad, ag, af, ae, d4, Int.toNat_one, Int.reducePow, Int.reduceToNat]; (repeat refine an ?_); (try refine .inl ?_); apply k0; clear k0; simp only [zP, V])
    refine bo rfl fun _ k0 => ?_
    refine aK (h := aB (xc o)) rfl rfl (by first | exact rfl | (simp only [ev, zP, aa, V]; exact rfl)) (by simp only [zV, acs, reduceCtorEq, aa, V, ad, ag, af, ae, d4, Int.toNat_one, Int.reducePow, Int.reduceToNat]) ?_
    apply k0; clear k0; simp only [zP, V]
    (refine bo rfl fun _ k0 => ?_; simp only [zO, zT, acs, reduceCtorEq, aa, V, ad, ag, af, ae, d4, Int.toNat_one, Int.reducePow, Int.reduceToNat]; (repeat refine an ?_); (try refine .inl ?_); apply k0; clear k0; simp only [zP, V])
    refine am ?_
    refine ⟨by simp only [zP, aa, V]; exact rfl, rfl, ?_, rfl⟩; (repeat refine aU rfl ?_); exact bu (by exact rfl) hq15
   case b15 => exact cJ
   simp only [bj, b6]
   (refine bo rfl fun _ k0 => ?_; simp only [zO, zT, acs, reduceCtorEq, aa, V, ad, ag, af, ae, d4, Int.toNat_one, Int.reducePow, Int.reduceToNat]; (repeat refine an ?_); (try refine .inl ?_); apply k0; clear k0; simp only [zP, V])
   refine am ?_
   refine ⟨by simp only [zP, aa, V]; exact rfl, rfl, ?_, rfl⟩; (repeat refine aU rfl ?_); exact bu (by exact rfl) hq14
  case b14 => exact cJ
  simp only [bj, b6]
  (refine aj rfl fun _ k0 => ?_; simp only [zO, zT, acs, reduceCtorEq, aa, V, ad, ag, af, ae, d4, Int.toNat_one, Int.reducePow, Int.reduceToNat]; (repeat refine an ?_); (try refine .inl ?_); apply k0; clear k0; simp only [zP, V])
  refine am ?_
  refine ⟨by simp only [zP, aa, V]; exact rfl, rfl, ?_, rfl⟩; (repeat refine aU rfl ?_); exact bu (by exact rfl) hq13
 case b13 => exact cJ
 simp only [bj, b6]
 iterate 2 (refine aj rfl fun _ k0 => ?_; simp only [zO, zT, acs, reduceCtorEq, aa, V, ad, ag, af, ae, d4, Int.toNat_one, Int.reducePow, Int.reduceToNat]; (repeat refine an ?_); (try refine .inl ?_); apply k0; clear k0; simp only [zP, V])
 refine am ?_
 apply k12; clear k12; refine kp [0, 1, 4, 5, 6, 7, 8, 15] ?_
 refine aG ?_
 refine ⟨nr, _, rfl, ?_⟩; simp only [zF, zP, aa, V, d4, Int.toNat_one, Int.reducePow, Int.reduceToNat]
 refine VLE.of_eq ?_
 simp only [hgz]
 simp [hlz, ← hpz, oO]
open Go.Shelf in
def Try.laysNm220_ren : Go.Shelf.Ren := ⟨fun | 20 => 74 | n => n, fun | 22 => 41 | 3 => 3 | 4 => 4 | 0 => 0 | n => n, fun | n => n⟩
theorem Try.laysNm220 : Go.Proofs.Lays2.n20 Try.prog Try.laysNm220_ren := {
  mixed := by kernel_rfl,
  f20 := Try.func74.trans (congrArg some (by kernel_rfl)),
  t0 := Try.underlying0,
  a0 := Try.isAgg0,
  z0 := Try.sizeOf0,
  v0 := Try.zeroValue0,
  t3 := Try.underlying3,
  a3 := Try.isAgg3,
  z3 := Try.sizeOf3,
  v3 := Try.zeroValue3,
  t4 := Try.underlying4,
  a4 := Try.isAgg4,
  z4 := Try.sizeOf4,
  v4 := Try.zeroValue4,
  t22 := Try.underlying41,
  a22 := Try.isAgg41,
  z22 := Try.sizeOf41,
  v22 := Try.zeroValue41,
  i3 := by kernel_rfl }
theorem nW : rY Try.prog 74 := ⟨⟨Try.f74, Try.func74, by kernel_rfl, by kernel_rfl⟩, fun blk off cap zs w hH hb hz => Any.slices_Compact_int Try.laysNm220 blk off cap zs w hH hb hz⟩
open Go.Shelf in
def Try.lays189_ren : Go.Shelf.Ren := ⟨fun | 189 => 73 | 125 => 84 | 257 => 83 | 128 => 98 | 129 => 99 | 294 => 90 | 295 => 91 | 296 => 92 | 297 => 93 | 298 => 94 | 299 => 95 | 216 => 85 | 300 => 96 | 301 => 97 | 328 => 103 | 329 => 104 | 330 => 105 | 331 => 106 | 332 => 107 | 215 => 100 | 343 => 109 | n => n, fun | 28 => 41 | 3 => 3 | 46 => 132 | 0 => 0 | 51 => 144 | 53 => 146 | 4 => 4 | 183 => 138 | 182 => 137 | 131 => 69 | 5 => 5 | 9 => 9 | 218 => 148 | 222 => 152 | 228 => 155 | 229 => 104 | n => n, fun | n => n⟩
theorem Try.lays189 : Go.Proofs.Lays.n189 Try.prog Try.lays189_ren := {
  mixed := by kernel_rfl,
  f125 := Try.func84.trans (congrArg some (by kernel_rfl)),
  f128 := Try.func98.trans (congrArg some (by kernel_rfl)),
  f129 := Try.func99.trans (congrArg some (by kernel_rfl)),
  f189 := Try.func73.trans (congrArg some (by kernel_rfl)),
  f215 := Try.func100.trans (congrArg some (by kernel_rfl)),
  f216 := Try.func85.trans (congrArg some (by kernel_rfl)),
  f257 := Try.func83.trans (congrArg some (by kernel_rfl)),
  f294 := Try.func90.trans (congrArg some (by kernel_rfl)),
  f295 := Try.func91.trans (congrArg some (by kernel_rfl)),
  f296 := Try.func92.trans (congrArg some (by kernel_rfl)),
  f297 := Try.func93.trans (congrArg some (by kernel_rfl)),
  f298 := Try.func94.trans (congrArg some (by kernel_rfl)),
  f299 := Try.func95.trans (congrArg some (by kernel_rfl)),
  f300 := Try.func96.trans (congrArg some (by kernel_rfl)),
  f301 := Try.func97.trans (congrArg some (by kernel_rfl)),
  f328 := Try.func103.trans (congrArg some (by kernel_rfl)),
  f329 := Try.func104.trans (congrArg some (by kernel_rfl)),
  f330 := Try.func105.trans (congrArg some (by kernel_rfl)),
  f331 := Try.func106.trans (congrArg some (by kernel_rfl)),
  f332 := Try.func107.trans (congrArg some (by kernel_rfl)),
  f343 := Try.func109.trans (congrArg some (by kernel_rfl)),
  t0 := Try.underlying0,
  a0 := Try.isAgg0,
  z0 := Try.sizeOf0,
  v0 := Try.zeroValue0,
  t3 := Try.underlying3,
  a3 := Try.isAgg3,
  z3 := Try.sizeOf3,
  v3 := Try.zeroValue3,
  t4 := Try.underlying4,
  a4 := Try.isAgg4,
  z4 := Try.sizeOf4,
  v4 := Try.zeroValue4,
  t5 := Try.underlying5,
  a5 := Try.isAgg5,
  z5 := Try.sizeOf5,
  v5 := Try.zeroValue5,
  t9 := Try.underlying9,
  a9 := Try.isAgg9,
  z9 := Try.sizeOf9,
  v9 := Try.zeroValue9,
  t28 := Try.underlying41,
  a28 := Try.isAgg41,
  z28 := Try.sizeOf41,
  v28 := Try.zeroValue41,
  t46 := Try.underlying132,
  a46 := Try.isAgg132,
  z46 := Try.sizeOf132,
  v46 := Try.zeroValue132,
  t51 := Try.underlying144,
  a51 := Try.isAgg144,
  z51 := Try.sizeOf144,
  v51 := Try.zeroValue144,
  t53 := Try.underlying146,
  a53 := Try.isAgg146,
  z53 := Try.sizeOf146,
  v53 := Try.zeroValue146,
  t131 := Try.underlying69,
  a131 := Try.isAgg69,
  z131 := Try.sizeOf69,
  v131 := Try.zeroValue69,
  t182 := Try.underlying137,
  a182 := Try.isAgg137,
  z182 := Try.sizeOf137,
  v182 := Try.zeroValue137,
  t183 := Try.underlying138,
  a183 := Try.isAgg138,
  z183 := Try.sizeOf138,
  v183 := Try.zeroValue138,
  t218 := Try.underlying148,
  a218 := Try.isAgg148,
  z218 := Try.sizeOf148,
  v218 := Try.zeroValue148,
  t222 := Try.underlying152,
  a222 := Try.isAgg152,
  z222 := Try.sizeOf152,
  v222 := Try.zeroValue152,
  t228 := Try.underlying155,
  a228 := Try.isAgg155,
  z228 := Try.sizeOf155,
  v228 := Try.zeroValue155,
  t229 := Try.underlying104,
  a229 := Try.isAgg104,
  z229 := Try.sizeOf104,
  v229 := Try.zeroValue104 }
theorem vi : zM Try.prog 73 := ⟨⟨Try.f73, Try.func73, by kernel_rfl, by kernel_rfl⟩, fun blk off cap zs w hH hb hz => Any.slices_Sort_int Try.lays189 blk off cap zs w hH hb hz⟩
end Go.Proofs.Ytoahhklogohehaa
