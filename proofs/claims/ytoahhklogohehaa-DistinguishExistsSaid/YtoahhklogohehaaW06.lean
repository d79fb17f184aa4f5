/- Contracts of functions of this seat, each out of a walk through its code, and plain facts on what they compute. Conditions: those that each theorem names. -/
import Derived.Test.YtoahhklogohehaaW05
set_option linter.unusedSimpArgs false
set_option linter.unusedVariables false
set_option maxRecDepth 100000
namespace Go.Proofs.Ytoahhklogohehaa
open Go Go.AV
open Nat renaming reduceEqDiff → aa, reduceAdd → V, reduceLeDiff → ad, reduceLT → ag, reduceMul → af, reduceSub → ae
open List renaming set_cons_zero → cE, set_cons_succ → ci, getD_cons_zero → ar, length_append → aq, map_cons → aF, cons_append → aM, map_nil → bl, length_cons → au, nil_append → ba, take_succ_cons → dD, length_nil → aE, length_map → az, length_replicate → bh, take_length → aJ, mem_cons_self → aH, mem_cons_of_mem → aG
open Int renaming toNat_natCast → ah
set_option maxHeartbeats 1000000 in
theorem uU (m : Mly) : bZ Try.prog 31 [m.av] (.one (.bool (iE m))) := by
 refine aU Try.func31 rfl (by kernel_rfl) (Nat.le_of_ble_eq_true rfl) rfl fun C hP hN hB => ?_
 replace hN : C.N = 48 := hN
 simp only [bg, V]
 refine ai fun _ k1 => ?_
 refine ak hP hN rfl ?_
 iterate 2 (refine aj rfl fun _ k0 => ?_; simp only [zO, zT, acs, reduceCtorEq, aa, V, ad, ag, af, ae, Mly.av, ah]; (repeat refine an ?_); (try refine .inl ?_); apply k0; clear k0; simp only [zP, V])
 refine am ?_
 apply k1; clear k1; refine kp [0, 1, 2] ?_
 refine ai fun _ k2 => ?_
 refine ai fun _ k3 => ?_
 refine ak hP hN rfl ?_
 iterate 5 (refine aj rfl fun _ k0 => ?_; simp only [zO, zT, acs, reduceCtorEq, aa, V, ad, ag, af, ae, Mly.av, ah]; (repeat refine an ?_); (try refine .inl ?_); apply k0; clear k0; simp only [zP, V])
 refine' aP (want := false) 4 rfl (m := 9) (by simp only [zP, aa, V]; exact rfl) (by kernel_rfl) rfl rfl rfl rfl rfl (fun hg4 => ?a4) ?b4 ?c4
 case a4 =>
  have hq4 := hg4; (try simp only [zB, reduceCtorEq] at hg4); simp only [zE]
  iterate 4 (refine bf rfl fun _ k0 => ?_; simp only [zO, zT, acs, reduceCtorEq, aa, V, ad, ag, af, ae, Mly.av, ah]; (repeat refine an ?_); (try refine .inl ?_); apply k0; clear k0; simp only [zP, V])
  (refine aj rfl fun _ k0 => ?_; simp only [zO, zT, acs, reduceCtorEq, aa, V, ad, ag, af, ae, Mly.av, ah]; (repeat refine an ?_); (try refine .inl ?_); apply k0; clear k0; simp only [zP, V])
  refine am ?_
  refine ⟨by simp only [zP, aa, V]; exact rfl, rfl, ?_, rfl⟩; (repeat refine aQ rfl ?_); exact bn (by exact rfl) hq4
 case b4 => exact cq
 simp only [b7, aT]
 (refine aj rfl fun _ k0 => ?_; simp only [zO, zT, acs, reduceCtorEq, aa, V, ad, ag, af, ae, Mly.av, ah]; (repeat refine an ?_); (try refine .inl ?_); apply k0; clear k0; simp only [zP, V])
 refine' aP (want := false) 3 rfl (m := 15) (by simp only [zP, aa, V]; exact rfl) (by kernel_rfl) rfl rfl rfl rfl rfl (fun hg5 => ?a5) ?b5 ?c5
 case a5 =>
  have hq5 := hg5; (try simp only [zB, reduceCtorEq] at hg5); simp only [zE]
  iterate 3 (refine bf rfl fun _ k0 => ?_; simp only [zO, zT, acs, reduceCtorEq, aa, V, ad, ag, af, ae, Mly.av, ah]; (repeat refine an ?_); (try refine .inl ?_); apply k0; clear k0; simp only [zP, V])
  (refine aj rfl fun _ k0 => ?_; simp only [zO, zT, acs, reduceCtorEq, aa, V, ad, ag, af, ae, Mly.av, ah]; (repeat refine an ?_); (try refine .inl ?_); apply k0; clear k0; simp only [zP, V])
  refine am ?_
  refine ⟨by simp only [zP, aa, V]; exact rfl, rfl, ?_, rfl⟩; (repeat refine aQ rfl ?_); exact bn (by exact rfl) hq5
 case b5 => exact cq
 simp only [b7, aT]
 refine am ?_
 apply k3; clear k3; refine kp [0, 1, 2, 19] ?_
 refine cd (fun hc6 => ?_) (fun hc6 => ?_)
 ·(try simp only [zB, reduceCtorEq] at hc6)
  have hg : iE m = true := A4 (Or.elim hc6 (fun h9 => .inl (Or.elim h9 (fun h8 => .inl (by have h7 : (12 : Int) < (m.nx.length : Int) := h8; omega)) (fun h8 => .inr (by have h7 : (12 : Int) < (m.ot.length : Int) := h8; omega)))) (fun h9 => .inr h9))
  refine ai fun _ k7 => ?_
  refine ak hP hN rfl ?_
  (refine aj rfl fun _ k0 => ?_; simp only [zO, zT, acs, reduceCtorEq, aa, V, ad, ag, af, ae, Mly.av, ah]; (repeat refine an ?_); (try refine .inl ?_); apply k0; clear k0; simp only [zP, V])
  refine am ?_
  apply k7; clear k7; refine kp [0, 1, 2, 19] ?_
  refine aB ?_
  refine ⟨nr, _, rfl, ?_⟩; simp only [zF, zP, aa, V, Mly.av, ah]
  refine VLE.of_eq ?_
  refine congrArg (fun b => AV.one (AC.bool b)) ?_
  symm
  first
  | exact hg
  | exact nZ hg0 hqN (fun q h => hqo q (by omega))
 (try simp only [zB, reduceCtorEq] at hc6)
 have hg0 : ¬ ((12 < m.nx.length ∨ 12 < m.ot.length) ∨ 6 < m.inp) := by
   have h7 : (m.nx.length : Int) ≤ 12 := hc6.1.1
   have h8 : (m.ot.length : Int) ≤ 12 := hc6.1.2
   have h9 : m.inp ≤ 6 := hc6.2
   omega
 refine ax ?_
 apply k2; clear k2; refine kp [0, 1, 2, 19] ?_
 refine ai fun _ k8 => ?_
 refine ai fun _ k9 => ?_
 refine ak hP hN rfl ?_
 iterate 4 (refine aj rfl fun _ k0 => ?_; simp only [zO, zT, acs, reduceCtorEq, aa, V, ad, ag, af, ae, Mly.av, ah]; (repeat refine an ?_); (try refine .inl ?_); apply k0; clear k0; simp only [zP, V])
 refine am ?_
 apply k9; clear k9; refine kp [0, 1, 2, 19, 22, 23] ?_
 refine ay ?_
 refine bb (fun n10 s10 => ∃ (k : Nat), (k ≤ m.nx.length) ∧ (∀ q, q < k → (m.nx.getD q []).length ≤ 12) ∧ n10 = m.nx.length - k ∧ s10 = { env := [(1, .one (.ptr 0 0 0 0)), (2, .one (.bool false)), (22, .one (.int .i64 (m.nx.length : Int))), (23, .one (.int .i64 (k : Int)))], L := [.vars 24 [.int .i64 m.inp, .int .i64 m.st, .list (.list (.int .i64)) m.nx, .list (.list (.int .i64)) m.ot]] }) ?_ ?_
 ·exact ⟨_, _, aw [1, 2, 22, 23], 0, Nat.zero_le _, fun q h => by omega, rfl, rfl⟩
 rintro n10 s10 ⟨k, hkn, hqn, rfl, rfl⟩
 refine ai fun _ k11 => ?_
 refine ak hP hN rfl ?_
 (refine aj rfl fun _ k0 => ?_; simp only [zO, zT, acs, reduceCtorEq, aa, V, ad, ag, af, ae, Mly.av, ah]; (repeat refine an ?_); (try refine .inl ?_); apply k0; clear k0; simp only [zP, V])
 refine am ?_
 apply k11; clear k11; refine kp [1, 2, 22, 23, 24] ?_
 refine ai fun _ k12 => ?_
 refine cd (fun hc13 => ?_) (fun hc13 => ?_)
 ·(try simp only [zB, reduceCtorEq] at hc13)
  refine ax ?_
  apply k12; clear k12; refine kp [1, 2, 22, 23, 24] ?_
  refine ai fun _ k14 => ?_
  refine ay ?_
  refine ai fun _ k15 => ?_
  refine ak hP hN rfl ?_
  iterate 2 (refine aj rfl fun _ k0 => ?_; simp only [zO, zT, acs, reduceCtorEq, aa, V, ad, ag, af, ae, Mly.av, ah]; (repeat refine an ?_); (try refine .inl ?_); apply k0; clear k0; simp only [zP, V])
  refine am ?_
  apply k15; clear k15; refine kp [1, 2, 3, 22, 23, 24] ?_
  refine ai fun _ k16 => ?_
  refine ak hP hN rfl ?_
  iterate 7 (refine aj rfl fun _ k0 => ?_; simp only [zO, zT, acs, reduceCtorEq, aa, V, ad, ag, af, ae, Mly.av, ah]; (repeat refine an ?_); (try refine .inl ?_); apply k0; clear k0; simp only [zP, V])
  refine am ?_
  apply k16; clear k16; refine kp [1, 2, 3, 22, 23, 24, 32] ?_
  refine cd (fun hc17 => ?_) (fun hc17 => ?_)
  ·(try simp only [zB, reduceCtorEq] at hc17)
   have hg : iE m = true := zZ (k := k) (by omega) (by have h7 : (12 : Int) < ((m.nx.getD k []).length : Int) := hc17; omega)
   refine ai fun _ k18 => ?_
   refine ak hP hN rfl ?_
   (refine aj rfl fun _ k0 => ?_; simp only [zO, zT, acs, reduceCtorEq, aa, V, ad, ag, af, ae, Mly.av, ah]; (repeat refine an ?_); (try refine .inl ?_); apply k0; clear k0; simp only [zP, V])
   refine am ?_
   apply k18; clear k18; refine kp [1, 2, 3, 22, 23, 24, 32] ?_
   refine aB ?_
   refine ⟨nr, _, rfl, ?_⟩; simp only [zF, zP, aa, V, Mly.av, ah]
   refine VLE.of_eq ?_
   refine congrArg (fun b => AV.one (AC.bool b)) ?_
   symm
   first
   | exact hg
   | exact nZ hg0 hqN (fun q h => hqo q (by omega))
  (try simp only [zB, reduceCtorEq] at hc17)
  have hrow : (m.nx.getD k []).length ≤ 12 := by have h7 : ((m.nx.getD k []).length : Int) ≤ 12 := hc17; omega
  refine ax ?_
  apply k14; clear k14; refine kp [1, 2, 3, 22, 23, 24, 32] ?_
  refine ak hP hN rfl ?_
  iterate 2 (refine aj rfl fun _ k0 => ?_; simp only [zO, zT, acs, reduceCtorEq, aa, V, ad, ag, af, ae, Mly.av, ah]; (repeat refine an ?_); (try refine .inl ?_); apply k0; clear k0; simp only [zP, V])
  refine am ?_
  refine ⟨_, _, ?_, aw [1, 2, 22, 23], k + 1, by omega, fun q h => ?_, rfl, rfl⟩
  · omega
  · by_cases e : q = k
    · rw [e]; exact hrow
    · exact hqn q (by omega)
 (try simp only [zB, reduceCtorEq] at hc13)
 refine aX ?_
 apply k8; clear k8; refine kp [1, 2, 22, 23, 24] ?_
 refine ai fun _ k19 => ?_
 refine ai fun _ k20 => ?_
 have hqN : ∀ q, q < m.nx.length → (m.nx.getD q []).length ≤ 12 := fun q h => hqn q (by omega)
 have hkn9 := hkn
 clear hqn
 refine ak hP hN rfl ?_
 iterate 4 (refine aj rfl fun _ k0 => ?_; simp only [zO, zT, acs, reduceCtorEq, aa, V, ad, ag, af, ae, Mly.av, ah]; (repeat refine an ?_); (try refine .inl ?_); apply k0; clear k0; simp only [zP, V])
 refine am ?_
 apply k20; clear k20; refine kp [1, 2, 22, 23, 24, 36, 37] ?_
 refine ay ?_
 refine bb (fun n21 s21 => ∃ (k : Nat), (k ≤ m.ot.length) ∧ (∀ q, q < k → (m.ot.getD q []).length ≤ 12) ∧ n21 = m.ot.length - k ∧ s21 = { env := [(1, .one (.ptr 0 0 0 0)), (2, .one (.bool false)), (36, .one (.int .i64 (m.ot.length : Int))), (37, .one (.int .i64 (k : Int)))], L := [.vars 24 [.int .i64 m.inp, .int .i64 m.st, .list (.list (.int .i64)) m.nx, .list (.list (.int .i64)) m.ot]] }) ?_ ?_
 ·exact ⟨_, _, aw [1, 2, 36, 37], 0, Nat.zero_le _, fun q h => by omega, rfl, rfl⟩
 rintro n21 s21 ⟨k, hko, hqo, rfl, rfl⟩
 refine ai fun _ k22 => ?_
 refine ak hP hN rfl ?_
 (refine aj rfl fun _ k0 => ?_; simp only [zO, zT, acs, reduceCtorEq, aa, V, ad, ag, af, ae, Mly.av, ah]; (repeat refine an ?_); (try refine .inl ?_); apply k0; clear k0; simp only [zP, V])
 refine am ?_
 apply k22; clear k22; refine kp [1, 2, 36, 37, 38] ?_
 refine ai fun _ k23 => ?_
 refine cd (fun hc24 => ?_) (fun hc24 => ?_)
 ·(try simp only [zB, reduceCtorEq] at hc24)
  refine ax ?_
  apply k23; clear k23; refine kp [1, 2, 36, 37, 38] ?_
  refine ai fun _ k25 => ?_
  refine ay ?_
  refine ai fun _ k26 => ?_
  refine ak hP hN rfl ?_
  iterate 2 (refine aj rfl fun _ k0 => ?_; simp only [zO, zT, acs, reduceCtorEq, aa, V, ad, ag, af, ae, Mly.av, ah]; (repeat refine an ?_); (try refine .inl ?_); apply k0; clear k0; simp only [zP, V])
  refine am ?_
  apply k26; clear k26; refine kp [1, 2, 4, 36, 37, 38] ?_
  refine ai fun _ k27 => ?_
  refine ak hP hN rfl ?_
  iterate 7 (refine aj rfl fun _ k0 => ?_; simp only [zO, zT, acs, reduceCtorEq, aa, V, ad, ag, af, ae, Mly.av, ah]; (repeat refine an ?_); (try refine .inl ?_); apply k0; clear k0; simp only [zP, V])
  refine am ?_
  apply k27; clear k27; refine kp [1, 2, 4, 36, 37, 38, 46] ?_
  refine cd (fun hc28 => ?_) (fun hc28 => ?_)
  ·(try simp only [zB, reduceCtorEq] at hc28)
   have hg : iE m = true := Ap (k := k) (by omega) (by have h7 : (12 : Int) < ((m.ot.getD k []).length : Int) := hc28; omega)
   refine ai fun _ k29 => ?_
   refine ak hP hN rfl ?_
   (refine aj rfl fun _ k0 => ?_; simp only [zO, zT, acs, reduceCtorEq, aa, V, ad, ag, af, ae, Mly.av, ah]; (repeat refine an ?_); (try refine .inl ?_); apply k0; clear k0; simp only [zP, V])
   refine am ?_
   apply k29; clear k29; refine kp [1, 2, 4, 36, 37, 38, 46] ?_
   refine aB ?_
   refine ⟨nr, _, rfl, ?_⟩; simp only [zF, zP, aa, V, Mly.av, ah]
   refine VLE.of_eq ?_
   refine congrArg (fun b => AV.one (AC.bool b)) ?_
   symm
   first
   | exact hg
   | exact nZ hg0 hqN (fun q h => hqo q (by omega))
  (try simp only [zB, reduceCtorEq] at hc28)
  have hrow : (m.ot.getD k []).length ≤ 12 := by have h7 : ((m.ot.getD k []).length : Int) ≤ 12 := hc28; omega
  refine ax ?_
  apply k25; clear k25; refine kp [1, 2, 4, 36, 37, 38, 46] ?_
  refine ak hP hN rfl ?_
  iterate 2 (refine aj rfl fun _ k0 => ?_; simp only [zO, zT, acs, reduceCtorEq, aa, V, ad, ag, af, ae, Mly.av, ah]; (repeat refine an ?_); (try refine .inl ?_); apply k0; clear k0; simp only [zP, V])
  refine am ?_
  refine ⟨_, _, ?_, aw [1, 2, 36, 37], k + 1, by omega, fun q h => ?_, rfl, rfl⟩
  · omega
  · by_cases e : q = k
    · rw [e]; exact hrow
    · exact hqo q (by omega)
 (try simp only [zB, reduceCtorEq] at hc24)
 refine aX ?_
 apply k19; clear k19; refine kp [1, 2, 36, 37, 38] ?_
 refine ai fun _ k30 => ?_
 refine ak hP hN rfl ?_
 (refine aj rfl fun _ k0 => ?_; simp only [zO, zT, acs, reduceCtorEq, aa, V, ad, ag, af, ae, Mly.av, ah]; (repeat refine an ?_); (try refine .inl ?_); apply k0; clear k0; simp only [zP, V])
 refine am ?_
 apply k30; clear k30; refine kp [1, 2, 36, 37, 38] ?_
 refine aB ?_
 refine ⟨nr, _, rfl, ?_⟩; simp only [zF, zP, aa, V, Mly.av, ah]
 refine VLE.of_eq ?_
 refine congrArg (fun b => AV.one (AC.bool b)) ?_
 symm
 first
 | exact hg
 | exact nZ hg0 hqN (fun q h => hqo q (by omega))
theorem uW (m : Mly) : bZ Try.prog 9 [m.av] (.one (.bool (rQ m))) := by
 refine aU Try.func9 rfl (by kernel_rfl) (Nat.le_of_ble_eq_true rfl) rfl fun C hP hN hB => ?_
 replace hN : C.N = 17 := hN
 simp only [bg, V]
 refine ai fun _ k1 => ?_
 refine ak hP hN rfl ?_
 iterate 2 (refine aj rfl fun _ k0 => ?_; simp only [zO, zT, acs, reduceCtorEq, aa, V, ad, ag, af, ae, Mly.av]; (repeat refine an ?_); (try refine .inl ?_); apply k0; clear k0; simp only [zP, V])
 refine am ?_
 apply k1; clear k1; refine kp [0, 1, 2] ?_
 refine ai fun _ k2 => ?_
 refine ak hP hN rfl ?_
 (refine aj rfl fun _ k0 => ?_; simp only [zO, zT, acs, reduceCtorEq, aa, V, ad, ag, af, ae, Mly.av]; (repeat refine an ?_); (try refine .inl ?_); apply k0; clear k0; simp only [zP, V])
 refine aj rfl fun _ k0 => ?_
 refine aN (h := aA (uU m)) rfl rfl (by first | exact rfl | (simp only [ev, zP, aa, V]; exact rfl)) (by simp only [zV, acs, reduceCtorEq, aa, V, ad, ag, af, ae, Mly.av]) ?_
 apply k0; clear k0; simp only [zP, V]
 iterate 2 (refine aj rfl fun _ k0 => ?_; simp only [zO, zT, acs, reduceCtorEq, aa, V, ad, ag, af, ae, Mly.av]; (repeat refine an ?_); (try refine .inl ?_); apply k0; clear k0; simp only [zP, V])
 refine' aP (want := true) 4 rfl (m := 6) (by simp only [zP, aa, V]; exact rfl) (by kernel_rfl) rfl rfl rfl rfl rfl (fun hg3 => ?a3) ?b3 ?c3
 case a3 =>
  have hq3 := hg3; (try simp only [zB, reduceCtorEq] at hg3); simp only [zE]
  iterate 4 (refine bf rfl fun _ k0 => ?_; simp only [zO, zT, acs, reduceCtorEq, aa, V, ad, ag, af, ae, Mly.av]; (repeat refine an ?_); (try refine .inl ?_); apply k0; clear k0; simp only [zP, V])
  (refine aj rfl fun _ k0 => ?_; simp only [zO, zT, acs, reduceCtorEq, aa, V, ad, ag, af, ae, Mly.av]; (repeat refine an ?_); (try refine .inl ?_); apply k0; clear k0; simp only [zP, V])
  refine am ?_
  refine ⟨by simp only [zP, aa, V]; exact rfl, rfl, ?_, rfl⟩; (repeat refine aQ rfl ?_); exact bn (by exact rfl) hq3
 case b3 => exact cq
 simp only [b7, aT]
 (refine aj rfl fun _ k0 => ?_; simp only [zO, zT, acs, reduceCtorEq, aa, V, ad, ag, af, ae, Mly.av]; (repeat refine an ?_); (try refine .inl ?_); apply k0; clear k0; simp only [zP, V])
 refine' aP (want := true) 3 rfl (m := 12) (by simp only [zP, aa, V]; exact rfl) (by kernel_rfl) rfl rfl rfl rfl rfl (fun hg4 => ?a4) ?b4 ?c4
 case a4 =>
  have hq4 := hg4; (try simp only [zB, reduceCtorEq] at hg4); simp only [zE]
  iterate 3 (refine bf rfl fun _ k0 => ?_; simp only [zO, zT, acs, reduceCtorEq, aa, V, ad, ag, af, ae, Mly.av]; (repeat refine an ?_); (try refine .inl ?_); apply k0; clear k0; simp only [zP, V])
  (refine aj rfl fun _ k0 => ?_; simp only [zO, zT, acs, reduceCtorEq, aa, V, ad, ag, af, ae, Mly.av]; (repeat refine an ?_); (try refine .inl ?_); apply k0; clear k0; simp only [zP, V])
  refine am ?_
  refine ⟨by simp only [zP, aa, V]; exact rfl, rfl, ?_, rfl⟩; (repeat refine aQ rfl ?_); exact bn (by exact rfl) hq4
 case b4 => exact cq
 simp only [b7, aT]
 (refine aj rfl fun _ k0 => ?_; simp only [zO, zT, acs, reduceCtorEq, aa, V, ad, ag, af, ae, Mly.av]; (repeat refine an ?_); (try refine .inl ?_); apply k0; clear k0; simp only [zP, V])
 refine am ?_
 apply k2; clear k2; refine kp [0, 1, 2] ?_
 refine aB ?_
 refine ⟨nr, _, rfl, ?_⟩; simp only [zF, zP, aa, V, Mly.av]
 refine VLE.of_eq ?_
 refine congrArg (fun b => AV.one (AC.bool b)) ?_
 unfold rQ
 rw [show decide ((m.nx.length : Int) ≤ 8) = decide (m.nx.length ≤ 8) by rw [decide_eq_decide]; omega]
set_option maxHeartbeats 1000000 in
theorem zL (m : Mly) : bZ Try.prog 6 [m.av] (.one (.bool true)) := by
 refine aU Try.func6 rfl (by kernel_rfl) (Nat.le_of_ble_eq_true rfl) rfl fun C hP hN hB => ?_
 replace hN : C.N = 59 := hN
 simp only [bg, V]
 refine ai fun _ k1 => ?_
 refine ak hP hN rfl ?_
 iterate 2 (refine aj rfl fun _ k0 => ?_; simp only [zO, zT, acs, reduceCtorEq, aa, V, ad, ag, af, ae, Mly.av]; (repeat refine an ?_); (try refine .inl ?_); apply k0; clear k0; simp only [zP, V])
 refine am ?_
 apply k1; clear k1; refine kp [0, 1, 2] ?_
 refine ai fun _ k2 => ?_
 refine ai fun _ k3 => ?_
 refine ak hP hN rfl ?_
 (refine aj rfl fun _ k0 => ?_; simp only [zO, zT, acs, reduceCtorEq, aa, V, ad, ag, af, ae, Mly.av]; (repeat refine an ?_); (try refine .inl ?_); apply k0; clear k0; simp only [zP, V])
 refine aj rfl fun _ k0 => ?_
 refine aN (h := aA (uW m)) rfl rfl (by first | exact rfl | (simp only [ev, zP, aa, V]; exact rfl)) (by simp only [zV, acs, reduceCtorEq, aa, V, ad, ag, af, ae, Mly.av]) ?_
 apply k0; clear k0; simp only [zP, V]
 iterate 2 (refine aj rfl fun _ k0 => ?_; simp only [zO, zT, acs, reduceCtorEq, aa, V, ad, ag, af, ae, Mly.av]; (repeat refine an ?_); (try refine .inl ?_); apply k0; clear k0; simp only [zP, V])
 refine' aP (want := false) 4 rfl (m := 11) (by simp only [zP, aa, V]; exact rfl) (by kernel_rfl) rfl rfl rfl rfl rfl (fun hg4 => ?a4) ?b4 ?c4
 case a4 =>
  have hq4 := hg4; (try simp only [zB, reduceCtorEq] at hg4); simp only [zE]
  iterate 4 (refine bf rfl fun _ k0 => ?_; simp only [zO, zT, acs, reduceCtorEq, aa, V, ad, ag, af, ae, Mly.av]; (repeat refine an ?_); (try refine .inl ?_); apply k0; clear k0; simp only [zP, V])
  (refine aj rfl fun _ k0 => ?_; simp only [zO, zT, acs, reduceCtorEq, aa, V, ad, ag, af, ae, Mly.av]; (repeat refine an ?_); (try refine .inl ?_); apply k0; clear k0; simp only [zP, V])
  refine am ?_
  refine ⟨by simp only [zP, aa, V]; exact rfl, rfl, ?_, rfl⟩; (repeat refine aQ rfl ?_); exact bn (by exact rfl) hq4
 case b4 => exact cq
 simp only [b7, aT]
 (refine aj rfl fun _ k0 => ?_; simp only [zO, zT, acs, reduceCtorEq, aa, V, ad, ag, af, ae, Mly.av]; (repeat refine an ?_); (try refine .inl ?_); apply k0; clear k0; simp only [zP, V])
 refine' aP (want := false) 3 rfl (m := 17) (by simp only [zP, aa, V]; exact rfl) (by kernel_rfl) rfl rfl rfl rfl rfl (fun hg5 => ?a5) ?b5 ?c5
 case a5 =>
  have hq5 := hg5; (try simp only [zB, reduceCtorEq] at hg5); simp only [zE]
  iterate 3 (refine bf rfl fun _ k0 => ?_; simp only [zO, zT, acs, reduceCtorEq, aa, V, ad, ag, af, ae, Mly.av]; (repeat refine an ?_); (try refine .inl ?_); apply k0; clear k0; simp only [zP, V])
  (refine aj rfl fun _ k0 => ?_; simp only [zO, zT, acs, reduceCtorEq, aa, V, ad, ag, af, ae, Mly.av]; (repeat refine an ?_); (try refine .inl ?_); apply k0; clear k0; simp only [zP, V])
  refine am ?_
  refine ⟨by simp only [zP, aa, V]; exact rfl, rfl, ?_, rfl⟩; (repeat refine aQ rfl ?_); exact bn (by exact rfl) hq5
 case b5 => exact cq
 simp only [b7, aT]
 (refine aj rfl fun _ k0 => ?_; simp only [zO, zT, acs, reduceCtorEq, aa, V, ad, ag, af, ae, Mly.av]; (repeat refine an ?_); (try refine .inl ?_); apply k0; clear k0; simp only [zP, V])
 refine' aP (want := false) 3 rfl (m := 22) (by simp only [zP, aa, V]; exact rfl) (by kernel_rfl) rfl rfl rfl rfl rfl (fun hg6 => ?a6) ?b6 ?c6
 case a6 =>
  have hq6 := hg6; (try simp only [zB, reduceCtorEq] at hg6); simp only [zE]
  (refine bf rfl fun _ k0 => ?_; simp only [zO, zT, acs, reduceCtorEq, aa, V, ad, ag, af, ae, Mly.av]; (repeat refine an ?_); (try refine .inl ?_); apply k0; clear k0; simp only [zP, V])
  refine bf rfl fun _ k0 => ?_
  refine aN (h := aA (xJ m)) rfl rfl (by first | exact rfl | (simp only [ev, zP, aa, V]; exact rfl)) (by simp only [zV, acs, reduceCtorEq, aa, V, ad, ag, af, ae, Mly.av]) ?_
  apply k0; clear k0; simp only [zP, V]
  (refine bf rfl fun _ k0 => ?_; simp only [zO, zT, acs, reduceCtorEq, aa, V, ad, ag, af, ae, Mly.av]; (repeat refine an ?_); (try refine .inl ?_); apply k0; clear k0; simp only [zP, V])
  (refine aj rfl fun _ k0 => ?_; simp only [zO, zT, acs, reduceCtorEq, aa, V, ad, ag, af, ae, Mly.av]; (repeat refine an ?_); (try refine .inl ?_); apply k0; clear k0; simp only [zP, V])
  refine am ?_
  refine ⟨by simp only [zP, aa, V]; exact rfl, rfl, ?_, rfl⟩; (repeat refine aQ rfl ?_); exact bn (by exact rfl) hq6
 case b6 => exact cq
 simp only [b7, aT]
 refine am ?_
 apply k3; clear k3; refine kp [0, 1, 2, 26] ?_
 refine cd (fun hc7 => ?_) (fun hc7 => ?_)
 ·(try simp only [zB, reduceCtorEq] at hc7)
  refine ai fun _ k8 => ?_
  refine ak hP hN rfl ?_
  refine aj rfl fun _ k0 => ?_
  refine aN (h := aA wc) rfl rfl (by first | exact rfl | (simp only [ev, zP, aa, V]; exact rfl)) (by simp only [zV, acs, reduceCtorEq, aa, V, ad, ag, af, ae, Mly.av]) ?_
  apply k0; clear k0; simp only [zP, V]
  (refine aj rfl fun _ k0 => ?_; simp only [zO, zT, acs, reduceCtorEq, aa, V, ad, ag, af, ae, Mly.av]; (repeat refine an ?_); (try refine .inl ?_); apply k0; clear k0; simp only [zP, V])
  refine am ?_
  apply k8; clear k8; refine kp [0, 1, 2, 26] ?_
  refine aB ?_
  refine ⟨nr, _, rfl, ?_⟩; simp only [zF, zP, aa, V, Mly.av]
  refine VLE.of_eq ?_
  first | rfl | (refine congrArg (fun b => AV.one (AC.bool b)) ?_; rw [hl1]; cases hq : dt m 4 (rgI m.nx.length) with | true => rw [hl2 hq]; rfl | false => simp)
 (try simp only [zB, reduceCtorEq] at hc7)
 have hk := wj hc7.1.1.1 hc7.2
 have hn5 : m.nx.length ≤ 5 := by have h9 : (m.nx.length : Int) ≤ 5 := hc7.1.1.2; omega
 obtain ⟨hl1, hl2⟩ := tW hc7.1.1.1 hn5 hc7.2
 refine ax ?_
 apply k2; clear k2; refine kp [0, 1, 2, 26] ?_
 refine ai fun _ k9 => ?_
 refine ak hP hN rfl ?_
 (refine aj rfl fun _ k0 => ?_; simp only [zO, zT, acs, reduceCtorEq, aa, V, ad, ag, af, ae, Mly.av]; (repeat refine an ?_); (try refine .inl ?_); apply k0; clear k0; simp only [zP, V])
 refine aj rfl fun _ k0 => ?_
 refine aN (h := aA (mM m)) rfl rfl (by first | exact rfl | (simp only [ev, zP, aa, V]; exact rfl)) (by simp only [zV, acs, reduceCtorEq, aa, V, ad, ag, af, ae, Mly.av]) ?_
 apply k0; clear k0; simp only [zP, V]
 iterate 8 (refine aj rfl fun _ k0 => ?_; simp only [zO, zT, acs, reduceCtorEq, aa, V, ad, ag, af, ae, Mly.av]; (repeat refine an ?_); (try refine .inl ?_); apply k0; clear k0; simp only [zP, V])
 refine am ?_
 apply k9; clear k9; refine kp [0, 1, 2, 4, 5, 26] ?_
 refine ai fun _ k10 => ?_
 refine ak hP hN rfl ?_
 (refine aj rfl fun _ k0 => ?_; simp only [zO, zT, acs, reduceCtorEq, aa, V, ad, ag, af, ae, Mly.av]; (repeat refine an ?_); (try refine .inl ?_); apply k0; clear k0; simp only [zP, V])
 refine am ?_
 apply k10; clear k10; refine kp [0, 1, 2, 4, 5, 6, 26] ?_
 refine ai fun _ k11 => ?_
 refine ai fun _ k12 => ?_
 refine ak hP hN rfl ?_
 iterate 4 (refine aj rfl fun _ k0 => ?_; simp only [zO, zT, acs, reduceCtorEq, aa, V, ad, ag, af, ae, Mly.av]; (repeat refine an ?_); (try refine .inl ?_); apply k0; clear k0; simp only [zP, V])
 refine am ?_
 apply k12; clear k12; refine kp [0, 1, 2, 4, 5, 6, 26, 36, 37] ?_
 refine ay ?_
 refine fM 6 (.int .i64) 3 (by decide) rfl ?_; simp only [au, aE, aM, ba, Nat.zero_add, V]
 refine bb (fun n13 s13 => ∃ (i : Nat) (v : Nat), (i ≤ m.nx.length) ∧ n13 = m.nx.length - i ∧ s13 = { env := [(1, .one (.ptr 0 0 0 0)), (2, .one (.bool false)), (4, .one (.bool (iP m))), (5, .one (.int .i64 (di m))), (6, .one (.row 2 v)), (36, .one (.int .i64 (m.nx.length : Int))), (37, .one (.int .i64 (i : Int)))], L := [.vars 24 [.int .i64 m.inp, .int .i64 m.st, .list (.list (.int .i64)) m.nx, .list (.list (.int .i64)) m.ot], .vars 29 [.list ndT (gM m)], .row (.int .i64) 3 v (rgI i)] }) ?_ ?_
 ·exact ⟨_, _, aw [1, 2, 4, 5, 6, 36, 37], 0, 0, Nat.zero_le _, rfl, rfl⟩
 rintro n13 s13 ⟨i, v, hi, rfl, rfl⟩
 refine ai fun _ k14 => ?_
 refine ak hP hN rfl ?_
 (refine aj rfl fun _ k0 => ?_; simp only [zO, zT, acs, reduceCtorEq, aa, V, ad, ag, af, ae, Mly.av]; (repeat refine an ?_); (try refine .inl ?_); apply k0; clear k0; simp only [zP, V])
 refine am ?_
 apply k14; clear k14; refine kp [1, 2, 4, 5, 6, 36, 37, 38] ?_
 refine ai fun _ k15 => ?_
 refine cd (fun hc16 => ?_) (fun hc16 => ?_)
 ·(try simp only [zB, reduceCtorEq] at hc16)
  refine ax ?_
  apply k15; clear k15; refine kp [1, 2, 4, 5, 6, 36, 37, 38] ?_
  refine ai fun _ k17 => ?_
  refine ay ?_
  refine ai fun _ k18 => ?_
  refine ak hP hN rfl ?_
  iterate 2 (refine aj rfl fun _ k0 => ?_; simp only [zO, zT, acs, reduceCtorEq, aa, V, ad, ag, af, ae, Mly.av]; (repeat refine an ?_); (try refine .inl ?_); apply k0; clear k0; simp only [zP, V])
  refine am ?_
  apply k18; clear k18; refine kp [1, 2, 4, 5, 6, 7, 36, 37, 38] ?_
  have hrl := db i
  refine ak hP hN rfl ?_
  iterate 5 (refine aj rfl fun _ k0 => ?_; simp only [zO, zT, acs, reduceCtorEq, aa, V, ad, ag, af, ae, Mly.av]; (repeat refine an ?_); (try refine .inl ?_); apply k0; clear k0; simp only [zP, V])
  refine am ?_
  apply k17; clear k17; refine kp [1, 2, 4, 5, 6, 7, 36, 37, 38] ?_
  refine ak hP hN rfl ?_
  iterate 2 (refine aj rfl fun _ k0 => ?_; simp only [zO, zT, acs, reduceCtorEq, aa, V, ad, ag, af, ae, Mly.av]; (repeat refine an ?_); (try refine .inl ?_); apply k0; clear k0; simp only [zP, V])
  refine am ?_
  refine ⟨_, _, ?_, aw [1, 2, 4, 5, 6, 36, 37], i + 1, v + 1, by omega, rfl, ?_⟩
  · omega
  · rw [show rgI (i + 1) = rgI i ++ [(i : Int)] by unfold rgI; rw [List.range_succ, List.map_append]; rfl]; rfl
 (try simp only [zB, reduceCtorEq] at hc16)
 refine aX ?_
 apply k11; clear k11; refine kp [1, 2, 4, 5, 6, 36, 37, 38] ?_
 refine ai fun _ k19 => ?_
 refine cO 2 rfl ?_; simp only [aF, bl, zS, aa, and_self, and_true, true_and, and_false, false_and, if_true, if_false, eq_self, reduceCtorEq, Nat.one_ne_zero, Nat.zero_ne_one]
 have hin : i = m.nx.length := by omega
 rw [hin]
 refine ak hP hN rfl ?_
 iterate 3 (refine aj rfl fun _ k0 => ?_; simp only [zO, zT, acs, reduceCtorEq, aa, V, ad, ag, af, ae, Mly.av]; (repeat refine an ?_); (try refine .inl ?_); apply k0; clear k0; simp only [zP, V])
 refine' aP (want := true) 7 rfl (m := 47) (by simp only [zP, aa, V]; exact rfl) (by kernel_rfl) rfl rfl rfl rfl rfl (fun hg20 => ?a20) ?b20 ?c20
 case a20 =>
  have hq20 := hg20; (try simp only [zB, reduceCtorEq] at hg20); simp only [zE]
  iterate 2 (refine bf rfl fun _ k0 => ?_; simp only [zO, zT, acs, reduceCtorEq, aa, V, ad, ag, af, ae, Mly.av]; (repeat refine an ?_); (try refine .inl ?_); apply k0; clear k0; simp only [zP, V])
  refine' aP (want := false) 4 rfl (m := 49) (by simp only [zP, aa, V]; exact rfl) (by kernel_rfl) rfl rfl rfl rfl rfl (fun hg21 => ?a21) ?b21 ?c21
  case a21 =>
   have hq21 := hg21; (try simp only [zB, reduceCtorEq] at hg21); simp only [zE]
   iterate 2 (refine bf rfl fun _ k0 => ?_; simp only [zO, zT, acs, reduceCtorEq, aa, V, ad, ag, af, ae, Mly.av]; (repeat refine an ?_); (try refine .inl ?_); apply k0; clear k0; simp only [zP, V])
   refine bf rfl fun _ k0 => ?_
   refine aN (h := aA (sd m hk)) rfl rfl (by first | exact rfl | (simp only [ev, zP, aa, V]; exact rfl)) (by simp only [zV, acs, reduceCtorEq, aa, V, ad, ag, af, ae, Mly.av]) ?_
   apply k0; clear k0; simp only [zP, V]
   iterate 2 (refine bf rfl fun _ k0 => ?_; simp only [zO, zT, acs, reduceCtorEq, aa, V, ad, ag, af, ae, Mly.av]; (repeat refine an ?_); (try refine .inl ?_); apply k0; clear k0; simp only [zP, V])
   refine am ?_
   refine ⟨by simp only [zP, aa, V]; exact rfl, rfl, ?_, rfl⟩; (repeat refine aQ rfl ?_); exact bn (by exact rfl) hq21
  case b21 => exact cq
  simp only [b7, aT]
  (refine aj rfl fun _ k0 => ?_; simp only [zO, zT, acs, reduceCtorEq, aa, V, ad, ag, af, ae, Mly.av]; (repeat refine an ?_); (try refine .inl ?_); apply k0; clear k0; simp only [zP, V])
  refine am ?_
  refine ⟨by simp only [zP, aa, V]; exact rfl, rfl, ?_, rfl⟩; (repeat refine aQ rfl ?_); exact bn (by exact rfl) hq20
 case b20 => exact cq
 simp only [b7, aT]
 (refine aj rfl fun _ k0 => ?_; simp only [zO, zT, acs, reduceCtorEq, aa, V, ad, ag, af, ae, Mly.av]; (repeat refine an ?_); (try refine .inl ?_); apply k0; clear k0; simp only [zP, V])
 refine' aP (want := true) 1 rfl (m := 56) (by simp only [zP, aa, V]; exact rfl) (by kernel_rfl) rfl rfl rfl rfl rfl (fun hg22 => ?a22) ?b22 ?c22
 case a22 =>
  have hq22 := hg22; (try simp only [zB, reduceCtorEq] at hg22); simp only [zE]
  refine bf rfl fun _ k0 => ?_
  refine aN (h := aA wc) rfl rfl (by first | exact rfl | (simp only [ev, zP, aa, V]; exact rfl)) (by simp only [zV, acs, reduceCtorEq, aa, V, ad, ag, af, ae, Mly.av]) ?_
  apply k0; clear k0; simp only [zP, V]
  (refine aj rfl fun _ k0 => ?_; simp only [zO, zT, acs, reduceCtorEq, aa, V, ad, ag, af, ae, Mly.av]; (repeat refine an ?_); (try refine .inl ?_); apply k0; clear k0; simp only [zP, V])
  refine am ?_
  refine ⟨by simp only [zP, aa, V]; exact rfl, rfl, ?_, rfl⟩; (repeat refine aQ rfl ?_); exact bn (by exact rfl) hq22
 case b22 => exact cq
 simp only [b7, aT]
 (refine aj rfl fun _ k0 => ?_; simp only [zO, zT, acs, reduceCtorEq, aa, V, ad, ag, af, ae, Mly.av]; (repeat refine an ?_); (try refine .inl ?_); apply k0; clear k0; simp only [zP, V])
 refine am ?_
 apply k19; clear k19; refine kp [1, 2, 4, 5, 6, 36, 37, 38] ?_
 refine aB ?_
 refine ⟨nr, _, rfl, ?_⟩; simp only [zF, zP, aa, V, Mly.av]
 refine VLE.of_eq ?_
 first | rfl | (refine congrArg (fun b => AV.one (AC.bool b)) ?_; rw [hl1]; cases hq : dt m 4 (rgI m.nx.length) with | true => rw [hl2 hq]; rfl | false => simp)
end Go.Proofs.Ytoahhklogohehaa
