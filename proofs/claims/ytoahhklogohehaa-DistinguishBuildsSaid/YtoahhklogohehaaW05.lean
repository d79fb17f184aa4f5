/- Contracts of functions of this seat, each out of a walk through its code, and plain facts on what they compute. Conditions: those that each theorem names. -/
import Derived.Test.YtoahhklogohehaaW04
set_option linter.unusedSimpArgs false
set_option linter.unusedVariables false
set_option maxRecDepth 100000
namespace Go.Proofs.Ytoahhklogohehaa
open Go Go.AV
open Nat renaming reduceEqDiff → aa, reduceAdd → V, reduceLeDiff → ad, reduceLT → ag, reduceMul → af, reduceSub → ae
open List renaming set_cons_zero → cT, set_cons_succ → cC, getD_cons_zero → ar, length_append → aq, map_cons → aJ, cons_append → aH, map_nil → bg, length_cons → au, nil_append → aZ, take_succ_cons → dQ, length_nil → aC, length_map → aD, length_replicate → bp, take_length → aE, mem_cons_self → aO, mem_cons_of_mem → aL
open Int renaming toNat_natCast → ah
set_option maxHeartbeats 1500000 in
theorem qx (T U : List aX) (hT : T.length ≤ 100000) (hK : ∀ x ∈ T, x.2.2.1.length ≤ 1000000) : c7 Try.prog 13 [.agg [.list ndT T], .agg [.list ndT U]] (.one (.bool (decide (T = U)))) := by
 refine aS Try.func13 rfl (by kernel_rfl) (Nat.le_of_ble_eq_true rfl) rfl fun C hP hN hB => ?_
 replace hN : C.N = 73 := hN
 simp only [bc, V]
 refine ai fun _ k1 => ?_
 refine ak hP hN rfl ?_
 iterate 3 (refine aj rfl fun _ k0 => ?_; simp only [zO, zT, acs, reduceCtorEq, aa, V, ad, ag, af, ae, ah, aI, aP, aM, ar]; (repeat refine And.intro (by first | omega | assumption | exact rfl | exact hkX | exact hkY) ?_); (try refine .inl ?_); apply k0; clear k0; simp only [zP, V])
 refine am ?_
 apply k1; clear k1; refine kp [0, 1, 2, 3, 4] ?_
 refine ai fun _ k2 => ?_
 refine ai fun _ k3 => ?_
 refine ak hP hN rfl ?_
 iterate 7 (refine aj rfl fun _ k0 => ?_; simp only [zO, zT, acs, reduceCtorEq, aa, V, ad, ag, af, ae, ah, aI, aP, aM, ar]; (repeat refine And.intro (by first | omega | assumption | exact rfl | exact hkX | exact hkY) ?_); (try refine .inl ?_); apply k0; clear k0; simp only [zP, V])
 refine am ?_
 apply k3; clear k3; refine kp [0, 1, 2, 3, 4, 15] ?_
 refine cd (fun hc4 => ?_) (fun hc4 => ?_)
 ·(try simp only [zB, reduceCtorEq] at hc4)
  have hno : ¬ T = U := fun e => hc4 (by rw [e])
  refine ai fun _ k5 => ?_
  refine ak hP hN rfl ?_
  (refine aj rfl fun _ k0 => ?_; simp only [zO, zT, acs, reduceCtorEq, aa, V, ad, ag, af, ae, ah, aI, aP, aM, ar]; (repeat refine And.intro (by first | omega | assumption | exact rfl | exact hkX | exact hkY) ?_); (try refine .inl ?_); apply k0; clear k0; simp only [zP, V])
  refine am ?_
  apply k5; clear k5; refine kp [0, 1, 2, 3, 4, 15] ?_
  refine aG ?_
  refine ⟨nr, _, rfl, ?_⟩; simp only [zF, zP, aa, V, ah, aI, aP, aM, ar]
  refine VLE.of_eq ?_
  refine congrArg (fun b => AV.one (AC.bool b)) ?_
  symm
  first
  | exact decide_eq_false hno
  | exact decide_eq_true (mC hll (fun q hq => hu q (by omega)))
 (try simp only [zB, reduceCtorEq] at hc4)
 have hll : T.length = U.length := by omega
 refine ay ?_
 apply k2; clear k2; refine kp [0, 1, 2, 3, 4, 15] ?_
 refine ai fun _ k6 => ?_
 refine ai fun _ k7 => ?_
 refine ak hP hN rfl ?_
 (refine aj rfl fun _ k0 => ?_; simp only [zO, zT, acs, reduceCtorEq, aa, V, ad, ag, af, ae, ah, aI, aP, aM, ar]; (repeat refine And.intro (by first | omega | assumption | exact rfl | exact hkX | exact hkY) ?_); (try refine .inl ?_); apply k0; clear k0; simp only [zP, V])
 refine am ?_
 apply k7; clear k7; refine kp [0, 1, 2, 3, 4, 5, 15] ?_
 refine az ?_
 refine ba (fun n8 s8 => ∃ (i : Nat), (i ≤ T.length) ∧ (∀ q, q < i → T.getD q nd0 = U.getD q nd0) ∧ n8 = T.length - i ∧ s8 = { env := [(2, .one (.ptr 0 0 0 0)), (3, .one (.ptr 1 0 0 0)), (4, .one (.bool false)), (5, .one (.int .i64 (i : Int)))], L := [.vars 29 [.list ndT T], .vars 29 [.list ndT U]] }) ?_ ?_
 ·exact ⟨_, _, ax [2, 3, 4, 5], 0, Nat.zero_le _, fun q h => by omega, rfl, rfl⟩
 rintro n8 s8 ⟨i, hi, hu, rfl, rfl⟩
 refine ai fun _ k9 => ?_
 refine ai fun _ k10 => ?_
 refine ak hP hN rfl ?_
 iterate 5 (refine aj rfl fun _ k0 => ?_; simp only [zO, zT, acs, reduceCtorEq, aa, V, ad, ag, af, ae, ah, aI, aP, aM, ar]; (repeat refine And.intro (by first | omega | assumption | exact rfl | exact hkX | exact hkY) ?_); (try refine .inl ?_); apply k0; clear k0; simp only [zP, V])
 refine am ?_
 apply k10; clear k10; refine kp [2, 3, 4, 5, 20] ?_
 refine cd (fun hc11 => ?_) (fun hc11 => ?_)
 ·(try simp only [zB, reduceCtorEq] at hc11)
  refine ay ?_
  apply k9; clear k9; refine kp [2, 3, 4, 5, 20] ?_
  refine ai fun _ k12 => ?_
  refine az ?_
  refine ai fun _ k13 => ?_
  refine kz ?_; simp only [aH, List.append_assoc, aZ]
  refine kz ?_; simp only [aH, List.append_assoc, aZ]
  refine bf hP hN Try.mixed rfl ?_
  iterate 10 (refine aj rfl fun _ k0 => ?_; simp only [zO, zT, acs, reduceCtorEq, aa, V, ad, ag, af, ae, ah, aI, aP, aM, ar]; (repeat refine And.intro (by first | omega | assumption | exact rfl | exact hkX | exact hkY) ?_); (try refine .inl ?_); apply k0; clear k0; simp only [zP, V])
  (refine aj rfl fun _ k0 => ?_; simp only [zO, zT, acs, reduceCtorEq, aa, V, ad, ag, af, ae, ah, aI, aP, aM, ar]; refine Or.inr (Or.inl ⟨2, ?_, ndT, nd0, ?_⟩); (exact rfl); (repeat refine And.intro (by first | rfl | decide) ?_); refine k0 _ ?_; clear k0; simp only [zP, V])
  (refine aj rfl fun _ k0 => ?_; simp only [zO, zT, acs, reduceCtorEq, aa, V, ad, ag, af, ae, ah, aI, aP, aM, ar]; refine Or.inr (Or.inl ⟨3, ?_, ndT, nd0, ?_⟩); (exact rfl); (repeat refine And.intro (by first | rfl | decide) ?_); refine k0 _ ?_; clear k0; simp only [zP, V])
  iterate 2 (refine aj rfl fun _ k0 => ?_; simp only [zO, zT, acs, reduceCtorEq, aa, V, ad, ag, af, ae, ah, aI, aP, aM, ar]; (repeat refine And.intro (by first | omega | assumption | exact rfl | exact hkX | exact hkY) ?_); (try refine .inl ?_); apply k0; clear k0; simp only [zP, V])
  refine am ?_
  refine ⟨by kernel_rfl, ?_⟩
  apply k13; clear k13; refine kp [2, 3, 4, 5, 6, 7, 20] ?_
  refine ai fun _ k14 => ?_
  refine ai fun _ k15 => ?_
  have hil : i < T.length := by omega
  have hkm : (T.getD i nd0) ∈ T := by simp [List.getD, hil]
  have hkl := hK _ hkm
  refine ak hP hN rfl ?_
  iterate 6 (refine aj rfl fun _ k0 => ?_; simp only [zO, zT, acs, reduceCtorEq, aa, V, ad, ag, af, ae, ah, aI, aP, aM, ar]; (repeat refine And.intro (by first | omega | assumption | exact rfl | exact hkX | exact hkY) ?_); (try refine .inl ?_); apply k0; clear k0; simp only [zP, V])
  refine' aT (want := false) 6 rfl (m := 38) (by simp only [zP, aa, V]; exact rfl) (by kernel_rfl) rfl rfl rfl rfl rfl (fun hg16 => ?a16) ?b16 ?c16
  case a16 =>
   have hq16 := hg16; (try simp only [zB, reduceCtorEq] at hg16); simp only [zE]
   iterate 4 (refine bo rfl fun _ k0 => ?_; simp only [zO, zT, acs, reduceCtorEq, aa, V, ad, ag, af, ae, ah, aI, aP, aM, ar]; (repeat refine And.intro (by first | omega | assumption | exact rfl | exact hkX | exact hkY) ?_); (try refine .inl ?_); apply k0; clear k0; simp only [zP, V])
   refine bo rfl fun _ k0 => ?_
   refine aK (h := aB (AZ (T.getD i nd0).1 (U.getD i nd0).1)) rfl rfl (by first | exact rfl | (simp only [ev, zP, aa, V]; exact rfl)) (by simp only [zV, acs, reduceCtorEq, aa, V, ad, ag, af, ae, ah, aI, aP, aM, ar]) ?_
   apply k0; clear k0; simp only [zP, V]
   (refine bo rfl fun _ k0 => ?_; simp only [zO, zT, acs, reduceCtorEq, aa, V, ad, ag, af, ae, ah, aI, aP, aM, ar]; (repeat refine And.intro (by first | omega | assumption | exact rfl | exact hkX | exact hkY) ?_); (try refine .inl ?_); apply k0; clear k0; simp only [zP, V])
   (refine aj rfl fun _ k0 => ?_; simp only [zO, zT, acs, reduceCtorEq, aa, V, ad, ag, af, ae, ah, aI, aP, aM, ar]; (repeat refine And.intro (by first | omega | assumption | exact rfl | exact hkX | exact hkY) ?_); (try refine .inl ?_); apply k0; clear k0; simp only [zP, V])
   refine am ?_
   refine ⟨by simp only [zP, aa, V]; exact rfl, rfl, ?_, rfl⟩; (repeat refine aU rfl ?_); exact bu (by exact rfl) hq16
  case b16 => exact cJ
  simp only [bj, b6]
  (refine aj rfl fun _ k0 => ?_; simp only [zO, zT, acs, reduceCtorEq, aa, V, ad, ag, af, ae, ah, aI, aP, aM, ar]; (repeat refine And.intro (by first | omega | assumption | exact rfl | exact hkX | exact hkY) ?_); (try refine .inl ?_); apply k0; clear k0; simp only [zP, V])
  refine' aT (want := false) 7 rfl (m := 46) (by simp only [zP, aa, V]; exact rfl) (by kernel_rfl) rfl rfl rfl rfl rfl (fun hg17 => ?a17) ?b17 ?c17
  case a17 =>
   have hq17 := hg17; (try simp only [zB, reduceCtorEq] at hg17); simp only [zE]
   iterate 7 (refine bo rfl fun _ k0 => ?_; simp only [zO, zT, acs, reduceCtorEq, aa, V, ad, ag, af, ae, ah, aI, aP, aM, ar]; (repeat refine And.intro (by first | omega | assumption | exact rfl | exact hkX | exact hkY) ?_); (try refine .inl ?_); apply k0; clear k0; simp only [zP, V])
   (refine aj rfl fun _ k0 => ?_; simp only [zO, zT, acs, reduceCtorEq, aa, V, ad, ag, af, ae, ah, aI, aP, aM, ar]; (repeat refine And.intro (by first | omega | assumption | exact rfl | exact hkX | exact hkY) ?_); (try refine .inl ?_); apply k0; clear k0; simp only [zP, V])
   refine am ?_
   refine ⟨by simp only [zP, aa, V]; exact rfl, rfl, ?_, rfl⟩; (repeat refine aU rfl ?_); exact bu (by exact rfl) hq17
  case b17 => exact cJ
  simp only [bj, b6]
  refine am ?_
  apply k15; clear k15; refine kp [2, 3, 4, 5, 6, 7, 20, 54] ?_
  refine cd (fun hc18 => ?_) (fun hc18 => ?_)
  ·(try simp only [zB, reduceCtorEq] at hc18)
   have hno : ¬ T = U := xi (i := i) (fun e => Or.elim hc18 (fun h9 => Or.elim h9 (fun h8 => h8 (by show (T.getD i nd0).2.1 = (U.getD i nd0).2.1; rw [e])) (fun h8 => h8 (by show (T.getD i nd0).1 = (U.getD i nd0).1; rw [e]))) (fun h9 => h9 (by show ((T.getD i nd0).2.2.1.length : Int) = ((U.getD i nd0).2.2.1.length : Int); rw [e])))
   refine ai fun _ k19 => ?_
   refine ak hP hN rfl ?_
   (refine aj rfl fun _ k0 => ?_; simp only [zO, zT, acs, reduceCtorEq, aa, V, ad, ag, af, ae, ah, aI, aP, aM, ar]; (repeat refine And.intro (by first | omega | assumption | exact rfl | exact hkX | exact hkY) ?_); (try refine .inl ?_); apply k0; clear k0; simp only [zP, V])
   refine am ?_
   apply k19; clear k19; refine kp [2, 3, 4, 5, 6, 7, 20, 54] ?_
   refine aG ?_
   refine ⟨nr, _, rfl, ?_⟩; simp only [zF, zP, aa, V, ah, aI, aP, aM, ar]
   refine VLE.of_eq ?_
   refine congrArg (fun b => AV.one (AC.bool b)) ?_
   symm
   first
   | exact decide_eq_false hno
   | exact decide_eq_true (mC hll (fun q hq => hu q (by omega)))
  (try simp only [zB, reduceCtorEq] at hc18)
  have hx1 : (T.getD i nd0).2.1 = (U.getD i nd0).2.1 := hc18.1.1
  have hx2 : (T.getD i nd0).1 = (U.getD i nd0).1 := hc18.1.2
  have hx3 : (T.getD i nd0).2.2.1.length = (U.getD i nd0).2.2.1.length := by have h9 : ((T.getD i nd0).2.2.1.length : Int) = ((U.getD i nd0).2.2.1.length : Int) := hc18.2; omega
  refine ay ?_
  apply k14; clear k14; refine kp [2, 3, 4, 5, 6, 7, 20, 54] ?_
  refine ai fun _ k20 => ?_
  refine ak hP hN rfl ?_
  (refine aj rfl fun _ k0 => ?_; simp only [zO, zT, acs, reduceCtorEq, aa, V, ad, ag, af, ae, ah, aI, aP, aM, ar]; (repeat refine And.intro (by first | omega | assumption | exact rfl | exact hkX | exact hkY) ?_); (try refine .inl ?_); apply k0; clear k0; simp only [zP, V])
  refine am ?_
  apply k20; clear k20; refine kp [2, 3, 4, 5, 6, 7, 8, 20, 54] ?_
  refine az ?_
  refine ba (fun n21 s21 => ∃ (j : Nat), (j ≤ (T.getD i nd0).2.2.1.length) ∧ (∀ q, q < j → (T.getD i nd0).2.2.1.getD q kd0 = (U.getD i nd0).2.2.1.getD q kd0) ∧ n21 = (T.getD i nd0).2.2.1.length - j ∧ s21 = { env := [(2, .one (.ptr 0 0 0 0)), (3, .one (.ptr 1 0 0 0)), (4, .one (.bool false)), (5, .one (.int .i64 (i : Int))), (6, .one (.ptr 2 1 0 0)), (7, .one (.ptr 3 1 0 0)), (8, .one (.int .i64 (j : Int))), (20, .one (.bool true))], L := [.vars 29 [.list ndT T], .vars 29 [.list ndT U], .row ndT 52 1 [(T.getD i nd0)], .row ndT 52 1 [(U.getD i nd0)]] }) ?_ ?_
  ·exact ⟨_, _, ax [2, 3, 4, 5, 6, 7, 8, 20], 0, Nat.zero_le _, fun q h => by omega, rfl, by rw [decide_eq_true (show (i : Int) < (T.length : Int) by omega)]; rfl⟩
  rintro n21 s21 ⟨j, hj, hqs, rfl, rfl⟩
  refine ai fun _ k22 => ?_
  refine ai fun _ k23 => ?_
  refine ak hP hN rfl ?_
  iterate 5 (refine aj rfl fun _ k0 => ?_; simp only [zO, zT, acs, reduceCtorEq, aa, V, ad, ag, af, ae, ah, aI, aP, aM, ar]; (repeat refine And.intro (by first | omega | assumption | exact rfl | exact hkX | exact hkY) ?_); (try refine .inl ?_); apply k0; clear k0; simp only [zP, V])
  refine am ?_
  apply k23; clear k23; refine kp [2, 3, 4, 5, 6, 7, 8, 20, 59] ?_
  refine cd (fun hc24 => ?_) (fun hc24 => ?_)
  ·(try simp only [zB, reduceCtorEq] at hc24)
   have hjl9 : j < (T.getD i nd0).2.2.1.length := by have h9 : (j : Int) < ((T.getD i nd0).2.2.1.length : Int) := hc24; omega
   refine ay ?_
   apply k22; clear k22; refine kp [2, 3, 4, 5, 6, 7, 8, 20, 59] ?_
   refine ai fun _ k25 => ?_
   refine az ?_
   refine ai fun _ k26 => ?_
   have hjl : j < (T.getD i nd0).2.2.1.length := hjl9
   have hkX : (0 : Int) ≤ (j : Int) ∧ (j : Int) < ((T.getD i nd0).2.2.1.length : Int) := by omega
   have hkY : (0 : Int) ≤ (j : Int) ∧ (j : Int) < ((U.getD i nd0).2.2.1.length : Int) := by omega
   refine bf hP hN Try.mixed rfl ?_
   iterate 11 (refine aj rfl fun _ k0 => ?_; simp only [zO, zT, acs, reduceCtorEq, aa, V, ad, ag, af, ae, ah, aI, aP, aM, ar]; (repeat refine And.intro (by first | omega | assumption | exact rfl | exact hkX | exact hkY) ?_); (try refine .inl ?_); apply k0; clear k0; simp only [zP, V])
   refine am ?_
   refine ⟨by kernel_rfl, ?_⟩
   apply k26; clear k26; refine kp [2, 3, 4, 5, 6, 7, 8, 20, 59, 72] ?_
   refine cd (fun hc27 => ?_) (fun hc27 => ?_)
   ·(try simp only [zB, reduceCtorEq] at hc27)
    have hno : ¬ T = U := xi (i := i) (fun e => by
      have e3 : (T.getD i nd0).2.2.1.getD j kd0 = (U.getD i nd0).2.2.1.getD j kd0 := by rw [e]
      rcases hc27 with h9 | h9
      · exact h9 (by show ((T.getD i nd0).2.2.1.getD j kd0).1 = ((U.getD i nd0).2.2.1.getD j kd0).1; rw [e3])
      · rcases h9 with h9 | h9
        · exact h9 (by show ((T.getD i nd0).2.2.1.getD j kd0).2.1 = ((U.getD i nd0).2.2.1.getD j kd0).2.1; rw [e3])
        · exact h9)
    refine ai fun _ k28 => ?_
    refine ak hP hN rfl ?_
    (refine aj rfl fun _ k0 => ?_; simp only [zO, zT, acs, reduceCtorEq, aa, V, ad, ag, af, ae, ah, aI, aP, aM, ar]; (repeat refine And.intro (by first | omega | assumption | exact rfl | exact hkX | exact hkY) ?_); (try refine .inl ?_); apply k0; clear k0; simp only [zP, V])
    refine am ?_
    apply k28; clear k28; refine kp [2, 3, 4, 5, 6, 7, 8, 20, 59, 72] ?_
    refine aG ?_
    refine ⟨nr, _, rfl, ?_⟩; simp only [zF, zP, aa, V, ah, aI, aP, aM, ar]
    refine VLE.of_eq ?_
    refine congrArg (fun b => AV.one (AC.bool b)) ?_
    symm
    first
    | exact decide_eq_false hno
    | exact decide_eq_true (mC hll (fun q hq => hu q (by omega)))
   (try simp only [zB, reduceCtorEq] at hc27)
   have hkk : (T.getD i nd0).2.2.1.getD j kd0 = (U.getD i nd0).2.2.1.getD j kd0 := Bp hc27.1 hc27.2.1
   refine ay ?_
   apply k25; clear k25; refine kp [2, 3, 4, 5, 6, 7, 8, 20, 59, 72] ?_
   refine ak hP hN rfl ?_
   iterate 3 (refine aj rfl fun _ k0 => ?_; simp only [zO, zT, acs, reduceCtorEq, aa, V, ad, ag, af, ae, ah, aI, aP, aM, ar]; (repeat refine And.intro (by first | omega | assumption | exact rfl | exact hkX | exact hkY) ?_); (try refine .inl ?_); apply k0; clear k0; simp only [zP, V])
   refine am ?_
   refine ⟨_, _, ?_, ax [2, 3, 4, 5, 6, 7, 8, 20], j + 1, by omega, fun q h => ?_, rfl, rfl⟩
   · omega
   · by_cases e : q = j
     · rw [e]; exact hkk
     · exact hqs q (by omega)
  (try simp only [zB, reduceCtorEq] at hc24)
  have hje : (T.getD i nd0).2.2.1.length ≤ j := by have h9 : ((T.getD i nd0).2.2.1.length : Int) ≤ (j : Int) := hc24; omega
  have hxy : (T.getD i nd0) = (U.getD i nd0) := Bv hx1 hx2 (yR hx3 (fun q hq => hqs q (by omega)))
  refine aV ?_
  apply k12; clear k12; refine kp [2, 3, 4, 5, 6, 7, 8, 20, 59] ?_
  refine cE [2, 3, 4, 5] ?_; simp only [bZ, lkp, zE, reduceCtorEq, aa]
  refine mA (L1 := [_, _, _]) rfl hB rfl rfl ?_
  refine mA (L1 := [_, _]) rfl hB rfl rfl ?_
  refine ak hP hN rfl ?_
  iterate 3 (refine aj rfl fun _ k0 => ?_; simp only [zO, zT, acs, reduceCtorEq, aa, V, ad, ag, af, ae, ah, aI, aP, aM, ar]; (repeat refine And.intro (by first | omega | assumption | exact rfl | exact hkX | exact hkY) ?_); (try refine .inl ?_); apply k0; clear k0; simp only [zP, V])
  refine am ?_
  refine ⟨_, _, ?_, ax [2, 3, 4, 5], i + 1, by omega, fun q h => ?_, rfl, rfl⟩
  · omega
  · by_cases e : q = i
    · rw [e]; exact hxy
    · exact hu q (by omega)
 (try simp only [zB, reduceCtorEq] at hc11)
 have hie : ¬ i < T.length := by omega
 refine aV ?_
 apply k6; clear k6; refine kp [2, 3, 4, 5, 20] ?_
 refine ai fun _ k29 => ?_
 refine ak hP hN rfl ?_
 (refine aj rfl fun _ k0 => ?_; simp only [zO, zT, acs, reduceCtorEq, aa, V, ad, ag, af, ae, ah, aI, aP, aM, ar]; (repeat refine And.intro (by first | omega | assumption | exact rfl | exact hkX | exact hkY) ?_); (try refine .inl ?_); apply k0; clear k0; simp only [zP, V])
 refine am ?_
 apply k29; clear k29; refine kp [2, 3, 4, 5, 20] ?_
 refine aG ?_
 refine ⟨nr, _, rfl, ?_⟩; simp only [zF, zP, aa, V, ah, aI, aP, aM, ar]
 refine VLE.of_eq ?_
 refine congrArg (fun b => AV.one (AC.bool b)) ?_
 symm
 first
 | exact decide_eq_false hno
 | exact decide_eq_true (mC hll (fun q hq => hu q (by omega)))
set_option maxHeartbeats 2000000 in
theorem xb  : c7 Try.prog 10 [] (.one (.bool true)) := by
 refine aS Try.func10 rfl (by kernel_rfl) (Nat.le_of_ble_eq_true rfl) rfl fun C hP hN hB => ?_
 replace hN : C.N = 100 := hN
 simp only [bc, V]
 refine ai fun _ k1 => ?_
 refine ak hP hN rfl ?_
 (refine aj rfl fun _ k0 => ?_; simp only [zO, zT, acs, reduceCtorEq, aa, V, ad, ag, af, ae, cv, cz]; (repeat refine an ?_); (try refine .inl ?_); apply k0; clear k0; simp only [zP, V])
 refine am ?_
 apply k1; clear k1; refine kp [0] ?_
 refine ai fun _ k2 => ?_
 refine ak hP hN rfl ?_
 iterate 11 (refine aj rfl fun _ k0 => ?_; simp only [zO, zT, acs, reduceCtorEq, aa, V, ad, ag, af, ae, cv, cz]; (repeat refine an ?_); (try refine .inl ?_); apply k0; clear k0; simp only [zP, V])
 refine am ?_
 apply k2; clear k2; refine kp [0, 1] ?_
 refine ai fun _ k3 => ?_
 refine ak hP hN rfl ?_
 (refine aj rfl fun _ k0 => ?_; simp only [zO, zT, acs, reduceCtorEq, aa, V, ad, ag, af, ae, cv, cz]; (repeat refine an ?_); (try refine .inl ?_); apply k0; clear k0; simp only [zP, V])
 refine aj rfl fun _ k0 => ?_
 refine aK (h := aB (nB eu)) rfl rfl (by first | exact rfl | (simp only [ev, zP, aa, V]; exact rfl)) (by simp only [zV, acs, reduceCtorEq, aa, V, ad, ag, af, ae, cv, cz]) ?_
 apply k0; clear k0; simp only [zP, V]
 iterate 8 (refine aj rfl fun _ k0 => ?_; simp only [zO, zT, acs, reduceCtorEq, aa, V, ad, ag, af, ae, cv, cz]; (repeat refine an ?_); (try refine .inl ?_); apply k0; clear k0; simp only [zP, V])
 refine am ?_
 apply k3; clear k3; refine kp [0, 1, 2, 3, 4] ?_
 refine ai fun _ k4 => ?_
 refine ak hP hN rfl ?_
 iterate 20 (refine aj rfl fun _ k0 => ?_; simp only [zO, zT, acs, reduceCtorEq, aa, V, ad, ag, af, ae, cv, cz]; (repeat refine an ?_); (try refine .inl ?_); apply k0; clear k0; simp only [zP, V])
 refine am ?_
 apply k4; clear k4; refine kp [0, 1, 2, 3, 4, 5] ?_
 refine ai fun _ k5 => ?_
 refine ak hP hN rfl ?_
 iterate 2 (refine aj rfl fun _ k0 => ?_; simp only [zO, zT, acs, reduceCtorEq, aa, V, ad, ag, af, ae, cv, cz]; (repeat refine an ?_); (try refine .inl ?_); apply k0; clear k0; simp only [zP, V])
 refine aj rfl fun _ k0 => ?_
 refine aK (h := aB (yP eu iz (by decide) 0)) rfl rfl (by first | exact rfl | (simp only [ev, zP, aa, V]; exact rfl)) (by simp only [zV, acs, reduceCtorEq, aa, V, ad, ag, af, ae, cv, cz]) ?_
 apply k0; clear k0; simp only [zP, V]
 iterate 7 (refine aj rfl fun _ k0 => ?_; simp only [zO, zT, acs, reduceCtorEq, aa, V, ad, ag, af, ae, cv, cz]; (repeat refine an ?_); (try refine .inl ?_); apply k0; clear k0; simp only [zP, V])
 refine am ?_
 apply k5; clear k5; refine kp [0, 1, 2, 3, 4, 5, 6, 7, 8] ?_
 refine ai fun _ k6 => ?_
 refine ak hP hN rfl ?_
 (refine aj rfl fun _ k0 => ?_; simp only [zO, zT, acs, reduceCtorEq, aa, V, ad, ag, af, ae, cv, cz]; (repeat refine an ?_); (try refine .inl ?_); apply k0; clear k0; simp only [zP, V])
 refine aj rfl fun _ k0 => ?_
 refine aK (h := aB wk) rfl rfl (by first | exact rfl | (simp only [ev, zP, aa, V]; exact rfl)) (by simp only [zV, acs, reduceCtorEq, aa, V, ad, ag, af, ae, cv, cz]) ?_
 apply k0; clear k0; simp only [zP, V]
 iterate 8 (refine aj rfl fun _ k0 => ?_; simp only [zO, zT, acs, reduceCtorEq, aa, V, ad, ag, af, ae, cv, cz]; (repeat refine an ?_); (try refine .inl ?_); apply k0; clear k0; simp only [zP, V])
 refine am ?_
 apply k6; clear k6; refine kp [0, 1, 2, 3, 4, 5, 6, 7, 8, 11] ?_
 refine ai fun _ k7 => ?_
 refine ak hP hN rfl ?_
 iterate 3 (refine aj rfl fun _ k0 => ?_; simp only [zO, zT, acs, reduceCtorEq, aa, V, ad, ag, af, ae, cv, cz]; (repeat refine an ?_); (try refine .inl ?_); apply k0; clear k0; simp only [zP, V])
 refine' aT (want := true) 2 rfl (m := 60) (by simp only [zP, aa, V]; exact rfl) (by kernel_rfl) rfl rfl rfl rfl rfl (fun hg8 => ?a8) ?b8 ?c8
 case a8 =>
  have hq8 := hg8; (try simp only [zB, reduceCtorEq] at hg8); simp only [zE]
  iterate 2 (refine bo rfl fun _ k0 => ?_; simp only [zO, zT, acs, reduceCtorEq, aa, V, ad, ag, af, ae, cv, cz]; (repeat refine an ?_); (try refine .inl ?_); apply k0; clear k0; simp only [zP, V])
  (refine aj rfl fun _ k0 => ?_; simp only [zO, zT, acs, reduceCtorEq, aa, V, ad, ag, af, ae, cv, cz]; (repeat refine an ?_); (try refine .inl ?_); apply k0; clear k0; simp only [zP, V])
  refine am ?_
  refine ⟨by simp only [zP, aa, V]; exact rfl, rfl, ?_, rfl⟩; (repeat refine aU rfl ?_); exact bu (by exact rfl) hq8
 case b8 => exact cJ
 simp only [bj, b6]
 (refine aj rfl fun _ k0 => ?_; simp only [zO, zT, acs, reduceCtorEq, aa, V, ad, ag, af, ae, cv, cz]; (repeat refine an ?_); (try refine .inl ?_); apply k0; clear k0; simp only [zP, V])
 refine' aT (want := true) 2 rfl (m := 64) (by simp only [zP, aa, V]; exact rfl) (by kernel_rfl) rfl rfl rfl rfl rfl (fun hg9 => ?a9) ?b9 ?c9
 case a9 =>
  have hq9 := hg9; (try simp only [zB, reduceCtorEq] at hg9); simp only [zE]
  iterate 2 (refine bo rfl fun _ k0 => ?_; simp only [zO, zT, acs, reduceCtorEq, aa, V, ad, ag, af, ae, cv, cz]; (repeat refine an ?_); (try refine .inl ?_); apply k0; clear k0; simp only [zP, V])
  (refine aj rfl fun _ k0 => ?_; simp only [zO, zT, acs, reduceCtorEq, aa, V, ad, ag, af, ae, cv, cz]; (repeat refine an ?_); (try refine .inl ?_); apply k0; clear k0; simp only [zP, V])
  refine am ?_
  refine ⟨by simp only [zP, aa, V]; exact rfl, rfl, ?_, rfl⟩; (repeat refine aU rfl ?_); exact bu (by exact rfl) hq9
 case b9 => exact cJ
 simp only [bj, b6]
 (refine aj rfl fun _ k0 => ?_; simp only [zO, zT, acs, reduceCtorEq, aa, V, ad, ag, af, ae, cv, cz]; (repeat refine an ?_); (try refine .inl ?_); apply k0; clear k0; simp only [zP, V])
 refine' aT (want := true) 1 rfl (m := 68) (by simp only [zP, aa, V]; exact rfl) (by kernel_rfl) rfl rfl rfl rfl rfl (fun hg10 => ?a10) ?b10 ?c10
 case a10 =>
  have hq10 := hg10; (try simp only [zB, reduceCtorEq] at hg10); simp only [zE]
  (refine bo rfl fun _ k0 => ?_; simp only [zO, zT, acs, reduceCtorEq, aa, V, ad, ag, af, ae, cv, cz]; (repeat refine an ?_); (try refine .inl ?_); apply k0; clear k0; simp only [zP, V])
  (refine aj rfl fun _ k0 => ?_; simp only [zO, zT, acs, reduceCtorEq, aa, V, ad, ag, af, ae, cv, cz]; (repeat refine an ?_); (try refine .inl ?_); apply k0; clear k0; simp only [zP, V])
  refine am ?_
  refine ⟨by simp only [zP, aa, V]; exact rfl, rfl, ?_, rfl⟩; (repeat refine aU rfl ?_); exact bu (by exact rfl) hq10
 case b10 => exact cJ
 simp only [bj, b6]
 (refine aj rfl fun _ k0 => ?_; simp only [zO, zT, acs, reduceCtorEq, aa, V, ad, ag, af, ae, cv, cz]; (repeat refine an ?_); (try refine .inl ?_); apply k0; clear k0; simp only [zP, V])
 refine' aT (want := true) 3 rfl (m := 71) (by simp only [zP, aa, V]; exact rfl) (by kernel_rfl) rfl rfl rfl rfl rfl (fun hg11 => ?a11) ?b11 ?c11
 case a11 =>
  have hq11 := hg11; (try simp only [zB, reduceCtorEq] at hg11); simp only [zE]
  iterate 2 (refine bo rfl fun _ k0 => ?_; simp only [zO, zT, acs, reduceCtorEq, aa, V, ad, ag, af, ae, cv, cz]; (repeat refine an ?_); (try refine .inl ?_); apply k0; clear k0; simp only [zP, V])
  refine bo rfl fun _ k0 => ?_
  refine aK (h := aB (qx (fR eu) iz (by rw [s7]; decide) (by rw [s7]; decide))) rfl rfl (by first | exact rfl | (simp only [ev, zP, aa, V]; exact rfl)) (by simp only [zV, acs, reduceCtorEq, aa, V, ad, ag, af, ae, cv, cz]) ?_
  apply k0; clear k0; simp only [zP, V]
  (refine aj rfl fun _ k0 => ?_; simp only [zO, zT, acs, reduceCtorEq, aa, V, ad, ag, af, ae, cv, cz]; (repeat refine an ?_); (try refine .inl ?_); apply k0; clear k0; simp only [zP, V])
  refine am ?_
  refine ⟨by simp only [zP, aa, V]; exact rfl, rfl, ?_, rfl⟩; (repeat refine aU rfl ?_); exact bu (by exact rfl) hq11
 case b11 => exact cJ
 simp only [bj, b6]
 (refine aj rfl fun _ k0 => ?_; simp only [zO, zT, acs, reduceCtorEq, aa, V, ad, ag, af, ae, cv, cz]; (repeat refine an ?_); (try refine .inl ?_); apply k0; clear k0; simp only [zP, V])
 refine' aT (want := true) 3 rfl (m := 76) (by simp only [zP, aa, V]; exact rfl) (by kernel_rfl) rfl rfl rfl rfl rfl (fun hg12 => ?a12) ?b12 ?c12
 case a12 =>
  have hq12 := hg12; (try simp only [zB, reduceCtorEq] at hg12); simp only [zE]
  iterate 2 (refine bo rfl fun _ k0 => ?_; simp only [zO, zT, acs, reduceCtorEq, aa, V, ad, ag, af, ae, cv, cz]; (repeat refine an ?_); (try refine .inl ?_); apply k0; clear k0; simp only [zP, V])
  refine bo rfl fun _ k0 => ?_
  refine aK (h := aB (wK (if iA eu iz 0 = 0 then (jn eu iz 0).1 else []) [0, 0])) rfl rfl (by first | exact rfl | (simp only [ev, zP, aa, V]; exact rfl)) (by simp only [zV, acs, reduceCtorEq, aa, V, ad, ag, af, ae, cv, cz]) ?_
  apply k0; clear k0; simp only [zP, V]
  (refine aj rfl fun _ k0 => ?_; simp only [zO, zT, acs, reduceCtorEq, aa, V, ad, ag, af, ae, cv, cz]; (repeat refine an ?_); (try refine .inl ?_); apply k0; clear k0; simp only [zP, V])
  refine am ?_
  refine ⟨by simp only [zP, aa, V]; exact rfl, rfl, ?_, rfl⟩; (repeat refine aU rfl ?_); exact bu (by exact rfl) hq12
 case b12 => exact cJ
 simp only [bj, b6]
 (refine aj rfl fun _ k0 => ?_; simp only [zO, zT, acs, reduceCtorEq, aa, V, ad, ag, af, ae, cv, cz]; (repeat refine an ?_); (try refine .inl ?_); apply k0; clear k0; simp only [zP, V])
 refine' aT (want := true) 2 rfl (m := 81) (by simp only [zP, aa, V]; exact rfl) (by kernel_rfl) rfl rfl rfl rfl rfl (fun hg13 => ?a13) ?b13 ?c13
 case a13 =>
  have hq13 := hg13; (try simp only [zB, reduceCtorEq] at hg13); simp only [zE]
  iterate 2 (refine bo rfl fun _ k0 => ?_; simp only [zO, zT, acs, reduceCtorEq, aa, V, ad, ag, af, ae, cv, cz]; (repeat refine an ?_); (try refine .inl ?_); apply k0; clear k0; simp only [zP, V])
  (refine aj rfl fun _ k0 => ?_; simp only [zO, zT, acs, reduceCtorEq, aa, V, ad, ag, af, ae, cv, cz]; (repeat refine an ?_); (try refine .inl ?_); apply k0; clear k0; simp only [zP, V])
  refine am ?_
  refine ⟨by simp only [zP, aa, V]; exact rfl, rfl, ?_, rfl⟩; (repeat refine aU rfl ?_); exact bu (by exact rfl) hq13
 case b13 => exact cJ
 simp only [bj, b6]
 (refine aj rfl fun _ k0 => ?_; simp only [zO, zT, acs, reduceCtorEq, aa, V, ad, ag, af, ae, cv, cz]; (repeat refine an ?_); (try refine .inl ?_); apply k0; clear k0; simp only [zP, V])
 refine' aT (want := true) 3 rfl (m := 85) (by simp only [zP, aa, V]; exact rfl) (by kernel_rfl) rfl rfl rfl rfl rfl (fun hg14 => ?a14) ?b14 ?c14
 case a14 =>
  have hq14 := hg14; (try simp only [zB, reduceCtorEq] at hg14); simp only [zE]
  (refine bo rfl fun _ k0 => ?_; simp only [zO, zT, acs, reduceCtorEq, aa, V, ad, ag, af, ae, cv, cz]; (repeat refine an ?_); (try refine .inl ?_); apply k0; clear k0; simp only [zP, V])
  refine bo rfl fun _ k0 => ?_
  refine aK (h := aB (B4 (fR eu) (by rw [s7]; decide) (by rw [s7]; decide))) rfl rfl (by first | exact rfl | (simp only [ev, zP, aa, V]; exact rfl)) (by simp only [zV, acs, reduceCtorEq, aa, V, ad, ag, af, ae, cv, cz]) ?_
  apply k0; clear k0; simp only [zP, V]
  (refine bo rfl fun _ k0 => ?_; simp only [zO, zT, acs, reduceCtorEq, aa, V, ad, ag, af, ae, cv, cz]; (repeat refine an ?_); (try refine .inl ?_); apply k0; clear k0; simp only [zP, V])
  (refine aj rfl fun _ k0 => ?_; simp only [zO, zT, acs, reduceCtorEq, aa, V, ad, ag, af, ae, cv, cz]; (repeat refine an ?_); (try refine .inl ?_); apply k0; clear k0; simp only [zP, V])
  refine am ?_
  refine ⟨by simp only [zP, aa, V]; exact rfl, rfl, ?_, rfl⟩; (repeat refine aU rfl ?_); exact bu (by exact rfl) hq14
 case b14 => exact cJ
 simp only [bj, b6]
 (refine aj rfl fun _ k0 => ?_; simp only [zO, zT, acs, reduceCtorEq, aa, V, ad, ag, af, ae, cv, cz]; (repeat refine an ?_); (try refine .inl ?_); apply k0; clear k0; simp only [zP, V])
 refine' aT (want := true) 2 rfl (m := 90) (by simp only [zP, aa, V]; exact rfl) (by kernel_rfl) rfl rfl rfl rfl rfl (fun hg15 => ?a15) ?b15 ?c15
 case a15 =>
  have hq15 := hg15; (try simp only [zB, reduceCtorEq] at hg15); simp only [zE]
  (refine bo rfl fun _ k0 => ?_; simp only [zO, zT, acs, reduceCtorEq, aa, V, ad, ag, af, ae, cv, cz]; (repeat refine an ?_); (try refine .inl ?_); apply k0; clear k0; simp only [zP, V])
  refine bo rfl fun _ k0 => ?_
  refine aK (h := aB (xk (fR eu) (by rw [s7]; decide))) rfl rfl (by first | exact rfl | (simp only [ev, zP, aa, V]; exact rfl)) (by simp only [zV, acs, reduceCtorEq, aa, V, ad, ag, af, ae, cv, cz]) ?_
  apply k0; clear k0; simp only [zP, V]
  (refine aj rfl fun _ k0 => ?_; simp only [zO, zT, acs, reduceCtorEq, aa, V, ad, ag, af, ae, cv, cz]; (repeat refine an ?_); (try refine .inl ?_); apply k0; clear k0; simp only [zP, V])
  refine am ?_
  refine ⟨by simp only [zP, aa, V]; exact rfl, rfl, ?_, rfl⟩; (repeat refine aU rfl ?_); exact bu (by exact rfl) hq15
 case b15 => exact cJ
 simp only [bj, b6]
 (refine aj rfl fun _ k0 => ?_; simp only [zO, zT, acs, reduceCtorEq, aa, V, ad, ag, af, ae, cv, cz]; (repeat refine an ?_); (try refine .inl ?_); apply k0; clear k0; simp only [zP, V])
 refine' aT (want := true) 4 rfl (m := 94) (by simp only [zP, aa, V]; exact rfl) (by kernel_rfl) rfl rfl rfl rfl rfl (fun hg16 => ?a16) ?b16 ?c16
 case a16 =>
  have hq16 := hg16; (try simp only [zB, reduceCtorEq] at hg16); simp only [zE]
  iterate 2 (refine bo rfl fun _ k0 => ?_; simp only [zO, zT, acs, reduceCtorEq, aa, V, ad, ag, af, ae, cv, cz]; (repeat refine an ?_); (try refine .inl ?_); apply k0; clear k0; simp only [zP, V])
  refine bo rfl fun _ k0 => ?_
  refine aK (h := aB yO) rfl rfl (by first | exact rfl | (simp only [ev, zP, aa, V]; exact rfl)) (by simp only [zV, acs, reduceCtorEq, aa, V, ad, ag, af, ae, cv, cz]) ?_
  apply k0; clear k0; simp only [zP, V]
  (refine bo rfl fun _ k0 => ?_; simp only [zO, zT, acs, reduceCtorEq, aa, V, ad, ag, af, ae, cv, cz]; (repeat refine an ?_); (try refine .inl ?_); apply k0; clear k0; simp only [zP, V])
  (refine aj rfl fun _ k0 => ?_; simp only [zO, zT, acs, reduceCtorEq, aa, V, ad, ag, af, ae, cv, cz]; (repeat refine an ?_); (try refine .inl ?_); apply k0; clear k0; simp only [zP, V])
  refine am ?_
  refine ⟨by simp only [zP, aa, V]; exact rfl, rfl, ?_, rfl⟩; (repeat refine aU rfl ?_); exact bu (by exact rfl) hq16
 case b16 => exact cJ
 simp only [bj, b6]
 (refine aj rfl fun _ k0 => ?_; simp only [zO, zT, acs, reduceCtorEq, aa, V, ad, ag, af, ae, cv, cz]; (repeat refine an ?_); (try refine .inl ?_); apply k0; clear k0; simp only [zP, V])
 refine am ?_
 apply k7; clear k7; refine kp [0, 1, 2, 3, 4, 5, 6, 7, 8, 11] ?_
 refine aG ?_
 refine ⟨nr, _, rfl, ?_⟩; simp only [zF, zP, aa, V, cv, cz]
 refine VLE.of_eq ?_
 refine congrArg (fun b => AV.one (AC.bool b)) ?_
 rw [s7, z3, C5, Bo, if_pos rfl, if_pos rfl, BK, Bw, Bt, decide_eq_false BT]
 decide
set_option maxHeartbeats 1500000 in
theorem Aj (m : Mly) (i : Nat) (hm : MOK m) : c7 Try.prog 101 [m.av, .one (.list (.int .i64) (m.cls i))] (.one (.list (.int .i64) (m.cls (i + 1)))) := by
 have ol := hm.ol; have hi1 := hm.i1; have hi2 := hm.i2; have hn2 := hm.n2
 have hcl := jZ m i
 have hnl := qr m (m.cls i)
 refine aS Try.func101 rfl (by kernel_rfl) (Nat.le_of_ble_eq_true rfl) rfl fun C hP hN hB => ?_
 replace hN : C.N = 99 := hN
 simp only [bc, V]
 refine ai fun _ k1 => ?_
 refine ak hP hN rfl ?_
 iterate 2 (refine aj rfl fun _ k0 => ?_; simp only [zO, zT, acs, reduceCtorEq, aa, V, ad, ag, af, ae, Mly.av, ah]; (repeat refine an ?_); (try refine .inl ?_); apply k0; clear k0; simp only [zP, V])
 refine am ?_
 apply k1; clear k1; refine kp [0, 1, 2, 4] ?_
 refine ai fun _ k2 => ?_
 refine ak hP hN rfl ?_
 (refine aj rfl fun _ k0 => ?_; simp only [zO, zT, acs, reduceCtorEq, aa, V, ad, ag, af, ae, Mly.av, ah]; (repeat refine an ?_); (try refine .inl ?_); apply k0; clear k0; simp only [zP, V])
 refine am ?_
 apply k2; clear k2; refine kp [0, 1, 2, 4, 5] ?_
 refine ai fun _ k3 => ?_
 refine ak hP hN rfl ?_
 (refine aj rfl fun _ k0 => ?_; simp only [zO, zT, acs, reduceCtorEq, aa, V, ad, ag, af, ae, Mly.av, ah]; (repeat refine an ?_); (try refine .inl ?_); apply k0; clear k0; simp only [zP, V])
 refine am ?_
 apply k3; clear k3; refine kp [0, 1, 2, 4, 5, 6] ?_
 refine ai fun _ k4 => ?_
 refine ai fun _ k5 => ?_
 refine ak hP hN rfl ?_
 (refine aj rfl fun _ k0 => ?_; simp only [zO, zT, acs, reduceCtorEq, aa, V, ad, ag, af, ae, Mly.av, ah]; (repeat refine an ?_); (try refine .inl ?_); apply k0; clear k0; simp only [zP, V])
 refine am ?_
 apply k5; clear k5; refine kp [0, 1, 2, 4, 5, 6, 7] ?_
 refine az ?_
 refine eI 5 (.int .i64) 3 (by decide) rfl ?_; simp only [au, aC, aH, aZ, Nat.zero_add, V]
 refine ba (fun n6 s6 => ∃ (s : Nat) (v : Nat), (s ≤ m.nx.length) ∧ n6 = m.nx.length - s ∧ s6 = { env := [(1, .one (.list (.int .i64) (m.cls i))), (2, .one (.ptr 0 0 0 0)), (4, .one .nils), (5, .one (.row 1 v)), (6, .one (.int .i64 ((dh (m.sig (m.cls i)) s).length : Int))), (7, .one (.int .i64 (s : Int)))], L := [.vars 24 [.int .i64 m.inp, .int .i64 m.st, .list (.list (.int .i64)) m.nx, .list (.list (.int .i64)) m.ot], .row (.int .i64) 3 v ((m.nextL (m.cls i)).take s)] }) ?_ ?_
 ·exact ⟨_, _, ax [1, 2, 4, 5, 6, 7], 0, 0, Nat.zero_le _, rfl, rfl⟩
 rintro n6 s6 ⟨s, v, hs, rfl, rfl⟩
 refine ai fun _ k7 => ?_
 refine ai fun _ k8 => ?_
 refine ak hP hN rfl ?_
 iterate 4 (refine aj rfl fun _ k0 => ?_; simp only [zO, zT, acs, reduceCtorEq, aa, V, ad, ag, af, ae, Mly.av, ah]; (repeat refine an ?_); (try refine .inl ?_); apply k0; clear k0; simp only [zP, V])
 refine am ?_
 apply k8; clear k8; refine kp [1, 2, 4, 5, 6, 7, 15] ?_
 refine cd (fun hc9 => ?_) (fun hc9 => ?_)
 ·(try simp only [zB, reduceCtorEq] at hc9)
  refine ay ?_
  apply k7; clear k7; refine kp [1, 2, 4, 5, 6, 7, 15] ?_
  refine ai fun _ k10 => ?_
  refine az ?_
  refine ai fun _ k11 => ?_
  have hsn : s < m.nx.length := by omega
  have hdl := m7 (m.sig (m.cls i)) s
  have htl : ((m.nextL (m.cls i)).take s).length = s := by rw [List.length_take]; omega
  refine ak hP hN rfl ?_
  (refine aj rfl fun _ k0 => ?_; simp only [zO, zT, acs, reduceCtorEq, aa, V, ad, ag, af, ae, Mly.av, ah]; (repeat refine an ?_); (try refine .inl ?_); apply k0; clear k0; simp only [zP, V])
  refine am ?_
  apply k11; clear k11; refine kp [1, 2, 4, 5, 6, 7, 8, 15] ?_
  refine ai fun _ k12 => ?_
  refine ai fun _ k13 => ?_
  refine ak hP hN rfl ?_
  iterate 3 (refine aj rfl fun _ k0 => ?_; simp only [zO, zT, acs, reduceCtorEq, aa, V, ad, ag, af, ae, Mly.av, ah]; (repeat refine an ?_); (try refine .inl ?_); apply k0; clear k0; simp only [zP, V])
  refine am ?_
  apply k13; clear k13; refine kp [1, 2, 4, 5, 6, 7, 8, 9, 15] ?_
  refine az ?_
  refine ba (fun n14 s14 => ∃ (k : Nat) (fd : Int), (k ≤ s) ∧ (fnF m (m.cls i) s k fd) ∧ n14 = k + 1 ∧ s14 = { env := [(1, .one (.list (.int .i64) (m.cls i))), (2, .one (.ptr 0 0 0 0)), (4, .one .nils), (5, .one (.row 1 v)), (6, .one (.int .i64 ((dh (m.sig (m.cls i)) s).length : Int))), (7, .one (.int .i64 (s : Int))), (8, .one (.int .i64 fd)), (9, .one (.int .i64 ((k : Int) - 1))), (15, .one (.bool true))], L := [.vars 24 [.int .i64 m.inp, .int .i64 m.st, .list (.list (.int .i64)) m.nx, .list (.list (.int .i64)) m.ot], .row (.int .i64) 3 v ((m.nextL (m.cls i)).take s)] }) ?_ ?_
  ·refine ⟨_, _, ax [1, 2, 4, 5, 6, 7, 8, 9, 15], s, -1, Nat.le_refl _, .inl ⟨rfl, fun t h1 h2 => by omega⟩, rfl, ?_⟩
   rw [decide_eq_true (by omega)]; rfl
  rintro n14 s14 ⟨k, fd, hk, hfn, rfl, rfl⟩
  refine ai fun _ k15 => ?_
  refine ai fun _ k16 => ?_
  refine ak hP hN rfl ?_
  iterate 2 (refine aj rfl fun _ k0 => ?_; simp only [zO, zT, acs, reduceCtorEq, aa, V, ad, ag, af, ae, Mly.av, ah]; (repeat refine an ?_); (try refine .inl ?_); apply k0; clear k0; simp only [zP, V])
  refine am ?_
  apply k16; clear k16; refine kp [1, 2, 4, 5, 6, 7, 8, 9, 15, 21] ?_
  refine cd (fun hc17 => ?_) (fun hc17 => ?_)
  ·(try simp only [zB, reduceCtorEq] at hc17)
   refine ay ?_
   apply k15; clear k15; refine kp [1, 2, 4, 5, 6, 7, 8, 9, 15, 21] ?_
   refine ai fun _ k18 => ?_
   refine az ?_
   refine ai fun _ k19 => ?_
   obtain ⟨t, rfl⟩ : ∃ t, k = t + 1 := ⟨k - 1, by omega⟩
   rw [show (((t + 1 : Nat) : Int) - 1) = (t : Int) by omega]
   have htn : t < m.nx.length := by omega
   refine bf hP hN Try.mixed rfl ?_
   iterate 10 (refine aj rfl fun _ k0 => ?_; simp only [zO, zT, acs, reduceCtorEq, aa, V, ad, ag, af, ae, Mly.av, ah]; (repeat refine an ?_); (try refine .inl ?_); apply k0; clear k0; simp only [zP, V])
   refine am ?_
   refine ⟨by kernel_rfl, ?_⟩
   apply k19; clear k19; refine kp [1, 2, 4, 5, 6, 7, 8, 9, 10, 15, 21] ?_
   refine ai fun _ k20 => ?_
   refine ai fun _ k21 => ?_
   refine ak hP hN rfl ?_
   (refine aj rfl fun _ k0 => ?_; simp only [zO, zT, acs, reduceCtorEq, aa, V, ad, ag, af, ae, Mly.av, ah]; (repeat refine an ?_); (try refine .inl ?_); apply k0; clear k0; simp only [zP, V])
   refine am ?_
   apply k21; clear k21; refine kp [1, 2, 4, 5, 6, 7, 8, 9, 10, 11, 15, 21] ?_
   refine az ?_
   refine ba (fun n22 s22 => ∃ (a : Nat) (sm : Bool), ((a : Int) ≤ m.inp) ∧ (sm = true ↔ smB m (m.cls i) s t a) ∧ n22 = m.inp.toNat - a ∧ s22 = { env := [(1, .one (.list (.int .i64) (m.cls i))), (2, .one (.ptr 0 0 0 0)), (4, .one .nils), (5, .one (.row 1 v)), (6, .one (.int .i64 ((dh (m.sig (m.cls i)) s).length : Int))), (7, .one (.int .i64 (s : Int))), (8, .one (.int .i64 fd)), (9, .one (.int .i64 (t : Int))), (10, .one (.bool sm)), (11, .one (.int .i64 (a : Int))), (15, .one (.bool true)), (21, .one (.bool true))], L := [.vars 24 [.int .i64 m.inp, .int .i64 m.st, .list (.list (.int .i64)) m.nx, .list (.list (.int .i64)) m.ot], .row (.int .i64) 3 v ((m.nextL (m.cls i)).take s)] }) ?_ ?_
   ·refine ⟨_, _, ax [1, 2, 4, 5, 6, 7, 8, 9, 10, 11, 15, 21], 0, decide ((m.cls i).getD s 0 = (m.cls i).getD t 0), by omega, by rw [decide_eq_true_eq]; exact ⟨fun h => ⟨h, fun b hb => by omega⟩, fun h => h.1⟩, rfl, ?_⟩
    rw [decide_eq_true (show (0 : Int) ≤ (t : Int) by omega)]; rfl
   rintro n22 s22 ⟨a, sm, ha, hsb, rfl, rfl⟩
   refine ai fun _ k23 => ?_
   refine ai fun _ k24 => ?_
   refine ak hP hN rfl ?_
   iterate 5 (refine aj rfl fun _ k0 => ?_; simp only [zO, zT, acs, reduceCtorEq, aa, V, ad, ag, af, ae, Mly.av, ah]; (repeat refine an ?_); (try refine .inl ?_); apply k0; clear k0; simp only [zP, V])
   refine' aT (want := true) 1 rfl (m := 37) (by simp only [zP, aa, V]; exact rfl) (by kernel_rfl) rfl rfl rfl rfl rfl (fun hg25 => ?a25) ?b25 ?c25
   case a25 =>
    have hq25 := hg25; (try simp only [zB, reduceCtorEq] at hg25); simp only [zE]
    (refine bo rfl fun _ k0 => ?_; simp only [zO, zT, acs, reduceCtorEq, aa, V, ad, ag, af, ae, Mly.av, ah]; (repeat refine an ?_); (try refine .inl ?_); apply k0; clear k0; simp only [zP, V])
    (refine aj rfl fun _ k0 => ?_; simp only [zO, zT, acs, reduceCtorEq, aa, V, ad, ag, af, ae, Mly.av, ah]; (repeat refine an ?_); (try refine .inl ?_); apply k0; clear k0; simp only [zP, V])
    refine am ?_
    refine ⟨by simp only [zP, aa, V]; exact rfl, rfl, ?_, rfl⟩; (repeat refine aU rfl ?_); exact bu (by exact rfl) hq25
   case b25 => exact cJ
   simp only [bj, b6]
   refine am ?_
   apply k24; clear k24; refine kp [1, 2, 4, 5, 6, 7, 8, 9, 10, 11, 15, 21, 39] ?_
   refine cd (fun hc26 => ?_) (fun hc26 => ?_)
   ·(try simp only [zB, reduceCtorEq] at hc26)
    have hy : (a : Int) < m.inp ∧ smB m (m.cls i) s t a := by
      have h9 : (a : Int) < m.inp ∧ sm = true := by simpa using hc26
      exact ⟨h9.1, hsb.1 h9.2⟩
    refine ay ?_
    apply k23; clear k23; refine kp [1, 2, 4, 5, 6, 7, 8, 9, 10, 11, 15, 21, 39] ?_
    refine ai fun _ k27 => ?_
    refine az ?_
    have q1 := hm.rl s hsn; have q2 := hm.ql s hsn; have q3 := hm.rl t htn; have q4 := hm.ql t htn
    have n1 := hm.nr s a hsn (by omega)
    have n2 := hm.nr t a htn (by omega)
    refine bf hP hN Try.mixed rfl ?_
    iterate 18 (refine aj rfl fun _ k0 => ?_; simp only [zO, zT, acs, reduceCtorEq, aa, V, ad, ag, af, ae, Mly.av, ah]; (repeat refine an ?_); (try refine .inl ?_); apply k0; clear k0; simp only [zP, V])
    refine' aT (want := true) 23 rfl (m := 59) (by simp only [zP, aa, V]; exact rfl) (by kernel_rfl) rfl rfl rfl rfl rfl (fun hg28 => ?a28) ?b28 ?c28
    case a28 =>
     have hq28 := hg28; (try simp only [zB, reduceCtorEq] at hg28); simp only [zE]
     iterate 23 (refine bo rfl fun _ k0 => ?_; simp only [zO, zT, acs, reduceCtorEq, aa, V, ad, ag, af, ae, Mly.av, ah]; (repeat refine an ?_); (try refine .inl ?_); apply k0; clear k0; simp only [zP, V])
     (refine aj rfl fun _ k0 => ?_; simp only [zO, zT, acs, reduceCtorEq, aa, V, ad, ag, af, ae, Mly.av, ah]; (repeat refine an ?_); (try refine .inl ?_); apply k0; clear k0; simp only [zP, V])
     refine am ?_
     refine ⟨by simp only [zP, aa, V]; exact rfl, rfl, ?_, rfl⟩; (repeat refine aU rfl ?_); exact bu (by exact rfl) hq28
    case b28 => exact cJ
    simp only [bj, b6]
    (refine aj rfl fun _ k0 => ?_; simp only [zO, zT, acs, reduceCtorEq, aa, V, ad, ag, af, ae, Mly.av, ah]; (repeat refine an ?_); (try refine .inl ?_); apply k0; clear k0; simp only [zP, V])
    refine am ?_
    refine ⟨by kernel_rfl, ?_⟩
    apply k27; clear k27; refine kp [1, 2, 4, 5, 6, 7, 8, 9, 10, 11, 15, 21, 39] ?_
    refine ak hP hN rfl ?_
    iterate 3 (refine aj rfl fun _ k0 => ?_; simp only [zO, zT, acs, reduceCtorEq, aa, V, ad, ag, af, ae, Mly.av, ah]; (repeat refine an ?_); (try refine .inl ?_); apply k0; clear k0; simp only [zP, V])
    refine am ?_
    refine ⟨_, _, ?_, ax [1, 2, 4, 5, 6, 7, 8, 9, 10, 11, 15, 21], a + 1, _, by omega, ?_, rfl, rfl⟩
    · omega
    · rw [xv hy.2]; simp
   (try simp only [zB, reduceCtorEq] at hc26)
   have hy : ¬ ((a : Int) < m.inp ∧ smB m (m.cls i) s t a) := by
     rintro ⟨h1, h2⟩
     have h3 := hsb.2 h2
     have h9 : m.inp ≤ (a : Int) ∨ sm = false := by simpa using hc26
     rcases h9 with h9 | h9
     · omega
     · rw [h3] at h9; cases h9
   refine aV ?_
   apply k20; clear k20; refine kp [1, 2, 4, 5, 6, 7, 8, 9, 10, 11, 15, 21, 39] ?_
   refine ai fun _ k29 => ?_
   have hsm : smB m (m.cls i) s t m.inp.toNat ↔ m.sig (m.cls i) s = m.sig (m.cls i) t := zD hm hsn htn
   refine ak hP hN rfl ?_
   (refine aj rfl fun _ k0 => ?_; simp only [zO, zT, acs, reduceCtorEq, aa, V, ad, ag, af, ae, Mly.av, ah]; (repeat refine an ?_); (try refine .inl ?_); apply k0; clear k0; simp only [zP, V])
   refine am ?_
   apply k29; clear k29; refine kp [1, 2, 4, 5, 6, 7, 8, 9, 10, 11, 15, 21, 39, 84] ?_
   refine cd (fun hc30 => ?_) (fun hc30 => ?_)
   ·(try simp only [zB, reduceCtorEq] at hc30)
    have hy9 : smB m (m.cls i) s t a := hsb.1 hc30
    have hya : a = m.inp.toNat := by
      by_cases e : (a : Int) < m.inp
      · exact absurd ⟨e, hy9⟩ hy
      · omega
    have hsg := hsm.1 (hya ▸ hy9)
    have hfn2 := AN hsn (by omega) hsg
    have hgt : ((m.nextL (m.cls i)).take s).getD t 0 = (m.nextL (m.cls i)).getD t 0 := qK (by omega)
    refine ak hP hN rfl ?_
    iterate 5 (refine aj rfl fun _ k0 => ?_; simp only [zO, zT, acs, reduceCtorEq, aa, V, ad, ag, af, ae, Mly.av, ah, htl]; (repeat refine an ?_); (try refine .inl ?_); apply k0; clear k0; simp only [zP, V])
    refine am ?_
    apply k18; clear k18; refine kp [1, 2, 4, 5, 6, 7, 8, 9, 10, 11, 15, 21, 39, 84] ?_
    refine ak hP hN rfl ?_
    iterate 3 (refine aj rfl fun _ k0 => ?_; simp only [zO, zT, acs, reduceCtorEq, aa, V, ad, ag, af, ae, Mly.av, ah]; (repeat refine an ?_); (try refine .inl ?_); apply k0; clear k0; simp only [zP, V])
    refine am ?_
    first
    | (refine ⟨_, _, ?_, ax [1, 2, 4, 5, 6, 7, 8, 9, 15], t, _, by omega, hfn2, rfl, rfl⟩
       omega)
    | (refine ⟨_, _, ?_, ax [1, 2, 4, 5, 6, 7, 8, 9, 15], t, (m.nextL (m.cls i)).getD t 0, by omega, hfn2, rfl, ?_⟩
       · omega
       · rw [← hgt]; rfl)
   (try simp only [zB, reduceCtorEq] at hc30)
   have hy9 : ¬ smB m (m.cls i) s t a := fun h => by
     have h3 := hsb.2 h
     have h9 : sm = false := by simpa using hc30
     rw [h3] at h9; cases h9
   have hsg : ¬ m.sig (m.cls i) s = m.sig (m.cls i) t := fun h => ym (by omega) hy9 (hsm.2 h)
   have hfn2 := By hfn hsg
   refine ay ?_
   apply k18; clear k18; refine kp [1, 2, 4, 5, 6, 7, 8, 9, 10, 11, 15, 21, 39, 84] ?_
   refine ak hP hN rfl ?_
   iterate 3 (refine aj rfl fun _ k0 => ?_; simp only [zO, zT, acs, reduceCtorEq, aa, V, ad, ag, af, ae, Mly.av, ah]; (repeat refine an ?_); (try refine .inl ?_); apply k0; clear k0; simp only [zP, V])
   refine am ?_
   first
   | (refine ⟨_, _, ?_, ax [1, 2, 4, 5, 6, 7, 8, 9, 15], t, _, by omega, hfn2, rfl, rfl⟩
      omega)
   | (refine ⟨_, _, ?_, ax [1, 2, 4, 5, 6, 7, 8, 9, 15], t, (m.nextL (m.cls i)).getD t 0, by omega, hfn2, rfl, ?_⟩
      · omega
      · rw [← hgt]; rfl)
  (try simp only [zB, reduceCtorEq] at hc17)
  refine aV ?_
  apply k12; clear k12; refine kp [1, 2, 4, 5, 6, 7, 8, 9, 15, 21] ?_
  refine ai fun _ k31 => ?_
  refine ai fun _ k32 => ?_
  have hk0 : k = 0 := by omega
  subst hk0
  refine ak hP hN rfl ?_
  iterate 2 (refine aj rfl fun _ k0 => ?_; simp only [zO, zT, acs, reduceCtorEq, aa, V, ad, ag, af, ae, Mly.av, ah]; (repeat refine an ?_); (try refine .inl ?_); apply k0; clear k0; simp only [zP, V])
  refine am ?_
  apply k32; clear k32; refine kp [1, 2, 4, 5, 6, 7, 8, 9, 15, 21, 90] ?_
  refine cd (fun hc33 => ?_) (fun hc33 => ?_)
  ·(try simp only [zB, reduceCtorEq] at hc33)
   have hnew := Az hsn hfn (by omega)
   refine ai fun _ k34 => ?_
   refine ak hP hN rfl ?_
   iterate 2 (refine aj rfl fun _ k0 => ?_; simp only [zO, zT, acs, reduceCtorEq, aa, V, ad, ag, af, ae, Mly.av, ah]; (repeat refine an ?_); (try refine .inl ?_); apply k0; clear k0; simp only [zP, V])
   refine am ?_
   apply k34; clear k34; refine kp [1, 2, 4, 5, 6, 7, 8, 9, 15, 21, 90] ?_
   refine ak hP hN rfl ?_
   iterate 3 (refine aj rfl fun _ k0 => ?_; simp only [zO, zT, acs, reduceCtorEq, aa, V, ad, ag, af, ae, Mly.av, ah]; (repeat refine an ?_); (try refine .inl ?_); apply k0; clear k0; simp only [zP, V])
   refine am ?_
   apply k31; clear k31; refine kp [1, 2, 4, 5, 6, 7, 8, 9, 15, 21, 90] ?_
   have hnr := jr (m := m) (cl := (m.cls i)) hsn
   refine ak hP hN rfl ?_
   iterate 5 (refine aj rfl fun _ k0 => ?_; simp only [zO, zT, acs, reduceCtorEq, aa, V, ad, ag, af, ae, Mly.av, ah]; (repeat refine an ?_); (try refine .inl ?_); apply k0; clear k0; simp only [zP, V])
   refine am ?_
   apply k10; clear k10; refine kp [1, 2, 4, 5, 6, 7, 8, 9, 15, 21, 90] ?_
   refine ak hP hN rfl ?_
   iterate 3 (refine aj rfl fun _ k0 => ?_; simp only [zO, zT, acs, reduceCtorEq, aa, V, ad, ag, af, ae, Mly.av, ah]; (repeat refine an ?_); (try refine .inl ?_); apply k0; clear k0; simp only [zP, V])
   refine am ?_
   first
   | (refine ⟨_, _, ?_, ax [1, 2, 4, 5, 6, 7], s + 1, v + 1, by omega, rfl, ?_⟩
      · omega
      · rw [cY (by omega), hnew.1, hnew.2]; rfl)
   | (refine ⟨_, _, ?_, ax [1, 2, 4, 5, 6, 7], s + 1, v + 1, by omega, rfl, ?_⟩
      · omega
      · rw [cY (by omega), hold.1, hold.2]; rfl)
  (try simp only [zB, reduceCtorEq] at hc33)
  have hold := B6 hfn (by omega)
  refine ay ?_
  apply k31; clear k31; refine kp [1, 2, 4, 5, 6, 7, 8, 9, 15, 21, 90] ?_
  have hnr := jr (m := m) (cl := (m.cls i)) hsn
  refine ak hP hN rfl ?_
  iterate 5 (refine aj rfl fun _ k0 => ?_; simp only [zO, zT, acs, reduceCtorEq, aa, V, ad, ag, af, ae, Mly.av, ah]; (repeat refine an ?_); (try refine .inl ?_); apply k0; clear k0; simp only [zP, V])
  refine am ?_
  apply k10; clear k10; refine kp [1, 2, 4, 5, 6, 7, 8, 9, 15, 21, 90] ?_
  refine ak hP hN rfl ?_
  iterate 3 (refine aj rfl fun _ k0 => ?_; simp only [zO, zT, acs, reduceCtorEq, aa, V, ad, ag, af, ae, Mly.av, ah]; (repeat refine an ?_); (try refine .inl ?_); apply k0; clear k0; simp only [zP, V])
  refine am ?_
  first
  | (refine ⟨_, _, ?_, ax [1, 2, 4, 5, 6, 7], s + 1, v + 1, by omega, rfl, ?_⟩
     · omega
     · rw [cY (by omega), hnew.1, hnew.2]; rfl)
  | (refine ⟨_, _, ?_, ax [1, 2, 4, 5, 6, 7], s + 1, v + 1, by omega, rfl, ?_⟩
     · omega
     · rw [cY (by omega), hold.1, hold.2]; rfl)
 (try simp only [zB, reduceCtorEq] at hc9)
 refine aV ?_
 apply k4; clear k4; refine kp [1, 2, 4, 5, 6, 7, 15] ?_
 refine ai fun _ k35 => ?_
 refine cH 1 rfl ?_; simp only [aJ, bg, zS, aa, and_self, and_true, true_and, and_false, false_and, if_true, if_false, eq_self, reduceCtorEq, Nat.one_ne_zero, Nat.zero_ne_one]
 have hse : s = m.nx.length := by omega
 rw [hse, ← hnl, aE]
 refine ak hP hN rfl ?_
 iterate 2 (refine aj rfl fun _ k0 => ?_; simp only [zO, zT, acs, reduceCtorEq, aa, V, ad, ag, af, ae, Mly.av, ah]; (repeat refine an ?_); (try refine .inl ?_); apply k0; clear k0; simp only [zP, V])
 refine am ?_
 apply k35; clear k35; refine kp [1, 2, 4, 5, 6, 7, 15] ?_
 refine aG ?_
 refine ⟨nr, _, rfl, ?_⟩; simp only [zF, zP, aa, V, Mly.av, ah]
 exact VLE.of_eq rfl
theorem Ar (m : Mly) (s : Nat) (hi : m.inp ≤ 64) (hs : s < m.nx.length) (ho : m.ot.length = m.nx.length) : c7 Try.prog 62 [m.av, .one (.int .i64 (s : Int))] (.one (.int .i64 (jd m s))) := by
 refine aS Try.func62 rfl (by kernel_rfl) (Nat.le_of_ble_eq_true rfl) rfl fun C hP hN hB => ?_
 replace hN : C.N = 77 := hN
 simp only [bc, V]
 refine ai fun _ k1 => ?_
 refine ak hP hN rfl ?_
 iterate 2 (refine aj rfl fun _ k0 => ?_; simp only [zO, zT, acs, reduceCtorEq, aa, V, ad, ag, af, ae, Mly.av]; (repeat refine an ?_); (try refine .inl ?_); apply k0; clear k0; simp only [zP, V])
 refine am ?_
 apply k1; clear k1; refine kp [0, 1, 2, 4] ?_
 refine ai fun _ k2 => ?_
 refine ai fun _ k3 => ?_
 refine bf hP hN Try.mixed rfl ?_
 iterate 10 (refine aj rfl fun _ k0 => ?_; simp only [zO, zT, acs, reduceCtorEq, aa, V, ad, ag, af, ae, Mly.av]; (repeat refine an ?_); (try refine .inl ?_); apply k0; clear k0; simp only [zP, V])
 refine' aT (want := false) 9 rfl (m := 15) (by simp only [zP, aa, V]; exact rfl) (by kernel_rfl) rfl rfl rfl rfl rfl (fun hg4 => ?a4) ?b4 ?c4
 case a4 =>
  have hq4 := hg4; (try simp only [zB, reduceCtorEq] at hg4); simp only [zE]
  iterate 9 (refine bo rfl fun _ k0 => ?_; simp only [zO, zT, acs, reduceCtorEq, aa, V, ad, ag, af, ae, Mly.av]; (repeat refine an ?_); (try refine .inl ?_); apply k0; clear k0; simp only [zP, V])
  (refine aj rfl fun _ k0 => ?_; simp only [zO, zT, acs, reduceCtorEq, aa, V, ad, ag, af, ae, Mly.av]; (repeat refine an ?_); (try refine .inl ?_); apply k0; clear k0; simp only [zP, V])
  refine am ?_
  refine ⟨by simp only [zP, aa, V]; exact rfl, rfl, ?_, rfl⟩; (repeat refine aU rfl ?_); exact bu (by exact rfl) hq4
 case b4 => exact cJ
 simp only [bj, b6]
 refine am ?_
 refine ⟨by kernel_rfl, ?_⟩
 apply k3; clear k3; refine kp [0, 1, 2, 4, 25] ?_
 refine cd (fun hc5 => ?_) (fun hc5 => ?_)
 ·(try simp only [zB, reduceCtorEq] at hc5)
  refine ai fun _ k6 => ?_
  refine ak hP hN rfl ?_
  (refine aj rfl fun _ k0 => ?_; simp only [zO, zT, acs, reduceCtorEq, aa, V, ad, ag, af, ae, Mly.av]; (repeat refine an ?_); (try refine .inl ?_); apply k0; clear k0; simp only [zP, V])
  refine am ?_
  apply k6; clear k6; refine kp [0, 1, 2, 4, 25] ?_
  refine aG ?_
  refine ⟨nr, _, rfl, ?_⟩; simp only [zF, zP, aa, V, Mly.av]
  refine VLE.of_eq ?_
  refine congrArg (fun n => AV.one (AC.int IntKind.i64 n)) ?_
  symm
  first
  | exact cW hc5
  | exact cV hc5.1 hc5.2 (j := j) (by omega) (by unfold cb; omega)
  | exact lW hc5.1 hc5.2 fun a ha => hcells a (by omega)
 (try simp only [zB, reduceCtorEq] at hc5)
 refine ay ?_
 apply k2; clear k2; refine kp [0, 1, 2, 4, 25] ?_
 refine ai fun _ k7 => ?_
 refine ai fun _ k8 => ?_
 refine ak hP hN rfl ?_
 (refine aj rfl fun _ k0 => ?_; simp only [zO, zT, acs, reduceCtorEq, aa, V, ad, ag, af, ae, Mly.av]; (repeat refine an ?_); (try refine .inl ?_); apply k0; clear k0; simp only [zP, V])
 refine am ?_
 apply k8; clear k8; refine kp [0, 1, 2, 4, 5, 25] ?_
 refine az ?_
 refine ba (fun n9 s9 => ∃ (j : Nat), (∀ a, a < j → ¬ cb m s a) ∧ (j ≤ m.inp.toNat) ∧ n9 = m.inp.toNat - j ∧ s9 = { env := [(1, .one (.int .i64 (s : Int))), (2, .one (.ptr 0 0 0 0)), (5, .one (.int .i64 (j : Int)))], L := [.vars 24 [.int .i64 m.inp, .int .i64 m.st, .list (.list (.int .i64)) m.nx, .list (.list (.int .i64)) m.ot]] }) ?_ ?_
 ·exact ⟨_, _, ax [1, 2, 5], 0, fun i hi => by omega, Nat.zero_le _, rfl, rfl⟩
 rintro n9 s9 ⟨j, hcells, hj, rfl, rfl⟩
 refine ai fun _ k10 => ?_
 refine ai fun _ k11 => ?_
 refine ak hP hN rfl ?_
 iterate 4 (refine aj rfl fun _ k0 => ?_; simp only [zO, zT, acs, reduceCtorEq, aa, V, ad, ag, af, ae, Mly.av]; (repeat refine an ?_); (try refine .inl ?_); apply k0; clear k0; simp only [zP, V])
 refine am ?_
 apply k11; clear k11; refine kp [1, 2, 5, 29] ?_
 refine cd (fun hc12 => ?_) (fun hc12 => ?_)
 ·(try simp only [zB, reduceCtorEq] at hc12)
  refine ay ?_
  apply k10; clear k10; refine kp [1, 2, 5, 29] ?_
  refine ai fun _ k13 => ?_
  refine az ?_
  refine ai fun _ k14 => ?_
  refine bf hP hN Try.mixed rfl ?_
  iterate 10 (refine aj rfl fun _ k0 => ?_; simp only [zO, zT, acs, reduceCtorEq, aa, V, ad, ag, af, ae, Mly.av]; (repeat refine an ?_); (try refine .inl ?_); apply k0; clear k0; simp only [zP, V])
  refine' aT (want := false) 12 rfl (m := 41) (by simp only [zP, aa, V]; exact rfl) (by kernel_rfl) rfl rfl rfl rfl rfl (fun hg15 => ?a15) ?b15 ?c15
  case a15 =>
   have hq15 := hg15; (try simp only [zB, reduceCtorEq] at hg15); simp only [zE]
   iterate 12 (refine bo rfl fun _ k0 => ?_; simp only [zO, zT, acs, reduceCtorEq, aa, V, ad, ag, af, ae, Mly.av]; (repeat refine an ?_); (try refine .inl ?_); apply k0; clear k0; simp only [zP, V])
   (refine aj rfl fun _ k0 => ?_; simp only [zO, zT, acs, reduceCtorEq, aa, V, ad, ag, af, ae, Mly.av]; (repeat refine an ?_); (try refine .inl ?_); apply k0; clear k0; simp only [zP, V])
   refine am ?_
   refine ⟨by simp only [zP, aa, V]; exact rfl, rfl, ?_, rfl⟩; (repeat refine aU rfl ?_); exact bu (by exact rfl) hq15
  case b15 => exact cJ
  simp only [bj, b6]
  (refine aj rfl fun _ k0 => ?_; simp only [zO, zT, acs, reduceCtorEq, aa, V, ad, ag, af, ae, Mly.av]; (repeat refine an ?_); (try refine .inl ?_); apply k0; clear k0; simp only [zP, V])
  refine' aT (want := false) 9 rfl (m := 55) (by simp only [zP, aa, V]; exact rfl) (by kernel_rfl) rfl rfl rfl rfl rfl (fun hg16 => ?a16) ?b16 ?c16
  case a16 =>
   have hq16 := hg16; (try simp only [zB, reduceCtorEq] at hg16); simp only [zE]
   iterate 9 (refine bo rfl fun _ k0 => ?_; simp only [zO, zT, acs, reduceCtorEq, aa, V, ad, ag, af, ae, Mly.av]; (repeat refine an ?_); (try refine .inl ?_); apply k0; clear k0; simp only [zP, V])
   (refine aj rfl fun _ k0 => ?_; simp only [zO, zT, acs, reduceCtorEq, aa, V, ad, ag, af, ae, Mly.av]; (repeat refine an ?_); (try refine .inl ?_); apply k0; clear k0; simp only [zP, V])
   refine am ?_
   refine ⟨by simp only [zP, aa, V]; exact rfl, rfl, ?_, rfl⟩; (repeat refine aU rfl ?_); exact bu (by exact rfl) hq16
  case b16 => exact cJ
  simp only [bj, b6]
  (refine aj rfl fun _ k0 => ?_; simp only [zO, zT, acs, reduceCtorEq, aa, V, ad, ag, af, ae, Mly.av]; (repeat refine an ?_); (try refine .inl ?_); apply k0; clear k0; simp only [zP, V])
  refine' aT (want := false) 9 rfl (m := 66) (by simp only [zP, aa, V]; exact rfl) (by kernel_rfl) rfl rfl rfl rfl rfl (fun hg17 => ?a17) ?b17 ?c17
  case a17 =>
   have hq17 := hg17; (try simp only [zB, reduceCtorEq] at hg17); simp only [zE]
   iterate 9 (refine bo rfl fun _ k0 => ?_; simp only [zO, zT, acs, reduceCtorEq, aa, V, ad, ag, af, ae, Mly.av]; (repeat refine an ?_); (try refine .inl ?_); apply k0; clear k0; simp only [zP, V])
   (refine aj rfl fun _ k0 => ?_; simp only [zO, zT, acs, reduceCtorEq, aa, V, ad, ag, af, ae, Mly.av]; (repeat refine an ?_); (try refine .inl ?_); apply k0; clear k0; simp only [zP, V])
   refine am ?_
   refine ⟨by simp only [zP, aa, V]; exact rfl, rfl, ?_, rfl⟩; (repeat refine aU rfl ?_); exact bu (by exact rfl) hq17
  case b17 => exact cJ
  simp only [bj, b6]
  refine am ?_
  refine ⟨by kernel_rfl, ?_⟩
  apply k14; clear k14; refine kp [1, 2, 5, 29, 76] ?_
  refine cd (fun hc18 => ?_) (fun hc18 => ?_)
  ·(try simp only [zB, reduceCtorEq] at hc18)
   refine ai fun _ k19 => ?_
   refine ak hP hN rfl ?_
   (refine aj rfl fun _ k0 => ?_; simp only [zO, zT, acs, reduceCtorEq, aa, V, ad, ag, af, ae, Mly.av]; (repeat refine an ?_); (try refine .inl ?_); apply k0; clear k0; simp only [zP, V])
   refine am ?_
   apply k19; clear k19; refine kp [1, 2, 4, 5, 29, 76] ?_
   refine aG ?_
   refine ⟨nr, _, rfl, ?_⟩; simp only [zF, zP, aa, V, Mly.av]
   refine VLE.of_eq ?_
   refine congrArg (fun n => AV.one (AC.int IntKind.i64 n)) ?_
   symm
   first
   | exact cW hc5
   | exact cV hc5.1 hc5.2 (j := j) (by omega) (by unfold cb; omega)
   | exact lW hc5.1 hc5.2 fun a ha => hcells a (by omega)
  (try simp only [zB, reduceCtorEq] at hc18)
  refine ay ?_
  apply k13; clear k13; refine kp [1, 2, 5, 29, 76] ?_
  refine ak hP hN rfl ?_
  iterate 3 (refine aj rfl fun _ k0 => ?_; simp only [zO, zT, acs, reduceCtorEq, aa, V, ad, ag, af, ae, Mly.av]; (repeat refine an ?_); (try refine .inl ?_); apply k0; clear k0; simp only [zP, V])
  refine am ?_
  refine ⟨_, _, ?_, ax [1, 2, 5], j + 1, fun a ha => ?_, ?_, rfl, rfl⟩
  · omega
  · by_cases e : a = j
    · rw [e]; unfold cb; omega
    · exact hcells a (by omega)
  · omega
 (try simp only [zB, reduceCtorEq] at hc12)
 refine aV ?_
 apply k7; clear k7; refine kp [1, 2, 5, 29] ?_
 refine ai fun _ k20 => ?_
 refine ak hP hN rfl ?_
 (refine aj rfl fun _ k0 => ?_; simp only [zO, zT, acs, reduceCtorEq, aa, V, ad, ag, af, ae, Mly.av]; (repeat refine an ?_); (try refine .inl ?_); apply k0; clear k0; simp only [zP, V])
 refine am ?_
 apply k20; clear k20; refine kp [1, 2, 4, 5, 29] ?_
 refine aG ?_
 refine ⟨nr, _, rfl, ?_⟩; simp only [zF, zP, aa, V, Mly.av]
 refine VLE.of_eq ?_
 refine congrArg (fun n => AV.one (AC.int IntKind.i64 n)) ?_
 symm
 first
 | exact cW hc5
 | exact cV hc5.1 hc5.2 (j := j) (by omega) (by unfold cb; omega)
 | exact lW hc5.1 hc5.2 fun a ha => hcells a (by omega)
theorem rP (m : Mly) : c7 Try.prog 43 [m.av] (.one (.int .i64 (aR m))) := by
 refine aS Try.func43 rfl (by kernel_rfl) (Nat.le_of_ble_eq_true rfl) rfl fun C hP hN hB => ?_
 replace hN : C.N = 52 := hN
 simp only [bc, V]
 refine ai fun _ k1 => ?_
 refine ak hP hN rfl ?_
 iterate 2 (refine aj rfl fun _ k0 => ?_; simp only [zO, zT, acs, reduceCtorEq, aa, V, ad, ag, af, ae, Mly.av]; (repeat refine an ?_); (try refine .inl ?_); apply k0; clear k0; simp only [zP, V])
 refine am ?_
 apply k1; clear k1; refine kp [0, 1, 2] ?_
 refine ai fun _ k2 => ?_
 refine ai fun _ k3 => ?_
 refine ak hP hN rfl ?_
 iterate 4 (refine aj rfl fun _ k0 => ?_; simp only [zO, zT, acs, reduceCtorEq, aa, V, ad, ag, af, ae, Mly.av]; (repeat refine an ?_); (try refine .inl ?_); apply k0; clear k0; simp only [zP, V])
 refine' aT (want := false) 3 rfl (m := 8) (by simp only [zP, aa, V]; exact rfl) (by kernel_rfl) rfl rfl rfl rfl rfl (fun hg4 => ?a4) ?b4 ?c4
 case a4 =>
  have hq4 := hg4; (try simp only [zB, reduceCtorEq] at hg4); simp only [zE]
  iterate 3 (refine bo rfl fun _ k0 => ?_; simp only [zO, zT, acs, reduceCtorEq, aa, V, ad, ag, af, ae, Mly.av]; (repeat refine an ?_); (try refine .inl ?_); apply k0; clear k0; simp only [zP, V])
  (refine aj rfl fun _ k0 => ?_; simp only [zO, zT, acs, reduceCtorEq, aa, V, ad, ag, af, ae, Mly.av]; (repeat refine an ?_); (try refine .inl ?_); apply k0; clear k0; simp only [zP, V])
  refine am ?_
  refine ⟨by simp only [zP, aa, V]; exact rfl, rfl, ?_, rfl⟩; (repeat refine aU rfl ?_); exact bu (by exact rfl) hq4
 case b4 => exact cJ
 simp only [bj, b6]
 refine am ?_
 apply k3; clear k3; refine kp [0, 1, 2, 12] ?_
 refine cd (fun hc5 => ?_) (fun hc5 => ?_)
 ·(try simp only [zB, reduceCtorEq] at hc5)
  refine ai fun _ k6 => ?_
  refine ak hP hN rfl ?_
  (refine aj rfl fun _ k0 => ?_; simp only [zO, zT, acs, reduceCtorEq, aa, V, ad, ag, af, ae, Mly.av]; (repeat refine an ?_); (try refine .inl ?_); apply k0; clear k0; simp only [zP, V])
  refine am ?_
  apply k6; clear k6; refine kp [0, 1, 2, 12] ?_
  refine aG ?_
  refine ⟨nr, _, rfl, ?_⟩; simp only [zF, zP, aa, V, Mly.av]
  refine VLE.of_eq ?_
  refine congrArg (fun n => AV.one (AC.int IntKind.i64 n)) ?_
  symm
  unfold aR
  first
  | (rw [if_pos (by omega)]; done)
  | (rw [if_neg (by omega), if_pos (by omega)]; done)
  | (rw [if_neg (by omega), if_neg (by omega), if_pos (by omega)]; done)
  | (rw [if_neg (by omega), if_neg (by omega), if_neg (by omega), if_pos (by omega)]; done)
  | (rw [if_neg (by omega), if_neg (by omega), if_neg (by omega), if_neg (by omega), if_pos (by omega)]; done)
  | (rw [if_neg (by omega), if_neg (by omega), if_neg (by omega), if_neg (by omega), if_neg (by omega)]
     first
     | exact cA hrows (by omega) (by assumption)
     | exact cD fun i hi => hrows i (by omega))
 (try simp only [zB, reduceCtorEq] at hc5)
 refine ay ?_
 apply k2; clear k2; refine kp [0, 1, 2, 12] ?_
 refine ai fun _ k7 => ?_
 refine ai fun _ k8 => ?_
 refine ak hP hN rfl ?_
 iterate 4 (refine aj rfl fun _ k0 => ?_; simp only [zO, zT, acs, reduceCtorEq, aa, V, ad, ag, af, ae, Mly.av]; (repeat refine an ?_); (try refine .inl ?_); apply k0; clear k0; simp only [zP, V])
 refine am ?_
 apply k8; clear k8; refine kp [0, 1, 2, 12, 16] ?_
 refine cd (fun hc9 => ?_) (fun hc9 => ?_)
 ·(try simp only [zB, reduceCtorEq] at hc9)
  refine ai fun _ k10 => ?_
  refine ak hP hN rfl ?_
  (refine aj rfl fun _ k0 => ?_; simp only [zO, zT, acs, reduceCtorEq, aa, V, ad, ag, af, ae, Mly.av]; (repeat refine an ?_); (try refine .inl ?_); apply k0; clear k0; simp only [zP, V])
  refine am ?_
  apply k10; clear k10; refine kp [0, 1, 2, 12, 16] ?_
  refine aG ?_
  refine ⟨nr, _, rfl, ?_⟩; simp only [zF, zP, aa, V, Mly.av]
  refine VLE.of_eq ?_
  refine congrArg (fun n => AV.one (AC.int IntKind.i64 n)) ?_
  symm
  unfold aR
  first
  | (rw [if_pos (by omega)]; done)
  | (rw [if_neg (by omega), if_pos (by omega)]; done)
  | (rw [if_neg (by omega), if_neg (by omega), if_pos (by omega)]; done)
  | (rw [if_neg (by omega), if_neg (by omega), if_neg (by omega), if_pos (by omega)]; done)
  | (rw [if_neg (by omega), if_neg (by omega), if_neg (by omega), if_neg (by omega), if_pos (by omega)]; done)
  | (rw [if_neg (by omega), if_neg (by omega), if_neg (by omega), if_neg (by omega), if_neg (by omega)]
     first
     | exact cA hrows (by omega) (by assumption)
     | exact cD fun i hi => hrows i (by omega))
 (try simp only [zB, reduceCtorEq] at hc9)
 refine ay ?_
 apply k7; clear k7; refine kp [0, 1, 2, 12, 16] ?_
 refine ai fun _ k11 => ?_
 refine ai fun _ k12 => ?_
 refine ak hP hN rfl ?_
 iterate 4 (refine aj rfl fun _ k0 => ?_; simp only [zO, zT, acs, reduceCtorEq, aa, V, ad, ag, af, ae, Mly.av]; (repeat refine an ?_); (try refine .inl ?_); apply k0; clear k0; simp only [zP, V])
 refine am ?_
 apply k12; clear k12; refine kp [0, 1, 2, 12, 16, 20] ?_
 refine cd (fun hc13 => ?_) (fun hc13 => ?_)
 ·(try simp only [zB, reduceCtorEq] at hc13)
  refine ai fun _ k14 => ?_
  refine ak hP hN rfl ?_
  (refine aj rfl fun _ k0 => ?_; simp only [zO, zT, acs, reduceCtorEq, aa, V, ad, ag, af, ae, Mly.av]; (repeat refine an ?_); (try refine .inl ?_); apply k0; clear k0; simp only [zP, V])
  refine am ?_
  apply k14; clear k14; refine kp [0, 1, 2, 12, 16, 20] ?_
  refine aG ?_
  refine ⟨nr, _, rfl, ?_⟩; simp only [zF, zP, aa, V, Mly.av]
  refine VLE.of_eq ?_
  refine congrArg (fun n => AV.one (AC.int IntKind.i64 n)) ?_
  symm
  unfold aR
  first
  | (rw [if_pos (by omega)]; done)
  | (rw [if_neg (by omega), if_pos (by omega)]; done)
  | (rw [if_neg (by omega), if_neg (by omega), if_pos (by omega)]; done)
  | (rw [if_neg (by omega), if_neg (by omega), if_neg (by omega), if_pos (by omega)]; done)
  | (rw [if_neg (by omega), if_neg (by omega), if_neg (by omega), if_neg (by omega), if_pos (by omega)]; done)
  | (rw [if_neg (by omega), if_neg (by omega), if_neg (by omega), if_neg (by omega), if_neg (by omega)]
     first
     | exact cA hrows (by omega) (by assumption)
     | exact cD fun i hi => hrows i (by omega))
 (try simp only [zB, reduceCtorEq] at hc13)
 refine ay ?_
 apply k11; clear k11; refine kp [0, 1, 2, 12, 16, 20] ?_
 refine ai fun _ k15 => ?_
 refine ai fun _ k16 => ?_
 refine ak hP hN rfl ?_
 iterate 4 (refine aj rfl fun _ k0 => ?_; simp only [zO, zT, acs, reduceCtorEq, aa, V, ad, ag, af, ae, Mly.av]; (repeat refine an ?_); (try refine .inl ?_); apply k0; clear k0; simp only [zP, V])
 refine' aT (want := false) 6 rfl (m := 24) (by simp only [zP, aa, V]; exact rfl) (by kernel_rfl) rfl rfl rfl rfl rfl (fun hg17 => ?a17) ?b17 ?c17
 case a17 =>
  have hq17 := hg17; (try simp only [zB, reduceCtorEq] at hg17); simp only [zE]
  iterate 6 (refine bo rfl fun _ k0 => ?_; simp only [zO, zT, acs, reduceCtorEq, aa, V, ad, ag, af, ae, Mly.av]; (repeat refine an ?_); (try refine .inl ?_); apply k0; clear k0; simp only [zP, V])
  (refine aj rfl fun _ k0 => ?_; simp only [zO, zT, acs, reduceCtorEq, aa, V, ad, ag, af, ae, Mly.av]; (repeat refine an ?_); (try refine .inl ?_); apply k0; clear k0; simp only [zP, V])
  refine am ?_
  refine ⟨by simp only [zP, aa, V]; exact rfl, rfl, ?_, rfl⟩; (repeat refine aU rfl ?_); exact bu (by exact rfl) hq17
 case b17 => exact cJ
 simp only [bj, b6]
 refine am ?_
 apply k16; clear k16; refine kp [0, 1, 2, 12, 16, 20, 31] ?_
 refine cd (fun hc18 => ?_) (fun hc18 => ?_)
 ·(try simp only [zB, reduceCtorEq] at hc18)
  refine ai fun _ k19 => ?_
  refine ak hP hN rfl ?_
  (refine aj rfl fun _ k0 => ?_; simp only [zO, zT, acs, reduceCtorEq, aa, V, ad, ag, af, ae, Mly.av]; (repeat refine an ?_); (try refine .inl ?_); apply k0; clear k0; simp only [zP, V])
  refine am ?_
  apply k19; clear k19; refine kp [0, 1, 2, 12, 16, 20, 31] ?_
  refine aG ?_
  refine ⟨nr, _, rfl, ?_⟩; simp only [zF, zP, aa, V, Mly.av]
  refine VLE.of_eq ?_
  refine congrArg (fun n => AV.one (AC.int IntKind.i64 n)) ?_
  symm
  unfold aR
  first
  | (rw [if_pos (by omega)]; done)
  | (rw [if_neg (by omega), if_pos (by omega)]; done)
  | (rw [if_neg (by omega), if_neg (by omega), if_pos (by omega)]; done)
  | (rw [if_neg (by omega), if_neg (by omega), if_neg (by omega), if_pos (by omega)]; done)
  | (rw [if_neg (by omega), if_neg (by omega), if_neg (by omega), if_neg (by omega), if_pos (by omega)]; done)
  | (rw [if_neg (by omega), if_neg (by omega), if_neg (by omega), if_neg (by omega), if_neg (by omega)]
     first
     | exact cA hrows (by omega) (by assumption)
     | exact cD fun i hi => hrows i (by omega))
 (try simp only [zB, reduceCtorEq] at hc18)
 refine ay ?_
 apply k15; clear k15; refine kp [0, 1, 2, 12, 16, 20, 31] ?_
 refine ai fun _ k20 => ?_
 refine ai fun _ k21 => ?_
 refine ak hP hN rfl ?_
 iterate 7 (refine aj rfl fun _ k0 => ?_; simp only [zO, zT, acs, reduceCtorEq, aa, V, ad, ag, af, ae, Mly.av]; (repeat refine an ?_); (try refine .inl ?_); apply k0; clear k0; simp only [zP, V])
 refine am ?_
 apply k21; clear k21; refine kp [0, 1, 2, 12, 16, 20, 31, 38] ?_
 refine cd (fun hc22 => ?_) (fun hc22 => ?_)
 ·(try simp only [zB, reduceCtorEq] at hc22)
  refine ai fun _ k23 => ?_
  refine ak hP hN rfl ?_
  (refine aj rfl fun _ k0 => ?_; simp only [zO, zT, acs, reduceCtorEq, aa, V, ad, ag, af, ae, Mly.av]; (repeat refine an ?_); (try refine .inl ?_); apply k0; clear k0; simp only [zP, V])
  refine am ?_
  apply k23; clear k23; refine kp [0, 1, 2, 12, 16, 20, 31, 38] ?_
  refine aG ?_
  refine ⟨nr, _, rfl, ?_⟩; simp only [zF, zP, aa, V, Mly.av]
  refine VLE.of_eq ?_
  refine congrArg (fun n => AV.one (AC.int IntKind.i64 n)) ?_
  symm
  unfold aR
  first
  | (rw [if_pos (by omega)]; done)
  | (rw [if_neg (by omega), if_pos (by omega)]; done)
  | (rw [if_neg (by omega), if_neg (by omega), if_pos (by omega)]; done)
  | (rw [if_neg (by omega), if_neg (by omega), if_neg (by omega), if_pos (by omega)]; done)
  | (rw [if_neg (by omega), if_neg (by omega), if_neg (by omega), if_neg (by omega), if_pos (by omega)]; done)
  | (rw [if_neg (by omega), if_neg (by omega), if_neg (by omega), if_neg (by omega), if_neg (by omega)]
     first
     | exact cA hrows (by omega) (by assumption)
     | exact cD fun i hi => hrows i (by omega))
 (try simp only [zB, reduceCtorEq] at hc22)
 refine ay ?_
 apply k20; clear k20; refine kp [0, 1, 2, 12, 16, 20, 31, 38] ?_
 refine ai fun _ k24 => ?_
 refine ai fun _ k25 => ?_
 refine ak hP hN rfl ?_
 (refine aj rfl fun _ k0 => ?_; simp only [zO, zT, acs, reduceCtorEq, aa, V, ad, ag, af, ae, Mly.av]; (repeat refine an ?_); (try refine .inl ?_); apply k0; clear k0; simp only [zP, V])
 refine am ?_
 apply k25; clear k25; refine kp [0, 1, 2, 3, 12, 16, 20, 31, 38] ?_
 refine az ?_
 refine ba (fun n26 s26 => ∃ (k : Nat), (k ≤ m.nx.length) ∧ (∀ i, i < k → jd m i = 0) ∧ n26 = m.nx.length - k ∧ s26 = { env := [(1, .one (.ptr 0 0 0 0)), (3, .one (.int .i64 (k : Int)))], L := [.vars 24 [.int .i64 m.inp, .int .i64 m.st, .list (.list (.int .i64)) m.nx, .list (.list (.int .i64)) m.ot]] }) ?_ ?_
 ·exact ⟨_, _, ax [1, 3], 0, Nat.zero_le _, fun i hi => by omega, rfl, rfl⟩
 rintro n26 s26 ⟨k, hk, hrows, rfl, rfl⟩
 refine ai fun _ k27 => ?_
 refine ai fun _ k28 => ?_
 refine ak hP hN rfl ?_
 iterate 5 (refine aj rfl fun _ k0 => ?_; simp only [zO, zT, acs, reduceCtorEq, aa, V, ad, ag, af, ae, Mly.av]; (repeat refine an ?_); (try refine .inl ?_); apply k0; clear k0; simp only [zP, V])
 refine am ?_
 apply k28; clear k28; refine kp [1, 3, 43] ?_
 refine cd (fun hc29 => ?_) (fun hc29 => ?_)
 ·(try simp only [zB, reduceCtorEq] at hc29)
  refine ay ?_
  apply k27; clear k27; refine kp [1, 3, 43] ?_
  refine ai fun _ k30 => ?_
  refine az ?_
  refine ai fun _ k31 => ?_
  refine ak hP hN rfl ?_
  iterate 2 (refine aj rfl fun _ k0 => ?_; simp only [zO, zT, acs, reduceCtorEq, aa, V, ad, ag, af, ae, Mly.av]; (repeat refine an ?_); (try refine .inl ?_); apply k0; clear k0; simp only [zP, V])
  refine aj rfl fun _ k0 => ?_
  refine aK (h := aB (Ar m k (by omega) (by omega) (by omega))) rfl rfl (by first | exact rfl | (simp only [ev, zP, aa, V]; exact rfl)) (by simp only [zV, acs, reduceCtorEq, aa, V, ad, ag, af, ae, Mly.av]) ?_
  apply k0; clear k0; simp only [zP, V]
  (refine aj rfl fun _ k0 => ?_; simp only [zO, zT, acs, reduceCtorEq, aa, V, ad, ag, af, ae, Mly.av]; (repeat refine an ?_); (try refine .inl ?_); apply k0; clear k0; simp only [zP, V])
  refine am ?_
  apply k31; clear k31; refine kp [1, 3, 4, 43] ?_
  refine ai fun _ k32 => ?_
  refine ak hP hN rfl ?_
  iterate 2 (refine aj rfl fun _ k0 => ?_; simp only [zO, zT, acs, reduceCtorEq, aa, V, ad, ag, af, ae, Mly.av]; (repeat refine an ?_); (try refine .inl ?_); apply k0; clear k0; simp only [zP, V])
  refine am ?_
  apply k32; clear k32; refine kp [1, 3, 4, 43, 50] ?_
  refine cd (fun hc33 => ?_) (fun hc33 => ?_)
  ·(try simp only [zB, reduceCtorEq] at hc33)
   refine ai fun _ k34 => ?_
   refine ak hP hN rfl ?_
   iterate 2 (refine aj rfl fun _ k0 => ?_; simp only [zO, zT, acs, reduceCtorEq, aa, V, ad, ag, af, ae, Mly.av]; (repeat refine an ?_); (try refine .inl ?_); apply k0; clear k0; simp only [zP, V])
   refine am ?_
   apply k34; clear k34; refine kp [1, 2, 3, 4, 43, 50] ?_
   refine aG ?_
   refine ⟨nr, _, rfl, ?_⟩; simp only [zF, zP, aa, V, Mly.av]
   refine VLE.of_eq ?_
   refine congrArg (fun n => AV.one (AC.int IntKind.i64 n)) ?_
   symm
   unfold aR
   first
   | (rw [if_pos (by omega)]; done)
   | (rw [if_neg (by omega), if_pos (by omega)]; done)
   | (rw [if_neg (by omega), if_neg (by omega), if_pos (by omega)]; done)
   | (rw [if_neg (by omega), if_neg (by omega), if_neg (by omega), if_pos (by omega)]; done)
   | (rw [if_neg (by omega), if_neg (by omega), if_neg (by omega), if_neg (by omega), if_pos (by omega)]; done)
   | (rw [if_neg (by omega), if_neg (by omega), if_neg (by omega), if_neg (by omega), if_neg (by omega)]
      first
      | exact cA hrows (by omega) (by assumption)
      | exact cD fun i hi => hrows i (by omega))
  (try simp only [zB, reduceCtorEq] at hc33)
  refine ay ?_
  apply k30; clear k30; refine kp [1, 3, 4, 43, 50] ?_
  refine ak hP hN rfl ?_
  iterate 3 (refine aj rfl fun _ k0 => ?_; simp only [zO, zT, acs, reduceCtorEq, aa, V, ad, ag, af, ae, Mly.av]; (repeat refine an ?_); (try refine .inl ?_); apply k0; clear k0; simp only [zP, V])
  refine am ?_
  refine ⟨_, _, ?_, ax [1, 3], k + 1, by omega, fun i hi => ?_, rfl, rfl⟩
  · omega
  · by_cases e : i = k
    · rw [e]; first | assumption | omega
    · exact hrows i (by omega)
 (try simp only [zB, reduceCtorEq] at hc29)
 refine aV ?_
 apply k24; clear k24; refine kp [1, 3, 43] ?_
 refine ai fun _ k35 => ?_
 refine ak hP hN rfl ?_
 (refine aj rfl fun _ k0 => ?_; simp only [zO, zT, acs, reduceCtorEq, aa, V, ad, ag, af, ae, Mly.av]; (repeat refine an ?_); (try refine .inl ?_); apply k0; clear k0; simp only [zP, V])
 refine am ?_
 apply k35; clear k35; refine kp [1, 2, 3, 43] ?_
 refine aG ?_
 refine ⟨nr, _, rfl, ?_⟩; simp only [zF, zP, aa, V, Mly.av]
 refine VLE.of_eq ?_
 refine congrArg (fun n => AV.one (AC.int IntKind.i64 n)) ?_
 symm
 unfold aR
 first
 | (rw [if_pos (by omega)]; done)
 | (rw [if_neg (by omega), if_pos (by omega)]; done)
 | (rw [if_neg (by omega), if_neg (by omega), if_pos (by omega)]; done)
 | (rw [if_neg (by omega), if_neg (by omega), if_neg (by omega), if_pos (by omega)]; done)
 | (rw [if_neg (by omega), if_neg (by omega), if_neg (by omega), if_neg (by omega), if_pos (by omega)]; done)
 | (rw [if_neg (by omega), if_neg (by omega), if_neg (by omega), if_neg (by omega), if_neg (by omega)]
    first
    | exact cA hrows (by omega) (by assumption)
    | exact cD fun i hi => hrows i (by omega))
theorem xU (m : Mly) : c7 Try.prog 87 [m.av, .one (.int .i64 (m.nx.length : Int))] (.tup [.one (.list (.int .i64) (if aR m = 0 then m.cls m.nx.length else [])), .one (.int .i64 (aR m))]) := by
 refine aS Try.func87 rfl (by kernel_rfl) (Nat.le_of_ble_eq_true rfl) rfl fun C hP hN hB => ?_
 replace hN : C.N = 34 := hN
 simp only [bc, V]
 refine ai fun _ k1 => ?_
 refine ak hP hN rfl ?_
 iterate 3 (refine aj rfl fun _ k0 => ?_; simp only [zO, zT, acs, reduceCtorEq, aa, V, ad, ag, af, ae, Mly.av, ah]; (repeat refine an ?_); (try refine .inl ?_); apply k0; clear k0; simp only [zP, V])
 refine am ?_
 apply k1; clear k1; refine kp [0, 1, 2, 4, 5] ?_
 refine ai fun _ k2 => ?_
 refine ai fun _ k3 => ?_
 refine ak hP hN rfl ?_
 (refine aj rfl fun _ k0 => ?_; simp only [zO, zT, acs, reduceCtorEq, aa, V, ad, ag, af, ae, Mly.av, ah]; (repeat refine an ?_); (try refine .inl ?_); apply k0; clear k0; simp only [zP, V])
 refine aj rfl fun _ k0 => ?_
 refine aK (h := aB (rP m)) rfl rfl (by first | exact rfl | (simp only [ev, zP, aa, V]; exact rfl)) (by simp only [zV, acs, reduceCtorEq, aa, V, ad, ag, af, ae, Mly.av, ah]) ?_
 apply k0; clear k0; simp only [zP, V]
 (refine aj rfl fun _ k0 => ?_; simp only [zO, zT, acs, reduceCtorEq, aa, V, ad, ag, af, ae, Mly.av, ah]; (repeat refine an ?_); (try refine .inl ?_); apply k0; clear k0; simp only [zP, V])
 refine am ?_
 apply k3; clear k3; refine kp [0, 1, 2, 4, 5, 6] ?_
 refine ai fun _ k4 => ?_
 refine ak hP hN rfl ?_
 iterate 2 (refine aj rfl fun _ k0 => ?_; simp only [zO, zT, acs, reduceCtorEq, aa, V, ad, ag, af, ae, Mly.av, ah]; (repeat refine an ?_); (try refine .inl ?_); apply k0; clear k0; simp only [zP, V])
 refine am ?_
 apply k4; clear k4; refine kp [0, 1, 2, 4, 5, 6, 12] ?_
 refine cd (fun hc5 => ?_) (fun hc5 => ?_)
 ·(try simp only [zB, reduceCtorEq] at hc5)
  have hv : ¬ aR m = 0 := hc5
  refine ai fun _ k6 => ?_
  refine ak hP hN rfl ?_
  iterate 3 (refine aj rfl fun _ k0 => ?_; simp only [zO, zT, acs, reduceCtorEq, aa, V, ad, ag, af, ae, Mly.av, ah]; (repeat refine an ?_); (try refine .inl ?_); apply k0; clear k0; simp only [zP, V])
  refine am ?_
  apply k6; clear k6; refine kp [0, 1, 2, 4, 5, 6, 12] ?_
  refine aG ?_
  refine ⟨nr, _, rfl, ?_⟩; simp only [zF, zP, aa, V, Mly.av, ah]
  first
  | (rw [if_neg hv]; exact bS ⟨aQ (bl rfl), aQ (.refl _), trivial⟩)
  | (rw [if_pos hv, hv, hke]; exact VLE.of_eq rfl)
 (try simp only [zB, reduceCtorEq] at hc5)
 have hv : aR m = 0 := by simpa using hc5
 have hm := fc hv
 have hn2 := hm.n2
 refine ay ?_
 apply k2; clear k2; refine kp [0, 1, 2, 4, 5, 6, 12] ?_
 refine ai fun _ k7 => ?_
 refine ak hP hN rfl ?_
 iterate 3 (refine aj rfl fun _ k0 => ?_; simp only [zO, zT, acs, reduceCtorEq, aa, V, ad, ag, af, ae, Mly.av, ah]; (repeat refine an ?_); (try refine .inl ?_); apply k0; clear k0; simp only [zP, V])
 (refine aj rfl fun _ k0 => ?_; simp only [zE, op1, ev, lkp, d6, bP, d9, bq, Ty.size, Ty.dflt, reduceCtorEq, aa, V, ad, ag, af, ae, Try.el41, Try.td41, Mly.av, ah]; (repeat refine an ?_); refine Or.inr (Or.inr (k0 _ ?_)); clear k0; simp only [zP, V])
 (refine aj rfl fun _ k0 => ?_; simp only [zO, zT, acs, reduceCtorEq, aa, V, ad, ag, af, ae, Mly.av, ah]; (repeat refine an ?_); (try refine .inl ?_); apply k0; clear k0; simp only [zP, V])
 refine am ?_
 apply k7; clear k7; refine kp [0, 1, 2, 4, 5, 6, 7, 12] ?_
 refine ai fun _ k8 => ?_
 refine ai fun _ k9 => ?_
 refine ak hP hN rfl ?_
 (refine aj rfl fun _ k0 => ?_; simp only [zO, zT, acs, reduceCtorEq, aa, V, ad, ag, af, ae, Mly.av, ah]; (repeat refine an ?_); (try refine .inl ?_); apply k0; clear k0; simp only [zP, V])
 refine am ?_
 apply k9; clear k9; refine kp [0, 1, 2, 4, 5, 6, 7, 8, 12] ?_
 refine az ?_
 refine ba (fun n10 s10 => ∃ (k : Nat), (k ≤ m.nx.length) ∧ n10 = m.nx.length - k ∧ s10 = { env := [(1, .one (.int .i64 (m.nx.length : Int))), (2, .one (.ptr 0 0 0 0)), (4, .one .nils), (5, .one (.int .i64 0)), (7, .one (.list (.int .i64) (m.cls k))), (8, .one (.int .i64 (k : Int)))], L := [.vars 24 [.int .i64 m.inp, .int .i64 m.st, .list (.list (.int .i64)) m.nx, .list (.list (.int .i64)) m.ot]] }) ?_ ?_
 ·exact ⟨_, _, ax [1, 2, 4, 5, 7, 8], 0, Nat.zero_le _, rfl, rfl⟩
 rintro n10 s10 ⟨k, hk, rfl, rfl⟩
 refine ai fun _ k11 => ?_
 refine ai fun _ k12 => ?_
 refine ak hP hN rfl ?_
 iterate 4 (refine aj rfl fun _ k0 => ?_; simp only [zO, zT, acs, reduceCtorEq, aa, V, ad, ag, af, ae, Mly.av, ah]; (repeat refine an ?_); (try refine .inl ?_); apply k0; clear k0; simp only [zP, V])
 refine' aT (want := true) 5 rfl (m := 21) (by simp only [zP, aa, V]; exact rfl) (by kernel_rfl) rfl rfl rfl rfl rfl (fun hg13 => ?a13) ?b13 ?c13
 case a13 =>
  have hq13 := hg13; (try simp only [zB, reduceCtorEq] at hg13); simp only [zE]
  iterate 5 (refine bo rfl fun _ k0 => ?_; simp only [zO, zT, acs, reduceCtorEq, aa, V, ad, ag, af, ae, Mly.av, ah]; (repeat refine an ?_); (try refine .inl ?_); apply k0; clear k0; simp only [zP, V])
  (refine aj rfl fun _ k0 => ?_; simp only [zO, zT, acs, reduceCtorEq, aa, V, ad, ag, af, ae, Mly.av, ah]; (repeat refine an ?_); (try refine .inl ?_); apply k0; clear k0; simp only [zP, V])
  refine am ?_
  refine ⟨by simp only [zP, aa, V]; exact rfl, rfl, ?_, rfl⟩; (repeat refine aU rfl ?_); exact bu (by exact rfl) hq13
 case b13 => exact cJ
 simp only [bj, b6]
 refine am ?_
 apply k12; clear k12; refine kp [1, 2, 4, 5, 7, 8, 27] ?_
 refine cd (fun hc14 => ?_) (fun hc14 => ?_)
 ·(try simp only [zB, reduceCtorEq] at hc14)
  refine ay ?_
  apply k11; clear k11; refine kp [1, 2, 4, 5, 7, 8, 27] ?_
  refine ai fun _ k15 => ?_
  refine az ?_
  refine ak hP hN rfl ?_
  iterate 2 (refine aj rfl fun _ k0 => ?_; simp only [zO, zT, acs, reduceCtorEq, aa, V, ad, ag, af, ae, Mly.av, ah]; (repeat refine an ?_); (try refine .inl ?_); apply k0; clear k0; simp only [zP, V])
  refine aj rfl fun _ k0 => ?_
  refine aK (h := aB (Aj m k hm)) rfl rfl (by first | exact rfl | (simp only [ev, zP, aa, V]; exact rfl)) (by simp only [zV, acs, reduceCtorEq, aa, V, ad, ag, af, ae, Mly.av, ah]) ?_
  apply k0; clear k0; simp only [zP, V]
  (refine aj rfl fun _ k0 => ?_; simp only [zO, zT, acs, reduceCtorEq, aa, V, ad, ag, af, ae, Mly.av, ah]; (repeat refine an ?_); (try refine .inl ?_); apply k0; clear k0; simp only [zP, V])
  refine am ?_
  apply k15; clear k15; refine kp [1, 2, 4, 5, 7, 8, 27] ?_
  refine ak hP hN rfl ?_
  iterate 3 (refine aj rfl fun _ k0 => ?_; simp only [zO, zT, acs, reduceCtorEq, aa, V, ad, ag, af, ae, Mly.av, ah]; (repeat refine an ?_); (try refine .inl ?_); apply k0; clear k0; simp only [zP, V])
  refine am ?_
  refine ⟨_, _, ?_, ax [1, 2, 4, 5, 7, 8], k + 1, by omega, rfl, rfl⟩
  omega
 (try simp only [zB, reduceCtorEq] at hc14)
 have hke : k = m.nx.length := by omega
 refine aV ?_
 apply k8; clear k8; refine kp [1, 2, 4, 5, 7, 8, 27] ?_
 refine ai fun _ k16 => ?_
 refine ak hP hN rfl ?_
 iterate 3 (refine aj rfl fun _ k0 => ?_; simp only [zO, zT, acs, reduceCtorEq, aa, V, ad, ag, af, ae, Mly.av, ah]; (repeat refine an ?_); (try refine .inl ?_); apply k0; clear k0; simp only [zP, V])
 refine am ?_
 apply k16; clear k16; refine kp [1, 2, 4, 5, 7, 8, 27] ?_
 refine aG ?_
 refine ⟨nr, _, rfl, ?_⟩; simp only [zF, zP, aa, V, Mly.av, ah]
 first
 | (rw [if_neg hv]; exact bS ⟨aQ (bl rfl), aQ (.refl _), trivial⟩)
 | (rw [if_pos hv, hv, hke]; exact VLE.of_eq rfl)
theorem zu (m : Mly) : c7 Try.prog 78 [m.av] (.tup [.one (.list (.int .i64) (if aR m = 0 then m.cls m.nx.length else [])), .one (.int .i64 (aR m))]) := by
 refine aS Try.func78 rfl (by kernel_rfl) (Nat.le_of_ble_eq_true rfl) rfl fun C hP hN hB => ?_
 replace hN : C.N = 11 := hN
 simp only [bc, V]
 refine ai fun _ k1 => ?_
 refine ak hP hN rfl ?_
 iterate 3 (refine aj rfl fun _ k0 => ?_; simp only [zO, zT, acs, reduceCtorEq, aa, V, ad, ag, af, ae, Mly.av]; (repeat refine an ?_); (try refine .inl ?_); apply k0; clear k0; simp only [zP, V])
 refine am ?_
 apply k1; clear k1; refine kp [0, 1, 2, 3] ?_
 refine ai fun _ k2 => ?_
 refine ak hP hN rfl ?_
 iterate 4 (refine aj rfl fun _ k0 => ?_; simp only [zO, zT, acs, reduceCtorEq, aa, V, ad, ag, af, ae, Mly.av]; (repeat refine an ?_); (try refine .inl ?_); apply k0; clear k0; simp only [zP, V])
 refine aj rfl fun _ k0 => ?_
 refine aK (h := aB (xU m)) rfl rfl (by first | exact rfl | (simp only [ev, zP, aa, V]; exact rfl)) (by simp only [zV, acs, reduceCtorEq, aa, V, ad, ag, af, ae, Mly.av]) ?_
 apply k0; clear k0; simp only [zP, V]
 iterate 4 (refine aj rfl fun _ k0 => ?_; simp only [zO, zT, acs, reduceCtorEq, aa, V, ad, ag, af, ae, Mly.av]; (repeat refine an ?_); (try refine .inl ?_); apply k0; clear k0; simp only [zP, V])
 refine am ?_
 apply k2; clear k2; refine kp [0, 1, 2, 3] ?_
 refine aG ?_
 refine ⟨nr, _, rfl, ?_⟩; simp only [zF, zP, aa, V, Mly.av]
 refine VLE.of_eq ?_
 rfl
set_option maxHeartbeats 2500000 in
theorem vj (m : Mly) : c7 Try.prog 63 [m.av] (.tup [if aR m = 0 then .agg [.int .i64 m.inp, .int .i64 0, .list (.list (.int .i64)) (mmF m).2, .junk] else Mly.av ⟨0, 0, [], []⟩, .one (.int .i64 (aR m))]) := by
 refine aS Try.func63 rfl (by kernel_rfl) (Nat.le_of_ble_eq_true rfl) rfl fun C hP hN hB => ?_
 replace hN : C.N = 130 := hN
 simp only [bc, V]
 refine ai fun _ k1 => ?_
 refine ak hP hN rfl ?_
 iterate 3 (refine aj rfl fun _ k0 => ?_; simp only [zO, zT, acs, reduceCtorEq, aa, V, ad, ag, af, ae, Mly.av, ah, bv]; (repeat refine an ?_); (try refine .inl ?_); apply k0; clear k0; simp only [zP, V])
 refine am ?_
 apply k1; clear k1; refine kp [0, 1, 2, 3] ?_
 refine ai fun _ k2 => ?_
 refine ak hP hN rfl ?_
 (refine aj rfl fun _ k0 => ?_; simp only [zO, zT, acs, reduceCtorEq, aa, V, ad, ag, af, ae, Mly.av, ah, bv]; (repeat refine an ?_); (try refine .inl ?_); apply k0; clear k0; simp only [zP, V])
 refine aj rfl fun _ k0 => ?_
 refine aK (h := aB (zu m)) rfl rfl (by first | exact rfl | (simp only [ev, zP, aa, V]; exact rfl)) (by simp only [zV, acs, reduceCtorEq, aa, V, ad, ag, af, ae, Mly.av, ah, bv]) ?_
 apply k0; clear k0; simp only [zP, V]
 iterate 5 (refine aj rfl fun _ k0 => ?_; simp only [zO, zT, acs, reduceCtorEq, aa, V, ad, ag, af, ae, Mly.av, ah, bv]; (repeat refine an ?_); (try refine .inl ?_); apply k0; clear k0; simp only [zP, V])
 refine am ?_
 apply k2; clear k2; refine kp [0, 1, 2, 3, 4, 5] ?_
 refine ai fun _ k3 => ?_
 refine ai fun _ k4 => ?_
 refine ak hP hN rfl ?_
 iterate 2 (refine aj rfl fun _ k0 => ?_; simp only [zO, zT, acs, reduceCtorEq, aa, V, ad, ag, af, ae, Mly.av, ah, bv]; (repeat refine an ?_); (try refine .inl ?_); apply k0; clear k0; simp only [zP, V])
 refine am ?_
 apply k4; clear k4; refine kp [0, 1, 2, 3, 4, 5, 21] ?_
 refine cd (fun hc5 => ?_) (fun hc5 => ?_)
 ·(try simp only [zB, reduceCtorEq] at hc5)
  have hv : ¬ aR m = 0 := hc5
  refine ai fun _ k6 => ?_
  refine ak hP hN rfl ?_
  iterate 4 (refine aj rfl fun _ k0 => ?_; simp only [zO, zT, acs, reduceCtorEq, aa, V, ad, ag, af, ae, Mly.av, ah, bv]; (repeat refine an ?_); (try refine .inl ?_); apply k0; clear k0; simp only [zP, V])
  refine am ?_
  apply k6; clear k6; refine kp [0, 1, 2, 3, 4, 5, 21] ?_
  refine aG ?_
  refine ⟨nr, _, rfl, ?_⟩; simp only [zF, zP, aa, V, Mly.av, ah, bv]
  first
  | (rw [if_neg hv]; exact bS ⟨d5 ⟨.refl _, .refl _, bl rfl, bl rfl, trivial⟩, aQ (.refl _), trivial⟩)
  | (rw [if_pos hv, hv, ← hRX]; exact bS ⟨d5 ⟨.refl _, .refl _, .refl _, fun C L σ w u hu => ⟨hu.1, trivial⟩, trivial⟩, aQ (.refl _), trivial⟩)
 (try simp only [zB, reduceCtorEq] at hc5)
 have hv : aR m = 0 := by simpa using hc5
 have hm := fc hv
 have hi1 := hm.i1; have hi2 := hm.i2; have hn1 := hm.n1; have hn2 := hm.n2; have hs1 := hm.s1; have hs2 := hm.s2; have ol := hm.ol
 have hcl := jZ m m.nx.length
 refine iF 4 (v' := .one (.list (.int .i64) (m.cls m.nx.length))) rfl (VLE.of_eq (by show AV.one (.list (.int .i64) (if aR m = 0 then m.cls m.nx.length else [])) = _; rw [if_pos hv])) ?_
 refine ay ?_
 apply k3; clear k3; refine kp [0, 1, 2, 3, 4, 5, 21] ?_
 refine ai fun _ k7 => ?_
 refine ak hP hN rfl ?_
 iterate 2 (refine aj rfl fun _ k0 => ?_; simp only [zO, zT, acs, reduceCtorEq, aa, V, ad, ag, af, ae, Mly.av, ah, bv]; (repeat refine an ?_); (try refine .inl ?_); apply k0; clear k0; simp only [zP, V])
 (refine aj rfl fun _ k0 => ?_; simp only [zO, zT, acs, reduceCtorEq, aa, V, ad, ag, af, ae, Mly.av, ah, bv]; (repeat refine an ?_); refine Or.inr (Or.inl (k0 _ ?_)); clear k0; simp only [zP, V])
 (refine aj rfl fun _ k0 => ?_; simp only [zO, zT, acs, reduceCtorEq, aa, V, ad, ag, af, ae, Mly.av, ah, bv]; (repeat refine an ?_); (try refine .inl ?_); apply k0; clear k0; simp only [zP, V])
 refine am ?_
 apply k7; clear k7; refine kp [0, 1, 2, 3, 4, 5, 6, 21] ?_
 refine ai fun _ k8 => ?_
 refine ak hP hN rfl ?_
 iterate 3 (refine aj rfl fun _ k0 => ?_; simp only [zO, zT, acs, reduceCtorEq, aa, V, ad, ag, af, ae, Mly.av, ah, bv]; (repeat refine an ?_); (try refine .inl ?_); apply k0; clear k0; simp only [zP, V])
 (refine aj rfl fun _ k0 => ?_; simp only [zE, op1, ev, lkp, d6, bP, bG, d8, Nat.mul_one, bQ, cI, acs, Ty.dflt, zG, bV, cj, eT, eg, cM, db, eC, Nat.div_one, cL, df, Ty.size, bq, dite_true, d9, reduceCtorEq, aa, V, ad, ag, af, ae, Try.el22, Try.el41, Try.st24, Try.td2, Try.td22, Try.td24, Try.td3, Try.td41, Mly.av, ah, bv]; (repeat refine an ?_); (try refine .inl ?_); apply k0; clear k0; simp only [zP, V])
 (refine aj rfl fun _ k0 => ?_; simp only [zO, zT, acs, reduceCtorEq, aa, V, ad, ag, af, ae, Mly.av, ah, bv]; (repeat refine an ?_); (try refine .inl ?_); apply k0; clear k0; simp only [zP, V])
 refine am ?_
 apply k8; clear k8; refine kp [0, 1, 2, 3, 4, 5, 6, 7, 21] ?_
 refine ai fun _ k9 => ?_
 refine ai fun _ k10 => ?_
 refine ak hP hN rfl ?_
 (refine aj rfl fun _ k0 => ?_; simp only [zO, zT, acs, reduceCtorEq, aa, V, ad, ag, af, ae, Mly.av, ah, bv]; (repeat refine an ?_); (try refine .inl ?_); apply k0; clear k0; simp only [zP, V])
 refine am ?_
 apply k10; clear k10; refine kp [0, 1, 2, 3, 4, 5, 6, 7, 8, 21] ?_
 refine az ?_
 refine ba (fun n11 s11 => ∃ (k : Nat), (k ≤ m.nx.length) ∧ n11 = m.nx.length - k ∧ s11 = { env := [(1, .one (.ptr 0 0 0 0)), (2, .one (.ptr 1 0 0 0)), (3, .one (.int .i64 0)), (4, .one (.list (.int .i64) (m.cls m.nx.length))), (6, .one (.row 2 0)), (7, .one (.row 3 0)), (8, .one (.int .i64 (k : Int)))], L := [.vars 24 [.int .i64 m.inp, .int .i64 m.st, .list (.list (.int .i64)) m.nx, .list (.list (.int .i64)) m.ot], .vars 24 [.int .i64 0, .int .i64 0, .nils, .nils], .row (.int .i64) 3 0 [m.st], .row (.int .i64) 3 0 (prL (fun _ => -1) m.nx.length k 0)] }) ?_ ?_
 ·refine ⟨_, _, ax [1, 2, 3, 4, 6, 7, 8], 0, Nat.zero_le _, rfl, ?_⟩
  rw [yJ]; rfl
 rintro n11 s11 ⟨k, hk, rfl, rfl⟩
 refine ai fun _ k12 => ?_
 refine ai fun _ k13 => ?_
 refine ak hP hN rfl ?_
 iterate 4 (refine aj rfl fun _ k0 => ?_; simp only [zO, zT, acs, reduceCtorEq, aa, V, ad, ag, af, ae, Mly.av, ah, bv, qc]; (repeat refine an ?_); (try refine .inl ?_); apply k0; clear k0; simp only [zP, V])
 refine am ?_
 apply k13; clear k13; refine kp [1, 2, 3, 4, 6, 7, 8, 34] ?_
 refine cd (fun hc14 => ?_) (fun hc14 => ?_)
 ·(try simp only [zB, reduceCtorEq] at hc14)
  refine ay ?_
  apply k12; clear k12; refine kp [1, 2, 3, 4, 6, 7, 8, 34] ?_
  refine ai fun _ k15 => ?_
  refine az ?_
  have hp9 := ub (f := fun _ => (-1 : Int)) (n := m.nx.length) (s := k) (by omega)
  refine ak hP hN rfl ?_
  iterate 4 (refine aj rfl fun _ k0 => ?_; simp only [zO, zT, acs, reduceCtorEq, aa, V, ad, ag, af, ae, Mly.av, ah, bv, qc]; (repeat refine an ?_); (try refine .inl ?_); apply k0; clear k0; simp only [zP, V])
  refine am ?_
  apply k15; clear k15; refine kp [1, 2, 3, 4, 6, 7, 8, 34] ?_
  refine ak hP hN rfl ?_
  iterate 3 (refine aj rfl fun _ k0 => ?_; simp only [zO, zT, acs, reduceCtorEq, aa, V, ad, ag, af, ae, Mly.av, ah, bv]; (repeat refine an ?_); (try refine .inl ?_); apply k0; clear k0; simp only [zP, V])
  refine am ?_
  refine ⟨_, _, ?_, ax [1, 2, 3, 4, 6, 7, 8], k + 1, by omega, rfl, ?_⟩
  · omega
  · rw [hp9, ← rO]; rfl
 (try simp only [zB, reduceCtorEq] at hc14)
 refine aV ?_
 apply k9; clear k9; refine kp [1, 2, 3, 4, 6, 7, 8, 34] ?_
 refine ai fun _ k16 => ?_
 have hc0 : 0 ≤ (m.cls m.nx.length).getD m.st.toNat 0 ∧ (m.cls m.nx.length).getD m.st.toNat 0 < m.nx.length := uk hm ⟨hs1, hs2⟩
 have hke : k = m.nx.length := by omega
 have hset0 : (gl m []).set ((m.cls m.nx.length).getD m.st.toNat 0).toNat 0 = gl m [m.st] := rM (m := m) (O := []) (t := m.st) (c := ((m.cls m.nx.length).getD m.st.toNat 0).toNat) (by omega) (by show (m.cls m.nx.length).getD m.st.toNat 0 = _; omega) (by show (-1 : Int) < 0; omega)
 rw [hke, uD, show (List.range m.nx.length).map (fun _ => (-1 : Int)) = gl m [] by rw [xH]; simp [List.map_const']]
 refine ak hP hN rfl ?_
 iterate 8 (refine aj rfl fun _ k0 => ?_; simp only [zO, zT, acs, reduceCtorEq, aa, V, ad, ag, af, ae, Mly.av, ah, bv]; (repeat refine an ?_); (try refine .inl ?_); apply k0; clear k0; simp only [zP, V, hset0])
 refine am ?_
 apply k16; clear k16; refine kp [1, 2, 3, 4, 6, 7, 8, 34] ?_
 refine ai fun _ k17 => ?_
 refine ak hP hN rfl ?_
 iterate 5 (refine aj rfl fun _ k0 => ?_; simp only [zO, zT, acs, reduceCtorEq, aa, V, ad, ag, af, ae, Mly.av, ah, bv]; (repeat refine an ?_); (try refine .inl ?_); apply k0; clear k0; simp only [zP, V])
 refine am ?_
 apply k17; clear k17; refine kp [1, 2, 3, 4, 6, 7, 8, 9, 34] ?_
 refine ai fun _ k18 => ?_
 refine ai fun _ k19 => ?_
 refine ak hP hN rfl ?_
 (refine aj rfl fun _ k0 => ?_; simp only [zO, zT, acs, reduceCtorEq, aa, V, ad, ag, af, ae, Mly.av, ah, bv]; (repeat refine an ?_); (try refine .inl ?_); apply k0; clear k0; simp only [zP, V])
 refine am ?_
 apply k19; clear k19; refine kp [1, 2, 3, 4, 6, 7, 8, 9, 10, 34] ?_
 refine az ?_
 refine eU 4 2 (.list (.int .i64)) 41 (by decide) rfl rfl ?_; simp only [zS, au, aC, aH, aZ, Nat.zero_add, V]
 refine eU 4 3 (.list (.int .i64)) 41 (by decide) rfl rfl ?_; simp only [zS, au, aC, aH, aZ, Nat.zero_add, V]
 refine ba (fun n20 s20 => ∃ (i v y z : Nat) (O : List Int) (RX RY : BV), (i ≤ O.length) ∧ (MO m O) ∧ (RX.length = i ∧ RY.length = i) ∧ (nI m (m.nx.length + 1 - i) i (O, RX) = mmF m) ∧ n20 = m.nx.length + 1 - i ∧ s20 = { env := [(1, .one (.ptr 0 0 0 0)), (2, .one (.ptr 1 0 0 0)), (3, .one (.int .i64 0)), (4, .one (.list (.int .i64) (m.cls m.nx.length))), (6, .one (.row 2 v)), (7, .one (.row 3 0)), (9, .one (.ptr 4 0 0 0)), (10, .one (.int .i64 (i : Int)))], L := [.vars 24 [.int .i64 m.inp, .int .i64 m.st, .list (.list (.int .i64)) m.nx, .list (.list (.int .i64)) m.ot], .vars 24 [.int .i64 0, .int .i64 0, .nils, .nils], .row (.int .i64) 3 v O, .row (.int .i64) 3 0 (gl m O), .vars 24 [.int .i64 m.inp, .int .i64 0, .row 5 y, .row 6 z], .row (.list (.int .i64)) 41 y RX, .row (.list (.int .i64)) 41 z RY] }) ?_ ?_
 ·exact ⟨_, _, ax [1, 2, 3, 4, 6, 7, 9, 10], 0, 0, 0, 0, [m.st], [], [], Nat.zero_le _, ⟨fun o ho => by rw [List.mem_singleton] at ho; rw [ho]; exact ⟨hs1, hs2⟩, List.pairwise_singleton _ _⟩, ⟨rfl, rfl⟩, rfl, rfl, rfl⟩
 rintro n20 s20 ⟨i, v, y, z, O, RX, RY, hi, hO, hRl0, hgo, rfl, rfl⟩
 refine ai fun _ k21 => ?_
 refine ai fun _ k22 => ?_
 refine ak hP hN rfl ?_
 iterate 4 (refine aj rfl fun _ k0 => ?_; simp only [zO, zT, acs, reduceCtorEq, aa, V, ad, ag, af, ae, Mly.av, ah, bv]; (repeat refine an ?_); (try refine .inl ?_); apply k0; clear k0; simp only [zP, V])
 refine am ?_
 apply k22; clear k22; refine kp [1, 2, 3, 4, 6, 7, 9, 10, 53] ?_
 refine cd (fun hc23 => ?_) (fun hc23 => ?_)
 ·(try simp only [zB, reduceCtorEq] at hc23)
  refine ay ?_
  apply k21; clear k21; refine kp [1, 2, 3, 4, 6, 7, 9, 10, 53] ?_
  refine ai fun _ k24 => ?_
  refine az ?_
  refine ai fun _ k25 => ?_
  have hil : i < O.length := by omega
  have hxr := hO.rng _ (bh hil)
  have hOl := hO.len
  refine ak hP hN rfl ?_
  iterate 2 (refine aj rfl fun _ k0 => ?_; simp only [zO, zT, acs, reduceCtorEq, aa, V, ad, ag, af, ae, Mly.av, ah, bv]; (repeat refine an ?_); (try refine .inl ?_); apply k0; clear k0; simp only [zP, V])
  refine am ?_
  apply k25; clear k25; refine kp [1, 2, 3, 4, 6, 7, 9, 10, 11, 12, 53] ?_
  refine ai fun _ k26 => ?_
  refine ai fun _ k27 => ?_
  refine ak hP hN rfl ?_
  (refine aj rfl fun _ k0 => ?_; simp only [zO, zT, acs, reduceCtorEq, aa, V, ad, ag, af, ae, Mly.av, ah, bv]; (repeat refine an ?_); (try refine .inl ?_); apply k0; clear k0; simp only [zP, V])
  refine am ?_
  apply k27; clear k27; refine kp [1, 2, 3, 4, 6, 7, 9, 10, 11, 12, 13, 53] ?_
  refine az ?_
  refine eI 11 (.int .i64) 3 (by decide) rfl ?_; simp only [au, aC, aH, aZ, Nat.zero_add, V]
  refine eI 12 (.int .i64) 3 (by decide) rfl ?_; simp only [au, aC, aH, aZ, Nat.zero_add, V]
  refine ba (fun n28 s28 => ∃ (a v2 w1 w2 : Nat) (RO : List Int), ((a : Int) ≤ m.inp) ∧ (RO.length = a) ∧ n28 = m.inp.toNat - a ∧ s28 = { env := [(1, .one (.ptr 0 0 0 0)), (2, .one (.ptr 1 0 0 0)), (3, .one (.int .i64 0)), (4, .one (.list (.int .i64) (m.cls m.nx.length))), (6, .one (.row 2 v2)), (7, .one (.row 3 0)), (9, .one (.ptr 4 0 0 0)), (10, .one (.int .i64 (i : Int))), (11, .one (.row 7 w1)), (12, .one (.row 8 w2)), (13, .one (.int .i64 (a : Int))), (53, .one (.bool true))], L := [.vars 24 [.int .i64 m.inp, .int .i64 m.st, .list (.list (.int .i64)) m.nx, .list (.list (.int .i64)) m.ot], .vars 24 [.int .i64 0, .int .i64 0, .nils, .nils], .row (.int .i64) 3 v2 (cZ m (O.getD i 0) O a).1, .row (.int .i64) 3 0 (gl m (cZ m (O.getD i 0) O a).1), .vars 24 [.int .i64 m.inp, .int .i64 0, .row 5 y, .row 6 z], .row (.list (.int .i64)) 41 y RX, .row (.list (.int .i64)) 41 z RY, .row (.int .i64) 3 w1 (cZ m (O.getD i 0) O a).2, .row (.int .i64) 3 w2 RO] }) ?_ ?_
  ·refine ⟨_, _, ax [1, 2, 3, 4, 6, 7, 9, 10, 11, 12, 13, 53], 0, v, 0, 0, [], by omega, rfl, rfl, ?_⟩
   rw [decide_eq_true (show (i : Int) < (O.length : Int) by omega)]; rfl
  rintro n28 s28 ⟨a, v2, w1, w2, RO, ha, hRO, rfl, rfl⟩
  refine ai fun _ k29 => ?_
  refine ai fun _ k30 => ?_
  refine ak hP hN rfl ?_
  iterate 4 (refine aj rfl fun _ k0 => ?_; simp only [zO, zT, acs, reduceCtorEq, aa, V, ad, ag, af, ae, Mly.av, ah, bv]; (repeat refine an ?_); (try refine .inl ?_); apply k0; clear k0; simp only [zP, V])
  refine am ?_
  apply k30; clear k30; refine kp [1, 2, 3, 4, 6, 7, 9, 10, 11, 12, 13, 53, 59] ?_
  refine cd (fun hc31 => ?_) (fun hc31 => ?_)
  ·(try simp only [zB, reduceCtorEq] at hc31)
   refine ay ?_
   apply k29; clear k29; refine kp [1, 2, 3, 4, 6, 7, 9, 10, 11, 12, 13, 53, 59] ?_
   refine ai fun _ k32 => ?_
   refine az ?_
   refine ai fun _ k33 => ?_
   obtain ⟨hR1, hR2, rr, hR3⟩ := kB hm hxr hO a (by omega)
   have hRl := hR1.len
   have hgx : (cZ m (O.getD i 0) O a).1.getD i 0 = (O.getD i 0) := by rw [hR3]; simp [List.getD, List.getElem?_append_left hil]
   have hil2 : i < (cZ m (O.getD i 0) O a).1.length := by rw [hR3, aq]; omega
   have q1 := hm.rl (O.getD i 0).toNat (by omega)
   have hnr := hm.nr (O.getD i 0).toNat a (by omega) (by omega)
   have hct : 0 ≤ (m.cls m.nx.length).getD ((m.nx.getD (O.getD i 0).toNat []).getD a 0).toNat 0 ∧ (m.cls m.nx.length).getD ((m.nx.getD (O.getD i 0).toNat []).getD a 0).toNat 0 < m.nx.length := uk hm (t := (m.nxt (O.getD i 0) (a : Int))) hnr
   have hgn : ∀ Z, (gl m Z).getD ((m.cls m.nx.length).getD ((m.nx.getD (O.getD i 0).toNat []).getD a 0).toNat 0).toNat 0 = nmO m Z (cAt m (m.nxt (O.getD i 0) (a : Int))) := fun Z => (xS (by omega)).trans (congrArg (nmO m Z) (by show _ = (m.cls m.nx.length).getD ((m.nx.getD (O.getD i 0).toNat []).getD a 0).toNat 0; omega))
   refine bf hP hN Try.mixed rfl ?_
   iterate 12 (refine aj rfl fun _ k0 => ?_; simp only [zO, zT, acs, reduceCtorEq, aa, V, ad, ag, af, ae, Mly.av, ah, bv, hgx]; (repeat refine an ?_); (try refine .inl ?_); apply k0; clear k0; simp only [zP, V])
   refine am ?_
   refine ⟨by kernel_rfl, ?_⟩
   apply k33; clear k33; refine kp [1, 2, 3, 4, 6, 7, 9, 10, 11, 12, 13, 14, 53, 59] ?_
   refine ai fun _ k34 => ?_
   refine ai fun _ k35 => ?_
   refine ak hP hN rfl ?_
   iterate 8 (refine aj rfl fun _ k0 => ?_; simp only [zO, zT, acs, reduceCtorEq, aa, V, ad, ag, af, ae, Mly.av, ah, bv, hgn]; (repeat refine an ?_); (try refine .inl ?_); apply k0; clear k0; simp only [zP, V])
   refine am ?_
   apply k35; clear k35; refine kp [1, 2, 3, 4, 6, 7, 9, 10, 11, 12, 13, 14, 53, 59, 80] ?_
   refine cd (fun hc36 => ?_) (fun hc36 => ?_)
   ·(try simp only [zB, reduceCtorEq] at hc36)
    have hnm : nmO m (cZ m (O.getD i 0) O a).1 (cAt m (m.nxt (O.getD i 0) (a : Int))) < 0 := hc36
    have hA : mmA m (cZ m (O.getD i 0) O a).1 (m.nxt (O.getD i 0) (a : Int)) = (cZ m (O.getD i 0) O a).1 ++ [(m.nxt (O.getD i 0) (a : Int))] := if_pos hnm
    refine ai fun _ k37 => ?_
    have hset1 : (gl m (cZ m (O.getD i 0) O a).1).set ((m.cls m.nx.length).getD ((m.nx.getD (O.getD i 0).toNat []).getD a 0).toNat 0).toNat ((cZ m (O.getD i 0) O a).1.length : Int) = gl m ((cZ m (O.getD i 0) O a).1 ++ [(m.nxt (O.getD i 0) (a : Int))]) := rM (by omega) (by show (m.cls m.nx.length).getD ((m.nx.getD (O.getD i 0).toNat []).getD a 0).toNat 0 = _; omega) (by rw [show ((((m.cls m.nx.length).getD ((m.nx.getD (O.getD i 0).toNat []).getD a 0).toNat 0).toNat : Nat) : Int) = cAt m (m.nxt (O.getD i 0) (a : Int)) by show _ = (m.cls m.nx.length).getD ((m.nx.getD (O.getD i 0).toNat []).getD a 0).toNat 0; omega]; exact hnm)
    refine ak hP hN rfl ?_
    iterate 9 (refine aj rfl fun _ k0 => ?_; simp only [zO, zT, acs, reduceCtorEq, aa, V, ad, ag, af, ae, Mly.av, ah, bv, hgn]; (repeat refine an ?_); (try refine .inl ?_); apply k0; clear k0; simp only [zP, V, hset1])
    refine am ?_
    apply k37; clear k37; refine kp [1, 2, 3, 4, 6, 7, 9, 10, 11, 12, 13, 14, 53, 59, 80] ?_
    refine ak hP hN rfl ?_
    iterate 5 (refine aj rfl fun _ k0 => ?_; simp only [zO, zT, acs, reduceCtorEq, aa, V, ad, ag, af, ae, Mly.av, ah, bv]; (repeat refine an ?_); (try refine .inl ?_); apply k0; clear k0; simp only [zP, V])
    refine am ?_
    apply k34; clear k34; refine kp [1, 2, 3, 4, 6, 7, 9, 10, 11, 12, 13, 14, 53, 59, 80] ?_
    refine ai fun _ k38 => ?_
    refine ak hP hN rfl ?_
    iterate 11 (refine aj rfl fun _ k0 => ?_; simp only [zO, zT, acs, reduceCtorEq, aa, V, ad, ag, af, ae, Mly.av, ah, bv, hgn]; (repeat refine an ?_); (try refine .inl ?_); apply k0; clear k0; simp only [zP, V])
    refine am ?_
    apply k38; clear k38; refine kp [1, 2, 3, 4, 6, 7, 9, 10, 11, 12, 13, 14, 53, 59, 80] ?_
    have q2 := hm.ql (O.getD i 0).toNat (by omega)
    have hgx2 : ((cZ m (O.getD i 0) O a).1 ++ [((m.nx.getD (O.getD i 0).toNat []).getD a 0)]).getD i 0 = (O.getD i 0) := (lH hil2).trans hgx
    refine bf hP hN Try.mixed rfl ?_
    iterate 15 (refine aj rfl fun _ k0 => ?_; simp only [zO, zT, acs, reduceCtorEq, aa, V, ad, ag, af, ae, Mly.av, ah, bv, hgx, hgx2, aq]; (repeat refine an ?_); (try refine .inl ?_); apply k0; clear k0; simp only [zP, V])
    refine am ?_
    refine ⟨by kernel_rfl, ?_⟩
    apply k32; clear k32; refine kp [1, 2, 3, 4, 6, 7, 9, 10, 11, 12, 13, 14, 53, 59, 80] ?_
    refine ak hP hN rfl ?_
    iterate 3 (refine aj rfl fun _ k0 => ?_; simp only [zO, zT, acs, reduceCtorEq, aa, V, ad, ag, af, ae, Mly.av, ah, bv]; (repeat refine an ?_); (try refine .inl ?_); apply k0; clear k0; simp only [zP, V])
    refine am ?_
    first
    | (refine ⟨_, _, ?_, ax [1, 2, 3, 4, 6, 7, 9, 10, 11, 12, 13, 53], a + 1, v2 + 1, w1 + 1, w2 + 1, RO ++ [(m.ot.getD (O.getD i 0).toNat []).getD a 0], by omega, by rw [aq, hRO]; rfl, rfl, ?_⟩
       · omega
       · rw [fZ]; unfold qZ; rw [hA]; rfl)
    | (refine ⟨_, _, ?_, ax [1, 2, 3, 4, 6, 7, 9, 10, 11, 12, 13, 53], a + 1, v2, w1 + 1, w2 + 1, RO ++ [(m.ot.getD (O.getD i 0).toNat []).getD a 0], by omega, by rw [aq, hRO]; rfl, rfl, ?_⟩
       · omega
       · rw [fZ]; unfold qZ; rw [hA]; rfl)
   (try simp only [zB, reduceCtorEq] at hc36)
   have hnm : ¬ nmO m (cZ m (O.getD i 0) O a).1 (cAt m (m.nxt (O.getD i 0) (a : Int))) < 0 := by have h9 : 0 ≤ nmO m (cZ m (O.getD i 0) O a).1 (cAt m (m.nxt (O.getD i 0) (a : Int))) := hc36; omega
   have hA : mmA m (cZ m (O.getD i 0) O a).1 (m.nxt (O.getD i 0) (a : Int)) = (cZ m (O.getD i 0) O a).1 := if_neg hnm
   refine ay ?_
   apply k34; clear k34; refine kp [1, 2, 3, 4, 6, 7, 9, 10, 11, 12, 13, 14, 53, 59, 80] ?_
   refine ai fun _ k39 => ?_
   refine ak hP hN rfl ?_
   iterate 11 (refine aj rfl fun _ k0 => ?_; simp only [zO, zT, acs, reduceCtorEq, aa, V, ad, ag, af, ae, Mly.av, ah, bv, hgn]; (repeat refine an ?_); (try refine .inl ?_); apply k0; clear k0; simp only [zP, V])
   refine am ?_
   apply k39; clear k39; refine kp [1, 2, 3, 4, 6, 7, 9, 10, 11, 12, 13, 14, 53, 59, 80] ?_
   have q2 := hm.ql (O.getD i 0).toNat (by omega)
   have hgx2 : ((cZ m (O.getD i 0) O a).1 ++ [((m.nx.getD (O.getD i 0).toNat []).getD a 0)]).getD i 0 = (O.getD i 0) := (lH hil2).trans hgx
   refine bf hP hN Try.mixed rfl ?_
   iterate 15 (refine aj rfl fun _ k0 => ?_; simp only [zO, zT, acs, reduceCtorEq, aa, V, ad, ag, af, ae, Mly.av, ah, bv, hgx, hgx2, aq]; (repeat refine an ?_); (try refine .inl ?_); apply k0; clear k0; simp only [zP, V])
   refine am ?_
   refine ⟨by kernel_rfl, ?_⟩
   apply k32; clear k32; refine kp [1, 2, 3, 4, 6, 7, 9, 10, 11, 12, 13, 14, 53, 59, 80] ?_
   refine ak hP hN rfl ?_
   iterate 3 (refine aj rfl fun _ k0 => ?_; simp only [zO, zT, acs, reduceCtorEq, aa, V, ad, ag, af, ae, Mly.av, ah, bv]; (repeat refine an ?_); (try refine .inl ?_); apply k0; clear k0; simp only [zP, V])
   refine am ?_
   first
   | (refine ⟨_, _, ?_, ax [1, 2, 3, 4, 6, 7, 9, 10, 11, 12, 13, 53], a + 1, v2 + 1, w1 + 1, w2 + 1, RO ++ [(m.ot.getD (O.getD i 0).toNat []).getD a 0], by omega, by rw [aq, hRO]; rfl, rfl, ?_⟩
      · omega
      · rw [fZ]; unfold qZ; rw [hA]; rfl)
   | (refine ⟨_, _, ?_, ax [1, 2, 3, 4, 6, 7, 9, 10, 11, 12, 13, 53], a + 1, v2, w1 + 1, w2 + 1, RO ++ [(m.ot.getD (O.getD i 0).toNat []).getD a 0], by omega, by rw [aq, hRO]; rfl, rfl, ?_⟩
      · omega
      · rw [fZ]; unfold qZ; rw [hA]; rfl)
  (try simp only [zB, reduceCtorEq] at hc31)
  have hae : m.inp.toNat = a := by omega
  refine aV ?_
  apply k26; clear k26; refine kp [1, 2, 3, 4, 6, 7, 9, 10, 11, 12, 13, 53, 59] ?_
  refine ai fun _ k40 => ?_
  refine cH 7 rfl ?_; simp only [aJ, bg, zS, aa, and_self, and_true, true_and, and_false, false_and, if_true, if_false, eq_self, reduceCtorEq, Nat.one_ne_zero, Nat.zero_ne_one]
  refine ak hP hN rfl ?_
  iterate 7 (refine aj rfl fun _ k0 => ?_; simp only [zO, zT, acs, reduceCtorEq, aa, V, ad, ag, af, ae, Mly.av, ah, bv]; (repeat refine an ?_); (try refine .inl ?_); apply k0; clear k0; simp only [zP, V])
  refine am ?_
  apply k40; clear k40; refine kp [1, 2, 3, 4, 6, 7, 9, 10, 11, 12, 13, 53, 59] ?_
  refine cH 8 rfl ?_; simp only [aJ, bg, zS, aa, and_self, and_true, true_and, and_false, false_and, if_true, if_false, eq_self, reduceCtorEq, Nat.one_ne_zero, Nat.zero_ne_one]
  refine ak hP hN rfl ?_
  iterate 7 (refine aj rfl fun _ k0 => ?_; simp only [zO, zT, acs, reduceCtorEq, aa, V, ad, ag, af, ae, Mly.av, ah, bv]; (repeat refine an ?_); (try refine .inl ?_); apply k0; clear k0; simp only [zP, V])
  refine am ?_
  apply k24; clear k24; refine kp [1, 2, 3, 4, 6, 7, 9, 10, 11, 12, 13, 53, 59] ?_
  refine cE [1, 2, 3, 4, 6, 7, 9, 10] ?_
  simp only [bZ, lkp, zE, reduceCtorEq, aa]
  refine cF (n := 8) (L1 := [_, _, _, _, _, _, _, _]) rfl rfl (by rw [hB]; decide) rfl rfl ?_
  refine cF (n := 7) (L1 := [_, _, _, _, _, _, _]) rfl rfl (by rw [hB]; decide) rfl rfl ?_
  obtain ⟨hR1, hR2, rr, hR3⟩ := kB hm hxr hO a (by omega)
  have hRl := hR1.len
  have hil2 : i < (cZ m (O.getD i 0) O a).1.length := by rw [hR3, aq]; omega
  refine ak hP hN rfl ?_
  iterate 3 (refine aj rfl fun _ k0 => ?_; simp only [zO, zT, acs, reduceCtorEq, aa, V, ad, ag, af, ae, Mly.av, ah, bv]; (repeat refine an ?_); (try refine .inl ?_); apply k0; clear k0; simp only [zP, V])
  refine am ?_
  refine ⟨_, _, ?_, ax [1, 2, 3, 4, 6, 7, 9, 10], i + 1, v2, y + 1, z + 1, (cZ m (O.getD i 0) O a).1, RX ++ [(cZ m (O.getD i 0) O a).2], RY ++ [RO], by omega, hR1, ⟨by rw [aq, hRl0.1]; rfl, by rw [aq, hRl0.2]; rfl⟩, ?_, rfl, rfl⟩
  · omega
  · rw [← hgo, show m.nx.length + 1 - i = (m.nx.length + 1 - (i + 1)) + 1 by omega, pr hil, hae]
 (try simp only [zB, reduceCtorEq] at hc23)
 have hie : i = O.length := by omega
 have hfin := r7 (m := m) (f := m.nx.length + 1 - i) (i := i) (p := (O, RX)) (by show ¬ i < O.length; omega)
 have hRX : RX = (mmF m).2 := by rw [← hgo, hfin]
 refine aV ?_
 apply k18; clear k18; refine kp [1, 2, 3, 4, 6, 7, 9, 10, 53] ?_
 refine ai fun _ k41 => ?_
 refine jP 5 4 rfl rfl ?_; simp only [aJ, bg, frC, zS, aa, and_self, and_true, true_and, and_false, false_and, if_true, if_false, eq_self, reduceCtorEq, Nat.one_ne_zero, Nat.zero_ne_one]
 refine jP 6 4 rfl rfl ?_; simp only [aJ, bg, frC, zS, aa, and_self, and_true, true_and, and_false, false_and, if_true, if_false, eq_self, reduceCtorEq, Nat.one_ne_zero, Nat.zero_ne_one]
 refine ak hP hN rfl ?_
 iterate 3 (refine aj rfl fun _ k0 => ?_; simp only [zO, zT, acs, reduceCtorEq, aa, V, ad, ag, af, ae, Mly.av, ah, bv]; (repeat refine an ?_); (try refine .inl ?_); apply k0; clear k0; simp only [zP, V])
 refine am ?_
 apply k41; clear k41; refine kp [1, 2, 3, 4, 6, 7, 9, 10, 53] ?_
 refine aG ?_
 refine ⟨nr, _, rfl, ?_⟩; simp only [zF, zP, aa, V, Mly.av, ah, bv]
 first
 | (rw [if_neg hv]; exact bS ⟨d5 ⟨.refl _, .refl _, bl rfl, bl rfl, trivial⟩, aQ (.refl _), trivial⟩)
 | (rw [if_pos hv, hv, ← hRX]; exact bS ⟨d5 ⟨.refl _, .refl _, .refl _, fun C L σ w u hu => ⟨hu.1, trivial⟩, trivial⟩, aQ (.refl _), trivial⟩)
theorem AE (m : Mly) (hv : aR m = 0) : c7 Try.prog 63 [m.av] (.tup [.agg [.int .i64 m.inp, .int .i64 0, .list (.list (.int .i64)) (mmF m).2, .junk], .one (.int .i64 0)]) := by
  have h := vj m
  rw [if_pos hv, hv] at h; exact h
theorem B2 (m : Mly) (hv : ¬ aR m = 0) : c7 Try.prog 63 [m.av] (.tup [Mly.av ⟨0, 0, [], []⟩, .one (.int .i64 (aR m))]) := by
  have h := vj m
  rw [if_neg hv] at h; exact h
theorem w8 (m : Mly) (hv : aR m = 0) : c7 Try.prog 44 [m.av] (.one (.bool (mmB m))) := by
 refine aS Try.func44 rfl (by kernel_rfl) (Nat.le_of_ble_eq_true rfl) rfl fun C hP hN hB => ?_
 replace hN : C.N = 21 := hN
 simp only [bc, V]
 refine ai fun _ k1 => ?_
 refine ak hP hN rfl ?_
 iterate 2 (refine aj rfl fun _ k0 => ?_; simp only [zO, zT, acs, reduceCtorEq, aa, V, ad, ag, af, ae, Mly.av, ah]; (repeat refine an ?_); (try refine .inl ?_); apply k0; clear k0; simp only [zP, V])
 refine am ?_
 apply k1; clear k1; refine kp [0, 1, 2] ?_
 refine ai fun _ k2 => ?_
 refine ak hP hN rfl ?_
 (refine aj rfl fun _ k0 => ?_; simp only [zO, zT, acs, reduceCtorEq, aa, V, ad, ag, af, ae, Mly.av, ah]; (repeat refine an ?_); (try refine .inl ?_); apply k0; clear k0; simp only [zP, V])
 refine aj rfl fun _ k0 => ?_
 refine aK (h := aB (AE m hv)) rfl rfl (by first | exact rfl | (simp only [ev, zP, aa, V]; exact rfl)) (by simp only [zV, acs, reduceCtorEq, aa, V, ad, ag, af, ae, Mly.av, ah]) ?_
 apply k0; clear k0; simp only [zP, V]
 iterate 6 (refine aj rfl fun _ k0 => ?_; simp only [zO, zT, acs, reduceCtorEq, aa, V, ad, ag, af, ae, Mly.av, ah]; (repeat refine an ?_); (try refine .inl ?_); apply k0; clear k0; simp only [zP, V])
 refine am ?_
 apply k2; clear k2; refine kp [0, 1, 2, 3, 4] ?_
 refine ai fun _ k3 => ?_
 refine ak hP hN rfl ?_
 iterate 3 (refine aj rfl fun _ k0 => ?_; simp only [zO, zT, acs, reduceCtorEq, aa, V, ad, ag, af, ae, Mly.av, ah]; (repeat refine an ?_); (try refine .inl ?_); apply k0; clear k0; simp only [zP, V])
 refine' aT (want := true) 7 rfl (m := 12) (by simp only [zP, aa, V]; exact rfl) (by kernel_rfl) rfl rfl rfl rfl rfl (fun hg4 => ?a4) ?b4 ?c4
 case a4 =>
  have hq4 := hg4; (try simp only [zB, reduceCtorEq] at hg4); simp only [zE]
  iterate 7 (refine bo rfl fun _ k0 => ?_; simp only [zO, zT, acs, reduceCtorEq, aa, V, ad, ag, af, ae, Mly.av, ah]; (repeat refine an ?_); (try refine .inl ?_); apply k0; clear k0; simp only [zP, V])
  (refine aj rfl fun _ k0 => ?_; simp only [zO, zT, acs, reduceCtorEq, aa, V, ad, ag, af, ae, Mly.av, ah]; (repeat refine an ?_); (try refine .inl ?_); apply k0; clear k0; simp only [zP, V])
  refine am ?_
  refine ⟨by simp only [zP, aa, V]; exact rfl, rfl, ?_, rfl⟩; (repeat refine aU rfl ?_); exact bu (by exact rfl) hq4
 case b4 => exact cJ
 simp only [bj, b6]
 (refine aj rfl fun _ k0 => ?_; simp only [zO, zT, acs, reduceCtorEq, aa, V, ad, ag, af, ae, Mly.av, ah]; (repeat refine an ?_); (try refine .inl ?_); apply k0; clear k0; simp only [zP, V])
 refine am ?_
 apply k3; clear k3; refine kp [0, 1, 2, 3, 4] ?_
 refine aG ?_
 refine ⟨nr, _, rfl, ?_⟩; simp only [zF, zP, aa, V, Mly.av, ah]
 refine VLE.of_eq ?_
 refine congrArg (fun b => AV.one (AC.bool b)) ?_
 unfold mmB
 rw [decide_eq_true hv]
 simp
 try omega
theorem vP (m : Mly) (hv : ¬ aR m = 0) : c7 Try.prog 44 [m.av] (.one (.bool (mmB m))) := by
 refine aS Try.func44 rfl (by kernel_rfl) (Nat.le_of_ble_eq_true rfl) rfl fun C hP hN hB => ?_
 replace hN : C.N = 21 := hN
 simp only [bc, V]
 refine ai fun _ k1 => ?_
 refine ak hP hN rfl ?_
 iterate 2 (refine aj rfl fun _ k0 => ?_; simp only [zO, zT, acs, reduceCtorEq, aa, V, ad, ag, af, ae, Mly.av, ah]; (repeat refine an ?_); (try refine .inl ?_); apply k0; clear k0; simp only [zP, V])
 refine am ?_
 apply k1; clear k1; refine kp [0, 1, 2] ?_
 refine ai fun _ k2 => ?_
 refine ak hP hN rfl ?_
 (refine aj rfl fun _ k0 => ?_; simp only [zO, zT, acs, reduceCtorEq, aa, V, ad, ag, af, ae, Mly.av, ah]; (repeat refine an ?_); (try refine .inl ?_); apply k0; clear k0; simp only [zP, V])
 refine aj rfl fun _ k0 => ?_
 refine aK (h := aB (B2 m hv)) rfl rfl (by first | exact rfl | (simp only [ev, zP, aa, V]; exact rfl)) (by simp only [zV, acs, reduceCtorEq, aa, V, ad, ag, af, ae, Mly.av, ah]) ?_
 apply k0; clear k0; simp only [zP, V]
 iterate 6 (refine aj rfl fun _ k0 => ?_; simp only [zO, zT, acs, reduceCtorEq, aa, V, ad, ag, af, ae, Mly.av, ah]; (repeat refine an ?_); (try refine .inl ?_); apply k0; clear k0; simp only [zP, V])
 refine am ?_
 apply k2; clear k2; refine kp [0, 1, 2, 3, 4] ?_
 refine ai fun _ k3 => ?_
 refine ak hP hN rfl ?_
 iterate 3 (refine aj rfl fun _ k0 => ?_; simp only [zO, zT, acs, reduceCtorEq, aa, V, ad, ag, af, ae, Mly.av, ah]; (repeat refine an ?_); (try refine .inl ?_); apply k0; clear k0; simp only [zP, V])
 refine' aT (want := true) 7 rfl (m := 12) (by simp only [zP, aa, V]; exact rfl) (by kernel_rfl) rfl rfl rfl rfl rfl (fun hg4 => ?a4) ?b4 ?c4
 case a4 =>
  have hq4 := hg4; (try simp only [zB, reduceCtorEq] at hg4); simp only [zE]
  iterate 7 (refine bo rfl fun _ k0 => ?_; simp only [zO, zT, acs, reduceCtorEq, aa, V, ad, ag, af, ae, Mly.av, ah]; (repeat refine an ?_); (try refine .inl ?_); apply k0; clear k0; simp only [zP, V])
  (refine aj rfl fun _ k0 => ?_; simp only [zO, zT, acs, reduceCtorEq, aa, V, ad, ag, af, ae, Mly.av, ah]; (repeat refine an ?_); (try refine .inl ?_); apply k0; clear k0; simp only [zP, V])
  refine am ?_
  refine ⟨by simp only [zP, aa, V]; exact rfl, rfl, ?_, rfl⟩; (repeat refine aU rfl ?_); exact bu (by exact rfl) hq4
 case b4 => exact cJ
 simp only [bj, b6]
 (refine aj rfl fun _ k0 => ?_; simp only [zO, zT, acs, reduceCtorEq, aa, V, ad, ag, af, ae, Mly.av, ah]; (repeat refine an ?_); (try refine .inl ?_); apply k0; clear k0; simp only [zP, V])
 refine am ?_
 apply k3; clear k3; refine kp [0, 1, 2, 3, 4] ?_
 refine aG ?_
 refine ⟨nr, _, rfl, ?_⟩; simp only [zF, zP, aa, V, Mly.av, ah]
 refine VLE.of_eq ?_
 refine congrArg (fun b => AV.one (AC.bool b)) ?_
 unfold mmB
 rw [decide_eq_false hv]
 simp [hv]
theorem xK (m : Mly) : c7 Try.prog 44 [m.av] (.one (.bool (mmB m))) := by
  by_cases hv : aR m = 0
  · exact w8 m hv
  · exact vP m hv
theorem y4 (m : Mly) : c7 Try.prog 25 [m.av] (.one (.int .i64 (eK m))) := by
 refine aS Try.func25 rfl (by kernel_rfl) (Nat.le_of_ble_eq_true rfl) rfl fun C hP hN hB => ?_
 replace hN : C.N = 12 := hN
 simp only [bc, V]
 refine ai fun _ k1 => ?_
 refine ak hP hN rfl ?_
 iterate 2 (refine aj rfl fun _ k0 => ?_; simp only [zO, zT, acs, reduceCtorEq, aa, V, ad, ag, af, ae, Mly.av]; (repeat refine an ?_); (try refine .inl ?_); apply k0; clear k0; simp only [zP, V])
 refine am ?_
 apply k1; clear k1; refine kp [0, 1, 2] ?_
 refine ai fun _ k2 => ?_
 refine ai fun _ k3 => ?_
 refine ak hP hN rfl ?_
 (refine aj rfl fun _ k0 => ?_; simp only [zO, zT, acs, reduceCtorEq, aa, V, ad, ag, af, ae, Mly.av]; (repeat refine an ?_); (try refine .inl ?_); apply k0; clear k0; simp only [zP, V])
 refine aj rfl fun _ k0 => ?_
 refine aK (h := aB (rP m)) rfl rfl (by first | exact rfl | (simp only [ev, zP, aa, V]; exact rfl)) (by simp only [zV, acs, reduceCtorEq, aa, V, ad, ag, af, ae, Mly.av]) ?_
 apply k0; clear k0; simp only [zP, V]
 (refine aj rfl fun _ k0 => ?_; simp only [zO, zT, acs, reduceCtorEq, aa, V, ad, ag, af, ae, Mly.av]; (repeat refine an ?_); (try refine .inl ?_); apply k0; clear k0; simp only [zP, V])
 refine am ?_
 apply k3; clear k3; refine kp [0, 1, 2, 3] ?_
 refine ai fun _ k4 => ?_
 refine ak hP hN rfl ?_
 iterate 2 (refine aj rfl fun _ k0 => ?_; simp only [zO, zT, acs, reduceCtorEq, aa, V, ad, ag, af, ae, Mly.av]; (repeat refine an ?_); (try refine .inl ?_); apply k0; clear k0; simp only [zP, V])
 refine am ?_
 apply k4; clear k4; refine kp [0, 1, 2, 3, 7] ?_
 refine cd (fun hc5 => ?_) (fun hc5 => ?_)
 ·(try simp only [zB, reduceCtorEq] at hc5)
  refine ai fun _ k6 => ?_
  refine ak hP hN rfl ?_
  iterate 2 (refine aj rfl fun _ k0 => ?_; simp only [zO, zT, acs, reduceCtorEq, aa, V, ad, ag, af, ae, Mly.av]; (repeat refine an ?_); (try refine .inl ?_); apply k0; clear k0; simp only [zP, V])
  refine am ?_
  apply k6; clear k6; refine kp [0, 1, 2, 3, 7] ?_
  refine aG ?_
  refine ⟨nr, _, rfl, ?_⟩; simp only [zF, zP, aa, V, Mly.av]
  refine VLE.of_eq ?_
  refine congrArg (fun n => AV.one (AC.int IntKind.i64 n)) ?_
  unfold eK
  symm
  first
  | (rw [if_pos (by omega)]; done)
  | (rw [if_neg (by omega), if_neg (by simp_all)]; done)
  | (rw [if_neg (by omega), if_pos (by simp_all)]; done)
 (try simp only [zB, reduceCtorEq] at hc5)
 refine ay ?_
 apply k2; clear k2; refine kp [0, 1, 2, 3, 7] ?_
 refine ai fun _ k7 => ?_
 refine ai fun _ k8 => ?_
 refine ak hP hN rfl ?_
 (refine aj rfl fun _ k0 => ?_; simp only [zO, zT, acs, reduceCtorEq, aa, V, ad, ag, af, ae, Mly.av]; (repeat refine an ?_); (try refine .inl ?_); apply k0; clear k0; simp only [zP, V])
 refine aj rfl fun _ k0 => ?_
 refine aK (h := aB (xK m)) rfl rfl (by first | exact rfl | (simp only [ev, zP, aa, V]; exact rfl)) (by simp only [zV, acs, reduceCtorEq, aa, V, ad, ag, af, ae, Mly.av]) ?_
 apply k0; clear k0; simp only [zP, V]
 (refine aj rfl fun _ k0 => ?_; simp only [zO, zT, acs, reduceCtorEq, aa, V, ad, ag, af, ae, Mly.av]; (repeat refine an ?_); (try refine .inl ?_); apply k0; clear k0; simp only [zP, V])
 refine am ?_
 apply k8; clear k8; refine kp [0, 1, 2, 3, 7, 11] ?_
 refine cd (fun hc9 => ?_) (fun hc9 => ?_)
 ·(try simp only [zB, reduceCtorEq] at hc9)
  refine ai fun _ k10 => ?_
  refine ak hP hN rfl ?_
  (refine aj rfl fun _ k0 => ?_; simp only [zO, zT, acs, reduceCtorEq, aa, V, ad, ag, af, ae, Mly.av]; (repeat refine an ?_); (try refine .inl ?_); apply k0; clear k0; simp only [zP, V])
  refine am ?_
  apply k10; clear k10; refine kp [0, 1, 2, 3, 7, 11] ?_
  refine aG ?_
  refine ⟨nr, _, rfl, ?_⟩; simp only [zF, zP, aa, V, Mly.av]
  refine VLE.of_eq ?_
  refine congrArg (fun n => AV.one (AC.int IntKind.i64 n)) ?_
  unfold eK
  symm
  first
  | (rw [if_pos (by omega)]; done)
  | (rw [if_neg (by omega), if_neg (by simp_all)]; done)
  | (rw [if_neg (by omega), if_pos (by simp_all)]; done)
 (try simp only [zB, reduceCtorEq] at hc9)
 refine ay ?_
 apply k7; clear k7; refine kp [0, 1, 2, 3, 7, 11] ?_
 refine ai fun _ k11 => ?_
 refine ak hP hN rfl ?_
 (refine aj rfl fun _ k0 => ?_; simp only [zO, zT, acs, reduceCtorEq, aa, V, ad, ag, af, ae, Mly.av]; (repeat refine an ?_); (try refine .inl ?_); apply k0; clear k0; simp only [zP, V])
 refine am ?_
 apply k11; clear k11; refine kp [0, 1, 2, 3, 7, 11] ?_
 refine aG ?_
 refine ⟨nr, _, rfl, ?_⟩; simp only [zF, zP, aa, V, Mly.av]
 refine VLE.of_eq ?_
 refine congrArg (fun n => AV.one (AC.int IntKind.i64 n)) ?_
 unfold eK
 symm
 first
 | (rw [if_pos (by omega)]; done)
 | (rw [if_neg (by omega), if_neg (by simp_all)]; done)
 | (rw [if_neg (by omega), if_pos (by simp_all)]; done)
theorem xN (n : Nat) (hn : n ≤ 1000) : c7 Try.prog 35 [.one (.int .i64 (n : Int))] (.one (.list (.int .i64) ((List.range n).map fun (i : Nat) => (i : Int)))) := by
 refine aS Try.func35 rfl (by kernel_rfl) (Nat.le_of_ble_eq_true rfl) rfl fun C hP hN hB => ?_
 replace hN : C.N = 15 := hN
 simp only [bc, V]
 refine ai fun _ k1 => ?_
 refine ak hP hN rfl ?_
 (refine aj rfl fun _ k0 => ?_; simp only [zO, zT, acs, reduceCtorEq, aa, V, ad, ag, af, ae]; (repeat refine an ?_); (try refine .inl ?_); apply k0; clear k0; simp only [zP, V])
 refine am ?_
 apply k1; clear k1; refine kp [0, 2] ?_
 refine ai fun _ k2 => ?_
 refine ak hP hN rfl ?_
 (refine aj rfl fun _ k0 => ?_; simp only [zO, zT, acs, reduceCtorEq, aa, V, ad, ag, af, ae]; (repeat refine an ?_); (try refine .inl ?_); apply k0; clear k0; simp only [zP, V])
 refine am ?_
 apply k2; clear k2; refine kp [0, 2, 3] ?_
 refine ai fun _ k3 => ?_
 refine ai fun _ k4 => ?_
 refine ak hP hN rfl ?_
 (refine aj rfl fun _ k0 => ?_; simp only [zO, zT, acs, reduceCtorEq, aa, V, ad, ag, af, ae]; (repeat refine an ?_); (try refine .inl ?_); apply k0; clear k0; simp only [zP, V])
 refine am ?_
 apply k4; clear k4; refine kp [0, 2, 3, 4] ?_
 refine az ?_
 refine eI 3 (.int .i64) 3 (by decide) rfl ?_; simp only [au, aC, aH, aZ, Nat.zero_add, V]
 refine ba (fun n5 s5 => ∃ (k : Nat) (v : Nat), (k ≤ n) ∧ n5 = n - k ∧ s5 = { env := [(0, .one (.int .i64 (n : Int))), (2, .one .nils), (3, .one (.row 0 v)), (4, .one (.int .i64 (k : Int)))], L := [.row (.int .i64) 3 v ((List.range k).map fun (i : Nat) => (i : Int))] }) ?_ ?_
 ·exact ⟨_, _, ax [0, 2, 3, 4], 0, 0, Nat.zero_le _, rfl, rfl⟩
 rintro n5 s5 ⟨k, v, hk, rfl, rfl⟩
 refine ai fun _ k6 => ?_
 refine ai fun _ k7 => ?_
 refine ak hP hN rfl ?_
 iterate 3 (refine aj rfl fun _ k0 => ?_; simp only [zO, zT, acs, reduceCtorEq, aa, V, ad, ag, af, ae]; (repeat refine an ?_); (try refine .inl ?_); apply k0; clear k0; simp only [zP, V])
 refine am ?_
 apply k7; clear k7; refine kp [0, 2, 3, 4, 7] ?_
 refine cd (fun hc8 => ?_) (fun hc8 => ?_)
 ·(try simp only [zB, reduceCtorEq] at hc8)
  refine ay ?_
  apply k6; clear k6; refine kp [0, 2, 3, 4, 7] ?_
  refine ai fun _ k9 => ?_
  refine az ?_
  have hrl : ((List.range k).map fun (i : Nat) => (i : Int)).length = k := by simp
  refine ak hP hN rfl ?_
  iterate 5 (refine aj rfl fun _ k0 => ?_; simp only [zO, zT, acs, reduceCtorEq, aa, V, ad, ag, af, ae]; (repeat refine an ?_); (try refine .inl ?_); apply k0; clear k0; simp only [zP, V])
  refine am ?_
  apply k9; clear k9; refine kp [0, 2, 3, 4, 7] ?_
  refine ak hP hN rfl ?_
  iterate 3 (refine aj rfl fun _ k0 => ?_; simp only [zO, zT, acs, reduceCtorEq, aa, V, ad, ag, af, ae]; (repeat refine an ?_); (try refine .inl ?_); apply k0; clear k0; simp only [zP, V])
  refine am ?_
  refine ⟨_, _, ?_, ax [0, 2, 3, 4], k + 1, v + 1, by omega, rfl, ?_⟩
  · omega
  · rw [List.range_succ, List.map_append]; rfl
 (try simp only [zB, reduceCtorEq] at hc8)
 refine aV ?_
 apply k3; clear k3; refine kp [0, 2, 3, 4, 7] ?_
 refine ai fun _ k10 => ?_
 refine cH 0 rfl ?_; simp only [aJ, bg, zS, aa, and_self, and_true, true_and, and_false, false_and, if_true, if_false, eq_self, reduceCtorEq, Nat.one_ne_zero, Nat.zero_ne_one]
 have hkn : k = n := by omega
 rw [hkn]
 refine ak hP hN rfl ?_
 iterate 2 (refine aj rfl fun _ k0 => ?_; simp only [zO, zT, acs, reduceCtorEq, aa, V, ad, ag, af, ae]; (repeat refine an ?_); (try refine .inl ?_); apply k0; clear k0; simp only [zP, V])
 refine am ?_
 apply k10; clear k10; refine kp [0, 2, 3, 4, 7] ?_
 refine aG ?_
 refine ⟨nr, _, rfl, ?_⟩; simp only [zF, zP, aa, V]
 exact VLE.of_eq rfl
theorem AW (T : List aX) (hT : T.length ≤ 100000) : c7 Try.prog 19 [.agg [.list ndT T]] (.one (.bool (gh T))) := by
 refine aS Try.func19 rfl (by kernel_rfl) (Nat.le_of_ble_eq_true rfl) rfl fun C hP hN hB => ?_
 replace hN : C.N = 32 := hN
 simp only [bc, V]
 refine ai fun _ k1 => ?_
 refine ak hP hN rfl ?_
 iterate 2 (refine aj rfl fun _ k0 => ?_; simp only [zO, zT, acs, reduceCtorEq, aa, V, ad, ag, af, ae, ah, aI, aP, aM]; (repeat refine an ?_); (try refine .inl ?_); apply k0; clear k0; simp only [zP, V])
 refine am ?_
 apply k1; clear k1; refine kp [0, 1, 2] ?_
 refine ai fun _ k2 => ?_
 refine ai fun _ k3 => ?_
 refine ak hP hN rfl ?_
 (refine aj rfl fun _ k0 => ?_; simp only [zO, zT, acs, reduceCtorEq, aa, V, ad, ag, af, ae, ah, aI, aP, aM]; (repeat refine an ?_); (try refine .inl ?_); apply k0; clear k0; simp only [zP, V])
 refine am ?_
 apply k3; clear k3; refine kp [0, 1, 2, 3] ?_
 refine az ?_
 refine ba (fun n4 s4 => ∃ (i : Nat), (i ≤ T.length) ∧ (∀ j, j < i → ¬ ((T.getD j nd0).2.1 = -1 ∧ ¬ (T.getD j nd0).1.length = 1)) ∧ n4 = T.length - i ∧ s4 = { env := [(1, .one (.ptr 0 0 0 0)), (2, .one (.bool false)), (3, .one (.int .i64 (i : Int)))], L := [.vars 29 [.list ndT T]] }) ?_ ?_
 ·exact ⟨_, _, ax [1, 2, 3], 0, Nat.zero_le _, fun j h => by omega, rfl, rfl⟩
 rintro n4 s4 ⟨i, hi, hu, rfl, rfl⟩
 refine ai fun _ k5 => ?_
 refine ai fun _ k6 => ?_
 refine ak hP hN rfl ?_
 iterate 5 (refine aj rfl fun _ k0 => ?_; simp only [zO, zT, acs, reduceCtorEq, aa, V, ad, ag, af, ae, ah, aI, aP, aM]; (repeat refine an ?_); (try refine .inl ?_); apply k0; clear k0; simp only [zP, V])
 refine am ?_
 apply k6; clear k6; refine kp [1, 2, 3, 8] ?_
 refine cd (fun hc7 => ?_) (fun hc7 => ?_)
 ·(try simp only [zB, reduceCtorEq] at hc7)
  refine ay ?_
  apply k5; clear k5; refine kp [1, 2, 3, 8] ?_
  refine ai fun _ k8 => ?_
  refine az ?_
  refine ai fun _ k9 => ?_
  refine ak hP hN rfl ?_
  iterate 8 (refine aj rfl fun _ k0 => ?_; simp only [zO, zT, acs, reduceCtorEq, aa, V, ad, ag, af, ae, ah, aI, aP, aM]; (repeat refine an ?_); (try refine .inl ?_); apply k0; clear k0; simp only [zP, V])
  refine' aT (want := true) 8 rfl (m := 18) (by simp only [zP, aa, V]; exact rfl) (by kernel_rfl) rfl rfl rfl rfl rfl (fun hg10 => ?a10) ?b10 ?c10
  case a10 =>
   have hq10 := hg10; (try simp only [zB, reduceCtorEq] at hg10); simp only [zE]
   iterate 8 (refine bo rfl fun _ k0 => ?_; simp only [zO, zT, acs, reduceCtorEq, aa, V, ad, ag, af, ae, ah, aI, aP, aM]; (repeat refine an ?_); (try refine .inl ?_); apply k0; clear k0; simp only [zP, V])
   (refine aj rfl fun _ k0 => ?_; simp only [zO, zT, acs, reduceCtorEq, aa, V, ad, ag, af, ae, ah, aI, aP, aM]; (repeat refine an ?_); (try refine .inl ?_); apply k0; clear k0; simp only [zP, V])
   refine am ?_
   refine ⟨by simp only [zP, aa, V]; exact rfl, rfl, ?_, rfl⟩; (repeat refine aU rfl ?_); exact bu (by exact rfl) hq10
  case b10 => exact cJ
  simp only [bj, b6]
  refine am ?_
  apply k9; clear k9; refine kp [1, 2, 3, 8, 27] ?_
  refine cd (fun hc11 => ?_) (fun hc11 => ?_)
  ·(try simp only [zB, reduceCtorEq] at hc11)
   have hno := Bq (T := T) (i := i) (by omega) ⟨hc11.1, fun h => hc11.2 (by rw [h]; rfl)⟩
   refine ai fun _ k12 => ?_
   refine ak hP hN rfl ?_
   (refine aj rfl fun _ k0 => ?_; simp only [zO, zT, acs, reduceCtorEq, aa, V, ad, ag, af, ae, ah, aI, aP, aM]; (repeat refine an ?_); (try refine .inl ?_); apply k0; clear k0; simp only [zP, V])
   refine am ?_
   apply k12; clear k12; refine kp [1, 2, 3, 8, 27] ?_
   refine aG ?_
   refine ⟨nr, _, rfl, ?_⟩; simp only [zF, zP, aa, V, ah, aI, aP, aM]
   refine VLE.of_eq ?_
   refine congrArg (fun b => AV.one (AC.bool b)) ?_
   symm
   first
   | exact hno
   | (rw [wB (T := T) (fun j h => hu j (by omega))]; rw [decide_eq_decide]; omega)
  (try simp only [zB, reduceCtorEq] at hc11)
  have hyes : ¬ ((T.getD i nd0).2.1 = -1 ∧ ¬ (T.getD i nd0).1.length = 1) := fun h => Or.elim hc11 (fun h9 => h9 h.1) (fun h9 => h.2 (by have h8 : ((T.getD i nd0).1.length : Int) = 1 := h9; omega))
  refine ay ?_
  apply k8; clear k8; refine kp [1, 2, 3, 8, 27] ?_
  refine ak hP hN rfl ?_
  iterate 3 (refine aj rfl fun _ k0 => ?_; simp only [zO, zT, acs, reduceCtorEq, aa, V, ad, ag, af, ae, ah, aI, aP, aM]; (repeat refine an ?_); (try refine .inl ?_); apply k0; clear k0; simp only [zP, V])
  refine am ?_
  refine ⟨_, _, ?_, ax [1, 2, 3], i + 1, by omega, fun j h => ?_, rfl, rfl⟩
  · omega
  · by_cases e : j = i
    · rw [e]; exact hyes
    · exact hu j (by omega)
 (try simp only [zB, reduceCtorEq] at hc7)
 refine aV ?_
 apply k2; clear k2; refine kp [1, 2, 3, 8] ?_
 refine ai fun _ k13 => ?_
 refine ak hP hN rfl ?_
 iterate 5 (refine aj rfl fun _ k0 => ?_; simp only [zO, zT, acs, reduceCtorEq, aa, V, ad, ag, af, ae, ah, aI, aP, aM]; (repeat refine an ?_); (try refine .inl ?_); apply k0; clear k0; simp only [zP, V])
 refine am ?_
 apply k13; clear k13; refine kp [1, 2, 3, 8] ?_
 refine aG ?_
 refine ⟨nr, _, rfl, ?_⟩; simp only [zF, zP, aa, V, ah, aI, aP, aM]
 refine VLE.of_eq ?_
 refine congrArg (fun b => AV.one (AC.bool b)) ?_
 symm
 first
 | exact hno
 | (rw [wB (T := T) (fun j h => hu j (by omega))]; rw [decide_eq_decide]; omega)
theorem lP (m : Mly) (l : List Int) (a : Int) (hm : MOK m) (hs : cO m l) (ha : 0 ≤ a ∧ a < m.inp) (hl : l.length ≤ 1000) : c7 Try.prog 58 [m.av, .one (.list (.int .i64) l), .one (.int .i64 a)] (.one (.list (.int .i64) (cr m l a))) := by
 refine aS Try.func58 rfl (by kernel_rfl) (Nat.le_of_ble_eq_true rfl) rfl fun C hP hN hB => ?_
 replace hN : C.N = 30 := hN
 simp only [bc, V]
 refine ai fun _ k1 => ?_
 refine ak hP hN rfl ?_
 iterate 2 (refine aj rfl fun _ k0 => ?_; simp only [zO, zT, acs, reduceCtorEq, aa, V, ad, ag, af, ae, Mly.av, ah]; (repeat refine an ?_); (try refine .inl ?_); apply k0; clear k0; simp only [zP, V])
 refine am ?_
 apply k1; clear k1; refine kp [0, 1, 2, 3, 6] ?_
 refine ai fun _ k2 => ?_
 refine ak hP hN rfl ?_
 (refine aj rfl fun _ k0 => ?_; simp only [zO, zT, acs, reduceCtorEq, aa, V, ad, ag, af, ae, Mly.av, ah]; (repeat refine an ?_); (try refine .inl ?_); apply k0; clear k0; simp only [zP, V])
 refine am ?_
 apply k2; clear k2; refine kp [0, 1, 2, 3, 6, 7] ?_
 refine ai fun _ k3 => ?_
 refine ai fun _ k4 => ?_
 refine ak hP hN rfl ?_
 (refine aj rfl fun _ k0 => ?_; simp only [zO, zT, acs, reduceCtorEq, aa, V, ad, ag, af, ae, Mly.av, ah]; (repeat refine an ?_); (try refine .inl ?_); apply k0; clear k0; simp only [zP, V])
 refine am ?_
 apply k4; clear k4; refine kp [0, 1, 2, 3, 6, 7, 8] ?_
 refine az ?_
 refine eI 7 (.int .i64) 3 (by decide) rfl ?_; simp only [au, aC, aH, aZ, Nat.zero_add, V]
 refine ba (fun n5 s5 => ∃ (k : Nat) (v : Nat), (k ≤ l.length) ∧ n5 = l.length - k ∧ s5 = { env := [(1, .one (.list (.int .i64) l)), (2, .one (.int .i64 a)), (3, .one (.ptr 0 0 0 0)), (6, .one .nils), (7, .one (.row 1 v)), (8, .one (.int .i64 (k : Int)))], L := [.vars 24 [.int .i64 m.inp, .int .i64 m.st, .list (.list (.int .i64)) m.nx, .list (.list (.int .i64)) m.ot], .row (.int .i64) 3 v (cr m (l.take k) a)] }) ?_ ?_
 ·exact ⟨_, _, ax [1, 2, 3, 6, 7, 8], 0, 0, Nat.zero_le _, rfl, rfl⟩
 rintro n5 s5 ⟨k, v, hk, rfl, rfl⟩
 refine ai fun _ k6 => ?_
 refine ai fun _ k7 => ?_
 refine ak hP hN rfl ?_
 iterate 4 (refine aj rfl fun _ k0 => ?_; simp only [zO, zT, acs, reduceCtorEq, aa, V, ad, ag, af, ae, Mly.av, ah]; (repeat refine an ?_); (try refine .inl ?_); apply k0; clear k0; simp only [zP, V])
 refine am ?_
 apply k7; clear k7; refine kp [1, 2, 3, 6, 7, 8, 12] ?_
 refine cd (fun hc8 => ?_) (fun hc8 => ?_)
 ·(try simp only [zB, reduceCtorEq] at hc8)
  refine ay ?_
  apply k6; clear k6; refine kp [1, 2, 3, 6, 7, 8, 12] ?_
  refine ai fun _ k9 => ?_
  refine az ?_
  have hkl : k < l.length := by omega
  have hsk := hs _ (bh hkl)
  have q1 := hm.rl (l.getD k 0).toNat (by omega)
  have hnl : (cr m (l.take k) a).length = k := by unfold cr; rw [aD, List.length_take]; omega
  refine bf hP hN Try.mixed rfl ?_
  iterate 15 (refine aj rfl fun _ k0 => ?_; simp only [zO, zT, acs, reduceCtorEq, aa, V, ad, ag, af, ae, Mly.av, ah]; (repeat refine an ?_); (try refine .inl ?_); apply k0; clear k0; simp only [zP, V])
  refine am ?_
  refine ⟨by kernel_rfl, ?_⟩
  apply k9; clear k9; refine kp [1, 2, 3, 6, 7, 8, 12] ?_
  refine ak hP hN rfl ?_
  iterate 3 (refine aj rfl fun _ k0 => ?_; simp only [zO, zT, acs, reduceCtorEq, aa, V, ad, ag, af, ae, Mly.av, ah]; (repeat refine an ?_); (try refine .inl ?_); apply k0; clear k0; simp only [zP, V])
  refine am ?_
  refine ⟨_, _, ?_, ax [1, 2, 3, 6, 7, 8], k + 1, v + 1, by omega, rfl, ?_⟩
  · omega
  · rw [nR hkl]; rfl
 (try simp only [zB, reduceCtorEq] at hc8)
 refine aV ?_
 apply k3; clear k3; refine kp [1, 2, 3, 6, 7, 8, 12] ?_
 refine ai fun _ k10 => ?_
 refine cH 1 rfl ?_; simp only [aJ, bg, zS, aa, and_self, and_true, true_and, and_false, false_and, if_true, if_false, eq_self, reduceCtorEq, Nat.one_ne_zero, Nat.zero_ne_one]
 have hkw : k = l.length := by omega
 rw [hkw, aE]
 refine ak hP hN rfl ?_
 iterate 2 (refine aj rfl fun _ k0 => ?_; simp only [zO, zT, acs, reduceCtorEq, aa, V, ad, ag, af, ae, Mly.av, ah]; (repeat refine an ?_); (try refine .inl ?_); apply k0; clear k0; simp only [zP, V])
 refine am ?_
 apply k10; clear k10; refine kp [1, 2, 3, 6, 7, 8, 12] ?_
 refine aG ?_
 refine ⟨nr, _, rfl, ?_⟩; simp only [zF, zP, aa, V, Mly.av, ah]
 exact VLE.of_eq rfl
set_option maxHeartbeats 1000000 in
theorem lM (m : Mly) (l : List Int) (a : Int) (hm : MOK m) (hs : cO m l) (ha : 0 ≤ a ∧ a < m.inp) (hl : l.length ≤ 1000) : c7 Try.prog 55 [m.av, .one (.list (.int .i64) l), .one (.int .i64 a)] (.one (.list (.int .i64) (aA (ouL m l a)))) := by
 have ol := hm.ol
 refine aS Try.func55 rfl (by kernel_rfl) (Nat.le_of_ble_eq_true rfl) rfl fun C hP hN hB => ?_
 replace hN : C.N = 71 := hN
 simp only [bc, V]
 refine ai fun _ k1 => ?_
 refine ak hP hN rfl ?_
 iterate 2 (refine aj rfl fun _ k0 => ?_; simp only [zO, zT, acs, reduceCtorEq, aa, V, ad, ag, af, ae, Mly.av, ah]; (repeat refine an ?_); (try refine .inl ?_); apply k0; clear k0; simp only [zP, V])
 refine am ?_
 apply k1; clear k1; refine kp [0, 1, 2, 3, 6] ?_
 refine ai fun _ k2 => ?_
 refine ak hP hN rfl ?_
 (refine aj rfl fun _ k0 => ?_; simp only [zO, zT, acs, reduceCtorEq, aa, V, ad, ag, af, ae, Mly.av, ah]; (repeat refine an ?_); (try refine .inl ?_); apply k0; clear k0; simp only [zP, V])
 refine am ?_
 apply k2; clear k2; refine kp [0, 1, 2, 3, 6, 7] ?_
 refine ai fun _ k3 => ?_
 refine ai fun _ k4 => ?_
 refine ak hP hN rfl ?_
 (refine aj rfl fun _ k0 => ?_; simp only [zO, zT, acs, reduceCtorEq, aa, V, ad, ag, af, ae, Mly.av, ah]; (repeat refine an ?_); (try refine .inl ?_); apply k0; clear k0; simp only [zP, V])
 refine am ?_
 apply k4; clear k4; refine kp [0, 1, 2, 3, 6, 7, 8] ?_
 refine az ?_
 refine iF 7 (v' := .one (.list (.int .i64) [])) rfl (j7 (bl rfl)) ?_
 refine ba (fun n5 s5 => ∃ (k : Nat), (k ≤ l.length) ∧ n5 = l.length - k ∧ s5 = { env := [(1, .one (.list (.int .i64) l)), (2, .one (.int .i64 a)), (3, .one (.ptr 0 0 0 0)), (6, .one .nils), (7, .one (.list (.int .i64) (aA (ouL m (l.take k) a)))), (8, .one (.int .i64 (k : Int)))], L := [.vars 24 [.int .i64 m.inp, .int .i64 m.st, .list (.list (.int .i64)) m.nx, .list (.list (.int .i64)) m.ot]] }) ?_ ?_
 ·refine ⟨_, _, ax [1, 2, 3, 6, 7, 8], 0, Nat.zero_le _, rfl, ?_⟩
  rw [show ouL m (l.take 0) a = [] from rfl, xQ]; rfl
 rintro n5 s5 ⟨k, hk, rfl, rfl⟩
 refine ai fun _ k6 => ?_
 refine ai fun _ k7 => ?_
 refine ak hP hN rfl ?_
 iterate 4 (refine aj rfl fun _ k0 => ?_; simp only [zO, zT, acs, reduceCtorEq, aa, V, ad, ag, af, ae, Mly.av, ah]; (repeat refine an ?_); (try refine .inl ?_); apply k0; clear k0; simp only [zP, V])
 refine am ?_
 apply k7; clear k7; refine kp [1, 2, 3, 6, 7, 8, 15] ?_
 refine cd (fun hc8 => ?_) (fun hc8 => ?_)
 ·(try simp only [zB, reduceCtorEq] at hc8)
  refine ay ?_
  apply k6; clear k6; refine kp [1, 2, 3, 6, 7, 8, 15] ?_
  refine ai fun _ k9 => ?_
  refine az ?_
  refine ai fun _ k10 => ?_
  have hkl : k < l.length := by omega
  have hsk := hs _ (bh hkl)
  have q2 := hm.ql (l.getD k 0).toNat (by omega)
  have hul := eX (ouL m (l.take k) a)
  have hol : (ouL m (l.take k) a).length = k := by unfold ouL; rw [aD, List.length_take]; omega
  have hor := (du (ouL m (l.take k) a)).1
  refine bf hP hN Try.mixed rfl ?_
  iterate 12 (refine aj rfl fun _ k0 => ?_; simp only [zO, zT, acs, reduceCtorEq, aa, V, ad, ag, af, ae, Mly.av, ah]; (repeat refine an ?_); (try refine .inl ?_); apply k0; clear k0; simp only [zP, V])
  refine am ?_
  refine ⟨by kernel_rfl, ?_⟩
  apply k10; clear k10; refine kp [1, 2, 3, 6, 7, 8, 9, 15] ?_
  refine ai fun _ k11 => ?_
  refine ak hP hN rfl ?_
  (refine aj rfl fun _ k0 => ?_; simp only [zO, zT, acs, reduceCtorEq, aa, V, ad, ag, af, ae, Mly.av, ah]; (repeat refine an ?_); (try refine .inl ?_); apply k0; clear k0; simp only [zP, V])
  refine am ?_
  apply k11; clear k11; refine kp [1, 2, 3, 6, 7, 8, 9, 10, 15] ?_
  refine ai fun _ k12 => ?_
  refine az ?_
  refine ba (fun n13 s13 => ∃ (j : Nat), (j ≤ (aA (ouL m (l.take k) a)).length) ∧ (∀ q, q < j → (aA (ouL m (l.take k) a)).getD q 0 < (m.out (l.getD k 0) a)) ∧ n13 = (aA (ouL m (l.take k) a)).length - j ∧ s13 = { env := [(1, .one (.list (.int .i64) l)), (2, .one (.int .i64 a)), (3, .one (.ptr 0 0 0 0)), (6, .one .nils), (7, .one (.list (.int .i64) (aA (ouL m (l.take k) a)))), (8, .one (.int .i64 (k : Int))), (9, .one (.int .i64 (m.out (l.getD k 0) a))), (10, .one (.int .i64 (j : Int)))], L := [.vars 24 [.int .i64 m.inp, .int .i64 m.st, .list (.list (.int .i64)) m.nx, .list (.list (.int .i64)) m.ot]] }) ?_ ?_
  ·exact ⟨_, _, ax [1, 2, 3, 6, 7, 8, 9, 10], 0, Nat.zero_le _, fun q h => by omega, rfl, rfl⟩
  rintro n13 s13 ⟨j, hj, hq, rfl, rfl⟩
  refine ai fun _ k14 => ?_
  refine ai fun _ k15 => ?_
  refine ak hP hN rfl ?_
  iterate 5 (refine aj rfl fun _ k0 => ?_; simp only [zO, zT, acs, reduceCtorEq, aa, V, ad, ag, af, ae, Mly.av, ah]; (repeat refine an ?_); (try refine .inl ?_); apply k0; clear k0; simp only [zP, V])
  refine' aT (want := true) 6 rfl (m := 33) (by simp only [zP, aa, V]; exact rfl) (by kernel_rfl) rfl rfl rfl rfl rfl (fun hg16 => ?a16) ?b16 ?c16
  case a16 =>
   have hq16 := hg16; (try simp only [zB, reduceCtorEq] at hg16); simp only [zE]
   iterate 6 (refine bo rfl fun _ k0 => ?_; simp only [zO, zT, acs, reduceCtorEq, aa, V, ad, ag, af, ae, Mly.av, ah]; (repeat refine an ?_); (try refine .inl ?_); apply k0; clear k0; simp only [zP, V])
   (refine aj rfl fun _ k0 => ?_; simp only [zO, zT, acs, reduceCtorEq, aa, V, ad, ag, af, ae, Mly.av, ah]; (repeat refine an ?_); (try refine .inl ?_); apply k0; clear k0; simp only [zP, V])
   refine am ?_
   refine ⟨by simp only [zP, aa, V]; exact rfl, rfl, ?_, rfl⟩; (repeat refine aU rfl ?_); exact bu (by exact rfl) hq16
  case b16 => exact cJ
  simp only [bj, b6]
  refine am ?_
  apply k15; clear k15; refine kp [1, 2, 3, 6, 7, 8, 9, 10, 40] ?_
  refine cd (fun hc17 => ?_) (fun hc17 => ?_)
  ·(try simp only [zB, reduceCtorEq] at hc17)
   have hlt : j < (aA (ouL m (l.take k) a)).length ∧ (aA (ouL m (l.take k) a)).getD j 0 < (m.out (l.getD k 0) a) := by have h9 := hc17; simpa using h9
   refine ay ?_
   apply k14; clear k14; refine kp [1, 2, 3, 6, 7, 8, 9, 10, 40] ?_
   refine az ?_
   refine ak hP hN rfl ?_
   iterate 3 (refine aj rfl fun _ k0 => ?_; simp only [zO, zT, acs, reduceCtorEq, aa, V, ad, ag, af, ae, Mly.av, ah]; (repeat refine an ?_); (try refine .inl ?_); apply k0; clear k0; simp only [zP, V])
   refine am ?_
   refine ⟨_, _, ?_, ax [1, 2, 3, 6, 7, 8, 9, 10], j + 1, by omega, fun q h2 => ?_, rfl, rfl⟩
   · omega
   · by_cases e : q = j
     · rw [e]; exact hlt.2
     · exact hq q (by omega)
  (try simp only [zB, reduceCtorEq] at hc17)
  have hge : j < (aA (ouL m (l.take k) a)).length → ¬ (aA (ouL m (l.take k) a)).getD j 0 < (m.out (l.getD k 0) a) := by have h9 := hc17; intro h8; rcases h9 with h9 | h9 <;> omega
  refine aV ?_
  apply k12; clear k12; refine kp [1, 2, 3, 6, 7, 8, 9, 10, 40] ?_
  refine ai fun _ k18 => ?_
  refine ai fun _ k19 => ?_
  refine ak hP hN rfl ?_
  iterate 5 (refine aj rfl fun _ k0 => ?_; simp only [zO, zT, acs, reduceCtorEq, aa, V, ad, ag, af, ae, Mly.av, ah]; (repeat refine an ?_); (try refine .inl ?_); apply k0; clear k0; simp only [zP, V])
  refine' aT (want := true) 6 rfl (m := 47) (by simp only [zP, aa, V]; exact rfl) (by kernel_rfl) rfl rfl rfl rfl rfl (fun hg20 => ?a20) ?b20 ?c20
  case a20 =>
   have hq20 := hg20; (try simp only [zB, reduceCtorEq] at hg20); simp only [zE]
   iterate 6 (refine bo rfl fun _ k0 => ?_; simp only [zO, zT, acs, reduceCtorEq, aa, V, ad, ag, af, ae, Mly.av, ah]; (repeat refine an ?_); (try refine .inl ?_); apply k0; clear k0; simp only [zP, V])
   (refine aj rfl fun _ k0 => ?_; simp only [zO, zT, acs, reduceCtorEq, aa, V, ad, ag, af, ae, Mly.av, ah]; (repeat refine an ?_); (try refine .inl ?_); apply k0; clear k0; simp only [zP, V])
   refine am ?_
   refine ⟨by simp only [zP, aa, V]; exact rfl, rfl, ?_, rfl⟩; (repeat refine aU rfl ?_); exact bu (by exact rfl) hq20
  case b20 => exact cJ
  simp only [bj, b6]
  refine am ?_
  apply k19; clear k19; refine kp [1, 2, 3, 6, 7, 8, 9, 10, 40, 54] ?_
  refine cd (fun hc21 => ?_) (fun hc21 => ?_)
  ·(try simp only [zB, reduceCtorEq] at hc21)
   have hin : (m.out (l.getD k 0) a) ∈ (aA (ouL m (l.take k) a)) := by have h9 := hc21; rw [← h9.2]; exact bh (by omega)
   refine aV ?_
   apply k9; clear k9; refine kp [1, 2, 3, 6, 7, 8, 9, 10, 40, 54] ?_
   refine ak hP hN rfl ?_
   iterate 3 (refine aj rfl fun _ k0 => ?_; simp only [zO, zT, acs, reduceCtorEq, aa, V, ad, ag, af, ae, Mly.av, ah]; (repeat refine an ?_); (try refine .inl ?_); apply k0; clear k0; simp only [zP, V])
   refine am ?_
   first
   | (refine ⟨_, _, ?_, ax [1, 2, 3, 6, 7, 8], k + 1, by omega, rfl, ?_⟩
      · omega
      · rw [ic hkl, jo, rU hin]; rfl)
   | (refine ⟨_, _, ?_, ax [1, 2, 3, 6, 7, 8], k + 1, by omega, rfl, ?_⟩
      · omega
      · rw [ic hkl, jo, hsp]; rfl)
  (try simp only [zB, reduceCtorEq] at hc21)
  have hgt : j < (aA (ouL m (l.take k) a)).length → (m.out (l.getD k 0) a) < (aA (ouL m (l.take k) a)).getD j 0 := by have h9 := hc21; have h7 := hge; intro h8; have h6 := h7 h8; rcases h9 with h9 | h9 <;> omega
  refine ay ?_
  apply k18; clear k18; refine kp [1, 2, 3, 6, 7, 8, 9, 10, 40, 54] ?_
  refine ai fun _ k22 => ?_
  refine ak hP hN rfl ?_
  (refine aj rfl fun _ k0 => ?_; simp only [zO, zT, acs, reduceCtorEq, aa, V, ad, ag, af, ae, Mly.av, ah]; (repeat refine an ?_); (try refine .inl ?_); apply k0; clear k0; simp only [zP, V])
  refine am ?_
  apply k22; clear k22; refine kp [1, 2, 3, 6, 7, 8, 9, 10, 11, 40, 54] ?_
  refine ai fun _ k23 => ?_
  refine eI 11 (.int .i64) 3 (by decide) rfl ?_; simp only [au, aC, aH, aZ, Nat.zero_add, V]
  have hsp := ww (o := (m.out (l.getD k 0) a)) hor hj hq hgt
  have ht1 : ((aA (ouL m (l.take k) a)).take j).length = j := by rw [List.length_take]; omega
  have ht2 : ((aA (ouL m (l.take k) a)).drop j).length = (aA (ouL m (l.take k) a)).length - j := List.length_drop
  refine ak hP hN rfl ?_
  iterate 3 (refine aj rfl fun _ k0 => ?_; simp only [zO, zT, acs, reduceCtorEq, aa, V, ad, ag, af, ae, Mly.av, ah]; (repeat refine an ?_); (try refine .inl ?_); apply k0; clear k0; simp only [zP, V])
  (refine aj rfl fun _ k0 => ?_; simp only [zE, op1, ev, lkp, d6, bP, fD, bnd, Ty.size, cj, eT, eg, cM, db, eC, Nat.div_one, cL, df, bq, dite_true, reduceCtorEq, aa, V, ad, ag, af, ae, Try.el41, Try.td3, Try.td41, Mly.av, ah]; (repeat refine an ?_); (try refine .inl ?_); apply k0; clear k0; simp only [zP, V])
  iterate 2 (refine aj rfl fun _ k0 => ?_; simp only [zO, zT, acs, reduceCtorEq, aa, V, ad, ag, af, ae, Mly.av, ah]; (repeat refine an ?_); (try refine .inl ?_); apply k0; clear k0; simp only [zP, V])
  refine am ?_
  apply k23; clear k23; refine kp [1, 2, 3, 6, 7, 8, 9, 10, 11, 40, 54] ?_
  refine ai fun _ k24 => ?_
  refine ak hP hN rfl ?_
  iterate 5 (refine aj rfl fun _ k0 => ?_; simp only [zO, zT, acs, reduceCtorEq, aa, V, ad, ag, af, ae, Mly.av, ah, aq, ht1]; (repeat refine an ?_); (try refine .inl ?_); apply k0; clear k0; simp only [zP, V])
  refine am ?_
  apply k24; clear k24; refine kp [1, 2, 3, 6, 7, 8, 9, 10, 11, 40, 54] ?_
  refine ai fun _ k25 => ?_
  refine ak hP hN rfl ?_
  iterate 3 (refine aj rfl fun _ k0 => ?_; simp only [zO, zT, acs, reduceCtorEq, aa, V, ad, ag, af, ae, Mly.av, ah, aE, aq, ht1, ht2, au, aC]; (repeat refine an ?_); (try refine .inl ?_); apply k0; clear k0; simp only [zP, V, aE])
  (refine aj rfl fun _ k0 => ?_; simp only [zE, op1, ev, lkp, d6, bP, fD, bnd, Ty.size, cj, eT, eg, cM, db, eC, Nat.div_one, cL, df, bq, dite_true, reduceCtorEq, aa, V, ad, ag, af, ae, Try.el41, Try.td3, Try.td41, Mly.av, ah, aE, aq, ht1, ht2, au, aC]; (repeat refine an ?_); (try refine .inl ?_); apply k0; clear k0; simp only [zP, V, aE])
  iterate 2 (refine aj rfl fun _ k0 => ?_; simp only [zO, zT, acs, reduceCtorEq, aa, V, ad, ag, af, ae, Mly.av, ah, aE, aq, ht1, ht2, au, aC]; (repeat refine an ?_); (try refine .inl ?_); apply k0; clear k0; simp only [zP, V, aE])
  refine am ?_
  apply k25; clear k25; refine kp [1, 2, 3, 6, 7, 8, 9, 10, 11, 40, 54] ?_
  refine cH 1 rfl ?_; simp only [aJ, bg, zS, aa, and_self, and_true, true_and, and_false, false_and, if_true, if_false, eq_self, reduceCtorEq, Nat.one_ne_zero, Nat.zero_ne_one]
  refine cF (n := 1) (L1 := [_]) rfl rfl (by rw [hB]; decide) rfl rfl ?_
  refine ak hP hN rfl ?_
  iterate 2 (refine aj rfl fun _ k0 => ?_; simp only [zO, zT, acs, reduceCtorEq, aa, V, ad, ag, af, ae, Mly.av, ah]; (repeat refine an ?_); (try refine .inl ?_); apply k0; clear k0; simp only [zP, V])
  refine am ?_
  apply k9; clear k9; refine kp [1, 2, 3, 6, 7, 8, 9, 10, 11, 40, 54] ?_
  refine ak hP hN rfl ?_
  iterate 3 (refine aj rfl fun _ k0 => ?_; simp only [zO, zT, acs, reduceCtorEq, aa, V, ad, ag, af, ae, Mly.av, ah]; (repeat refine an ?_); (try refine .inl ?_); apply k0; clear k0; simp only [zP, V])
  refine am ?_
  first
  | (refine ⟨_, _, ?_, ax [1, 2, 3, 6, 7, 8], k + 1, by omega, rfl, ?_⟩
     · omega
     · rw [ic hkl, jo, rU hin]; rfl)
  | (refine ⟨_, _, ?_, ax [1, 2, 3, 6, 7, 8], k + 1, by omega, rfl, ?_⟩
     · omega
     · rw [ic hkl, jo, hsp]; rfl)
 (try simp only [zB, reduceCtorEq] at hc8)
 refine aV ?_
 apply k3; clear k3; refine kp [1, 2, 3, 6, 7, 8, 15] ?_
 refine ai fun _ k26 => ?_
 have hkw : k = l.length := by omega
 rw [hkw, aE]
 refine ak hP hN rfl ?_
 iterate 2 (refine aj rfl fun _ k0 => ?_; simp only [zO, zT, acs, reduceCtorEq, aa, V, ad, ag, af, ae, Mly.av, ah]; (repeat refine an ?_); (try refine .inl ?_); apply k0; clear k0; simp only [zP, V])
 refine am ?_
 apply k26; clear k26; refine kp [1, 2, 3, 6, 7, 8, 15] ?_
 refine aG ?_
 refine ⟨nr, _, rfl, ?_⟩; simp only [zF, zP, aa, V, Mly.av, ah]
 exact VLE.of_eq rfl
theorem pV (m : Mly) (l : List Int) (a o : Int) (hm : MOK m) (hs : cO m l) (ha : 0 ≤ a ∧ a < m.inp) (hl : l.length ≤ 1000) : c7 Try.prog 56 [m.av, .one (.list (.int .i64) l), .one (.int .i64 a), .one (.int .i64 o)] (.one (.list (.int .i64) (ptL m l a o l.length))) := by
 have ol := hm.ol
 refine aS Try.func56 rfl (by kernel_rfl) (Nat.le_of_ble_eq_true rfl) rfl fun C hP hN hB => ?_
 replace hN : C.N = 35 := hN
 simp only [bc, V]
 refine ai fun _ k1 => ?_
 refine ak hP hN rfl ?_
 iterate 2 (refine aj rfl fun _ k0 => ?_; simp only [zO, zT, acs, reduceCtorEq, aa, V, ad, ag, af, ae, Mly.av, ah]; (repeat refine an ?_); (try refine .inl ?_); apply k0; clear k0; simp only [zP, V])
 refine am ?_
 apply k1; clear k1; refine kp [0, 1, 2, 3, 4, 8] ?_
 refine ai fun _ k2 => ?_
 refine ak hP hN rfl ?_
 (refine aj rfl fun _ k0 => ?_; simp only [zO, zT, acs, reduceCtorEq, aa, V, ad, ag, af, ae, Mly.av, ah]; (repeat refine an ?_); (try refine .inl ?_); apply k0; clear k0; simp only [zP, V])
 refine am ?_
 apply k2; clear k2; refine kp [0, 1, 2, 3, 4, 8, 9] ?_
 refine ai fun _ k3 => ?_
 refine ai fun _ k4 => ?_
 refine ak hP hN rfl ?_
 (refine aj rfl fun _ k0 => ?_; simp only [zO, zT, acs, reduceCtorEq, aa, V, ad, ag, af, ae, Mly.av, ah]; (repeat refine an ?_); (try refine .inl ?_); apply k0; clear k0; simp only [zP, V])
 refine am ?_
 apply k4; clear k4; refine kp [0, 1, 2, 3, 4, 8, 9, 10] ?_
 refine az ?_
 refine eI 9 (.int .i64) 3 (by decide) rfl ?_; simp only [au, aC, aH, aZ, Nat.zero_add, V]
 refine ba (fun n5 s5 => ∃ (k : Nat) (v : Nat), (k ≤ l.length) ∧ n5 = l.length - k ∧ s5 = { env := [(1, .one (.list (.int .i64) l)), (2, .one (.int .i64 a)), (3, .one (.int .i64 o)), (4, .one (.ptr 0 0 0 0)), (8, .one .nils), (9, .one (.row 1 v)), (10, .one (.int .i64 (k : Int)))], L := [.vars 24 [.int .i64 m.inp, .int .i64 m.st, .list (.list (.int .i64)) m.nx, .list (.list (.int .i64)) m.ot], .row (.int .i64) 3 v (ptL m l a o k)] }) ?_ ?_
 ·exact ⟨_, _, ax [1, 2, 3, 4, 8, 9, 10], 0, 0, Nat.zero_le _, rfl, rfl⟩
 rintro n5 s5 ⟨k, v, hk, rfl, rfl⟩
 refine ai fun _ k6 => ?_
 refine ai fun _ k7 => ?_
 refine ak hP hN rfl ?_
 iterate 4 (refine aj rfl fun _ k0 => ?_; simp only [zO, zT, acs, reduceCtorEq, aa, V, ad, ag, af, ae, Mly.av, ah]; (repeat refine an ?_); (try refine .inl ?_); apply k0; clear k0; simp only [zP, V])
 refine am ?_
 apply k7; clear k7; refine kp [1, 2, 3, 4, 8, 9, 10, 14] ?_
 refine cd (fun hc8 => ?_) (fun hc8 => ?_)
 ·(try simp only [zB, reduceCtorEq] at hc8)
  refine ay ?_
  apply k6; clear k6; refine kp [1, 2, 3, 4, 8, 9, 10, 14] ?_
  refine ai fun _ k9 => ?_
  refine az ?_
  refine ai fun _ k10 => ?_
  have hkl : k < l.length := by omega
  have hsk := hs _ (bh hkl)
  have q2 := hm.ql (l.getD k 0).toNat (by omega)
  have hnl := km m l a o k
  refine bf hP hN Try.mixed rfl ?_
  iterate 13 (refine aj rfl fun _ k0 => ?_; simp only [zO, zT, acs, reduceCtorEq, aa, V, ad, ag, af, ae, Mly.av, ah]; (repeat refine an ?_); (try refine .inl ?_); apply k0; clear k0; simp only [zP, V])
  refine am ?_
  refine ⟨by kernel_rfl, ?_⟩
  apply k10; clear k10; refine kp [1, 2, 3, 4, 8, 9, 10, 14, 29] ?_
  refine cd (fun hc11 => ?_) (fun hc11 => ?_)
  ·(try simp only [zB, reduceCtorEq] at hc11)
   have hy : m.out (l.getD k 0) a = o := by have h9 := hc11; unfold Mly.out; simpa using h9
   refine ak hP hN rfl ?_
   iterate 5 (refine aj rfl fun _ k0 => ?_; simp only [zO, zT, acs, reduceCtorEq, aa, V, ad, ag, af, ae, Mly.av, ah]; (repeat refine an ?_); (try refine .inl ?_); apply k0; clear k0; simp only [zP, V])
   refine am ?_
   apply k9; clear k9; refine kp [1, 2, 3, 4, 8, 9, 10, 14, 29] ?_
   refine ak hP hN rfl ?_
   iterate 3 (refine aj rfl fun _ k0 => ?_; simp only [zO, zT, acs, reduceCtorEq, aa, V, ad, ag, af, ae, Mly.av, ah]; (repeat refine an ?_); (try refine .inl ?_); apply k0; clear k0; simp only [zP, V])
   refine am ?_
   first
   | (refine ⟨_, _, ?_, ax [1, 2, 3, 4, 8, 9, 10], k + 1, v + 1, by omega, rfl, ?_⟩
      · omega
      · rw [lT hy]; rfl)
   | (refine ⟨_, _, ?_, ax [1, 2, 3, 4, 8, 9, 10], k + 1, v, by omega, rfl, ?_⟩
      · omega
      · rw [oH hy]; rfl)
  (try simp only [zB, reduceCtorEq] at hc11)
  have hy : ¬ m.out (l.getD k 0) a = o := by have h9 := hc11; unfold Mly.out; simpa using h9
  refine ay ?_
  apply k9; clear k9; refine kp [1, 2, 3, 4, 8, 9, 10, 14, 29] ?_
  refine ak hP hN rfl ?_
  iterate 3 (refine aj rfl fun _ k0 => ?_; simp only [zO, zT, acs, reduceCtorEq, aa, V, ad, ag, af, ae, Mly.av, ah]; (repeat refine an ?_); (try refine .inl ?_); apply k0; clear k0; simp only [zP, V])
  refine am ?_
  first
  | (refine ⟨_, _, ?_, ax [1, 2, 3, 4, 8, 9, 10], k + 1, v + 1, by omega, rfl, ?_⟩
     · omega
     · rw [lT hy]; rfl)
  | (refine ⟨_, _, ?_, ax [1, 2, 3, 4, 8, 9, 10], k + 1, v, by omega, rfl, ?_⟩
     · omega
     · rw [oH hy]; rfl)
 (try simp only [zB, reduceCtorEq] at hc8)
 refine aV ?_
 apply k3; clear k3; refine kp [1, 2, 3, 4, 8, 9, 10, 14] ?_
 refine ai fun _ k12 => ?_
 refine cH 1 rfl ?_; simp only [aJ, bg, zS, aa, and_self, and_true, true_and, and_false, false_and, if_true, if_false, eq_self, reduceCtorEq, Nat.one_ne_zero, Nat.zero_ne_one]
 have hkw : k = l.length := by omega
 rw [hkw]
 refine ak hP hN rfl ?_
 iterate 2 (refine aj rfl fun _ k0 => ?_; simp only [zO, zT, acs, reduceCtorEq, aa, V, ad, ag, af, ae, Mly.av, ah]; (repeat refine an ?_); (try refine .inl ?_); apply k0; clear k0; simp only [zP, V])
 refine am ?_
 apply k12; clear k12; refine kp [1, 2, 3, 4, 8, 9, 10, 14] ?_
 refine aG ?_
 refine ⟨nr, _, rfl, ?_⟩; simp only [zF, zP, aa, V, Mly.av, ah]
 exact VLE.of_eq rfl
theorem jg (l w : List Int) (hw : ∀ x ∈ w, 0 ≤ x ∧ x < l.length) (hl : w.length ≤ 100000) : c7 Try.prog 57 [.one (.list (.int .i64) l), .one (.list (.int .i64) w)] (.one (.list (.int .i64) (pkL l w))) := by
 refine aS Try.func57 rfl (by kernel_rfl) (Nat.le_of_ble_eq_true rfl) rfl fun C hP hN hB => ?_
 replace hN : C.N = 24 := hN
 simp only [bc, V]
 refine ai fun _ k1 => ?_
 refine ak hP hN rfl ?_
 (refine aj rfl fun _ k0 => ?_; simp only [zO, zT, acs, reduceCtorEq, aa, V, ad, ag, af, ae]; (repeat refine an ?_); (try refine .inl ?_); apply k0; clear k0; simp only [zP, V])
 refine am ?_
 apply k1; clear k1; refine kp [0, 1, 4] ?_
 refine ai fun _ k2 => ?_
 refine ak hP hN rfl ?_
 (refine aj rfl fun _ k0 => ?_; simp only [zO, zT, acs, reduceCtorEq, aa, V, ad, ag, af, ae]; (repeat refine an ?_); (try refine .inl ?_); apply k0; clear k0; simp only [zP, V])
 refine am ?_
 apply k2; clear k2; refine kp [0, 1, 4, 5] ?_
 refine ai fun _ k3 => ?_
 refine ai fun _ k4 => ?_
 refine ak hP hN rfl ?_
 (refine aj rfl fun _ k0 => ?_; simp only [zO, zT, acs, reduceCtorEq, aa, V, ad, ag, af, ae]; (repeat refine an ?_); (try refine .inl ?_); apply k0; clear k0; simp only [zP, V])
 refine am ?_
 apply k4; clear k4; refine kp [0, 1, 4, 5, 6] ?_
 refine az ?_
 refine eI 5 (.int .i64) 3 (by decide) rfl ?_; simp only [au, aC, aH, aZ, Nat.zero_add, V]
 refine ba (fun n5 s5 => ∃ (k : Nat) (v : Nat), (k ≤ w.length) ∧ n5 = w.length - k ∧ s5 = { env := [(0, .one (.list (.int .i64) l)), (1, .one (.list (.int .i64) w)), (4, .one .nils), (5, .one (.row 0 v)), (6, .one (.int .i64 (k : Int)))], L := [.row (.int .i64) 3 v (pkL l (w.take k))] }) ?_ ?_
 ·exact ⟨_, _, ax [0, 1, 4, 5, 6], 0, 0, Nat.zero_le _, rfl, rfl⟩
 rintro n5 s5 ⟨k, v, hk, rfl, rfl⟩
 refine ai fun _ k6 => ?_
 refine ai fun _ k7 => ?_
 refine ak hP hN rfl ?_
 iterate 4 (refine aj rfl fun _ k0 => ?_; simp only [zO, zT, acs, reduceCtorEq, aa, V, ad, ag, af, ae]; (repeat refine an ?_); (try refine .inl ?_); apply k0; clear k0; simp only [zP, V])
 refine am ?_
 apply k7; clear k7; refine kp [0, 1, 4, 5, 6, 10] ?_
 refine cd (fun hc8 => ?_) (fun hc8 => ?_)
 ·(try simp only [zB, reduceCtorEq] at hc8)
  refine ay ?_
  apply k6; clear k6; refine kp [0, 1, 4, 5, 6, 10] ?_
  refine ai fun _ k9 => ?_
  refine az ?_
  have hkl : k < w.length := by omega
  have hwk := hw _ (bh hkl)
  have hnl : (pkL l (w.take k)).length = k := by unfold pkL; rw [aD, List.length_take]; omega
  refine ak hP hN rfl ?_
  iterate 11 (refine aj rfl fun _ k0 => ?_; simp only [zO, zT, acs, reduceCtorEq, aa, V, ad, ag, af, ae]; (repeat refine an ?_); (try refine .inl ?_); apply k0; clear k0; simp only [zP, V])
  refine am ?_
  apply k9; clear k9; refine kp [0, 1, 4, 5, 6, 10] ?_
  refine ak hP hN rfl ?_
  iterate 3 (refine aj rfl fun _ k0 => ?_; simp only [zO, zT, acs, reduceCtorEq, aa, V, ad, ag, af, ae]; (repeat refine an ?_); (try refine .inl ?_); apply k0; clear k0; simp only [zP, V])
  refine am ?_
  refine ⟨_, _, ?_, ax [0, 1, 4, 5, 6], k + 1, v + 1, by omega, rfl, ?_⟩
  · omega
  · rw [yn hkl]; rfl
 (try simp only [zB, reduceCtorEq] at hc8)
 refine aV ?_
 apply k3; clear k3; refine kp [0, 1, 4, 5, 6, 10] ?_
 refine ai fun _ k10 => ?_
 refine cH 0 rfl ?_; simp only [aJ, bg, zS, aa, and_self, and_true, true_and, and_false, false_and, if_true, if_false, eq_self, reduceCtorEq, Nat.one_ne_zero, Nat.zero_ne_one]
 have hkw : k = w.length := by omega
 rw [hkw, aE]
 refine ak hP hN rfl ?_
 iterate 2 (refine aj rfl fun _ k0 => ?_; simp only [zO, zT, acs, reduceCtorEq, aa, V, ad, ag, af, ae]; (repeat refine an ?_); (try refine .inl ?_); apply k0; clear k0; simp only [zP, V])
 refine am ?_
 apply k10; clear k10; refine kp [0, 1, 4, 5, 6, 10] ?_
 refine aG ?_
 refine ⟨nr, _, rfl, ?_⟩; simp only [zF, zP, aa, V]
 exact VLE.of_eq rfl
set_option maxHeartbeats 1000000 in
theorem vN (m : Mly) (l : List Int) (a : Int) (hm : MOK m) (hs : cO m l) (ha : 0 ≤ a ∧ a < m.inp) (hl : l.length ≤ 1000) : c7 Try.prog 76 [m.av, .one (.list (.int .i64) l), .one (.int .i64 a)] (.one (.bool (!unS m l a l.length))) := by
 have ol := hm.ol
 refine aS Try.func76 rfl (by kernel_rfl) (Nat.le_of_ble_eq_true rfl) rfl fun C hP hN hB => ?_
 replace hN : C.N = 68 := hN
 simp only [bc, V]
 refine ai fun _ k1 => ?_
 refine ak hP hN rfl ?_
 iterate 2 (refine aj rfl fun _ k0 => ?_; simp only [zO, zT, acs, reduceCtorEq, aa, V, ad, ag, af, ae, Mly.av, ah]; (repeat refine an ?_); (try refine .inl ?_); apply k0; clear k0; simp only [zP, V])
 refine am ?_
 apply k1; clear k1; refine kp [0, 1, 2, 3, 6] ?_
 refine ai fun _ k2 => ?_
 refine ai fun _ k3 => ?_
 refine ak hP hN rfl ?_
 (refine aj rfl fun _ k0 => ?_; simp only [zO, zT, acs, reduceCtorEq, aa, V, ad, ag, af, ae, Mly.av, ah]; (repeat refine an ?_); (try refine .inl ?_); apply k0; clear k0; simp only [zP, V])
 refine am ?_
 apply k3; clear k3; refine kp [0, 1, 2, 3, 6, 7] ?_
 refine az ?_
 refine ba (fun n4 s4 => ∃ (k : Nat), (k ≤ l.length) ∧ (∀ k2 j2, k2 < k → j2 < k2 → clB m a (l.getD k2 0) (l.getD j2 0) = false) ∧ n4 = l.length - k ∧ s4 = { env := [(1, .one (.list (.int .i64) l)), (2, .one (.int .i64 a)), (3, .one (.ptr 0 0 0 0)), (6, .one (.bool false)), (7, .one (.int .i64 (k : Int)))], L := [.vars 24 [.int .i64 m.inp, .int .i64 m.st, .list (.list (.int .i64)) m.nx, .list (.list (.int .i64)) m.ot]] }) ?_ ?_
 ·exact ⟨_, _, ax [1, 2, 3, 6, 7], 0, Nat.zero_le _, fun k2 j2 h1 h2 => by omega, rfl, rfl⟩
 rintro n4 s4 ⟨k, hk, hu, rfl, rfl⟩
 refine ai fun _ k5 => ?_
 refine ai fun _ k6 => ?_
 refine ak hP hN rfl ?_
 iterate 4 (refine aj rfl fun _ k0 => ?_; simp only [zO, zT, acs, reduceCtorEq, aa, V, ad, ag, af, ae, Mly.av, ah]; (repeat refine an ?_); (try refine .inl ?_); apply k0; clear k0; simp only [zP, V])
 refine am ?_
 apply k6; clear k6; refine kp [1, 2, 3, 6, 7, 12] ?_
 refine cd (fun hc7 => ?_) (fun hc7 => ?_)
 ·(try simp only [zB, reduceCtorEq] at hc7)
  refine ay ?_
  apply k5; clear k5; refine kp [1, 2, 3, 6, 7, 12] ?_
  refine ai fun _ k8 => ?_
  refine az ?_
  refine ai fun _ k9 => ?_
  have hkl : k < l.length := by omega
  have hsk := hs _ (bh hkl)
  have q1 := hm.rl (l.getD k 0).toNat (by omega); have q2 := hm.ql (l.getD k 0).toNat (by omega)
  refine ak hP hN rfl ?_
  (refine aj rfl fun _ k0 => ?_; simp only [zO, zT, acs, reduceCtorEq, aa, V, ad, ag, af, ae, Mly.av, ah]; (repeat refine an ?_); (try refine .inl ?_); apply k0; clear k0; simp only [zP, V])
  refine am ?_
  apply k9; clear k9; refine kp [1, 2, 3, 6, 7, 8, 12] ?_
  refine az ?_
  refine ba (fun n10 s10 => ∃ (j : Nat), (j ≤ k) ∧ (∀ j2, j2 < j → clB m a (l.getD k 0) (l.getD j2 0) = false) ∧ n10 = k - j ∧ s10 = { env := [(1, .one (.list (.int .i64) l)), (2, .one (.int .i64 a)), (3, .one (.ptr 0 0 0 0)), (6, .one (.bool false)), (7, .one (.int .i64 (k : Int))), (8, .one (.int .i64 (j : Int)))], L := [.vars 24 [.int .i64 m.inp, .int .i64 m.st, .list (.list (.int .i64)) m.nx, .list (.list (.int .i64)) m.ot]] }) ?_ ?_
  ·exact ⟨_, _, ax [1, 2, 3, 6, 7, 8], 0, Nat.zero_le _, fun j2 h => by omega, rfl, rfl⟩
  rintro n10 s10 ⟨j, hj, hq, rfl, rfl⟩
  refine ai fun _ k11 => ?_
  refine ai fun _ k12 => ?_
  refine ak hP hN rfl ?_
  iterate 3 (refine aj rfl fun _ k0 => ?_; simp only [zO, zT, acs, reduceCtorEq, aa, V, ad, ag, af, ae, Mly.av, ah]; (repeat refine an ?_); (try refine .inl ?_); apply k0; clear k0; simp only [zP, V])
  refine am ?_
  apply k12; clear k12; refine kp [1, 2, 3, 6, 7, 8, 17] ?_
  refine cd (fun hc13 => ?_) (fun hc13 => ?_)
  ·(try simp only [zB, reduceCtorEq] at hc13)
   refine ay ?_
   apply k11; clear k11; refine kp [1, 2, 3, 6, 7, 8, 17] ?_
   refine ai fun _ k14 => ?_
   refine az ?_
   refine ai fun _ k15 => ?_
   have hjl : j < l.length := by omega
   have hsj := hs _ (bh hjl)
   have q3 := hm.rl (l.getD j 0).toNat (by omega); have q4 := hm.ql (l.getD j 0).toNat (by omega)
   refine bf hP hN Try.mixed rfl ?_
   iterate 24 (refine aj rfl fun _ k0 => ?_; simp only [zO, zT, acs, reduceCtorEq, aa, V, ad, ag, af, ae, Mly.av, ah]; (repeat refine an ?_); (try refine .inl ?_); apply k0; clear k0; simp only [zP, V])
   refine' aT (want := true) 23 rfl (m := 43) (by simp only [zP, aa, V]; exact rfl) (by kernel_rfl) rfl rfl rfl rfl rfl (fun hg16 => ?a16) ?b16 ?c16
   case a16 =>
    have hq16 := hg16; (try simp only [zB, reduceCtorEq] at hg16); simp only [zE]
    iterate 23 (refine bo rfl fun _ k0 => ?_; simp only [zO, zT, acs, reduceCtorEq, aa, V, ad, ag, af, ae, Mly.av, ah]; (repeat refine an ?_); (try refine .inl ?_); apply k0; clear k0; simp only [zP, V])
    (refine aj rfl fun _ k0 => ?_; simp only [zO, zT, acs, reduceCtorEq, aa, V, ad, ag, af, ae, Mly.av, ah]; (repeat refine an ?_); (try refine .inl ?_); apply k0; clear k0; simp only [zP, V])
    refine am ?_
    refine ⟨by simp only [zP, aa, V]; exact rfl, rfl, ?_, rfl⟩; (repeat refine aU rfl ?_); exact bu (by exact rfl) hq16
   case b16 => exact cJ
   simp only [bj, b6]
   refine am ?_
   refine ⟨by kernel_rfl, ?_⟩
   apply k15; clear k15; refine kp [1, 2, 3, 6, 7, 8, 17, 67] ?_
   refine cd (fun hc17 => ?_) (fun hc17 => ?_)
   ·(try simp only [zB, reduceCtorEq] at hc17)
    have hy : clB m a (l.getD k 0) (l.getD j 0) = true := by have h9 := hc17; unfold clB Mly.out Mly.nxt; simpa using h9
    have hun : unS m l a l.length = true := uH hkl (by omega) hy
    refine ai fun _ k18 => ?_
    refine ak hP hN rfl ?_
    (refine aj rfl fun _ k0 => ?_; simp only [zO, zT, acs, reduceCtorEq, aa, V, ad, ag, af, ae, Mly.av, ah]; (repeat refine an ?_); (try refine .inl ?_); apply k0; clear k0; simp only [zP, V])
    refine am ?_
    apply k18; clear k18; refine kp [1, 2, 3, 6, 7, 8, 17, 67] ?_
    refine aG ?_
    refine ⟨nr, _, rfl, ?_⟩; simp only [zF, zP, aa, V, Mly.av, ah]
    refine VLE.of_eq ?_
    refine congrArg (fun b => AV.one (AC.bool b)) ?_
    symm
    first
    | (rw [hun]; done)
    | (rw [lV fun k2 j2 h1 h2 => hu k2 j2 (by omega) h2]; done)
    | (rw [hun]; rfl)
    | (rw [lV fun k2 j2 h1 h2 => hu k2 j2 (by omega) h2]; rfl)
   (try simp only [zB, reduceCtorEq] at hc17)
   have hy : clB m a (l.getD k 0) (l.getD j 0) = false := by have h9 := hc17; unfold clB Mly.out Mly.nxt; rw [Bool.and_eq_false_iff, decide_eq_false_iff_not, decide_eq_false_iff_not]; exact h9
   refine ay ?_
   apply k14; clear k14; refine kp [1, 2, 3, 6, 7, 8, 17, 67] ?_
   refine ak hP hN rfl ?_
   iterate 3 (refine aj rfl fun _ k0 => ?_; simp only [zO, zT, acs, reduceCtorEq, aa, V, ad, ag, af, ae, Mly.av, ah]; (repeat refine an ?_); (try refine .inl ?_); apply k0; clear k0; simp only [zP, V])
   refine am ?_
   refine ⟨_, _, ?_, ax [1, 2, 3, 6, 7, 8], j + 1, by omega, fun j2 h2 => ?_, rfl, rfl⟩
   · omega
   · by_cases e : j2 = j
     · rw [e]; exact hy
     · exact hq j2 (by omega)
  (try simp only [zB, reduceCtorEq] at hc13)
  refine aV ?_
  apply k8; clear k8; refine kp [1, 2, 3, 6, 7, 8, 17] ?_
  refine ak hP hN rfl ?_
  iterate 3 (refine aj rfl fun _ k0 => ?_; simp only [zO, zT, acs, reduceCtorEq, aa, V, ad, ag, af, ae, Mly.av, ah]; (repeat refine an ?_); (try refine .inl ?_); apply k0; clear k0; simp only [zP, V])
  refine am ?_
  refine ⟨_, _, ?_, ax [1, 2, 3, 6, 7], k + 1, by omega, fun k2 j2 h1 h2 => ?_, rfl, rfl⟩
  · omega
  · by_cases e : k2 = k
    · rw [e]; exact hq j2 (by omega)
    · exact hu k2 j2 (by omega) h2
 (try simp only [zB, reduceCtorEq] at hc7)
 refine aV ?_
 apply k2; clear k2; refine kp [1, 2, 3, 6, 7, 12] ?_
 refine ai fun _ k19 => ?_
 refine ak hP hN rfl ?_
 (refine aj rfl fun _ k0 => ?_; simp only [zO, zT, acs, reduceCtorEq, aa, V, ad, ag, af, ae, Mly.av, ah]; (repeat refine an ?_); (try refine .inl ?_); apply k0; clear k0; simp only [zP, V])
 refine am ?_
 apply k19; clear k19; refine kp [1, 2, 3, 6, 7, 12] ?_
 refine aG ?_
 refine ⟨nr, _, rfl, ?_⟩; simp only [zF, zP, aa, V, Mly.av, ah]
 refine VLE.of_eq ?_
 refine congrArg (fun b => AV.one (AC.bool b)) ?_
 symm
 first
 | (rw [hun]; done)
 | (rw [lV fun k2 j2 h1 h2 => hu k2 j2 (by omega) h2]; done)
 | (rw [hun]; rfl)
 | (rw [lV fun k2 j2 h1 h2 => hu k2 j2 (by omega) h2]; rfl)
theorem BH (w : List Int) (x : Int) (hb : w.length ≤ 1000000) : c7 Try.prog 77 [.one (.list (.int .i64) w), .one (.int .i64 x)] (.one (.list (.int .i64) (w ++ [x]))) := by
 refine aS Try.func77 rfl (by kernel_rfl) (Nat.le_of_ble_eq_true rfl) rfl fun C hP hN hB => ?_
 replace hN : C.N = 14 := hN
 simp only [bc, V]
 refine ai fun _ k1 => ?_
 refine ak hP hN rfl ?_
 (refine aj rfl fun _ k0 => ?_; simp only [zO, zT, acs, reduceCtorEq, aa, V, ad, ag, af, ae]; (repeat refine an ?_); (try refine .inl ?_); apply k0; clear k0; simp only [zP, V])
 refine am ?_
 apply k1; clear k1; refine kp [0, 1, 4] ?_
 refine ai fun _ k2 => ?_
 refine ak hP hN rfl ?_
 (refine aj rfl fun _ k0 => ?_; simp only [zO, zT, acs, reduceCtorEq, aa, V, ad, ag, af, ae]; (repeat refine an ?_); (try refine .inl ?_); apply k0; clear k0; simp only [zP, V])
 refine am ?_
 apply k2; clear k2; refine kp [0, 1, 4, 5] ?_
 refine ai fun _ k3 => ?_
 refine eI 5 (.int .i64) 3 (by decide) rfl ?_; simp only [au, aC, aH, aZ, Nat.zero_add, V]
 refine ak hP hN rfl ?_
 iterate 4 (refine aj rfl fun _ k0 => ?_; simp only [zO, zT, acs, reduceCtorEq, aa, V, ad, ag, af, ae]; (repeat refine an ?_); (try refine .inl ?_); apply k0; clear k0; simp only [zP, V])
 refine am ?_
 apply k3; clear k3; refine kp [0, 1, 4, 5] ?_
 refine ai fun _ k4 => ?_
 refine ak hP hN rfl ?_
 iterate 5 (refine aj rfl fun _ k0 => ?_; simp only [zO, zT, acs, reduceCtorEq, aa, V, ad, ag, af, ae]; (repeat refine an ?_); (try refine .inl ?_); apply k0; clear k0; simp only [zP, V])
 refine am ?_
 apply k4; clear k4; refine kp [0, 1, 4, 5] ?_
 refine ai fun _ k5 => ?_
 refine ak hP hN rfl ?_
 iterate 2 (refine aj rfl fun _ k0 => ?_; simp only [zO, zT, acs, reduceCtorEq, aa, V, ad, ag, af, ae]; (repeat refine an ?_); (try refine .inl ?_); apply k0; clear k0; simp only [zP, V])
 refine am ?_
 apply k5; clear k5; refine kp [0, 1, 4, 5] ?_
 refine aG ?_
 refine ⟨nr, _, rfl, ?_⟩; simp only [zF, zP, aa, V]
 refine VLE.of_eq ?_
 rfl
set_option maxHeartbeats 1500000 in
theorem yu (m : Mly) (l : List Int) (hm : MOK m) (hs : cO m l) (hl : l.length ≤ 1000) : c7 Try.prog 54 [m.av, .one (.list (.int .i64) l)] (.tup [.one (.list (.int .i64) ((fdW m l).getD [])), .one (.bool (fdW m l).isSome)]) := by
 refine aS Try.func54 rfl (by kernel_rfl) (Nat.le_of_ble_eq_true rfl) rfl fun C hP hN hB => ?_
 replace hN : C.N = 87 := hN
 simp only [bc, V]
 have hi1 := hm.i1; have hi2 := hm.i2
 refine ai fun _ k1 => ?_
 refine ak hP hN rfl ?_
 iterate 3 (refine aj rfl fun _ k0 => ?_; simp only [zO, zT, acs, reduceCtorEq, aa, V, ad, ag, af, ae, Mly.av, ah, bB, bz]; (repeat refine an ?_); (try refine .inl ?_); apply k0; clear k0; simp only [zP, V])
 refine am ?_
 apply k1; clear k1; refine kp [0, 1, 2, 4, 5] ?_
 refine ai fun _ k2 => ?_
 refine ak hP hN rfl ?_
 (refine aj rfl fun _ k0 => ?_; simp only [zO, zT, acs, reduceCtorEq, aa, V, ad, ag, af, ae, Mly.av, ah, bB, bz]; (repeat refine an ?_); (try refine .inl ?_); apply k0; clear k0; simp only [zP, V])
 (refine aj rfl fun _ k0 => ?_; simp only [zO, zT, acs, reduceCtorEq, aa, V, ad, ag, af, ae, Mly.av, ah, bB, bz]; (repeat refine an ?_); refine Or.inr (Or.inl (k0 _ ?_)); clear k0; simp only [zP, V])
 (refine aj rfl fun _ k0 => ?_; simp only [zO, zT, acs, reduceCtorEq, aa, V, ad, ag, af, ae, Mly.av, ah, bB, bz]; (repeat refine an ?_); (try refine .inl ?_); apply k0; clear k0; simp only [zP, V])
 refine am ?_
 apply k2; clear k2; refine kp [0, 1, 2, 4, 5, 6] ?_
 refine ai fun _ k3 => ?_
 refine ak hP hN rfl ?_
 (refine aj rfl fun _ k0 => ?_; simp only [zO, zT, acs, reduceCtorEq, aa, V, ad, ag, af, ae, Mly.av, ah, bB, bz]; (repeat refine an ?_); refine Or.inr (Or.inl (k0 _ ?_)); clear k0; simp only [zP, V])
 (refine aj rfl fun _ k0 => ?_; simp only [zO, zT, acs, reduceCtorEq, aa, V, ad, ag, af, ae, Mly.av, ah, bB, bz]; (repeat refine an ?_); (try refine .inl ?_); apply k0; clear k0; simp only [zP, V])
 refine am ?_
 apply k3; clear k3; refine kp [0, 1, 2, 4, 5, 6, 7] ?_
 refine ai fun _ k4 => ?_
 refine ai fun _ k5 => ?_
 refine ak hP hN rfl ?_
 (refine aj rfl fun _ k0 => ?_; simp only [zO, zT, acs, reduceCtorEq, aa, V, ad, ag, af, ae, Mly.av, ah, bB, bz]; (repeat refine an ?_); (try refine .inl ?_); apply k0; clear k0; simp only [zP, V])
 refine am ?_
 apply k5; clear k5; refine kp [0, 1, 2, 4, 5, 6, 7, 8] ?_
 refine az ?_
 refine ba (fun n6 s6 => ∃ (k : Nat) (v u : Nat) (Q : List SS), (FQ m l.length Q) ∧ ((fO m (4097 - k) k ⟨Q, none⟩).res = lc m l) ∧ n6 = 4097 - k ∧ s6 = { env := [(2, .one (.ptr 0 0 0 0)), (4, .one .nils), (5, .one (.bool false)), (6, .one (.row 1 v)), (7, .one (.row 2 u)), (8, .one (.int .i64 (k : Int)))], L := [.vars 24 [.int .i64 m.inp, .int .i64 m.st, .list (.list (.int .i64)) m.nx, .list (.list (.int .i64)) m.ot], .row (.list (.int .i64)) 41 v (mF1 Q), .row (.list (.int .i64)) 41 u (mS2 Q)] }) ?_ ?_
 ·exact ⟨_, _, ax [2, 4, 5, 6, 7, 8], 0, 0, 0, [(l, [])], FQ.one hs, rfl, rfl, rfl⟩
 rintro n6 s6 ⟨k, v, u, Q, hQ, hrun, rfl, rfl⟩
 refine ai fun _ k7 => ?_
 refine ai fun _ k8 => ?_
 refine ak hP hN rfl ?_
 iterate 4 (refine aj rfl fun _ k0 => ?_; simp only [zO, zT, acs, reduceCtorEq, aa, V, ad, ag, af, ae, Mly.av, ah, bB, bz]; (repeat refine an ?_); (try refine .inl ?_); apply k0; clear k0; simp only [zP, V])
 refine am ?_
 apply k8; clear k8; refine kp [2, 4, 5, 6, 7, 8, 20] ?_
 refine cd (fun hc9 => ?_) (fun hc9 => ?_)
 ·(try simp only [zB, reduceCtorEq] at hc9)
  refine ay ?_
  apply k7; clear k7; refine kp [2, 4, 5, 6, 7, 8, 20] ?_
  refine ai fun _ k10 => ?_
  refine az ?_
  refine ai fun _ k11 => ?_
  refine ak hP hN rfl ?_
  (refine aj rfl fun _ k0 => ?_; simp only [zO, zT, acs, reduceCtorEq, aa, V, ad, ag, af, ae, Mly.av, ah, bB, bz]; (repeat refine an ?_); (try refine .inl ?_); apply k0; clear k0; simp only [zP, V])
  refine am ?_
  apply k11; clear k11; refine kp [2, 4, 5, 6, 7, 8, 9, 20] ?_
  refine az ?_
  have hkl : k < Q.length := by omega
  have hql := hQ.le
  refine ba (fun n12 s12 => ∃ (a : Nat) (v2 u2 : Nat) (Q2 : List SS), ((a : Int) ≤ m.inp) ∧ (FQ m l.length Q2) ∧ (k < Q2.length) ∧ ((List.range a).foldl (dn m k) ⟨Q, none⟩ = ⟨Q2, none⟩) ∧ n12 = m.inp.toNat - a ∧ s12 = { env := [(2, .one (.ptr 0 0 0 0)), (4, .one .nils), (5, .one (.bool false)), (6, .one (.row 1 v2)), (7, .one (.row 2 u2)), (8, .one (.int .i64 (k : Int))), (9, .one (.int .i64 (a : Int)))], L := [.vars 24 [.int .i64 m.inp, .int .i64 m.st, .list (.list (.int .i64)) m.nx, .list (.list (.int .i64)) m.ot], .row (.list (.int .i64)) 41 v2 (mF1 Q2), .row (.list (.int .i64)) 41 u2 (mS2 Q2)] }) ?_ ?_
  ·exact ⟨_, _, ax [2, 4, 5, 6, 7, 8, 9], 0, v, u, Q, by omega, hQ, hkl, rfl, rfl, rfl⟩
  rintro n12 s12 ⟨a, v2, u2, Q2, ha, hQ2, hk2, hf, rfl, rfl⟩
  refine ai fun _ k13 => ?_
  refine ai fun _ k14 => ?_
  refine ak hP hN rfl ?_
  iterate 4 (refine aj rfl fun _ k0 => ?_; simp only [zO, zT, acs, reduceCtorEq, aa, V, ad, ag, af, ae, Mly.av, ah, bB, bz]; (repeat refine an ?_); (try refine .inl ?_); apply k0; clear k0; simp only [zP, V])
  refine am ?_
  apply k14; clear k14; refine kp [2, 4, 5, 6, 7, 8, 9, 26] ?_
  refine cd (fun hc15 => ?_) (fun hc15 => ?_)
  ·(try simp only [zB, reduceCtorEq] at hc15)
   refine ay ?_
   apply k13; clear k13; refine kp [2, 4, 5, 6, 7, 8, 9, 26] ?_
   refine ai fun _ k16 => ?_
   refine az ?_
   refine ai fun _ k17 => ?_
   refine ai fun _ k18 => ?_
   obtain ⟨hsb, hln, hwl⟩ := hQ2.at_ (i := k) (by omega)
   have hgi : ∀ d, (mF1 Q2).getD k d = (Q2.getD k ss0).1 := fun d => xe (by omega) d
   have hgj : ∀ d, (mS2 Q2).getD k d = (Q2.getD k ss0).2 := fun d => At (by omega) d
   have hkL : k < Q2.length := by omega
   have hnx := oA hm (a := (a : Int)) ⟨by omega, by omega⟩ hsb
   have hq2l := hQ2.le
   refine bf hP hN Try.mixed rfl ?_
   iterate 6 (refine aj rfl fun _ k0 => ?_; simp only [zO, zT, acs, reduceCtorEq, aa, V, ad, ag, af, ae, Mly.av, ah, bB, bz, hgi]; (repeat refine an ?_); (try refine .inl ?_); apply k0; clear k0; simp only [zP, V])
   refine aj rfl fun _ k0 => ?_
   refine aK (h := aB (vN m (Q2.getD k ss0).1 (a : Int) hm hsb (by omega) (by omega))) rfl rfl (by first | exact rfl | (simp only [ev, zP, aa, V]; exact rfl)) (by simp only [zV, acs, reduceCtorEq, aa, V, ad, ag, af, ae, Mly.av, ah, bB, bz, hgi]) ?_
   apply k0; clear k0; simp only [zP, V]
   (refine aj rfl fun _ k0 => ?_; simp only [zO, zT, acs, reduceCtorEq, aa, V, ad, ag, af, ae, Mly.av, ah, bB, bz, hgi]; (repeat refine an ?_); (try refine .inl ?_); apply k0; clear k0; simp only [zP, V])
   refine am ?_
   refine ⟨by kernel_rfl, ?_⟩
   apply k18; clear k18; refine kp [2, 4, 5, 6, 7, 8, 9, 26, 36] ?_
   refine cd (fun hc19 => ?_) (fun hc19 => ?_)
   ·(try simp only [zB, reduceCtorEq] at hc19)
    have hun : unS m (Q2.getD k ss0).1 a (Q2.getD k ss0).1.length = true := by simpa using hc19
    have hst := vS hun
    refine aV ?_
    apply k16; clear k16; refine kp [2, 4, 5, 6, 7, 8, 9, 26, 36] ?_
    refine ak hP hN rfl ?_
    iterate 3 (refine aj rfl fun _ k0 => ?_; simp only [zO, zT, acs, reduceCtorEq, aa, V, ad, ag, af, ae, Mly.av, ah, bB, bz]; (repeat refine an ?_); (try refine .inl ?_); apply k0; clear k0; simp only [zP, V])
    refine am ?_
    first
    | (refine ⟨_, _, ?_, ax [2, 4, 5, 6, 7, 8, 9], a + 1, v2, u2, Q2, by omega, hQ2, hk2, (eQ hf).trans hst, rfl, rfl⟩
       omega)
    | (refine ⟨_, _, ?_, ax [2, 4, 5, 6, 7, 8, 9], a + 1, v2 + 1, u2 + 1, Q2 ++ [(eD m Q2 k a, dN Q2 k a)], by omega, hQ2.snoc hnx.1 (hnx.2.trans hln) (by unfold dN; rw [aq]; simp only [au, aC]; omega) (by omega), by rw [aq]; omega, (eQ hf).trans hst, rfl, ?_⟩
       · omega
       · rw [mK, mW]; rfl)
   (try simp only [zB, reduceCtorEq] at hc19)
   have hun : unS m (Q2.getD k ss0).1 a (Q2.getD k ss0).1.length = false := by simpa using hc19
   refine ay ?_
   apply k17; clear k17; refine kp [2, 4, 5, 6, 7, 8, 9, 26, 36] ?_
   refine ai fun _ k20 => ?_
   refine ak hP hN rfl ?_
   iterate 5 (refine aj rfl fun _ k0 => ?_; simp only [zO, zT, acs, reduceCtorEq, aa, V, ad, ag, af, ae, Mly.av, ah, bB, bz, hgj]; (repeat refine an ?_); (try refine .inl ?_); apply k0; clear k0; simp only [zP, V])
   refine aj rfl fun _ k0 => ?_
   refine aK (h := aB (BH (Q2.getD k ss0).2 (a : Int) (by omega))) rfl rfl (by first | exact rfl | (simp only [ev, zP, aa, V]; exact rfl)) (by simp only [zV, acs, reduceCtorEq, aa, V, ad, ag, af, ae, Mly.av, ah, bB, bz, hgj]) ?_
   apply k0; clear k0; simp only [zP, V]
   (refine aj rfl fun _ k0 => ?_; simp only [zO, zT, acs, reduceCtorEq, aa, V, ad, ag, af, ae, Mly.av, ah, bB, bz, hgj]; (repeat refine an ?_); (try refine .inl ?_); apply k0; clear k0; simp only [zP, V])
   refine am ?_
   apply k20; clear k20; refine kp [2, 4, 5, 6, 7, 8, 9, 10, 26, 36] ?_
   refine ai fun _ k21 => ?_
   refine ai fun _ k22 => ?_
   refine bf hP hN Try.mixed rfl ?_
   iterate 6 (refine aj rfl fun _ k0 => ?_; simp only [zO, zT, acs, reduceCtorEq, aa, V, ad, ag, af, ae, Mly.av, ah, bB, bz, hgi]; (repeat refine an ?_); (try refine .inl ?_); apply k0; clear k0; simp only [zP, V])
   refine aj rfl fun _ k0 => ?_
   refine aK (h := aB (lM m (Q2.getD k ss0).1 (a : Int) hm hsb (by omega) (by omega))) rfl rfl (by first | exact rfl | (simp only [ev, zP, aa, V]; exact rfl)) (by simp only [zV, acs, reduceCtorEq, aa, V, ad, ag, af, ae, Mly.av, ah, bB, bz, hgi]) ?_
   apply k0; clear k0; simp only [zP, V]
   iterate 2 (refine aj rfl fun _ k0 => ?_; simp only [zO, zT, acs, reduceCtorEq, aa, V, ad, ag, af, ae, Mly.av, ah, bB, bz, hgi]; (repeat refine an ?_); (try refine .inl ?_); apply k0; clear k0; simp only [zP, V])
   refine am ?_
   refine ⟨by kernel_rfl, ?_⟩
   apply k22; clear k22; refine kp [2, 4, 5, 6, 7, 8, 9, 10, 26, 36, 51] ?_
   refine cd (fun hc23 => ?_) (fun hc23 => ?_)
   ·(try simp only [zB, reduceCtorEq] at hc23)
    have hsm : smO m (Q2.getD k ss0).1 a (Q2.getD k ss0).1.length = false := wY.1 (by have h9 := hc23; omega)
    have hfd := ox hrun hkl hQ.le (by omega) hf (by rw [t9 hun hsm])
    refine ai fun _ k24 => ?_
    refine ak hP hN rfl ?_
    iterate 3 (refine aj rfl fun _ k0 => ?_; simp only [zO, zT, acs, reduceCtorEq, aa, V, ad, ag, af, ae, Mly.av, ah, bB, bz]; (repeat refine an ?_); (try refine .inl ?_); apply k0; clear k0; simp only [zP, V])
    refine am ?_
    apply k24; clear k24; refine kp [2, 4, 5, 6, 7, 8, 9, 10, 26, 36, 51] ?_
    refine aG ?_
    refine ⟨nr, _, rfl, ?_⟩; simp only [zF, zP, aa, V, Mly.av, ah, bB, bz]
    rw [hfd]
    first
    | exact VLE.of_eq rfl
    | exact bS ⟨aQ (bl rfl), aQ (.refl _), trivial⟩
   (try simp only [zB, reduceCtorEq] at hc23)
   have hsm : smO m (Q2.getD k ss0).1 a (Q2.getD k ss0).1.length = true := by
     cases h8 : smO m (Q2.getD k ss0).1 a (Q2.getD k ss0).1.length with
     | true => rfl
     | false => exact absurd (wY.2 h8) (by have h9 := hc23; omega)
   refine ay ?_
   apply k21; clear k21; refine kp [2, 4, 5, 6, 7, 8, 9, 10, 26, 36, 51] ?_
   refine ai fun _ k25 => ?_
   refine bf hP hN Try.mixed rfl ?_
   iterate 6 (refine aj rfl fun _ k0 => ?_; simp only [zO, zT, acs, reduceCtorEq, aa, V, ad, ag, af, ae, Mly.av, ah, bB, bz, hgi]; (repeat refine an ?_); (try refine .inl ?_); apply k0; clear k0; simp only [zP, V])
   refine aj rfl fun _ k0 => ?_
   refine aK (h := aB (lP m (Q2.getD k ss0).1 (a : Int) hm hsb (by omega) (by omega))) rfl rfl (by first | exact rfl | (simp only [ev, zP, aa, V]; exact rfl)) (by simp only [zV, acs, reduceCtorEq, aa, V, ad, ag, af, ae, Mly.av, ah, bB, bz, hgi]) ?_
   apply k0; clear k0; simp only [zP, V]
   (refine aj rfl fun _ k0 => ?_; simp only [zO, zT, acs, reduceCtorEq, aa, V, ad, ag, af, ae, Mly.av, ah, bB, bz, hgi]; (repeat refine an ?_); (try refine .inl ?_); apply k0; clear k0; simp only [zP, V])
   refine am ?_
   refine ⟨by kernel_rfl, ?_⟩
   apply k25; clear k25; refine kp [2, 4, 5, 6, 7, 8, 9, 10, 11, 26, 36, 51] ?_
   refine ai fun _ k26 => ?_
   refine ak hP hN rfl ?_
   (refine aj rfl fun _ k0 => ?_; simp only [zO, zT, acs, reduceCtorEq, aa, V, ad, ag, af, ae, Mly.av, ah, bB, bz]; (repeat refine an ?_); (try refine .inl ?_); apply k0; clear k0; simp only [zP, V])
   refine am ?_
   apply k26; clear k26; refine kp [2, 4, 5, 6, 7, 8, 9, 10, 11, 12, 26, 36, 51] ?_
   refine ai fun _ k27 => ?_
   refine ai fun _ k28 => ?_
   refine ak hP hN rfl ?_
   (refine aj rfl fun _ k0 => ?_; simp only [zO, zT, acs, reduceCtorEq, aa, V, ad, ag, af, ae, Mly.av, ah, bB, bz]; (repeat refine an ?_); (try refine .inl ?_); apply k0; clear k0; simp only [zP, V])
   refine am ?_
   apply k28; clear k28; refine kp [2, 4, 5, 6, 7, 8, 9, 10, 11, 12, 13, 26, 36, 51] ?_
   refine az ?_
   refine ba (fun n29 s29 => ∃ (j : Nat), (j ≤ Q2.length) ∧ n29 = Q2.length - j ∧ s29 = { env := [(2, .one (.ptr 0 0 0 0)), (4, .one .nils), (5, .one (.bool false)), (6, .one (.row 1 v2)), (7, .one (.row 2 u2)), (8, .one (.int .i64 (k : Int))), (9, .one (.int .i64 (a : Int))), (10, .one (.list (.int .i64) ((Q2.getD k ss0).2 ++ [(a : Int)]))), (11, .one (.list (.int .i64) (cr m (Q2.getD k ss0).1 (a : Int)))), (12, .one (.bool (knB Q2 (cr m (Q2.getD k ss0).1 (a : Int)) j))), (13, .one (.int .i64 (j : Int)))], L := [.vars 24 [.int .i64 m.inp, .int .i64 m.st, .list (.list (.int .i64)) m.nx, .list (.list (.int .i64)) m.ot], .row (.list (.int .i64)) 41 v2 (mF1 Q2), .row (.list (.int .i64)) 41 u2 (mS2 Q2)] }) ?_ ?_
   ·exact ⟨_, _, ax [2, 4, 5, 6, 7, 8, 9, 10, 11, 12, 13], 0, Nat.zero_le _, rfl, rfl⟩
   rintro n29 s29 ⟨j, hj, rfl, rfl⟩
   refine ai fun _ k30 => ?_
   refine ai fun _ k31 => ?_
   refine ak hP hN rfl ?_
   iterate 4 (refine aj rfl fun _ k0 => ?_; simp only [zO, zT, acs, reduceCtorEq, aa, V, ad, ag, af, ae, Mly.av, ah, bB, bz]; (repeat refine an ?_); (try refine .inl ?_); apply k0; clear k0; simp only [zP, V])
   refine am ?_
   apply k31; clear k31; refine kp [2, 4, 5, 6, 7, 8, 9, 10, 11, 12, 13, 63] ?_
   refine cd (fun hc32 => ?_) (fun hc32 => ?_)
   ·(try simp only [zB, reduceCtorEq] at hc32)
    refine ay ?_
    apply k30; clear k30; refine kp [2, 4, 5, 6, 7, 8, 9, 10, 11, 12, 13, 63] ?_
    refine ai fun _ k33 => ?_
    refine az ?_
    have hgq : ∀ d, (mF1 Q2).getD j d = (Q2.getD j ss0).1 := fun d => xe (by omega) d
    have hkn := xu Q2 (cr m (Q2.getD k ss0).1 (a : Int)) j
    refine ak hP hN rfl ?_
    iterate 2 (refine aj rfl fun _ k0 => ?_; simp only [zO, zT, acs, reduceCtorEq, aa, V, ad, ag, af, ae, Mly.av, ah, bB, bz, hgq]; (repeat refine an ?_); (try refine .inl ?_); apply k0; clear k0; simp only [zP, V])
    refine' aT (want := false) 6 rfl (m := 67) (by simp only [zP, aa, V]; exact rfl) (by kernel_rfl) rfl rfl rfl rfl rfl (fun hg34 => ?a34) ?b34 ?c34
    case a34 =>
     have hq34 := hg34; (try simp only [zB, reduceCtorEq] at hg34); simp only [zE]
     iterate 5 (refine bo rfl fun _ k0 => ?_; simp only [zO, zT, acs, reduceCtorEq, aa, V, ad, ag, af, ae, Mly.av, ah, bB, bz, hgq]; (repeat refine an ?_); (try refine .inl ?_); apply k0; clear k0; simp only [zP, V])
     refine bo rfl fun _ k0 => ?_
     refine aK (h := aB (wK (Q2.getD j ss0).1 (cr m (Q2.getD k ss0).1 (a : Int)))) rfl rfl (by first | exact rfl | (simp only [ev, zP, aa, V]; exact rfl)) (by simp only [zV, acs, reduceCtorEq, aa, V, ad, ag, af, ae, Mly.av, ah, bB, bz, hgq]) ?_
     apply k0; clear k0; simp only [zP, V]
     (refine aj rfl fun _ k0 => ?_; simp only [zO, zT, acs, reduceCtorEq, aa, V, ad, ag, af, ae, Mly.av, ah, bB, bz, hgq]; (repeat refine an ?_); (try refine .inl ?_); apply k0; clear k0; simp only [zP, V])
     refine am ?_
     refine ⟨by simp only [zP, aa, V]; exact rfl, rfl, ?_, rfl⟩; (repeat refine aU rfl ?_); exact bu (by exact rfl) hq34
    case b34 => exact cJ
    simp only [bj, b6]
    (refine aj rfl fun _ k0 => ?_; simp only [zO, zT, acs, reduceCtorEq, aa, V, ad, ag, af, ae, Mly.av, ah, bB, bz, hgq]; (repeat refine an ?_); (try refine .inl ?_); apply k0; clear k0; simp only [zP, V])
    refine am ?_
    apply k33; clear k33; refine kp [2, 4, 5, 6, 7, 8, 9, 10, 11, 12, 13, 63] ?_
    refine ak hP hN rfl ?_
    iterate 3 (refine aj rfl fun _ k0 => ?_; simp only [zO, zT, acs, reduceCtorEq, aa, V, ad, ag, af, ae, Mly.av, ah, bB, bz]; (repeat refine an ?_); (try refine .inl ?_); apply k0; clear k0; simp only [zP, V])
    refine am ?_
    refine ⟨_, _, ?_, ax [2, 4, 5, 6, 7, 8, 9, 10, 11, 12, 13], j + 1, by omega, rfl, ?_⟩
    · omega
    · rw [hkn]; rfl
   (try simp only [zB, reduceCtorEq] at hc32)
   refine aV ?_
   apply k27; clear k27; refine kp [2, 4, 5, 6, 7, 8, 9, 10, 11, 12, 13, 63] ?_
   refine ai fun _ k35 => ?_
   refine ai fun _ k36 => ?_
   have hjl : j = Q2.length := by omega
   refine ak hP hN rfl ?_
   (refine aj rfl fun _ k0 => ?_; simp only [zO, zT, acs, reduceCtorEq, aa, V, ad, ag, af, ae, Mly.av, ah, bB, bz]; (repeat refine an ?_); (try refine .inl ?_); apply k0; clear k0; simp only [zP, V])
   refine am ?_
   apply k36; clear k36; refine kp [2, 4, 5, 6, 7, 8, 9, 10, 11, 12, 13, 63, 75] ?_
   refine cd (fun hc37 => ?_) (fun hc37 => ?_)
   ·(try simp only [zB, reduceCtorEq] at hc37)
    have hps : dS Q2 (eD m Q2 k a) < Q2.length := by have h9 := hc37; rw [hjl, qj] at h9; unfold eD; simpa using h9
    have hst := sY hun hsm hps
    refine aV ?_
    apply k16; clear k16; refine kp [2, 4, 5, 6, 7, 8, 9, 10, 11, 12, 13, 63, 75] ?_
    refine ak hP hN rfl ?_
    iterate 3 (refine aj rfl fun _ k0 => ?_; simp only [zO, zT, acs, reduceCtorEq, aa, V, ad, ag, af, ae, Mly.av, ah, bB, bz]; (repeat refine an ?_); (try refine .inl ?_); apply k0; clear k0; simp only [zP, V])
    refine am ?_
    first
    | (refine ⟨_, _, ?_, ax [2, 4, 5, 6, 7, 8, 9], a + 1, v2, u2, Q2, by omega, hQ2, hk2, (eQ hf).trans hst, rfl, rfl⟩
       omega)
    | (refine ⟨_, _, ?_, ax [2, 4, 5, 6, 7, 8, 9], a + 1, v2 + 1, u2 + 1, Q2 ++ [(eD m Q2 k a, dN Q2 k a)], by omega, hQ2.snoc hnx.1 (hnx.2.trans hln) (by unfold dN; rw [aq]; simp only [au, aC]; omega) (by omega), by rw [aq]; omega, (eQ hf).trans hst, rfl, ?_⟩
       · omega
       · rw [mK, mW]; rfl)
   (try simp only [zB, reduceCtorEq] at hc37)
   have hps : ¬ dS Q2 (eD m Q2 k a) < Q2.length := by have h9 := hc37; rw [hjl, qj] at h9; unfold eD; simpa using h9
   refine ay ?_
   apply k35; clear k35; refine kp [2, 4, 5, 6, 7, 8, 9, 10, 11, 12, 13, 63, 75] ?_
   refine ai fun _ k38 => ?_
   refine ai fun _ k39 => ?_
   refine ak hP hN rfl ?_
   iterate 3 (refine aj rfl fun _ k0 => ?_; simp only [zO, zT, acs, reduceCtorEq, aa, V, ad, ag, af, ae, Mly.av, ah, bB, bz]; (repeat refine an ?_); (try refine .inl ?_); apply k0; clear k0; simp only [zP, V])
   refine am ?_
   apply k39; clear k39; refine kp [2, 4, 5, 6, 7, 8, 9, 10, 11, 12, 13, 63, 75, 78] ?_
   refine cd (fun hc40 => ?_) (fun hc40 => ?_)
   ·(try simp only [zB, reduceCtorEq] at hc40)
    have hfd := ox hrun hkl hQ.le (by omega) hf (by rw [tH hun hsm hps (by omega)])
    refine ai fun _ k41 => ?_
    refine ak hP hN rfl ?_
    iterate 2 (refine aj rfl fun _ k0 => ?_; simp only [zO, zT, acs, reduceCtorEq, aa, V, ad, ag, af, ae, Mly.av, ah, bB, bz]; (repeat refine an ?_); (try refine .inl ?_); apply k0; clear k0; simp only [zP, V])
    refine am ?_
    apply k41; clear k41; refine kp [2, 4, 5, 6, 7, 8, 9, 10, 11, 12, 13, 63, 75, 78] ?_
    refine aG ?_
    refine ⟨nr, _, rfl, ?_⟩; simp only [zF, zP, aa, V, Mly.av, ah, bB, bz]
    rw [hfd]
    first
    | exact VLE.of_eq rfl
    | exact bS ⟨aQ (bl rfl), aQ (.refl _), trivial⟩
   (try simp only [zB, reduceCtorEq] at hc40)
   have hst := tc hun hsm hps (by omega)
   refine ay ?_
   apply k38; clear k38; refine kp [2, 4, 5, 6, 7, 8, 9, 10, 11, 12, 13, 63, 75, 78] ?_
   refine ai fun _ k42 => ?_
   refine ak hP hN rfl ?_
   iterate 5 (refine aj rfl fun _ k0 => ?_; simp only [zO, zT, acs, reduceCtorEq, aa, V, ad, ag, af, ae, Mly.av, ah, bB, bz]; (repeat refine an ?_); (try refine .inl ?_); apply k0; clear k0; simp only [zP, V])
   refine am ?_
   apply k42; clear k42; refine kp [2, 4, 5, 6, 7, 8, 9, 10, 11, 12, 13, 63, 75, 78] ?_
   refine ak hP hN rfl ?_
   iterate 5 (refine aj rfl fun _ k0 => ?_; simp only [zO, zT, acs, reduceCtorEq, aa, V, ad, ag, af, ae, Mly.av, ah, bB, bz]; (repeat refine an ?_); (try refine .inl ?_); apply k0; clear k0; simp only [zP, V])
   refine am ?_
   apply k16; clear k16; refine kp [2, 4, 5, 6, 7, 8, 9, 10, 11, 12, 13, 63, 75, 78] ?_
   refine ak hP hN rfl ?_
   iterate 3 (refine aj rfl fun _ k0 => ?_; simp only [zO, zT, acs, reduceCtorEq, aa, V, ad, ag, af, ae, Mly.av, ah, bB, bz]; (repeat refine an ?_); (try refine .inl ?_); apply k0; clear k0; simp only [zP, V])
   refine am ?_
   first
   | (refine ⟨_, _, ?_, ax [2, 4, 5, 6, 7, 8, 9], a + 1, v2, u2, Q2, by omega, hQ2, hk2, (eQ hf).trans hst, rfl, rfl⟩
      omega)
   | (refine ⟨_, _, ?_, ax [2, 4, 5, 6, 7, 8, 9], a + 1, v2 + 1, u2 + 1, Q2 ++ [(eD m Q2 k a, dN Q2 k a)], by omega, hQ2.snoc hnx.1 (hnx.2.trans hln) (by unfold dN; rw [aq]; simp only [au, aC]; omega) (by omega), by rw [aq]; omega, (eQ hf).trans hst, rfl, ?_⟩
      · omega
      · rw [mK, mW]; rfl)
  (try simp only [zB, reduceCtorEq] at hc15)
  refine aV ?_
  apply k10; clear k10; refine kp [2, 4, 5, 6, 7, 8, 9, 26] ?_
  refine ak hP hN rfl ?_
  iterate 3 (refine aj rfl fun _ k0 => ?_; simp only [zO, zT, acs, reduceCtorEq, aa, V, ad, ag, af, ae, Mly.av, ah, bB, bz]; (repeat refine an ?_); (try refine .inl ?_); apply k0; clear k0; simp only [zP, V])
  refine am ?_
  refine ⟨_, _, ?_, ax [2, 4, 5, 6, 7, 8], k + 1, v2, u2, Q2, hQ2, x7 hrun hkl hQ.le (by rw [show m.inp.toNat = a by omega]; exact hf), rfl, rfl⟩
  have := hQ.le
  omega
 (try simp only [zB, reduceCtorEq] at hc9)
 refine aV ?_
 apply k4; clear k4; refine kp [2, 4, 5, 6, 7, 8, 20] ?_
 refine ai fun _ k43 => ?_
 have hfd := yM hrun (by omega)
 refine ak hP hN rfl ?_
 iterate 2 (refine aj rfl fun _ k0 => ?_; simp only [zO, zT, acs, reduceCtorEq, aa, V, ad, ag, af, ae, Mly.av, ah, bB, bz]; (repeat refine an ?_); (try refine .inl ?_); apply k0; clear k0; simp only [zP, V])
 refine am ?_
 apply k43; clear k43; refine kp [2, 4, 5, 6, 7, 8, 20] ?_
 refine aG ?_
 refine ⟨nr, _, rfl, ?_⟩; simp only [zF, zP, aa, V, Mly.av, ah, bB, bz]
 rw [hfd]
 first
 | exact VLE.of_eq rfl
 | exact bS ⟨aQ (bl rfl), aQ (.refl _), trivial⟩
end Go.Proofs.Ytoahhklogohehaa
