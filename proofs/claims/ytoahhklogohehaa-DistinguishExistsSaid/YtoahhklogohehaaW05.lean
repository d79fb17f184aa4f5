/- Contracts of functions of this seat, each out of a walk through its code, and plain facts on what they compute. Conditions: those that each theorem names. -/
import Derived.Test.YtoahhklogohehaaW04
set_option linter.unusedSimpArgs false
set_option linter.unusedVariables false
set_option maxRecDepth 100000
namespace Go.Proofs.Ytoahhklogohehaa
open Go Go.AV
open Nat renaming reduceEqDiff → aa, reduceAdd → V, reduceLeDiff → ad, reduceLT → ag, reduceMul → af, reduceSub → ae
open List renaming set_cons_zero → cE, set_cons_succ → ci, getD_cons_zero → ar, length_append → aq, map_cons → aF, cons_append → aM, map_nil → bl, length_cons → au, nil_append → ba, take_succ_cons → dD, length_nil → aE, length_map → az, length_replicate → bh, take_length → aJ, mem_cons_self → aH, mem_cons_of_mem → aG
open Int renaming toNat_natCast → ah
set_option maxHeartbeats 1500000 in
theorem vJ (T U : List bc) (hT : T.length ≤ 100000) (hK : ∀ x ∈ T, x.2.2.1.length ≤ 1000000) : bZ Try.prog 13 [.agg [.list ndT T], .agg [.list ndT U]] (.one (.bool (decide (T = U)))) := by
 refine aU Try.func13 rfl (by kernel_rfl) (Nat.le_of_ble_eq_true rfl) rfl fun C hP hN hB => ?_
 replace hN : C.N = 73 := hN
 simp only [bg, V]
 refine ai fun _ k1 => ?_
 refine ak hP hN rfl ?_
 iterate 3 (refine aj rfl fun _ k0 => ?_; simp only [zO, zT, acs, reduceCtorEq, aa, V, ad, ag, af, ae, ah, aD, aR, aK, ar]; (repeat refine And.intro (by first | omega | assumption | exact rfl | exact hkX | exact hkY) ?_); (try refine .inl ?_); apply k0; clear k0; simp only [zP, V])
 refine am ?_
 apply k1; clear k1; refine kp [0, 1, 2, 3, 4] ?_
 refine ai fun _ k2 => ?_
 refine ai fun _ k3 => ?_
 refine ak hP hN rfl ?_
 iterate 7 (refine aj rfl fun _ k0 => ?_; simp only [zO, zT, acs, reduceCtorEq, aa, V, ad, ag, af, ae, ah, aD, aR, aK, ar]; (repeat refine And.intro (by first | omega | assumption | exact rfl | exact hkX | exact hkY) ?_); (try refine .inl ?_); apply k0; clear k0; simp only [zP, V])
 refine am ?_
 apply k3; clear k3; refine kp [0, 1, 2, 3, 4, 15] ?_
 refine cd (fun hc4 => ?_) (fun hc4 => ?_)
 ·(try simp only [zB, reduceCtorEq] at hc4)
  have hno : ¬ T = U := fun e => hc4 (by rw [e])
  refine ai fun _ k5 => ?_
  refine ak hP hN rfl ?_
  (refine aj rfl fun _ k0 => ?_; simp only [zO, zT, acs, reduceCtorEq, aa, V, ad, ag, af, ae, ah, aD, aR, aK, ar]; (repeat refine And.intro (by first | omega | assumption | exact rfl | exact hkX | exact hkY) ?_); (try refine .inl ?_); apply k0; clear k0; simp only [zP, V])
  refine am ?_
  apply k5; clear k5; refine kp [0, 1, 2, 3, 4, 15] ?_
  refine aB ?_
  refine ⟨nr, _, rfl, ?_⟩; simp only [zF, zP, aa, V, ah, aD, aR, aK, ar]
  refine VLE.of_eq ?_
  refine congrArg (fun b => AV.one (AC.bool b)) ?_
  symm
  first
  | exact decide_eq_false hno
  | exact decide_eq_true (lV hll (fun q hq => hu q (by omega)))
 (try simp only [zB, reduceCtorEq] at hc4)
 have hll : T.length = U.length := by omega
 refine ax ?_
 apply k2; clear k2; refine kp [0, 1, 2, 3, 4, 15] ?_
 refine ai fun _ k6 => ?_
 refine ai fun _ k7 => ?_
 refine ak hP hN rfl ?_
 (refine aj rfl fun _ k0 => ?_; simp only [zO, zT, acs, reduceCtorEq, aa, V, ad, ag, af, ae, ah, aD, aR, aK, ar]; (repeat refine And.intro (by first | omega | assumption | exact rfl | exact hkX | exact hkY) ?_); (try refine .inl ?_); apply k0; clear k0; simp only [zP, V])
 refine am ?_
 apply k7; clear k7; refine kp [0, 1, 2, 3, 4, 5, 15] ?_
 refine ay ?_
 refine bb (fun n8 s8 => ∃ (i : Nat), (i ≤ T.length) ∧ (∀ q, q < i → T.getD q nd0 = U.getD q nd0) ∧ n8 = T.length - i ∧ s8 = { env := [(2, .one (.ptr 0 0 0 0)), (3, .one (.ptr 1 0 0 0)), (4, .one (.bool false)), (5, .one (.int .i64 (i : Int)))], L := [.vars 29 [.list ndT T], .vars 29 [.list ndT U]] }) ?_ ?_
 ·exact ⟨_, _, aw [2, 3, 4, 5], 0, Nat.zero_le _, fun q h => by omega, rfl, rfl⟩
 rintro n8 s8 ⟨i, hi, hu, rfl, rfl⟩
 refine ai fun _ k9 => ?_
 refine ai fun _ k10 => ?_
 refine ak hP hN rfl ?_
 iterate 5 (refine aj rfl fun _ k0 => ?_; simp only [zO, zT, acs, reduceCtorEq, aa, V, ad, ag, af, ae, ah, aD, aR, aK, ar]; (repeat refine And.intro (by first | omega | assumption | exact rfl | exact hkX | exact hkY) ?_); (try refine .inl ?_); apply k0; clear k0; simp only [zP, V])
 refine am ?_
 apply k10; clear k10; refine kp [2, 3, 4, 5, 20] ?_
 refine cd (fun hc11 => ?_) (fun hc11 => ?_)
 ·(try simp only [zB, reduceCtorEq] at hc11)
  refine ax ?_
  apply k9; clear k9; refine kp [2, 3, 4, 5, 20] ?_
  refine ai fun _ k12 => ?_
  refine ay ?_
  refine ai fun _ k13 => ?_
  refine km ?_; simp only [aM, List.append_assoc, ba]
  refine km ?_; simp only [aM, List.append_assoc, ba]
  refine bp hP hN Try.mixed rfl ?_
  iterate 10 (refine aj rfl fun _ k0 => ?_; simp only [zO, zT, acs, reduceCtorEq, aa, V, ad, ag, af, ae, ah, aD, aR, aK, ar]; (repeat refine And.intro (by first | omega | assumption | exact rfl | exact hkX | exact hkY) ?_); (try refine .inl ?_); apply k0; clear k0; simp only [zP, V])
  (refine aj rfl fun _ k0 => ?_; simp only [zO, zT, acs, reduceCtorEq, aa, V, ad, ag, af, ae, ah, aD, aR, aK, ar]; refine Or.inr (Or.inl ⟨2, ?_, ndT, nd0, ?_⟩); (exact rfl); (repeat refine And.intro (by first | rfl | decide) ?_); refine k0 _ ?_; clear k0; simp only [zP, V])
  (refine aj rfl fun _ k0 => ?_; simp only [zO, zT, acs, reduceCtorEq, aa, V, ad, ag, af, ae, ah, aD, aR, aK, ar]; refine Or.inr (Or.inl ⟨3, ?_, ndT, nd0, ?_⟩); (exact rfl); (repeat refine And.intro (by first | rfl | decide) ?_); refine k0 _ ?_; clear k0; simp only [zP, V])
  iterate 2 (refine aj rfl fun _ k0 => ?_; simp only [zO, zT, acs, reduceCtorEq, aa, V, ad, ag, af, ae, ah, aD, aR, aK, ar]; (repeat refine And.intro (by first | omega | assumption | exact rfl | exact hkX | exact hkY) ?_); (try refine .inl ?_); apply k0; clear k0; simp only [zP, V])
  refine am ?_
  refine ⟨by kernel_rfl, ?_⟩
  apply k13; clear k13; refine kp [2, 3, 4, 5, 6, 7, 20] ?_
  refine ai fun _ k14 => ?_
  refine ai fun _ k15 => ?_
  have hil : i < T.length := by omega
  have hkm : (T.getD i nd0) ∈ T := by simp [List.getD, hil]
  have hkl := hK _ hkm
  refine ak hP hN rfl ?_
  iterate 6 (refine aj rfl fun _ k0 => ?_; simp only [zO, zT, acs, reduceCtorEq, aa, V, ad, ag, af, ae, ah, aD, aR, aK, ar]; (repeat refine And.intro (by first | omega | assumption | exact rfl | exact hkX | exact hkY) ?_); (try refine .inl ?_); apply k0; clear k0; simp only [zP, V])
  refine' aP (want := false) 6 rfl (m := 38) (by simp only [zP, aa, V]; exact rfl) (by kernel_rfl) rfl rfl rfl rfl rfl (fun hg16 => ?a16) ?b16 ?c16
  case a16 =>
   have hq16 := hg16; (try simp only [zB, reduceCtorEq] at hg16); simp only [zE]
   iterate 4 (refine bf rfl fun _ k0 => ?_; simp only [zO, zT, acs, reduceCtorEq, aa, V, ad, ag, af, ae, ah, aD, aR, aK, ar]; (repeat refine And.intro (by first | omega | assumption | exact rfl | exact hkX | exact hkY) ?_); (try refine .inl ?_); apply k0; clear k0; simp only [zP, V])
   refine bf rfl fun _ k0 => ?_
   refine aN (h := aA (Ac (T.getD i nd0).1 (U.getD i nd0).1)) rfl rfl (by first | exact rfl | (simp only [ev, zP, aa, V]; exact rfl)) (by simp only [zV, acs, reduceCtorEq, aa, V, ad, ag, af, ae, ah, aD, aR, aK, ar]) ?_
   apply k0; clear k0; simp only [zP, V]
   (refine bf rfl fun _ k0 => ?_; simp only [zO, zT, acs, reduceCtorEq, aa, V, ad, ag, af, ae, ah, aD, aR, aK, ar]; (repeat refine And.intro (by first | omega | assumption | exact rfl | exact hkX | exact hkY) ?_); (try refine .inl ?_); apply k0; clear k0; simp only [zP, V])
   (refine aj rfl fun _ k0 => ?_; simp only [zO, zT, acs, reduceCtorEq, aa, V, ad, ag, af, ae, ah, aD, aR, aK, ar]; (repeat refine And.intro (by first | omega | assumption | exact rfl | exact hkX | exact hkY) ?_); (try refine .inl ?_); apply k0; clear k0; simp only [zP, V])
   refine am ?_
   refine ⟨by simp only [zP, aa, V]; exact rfl, rfl, ?_, rfl⟩; (repeat refine aQ rfl ?_); exact bn (by exact rfl) hq16
  case b16 => exact cq
  simp only [b7, aT]
  (refine aj rfl fun _ k0 => ?_; simp only [zO, zT, acs, reduceCtorEq, aa, V, ad, ag, af, ae, ah, aD, aR, aK, ar]; (repeat refine And.intro (by first | omega | assumption | exact rfl | exact hkX | exact hkY) ?_); (try refine .inl ?_); apply k0; clear k0; simp only [zP, V])
  refine' aP (want := false) 7 rfl (m := 46) (by simp only [zP, aa, V]; exact rfl) (by kernel_rfl) rfl rfl rfl rfl rfl (fun hg17 => ?a17) ?b17 ?c17
  case a17 =>
   have hq17 := hg17; (try simp only [zB, reduceCtorEq] at hg17); simp only [zE]
   iterate 7 (refine bf rfl fun _ k0 => ?_; simp only [zO, zT, acs, reduceCtorEq, aa, V, ad, ag, af, ae, ah, aD, aR, aK, ar]; (repeat refine And.intro (by first | omega | assumption | exact rfl | exact hkX | exact hkY) ?_); (try refine .inl ?_); apply k0; clear k0; simp only [zP, V])
   (refine aj rfl fun _ k0 => ?_; simp only [zO, zT, acs, reduceCtorEq, aa, V, ad, ag, af, ae, ah, aD, aR, aK, ar]; (repeat refine And.intro (by first | omega | assumption | exact rfl | exact hkX | exact hkY) ?_); (try refine .inl ?_); apply k0; clear k0; simp only [zP, V])
   refine am ?_
   refine ⟨by simp only [zP, aa, V]; exact rfl, rfl, ?_, rfl⟩; (repeat refine aQ rfl ?_); exact bn (by exact rfl) hq17
  case b17 => exact cq
  simp only [b7, aT]
  refine am ?_
  apply k15; clear k15; refine kp [2, 3, 4, 5, 6, 7, 20, 54] ?_
  refine cd (fun hc18 => ?_) (fun hc18 => ?_)
  ·(try simp only [zB, reduceCtorEq] at hc18)
   have hno : ¬ T = U := vT (i := i) (fun e => Or.elim hc18 (fun h9 => Or.elim h9 (fun h8 => h8 (by show (T.getD i nd0).2.1 = (U.getD i nd0).2.1; rw [e])) (fun h8 => h8 (by show (T.getD i nd0).1 = (U.getD i nd0).1; rw [e]))) (fun h9 => h9 (by show ((T.getD i nd0).2.2.1.length : Int) = ((U.getD i nd0).2.2.1.length : Int); rw [e])))
   refine ai fun _ k19 => ?_
   refine ak hP hN rfl ?_
   (refine aj rfl fun _ k0 => ?_; simp only [zO, zT, acs, reduceCtorEq, aa, V, ad, ag, af, ae, ah, aD, aR, aK, ar]; (repeat refine And.intro (by first | omega | assumption | exact rfl | exact hkX | exact hkY) ?_); (try refine .inl ?_); apply k0; clear k0; simp only [zP, V])
   refine am ?_
   apply k19; clear k19; refine kp [2, 3, 4, 5, 6, 7, 20, 54] ?_
   refine aB ?_
   refine ⟨nr, _, rfl, ?_⟩; simp only [zF, zP, aa, V, ah, aD, aR, aK, ar]
   refine VLE.of_eq ?_
   refine congrArg (fun b => AV.one (AC.bool b)) ?_
   symm
   first
   | exact decide_eq_false hno
   | exact decide_eq_true (lV hll (fun q hq => hu q (by omega)))
  (try simp only [zB, reduceCtorEq] at hc18)
  have hx1 : (T.getD i nd0).2.1 = (U.getD i nd0).2.1 := hc18.1.1
  have hx2 : (T.getD i nd0).1 = (U.getD i nd0).1 := hc18.1.2
  have hx3 : (T.getD i nd0).2.2.1.length = (U.getD i nd0).2.2.1.length := by have h9 : ((T.getD i nd0).2.2.1.length : Int) = ((U.getD i nd0).2.2.1.length : Int) := hc18.2; omega
  refine ax ?_
  apply k14; clear k14; refine kp [2, 3, 4, 5, 6, 7, 20, 54] ?_
  refine ai fun _ k20 => ?_
  refine ak hP hN rfl ?_
  (refine aj rfl fun _ k0 => ?_; simp only [zO, zT, acs, reduceCtorEq, aa, V, ad, ag, af, ae, ah, aD, aR, aK, ar]; (repeat refine And.intro (by first | omega | assumption | exact rfl | exact hkX | exact hkY) ?_); (try refine .inl ?_); apply k0; clear k0; simp only [zP, V])
  refine am ?_
  apply k20; clear k20; refine kp [2, 3, 4, 5, 6, 7, 8, 20, 54] ?_
  refine ay ?_
  refine bb (fun n21 s21 => ∃ (j : Nat), (j ≤ (T.getD i nd0).2.2.1.length) ∧ (∀ q, q < j → (T.getD i nd0).2.2.1.getD q kd0 = (U.getD i nd0).2.2.1.getD q kd0) ∧ n21 = (T.getD i nd0).2.2.1.length - j ∧ s21 = { env := [(2, .one (.ptr 0 0 0 0)), (3, .one (.ptr 1 0 0 0)), (4, .one (.bool false)), (5, .one (.int .i64 (i : Int))), (6, .one (.ptr 2 1 0 0)), (7, .one (.ptr 3 1 0 0)), (8, .one (.int .i64 (j : Int))), (20, .one (.bool true))], L := [.vars 29 [.list ndT T], .vars 29 [.list ndT U], .row ndT 52 1 [(T.getD i nd0)], .row ndT 52 1 [(U.getD i nd0)]] }) ?_ ?_
  ·exact ⟨_, _, aw [2, 3, 4, 5, 6, 7, 8, 20], 0, Nat.zero_le _, fun q h => by omega, rfl, by rw [decide_eq_true (show (i : Int) < (T.length : Int) by omega)]; rfl⟩
  rintro n21 s21 ⟨j, hj, hqs, rfl, rfl⟩
  refine ai fun _ k22 => ?_
  refine ai fun _ k23 => ?_
  refine ak hP hN rfl ?_
  iterate 5 (refine aj rfl fun _ k0 => ?_; simp only [zO, zT, acs, reduceCtorEq, aa, V, ad, ag, af, ae, ah, aD, aR, aK, ar]; (repeat refine And.intro (by first | omega | assumption | exact rfl | exact hkX | exact hkY) ?_); (try refine .inl ?_); apply k0; clear k0; simp only [zP, V])
  refine am ?_
  apply k23; clear k23; refine kp [2, 3, 4, 5, 6, 7, 8, 20, 59] ?_
  refine cd (fun hc24 => ?_) (fun hc24 => ?_)
  ·(try simp only [zB, reduceCtorEq] at hc24)
   have hjl9 : j < (T.getD i nd0).2.2.1.length := by have h9 : (j : Int) < ((T.getD i nd0).2.2.1.length : Int) := hc24; omega
   refine ax ?_
   apply k22; clear k22; refine kp [2, 3, 4, 5, 6, 7, 8, 20, 59] ?_
   refine ai fun _ k25 => ?_
   refine ay ?_
   refine ai fun _ k26 => ?_
   have hjl : j < (T.getD i nd0).2.2.1.length := hjl9
   have hkX : (0 : Int) ≤ (j : Int) ∧ (j : Int) < ((T.getD i nd0).2.2.1.length : Int) := by omega
   have hkY : (0 : Int) ≤ (j : Int) ∧ (j : Int) < ((U.getD i nd0).2.2.1.length : Int) := by omega
   refine bp hP hN Try.mixed rfl ?_
   iterate 11 (refine aj rfl fun _ k0 => ?_; simp only [zO, zT, acs, reduceCtorEq, aa, V, ad, ag, af, ae, ah, aD, aR, aK, ar]; (repeat refine And.intro (by first | omega | assumption | exact rfl | exact hkX | exact hkY) ?_); (try refine .inl ?_); apply k0; clear k0; simp only [zP, V])
   refine am ?_
   refine ⟨by kernel_rfl, ?_⟩
   apply k26; clear k26; refine kp [2, 3, 4, 5, 6, 7, 8, 20, 59, 72] ?_
   refine cd (fun hc27 => ?_) (fun hc27 => ?_)
   ·(try simp only [zB, reduceCtorEq] at hc27)
    have hno : ¬ T = U := vT (i := i) (fun e => by
      have e3 : (T.getD i nd0).2.2.1.getD j kd0 = (U.getD i nd0).2.2.1.getD j kd0 := by rw [e]
      rcases hc27 with h9 | h9
      · exact h9 (by show ((T.getD i nd0).2.2.1.getD j kd0).1 = ((U.getD i nd0).2.2.1.getD j kd0).1; rw [e3])
      · rcases h9 with h9 | h9
        · exact h9 (by show ((T.getD i nd0).2.2.1.getD j kd0).2.1 = ((U.getD i nd0).2.2.1.getD j kd0).2.1; rw [e3])
        · exact h9)
    refine ai fun _ k28 => ?_
    refine ak hP hN rfl ?_
    (refine aj rfl fun _ k0 => ?_; simp only [zO, zT, acs, reduceCtorEq, aa, V, ad, ag, af, ae, ah, aD, aR, aK, ar]; (repeat refine And.intro (by first | omega | assumption | exact rfl | exact hkX | exact hkY) ?_); (try refine .inl ?_); apply k0; clear k0; simp only [zP, V])
    refine am ?_
    apply k28; clear k28; refine kp [2, 3, 4, 5, 6, 7, 8, 20, 59, 72] ?_
    refine aB ?_
    refine ⟨nr, _, rfl, ?_⟩; simp only [zF, zP, aa, V, ah, aD, aR, aK, ar]
    refine VLE.of_eq ?_
    refine congrArg (fun b => AV.one (AC.bool b)) ?_
    symm
    first
    | exact decide_eq_false hno
    | exact decide_eq_true (lV hll (fun q hq => hu q (by omega)))
   (try simp only [zB, reduceCtorEq] at hc27)
   have hkk : (T.getD i nd0).2.2.1.getD j kd0 = (U.getD i nd0).2.2.1.getD j kd0 := AU hc27.1 hc27.2.1
   refine ax ?_
   apply k25; clear k25; refine kp [2, 3, 4, 5, 6, 7, 8, 20, 59, 72] ?_
   refine ak hP hN rfl ?_
   iterate 3 (refine aj rfl fun _ k0 => ?_; simp only [zO, zT, acs, reduceCtorEq, aa, V, ad, ag, af, ae, ah, aD, aR, aK, ar]; (repeat refine And.intro (by first | omega | assumption | exact rfl | exact hkX | exact hkY) ?_); (try refine .inl ?_); apply k0; clear k0; simp only [zP, V])
   refine am ?_
   refine ⟨_, _, ?_, aw [2, 3, 4, 5, 6, 7, 8, 20], j + 1, by omega, fun q h => ?_, rfl, rfl⟩
   · omega
   · by_cases e : q = j
     · rw [e]; exact hkk
     · exact hqs q (by omega)
  (try simp only [zB, reduceCtorEq] at hc24)
  have hje : (T.getD i nd0).2.2.1.length ≤ j := by have h9 : ((T.getD i nd0).2.2.1.length : Int) ≤ (j : Int) := hc24; omega
  have hxy : (T.getD i nd0) = (U.getD i nd0) := AH hx1 hx2 (yn hx3 (fun q hq => hqs q (by omega)))
  refine aX ?_
  apply k12; clear k12; refine kp [2, 3, 4, 5, 6, 7, 8, 20, 59] ?_
  refine da [2, 3, 4, 5] ?_; simp only [cC, lkp, zE, reduceCtorEq, aa]
  refine lC (L1 := [_, _, _]) rfl hB rfl rfl ?_
  refine lC (L1 := [_, _]) rfl hB rfl rfl ?_
  refine ak hP hN rfl ?_
  iterate 3 (refine aj rfl fun _ k0 => ?_; simp only [zO, zT, acs, reduceCtorEq, aa, V, ad, ag, af, ae, ah, aD, aR, aK, ar]; (repeat refine And.intro (by first | omega | assumption | exact rfl | exact hkX | exact hkY) ?_); (try refine .inl ?_); apply k0; clear k0; simp only [zP, V])
  refine am ?_
  refine ⟨_, _, ?_, aw [2, 3, 4, 5], i + 1, by omega, fun q h => ?_, rfl, rfl⟩
  · omega
  · by_cases e : q = i
    · rw [e]; exact hxy
    · exact hu q (by omega)
 (try simp only [zB, reduceCtorEq] at hc11)
 have hie : ¬ i < T.length := by omega
 refine aX ?_
 apply k6; clear k6; refine kp [2, 3, 4, 5, 20] ?_
 refine ai fun _ k29 => ?_
 refine ak hP hN rfl ?_
 (refine aj rfl fun _ k0 => ?_; simp only [zO, zT, acs, reduceCtorEq, aa, V, ad, ag, af, ae, ah, aD, aR, aK, ar]; (repeat refine And.intro (by first | omega | assumption | exact rfl | exact hkX | exact hkY) ?_); (try refine .inl ?_); apply k0; clear k0; simp only [zP, V])
 refine am ?_
 apply k29; clear k29; refine kp [2, 3, 4, 5, 20] ?_
 refine aB ?_
 refine ⟨nr, _, rfl, ?_⟩; simp only [zF, zP, aa, V, ah, aD, aR, aK, ar]
 refine VLE.of_eq ?_
 refine congrArg (fun b => AV.one (AC.bool b)) ?_
 symm
 first
 | exact decide_eq_false hno
 | exact decide_eq_true (lV hll (fun q hq => hu q (by omega)))
set_option maxHeartbeats 2000000 in
theorem wc  : bZ Try.prog 10 [] (.one (.bool true)) := by
 refine aU Try.func10 rfl (by kernel_rfl) (Nat.le_of_ble_eq_true rfl) rfl fun C hP hN hB => ?_
 replace hN : C.N = 100 := hN
 simp only [bg, V]
 refine ai fun _ k1 => ?_
 refine ak hP hN rfl ?_
 (refine aj rfl fun _ k0 => ?_; simp only [zO, zT, acs, reduceCtorEq, aa, V, ad, ag, af, ae, c7, ca]; (repeat refine an ?_); (try refine .inl ?_); apply k0; clear k0; simp only [zP, V])
 refine am ?_
 apply k1; clear k1; refine kp [0] ?_
 refine ai fun _ k2 => ?_
 refine ak hP hN rfl ?_
 iterate 11 (refine aj rfl fun _ k0 => ?_; simp only [zO, zT, acs, reduceCtorEq, aa, V, ad, ag, af, ae, c7, ca]; (repeat refine an ?_); (try refine .inl ?_); apply k0; clear k0; simp only [zP, V])
 refine am ?_
 apply k2; clear k2; refine kp [0, 1] ?_
 refine ai fun _ k3 => ?_
 refine ak hP hN rfl ?_
 (refine aj rfl fun _ k0 => ?_; simp only [zO, zT, acs, reduceCtorEq, aa, V, ad, ag, af, ae, c7, ca]; (repeat refine an ?_); (try refine .inl ?_); apply k0; clear k0; simp only [zP, V])
 refine aj rfl fun _ k0 => ?_
 refine aN (h := aA (mM dU)) rfl rfl (by first | exact rfl | (simp only [ev, zP, aa, V]; exact rfl)) (by simp only [zV, acs, reduceCtorEq, aa, V, ad, ag, af, ae, c7, ca]) ?_
 apply k0; clear k0; simp only [zP, V]
 iterate 8 (refine aj rfl fun _ k0 => ?_; simp only [zO, zT, acs, reduceCtorEq, aa, V, ad, ag, af, ae, c7, ca]; (repeat refine an ?_); (try refine .inl ?_); apply k0; clear k0; simp only [zP, V])
 refine am ?_
 apply k3; clear k3; refine kp [0, 1, 2, 3, 4] ?_
 refine ai fun _ k4 => ?_
 refine ak hP hN rfl ?_
 iterate 20 (refine aj rfl fun _ k0 => ?_; simp only [zO, zT, acs, reduceCtorEq, aa, V, ad, ag, af, ae, c7, ca]; (repeat refine an ?_); (try refine .inl ?_); apply k0; clear k0; simp only [zP, V])
 refine am ?_
 apply k4; clear k4; refine kp [0, 1, 2, 3, 4, 5] ?_
 refine ai fun _ k5 => ?_
 refine ak hP hN rfl ?_
 iterate 2 (refine aj rfl fun _ k0 => ?_; simp only [zO, zT, acs, reduceCtorEq, aa, V, ad, ag, af, ae, c7, ca]; (repeat refine an ?_); (try refine .inl ?_); apply k0; clear k0; simp only [zP, V])
 refine aj rfl fun _ k0 => ?_
 refine aN (h := aA (xZ dU gZ (by decide) 0)) rfl rfl (by first | exact rfl | (simp only [ev, zP, aa, V]; exact rfl)) (by simp only [zV, acs, reduceCtorEq, aa, V, ad, ag, af, ae, c7, ca]) ?_
 apply k0; clear k0; simp only [zP, V]
 iterate 7 (refine aj rfl fun _ k0 => ?_; simp only [zO, zT, acs, reduceCtorEq, aa, V, ad, ag, af, ae, c7, ca]; (repeat refine an ?_); (try refine .inl ?_); apply k0; clear k0; simp only [zP, V])
 refine am ?_
 apply k5; clear k5; refine kp [0, 1, 2, 3, 4, 5, 6, 7, 8] ?_
 refine ai fun _ k6 => ?_
 refine ak hP hN rfl ?_
 (refine aj rfl fun _ k0 => ?_; simp only [zO, zT, acs, reduceCtorEq, aa, V, ad, ag, af, ae, c7, ca]; (repeat refine an ?_); (try refine .inl ?_); apply k0; clear k0; simp only [zP, V])
 refine aj rfl fun _ k0 => ?_
 refine aN (h := aA v5) rfl rfl (by first | exact rfl | (simp only [ev, zP, aa, V]; exact rfl)) (by simp only [zV, acs, reduceCtorEq, aa, V, ad, ag, af, ae, c7, ca]) ?_
 apply k0; clear k0; simp only [zP, V]
 iterate 8 (refine aj rfl fun _ k0 => ?_; simp only [zO, zT, acs, reduceCtorEq, aa, V, ad, ag, af, ae, c7, ca]; (repeat refine an ?_); (try refine .inl ?_); apply k0; clear k0; simp only [zP, V])
 refine am ?_
 apply k6; clear k6; refine kp [0, 1, 2, 3, 4, 5, 6, 7, 8, 11] ?_
 refine ai fun _ k7 => ?_
 refine ak hP hN rfl ?_
 iterate 3 (refine aj rfl fun _ k0 => ?_; simp only [zO, zT, acs, reduceCtorEq, aa, V, ad, ag, af, ae, c7, ca]; (repeat refine an ?_); (try refine .inl ?_); apply k0; clear k0; simp only [zP, V])
 refine' aP (want := true) 2 rfl (m := 60) (by simp only [zP, aa, V]; exact rfl) (by kernel_rfl) rfl rfl rfl rfl rfl (fun hg8 => ?a8) ?b8 ?c8
 case a8 =>
  have hq8 := hg8; (try simp only [zB, reduceCtorEq] at hg8); simp only [zE]
  iterate 2 (refine bf rfl fun _ k0 => ?_; simp only [zO, zT, acs, reduceCtorEq, aa, V, ad, ag, af, ae, c7, ca]; (repeat refine an ?_); (try refine .inl ?_); apply k0; clear k0; simp only [zP, V])
  (refine aj rfl fun _ k0 => ?_; simp only [zO, zT, acs, reduceCtorEq, aa, V, ad, ag, af, ae, c7, ca]; (repeat refine an ?_); (try refine .inl ?_); apply k0; clear k0; simp only [zP, V])
  refine am ?_
  refine ⟨by simp only [zP, aa, V]; exact rfl, rfl, ?_, rfl⟩; (repeat refine aQ rfl ?_); exact bn (by exact rfl) hq8
 case b8 => exact cq
 simp only [b7, aT]
 (refine aj rfl fun _ k0 => ?_; simp only [zO, zT, acs, reduceCtorEq, aa, V, ad, ag, af, ae, c7, ca]; (repeat refine an ?_); (try refine .inl ?_); apply k0; clear k0; simp only [zP, V])
 refine' aP (want := true) 2 rfl (m := 64) (by simp only [zP, aa, V]; exact rfl) (by kernel_rfl) rfl rfl rfl rfl rfl (fun hg9 => ?a9) ?b9 ?c9
 case a9 =>
  have hq9 := hg9; (try simp only [zB, reduceCtorEq] at hg9); simp only [zE]
  iterate 2 (refine bf rfl fun _ k0 => ?_; simp only [zO, zT, acs, reduceCtorEq, aa, V, ad, ag, af, ae, c7, ca]; (repeat refine an ?_); (try refine .inl ?_); apply k0; clear k0; simp only [zP, V])
  (refine aj rfl fun _ k0 => ?_; simp only [zO, zT, acs, reduceCtorEq, aa, V, ad, ag, af, ae, c7, ca]; (repeat refine an ?_); (try refine .inl ?_); apply k0; clear k0; simp only [zP, V])
  refine am ?_
  refine ⟨by simp only [zP, aa, V]; exact rfl, rfl, ?_, rfl⟩; (repeat refine aQ rfl ?_); exact bn (by exact rfl) hq9
 case b9 => exact cq
 simp only [b7, aT]
 (refine aj rfl fun _ k0 => ?_; simp only [zO, zT, acs, reduceCtorEq, aa, V, ad, ag, af, ae, c7, ca]; (repeat refine an ?_); (try refine .inl ?_); apply k0; clear k0; simp only [zP, V])
 refine' aP (want := true) 1 rfl (m := 68) (by simp only [zP, aa, V]; exact rfl) (by kernel_rfl) rfl rfl rfl rfl rfl (fun hg10 => ?a10) ?b10 ?c10
 case a10 =>
  have hq10 := hg10; (try simp only [zB, reduceCtorEq] at hg10); simp only [zE]
  (refine bf rfl fun _ k0 => ?_; simp only [zO, zT, acs, reduceCtorEq, aa, V, ad, ag, af, ae, c7, ca]; (repeat refine an ?_); (try refine .inl ?_); apply k0; clear k0; simp only [zP, V])
  (refine aj rfl fun _ k0 => ?_; simp only [zO, zT, acs, reduceCtorEq, aa, V, ad, ag, af, ae, c7, ca]; (repeat refine an ?_); (try refine .inl ?_); apply k0; clear k0; simp only [zP, V])
  refine am ?_
  refine ⟨by simp only [zP, aa, V]; exact rfl, rfl, ?_, rfl⟩; (repeat refine aQ rfl ?_); exact bn (by exact rfl) hq10
 case b10 => exact cq
 simp only [b7, aT]
 (refine aj rfl fun _ k0 => ?_; simp only [zO, zT, acs, reduceCtorEq, aa, V, ad, ag, af, ae, c7, ca]; (repeat refine an ?_); (try refine .inl ?_); apply k0; clear k0; simp only [zP, V])
 refine' aP (want := true) 3 rfl (m := 71) (by simp only [zP, aa, V]; exact rfl) (by kernel_rfl) rfl rfl rfl rfl rfl (fun hg11 => ?a11) ?b11 ?c11
 case a11 =>
  have hq11 := hg11; (try simp only [zB, reduceCtorEq] at hg11); simp only [zE]
  iterate 2 (refine bf rfl fun _ k0 => ?_; simp only [zO, zT, acs, reduceCtorEq, aa, V, ad, ag, af, ae, c7, ca]; (repeat refine an ?_); (try refine .inl ?_); apply k0; clear k0; simp only [zP, V])
  refine bf rfl fun _ k0 => ?_
  refine aN (h := aA (vJ (gM dU) gZ (by rw [rF]; decide) (by rw [rF]; decide))) rfl rfl (by first | exact rfl | (simp only [ev, zP, aa, V]; exact rfl)) (by simp only [zV, acs, reduceCtorEq, aa, V, ad, ag, af, ae, c7, ca]) ?_
  apply k0; clear k0; simp only [zP, V]
  (refine aj rfl fun _ k0 => ?_; simp only [zO, zT, acs, reduceCtorEq, aa, V, ad, ag, af, ae, c7, ca]; (repeat refine an ?_); (try refine .inl ?_); apply k0; clear k0; simp only [zP, V])
  refine am ?_
  refine ⟨by simp only [zP, aa, V]; exact rfl, rfl, ?_, rfl⟩; (repeat refine aQ rfl ?_); exact bn (by exact rfl) hq11
 case b11 => exact cq
 simp only [b7, aT]
 (refine aj rfl fun _ k0 => ?_; simp only [zO, zT, acs, reduceCtorEq, aa, V, ad, ag, af, ae, c7, ca]; (repeat refine an ?_); (try refine .inl ?_); apply k0; clear k0; simp only [zP, V])
 refine' aP (want := true) 3 rfl (m := 76) (by simp only [zP, aa, V]; exact rfl) (by kernel_rfl) rfl rfl rfl rfl rfl (fun hg12 => ?a12) ?b12 ?c12
 case a12 =>
  have hq12 := hg12; (try simp only [zB, reduceCtorEq] at hg12); simp only [zE]
  iterate 2 (refine bf rfl fun _ k0 => ?_; simp only [zO, zT, acs, reduceCtorEq, aa, V, ad, ag, af, ae, c7, ca]; (repeat refine an ?_); (try refine .inl ?_); apply k0; clear k0; simp only [zP, V])
  refine bf rfl fun _ k0 => ?_
  refine aN (h := aA (zH (if gR dU gZ 0 = 0 then (j5 dU gZ 0).1 else []) [0, 0])) rfl rfl (by first | exact rfl | (simp only [ev, zP, aa, V]; exact rfl)) (by simp only [zV, acs, reduceCtorEq, aa, V, ad, ag, af, ae, c7, ca]) ?_
  apply k0; clear k0; simp only [zP, V]
  (refine aj rfl fun _ k0 => ?_; simp only [zO, zT, acs, reduceCtorEq, aa, V, ad, ag, af, ae, c7, ca]; (repeat refine an ?_); (try refine .inl ?_); apply k0; clear k0; simp only [zP, V])
  refine am ?_
  refine ⟨by simp only [zP, aa, V]; exact rfl, rfl, ?_, rfl⟩; (repeat refine aQ rfl ?_); exact bn (by exact rfl) hq12
 case b12 => exact cq
 simp only [b7, aT]
 (refine aj rfl fun _ k0 => ?_; simp only [zO, zT, acs, reduceCtorEq, aa, V, ad, ag, af, ae, c7, ca]; (repeat refine an ?_); (try refine .inl ?_); apply k0; clear k0; simp only [zP, V])
 refine' aP (want := true) 2 rfl (m := 81) (by simp only [zP, aa, V]; exact rfl) (by kernel_rfl) rfl rfl rfl rfl rfl (fun hg13 => ?a13) ?b13 ?c13
 case a13 =>
  have hq13 := hg13; (try simp only [zB, reduceCtorEq] at hg13); simp only [zE]
  iterate 2 (refine bf rfl fun _ k0 => ?_; simp only [zO, zT, acs, reduceCtorEq, aa, V, ad, ag, af, ae, c7, ca]; (repeat refine an ?_); (try refine .inl ?_); apply k0; clear k0; simp only [zP, V])
  (refine aj rfl fun _ k0 => ?_; simp only [zO, zT, acs, reduceCtorEq, aa, V, ad, ag, af, ae, c7, ca]; (repeat refine an ?_); (try refine .inl ?_); apply k0; clear k0; simp only [zP, V])
  refine am ?_
  refine ⟨by simp only [zP, aa, V]; exact rfl, rfl, ?_, rfl⟩; (repeat refine aQ rfl ?_); exact bn (by exact rfl) hq13
 case b13 => exact cq
 simp only [b7, aT]
 (refine aj rfl fun _ k0 => ?_; simp only [zO, zT, acs, reduceCtorEq, aa, V, ad, ag, af, ae, c7, ca]; (repeat refine an ?_); (try refine .inl ?_); apply k0; clear k0; simp only [zP, V])
 refine' aP (want := true) 3 rfl (m := 85) (by simp only [zP, aa, V]; exact rfl) (by kernel_rfl) rfl rfl rfl rfl rfl (fun hg14 => ?a14) ?b14 ?c14
 case a14 =>
  have hq14 := hg14; (try simp only [zB, reduceCtorEq] at hg14); simp only [zE]
  (refine bf rfl fun _ k0 => ?_; simp only [zO, zT, acs, reduceCtorEq, aa, V, ad, ag, af, ae, c7, ca]; (repeat refine an ?_); (try refine .inl ?_); apply k0; clear k0; simp only [zP, V])
  refine bf rfl fun _ k0 => ?_
  refine aN (h := aA (zM (gM dU) (by rw [rF]; decide) (by rw [rF]; decide))) rfl rfl (by first | exact rfl | (simp only [ev, zP, aa, V]; exact rfl)) (by simp only [zV, acs, reduceCtorEq, aa, V, ad, ag, af, ae, c7, ca]) ?_
  apply k0; clear k0; simp only [zP, V]
  (refine bf rfl fun _ k0 => ?_; simp only [zO, zT, acs, reduceCtorEq, aa, V, ad, ag, af, ae, c7, ca]; (repeat refine an ?_); (try refine .inl ?_); apply k0; clear k0; simp only [zP, V])
  (refine aj rfl fun _ k0 => ?_; simp only [zO, zT, acs, reduceCtorEq, aa, V, ad, ag, af, ae, c7, ca]; (repeat refine an ?_); (try refine .inl ?_); apply k0; clear k0; simp only [zP, V])
  refine am ?_
  refine ⟨by simp only [zP, aa, V]; exact rfl, rfl, ?_, rfl⟩; (repeat refine aQ rfl ?_); exact bn (by exact rfl) hq14
 case b14 => exact cq
 simp only [b7, aT]
 (refine aj rfl fun _ k0 => ?_; simp only [zO, zT, acs, reduceCtorEq, aa, V, ad, ag, af, ae, c7, ca]; (repeat refine an ?_); (try refine .inl ?_); apply k0; clear k0; simp only [zP, V])
 refine' aP (want := true) 2 rfl (m := 90) (by simp only [zP, aa, V]; exact rfl) (by kernel_rfl) rfl rfl rfl rfl rfl (fun hg15 => ?a15) ?b15 ?c15
 case a15 =>
  have hq15 := hg15; (try simp only [zB, reduceCtorEq] at hg15); simp only [zE]
  (refine bf rfl fun _ k0 => ?_; simp only [zO, zT, acs, reduceCtorEq, aa, V, ad, ag, af, ae, c7, ca]; (repeat refine an ?_); (try refine .inl ?_); apply k0; clear k0; simp only [zP, V])
  refine bf rfl fun _ k0 => ?_
  refine aN (h := aA (vU (gM dU) (by rw [rF]; decide))) rfl rfl (by first | exact rfl | (simp only [ev, zP, aa, V]; exact rfl)) (by simp only [zV, acs, reduceCtorEq, aa, V, ad, ag, af, ae, c7, ca]) ?_
  apply k0; clear k0; simp only [zP, V]
  (refine aj rfl fun _ k0 => ?_; simp only [zO, zT, acs, reduceCtorEq, aa, V, ad, ag, af, ae, c7, ca]; (repeat refine an ?_); (try refine .inl ?_); apply k0; clear k0; simp only [zP, V])
  refine am ?_
  refine ⟨by simp only [zP, aa, V]; exact rfl, rfl, ?_, rfl⟩; (repeat refine aQ rfl ?_); exact bn (by exact rfl) hq15
 case b15 => exact cq
 simp only [b7, aT]
 (refine aj rfl fun _ k0 => ?_; simp only [zO, zT, acs, reduceCtorEq, aa, V, ad, ag, af, ae, c7, ca]; (repeat refine an ?_); (try refine .inl ?_); apply k0; clear k0; simp only [zP, V])
 refine' aP (want := true) 4 rfl (m := 94) (by simp only [zP, aa, V]; exact rfl) (by kernel_rfl) rfl rfl rfl rfl rfl (fun hg16 => ?a16) ?b16 ?c16
 case a16 =>
  have hq16 := hg16; (try simp only [zB, reduceCtorEq] at hg16); simp only [zE]
  iterate 2 (refine bf rfl fun _ k0 => ?_; simp only [zO, zT, acs, reduceCtorEq, aa, V, ad, ag, af, ae, c7, ca]; (repeat refine an ?_); (try refine .inl ?_); apply k0; clear k0; simp only [zP, V])
  refine bf rfl fun _ k0 => ?_
  refine aN (h := aA yw) rfl rfl (by first | exact rfl | (simp only [ev, zP, aa, V]; exact rfl)) (by simp only [zV, acs, reduceCtorEq, aa, V, ad, ag, af, ae, c7, ca]) ?_
  apply k0; clear k0; simp only [zP, V]
  (refine bf rfl fun _ k0 => ?_; simp only [zO, zT, acs, reduceCtorEq, aa, V, ad, ag, af, ae, c7, ca]; (repeat refine an ?_); (try refine .inl ?_); apply k0; clear k0; simp only [zP, V])
  (refine aj rfl fun _ k0 => ?_; simp only [zO, zT, acs, reduceCtorEq, aa, V, ad, ag, af, ae, c7, ca]; (repeat refine an ?_); (try refine .inl ?_); apply k0; clear k0; simp only [zP, V])
  refine am ?_
  refine ⟨by simp only [zP, aa, V]; exact rfl, rfl, ?_, rfl⟩; (repeat refine aQ rfl ?_); exact bn (by exact rfl) hq16
 case b16 => exact cq
 simp only [b7, aT]
 (refine aj rfl fun _ k0 => ?_; simp only [zO, zT, acs, reduceCtorEq, aa, V, ad, ag, af, ae, c7, ca]; (repeat refine an ?_); (try refine .inl ?_); apply k0; clear k0; simp only [zP, V])
 refine am ?_
 apply k7; clear k7; refine kp [0, 1, 2, 3, 4, 5, 6, 7, 8, 11] ?_
 refine aB ?_
 refine ⟨nr, _, rfl, ?_⟩; simp only [zF, zP, aa, V, c7, ca]
 refine VLE.of_eq ?_
 refine congrArg (fun b => AV.one (AC.bool b)) ?_
 rw [rF, yr, Bg, AK, if_pos rfl, if_pos rfl, B9, AM, AJ, decide_eq_false Bq]
 decide
set_option maxHeartbeats 4000000 in
theorem nn (m : Mly) (hm : MOK m) (d : Nat) (hd9 : d ≤ 100) (IH : ∀ k : List Int, 0 < d → cU m k → k.length ≤ 1000 → bZ Try.prog 26 [m.av, .one (.list (.int .i64) k), .one (.int .i64 ((d : Int) - 1))] (.one (.bool (dt m (d - 1) k)))) (l : List Int) (hs : cU m l) (hl : l.length ≤ 1000) : bZ Try.prog 26 [m.av, .one (.list (.int .i64) l), .one (.int .i64 (d : Int))] (.one (.bool (dt m d l))) := by
 have ol := hm.ol
 have hi1 := hm.i1
 have hi2 := hm.i2
 refine aU Try.func26 rfl (by kernel_rfl) (Nat.le_of_ble_eq_true rfl) rfl fun C hP hN hB => ?_
 replace hN : C.N = 147 := hN
 simp only [bg, V]
 refine ai fun _ k1 => ?_
 refine ak hP hN rfl ?_
 iterate 2 (refine aj rfl fun _ k0 => ?_; simp only [zO, zT, acs, reduceCtorEq, aa, V, ad, ag, af, ae, Mly.av, ah]; (repeat refine an ?_); (try refine .inl ?_); apply k0; clear k0; simp only [zP, V])
 refine am ?_
 apply k1; clear k1; refine kp [0, 1, 2, 3, 6] ?_
 refine ai fun _ k2 => ?_
 refine ai fun _ k3 => ?_
 refine ak hP hN rfl ?_
 iterate 3 (refine aj rfl fun _ k0 => ?_; simp only [zO, zT, acs, reduceCtorEq, aa, V, ad, ag, af, ae, Mly.av, ah]; (repeat refine an ?_); (try refine .inl ?_); apply k0; clear k0; simp only [zP, V])
 refine am ?_
 apply k3; clear k3; refine kp [0, 1, 2, 3, 6, 16] ?_
 refine cd (fun hc4 => ?_) (fun hc4 => ?_)
 ·(try simp only [zB, reduceCtorEq] at hc4)
  have h2l : l.length < 2 := by have h9 : (l.length : Int) < 2 := hc4; omega
  refine ai fun _ k5 => ?_
  refine ak hP hN rfl ?_
  (refine aj rfl fun _ k0 => ?_; simp only [zO, zT, acs, reduceCtorEq, aa, V, ad, ag, af, ae, Mly.av, ah]; (repeat refine an ?_); (try refine .inl ?_); apply k0; clear k0; simp only [zP, V])
  refine am ?_
  apply k5; clear k5; refine kp [0, 1, 2, 3, 6, 16] ?_
  refine aB ?_
  refine ⟨nr, _, rfl, ?_⟩; simp only [zF, zP, aa, V, Mly.av, ah]
  refine VLE.of_eq ?_
  refine congrArg (fun b => AV.one (AC.bool b)) ?_
  symm
  first
  | exact mT h2l
  | (rcases hie with h9 | h9
     · rw [List.take_of_length_le h9, hok] at ho3
       have h8 := ho3.symm
       rw [Bool.and_eq_true, Bool.not_eq_true'] at h8
       exact l9 hd0 hai h8.1 h8.2
     · rw [hok] at h9; cases h9)
  | exact mQ h2l (fun h0 q hq => hno q (by omega) h0)
 (try simp only [zB, reduceCtorEq] at hc4)
 have h2l : ¬ l.length < 2 := by have h9 : (2 : Int) ≤ (l.length : Int) := hc4; omega
 refine ax ?_
 apply k2; clear k2; refine kp [0, 1, 2, 3, 6, 16] ?_
 refine ai fun _ k6 => ?_
 refine ai fun _ k7 => ?_
 refine ak hP hN rfl ?_
 (refine aj rfl fun _ k0 => ?_; simp only [zO, zT, acs, reduceCtorEq, aa, V, ad, ag, af, ae, Mly.av, ah]; (repeat refine an ?_); (try refine .inl ?_); apply k0; clear k0; simp only [zP, V])
 refine am ?_
 apply k7; clear k7; refine kp [0, 1, 2, 3, 6, 7, 16] ?_
 refine ay ?_
 refine bb (fun n8 s8 => ∃ (a : Nat), (a ≤ m.inp.toNat) ∧ (∀ q : Nat, q < a → 0 < d → (!unS m l (q : Int) l.length && l.all fun x => dt m (d - 1) (bB m l (q : Int) l.length (m.out x (q : Int)))) = false) ∧ n8 = m.inp.toNat - a ∧ s8 = { env := [(1, .one (.list (.int .i64) l)), (2, .one (.int .i64 (d : Int))), (3, .one (.ptr 0 0 0 0)), (6, .one (.bool false)), (7, .one (.int .i64 (a : Int)))], L := [.vars 24 [.int .i64 m.inp, .int .i64 m.st, .list (.list (.int .i64)) m.nx, .list (.list (.int .i64)) m.ot]] }) ?_ ?_
 ·exact ⟨_, _, aw [1, 2, 3, 6, 7], 0, Nat.zero_le _, fun q h => by omega, rfl, rfl⟩
 rintro n8 s8 ⟨a, ha, hno, rfl, rfl⟩
 refine ai fun _ k9 => ?_
 refine ai fun _ k10 => ?_
 refine ak hP hN rfl ?_
 iterate 5 (refine aj rfl fun _ k0 => ?_; simp only [zO, zT, acs, reduceCtorEq, aa, V, ad, ag, af, ae, Mly.av, ah]; (repeat refine an ?_); (try refine .inl ?_); apply k0; clear k0; simp only [zP, V])
 refine' aP (want := true) 2 rfl (m := 21) (by simp only [zP, aa, V]; exact rfl) (by kernel_rfl) rfl rfl rfl rfl rfl (fun hg11 => ?a11) ?b11 ?c11
 case a11 =>
  have hq11 := hg11; (try simp only [zB, reduceCtorEq] at hg11); simp only [zE]
  iterate 2 (refine bf rfl fun _ k0 => ?_; simp only [zO, zT, acs, reduceCtorEq, aa, V, ad, ag, af, ae, Mly.av, ah]; (repeat refine an ?_); (try refine .inl ?_); apply k0; clear k0; simp only [zP, V])
  (refine aj rfl fun _ k0 => ?_; simp only [zO, zT, acs, reduceCtorEq, aa, V, ad, ag, af, ae, Mly.av, ah]; (repeat refine an ?_); (try refine .inl ?_); apply k0; clear k0; simp only [zP, V])
  refine am ?_
  refine ⟨by simp only [zP, aa, V]; exact rfl, rfl, ?_, rfl⟩; (repeat refine aQ rfl ?_); exact bn (by exact rfl) hq11
 case b11 => exact cq
 simp only [b7, aT]
 refine am ?_
 apply k10; clear k10; refine kp [1, 2, 3, 6, 7, 24] ?_
 refine cd (fun hc12 => ?_) (fun hc12 => ?_)
 ·(try simp only [zB, reduceCtorEq] at hc12)
  have hai : a < m.inp.toNat := by have h9 : (a : Int) < m.inp := hc12.1; omega
  have hd0 : 0 < d := by have h9 : (0 : Int) < (d : Int) := hc12.2; omega
  refine ax ?_
  apply k9; clear k9; refine kp [1, 2, 3, 6, 7, 24] ?_
  refine ai fun _ k13 => ?_
  refine ay ?_
  refine ai fun _ k14 => ?_
  refine ak hP hN rfl ?_
  (refine aj rfl fun _ k0 => ?_; simp only [zO, zT, acs, reduceCtorEq, aa, V, ad, ag, af, ae, Mly.av, ah]; (repeat refine an ?_); (try refine .inl ?_); apply k0; clear k0; simp only [zP, V])
  refine am ?_
  apply k14; clear k14; refine kp [1, 2, 3, 6, 7, 8, 24] ?_
  refine ai fun _ k15 => ?_
  refine ai fun _ k16 => ?_
  refine ak hP hN rfl ?_
  iterate 3 (refine aj rfl fun _ k0 => ?_; simp only [zO, zT, acs, reduceCtorEq, aa, V, ad, ag, af, ae, Mly.av, ah]; (repeat refine an ?_); (try refine .inl ?_); apply k0; clear k0; simp only [zP, V])
  refine am ?_
  apply k16; clear k16; refine kp [1, 2, 3, 6, 7, 8, 24, 28, 29] ?_
  refine ay ?_
  refine bb (fun n17 s17 => ∃ (k : Nat) (o1 : Bool), (k ≤ l.length) ∧ (o1 = !unS m l (a : Int) k) ∧ n17 = l.length - k ∧ s17 = { env := [(1, .one (.list (.int .i64) l)), (2, .one (.int .i64 (d : Int))), (3, .one (.ptr 0 0 0 0)), (6, .one (.bool false)), (7, .one (.int .i64 (a : Int))), (8, .one (.bool o1)), (28, .one (.int .i64 (l.length : Int))), (29, .one (.int .i64 (k : Int)))], L := [.vars 24 [.int .i64 m.inp, .int .i64 m.st, .list (.list (.int .i64)) m.nx, .list (.list (.int .i64)) m.ot]] }) ?_ ?_
  ·exact ⟨_, _, aw [1, 2, 3, 6, 7, 8, 28, 29], 0, true, Nat.zero_le _, rfl, rfl, rfl⟩
  rintro n17 s17 ⟨k, o1, hk, ho1, rfl, rfl⟩
  refine ai fun _ k18 => ?_
  refine ak hP hN rfl ?_
  (refine aj rfl fun _ k0 => ?_; simp only [zO, zT, acs, reduceCtorEq, aa, V, ad, ag, af, ae, Mly.av, ah]; (repeat refine an ?_); (try refine .inl ?_); apply k0; clear k0; simp only [zP, V])
  refine am ?_
  apply k18; clear k18; refine kp [1, 2, 3, 6, 7, 8, 28, 29, 30] ?_
  refine ai fun _ k19 => ?_
  refine cd (fun hc20 => ?_) (fun hc20 => ?_)
  ·(try simp only [zB, reduceCtorEq] at hc20)
   refine ax ?_
   apply k19; clear k19; refine kp [1, 2, 3, 6, 7, 8, 28, 29, 30] ?_
   refine ai fun _ k21 => ?_
   refine ay ?_
   refine ai fun _ k22 => ?_
   have hkl : k < l.length := by omega
   have hsk := hs _ (bm hkl)
   have q1 := hm.rl (l.getD k 0).toNat (by omega)
   have q2 := hm.ql (l.getD k 0).toNat (by omega)
   refine ak hP hN rfl ?_
   iterate 2 (refine aj rfl fun _ k0 => ?_; simp only [zO, zT, acs, reduceCtorEq, aa, V, ad, ag, af, ae, Mly.av, ah]; (repeat refine an ?_); (try refine .inl ?_); apply k0; clear k0; simp only [zP, V])
   refine am ?_
   apply k22; clear k22; refine kp [1, 2, 3, 6, 7, 8, 9, 28, 29, 30] ?_
   refine ai fun _ k23 => ?_
   refine ak hP hN rfl ?_
   iterate 2 (refine aj rfl fun _ k0 => ?_; simp only [zO, zT, acs, reduceCtorEq, aa, V, ad, ag, af, ae, Mly.av, ah]; (repeat refine an ?_); (try refine .inl ?_); apply k0; clear k0; simp only [zP, V])
   refine am ?_
   apply k23; clear k23; refine kp [1, 2, 3, 6, 7, 8, 9, 28, 29, 30, 32, 33] ?_
   refine ay ?_
   refine bb (fun n24 s24 => ∃ (j : Nat) (o2 : Bool), (j ≤ k) ∧ (o2 = !(unS m l (a : Int) k || ((List.range j).any fun q => clB m (a : Int) (l.getD k 0) (l.getD q 0)))) ∧ n24 = k - j ∧ s24 = { env := [(1, .one (.list (.int .i64) l)), (2, .one (.int .i64 (d : Int))), (3, .one (.ptr 0 0 0 0)), (6, .one (.bool false)), (7, .one (.int .i64 (a : Int))), (8, .one (.bool o2)), (9, .one (.int .i64 (k : Int))), (28, .one (.int .i64 (l.length : Int))), (29, .one (.int .i64 (k : Int))), (32, .one (.int .i64 (k : Int))), (33, .one (.int .i64 (j : Int)))], L := [.vars 24 [.int .i64 m.inp, .int .i64 m.st, .list (.list (.int .i64)) m.nx, .list (.list (.int .i64)) m.ot]] }) ?_ ?_
   ·refine ⟨_, _, aw [1, 2, 3, 6, 7, 8, 9, 28, 29, 32, 33], 0, o1, Nat.zero_le _, ?_, rfl, rfl⟩
    rw [ho1]; simp
   rintro n24 s24 ⟨j, o2, hj, ho2, rfl, rfl⟩
   refine ai fun _ k25 => ?_
   refine ak hP hN rfl ?_
   (refine aj rfl fun _ k0 => ?_; simp only [zO, zT, acs, reduceCtorEq, aa, V, ad, ag, af, ae, Mly.av, ah]; (repeat refine an ?_); (try refine .inl ?_); apply k0; clear k0; simp only [zP, V])
   refine am ?_
   apply k25; clear k25; refine kp [1, 2, 3, 6, 7, 8, 9, 28, 29, 32, 33, 34] ?_
   refine ai fun _ k26 => ?_
   refine cd (fun hc27 => ?_) (fun hc27 => ?_)
   ·(try simp only [zB, reduceCtorEq] at hc27)
    refine ax ?_
    apply k26; clear k26; refine kp [1, 2, 3, 6, 7, 8, 9, 28, 29, 32, 33, 34] ?_
    refine ai fun _ k28 => ?_
    refine ay ?_
    refine ai fun _ k29 => ?_
    have hjl : j < l.length := by omega
    have hsj := hs _ (bm hjl)
    have q3 := hm.rl (l.getD j 0).toNat (by omega)
    have q4 := hm.ql (l.getD j 0).toNat (by omega)
    refine ak hP hN rfl ?_
    iterate 2 (refine aj rfl fun _ k0 => ?_; simp only [zO, zT, acs, reduceCtorEq, aa, V, ad, ag, af, ae, Mly.av, ah]; (repeat refine an ?_); (try refine .inl ?_); apply k0; clear k0; simp only [zP, V])
    refine am ?_
    apply k29; clear k29; refine kp [1, 2, 3, 6, 7, 8, 9, 10, 28, 29, 32, 33, 34] ?_
    refine bp hP hN Try.mixed rfl ?_
    iterate 2 (refine aj rfl fun _ k0 => ?_; simp only [zO, zT, acs, reduceCtorEq, aa, V, ad, ag, af, ae, Mly.av, ah]; (repeat refine an ?_); (try refine .inl ?_); apply k0; clear k0; simp only [zP, V])
    refine' aP (want := true) 48 rfl (m := 37) (by simp only [zP, aa, V]; exact rfl) (by kernel_rfl) rfl rfl rfl rfl rfl (fun hg30 => ?a30) ?b30 ?c30
    case a30 =>
     have hq30 := hg30; (try simp only [zB, reduceCtorEq] at hg30); simp only [zE]
     iterate 24 (refine bf rfl fun _ k0 => ?_; simp only [zO, zT, acs, reduceCtorEq, aa, V, ad, ag, af, ae, Mly.av, ah]; (repeat refine an ?_); (try refine .inl ?_); apply k0; clear k0; simp only [zP, V])
     refine' aP (want := false) 23 rfl (m := 61) (by simp only [zP, aa, V]; exact rfl) (by kernel_rfl) rfl rfl rfl rfl rfl (fun hg31 => ?a31) ?b31 ?c31
     case a31 =>
      have hq31 := hg31; (try simp only [zB, reduceCtorEq] at hg31); simp only [zE]
      iterate 24 (refine bf rfl fun _ k0 => ?_; simp only [zO, zT, acs, reduceCtorEq, aa, V, ad, ag, af, ae, Mly.av, ah]; (repeat refine an ?_); (try refine .inl ?_); apply k0; clear k0; simp only [zP, V])
      refine am ?_
      refine ⟨by simp only [zP, aa, V]; exact rfl, rfl, ?_, rfl⟩; (repeat refine aQ rfl ?_); exact bn (by exact rfl) hq31
     case b31 => exact cq
     simp only [b7, aT]
     (refine aj rfl fun _ k0 => ?_; simp only [zO, zT, acs, reduceCtorEq, aa, V, ad, ag, af, ae, Mly.av, ah]; (repeat refine an ?_); (try refine .inl ?_); apply k0; clear k0; simp only [zP, V])
     refine am ?_
     refine ⟨by simp only [zP, aa, V]; exact rfl, rfl, ?_, rfl⟩; (repeat refine aQ rfl ?_); exact bn (by exact rfl) hq30
    case b30 => exact cq
    simp only [b7, aT]
    (refine aj rfl fun _ k0 => ?_; simp only [zO, zT, acs, reduceCtorEq, aa, V, ad, ag, af, ae, Mly.av, ah]; (repeat refine an ?_); (try refine .inl ?_); apply k0; clear k0; simp only [zP, V])
    refine am ?_
    refine ⟨by kernel_rfl, ?_⟩
    apply k28; clear k28; refine kp [1, 2, 3, 6, 7, 8, 9, 10, 28, 29, 32, 33, 34] ?_
    refine ak hP hN rfl ?_
    iterate 2 (refine aj rfl fun _ k0 => ?_; simp only [zO, zT, acs, reduceCtorEq, aa, V, ad, ag, af, ae, Mly.av, ah]; (repeat refine an ?_); (try refine .inl ?_); apply k0; clear k0; simp only [zP, V])
    refine am ?_
    refine ⟨_, _, ?_, aw [1, 2, 3, 6, 7, 8, 9, 28, 29, 32, 33], j + 1, _, by omega, ?_, rfl, rfl⟩
    · omega
    · rw [xS, ← Bool.or_assoc, Bool.not_or, ← ho2]
      unfold clB Mly.out Mly.nxt
      simp
   (try simp only [zB, reduceCtorEq] at hc27)
   refine aX ?_
   apply k21; clear k21; refine kp [1, 2, 3, 6, 7, 8, 9, 28, 29, 32, 33, 34] ?_
   have hjk : j = k := by omega
   refine ak hP hN rfl ?_
   iterate 2 (refine aj rfl fun _ k0 => ?_; simp only [zO, zT, acs, reduceCtorEq, aa, V, ad, ag, af, ae, Mly.av, ah]; (repeat refine an ?_); (try refine .inl ?_); apply k0; clear k0; simp only [zP, V])
   refine am ?_
   refine ⟨_, _, ?_, aw [1, 2, 3, 6, 7, 8, 28, 29], k + 1, o2, by omega, ?_, rfl, rfl⟩
   · omega
   · rw [ho2, hjk, xD]
  (try simp only [zB, reduceCtorEq] at hc20)
  refine aX ?_
  apply k15; clear k15; refine kp [1, 2, 3, 6, 7, 8, 28, 29, 30] ?_
  refine ai fun _ k32 => ?_
  refine ai fun _ k33 => ?_
  have hkn : k = l.length := by omega
  refine da [1, 2, 3, 6, 7, 8] ?_; simp only [cC, lkp, zE, reduceCtorEq, aa]
  refine ak hP hN rfl ?_
  (refine aj rfl fun _ k0 => ?_; simp only [zO, zT, acs, reduceCtorEq, aa, V, ad, ag, af, ae, Mly.av, ah]; (repeat refine an ?_); (try refine .inl ?_); apply k0; clear k0; simp only [zP, V])
  refine am ?_
  apply k33; clear k33; refine kp [1, 2, 3, 6, 7, 8, 11, 28, 29, 30] ?_
  refine ay ?_
  refine bb (fun n34 s34 => ∃ (i : Nat) (o3 : Bool), (i ≤ l.length) ∧ (o3 = (!unS m l (a : Int) l.length && (l.take i).all fun x => dt m (d - 1) (bB m l (a : Int) l.length (m.out x (a : Int))))) ∧ n34 = l.length - i ∧ s34 = { env := [(1, .one (.list (.int .i64) l)), (2, .one (.int .i64 (d : Int))), (3, .one (.ptr 0 0 0 0)), (6, .one (.bool false)), (7, .one (.int .i64 (a : Int))), (8, .one (.bool o3)), (11, .one (.int .i64 (i : Int)))], L := [.vars 24 [.int .i64 m.inp, .int .i64 m.st, .list (.list (.int .i64)) m.nx, .list (.list (.int .i64)) m.ot]] }) ?_ ?_
  ·refine ⟨_, _, aw [1, 2, 3, 6, 7, 8, 11], 0, o1, Nat.zero_le _, ?_, rfl, rfl⟩
   rw [ho1, hkn]; simp
  rintro n34 s34 ⟨i, o3, hi, ho3, rfl, rfl⟩
  refine ai fun _ k35 => ?_
  refine ai fun _ k36 => ?_
  refine ak hP hN rfl ?_
  iterate 5 (refine aj rfl fun _ k0 => ?_; simp only [zO, zT, acs, reduceCtorEq, aa, V, ad, ag, af, ae, Mly.av, ah]; (repeat refine an ?_); (try refine .inl ?_); apply k0; clear k0; simp only [zP, V])
  refine' aP (want := true) 1 rfl (m := 93) (by simp only [zP, aa, V]; exact rfl) (by kernel_rfl) rfl rfl rfl rfl rfl (fun hg37 => ?a37) ?b37 ?c37
  case a37 =>
   have hq37 := hg37; (try simp only [zB, reduceCtorEq] at hg37); simp only [zE]
   (refine bf rfl fun _ k0 => ?_; simp only [zO, zT, acs, reduceCtorEq, aa, V, ad, ag, af, ae, Mly.av, ah]; (repeat refine an ?_); (try refine .inl ?_); apply k0; clear k0; simp only [zP, V])
   (refine aj rfl fun _ k0 => ?_; simp only [zO, zT, acs, reduceCtorEq, aa, V, ad, ag, af, ae, Mly.av, ah]; (repeat refine an ?_); (try refine .inl ?_); apply k0; clear k0; simp only [zP, V])
   refine am ?_
   refine ⟨by simp only [zP, aa, V]; exact rfl, rfl, ?_, rfl⟩; (repeat refine aQ rfl ?_); exact bn (by exact rfl) hq37
  case b37 => exact cq
  simp only [b7, aT]
  refine am ?_
  apply k36; clear k36; refine kp [1, 2, 3, 6, 7, 8, 11, 95] ?_
  refine cd (fun hc38 => ?_) (fun hc38 => ?_)
  ·(try simp only [zB, reduceCtorEq] at hc38)
   have hil : i < l.length := by have h9 : (i : Int) < (l.length : Int) := hc38.1; omega
   have ho3t : o3 = true := hc38.2
   refine ax ?_
   apply k35; clear k35; refine kp [1, 2, 3, 6, 7, 8, 11, 95] ?_
   refine ai fun _ k39 => ?_
   refine ay ?_
   refine ai fun _ k40 => ?_
   have hsi := hs _ (bm hil)
   have r1 := hm.ql (l.getD i 0).toNat (by omega)
   refine ak hP hN rfl ?_
   (refine aj rfl fun _ k0 => ?_; simp only [zO, zT, acs, reduceCtorEq, aa, V, ad, ag, af, ae, Mly.av, ah]; (repeat refine an ?_); (try refine .inl ?_); apply k0; clear k0; simp only [zP, V])
   refine am ?_
   apply k40; clear k40; refine kp [1, 2, 3, 6, 7, 8, 11, 12, 95] ?_
   refine ai fun _ k41 => ?_
   refine ai fun _ k42 => ?_
   refine ak hP hN rfl ?_
   iterate 3 (refine aj rfl fun _ k0 => ?_; simp only [zO, zT, acs, reduceCtorEq, aa, V, ad, ag, af, ae, Mly.av, ah]; (repeat refine an ?_); (try refine .inl ?_); apply k0; clear k0; simp only [zP, V])
   refine am ?_
   apply k42; clear k42; refine kp [1, 2, 3, 6, 7, 8, 11, 12, 95, 99, 100] ?_
   refine ay ?_
   refine fM 12 (.int .i64) 3 (by decide) rfl ?_; simp only [au, aE, aM, ba, Nat.zero_add, V]
   refine bb (fun n43 s43 => ∃ (q : Nat) (v : Nat), (q ≤ l.length) ∧ n43 = l.length - q ∧ s43 = { env := [(1, .one (.list (.int .i64) l)), (2, .one (.int .i64 (d : Int))), (3, .one (.ptr 0 0 0 0)), (6, .one (.bool false)), (7, .one (.int .i64 (a : Int))), (8, .one (.bool o3)), (11, .one (.int .i64 (i : Int))), (12, .one (.row 1 v)), (99, .one (.int .i64 (l.length : Int))), (100, .one (.int .i64 (q : Int)))], L := [.vars 24 [.int .i64 m.inp, .int .i64 m.st, .list (.list (.int .i64)) m.nx, .list (.list (.int .i64)) m.ot], .row (.int .i64) 3 v (bB m l (a : Int) q (m.out (l.getD i 0) (a : Int)))] }) ?_ ?_
   ·exact ⟨_, _, aw [1, 2, 3, 6, 7, 8, 11, 12, 99, 100], 0, 0, Nat.zero_le _, rfl, rfl⟩
   rintro n43 s43 ⟨q, v, hq, rfl, rfl⟩
   refine ai fun _ k44 => ?_
   refine ak hP hN rfl ?_
   (refine aj rfl fun _ k0 => ?_; simp only [zO, zT, acs, reduceCtorEq, aa, V, ad, ag, af, ae, Mly.av, ah]; (repeat refine an ?_); (try refine .inl ?_); apply k0; clear k0; simp only [zP, V])
   refine am ?_
   apply k44; clear k44; refine kp [1, 2, 3, 6, 7, 8, 11, 12, 99, 100, 101] ?_
   refine ai fun _ k45 => ?_
   refine cd (fun hc46 => ?_) (fun hc46 => ?_)
   ·(try simp only [zB, reduceCtorEq] at hc46)
    refine ax ?_
    apply k45; clear k45; refine kp [1, 2, 3, 6, 7, 8, 11, 12, 99, 100, 101] ?_
    refine ai fun _ k47 => ?_
    refine ay ?_
    refine ai fun _ k48 => ?_
    have hql : q < l.length := by omega
    have hsq := hs _ (bm hql)
    have r2 := hm.ql (l.getD q 0).toNat (by omega)
    have r3 := hm.rl (l.getD q 0).toNat (by omega)
    have hgl := jN (m := m) (cur := l) (a := (a : Int)) (o := m.out (l.getD i 0) (a : Int)) (i := q)
    refine ak hP hN rfl ?_
    iterate 2 (refine aj rfl fun _ k0 => ?_; simp only [zO, zT, acs, reduceCtorEq, aa, V, ad, ag, af, ae, Mly.av, ah]; (repeat refine an ?_); (try refine .inl ?_); apply k0; clear k0; simp only [zP, V])
    refine am ?_
    apply k48; clear k48; refine kp [1, 2, 3, 6, 7, 8, 11, 12, 13, 99, 100, 101] ?_
    refine ai fun _ k49 => ?_
    refine bp hP hN Try.mixed rfl ?_
    iterate 23 (refine aj rfl fun _ k0 => ?_; simp only [zO, zT, acs, reduceCtorEq, aa, V, ad, ag, af, ae, Mly.av, ah]; (repeat refine an ?_); (try refine .inl ?_); apply k0; clear k0; simp only [zP, V])
    refine am ?_
    refine ⟨by kernel_rfl, ?_⟩
    apply k49; clear k49; refine kp [1, 2, 3, 6, 7, 8, 11, 12, 13, 99, 100, 101, 125] ?_
    refine cd (fun hc50 => ?_) (fun hc50 => ?_)
    ·(try simp only [zB, reduceCtorEq] at hc50)
     have hox : m.out (l.getD q 0) (a : Int) = m.out (l.getD i 0) (a : Int) := hc50
     have hgs := (wh (ini := l) hox).2
     refine bp hP hN Try.mixed rfl ?_
     iterate 15 (refine aj rfl fun _ k0 => ?_; simp only [zO, zT, acs, reduceCtorEq, aa, V, ad, ag, af, ae, Mly.av, ah]; (repeat refine an ?_); (try refine .inl ?_); apply k0; clear k0; simp only [zP, V])
     refine am ?_
     refine ⟨by kernel_rfl, ?_⟩
     apply k47; clear k47; refine kp [1, 2, 3, 6, 7, 8, 11, 12, 13, 99, 100, 101, 125] ?_
     refine ak hP hN rfl ?_
     iterate 2 (refine aj rfl fun _ k0 => ?_; simp only [zO, zT, acs, reduceCtorEq, aa, V, ad, ag, af, ae, Mly.av, ah]; (repeat refine an ?_); (try refine .inl ?_); apply k0; clear k0; simp only [zP, V])
     refine am ?_
     first
     | (refine ⟨_, _, ?_, aw [1, 2, 3, 6, 7, 8, 11, 12, 99, 100], q + 1, v + 1, by omega, rfl, ?_⟩
        · omega
        · rw [hgs]; rfl)
     | (refine ⟨_, _, ?_, aw [1, 2, 3, 6, 7, 8, 11, 12, 99, 100], q + 1, v, by omega, rfl, ?_⟩
        · omega
        · rw [hgs]; rfl)
    (try simp only [zB, reduceCtorEq] at hc50)
    have hox : ¬ m.out (l.getD q 0) (a : Int) = m.out (l.getD i 0) (a : Int) := hc50
    have hgs := (oH (ini := l) hox).2
    refine ax ?_
    apply k47; clear k47; refine kp [1, 2, 3, 6, 7, 8, 11, 12, 13, 99, 100, 101, 125] ?_
    refine ak hP hN rfl ?_
    iterate 2 (refine aj rfl fun _ k0 => ?_; simp only [zO, zT, acs, reduceCtorEq, aa, V, ad, ag, af, ae, Mly.av, ah]; (repeat refine an ?_); (try refine .inl ?_); apply k0; clear k0; simp only [zP, V])
    refine am ?_
    first
    | (refine ⟨_, _, ?_, aw [1, 2, 3, 6, 7, 8, 11, 12, 99, 100], q + 1, v + 1, by omega, rfl, ?_⟩
       · omega
       · rw [hgs]; rfl)
    | (refine ⟨_, _, ?_, aw [1, 2, 3, 6, 7, 8, 11, 12, 99, 100], q + 1, v, by omega, rfl, ?_⟩
       · omega
       · rw [hgs]; rfl)
   (try simp only [zB, reduceCtorEq] at hc46)
   refine aX ?_
   apply k41; clear k41; refine kp [1, 2, 3, 6, 7, 8, 11, 12, 99, 100, 101] ?_
   refine cO 1 rfl ?_; simp only [aF, bl, zS, aa, and_self, and_true, true_and, and_false, false_and, if_true, if_false, eq_self, reduceCtorEq, Nat.one_ne_zero, Nat.zero_ne_one]
   have hqe : q = l.length := by omega
   rw [hqe]
   refine cM (n := 1) (L1 := [_]) rfl rfl (by rw [hB]; simp) rfl rfl ?_
   refine ak hP hN rfl ?_
   iterate 4 (refine aj rfl fun _ k0 => ?_; simp only [zO, zT, acs, reduceCtorEq, aa, V, ad, ag, af, ae, Mly.av, ah]; (repeat refine an ?_); (try refine .inl ?_); apply k0; clear k0; simp only [zP, V])
   refine aj rfl fun _ k0 => ?_
   refine aN (h := aA (IH (bB m l (a : Int) l.length (m.out (l.getD i 0) (a : Int))) (by omega) (mS hm ⟨by omega, by omega⟩ hs) (by have := jN (m := m) (cur := l) (a := (a : Int)) (o := m.out (l.getD i 0) (a : Int)) (i := l.length); omega))) rfl rfl (by first | exact rfl | (simp only [ev, zP, aa, V]; exact rfl)) (by simp only [zV, acs, reduceCtorEq, aa, V, ad, ag, af, ae, Mly.av, ah]) ?_
   apply k0; clear k0; simp only [zP, V]
   (refine aj rfl fun _ k0 => ?_; simp only [zO, zT, acs, reduceCtorEq, aa, V, ad, ag, af, ae, Mly.av, ah]; (repeat refine an ?_); (try refine .inl ?_); apply k0; clear k0; simp only [zP, V])
   refine am ?_
   apply k39; clear k39; refine kp [1, 2, 3, 6, 7, 8, 11, 12, 99, 100, 101] ?_
   refine ak hP hN rfl ?_
   iterate 3 (refine aj rfl fun _ k0 => ?_; simp only [zO, zT, acs, reduceCtorEq, aa, V, ad, ag, af, ae, Mly.av, ah]; (repeat refine an ?_); (try refine .inl ?_); apply k0; clear k0; simp only [zP, V])
   refine am ?_
   refine ⟨_, _, ?_, aw [1, 2, 3, 6, 7, 8, 11], i + 1, _, by omega, ?_, rfl, rfl⟩
   · omega
   · rw [wW hil, ← Bool.and_assoc, ← ho3, ho3t]; rfl
  (try simp only [zB, reduceCtorEq] at hc38)
  have hie : l.length ≤ i ∨ o3 = false := Or.elim hc38 (fun h9 => .inl (by have h8 : (l.length : Int) ≤ (i : Int) := h9; omega)) .inr
  refine aX ?_
  apply k32; clear k32; refine kp [1, 2, 3, 6, 7, 8, 11, 95] ?_
  refine ai fun _ k51 => ?_
  refine ak hP hN rfl ?_
  (refine aj rfl fun _ k0 => ?_; simp only [zO, zT, acs, reduceCtorEq, aa, V, ad, ag, af, ae, Mly.av, ah]; (repeat refine an ?_); (try refine .inl ?_); apply k0; clear k0; simp only [zP, V])
  refine am ?_
  apply k51; clear k51; refine kp [1, 2, 3, 6, 7, 8, 11, 95, 146] ?_
  refine cd (fun hc52 => ?_) (fun hc52 => ?_)
  ·(try simp only [zB, reduceCtorEq] at hc52)
   have hok : o3 = true := by simpa using hc52
   refine ai fun _ k53 => ?_
   refine ak hP hN rfl ?_
   (refine aj rfl fun _ k0 => ?_; simp only [zO, zT, acs, reduceCtorEq, aa, V, ad, ag, af, ae, Mly.av, ah]; (repeat refine an ?_); (try refine .inl ?_); apply k0; clear k0; simp only [zP, V])
   refine am ?_
   apply k53; clear k53; refine kp [1, 2, 3, 6, 7, 8, 11, 95, 146] ?_
   refine aB ?_
   refine ⟨nr, _, rfl, ?_⟩; simp only [zF, zP, aa, V, Mly.av, ah]
   refine VLE.of_eq ?_
   refine congrArg (fun b => AV.one (AC.bool b)) ?_
   symm
   first
   | exact mT h2l
   | (rcases hie with h9 | h9
      · rw [List.take_of_length_le h9, hok] at ho3
        have h8 := ho3.symm
        rw [Bool.and_eq_true, Bool.not_eq_true'] at h8
        exact l9 hd0 hai h8.1 h8.2
      · rw [hok] at h9; cases h9)
   | exact mQ h2l (fun h0 q hq => hno q (by omega) h0)
  (try simp only [zB, reduceCtorEq] at hc52)
  have hok : o3 = false := by simpa using hc52
  refine ax ?_
  apply k13; clear k13; refine kp [1, 2, 3, 6, 7, 8, 11, 95, 146] ?_
  refine ak hP hN rfl ?_
  iterate 3 (refine aj rfl fun _ k0 => ?_; simp only [zO, zT, acs, reduceCtorEq, aa, V, ad, ag, af, ae, Mly.av, ah]; (repeat refine an ?_); (try refine .inl ?_); apply k0; clear k0; simp only [zP, V])
  refine am ?_
  refine ⟨_, _, ?_, aw [1, 2, 3, 6, 7], a + 1, by omega, fun q h h0 => ?_, rfl, rfl⟩
  · omega
  · by_cases e : q = a
    · rw [e]
      rcases hie with h9 | h9
      · rw [List.take_of_length_le h9] at ho3; rw [← ho3]; exact hok
      · rw [hok, Bool.false_eq, Bool.and_eq_false_iff] at ho3
        rw [Bool.and_eq_false_iff]
        exact ho3.elim .inl fun h8 => .inr (xx h8)
    · exact hno q (by omega) h0
 (try simp only [zB, reduceCtorEq] at hc12)
 have hend : ¬ (a < m.inp.toNat ∧ 0 < d) := fun h => by
   rcases hc12 with h9 | h9 <;> omega
 refine aX ?_
 apply k6; clear k6; refine kp [1, 2, 3, 6, 7, 24] ?_
 refine ai fun _ k54 => ?_
 refine ak hP hN rfl ?_
 (refine aj rfl fun _ k0 => ?_; simp only [zO, zT, acs, reduceCtorEq, aa, V, ad, ag, af, ae, Mly.av, ah]; (repeat refine an ?_); (try refine .inl ?_); apply k0; clear k0; simp only [zP, V])
 refine am ?_
 apply k54; clear k54; refine kp [1, 2, 3, 6, 7, 24] ?_
 refine aB ?_
 refine ⟨nr, _, rfl, ?_⟩; simp only [zF, zP, aa, V, Mly.av, ah]
 refine VLE.of_eq ?_
 refine congrArg (fun b => AV.one (AC.bool b)) ?_
 symm
 first
 | exact mT h2l
 | (rcases hie with h9 | h9
    · rw [List.take_of_length_le h9, hok] at ho3
      have h8 := ho3.symm
      rw [Bool.and_eq_true, Bool.not_eq_true'] at h8
      exact l9 hd0 hai h8.1 h8.2
    · rw [hok] at h9; cases h9)
 | exact mQ h2l (fun h0 q hq => hno q (by omega) h0)
theorem nA (m : Mly) (hm : MOK m) : ∀ (d : Nat), d ≤ 100 → ∀ (l : List Int), cU m l → l.length ≤ 1000 → bZ Try.prog 26 [m.av, .one (.list (.int .i64) l), .one (.int .i64 (d : Int))] (.one (.bool (dt m d l)))
  | 0, hd, l, hs, hl => nn m hm 0 hd (fun k h => absurd h (Nat.lt_irrefl 0)) l hs hl
  | d + 1, hd, l, hs, hl => nn m hm (d + 1) hd (fun k _ h1 h2 => by
      have h := nA m hm d (by omega) k h1 h2
      rw [show (((d + 1 : Nat) : Int) - 1) = (d : Int) by omega]
      exact h) l hs hl
theorem sd (m : Mly) (h : K12 m) : bZ Try.prog 26 [m.av, .one (.list (.int .i64) (rgI m.nx.length)), .one (.int .i64 4)] (.one (.bool (dt m 4 (rgI m.nx.length)))) :=
  nA m h.ok 4 (by decide) _ (lN m) (by rw [db]; have := h.n8; omega)
set_option maxHeartbeats 1500000 in
theorem z7 (m : Mly) (i : Nat) (hm : MOK m) : bZ Try.prog 101 [m.av, .one (.list (.int .i64) (m.cls i))] (.one (.list (.int .i64) (m.cls (i + 1)))) := by
 have ol := hm.ol; have hi1 := hm.i1; have hi2 := hm.i2; have hn2 := hm.n2
 have hcl := jJ m i
 have hnl := pM m (m.cls i)
 refine aU Try.func101 rfl (by kernel_rfl) (Nat.le_of_ble_eq_true rfl) rfl fun C hP hN hB => ?_
 replace hN : C.N = 99 := hN
 simp only [bg, V]
 refine ai fun _ k1 => ?_
 refine ak hP hN rfl ?_
 iterate 2 (refine aj rfl fun _ k0 => ?_; simp only [zO, zT, acs, reduceCtorEq, aa, V, ad, ag, af, ae, Mly.av, ah]; (repeat refine an ?_); (try refine .inl ?_); apply k0; clear k0; simp only [zP, V])
 refine am ?_
 apply k1; clear k1; refine kp [0, 1, 2, 4] ?_
 refine ai fun _ k2 => ?_
 refine ak hP hN rfl ?_
 (refine aj rfl fun _ k0 => ?_; simp only [zO, zT, acs, reduceCtorEq, aa, V, ad, ag, af, ae, Mly.av, ah]; (repeat refine an ?_); (try refine .inl ?_); apply k0; clear k0; simp only [zP, V])
 refine am ?_
 apply k2; clear k2; refine kp [0, 1, 2, 4, 5] ?_
 refine ai fun _ k3 => ?_
 refine ak hP hN rfl ?_
 (refine aj rfl fun _ k0 => ?_; simp only [zO, zT, acs, reduceCtorEq, aa, V, ad, ag, af, ae, Mly.av, ah]; (repeat refine an ?_); (try refine .inl ?_); apply k0; clear k0; simp only [zP, V])
 refine am ?_
 apply k3; clear k3; refine kp [0, 1, 2, 4, 5, 6] ?_
 refine ai fun _ k4 => ?_
 refine ai fun _ k5 => ?_
 refine ak hP hN rfl ?_
 (refine aj rfl fun _ k0 => ?_; simp only [zO, zT, acs, reduceCtorEq, aa, V, ad, ag, af, ae, Mly.av, ah]; (repeat refine an ?_); (try refine .inl ?_); apply k0; clear k0; simp only [zP, V])
 refine am ?_
 apply k5; clear k5; refine kp [0, 1, 2, 4, 5, 6, 7] ?_
 refine ay ?_
 refine fM 5 (.int .i64) 3 (by decide) rfl ?_; simp only [au, aE, aM, ba, Nat.zero_add, V]
 refine bb (fun n6 s6 => ∃ (s : Nat) (v : Nat), (s ≤ m.nx.length) ∧ n6 = m.nx.length - s ∧ s6 = { env := [(1, .one (.list (.int .i64) (m.cls i))), (2, .one (.ptr 0 0 0 0)), (4, .one .nils), (5, .one (.row 1 v)), (6, .one (.int .i64 ((cV (m.sig (m.cls i)) s).length : Int))), (7, .one (.int .i64 (s : Int)))], L := [.vars 24 [.int .i64 m.inp, .int .i64 m.st, .list (.list (.int .i64)) m.nx, .list (.list (.int .i64)) m.ot], .row (.int .i64) 3 v ((m.nextL (m.cls i)).take s)] }) ?_ ?_
 ·exact ⟨_, _, aw [1, 2, 4, 5, 6, 7], 0, 0, Nat.zero_le _, rfl, rfl⟩
 rintro n6 s6 ⟨s, v, hs, rfl, rfl⟩
 refine ai fun _ k7 => ?_
 refine ai fun _ k8 => ?_
 refine ak hP hN rfl ?_
 iterate 4 (refine aj rfl fun _ k0 => ?_; simp only [zO, zT, acs, reduceCtorEq, aa, V, ad, ag, af, ae, Mly.av, ah]; (repeat refine an ?_); (try refine .inl ?_); apply k0; clear k0; simp only [zP, V])
 refine am ?_
 apply k8; clear k8; refine kp [1, 2, 4, 5, 6, 7, 15] ?_
 refine cd (fun hc9 => ?_) (fun hc9 => ?_)
 ·(try simp only [zB, reduceCtorEq] at hc9)
  refine ax ?_
  apply k7; clear k7; refine kp [1, 2, 4, 5, 6, 7, 15] ?_
  refine ai fun _ k10 => ?_
  refine ay ?_
  refine ai fun _ k11 => ?_
  have hsn : s < m.nx.length := by omega
  have hdl := m5 (m.sig (m.cls i)) s
  have htl : ((m.nextL (m.cls i)).take s).length = s := by rw [List.length_take]; omega
  refine ak hP hN rfl ?_
  (refine aj rfl fun _ k0 => ?_; simp only [zO, zT, acs, reduceCtorEq, aa, V, ad, ag, af, ae, Mly.av, ah]; (repeat refine an ?_); (try refine .inl ?_); apply k0; clear k0; simp only [zP, V])
  refine am ?_
  apply k11; clear k11; refine kp [1, 2, 4, 5, 6, 7, 8, 15] ?_
  refine ai fun _ k12 => ?_
  refine ai fun _ k13 => ?_
  refine ak hP hN rfl ?_
  iterate 3 (refine aj rfl fun _ k0 => ?_; simp only [zO, zT, acs, reduceCtorEq, aa, V, ad, ag, af, ae, Mly.av, ah]; (repeat refine an ?_); (try refine .inl ?_); apply k0; clear k0; simp only [zP, V])
  refine am ?_
  apply k13; clear k13; refine kp [1, 2, 4, 5, 6, 7, 8, 9, 15] ?_
  refine ay ?_
  refine bb (fun n14 s14 => ∃ (k : Nat) (fd : Int), (k ≤ s) ∧ (fnF m (m.cls i) s k fd) ∧ n14 = k + 1 ∧ s14 = { env := [(1, .one (.list (.int .i64) (m.cls i))), (2, .one (.ptr 0 0 0 0)), (4, .one .nils), (5, .one (.row 1 v)), (6, .one (.int .i64 ((cV (m.sig (m.cls i)) s).length : Int))), (7, .one (.int .i64 (s : Int))), (8, .one (.int .i64 fd)), (9, .one (.int .i64 ((k : Int) - 1))), (15, .one (.bool true))], L := [.vars 24 [.int .i64 m.inp, .int .i64 m.st, .list (.list (.int .i64)) m.nx, .list (.list (.int .i64)) m.ot], .row (.int .i64) 3 v ((m.nextL (m.cls i)).take s)] }) ?_ ?_
  ·refine ⟨_, _, aw [1, 2, 4, 5, 6, 7, 8, 9, 15], s, -1, Nat.le_refl _, .inl ⟨rfl, fun t h1 h2 => by omega⟩, rfl, ?_⟩
   rw [decide_eq_true (by omega)]; rfl
  rintro n14 s14 ⟨k, fd, hk, hfn, rfl, rfl⟩
  refine ai fun _ k15 => ?_
  refine ai fun _ k16 => ?_
  refine ak hP hN rfl ?_
  iterate 2 (refine aj rfl fun _ k0 => ?_; simp only [zO, zT, acs, reduceCtorEq, aa, V, ad, ag, af, ae, Mly.av, ah]; (repeat refine an ?_); (try refine .inl ?_); apply k0; clear k0; simp only [zP, V])
  refine am ?_
  apply k16; clear k16; refine kp [1, 2, 4, 5, 6, 7, 8, 9, 15, 21] ?_
  refine cd (fun hc17 => ?_) (fun hc17 => ?_)
  ·(try simp only [zB, reduceCtorEq] at hc17)
   refine ax ?_
   apply k15; clear k15; refine kp [1, 2, 4, 5, 6, 7, 8, 9, 15, 21] ?_
   refine ai fun _ k18 => ?_
   refine ay ?_
   refine ai fun _ k19 => ?_
   obtain ⟨t, rfl⟩ : ∃ t, k = t + 1 := ⟨k - 1, by omega⟩
   rw [show (((t + 1 : Nat) : Int) - 1) = (t : Int) by omega]
   have htn : t < m.nx.length := by omega
   refine bp hP hN Try.mixed rfl ?_
   iterate 10 (refine aj rfl fun _ k0 => ?_; simp only [zO, zT, acs, reduceCtorEq, aa, V, ad, ag, af, ae, Mly.av, ah]; (repeat refine an ?_); (try refine .inl ?_); apply k0; clear k0; simp only [zP, V])
   refine am ?_
   refine ⟨by kernel_rfl, ?_⟩
   apply k19; clear k19; refine kp [1, 2, 4, 5, 6, 7, 8, 9, 10, 15, 21] ?_
   refine ai fun _ k20 => ?_
   refine ai fun _ k21 => ?_
   refine ak hP hN rfl ?_
   (refine aj rfl fun _ k0 => ?_; simp only [zO, zT, acs, reduceCtorEq, aa, V, ad, ag, af, ae, Mly.av, ah]; (repeat refine an ?_); (try refine .inl ?_); apply k0; clear k0; simp only [zP, V])
   refine am ?_
   apply k21; clear k21; refine kp [1, 2, 4, 5, 6, 7, 8, 9, 10, 11, 15, 21] ?_
   refine ay ?_
   refine bb (fun n22 s22 => ∃ (a : Nat) (sm : Bool), ((a : Int) ≤ m.inp) ∧ (sm = true ↔ smB m (m.cls i) s t a) ∧ n22 = m.inp.toNat - a ∧ s22 = { env := [(1, .one (.list (.int .i64) (m.cls i))), (2, .one (.ptr 0 0 0 0)), (4, .one .nils), (5, .one (.row 1 v)), (6, .one (.int .i64 ((cV (m.sig (m.cls i)) s).length : Int))), (7, .one (.int .i64 (s : Int))), (8, .one (.int .i64 fd)), (9, .one (.int .i64 (t : Int))), (10, .one (.bool sm)), (11, .one (.int .i64 (a : Int))), (15, .one (.bool true)), (21, .one (.bool true))], L := [.vars 24 [.int .i64 m.inp, .int .i64 m.st, .list (.list (.int .i64)) m.nx, .list (.list (.int .i64)) m.ot], .row (.int .i64) 3 v ((m.nextL (m.cls i)).take s)] }) ?_ ?_
   ·refine ⟨_, _, aw [1, 2, 4, 5, 6, 7, 8, 9, 10, 11, 15, 21], 0, decide ((m.cls i).getD s 0 = (m.cls i).getD t 0), by omega, by rw [decide_eq_true_eq]; exact ⟨fun h => ⟨h, fun b hb => by omega⟩, fun h => h.1⟩, rfl, ?_⟩
    rw [decide_eq_true (show (0 : Int) ≤ (t : Int) by omega)]; rfl
   rintro n22 s22 ⟨a, sm, ha, hsb, rfl, rfl⟩
   refine ai fun _ k23 => ?_
   refine ai fun _ k24 => ?_
   refine ak hP hN rfl ?_
   iterate 5 (refine aj rfl fun _ k0 => ?_; simp only [zO, zT, acs, reduceCtorEq, aa, V, ad, ag, af, ae, Mly.av, ah]; (repeat refine an ?_); (try refine .inl ?_); apply k0; clear k0; simp only [zP, V])
   refine' aP (want := true) 1 rfl (m := 37) (by simp only [zP, aa, V]; exact rfl) (by kernel_rfl) rfl rfl rfl rfl rfl (fun hg25 => ?a25) ?b25 ?c25
   case a25 =>
    have hq25 := hg25; (try simp only [zB, reduceCtorEq] at hg25); simp only [zE]
    (refine bf rfl fun _ k0 => ?_; simp only [zO, zT, acs, reduceCtorEq, aa, V, ad, ag, af, ae, Mly.av, ah]; (repeat refine an ?_); (try refine .inl ?_); apply k0; clear k0; simp only [zP, V])
    (refine aj rfl fun _ k0 => ?_; simp only [zO, zT, acs, reduceCtorEq, aa, V, ad, ag, af, ae, Mly.av, ah]; (repeat refine an ?_); (try refine .inl ?_); apply k0; clear k0; simp only [zP, V])
    refine am ?_
    refine ⟨by simp only [zP, aa, V]; exact rfl, rfl, ?_, rfl⟩; (repeat refine aQ rfl ?_); exact bn (by exact rfl) hq25
   case b25 => exact cq
   simp only [b7, aT]
   refine am ?_
   apply k24; clear k24; refine kp [1, 2, 4, 5, 6, 7, 8, 9, 10, 11, 15, 21, 39] ?_
   refine cd (fun hc26 => ?_) (fun hc26 => ?_)
   ·(try simp only [zB, reduceCtorEq] at hc26)
    have hy : (a : Int) < m.inp ∧ smB m (m.cls i) s t a := by
      have h9 : (a : Int) < m.inp ∧ sm = true := by simpa using hc26
      exact ⟨h9.1, hsb.1 h9.2⟩
    refine ax ?_
    apply k23; clear k23; refine kp [1, 2, 4, 5, 6, 7, 8, 9, 10, 11, 15, 21, 39] ?_
    refine ai fun _ k27 => ?_
    refine ay ?_
    have q1 := hm.rl s hsn; have q2 := hm.ql s hsn; have q3 := hm.rl t htn; have q4 := hm.ql t htn
    have n1 := hm.nr s a hsn (by omega)
    have n2 := hm.nr t a htn (by omega)
    refine bp hP hN Try.mixed rfl ?_
    iterate 18 (refine aj rfl fun _ k0 => ?_; simp only [zO, zT, acs, reduceCtorEq, aa, V, ad, ag, af, ae, Mly.av, ah]; (repeat refine an ?_); (try refine .inl ?_); apply k0; clear k0; simp only [zP, V])
    refine' aP (want := true) 23 rfl (m := 59) (by simp only [zP, aa, V]; exact rfl) (by kernel_rfl) rfl rfl rfl rfl rfl (fun hg28 => ?a28) ?b28 ?c28
    case a28 =>
     have hq28 := hg28; (try simp only [zB, reduceCtorEq] at hg28); simp only [zE]
     iterate 23 (refine bf rfl fun _ k0 => ?_; simp only [zO, zT, acs, reduceCtorEq, aa, V, ad, ag, af, ae, Mly.av, ah]; (repeat refine an ?_); (try refine .inl ?_); apply k0; clear k0; simp only [zP, V])
     (refine aj rfl fun _ k0 => ?_; simp only [zO, zT, acs, reduceCtorEq, aa, V, ad, ag, af, ae, Mly.av, ah]; (repeat refine an ?_); (try refine .inl ?_); apply k0; clear k0; simp only [zP, V])
     refine am ?_
     refine ⟨by simp only [zP, aa, V]; exact rfl, rfl, ?_, rfl⟩; (repeat refine aQ rfl ?_); exact bn (by exact rfl) hq28
    case b28 => exact cq
    simp only [b7, aT]
    (refine aj rfl fun _ k0 => ?_; simp only [zO, zT, acs, reduceCtorEq, aa, V, ad, ag, af, ae, Mly.av, ah]; (repeat refine an ?_); (try refine .inl ?_); apply k0; clear k0; simp only [zP, V])
    refine am ?_
    refine ⟨by kernel_rfl, ?_⟩
    apply k27; clear k27; refine kp [1, 2, 4, 5, 6, 7, 8, 9, 10, 11, 15, 21, 39] ?_
    refine ak hP hN rfl ?_
    iterate 3 (refine aj rfl fun _ k0 => ?_; simp only [zO, zT, acs, reduceCtorEq, aa, V, ad, ag, af, ae, Mly.av, ah]; (repeat refine an ?_); (try refine .inl ?_); apply k0; clear k0; simp only [zP, V])
    refine am ?_
    refine ⟨_, _, ?_, aw [1, 2, 4, 5, 6, 7, 8, 9, 10, 11, 15, 21], a + 1, _, by omega, ?_, rfl, rfl⟩
    · omega
    · rw [x5 hy.2]; simp
   (try simp only [zB, reduceCtorEq] at hc26)
   have hy : ¬ ((a : Int) < m.inp ∧ smB m (m.cls i) s t a) := by
     rintro ⟨h1, h2⟩
     have h3 := hsb.2 h2
     have h9 : m.inp ≤ (a : Int) ∨ sm = false := by simpa using hc26
     rcases h9 with h9 | h9
     · omega
     · rw [h3] at h9; cases h9
   refine aX ?_
   apply k20; clear k20; refine kp [1, 2, 4, 5, 6, 7, 8, 9, 10, 11, 15, 21, 39] ?_
   refine ai fun _ k29 => ?_
   have hsm : smB m (m.cls i) s t m.inp.toNat ↔ m.sig (m.cls i) s = m.sig (m.cls i) t := yt hm hsn htn
   refine ak hP hN rfl ?_
   (refine aj rfl fun _ k0 => ?_; simp only [zO, zT, acs, reduceCtorEq, aa, V, ad, ag, af, ae, Mly.av, ah]; (repeat refine an ?_); (try refine .inl ?_); apply k0; clear k0; simp only [zP, V])
   refine am ?_
   apply k29; clear k29; refine kp [1, 2, 4, 5, 6, 7, 8, 9, 10, 11, 15, 21, 39, 84] ?_
   refine cd (fun hc30 => ?_) (fun hc30 => ?_)
   ·(try simp only [zB, reduceCtorEq] at hc30)
    have hy9 : smB m (m.cls i) s t a := hsb.1 hc30
    have hya : a = m.inp.toNat := by
      by_cases e : (a : Int) < m.inp
      · exact absurd ⟨e, hy9⟩ hy
      · omega
    have hsg := hsm.1 (hya ▸ hy9)
    have hfn2 := zA hsn (by omega) hsg
    have hgt : ((m.nextL (m.cls i)).take s).getD t 0 = (m.nextL (m.cls i)).getD t 0 := qb (by omega)
    refine ak hP hN rfl ?_
    iterate 5 (refine aj rfl fun _ k0 => ?_; simp only [zO, zT, acs, reduceCtorEq, aa, V, ad, ag, af, ae, Mly.av, ah, htl]; (repeat refine an ?_); (try refine .inl ?_); apply k0; clear k0; simp only [zP, V])
    refine am ?_
    apply k18; clear k18; refine kp [1, 2, 4, 5, 6, 7, 8, 9, 10, 11, 15, 21, 39, 84] ?_
    refine ak hP hN rfl ?_
    iterate 3 (refine aj rfl fun _ k0 => ?_; simp only [zO, zT, acs, reduceCtorEq, aa, V, ad, ag, af, ae, Mly.av, ah]; (repeat refine an ?_); (try refine .inl ?_); apply k0; clear k0; simp only [zP, V])
    refine am ?_
    first
    | (refine ⟨_, _, ?_, aw [1, 2, 4, 5, 6, 7, 8, 9, 15], t, _, by omega, hfn2, rfl, rfl⟩
       omega)
    | (refine ⟨_, _, ?_, aw [1, 2, 4, 5, 6, 7, 8, 9, 15], t, (m.nextL (m.cls i)).getD t 0, by omega, hfn2, rfl, ?_⟩
       · omega
       · rw [← hgt]; rfl)
   (try simp only [zB, reduceCtorEq] at hc30)
   have hy9 : ¬ smB m (m.cls i) s t a := fun h => by
     have h3 := hsb.2 h
     have h9 : sm = false := by simpa using hc30
     rw [h3] at h9; cases h9
   have hsg : ¬ m.sig (m.cls i) s = m.sig (m.cls i) t := fun h => xt (by omega) hy9 (hsm.2 h)
   have hfn2 := B3 hfn hsg
   refine ax ?_
   apply k18; clear k18; refine kp [1, 2, 4, 5, 6, 7, 8, 9, 10, 11, 15, 21, 39, 84] ?_
   refine ak hP hN rfl ?_
   iterate 3 (refine aj rfl fun _ k0 => ?_; simp only [zO, zT, acs, reduceCtorEq, aa, V, ad, ag, af, ae, Mly.av, ah]; (repeat refine an ?_); (try refine .inl ?_); apply k0; clear k0; simp only [zP, V])
   refine am ?_
   first
   | (refine ⟨_, _, ?_, aw [1, 2, 4, 5, 6, 7, 8, 9, 15], t, _, by omega, hfn2, rfl, rfl⟩
      omega)
   | (refine ⟨_, _, ?_, aw [1, 2, 4, 5, 6, 7, 8, 9, 15], t, (m.nextL (m.cls i)).getD t 0, by omega, hfn2, rfl, ?_⟩
      · omega
      · rw [← hgt]; rfl)
  (try simp only [zB, reduceCtorEq] at hc17)
  refine aX ?_
  apply k12; clear k12; refine kp [1, 2, 4, 5, 6, 7, 8, 9, 15, 21] ?_
  refine ai fun _ k31 => ?_
  refine ai fun _ k32 => ?_
  have hk0 : k = 0 := by omega
  subst hk0
  refine ak hP hN rfl ?_
  iterate 2 (refine aj rfl fun _ k0 => ?_; simp only [zO, zT, acs, reduceCtorEq, aa, V, ad, ag, af, ae, Mly.av, ah]; (repeat refine an ?_); (try refine .inl ?_); apply k0; clear k0; simp only [zP, V])
  refine am ?_
  apply k32; clear k32; refine kp [1, 2, 4, 5, 6, 7, 8, 9, 15, 21, 90] ?_
  refine cd (fun hc33 => ?_) (fun hc33 => ?_)
  ·(try simp only [zB, reduceCtorEq] at hc33)
   have hnew := zy hsn hfn (by omega)
   refine ai fun _ k34 => ?_
   refine ak hP hN rfl ?_
   iterate 2 (refine aj rfl fun _ k0 => ?_; simp only [zO, zT, acs, reduceCtorEq, aa, V, ad, ag, af, ae, Mly.av, ah]; (repeat refine an ?_); (try refine .inl ?_); apply k0; clear k0; simp only [zP, V])
   refine am ?_
   apply k34; clear k34; refine kp [1, 2, 4, 5, 6, 7, 8, 9, 15, 21, 90] ?_
   refine ak hP hN rfl ?_
   iterate 3 (refine aj rfl fun _ k0 => ?_; simp only [zO, zT, acs, reduceCtorEq, aa, V, ad, ag, af, ae, Mly.av, ah]; (repeat refine an ?_); (try refine .inl ?_); apply k0; clear k0; simp only [zP, V])
   refine am ?_
   apply k31; clear k31; refine kp [1, 2, 4, 5, 6, 7, 8, 9, 15, 21, 90] ?_
   have hnr := jk (m := m) (cl := (m.cls i)) hsn
   refine ak hP hN rfl ?_
   iterate 5 (refine aj rfl fun _ k0 => ?_; simp only [zO, zT, acs, reduceCtorEq, aa, V, ad, ag, af, ae, Mly.av, ah]; (repeat refine an ?_); (try refine .inl ?_); apply k0; clear k0; simp only [zP, V])
   refine am ?_
   apply k10; clear k10; refine kp [1, 2, 4, 5, 6, 7, 8, 9, 15, 21, 90] ?_
   refine ak hP hN rfl ?_
   iterate 3 (refine aj rfl fun _ k0 => ?_; simp only [zO, zT, acs, reduceCtorEq, aa, V, ad, ag, af, ae, Mly.av, ah]; (repeat refine an ?_); (try refine .inl ?_); apply k0; clear k0; simp only [zP, V])
   refine am ?_
   first
   | (refine ⟨_, _, ?_, aw [1, 2, 4, 5, 6, 7], s + 1, v + 1, by omega, rfl, ?_⟩
      · omega
      · rw [cP (by omega), hnew.1, hnew.2]; rfl)
   | (refine ⟨_, _, ?_, aw [1, 2, 4, 5, 6, 7], s + 1, v + 1, by omega, rfl, ?_⟩
      · omega
      · rw [cP (by omega), hold.1, hold.2]; rfl)
  (try simp only [zB, reduceCtorEq] at hc33)
  have hold := Aj hfn (by omega)
  refine ax ?_
  apply k31; clear k31; refine kp [1, 2, 4, 5, 6, 7, 8, 9, 15, 21, 90] ?_
  have hnr := jk (m := m) (cl := (m.cls i)) hsn
  refine ak hP hN rfl ?_
  iterate 5 (refine aj rfl fun _ k0 => ?_; simp only [zO, zT, acs, reduceCtorEq, aa, V, ad, ag, af, ae, Mly.av, ah]; (repeat refine an ?_); (try refine .inl ?_); apply k0; clear k0; simp only [zP, V])
  refine am ?_
  apply k10; clear k10; refine kp [1, 2, 4, 5, 6, 7, 8, 9, 15, 21, 90] ?_
  refine ak hP hN rfl ?_
  iterate 3 (refine aj rfl fun _ k0 => ?_; simp only [zO, zT, acs, reduceCtorEq, aa, V, ad, ag, af, ae, Mly.av, ah]; (repeat refine an ?_); (try refine .inl ?_); apply k0; clear k0; simp only [zP, V])
  refine am ?_
  first
  | (refine ⟨_, _, ?_, aw [1, 2, 4, 5, 6, 7], s + 1, v + 1, by omega, rfl, ?_⟩
     · omega
     · rw [cP (by omega), hnew.1, hnew.2]; rfl)
  | (refine ⟨_, _, ?_, aw [1, 2, 4, 5, 6, 7], s + 1, v + 1, by omega, rfl, ?_⟩
     · omega
     · rw [cP (by omega), hold.1, hold.2]; rfl)
 (try simp only [zB, reduceCtorEq] at hc9)
 refine aX ?_
 apply k4; clear k4; refine kp [1, 2, 4, 5, 6, 7, 15] ?_
 refine ai fun _ k35 => ?_
 refine cO 1 rfl ?_; simp only [aF, bl, zS, aa, and_self, and_true, true_and, and_false, false_and, if_true, if_false, eq_self, reduceCtorEq, Nat.one_ne_zero, Nat.zero_ne_one]
 have hse : s = m.nx.length := by omega
 rw [hse, ← hnl, aJ]
 refine ak hP hN rfl ?_
 iterate 2 (refine aj rfl fun _ k0 => ?_; simp only [zO, zT, acs, reduceCtorEq, aa, V, ad, ag, af, ae, Mly.av, ah]; (repeat refine an ?_); (try refine .inl ?_); apply k0; clear k0; simp only [zP, V])
 refine am ?_
 apply k35; clear k35; refine kp [1, 2, 4, 5, 6, 7, 15] ?_
 refine aB ?_
 refine ⟨nr, _, rfl, ?_⟩; simp only [zF, zP, aa, V, Mly.av, ah]
 exact VLE.of_eq rfl
theorem Aw (m : Mly) (s : Nat) (hi : m.inp ≤ 64) (hs : s < m.nx.length) (ho : m.ot.length = m.nx.length) : bZ Try.prog 62 [m.av, .one (.int .i64 (s : Int))] (.one (.int .i64 (iv m s))) := by
 refine aU Try.func62 rfl (by kernel_rfl) (Nat.le_of_ble_eq_true rfl) rfl fun C hP hN hB => ?_
 replace hN : C.N = 77 := hN
 simp only [bg, V]
 refine ai fun _ k1 => ?_
 refine ak hP hN rfl ?_
 iterate 2 (refine aj rfl fun _ k0 => ?_; simp only [zO, zT, acs, reduceCtorEq, aa, V, ad, ag, af, ae, Mly.av]; (repeat refine an ?_); (try refine .inl ?_); apply k0; clear k0; simp only [zP, V])
 refine am ?_
 apply k1; clear k1; refine kp [0, 1, 2, 4] ?_
 refine ai fun _ k2 => ?_
 refine ai fun _ k3 => ?_
 refine bp hP hN Try.mixed rfl ?_
 iterate 10 (refine aj rfl fun _ k0 => ?_; simp only [zO, zT, acs, reduceCtorEq, aa, V, ad, ag, af, ae, Mly.av]; (repeat refine an ?_); (try refine .inl ?_); apply k0; clear k0; simp only [zP, V])
 refine' aP (want := false) 9 rfl (m := 15) (by simp only [zP, aa, V]; exact rfl) (by kernel_rfl) rfl rfl rfl rfl rfl (fun hg4 => ?a4) ?b4 ?c4
 case a4 =>
  have hq4 := hg4; (try simp only [zB, reduceCtorEq] at hg4); simp only [zE]
  iterate 9 (refine bf rfl fun _ k0 => ?_; simp only [zO, zT, acs, reduceCtorEq, aa, V, ad, ag, af, ae, Mly.av]; (repeat refine an ?_); (try refine .inl ?_); apply k0; clear k0; simp only [zP, V])
  (refine aj rfl fun _ k0 => ?_; simp only [zO, zT, acs, reduceCtorEq, aa, V, ad, ag, af, ae, Mly.av]; (repeat refine an ?_); (try refine .inl ?_); apply k0; clear k0; simp only [zP, V])
  refine am ?_
  refine ⟨by simp only [zP, aa, V]; exact rfl, rfl, ?_, rfl⟩; (repeat refine aQ rfl ?_); exact bn (by exact rfl) hq4
 case b4 => exact cq
 simp only [b7, aT]
 refine am ?_
 refine ⟨by kernel_rfl, ?_⟩
 apply k3; clear k3; refine kp [0, 1, 2, 4, 25] ?_
 refine cd (fun hc5 => ?_) (fun hc5 => ?_)
 ·(try simp only [zB, reduceCtorEq] at hc5)
  refine ai fun _ k6 => ?_
  refine ak hP hN rfl ?_
  (refine aj rfl fun _ k0 => ?_; simp only [zO, zT, acs, reduceCtorEq, aa, V, ad, ag, af, ae, Mly.av]; (repeat refine an ?_); (try refine .inl ?_); apply k0; clear k0; simp only [zP, V])
  refine am ?_
  apply k6; clear k6; refine kp [0, 1, 2, 4, 25] ?_
  refine aB ?_
  refine ⟨nr, _, rfl, ?_⟩; simp only [zF, zP, aa, V, Mly.av]
  refine VLE.of_eq ?_
  refine congrArg (fun n => AV.one (AC.int IntKind.i64 n)) ?_
  symm
  first
  | exact cH hc5
  | exact cG hc5.1 hc5.2 (j := j) (by omega) (by unfold bP; omega)
  | exact ly hc5.1 hc5.2 fun a ha => hcells a (by omega)
 (try simp only [zB, reduceCtorEq] at hc5)
 refine ax ?_
 apply k2; clear k2; refine kp [0, 1, 2, 4, 25] ?_
 refine ai fun _ k7 => ?_
 refine ai fun _ k8 => ?_
 refine ak hP hN rfl ?_
 (refine aj rfl fun _ k0 => ?_; simp only [zO, zT, acs, reduceCtorEq, aa, V, ad, ag, af, ae, Mly.av]; (repeat refine an ?_); (try refine .inl ?_); apply k0; clear k0; simp only [zP, V])
 refine am ?_
 apply k8; clear k8; refine kp [0, 1, 2, 4, 5, 25] ?_
 refine ay ?_
 refine bb (fun n9 s9 => ∃ (j : Nat), (∀ a, a < j → ¬ bP m s a) ∧ (j ≤ m.inp.toNat) ∧ n9 = m.inp.toNat - j ∧ s9 = { env := [(1, .one (.int .i64 (s : Int))), (2, .one (.ptr 0 0 0 0)), (5, .one (.int .i64 (j : Int)))], L := [.vars 24 [.int .i64 m.inp, .int .i64 m.st, .list (.list (.int .i64)) m.nx, .list (.list (.int .i64)) m.ot]] }) ?_ ?_
 ·exact ⟨_, _, aw [1, 2, 5], 0, fun i hi => by omega, Nat.zero_le _, rfl, rfl⟩
 rintro n9 s9 ⟨j, hcells, hj, rfl, rfl⟩
 refine ai fun _ k10 => ?_
 refine ai fun _ k11 => ?_
 refine ak hP hN rfl ?_
 iterate 4 (refine aj rfl fun _ k0 => ?_; simp only [zO, zT, acs, reduceCtorEq, aa, V, ad, ag, af, ae, Mly.av]; (repeat refine an ?_); (try refine .inl ?_); apply k0; clear k0; simp only [zP, V])
 refine am ?_
 apply k11; clear k11; refine kp [1, 2, 5, 29] ?_
 refine cd (fun hc12 => ?_) (fun hc12 => ?_)
 ·(try simp only [zB, reduceCtorEq] at hc12)
  refine ax ?_
  apply k10; clear k10; refine kp [1, 2, 5, 29] ?_
  refine ai fun _ k13 => ?_
  refine ay ?_
  refine ai fun _ k14 => ?_
  refine bp hP hN Try.mixed rfl ?_
  iterate 10 (refine aj rfl fun _ k0 => ?_; simp only [zO, zT, acs, reduceCtorEq, aa, V, ad, ag, af, ae, Mly.av]; (repeat refine an ?_); (try refine .inl ?_); apply k0; clear k0; simp only [zP, V])
  refine' aP (want := false) 12 rfl (m := 41) (by simp only [zP, aa, V]; exact rfl) (by kernel_rfl) rfl rfl rfl rfl rfl (fun hg15 => ?a15) ?b15 ?c15
  case a15 =>
   have hq15 := hg15; (try simp only [zB, reduceCtorEq] at hg15); simp only [zE]
   iterate 12 (refine bf rfl fun _ k0 => ?_; simp only [zO, zT, acs, reduceCtorEq, aa, V, ad, ag, af, ae, Mly.av]; (repeat refine an ?_); (try refine .inl ?_); apply k0; clear k0; simp only [zP, V])
   (refine aj rfl fun _ k0 => ?_; simp only [zO, zT, acs, reduceCtorEq, aa, V, ad, ag, af, ae, Mly.av]; (repeat refine an ?_); (try refine .inl ?_); apply k0; clear k0; simp only [zP, V])
   refine am ?_
   refine ⟨by simp only [zP, aa, V]; exact rfl, rfl, ?_, rfl⟩; (repeat refine aQ rfl ?_); exact bn (by exact rfl) hq15
  case b15 => exact cq
  simp only [b7, aT]
  (refine aj rfl fun _ k0 => ?_; simp only [zO, zT, acs, reduceCtorEq, aa, V, ad, ag, af, ae, Mly.av]; (repeat refine an ?_); (try refine .inl ?_); apply k0; clear k0; simp only [zP, V])
  refine' aP (want := false) 9 rfl (m := 55) (by simp only [zP, aa, V]; exact rfl) (by kernel_rfl) rfl rfl rfl rfl rfl (fun hg16 => ?a16) ?b16 ?c16
  case a16 =>
   have hq16 := hg16; (try simp only [zB, reduceCtorEq] at hg16); simp only [zE]
   iterate 9 (refine bf rfl fun _ k0 => ?_; simp only [zO, zT, acs, reduceCtorEq, aa, V, ad, ag, af, ae, Mly.av]; (repeat refine an ?_); (try refine .inl ?_); apply k0; clear k0; simp only [zP, V])
   (refine aj rfl fun _ k0 => ?_; simp only [zO, zT, acs, reduceCtorEq, aa, V, ad, ag, af, ae, Mly.av]; (repeat refine an ?_); (try refine .inl ?_); apply k0; clear k0; simp only [zP, V])
   refine am ?_
   refine ⟨by simp only [zP, aa, V]; exact rfl, rfl, ?_, rfl⟩; (repeat refine aQ rfl ?_); exact bn (by exact rfl) hq16
  case b16 => exact cq
  simp only [b7, aT]
  (refine aj rfl fun _ k0 => ?_; simp only [zO, zT, acs, reduceCtorEq, aa, V, ad, ag, af, ae, Mly.av]; (repeat refine an ?_); (try refine .inl ?_); apply k0; clear k0; simp only [zP, V])
  refine' aP (want := false) 9 rfl (m := 66) (by simp only [zP, aa, V]; exact rfl) (by kernel_rfl) rfl rfl rfl rfl rfl (fun hg17 => ?a17) ?b17 ?c17
  case a17 =>
   have hq17 := hg17; (try simp only [zB, reduceCtorEq] at hg17); simp only [zE]
   iterate 9 (refine bf rfl fun _ k0 => ?_; simp only [zO, zT, acs, reduceCtorEq, aa, V, ad, ag, af, ae, Mly.av]; (repeat refine an ?_); (try refine .inl ?_); apply k0; clear k0; simp only [zP, V])
   (refine aj rfl fun _ k0 => ?_; simp only [zO, zT, acs, reduceCtorEq, aa, V, ad, ag, af, ae, Mly.av]; (repeat refine an ?_); (try refine .inl ?_); apply k0; clear k0; simp only [zP, V])
   refine am ?_
   refine ⟨by simp only [zP, aa, V]; exact rfl, rfl, ?_, rfl⟩; (repeat refine aQ rfl ?_); exact bn (by exact rfl) hq17
  case b17 => exact cq
  simp only [b7, aT]
  refine am ?_
  refine ⟨by kernel_rfl, ?_⟩
  apply k14; clear k14; refine kp [1, 2, 5, 29, 76] ?_
  refine cd (fun hc18 => ?_) (fun hc18 => ?_)
  ·(try simp only [zB, reduceCtorEq] at hc18)
   refine ai fun _ k19 => ?_
   refine ak hP hN rfl ?_
   (refine aj rfl fun _ k0 => ?_; simp only [zO, zT, acs, reduceCtorEq, aa, V, ad, ag, af, ae, Mly.av]; (repeat refine an ?_); (try refine .inl ?_); apply k0; clear k0; simp only [zP, V])
   refine am ?_
   apply k19; clear k19; refine kp [1, 2, 4, 5, 29, 76] ?_
   refine aB ?_
   refine ⟨nr, _, rfl, ?_⟩; simp only [zF, zP, aa, V, Mly.av]
   refine VLE.of_eq ?_
   refine congrArg (fun n => AV.one (AC.int IntKind.i64 n)) ?_
   symm
   first
   | exact cH hc5
   | exact cG hc5.1 hc5.2 (j := j) (by omega) (by unfold bP; omega)
   | exact ly hc5.1 hc5.2 fun a ha => hcells a (by omega)
  (try simp only [zB, reduceCtorEq] at hc18)
  refine ax ?_
  apply k13; clear k13; refine kp [1, 2, 5, 29, 76] ?_
  refine ak hP hN rfl ?_
  iterate 3 (refine aj rfl fun _ k0 => ?_; simp only [zO, zT, acs, reduceCtorEq, aa, V, ad, ag, af, ae, Mly.av]; (repeat refine an ?_); (try refine .inl ?_); apply k0; clear k0; simp only [zP, V])
  refine am ?_
  refine ⟨_, _, ?_, aw [1, 2, 5], j + 1, fun a ha => ?_, ?_, rfl, rfl⟩
  · omega
  · by_cases e : a = j
    · rw [e]; unfold bP; omega
    · exact hcells a (by omega)
  · omega
 (try simp only [zB, reduceCtorEq] at hc12)
 refine aX ?_
 apply k7; clear k7; refine kp [1, 2, 5, 29] ?_
 refine ai fun _ k20 => ?_
 refine ak hP hN rfl ?_
 (refine aj rfl fun _ k0 => ?_; simp only [zO, zT, acs, reduceCtorEq, aa, V, ad, ag, af, ae, Mly.av]; (repeat refine an ?_); (try refine .inl ?_); apply k0; clear k0; simp only [zP, V])
 refine am ?_
 apply k20; clear k20; refine kp [1, 2, 4, 5, 29] ?_
 refine aB ?_
 refine ⟨nr, _, rfl, ?_⟩; simp only [zF, zP, aa, V, Mly.av]
 refine VLE.of_eq ?_
 refine congrArg (fun n => AV.one (AC.int IntKind.i64 n)) ?_
 symm
 first
 | exact cH hc5
 | exact cG hc5.1 hc5.2 (j := j) (by omega) (by unfold bP; omega)
 | exact ly hc5.1 hc5.2 fun a ha => hcells a (by omega)
theorem qC (m : Mly) : bZ Try.prog 43 [m.av] (.one (.int .i64 (aO m))) := by
 refine aU Try.func43 rfl (by kernel_rfl) (Nat.le_of_ble_eq_true rfl) rfl fun C hP hN hB => ?_
 replace hN : C.N = 52 := hN
 simp only [bg, V]
 refine ai fun _ k1 => ?_
 refine ak hP hN rfl ?_
 iterate 2 (refine aj rfl fun _ k0 => ?_; simp only [zO, zT, acs, reduceCtorEq, aa, V, ad, ag, af, ae, Mly.av]; (repeat refine an ?_); (try refine .inl ?_); apply k0; clear k0; simp only [zP, V])
 refine am ?_
 apply k1; clear k1; refine kp [0, 1, 2] ?_
 refine ai fun _ k2 => ?_
 refine ai fun _ k3 => ?_
 refine ak hP hN rfl ?_
 iterate 4 (refine aj rfl fun _ k0 => ?_; simp only [zO, zT, acs, reduceCtorEq, aa, V, ad, ag, af, ae, Mly.av]; (repeat refine an ?_); (try refine .inl ?_); apply k0; clear k0; simp only [zP, V])
 refine' aP (want := false) 3 rfl (m := 8) (by simp only [zP, aa, V]; exact rfl) (by kernel_rfl) rfl rfl rfl rfl rfl (fun hg4 => ?a4) ?b4 ?c4
 case a4 =>
  have hq4 := hg4; (try simp only [zB, reduceCtorEq] at hg4); simp only [zE]
  iterate 3 (refine bf rfl fun _ k0 => ?_; simp only [zO, zT, acs, reduceCtorEq, aa, V, ad, ag, af, ae, Mly.av]; (repeat refine an ?_); (try refine .inl ?_); apply k0; clear k0; simp only [zP, V])
  (refine aj rfl fun _ k0 => ?_; simp only [zO, zT, acs, reduceCtorEq, aa, V, ad, ag, af, ae, Mly.av]; (repeat refine an ?_); (try refine .inl ?_); apply k0; clear k0; simp only [zP, V])
  refine am ?_
  refine ⟨by simp only [zP, aa, V]; exact rfl, rfl, ?_, rfl⟩; (repeat refine aQ rfl ?_); exact bn (by exact rfl) hq4
 case b4 => exact cq
 simp only [b7, aT]
 refine am ?_
 apply k3; clear k3; refine kp [0, 1, 2, 12] ?_
 refine cd (fun hc5 => ?_) (fun hc5 => ?_)
 ·(try simp only [zB, reduceCtorEq] at hc5)
  refine ai fun _ k6 => ?_
  refine ak hP hN rfl ?_
  (refine aj rfl fun _ k0 => ?_; simp only [zO, zT, acs, reduceCtorEq, aa, V, ad, ag, af, ae, Mly.av]; (repeat refine an ?_); (try refine .inl ?_); apply k0; clear k0; simp only [zP, V])
  refine am ?_
  apply k6; clear k6; refine kp [0, 1, 2, 12] ?_
  refine aB ?_
  refine ⟨nr, _, rfl, ?_⟩; simp only [zF, zP, aa, V, Mly.av]
  refine VLE.of_eq ?_
  refine congrArg (fun n => AV.one (AC.int IntKind.i64 n)) ?_
  symm
  unfold aO
  first
  | (rw [if_pos (by omega)]; done)
  | (rw [if_neg (by omega), if_pos (by omega)]; done)
  | (rw [if_neg (by omega), if_neg (by omega), if_pos (by omega)]; done)
  | (rw [if_neg (by omega), if_neg (by omega), if_neg (by omega), if_pos (by omega)]; done)
  | (rw [if_neg (by omega), if_neg (by omega), if_neg (by omega), if_neg (by omega), if_pos (by omega)]; done)
  | (rw [if_neg (by omega), if_neg (by omega), if_neg (by omega), if_neg (by omega), if_neg (by omega)]
     first
     | exact cg hrows (by omega) (by assumption)
     | exact cj fun i hi => hrows i (by omega))
 (try simp only [zB, reduceCtorEq] at hc5)
 refine ax ?_
 apply k2; clear k2; refine kp [0, 1, 2, 12] ?_
 refine ai fun _ k7 => ?_
 refine ai fun _ k8 => ?_
 refine ak hP hN rfl ?_
 iterate 4 (refine aj rfl fun _ k0 => ?_; simp only [zO, zT, acs, reduceCtorEq, aa, V, ad, ag, af, ae, Mly.av]; (repeat refine an ?_); (try refine .inl ?_); apply k0; clear k0; simp only [zP, V])
 refine am ?_
 apply k8; clear k8; refine kp [0, 1, 2, 12, 16] ?_
 refine cd (fun hc9 => ?_) (fun hc9 => ?_)
 ·(try simp only [zB, reduceCtorEq] at hc9)
  refine ai fun _ k10 => ?_
  refine ak hP hN rfl ?_
  (refine aj rfl fun _ k0 => ?_; simp only [zO, zT, acs, reduceCtorEq, aa, V, ad, ag, af, ae, Mly.av]; (repeat refine an ?_); (try refine .inl ?_); apply k0; clear k0; simp only [zP, V])
  refine am ?_
  apply k10; clear k10; refine kp [0, 1, 2, 12, 16] ?_
  refine aB ?_
  refine ⟨nr, _, rfl, ?_⟩; simp only [zF, zP, aa, V, Mly.av]
  refine VLE.of_eq ?_
  refine congrArg (fun n => AV.one (AC.int IntKind.i64 n)) ?_
  symm
  unfold aO
  first
  | (rw [if_pos (by omega)]; done)
  | (rw [if_neg (by omega), if_pos (by omega)]; done)
  | (rw [if_neg (by omega), if_neg (by omega), if_pos (by omega)]; done)
  | (rw [if_neg (by omega), if_neg (by omega), if_neg (by omega), if_pos (by omega)]; done)
  | (rw [if_neg (by omega), if_neg (by omega), if_neg (by omega), if_neg (by omega), if_pos (by omega)]; done)
  | (rw [if_neg (by omega), if_neg (by omega), if_neg (by omega), if_neg (by omega), if_neg (by omega)]
     first
     | exact cg hrows (by omega) (by assumption)
     | exact cj fun i hi => hrows i (by omega))
 (try simp only [zB, reduceCtorEq] at hc9)
 refine ax ?_
 apply k7; clear k7; refine kp [0, 1, 2, 12, 16] ?_
 refine ai fun _ k11 => ?_
 refine ai fun _ k12 => ?_
 refine ak hP hN rfl ?_
 iterate 4 (refine aj rfl fun _ k0 => ?_; simp only [zO, zT, acs, reduceCtorEq, aa, V, ad, ag, af, ae, Mly.av]; (repeat refine an ?_); (try refine .inl ?_); apply k0; clear k0; simp only [zP, V])
 refine am ?_
 apply k12; clear k12; refine kp [0, 1, 2, 12, 16, 20] ?_
 refine cd (fun hc13 => ?_) (fun hc13 => ?_)
 ·(try simp only [zB, reduceCtorEq] at hc13)
  refine ai fun _ k14 => ?_
  refine ak hP hN rfl ?_
  (refine aj rfl fun _ k0 => ?_; simp only [zO, zT, acs, reduceCtorEq, aa, V, ad, ag, af, ae, Mly.av]; (repeat refine an ?_); (try refine .inl ?_); apply k0; clear k0; simp only [zP, V])
  refine am ?_
  apply k14; clear k14; refine kp [0, 1, 2, 12, 16, 20] ?_
  refine aB ?_
  refine ⟨nr, _, rfl, ?_⟩; simp only [zF, zP, aa, V, Mly.av]
  refine VLE.of_eq ?_
  refine congrArg (fun n => AV.one (AC.int IntKind.i64 n)) ?_
  symm
  unfold aO
  first
  | (rw [if_pos (by omega)]; done)
  | (rw [if_neg (by omega), if_pos (by omega)]; done)
  | (rw [if_neg (by omega), if_neg (by omega), if_pos (by omega)]; done)
  | (rw [if_neg (by omega), if_neg (by omega), if_neg (by omega), if_pos (by omega)]; done)
  | (rw [if_neg (by omega), if_neg (by omega), if_neg (by omega), if_neg (by omega), if_pos (by omega)]; done)
  | (rw [if_neg (by omega), if_neg (by omega), if_neg (by omega), if_neg (by omega), if_neg (by omega)]
     first
     | exact cg hrows (by omega) (by assumption)
     | exact cj fun i hi => hrows i (by omega))
 (try simp only [zB, reduceCtorEq] at hc13)
 refine ax ?_
 apply k11; clear k11; refine kp [0, 1, 2, 12, 16, 20] ?_
 refine ai fun _ k15 => ?_
 refine ai fun _ k16 => ?_
 refine ak hP hN rfl ?_
 iterate 4 (refine aj rfl fun _ k0 => ?_; simp only [zO, zT, acs, reduceCtorEq, aa, V, ad, ag, af, ae, Mly.av]; (repeat refine an ?_); (try refine .inl ?_); apply k0; clear k0; simp only [zP, V])
 refine' aP (want := false) 6 rfl (m := 24) (by simp only [zP, aa, V]; exact rfl) (by kernel_rfl) rfl rfl rfl rfl rfl (fun hg17 => ?a17) ?b17 ?c17
 case a17 =>
  have hq17 := hg17; (try simp only [zB, reduceCtorEq] at hg17); simp only [zE]
  iterate 6 (refine bf rfl fun _ k0 => ?_; simp only [zO, zT, acs, reduceCtorEq, aa, V, ad, ag, af, ae, Mly.av]; (repeat refine an ?_); (try refine .inl ?_); apply k0; clear k0; simp only [zP, V])
  (refine aj rfl fun _ k0 => ?_; simp only [zO, zT, acs, reduceCtorEq, aa, V, ad, ag, af, ae, Mly.av]; (repeat refine an ?_); (try refine .inl ?_); apply k0; clear k0; simp only [zP, V])
  refine am ?_
  refine ⟨by simp only [zP, aa, V]; exact rfl, rfl, ?_, rfl⟩; (repeat refine aQ rfl ?_); exact bn (by exact rfl) hq17
 case b17 => exact cq
 simp only [b7, aT]
 refine am ?_
 apply k16; clear k16; refine kp [0, 1, 2, 12, 16, 20, 31] ?_
 refine cd (fun hc18 => ?_) (fun hc18 => ?_)
 ·(try simp only [zB, reduceCtorEq] at hc18)
  refine ai fun _ k19 => ?_
  refine ak hP hN rfl ?_
  (refine aj rfl fun _ k0 => ?_; simp only [zO, zT, acs, reduceCtorEq, aa, V, ad, ag, af, ae, Mly.av]; (repeat refine an ?_); (try refine .inl ?_); apply k0; clear k0; simp only [zP, V])
  refine am ?_
  apply k19; clear k19; refine kp [0, 1, 2, 12, 16, 20, 31] ?_
  refine aB ?_
  refine ⟨nr, _, rfl, ?_⟩; simp only [zF, zP, aa, V, Mly.av]
  refine VLE.of_eq ?_
  refine congrArg (fun n => AV.one (AC.int IntKind.i64 n)) ?_
  symm
  unfold aO
  first
  | (rw [if_pos (by omega)]; done)
  | (rw [if_neg (by omega), if_pos (by omega)]; done)
  | (rw [if_neg (by omega), if_neg (by omega), if_pos (by omega)]; done)
  | (rw [if_neg (by omega), if_neg (by omega), if_neg (by omega), if_pos (by omega)]; done)
  | (rw [if_neg (by omega), if_neg (by omega), if_neg (by omega), if_neg (by omega), if_pos (by omega)]; done)
  | (rw [if_neg (by omega), if_neg (by omega), if_neg (by omega), if_neg (by omega), if_neg (by omega)]
     first
     | exact cg hrows (by omega) (by assumption)
     | exact cj fun i hi => hrows i (by omega))
 (try simp only [zB, reduceCtorEq] at hc18)
 refine ax ?_
 apply k15; clear k15; refine kp [0, 1, 2, 12, 16, 20, 31] ?_
 refine ai fun _ k20 => ?_
 refine ai fun _ k21 => ?_
 refine ak hP hN rfl ?_
 iterate 7 (refine aj rfl fun _ k0 => ?_; simp only [zO, zT, acs, reduceCtorEq, aa, V, ad, ag, af, ae, Mly.av]; (repeat refine an ?_); (try refine .inl ?_); apply k0; clear k0; simp only [zP, V])
 refine am ?_
 apply k21; clear k21; refine kp [0, 1, 2, 12, 16, 20, 31, 38] ?_
 refine cd (fun hc22 => ?_) (fun hc22 => ?_)
 ·(try simp only [zB, reduceCtorEq] at hc22)
  refine ai fun _ k23 => ?_
  refine ak hP hN rfl ?_
  (refine aj rfl fun _ k0 => ?_; simp only [zO, zT, acs, reduceCtorEq, aa, V, ad, ag, af, ae, Mly.av]; (repeat refine an ?_); (try refine .inl ?_); apply k0; clear k0; simp only [zP, V])
  refine am ?_
  apply k23; clear k23; refine kp [0, 1, 2, 12, 16, 20, 31, 38] ?_
  refine aB ?_
  refine ⟨nr, _, rfl, ?_⟩; simp only [zF, zP, aa, V, Mly.av]
  refine VLE.of_eq ?_
  refine congrArg (fun n => AV.one (AC.int IntKind.i64 n)) ?_
  symm
  unfold aO
  first
  | (rw [if_pos (by omega)]; done)
  | (rw [if_neg (by omega), if_pos (by omega)]; done)
  | (rw [if_neg (by omega), if_neg (by omega), if_pos (by omega)]; done)
  | (rw [if_neg (by omega), if_neg (by omega), if_neg (by omega), if_pos (by omega)]; done)
  | (rw [if_neg (by omega), if_neg (by omega), if_neg (by omega), if_neg (by omega), if_pos (by omega)]; done)
  | (rw [if_neg (by omega), if_neg (by omega), if_neg (by omega), if_neg (by omega), if_neg (by omega)]
     first
     | exact cg hrows (by omega) (by assumption)
     | exact cj fun i hi => hrows i (by omega))
 (try simp only [zB, reduceCtorEq] at hc22)
 refine ax ?_
 apply k20; clear k20; refine kp [0, 1, 2, 12, 16, 20, 31, 38] ?_
 refine ai fun _ k24 => ?_
 refine ai fun _ k25 => ?_
 refine ak hP hN rfl ?_
 (refine aj rfl fun _ k0 => ?_; simp only [zO, zT, acs, reduceCtorEq, aa, V, ad, ag, af, ae, Mly.av]; (repeat refine an ?_); (try refine .inl ?_); apply k0; clear k0; simp only [zP, V])
 refine am ?_
 apply k25; clear k25; refine kp [0, 1, 2, 3, 12, 16, 20, 31, 38] ?_
 refine ay ?_
 refine bb (fun n26 s26 => ∃ (k : Nat), (k ≤ m.nx.length) ∧ (∀ i, i < k → iv m i = 0) ∧ n26 = m.nx.length - k ∧ s26 = { env := [(1, .one (.ptr 0 0 0 0)), (3, .one (.int .i64 (k : Int)))], L := [.vars 24 [.int .i64 m.inp, .int .i64 m.st, .list (.list (.int .i64)) m.nx, .list (.list (.int .i64)) m.ot]] }) ?_ ?_
 ·exact ⟨_, _, aw [1, 3], 0, Nat.zero_le _, fun i hi => by omega, rfl, rfl⟩
 rintro n26 s26 ⟨k, hk, hrows, rfl, rfl⟩
 refine ai fun _ k27 => ?_
 refine ai fun _ k28 => ?_
 refine ak hP hN rfl ?_
 iterate 5 (refine aj rfl fun _ k0 => ?_; simp only [zO, zT, acs, reduceCtorEq, aa, V, ad, ag, af, ae, Mly.av]; (repeat refine an ?_); (try refine .inl ?_); apply k0; clear k0; simp only [zP, V])
 refine am ?_
 apply k28; clear k28; refine kp [1, 3, 43] ?_
 refine cd (fun hc29 => ?_) (fun hc29 => ?_)
 ·(try simp only [zB, reduceCtorEq] at hc29)
  refine ax ?_
  apply k27; clear k27; refine kp [1, 3, 43] ?_
  refine ai fun _ k30 => ?_
  refine ay ?_
  refine ai fun _ k31 => ?_
  refine ak hP hN rfl ?_
  iterate 2 (refine aj rfl fun _ k0 => ?_; simp only [zO, zT, acs, reduceCtorEq, aa, V, ad, ag, af, ae, Mly.av]; (repeat refine an ?_); (try refine .inl ?_); apply k0; clear k0; simp only [zP, V])
  refine aj rfl fun _ k0 => ?_
  refine aN (h := aA (Aw m k (by omega) (by omega) (by omega))) rfl rfl (by first | exact rfl | (simp only [ev, zP, aa, V]; exact rfl)) (by simp only [zV, acs, reduceCtorEq, aa, V, ad, ag, af, ae, Mly.av]) ?_
  apply k0; clear k0; simp only [zP, V]
  (refine aj rfl fun _ k0 => ?_; simp only [zO, zT, acs, reduceCtorEq, aa, V, ad, ag, af, ae, Mly.av]; (repeat refine an ?_); (try refine .inl ?_); apply k0; clear k0; simp only [zP, V])
  refine am ?_
  apply k31; clear k31; refine kp [1, 3, 4, 43] ?_
  refine ai fun _ k32 => ?_
  refine ak hP hN rfl ?_
  iterate 2 (refine aj rfl fun _ k0 => ?_; simp only [zO, zT, acs, reduceCtorEq, aa, V, ad, ag, af, ae, Mly.av]; (repeat refine an ?_); (try refine .inl ?_); apply k0; clear k0; simp only [zP, V])
  refine am ?_
  apply k32; clear k32; refine kp [1, 3, 4, 43, 50] ?_
  refine cd (fun hc33 => ?_) (fun hc33 => ?_)
  ·(try simp only [zB, reduceCtorEq] at hc33)
   refine ai fun _ k34 => ?_
   refine ak hP hN rfl ?_
   iterate 2 (refine aj rfl fun _ k0 => ?_; simp only [zO, zT, acs, reduceCtorEq, aa, V, ad, ag, af, ae, Mly.av]; (repeat refine an ?_); (try refine .inl ?_); apply k0; clear k0; simp only [zP, V])
   refine am ?_
   apply k34; clear k34; refine kp [1, 2, 3, 4, 43, 50] ?_
   refine aB ?_
   refine ⟨nr, _, rfl, ?_⟩; simp only [zF, zP, aa, V, Mly.av]
   refine VLE.of_eq ?_
   refine congrArg (fun n => AV.one (AC.int IntKind.i64 n)) ?_
   symm
   unfold aO
   first
   | (rw [if_pos (by omega)]; done)
   | (rw [if_neg (by omega), if_pos (by omega)]; done)
   | (rw [if_neg (by omega), if_neg (by omega), if_pos (by omega)]; done)
   | (rw [if_neg (by omega), if_neg (by omega), if_neg (by omega), if_pos (by omega)]; done)
   | (rw [if_neg (by omega), if_neg (by omega), if_neg (by omega), if_neg (by omega), if_pos (by omega)]; done)
   | (rw [if_neg (by omega), if_neg (by omega), if_neg (by omega), if_neg (by omega), if_neg (by omega)]
      first
      | exact cg hrows (by omega) (by assumption)
      | exact cj fun i hi => hrows i (by omega))
  (try simp only [zB, reduceCtorEq] at hc33)
  refine ax ?_
  apply k30; clear k30; refine kp [1, 3, 4, 43, 50] ?_
  refine ak hP hN rfl ?_
  iterate 3 (refine aj rfl fun _ k0 => ?_; simp only [zO, zT, acs, reduceCtorEq, aa, V, ad, ag, af, ae, Mly.av]; (repeat refine an ?_); (try refine .inl ?_); apply k0; clear k0; simp only [zP, V])
  refine am ?_
  refine ⟨_, _, ?_, aw [1, 3], k + 1, by omega, fun i hi => ?_, rfl, rfl⟩
  · omega
  · by_cases e : i = k
    · rw [e]; first | assumption | omega
    · exact hrows i (by omega)
 (try simp only [zB, reduceCtorEq] at hc29)
 refine aX ?_
 apply k24; clear k24; refine kp [1, 3, 43] ?_
 refine ai fun _ k35 => ?_
 refine ak hP hN rfl ?_
 (refine aj rfl fun _ k0 => ?_; simp only [zO, zT, acs, reduceCtorEq, aa, V, ad, ag, af, ae, Mly.av]; (repeat refine an ?_); (try refine .inl ?_); apply k0; clear k0; simp only [zP, V])
 refine am ?_
 apply k35; clear k35; refine kp [1, 2, 3, 43] ?_
 refine aB ?_
 refine ⟨nr, _, rfl, ?_⟩; simp only [zF, zP, aa, V, Mly.av]
 refine VLE.of_eq ?_
 refine congrArg (fun n => AV.one (AC.int IntKind.i64 n)) ?_
 symm
 unfold aO
 first
 | (rw [if_pos (by omega)]; done)
 | (rw [if_neg (by omega), if_pos (by omega)]; done)
 | (rw [if_neg (by omega), if_neg (by omega), if_pos (by omega)]; done)
 | (rw [if_neg (by omega), if_neg (by omega), if_neg (by omega), if_pos (by omega)]; done)
 | (rw [if_neg (by omega), if_neg (by omega), if_neg (by omega), if_neg (by omega), if_pos (by omega)]; done)
 | (rw [if_neg (by omega), if_neg (by omega), if_neg (by omega), if_neg (by omega), if_neg (by omega)]
    first
    | exact cg hrows (by omega) (by assumption)
    | exact cj fun i hi => hrows i (by omega))
theorem xk (m : Mly) : bZ Try.prog 87 [m.av, .one (.int .i64 (m.nx.length : Int))] (.tup [.one (.list (.int .i64) (if aO m = 0 then m.cls m.nx.length else [])), .one (.int .i64 (aO m))]) := by
 refine aU Try.func87 rfl (by kernel_rfl) (Nat.le_of_ble_eq_true rfl) rfl fun C hP hN hB => ?_
 replace hN : C.N = 34 := hN
 simp only [bg, V]
 refine ai fun _ k1 => ?_
 refine ak hP hN rfl ?_
 iterate 3 (refine aj rfl fun _ k0 => ?_; simp only [zO, zT, acs, reduceCtorEq, aa, V, ad, ag, af, ae, Mly.av, ah]; (repeat refine an ?_); (try refine .inl ?_); apply k0; clear k0; simp only [zP, V])
 refine am ?_
 apply k1; clear k1; refine kp [0, 1, 2, 4, 5] ?_
 refine ai fun _ k2 => ?_
 refine ai fun _ k3 => ?_
 refine ak hP hN rfl ?_
 (refine aj rfl fun _ k0 => ?_; simp only [zO, zT, acs, reduceCtorEq, aa, V, ad, ag, af, ae, Mly.av, ah]; (repeat refine an ?_); (try refine .inl ?_); apply k0; clear k0; simp only [zP, V])
 refine aj rfl fun _ k0 => ?_
 refine aN (h := aA (qC m)) rfl rfl (by first | exact rfl | (simp only [ev, zP, aa, V]; exact rfl)) (by simp only [zV, acs, reduceCtorEq, aa, V, ad, ag, af, ae, Mly.av, ah]) ?_
 apply k0; clear k0; simp only [zP, V]
 (refine aj rfl fun _ k0 => ?_; simp only [zO, zT, acs, reduceCtorEq, aa, V, ad, ag, af, ae, Mly.av, ah]; (repeat refine an ?_); (try refine .inl ?_); apply k0; clear k0; simp only [zP, V])
 refine am ?_
 apply k3; clear k3; refine kp [0, 1, 2, 4, 5, 6] ?_
 refine ai fun _ k4 => ?_
 refine ak hP hN rfl ?_
 iterate 2 (refine aj rfl fun _ k0 => ?_; simp only [zO, zT, acs, reduceCtorEq, aa, V, ad, ag, af, ae, Mly.av, ah]; (repeat refine an ?_); (try refine .inl ?_); apply k0; clear k0; simp only [zP, V])
 refine am ?_
 apply k4; clear k4; refine kp [0, 1, 2, 4, 5, 6, 12] ?_
 refine cd (fun hc5 => ?_) (fun hc5 => ?_)
 ·(try simp only [zB, reduceCtorEq] at hc5)
  have hv : ¬ aO m = 0 := hc5
  refine ai fun _ k6 => ?_
  refine ak hP hN rfl ?_
  iterate 3 (refine aj rfl fun _ k0 => ?_; simp only [zO, zT, acs, reduceCtorEq, aa, V, ad, ag, af, ae, Mly.av, ah]; (repeat refine an ?_); (try refine .inl ?_); apply k0; clear k0; simp only [zP, V])
  refine am ?_
  apply k6; clear k6; refine kp [0, 1, 2, 4, 5, 6, 12] ?_
  refine aB ?_
  refine ⟨nr, _, rfl, ?_⟩; simp only [zF, zP, aa, V, Mly.av, ah]
  first
  | (rw [if_neg hv]; exact cv ⟨aZ (bz rfl), aZ (.refl _), trivial⟩)
  | (rw [if_pos hv, hv, hke]; exact VLE.of_eq rfl)
 (try simp only [zB, reduceCtorEq] at hc5)
 have hv : aO m = 0 := by simpa using hc5
 have hm := fa hv
 have hn2 := hm.n2
 refine ax ?_
 apply k2; clear k2; refine kp [0, 1, 2, 4, 5, 6, 12] ?_
 refine ai fun _ k7 => ?_
 refine ak hP hN rfl ?_
 iterate 3 (refine aj rfl fun _ k0 => ?_; simp only [zO, zT, acs, reduceCtorEq, aa, V, ad, ag, af, ae, Mly.av, ah]; (repeat refine an ?_); (try refine .inl ?_); apply k0; clear k0; simp only [zP, V])
 (refine aj rfl fun _ k0 => ?_; simp only [zE, op1, ev, lkp, d5, bQ, cQ, br, Ty.size, Ty.dflt, reduceCtorEq, aa, V, ad, ag, af, ae, Try.el41, Try.td41, Mly.av, ah]; (repeat refine an ?_); refine Or.inr (Or.inr (k0 _ ?_)); clear k0; simp only [zP, V])
 (refine aj rfl fun _ k0 => ?_; simp only [zO, zT, acs, reduceCtorEq, aa, V, ad, ag, af, ae, Mly.av, ah]; (repeat refine an ?_); (try refine .inl ?_); apply k0; clear k0; simp only [zP, V])
 refine am ?_
 apply k7; clear k7; refine kp [0, 1, 2, 4, 5, 6, 7, 12] ?_
 refine ai fun _ k8 => ?_
 refine ai fun _ k9 => ?_
 refine ak hP hN rfl ?_
 (refine aj rfl fun _ k0 => ?_; simp only [zO, zT, acs, reduceCtorEq, aa, V, ad, ag, af, ae, Mly.av, ah]; (repeat refine an ?_); (try refine .inl ?_); apply k0; clear k0; simp only [zP, V])
 refine am ?_
 apply k9; clear k9; refine kp [0, 1, 2, 4, 5, 6, 7, 8, 12] ?_
 refine ay ?_
 refine bb (fun n10 s10 => ∃ (k : Nat), (k ≤ m.nx.length) ∧ n10 = m.nx.length - k ∧ s10 = { env := [(1, .one (.int .i64 (m.nx.length : Int))), (2, .one (.ptr 0 0 0 0)), (4, .one .nils), (5, .one (.int .i64 0)), (7, .one (.list (.int .i64) (m.cls k))), (8, .one (.int .i64 (k : Int)))], L := [.vars 24 [.int .i64 m.inp, .int .i64 m.st, .list (.list (.int .i64)) m.nx, .list (.list (.int .i64)) m.ot]] }) ?_ ?_
 ·exact ⟨_, _, aw [1, 2, 4, 5, 7, 8], 0, Nat.zero_le _, rfl, rfl⟩
 rintro n10 s10 ⟨k, hk, rfl, rfl⟩
 refine ai fun _ k11 => ?_
 refine ai fun _ k12 => ?_
 refine ak hP hN rfl ?_
 iterate 4 (refine aj rfl fun _ k0 => ?_; simp only [zO, zT, acs, reduceCtorEq, aa, V, ad, ag, af, ae, Mly.av, ah]; (repeat refine an ?_); (try refine .inl ?_); apply k0; clear k0; simp only [zP, V])
 refine' aP (want := true) 5 rfl (m := 21) (by simp only [zP, aa, V]; exact rfl) (by kernel_rfl) rfl rfl rfl rfl rfl (fun hg13 => ?a13) ?b13 ?c13
 case a13 =>
  have hq13 := hg13; (try simp only [zB, reduceCtorEq] at hg13); simp only [zE]
  iterate 5 (refine bf rfl fun _ k0 => ?_; simp only [zO, zT, acs, reduceCtorEq, aa, V, ad, ag, af, ae, Mly.av, ah]; (repeat refine an ?_); (try refine .inl ?_); apply k0; clear k0; simp only [zP, V])
  (refine aj rfl fun _ k0 => ?_; simp only [zO, zT, acs, reduceCtorEq, aa, V, ad, ag, af, ae, Mly.av, ah]; (repeat refine an ?_); (try refine .inl ?_); apply k0; clear k0; simp only [zP, V])
  refine am ?_
  refine ⟨by simp only [zP, aa, V]; exact rfl, rfl, ?_, rfl⟩; (repeat refine aQ rfl ?_); exact bn (by exact rfl) hq13
 case b13 => exact cq
 simp only [b7, aT]
 refine am ?_
 apply k12; clear k12; refine kp [1, 2, 4, 5, 7, 8, 27] ?_
 refine cd (fun hc14 => ?_) (fun hc14 => ?_)
 ·(try simp only [zB, reduceCtorEq] at hc14)
  refine ax ?_
  apply k11; clear k11; refine kp [1, 2, 4, 5, 7, 8, 27] ?_
  refine ai fun _ k15 => ?_
  refine ay ?_
  refine ak hP hN rfl ?_
  iterate 2 (refine aj rfl fun _ k0 => ?_; simp only [zO, zT, acs, reduceCtorEq, aa, V, ad, ag, af, ae, Mly.av, ah]; (repeat refine an ?_); (try refine .inl ?_); apply k0; clear k0; simp only [zP, V])
  refine aj rfl fun _ k0 => ?_
  refine aN (h := aA (z7 m k hm)) rfl rfl (by first | exact rfl | (simp only [ev, zP, aa, V]; exact rfl)) (by simp only [zV, acs, reduceCtorEq, aa, V, ad, ag, af, ae, Mly.av, ah]) ?_
  apply k0; clear k0; simp only [zP, V]
  (refine aj rfl fun _ k0 => ?_; simp only [zO, zT, acs, reduceCtorEq, aa, V, ad, ag, af, ae, Mly.av, ah]; (repeat refine an ?_); (try refine .inl ?_); apply k0; clear k0; simp only [zP, V])
  refine am ?_
  apply k15; clear k15; refine kp [1, 2, 4, 5, 7, 8, 27] ?_
  refine ak hP hN rfl ?_
  iterate 3 (refine aj rfl fun _ k0 => ?_; simp only [zO, zT, acs, reduceCtorEq, aa, V, ad, ag, af, ae, Mly.av, ah]; (repeat refine an ?_); (try refine .inl ?_); apply k0; clear k0; simp only [zP, V])
  refine am ?_
  refine ⟨_, _, ?_, aw [1, 2, 4, 5, 7, 8], k + 1, by omega, rfl, rfl⟩
  omega
 (try simp only [zB, reduceCtorEq] at hc14)
 have hke : k = m.nx.length := by omega
 refine aX ?_
 apply k8; clear k8; refine kp [1, 2, 4, 5, 7, 8, 27] ?_
 refine ai fun _ k16 => ?_
 refine ak hP hN rfl ?_
 iterate 3 (refine aj rfl fun _ k0 => ?_; simp only [zO, zT, acs, reduceCtorEq, aa, V, ad, ag, af, ae, Mly.av, ah]; (repeat refine an ?_); (try refine .inl ?_); apply k0; clear k0; simp only [zP, V])
 refine am ?_
 apply k16; clear k16; refine kp [1, 2, 4, 5, 7, 8, 27] ?_
 refine aB ?_
 refine ⟨nr, _, rfl, ?_⟩; simp only [zF, zP, aa, V, Mly.av, ah]
 first
 | (rw [if_neg hv]; exact cv ⟨aZ (bz rfl), aZ (.refl _), trivial⟩)
 | (rw [if_pos hv, hv, hke]; exact VLE.of_eq rfl)
theorem z3 (m : Mly) : bZ Try.prog 78 [m.av] (.tup [.one (.list (.int .i64) (if aO m = 0 then m.cls m.nx.length else [])), .one (.int .i64 (aO m))]) := by
 refine aU Try.func78 rfl (by kernel_rfl) (Nat.le_of_ble_eq_true rfl) rfl fun C hP hN hB => ?_
 replace hN : C.N = 11 := hN
 simp only [bg, V]
 refine ai fun _ k1 => ?_
 refine ak hP hN rfl ?_
 iterate 3 (refine aj rfl fun _ k0 => ?_; simp only [zO, zT, acs, reduceCtorEq, aa, V, ad, ag, af, ae, Mly.av]; (repeat refine an ?_); (try refine .inl ?_); apply k0; clear k0; simp only [zP, V])
 refine am ?_
 apply k1; clear k1; refine kp [0, 1, 2, 3] ?_
 refine ai fun _ k2 => ?_
 refine ak hP hN rfl ?_
 iterate 4 (refine aj rfl fun _ k0 => ?_; simp only [zO, zT, acs, reduceCtorEq, aa, V, ad, ag, af, ae, Mly.av]; (repeat refine an ?_); (try refine .inl ?_); apply k0; clear k0; simp only [zP, V])
 refine aj rfl fun _ k0 => ?_
 refine aN (h := aA (xk m)) rfl rfl (by first | exact rfl | (simp only [ev, zP, aa, V]; exact rfl)) (by simp only [zV, acs, reduceCtorEq, aa, V, ad, ag, af, ae, Mly.av]) ?_
 apply k0; clear k0; simp only [zP, V]
 iterate 4 (refine aj rfl fun _ k0 => ?_; simp only [zO, zT, acs, reduceCtorEq, aa, V, ad, ag, af, ae, Mly.av]; (repeat refine an ?_); (try refine .inl ?_); apply k0; clear k0; simp only [zP, V])
 refine am ?_
 apply k2; clear k2; refine kp [0, 1, 2, 3] ?_
 refine aB ?_
 refine ⟨nr, _, rfl, ?_⟩; simp only [zF, zP, aa, V, Mly.av]
 refine VLE.of_eq ?_
 rfl
set_option maxHeartbeats 2500000 in
theorem tR (m : Mly) : bZ Try.prog 63 [m.av] (.tup [if aO m = 0 then .agg [.int .i64 m.inp, .int .i64 0, .list (.list (.int .i64)) (mmF m).2, .junk] else Mly.av ⟨0, 0, [], []⟩, .one (.int .i64 (aO m))]) := by
 refine aU Try.func63 rfl (by kernel_rfl) (Nat.le_of_ble_eq_true rfl) rfl fun C hP hN hB => ?_
 replace hN : C.N = 130 := hN
 simp only [bg, V]
 refine ai fun _ k1 => ?_
 refine ak hP hN rfl ?_
 iterate 3 (refine aj rfl fun _ k0 => ?_; simp only [zO, zT, acs, reduceCtorEq, aa, V, ad, ag, af, ae, Mly.av, ah, bt]; (repeat refine an ?_); (try refine .inl ?_); apply k0; clear k0; simp only [zP, V])
 refine am ?_
 apply k1; clear k1; refine kp [0, 1, 2, 3] ?_
 refine ai fun _ k2 => ?_
 refine ak hP hN rfl ?_
 (refine aj rfl fun _ k0 => ?_; simp only [zO, zT, acs, reduceCtorEq, aa, V, ad, ag, af, ae, Mly.av, ah, bt]; (repeat refine an ?_); (try refine .inl ?_); apply k0; clear k0; simp only [zP, V])
 refine aj rfl fun _ k0 => ?_
 refine aN (h := aA (z3 m)) rfl rfl (by first | exact rfl | (simp only [ev, zP, aa, V]; exact rfl)) (by simp only [zV, acs, reduceCtorEq, aa, V, ad, ag, af, ae, Mly.av, ah, bt]) ?_
 apply k0; clear k0; simp only [zP, V]
 iterate 5 (refine aj rfl fun _ k0 => ?_; simp only [zO, zT, acs, reduceCtorEq, aa, V, ad, ag, af, ae, Mly.av, ah, bt]; (repeat refine an ?_); (try refine .inl ?_); apply k0; clear k0; simp only [zP, V])
 refine am ?_
 apply k2; clear k2; refine kp [0, 1, 2, 3, 4, 5] ?_
 refine ai fun _ k3 => ?_
 refine ai fun _ k4 => ?_
 refine ak hP hN rfl ?_
 iterate 2 (refine aj rfl fun _ k0 => ?_; simp only [zO, zT, acs, reduceCtorEq, aa, V, ad, ag, af, ae, Mly.av, ah, bt]; (repeat refine an ?_); (try refine .inl ?_); apply k0; clear k0; simp only [zP, V])
 refine am ?_
 apply k4; clear k4; refine kp [0, 1, 2, 3, 4, 5, 21] ?_
 refine cd (fun hc5 => ?_) (fun hc5 => ?_)
 ·(try simp only [zB, reduceCtorEq] at hc5)
  have hv : ¬ aO m = 0 := hc5
  refine ai fun _ k6 => ?_
  refine ak hP hN rfl ?_
  iterate 4 (refine aj rfl fun _ k0 => ?_; simp only [zO, zT, acs, reduceCtorEq, aa, V, ad, ag, af, ae, Mly.av, ah, bt]; (repeat refine an ?_); (try refine .inl ?_); apply k0; clear k0; simp only [zP, V])
  refine am ?_
  apply k6; clear k6; refine kp [0, 1, 2, 3, 4, 5, 21] ?_
  refine aB ?_
  refine ⟨nr, _, rfl, ?_⟩; simp only [zF, zP, aa, V, Mly.av, ah, bt]
  first
  | (rw [if_neg hv]; exact cv ⟨dq ⟨.refl _, .refl _, bz rfl, bz rfl, trivial⟩, aZ (.refl _), trivial⟩)
  | (rw [if_pos hv, hv, ← hRX]; exact cv ⟨dq ⟨.refl _, .refl _, .refl _, fun C L σ w u hu => ⟨hu.1, trivial⟩, trivial⟩, aZ (.refl _), trivial⟩)
 (try simp only [zB, reduceCtorEq] at hc5)
 have hv : aO m = 0 := by simpa using hc5
 have hm := fa hv
 have hi1 := hm.i1; have hi2 := hm.i2; have hn1 := hm.n1; have hn2 := hm.n2; have hs1 := hm.s1; have hs2 := hm.s2; have ol := hm.ol
 have hcl := jJ m m.nx.length
 refine sK 4 (v' := .one (.list (.int .i64) (m.cls m.nx.length))) rfl (VLE.of_eq (by show AV.one (.list (.int .i64) (if aO m = 0 then m.cls m.nx.length else [])) = _; rw [if_pos hv])) ?_
 refine ax ?_
 apply k3; clear k3; refine kp [0, 1, 2, 3, 4, 5, 21] ?_
 refine ai fun _ k7 => ?_
 refine ak hP hN rfl ?_
 iterate 2 (refine aj rfl fun _ k0 => ?_; simp only [zO, zT, acs, reduceCtorEq, aa, V, ad, ag, af, ae, Mly.av, ah, bt]; (repeat refine an ?_); (try refine .inl ?_); apply k0; clear k0; simp only [zP, V])
 (refine aj rfl fun _ k0 => ?_; simp only [zO, zT, acs, reduceCtorEq, aa, V, ad, ag, af, ae, Mly.av, ah, bt]; (repeat refine an ?_); refine Or.inr (Or.inl (k0 _ ?_)); clear k0; simp only [zP, V])
 (refine aj rfl fun _ k0 => ?_; simp only [zO, zT, acs, reduceCtorEq, aa, V, ad, ag, af, ae, Mly.av, ah, bt]; (repeat refine an ?_); (try refine .inl ?_); apply k0; clear k0; simp only [zP, V])
 refine am ?_
 apply k7; clear k7; refine kp [0, 1, 2, 3, 4, 5, 6, 21] ?_
 refine ai fun _ k8 => ?_
 refine ak hP hN rfl ?_
 iterate 3 (refine aj rfl fun _ k0 => ?_; simp only [zO, zT, acs, reduceCtorEq, aa, V, ad, ag, af, ae, Mly.av, ah, bt]; (repeat refine an ?_); (try refine .inl ?_); apply k0; clear k0; simp only [zP, V])
 (refine aj rfl fun _ k0 => ?_; simp only [zE, op1, ev, lkp, d5, bQ, bM, d4, Nat.mul_one, bS, cI, acs, Ty.dflt, zG, bY, cr, fo, ew, cK, d7, eE, Nat.div_one, cR, df, Ty.size, br, dite_true, cQ, reduceCtorEq, aa, V, ad, ag, af, ae, Try.el22, Try.el41, Try.st24, Try.td2, Try.td22, Try.td24, Try.td3, Try.td41, Mly.av, ah, bt]; (repeat refine an ?_); (try refine .inl ?_); apply k0; clear k0; simp only [zP, V])
 (refine aj rfl fun _ k0 => ?_; simp only [zO, zT, acs, reduceCtorEq, aa, V, ad, ag, af, ae, Mly.av, ah, bt]; (repeat refine an ?_); (try refine .inl ?_); apply k0; clear k0; simp only [zP, V])
 refine am ?_
 apply k8; clear k8; refine kp [0, 1, 2, 3, 4, 5, 6, 7, 21] ?_
 refine ai fun _ k9 => ?_
 refine ai fun _ k10 => ?_
 refine ak hP hN rfl ?_
 (refine aj rfl fun _ k0 => ?_; simp only [zO, zT, acs, reduceCtorEq, aa, V, ad, ag, af, ae, Mly.av, ah, bt]; (repeat refine an ?_); (try refine .inl ?_); apply k0; clear k0; simp only [zP, V])
 refine am ?_
 apply k10; clear k10; refine kp [0, 1, 2, 3, 4, 5, 6, 7, 8, 21] ?_
 refine ay ?_
 refine bb (fun n11 s11 => ∃ (k : Nat), (k ≤ m.nx.length) ∧ n11 = m.nx.length - k ∧ s11 = { env := [(1, .one (.ptr 0 0 0 0)), (2, .one (.ptr 1 0 0 0)), (3, .one (.int .i64 0)), (4, .one (.list (.int .i64) (m.cls m.nx.length))), (6, .one (.row 2 0)), (7, .one (.row 3 0)), (8, .one (.int .i64 (k : Int)))], L := [.vars 24 [.int .i64 m.inp, .int .i64 m.st, .list (.list (.int .i64)) m.nx, .list (.list (.int .i64)) m.ot], .vars 24 [.int .i64 0, .int .i64 0, .nils, .nils], .row (.int .i64) 3 0 [m.st], .row (.int .i64) 3 0 (prL (fun _ => -1) m.nx.length k 0)] }) ?_ ?_
 ·refine ⟨_, _, aw [1, 2, 3, 4, 6, 7, 8], 0, Nat.zero_le _, rfl, ?_⟩
  rw [yh]; rfl
 rintro n11 s11 ⟨k, hk, rfl, rfl⟩
 refine ai fun _ k12 => ?_
 refine ai fun _ k13 => ?_
 refine ak hP hN rfl ?_
 iterate 4 (refine aj rfl fun _ k0 => ?_; simp only [zO, zT, acs, reduceCtorEq, aa, V, ad, ag, af, ae, Mly.av, ah, bt, oh]; (repeat refine an ?_); (try refine .inl ?_); apply k0; clear k0; simp only [zP, V])
 refine am ?_
 apply k13; clear k13; refine kp [1, 2, 3, 4, 6, 7, 8, 34] ?_
 refine cd (fun hc14 => ?_) (fun hc14 => ?_)
 ·(try simp only [zB, reduceCtorEq] at hc14)
  refine ax ?_
  apply k12; clear k12; refine kp [1, 2, 3, 4, 6, 7, 8, 34] ?_
  refine ai fun _ k15 => ?_
  refine ay ?_
  have hp9 := uh (f := fun _ => (-1 : Int)) (n := m.nx.length) (s := k) (by omega)
  refine ak hP hN rfl ?_
  iterate 4 (refine aj rfl fun _ k0 => ?_; simp only [zO, zT, acs, reduceCtorEq, aa, V, ad, ag, af, ae, Mly.av, ah, bt, oh]; (repeat refine an ?_); (try refine .inl ?_); apply k0; clear k0; simp only [zP, V])
  refine am ?_
  apply k15; clear k15; refine kp [1, 2, 3, 4, 6, 7, 8, 34] ?_
  refine ak hP hN rfl ?_
  iterate 3 (refine aj rfl fun _ k0 => ?_; simp only [zO, zT, acs, reduceCtorEq, aa, V, ad, ag, af, ae, Mly.av, ah, bt]; (repeat refine an ?_); (try refine .inl ?_); apply k0; clear k0; simp only [zP, V])
  refine am ?_
  refine ⟨_, _, ?_, aw [1, 2, 3, 4, 6, 7, 8], k + 1, by omega, rfl, ?_⟩
  · omega
  · rw [hp9, ← qA]; rfl
 (try simp only [zB, reduceCtorEq] at hc14)
 refine aX ?_
 apply k9; clear k9; refine kp [1, 2, 3, 4, 6, 7, 8, 34] ?_
 refine ai fun _ k16 => ?_
 have hc0 : 0 ≤ (m.cls m.nx.length).getD m.st.toNat 0 ∧ (m.cls m.nx.length).getD m.st.toNat 0 < m.nx.length := tH hm ⟨hs1, hs2⟩
 have hke : k = m.nx.length := by omega
 have hset0 : (fW m []).set ((m.cls m.nx.length).getD m.st.toNat 0).toNat 0 = fW m [m.st] := r7 (m := m) (O := []) (t := m.st) (c := ((m.cls m.nx.length).getD m.st.toNat 0).toNat) (by omega) (by show (m.cls m.nx.length).getD m.st.toNat 0 = _; omega) (by show (-1 : Int) < 0; omega)
 rw [hke, tA, show (List.range m.nx.length).map (fun _ => (-1 : Int)) = fW m [] by rw [xm]; simp [List.map_const']]
 refine ak hP hN rfl ?_
 iterate 8 (refine aj rfl fun _ k0 => ?_; simp only [zO, zT, acs, reduceCtorEq, aa, V, ad, ag, af, ae, Mly.av, ah, bt]; (repeat refine an ?_); (try refine .inl ?_); apply k0; clear k0; simp only [zP, V, hset0])
 refine am ?_
 apply k16; clear k16; refine kp [1, 2, 3, 4, 6, 7, 8, 34] ?_
 refine ai fun _ k17 => ?_
 refine ak hP hN rfl ?_
 iterate 5 (refine aj rfl fun _ k0 => ?_; simp only [zO, zT, acs, reduceCtorEq, aa, V, ad, ag, af, ae, Mly.av, ah, bt]; (repeat refine an ?_); (try refine .inl ?_); apply k0; clear k0; simp only [zP, V])
 refine am ?_
 apply k17; clear k17; refine kp [1, 2, 3, 4, 6, 7, 8, 9, 34] ?_
 refine ai fun _ k18 => ?_
 refine ai fun _ k19 => ?_
 refine ak hP hN rfl ?_
 (refine aj rfl fun _ k0 => ?_; simp only [zO, zT, acs, reduceCtorEq, aa, V, ad, ag, af, ae, Mly.av, ah, bt]; (repeat refine an ?_); (try refine .inl ?_); apply k0; clear k0; simp only [zP, V])
 refine am ?_
 apply k19; clear k19; refine kp [1, 2, 3, 4, 6, 7, 8, 9, 10, 34] ?_
 refine ay ?_
 refine eF 4 2 (.list (.int .i64)) 41 (by decide) rfl rfl ?_; simp only [zS, au, aE, aM, ba, Nat.zero_add, V]
 refine eF 4 3 (.list (.int .i64)) 41 (by decide) rfl rfl ?_; simp only [zS, au, aE, aM, ba, Nat.zero_add, V]
 refine bb (fun n20 s20 => ∃ (i v y z : Nat) (O : List Int) (RX RY : Bj), (i ≤ O.length) ∧ (MO m O) ∧ (RX.length = i ∧ RY.length = i) ∧ (nI m (m.nx.length + 1 - i) i (O, RX) = mmF m) ∧ n20 = m.nx.length + 1 - i ∧ s20 = { env := [(1, .one (.ptr 0 0 0 0)), (2, .one (.ptr 1 0 0 0)), (3, .one (.int .i64 0)), (4, .one (.list (.int .i64) (m.cls m.nx.length))), (6, .one (.row 2 v)), (7, .one (.row 3 0)), (9, .one (.ptr 4 0 0 0)), (10, .one (.int .i64 (i : Int)))], L := [.vars 24 [.int .i64 m.inp, .int .i64 m.st, .list (.list (.int .i64)) m.nx, .list (.list (.int .i64)) m.ot], .vars 24 [.int .i64 0, .int .i64 0, .nils, .nils], .row (.int .i64) 3 v O, .row (.int .i64) 3 0 (fW m O), .vars 24 [.int .i64 m.inp, .int .i64 0, .row 5 y, .row 6 z], .row (.list (.int .i64)) 41 y RX, .row (.list (.int .i64)) 41 z RY] }) ?_ ?_
 ·exact ⟨_, _, aw [1, 2, 3, 4, 6, 7, 9, 10], 0, 0, 0, 0, [m.st], [], [], Nat.zero_le _, ⟨fun o ho => by rw [List.mem_singleton] at ho; rw [ho]; exact ⟨hs1, hs2⟩, List.pairwise_singleton _ _⟩, ⟨rfl, rfl⟩, rfl, rfl, rfl⟩
 rintro n20 s20 ⟨i, v, y, z, O, RX, RY, hi, hO, hRl0, hgo, rfl, rfl⟩
 refine ai fun _ k21 => ?_
 refine ai fun _ k22 => ?_
 refine ak hP hN rfl ?_
 iterate 4 (refine aj rfl fun _ k0 => ?_; simp only [zO, zT, acs, reduceCtorEq, aa, V, ad, ag, af, ae, Mly.av, ah, bt]; (repeat refine an ?_); (try refine .inl ?_); apply k0; clear k0; simp only [zP, V])
 refine am ?_
 apply k22; clear k22; refine kp [1, 2, 3, 4, 6, 7, 9, 10, 53] ?_
 refine cd (fun hc23 => ?_) (fun hc23 => ?_)
 ·(try simp only [zB, reduceCtorEq] at hc23)
  refine ax ?_
  apply k21; clear k21; refine kp [1, 2, 3, 4, 6, 7, 9, 10, 53] ?_
  refine ai fun _ k24 => ?_
  refine ay ?_
  refine ai fun _ k25 => ?_
  have hil : i < O.length := by omega
  have hxr := hO.rng _ (bm hil)
  have hOl := hO.len
  refine ak hP hN rfl ?_
  iterate 2 (refine aj rfl fun _ k0 => ?_; simp only [zO, zT, acs, reduceCtorEq, aa, V, ad, ag, af, ae, Mly.av, ah, bt]; (repeat refine an ?_); (try refine .inl ?_); apply k0; clear k0; simp only [zP, V])
  refine am ?_
  apply k25; clear k25; refine kp [1, 2, 3, 4, 6, 7, 9, 10, 11, 12, 53] ?_
  refine ai fun _ k26 => ?_
  refine ai fun _ k27 => ?_
  refine ak hP hN rfl ?_
  (refine aj rfl fun _ k0 => ?_; simp only [zO, zT, acs, reduceCtorEq, aa, V, ad, ag, af, ae, Mly.av, ah, bt]; (repeat refine an ?_); (try refine .inl ?_); apply k0; clear k0; simp only [zP, V])
  refine am ?_
  apply k27; clear k27; refine kp [1, 2, 3, 4, 6, 7, 9, 10, 11, 12, 13, 53] ?_
  refine ay ?_
  refine fM 11 (.int .i64) 3 (by decide) rfl ?_; simp only [au, aE, aM, ba, Nat.zero_add, V]
  refine fM 12 (.int .i64) 3 (by decide) rfl ?_; simp only [au, aE, aM, ba, Nat.zero_add, V]
  refine bb (fun n28 s28 => ∃ (a v2 w1 w2 : Nat) (RO : List Int), ((a : Int) ≤ m.inp) ∧ (RO.length = a) ∧ n28 = m.inp.toNat - a ∧ s28 = { env := [(1, .one (.ptr 0 0 0 0)), (2, .one (.ptr 1 0 0 0)), (3, .one (.int .i64 0)), (4, .one (.list (.int .i64) (m.cls m.nx.length))), (6, .one (.row 2 v2)), (7, .one (.row 3 0)), (9, .one (.ptr 4 0 0 0)), (10, .one (.int .i64 (i : Int))), (11, .one (.row 7 w1)), (12, .one (.row 8 w2)), (13, .one (.int .i64 (a : Int))), (53, .one (.bool true))], L := [.vars 24 [.int .i64 m.inp, .int .i64 m.st, .list (.list (.int .i64)) m.nx, .list (.list (.int .i64)) m.ot], .vars 24 [.int .i64 0, .int .i64 0, .nils, .nils], .row (.int .i64) 3 v2 (cJ m (O.getD i 0) O a).1, .row (.int .i64) 3 0 (fW m (cJ m (O.getD i 0) O a).1), .vars 24 [.int .i64 m.inp, .int .i64 0, .row 5 y, .row 6 z], .row (.list (.int .i64)) 41 y RX, .row (.list (.int .i64)) 41 z RY, .row (.int .i64) 3 w1 (cJ m (O.getD i 0) O a).2, .row (.int .i64) 3 w2 RO] }) ?_ ?_
  ·refine ⟨_, _, aw [1, 2, 3, 4, 6, 7, 9, 10, 11, 12, 13, 53], 0, v, 0, 0, [], by omega, rfl, rfl, ?_⟩
   rw [decide_eq_true (show (i : Int) < (O.length : Int) by omega)]; rfl
  rintro n28 s28 ⟨a, v2, w1, w2, RO, ha, hRO, rfl, rfl⟩
  refine ai fun _ k29 => ?_
  refine ai fun _ k30 => ?_
  refine ak hP hN rfl ?_
  iterate 4 (refine aj rfl fun _ k0 => ?_; simp only [zO, zT, acs, reduceCtorEq, aa, V, ad, ag, af, ae, Mly.av, ah, bt]; (repeat refine an ?_); (try refine .inl ?_); apply k0; clear k0; simp only [zP, V])
  refine am ?_
  apply k30; clear k30; refine kp [1, 2, 3, 4, 6, 7, 9, 10, 11, 12, 13, 53, 59] ?_
  refine cd (fun hc31 => ?_) (fun hc31 => ?_)
  ·(try simp only [zB, reduceCtorEq] at hc31)
   refine ax ?_
   apply k29; clear k29; refine kp [1, 2, 3, 4, 6, 7, 9, 10, 11, 12, 13, 53, 59] ?_
   refine ai fun _ k32 => ?_
   refine ay ?_
   refine ai fun _ k33 => ?_
   obtain ⟨hR1, hR2, rr, hR3⟩ := jP hm hxr hO a (by omega)
   have hRl := hR1.len
   have hgx : (cJ m (O.getD i 0) O a).1.getD i 0 = (O.getD i 0) := by rw [hR3]; simp [List.getD, List.getElem?_append_left hil]
   have hil2 : i < (cJ m (O.getD i 0) O a).1.length := by rw [hR3, aq]; omega
   have q1 := hm.rl (O.getD i 0).toNat (by omega)
   have hnr := hm.nr (O.getD i 0).toNat a (by omega) (by omega)
   have hct : 0 ≤ (m.cls m.nx.length).getD ((m.nx.getD (O.getD i 0).toNat []).getD a 0).toNat 0 ∧ (m.cls m.nx.length).getD ((m.nx.getD (O.getD i 0).toNat []).getD a 0).toNat 0 < m.nx.length := tH hm (t := (m.nxt (O.getD i 0) (a : Int))) hnr
   have hgn : ∀ Z, (fW m Z).getD ((m.cls m.nx.length).getD ((m.nx.getD (O.getD i 0).toNat []).getD a 0).toNat 0).toNat 0 = nmO m Z (cAt m (m.nxt (O.getD i 0) (a : Int))) := fun Z => (x6 (by omega)).trans (congrArg (nmO m Z) (by show _ = (m.cls m.nx.length).getD ((m.nx.getD (O.getD i 0).toNat []).getD a 0).toNat 0; omega))
   refine bp hP hN Try.mixed rfl ?_
   iterate 12 (refine aj rfl fun _ k0 => ?_; simp only [zO, zT, acs, reduceCtorEq, aa, V, ad, ag, af, ae, Mly.av, ah, bt, hgx]; (repeat refine an ?_); (try refine .inl ?_); apply k0; clear k0; simp only [zP, V])
   refine am ?_
   refine ⟨by kernel_rfl, ?_⟩
   apply k33; clear k33; refine kp [1, 2, 3, 4, 6, 7, 9, 10, 11, 12, 13, 14, 53, 59] ?_
   refine ai fun _ k34 => ?_
   refine ai fun _ k35 => ?_
   refine ak hP hN rfl ?_
   iterate 8 (refine aj rfl fun _ k0 => ?_; simp only [zO, zT, acs, reduceCtorEq, aa, V, ad, ag, af, ae, Mly.av, ah, bt, hgn]; (repeat refine an ?_); (try refine .inl ?_); apply k0; clear k0; simp only [zP, V])
   refine am ?_
   apply k35; clear k35; refine kp [1, 2, 3, 4, 6, 7, 9, 10, 11, 12, 13, 14, 53, 59, 80] ?_
   refine cd (fun hc36 => ?_) (fun hc36 => ?_)
   ·(try simp only [zB, reduceCtorEq] at hc36)
    have hnm : nmO m (cJ m (O.getD i 0) O a).1 (cAt m (m.nxt (O.getD i 0) (a : Int))) < 0 := hc36
    have hA : mmA m (cJ m (O.getD i 0) O a).1 (m.nxt (O.getD i 0) (a : Int)) = (cJ m (O.getD i 0) O a).1 ++ [(m.nxt (O.getD i 0) (a : Int))] := if_pos hnm
    refine ai fun _ k37 => ?_
    have hset1 : (fW m (cJ m (O.getD i 0) O a).1).set ((m.cls m.nx.length).getD ((m.nx.getD (O.getD i 0).toNat []).getD a 0).toNat 0).toNat ((cJ m (O.getD i 0) O a).1.length : Int) = fW m ((cJ m (O.getD i 0) O a).1 ++ [(m.nxt (O.getD i 0) (a : Int))]) := r7 (by omega) (by show (m.cls m.nx.length).getD ((m.nx.getD (O.getD i 0).toNat []).getD a 0).toNat 0 = _; omega) (by rw [show ((((m.cls m.nx.length).getD ((m.nx.getD (O.getD i 0).toNat []).getD a 0).toNat 0).toNat : Nat) : Int) = cAt m (m.nxt (O.getD i 0) (a : Int)) by show _ = (m.cls m.nx.length).getD ((m.nx.getD (O.getD i 0).toNat []).getD a 0).toNat 0; omega]; exact hnm)
    refine ak hP hN rfl ?_
    iterate 9 (refine aj rfl fun _ k0 => ?_; simp only [zO, zT, acs, reduceCtorEq, aa, V, ad, ag, af, ae, Mly.av, ah, bt, hgn]; (repeat refine an ?_); (try refine .inl ?_); apply k0; clear k0; simp only [zP, V, hset1])
    refine am ?_
    apply k37; clear k37; refine kp [1, 2, 3, 4, 6, 7, 9, 10, 11, 12, 13, 14, 53, 59, 80] ?_
    refine ak hP hN rfl ?_
    iterate 5 (refine aj rfl fun _ k0 => ?_; simp only [zO, zT, acs, reduceCtorEq, aa, V, ad, ag, af, ae, Mly.av, ah, bt]; (repeat refine an ?_); (try refine .inl ?_); apply k0; clear k0; simp only [zP, V])
    refine am ?_
    apply k34; clear k34; refine kp [1, 2, 3, 4, 6, 7, 9, 10, 11, 12, 13, 14, 53, 59, 80] ?_
    refine ai fun _ k38 => ?_
    refine ak hP hN rfl ?_
    iterate 11 (refine aj rfl fun _ k0 => ?_; simp only [zO, zT, acs, reduceCtorEq, aa, V, ad, ag, af, ae, Mly.av, ah, bt, hgn]; (repeat refine an ?_); (try refine .inl ?_); apply k0; clear k0; simp only [zP, V])
    refine am ?_
    apply k38; clear k38; refine kp [1, 2, 3, 4, 6, 7, 9, 10, 11, 12, 13, 14, 53, 59, 80] ?_
    have q2 := hm.ql (O.getD i 0).toNat (by omega)
    have hgx2 : ((cJ m (O.getD i 0) O a).1 ++ [((m.nx.getD (O.getD i 0).toNat []).getD a 0)]).getD i 0 = (O.getD i 0) := (kQ hil2).trans hgx
    refine bp hP hN Try.mixed rfl ?_
    iterate 15 (refine aj rfl fun _ k0 => ?_; simp only [zO, zT, acs, reduceCtorEq, aa, V, ad, ag, af, ae, Mly.av, ah, bt, hgx, hgx2, aq]; (repeat refine an ?_); (try refine .inl ?_); apply k0; clear k0; simp only [zP, V])
    refine am ?_
    refine ⟨by kernel_rfl, ?_⟩
    apply k32; clear k32; refine kp [1, 2, 3, 4, 6, 7, 9, 10, 11, 12, 13, 14, 53, 59, 80] ?_
    refine ak hP hN rfl ?_
    iterate 3 (refine aj rfl fun _ k0 => ?_; simp only [zO, zT, acs, reduceCtorEq, aa, V, ad, ag, af, ae, Mly.av, ah, bt]; (repeat refine an ?_); (try refine .inl ?_); apply k0; clear k0; simp only [zP, V])
    refine am ?_
    first
    | (refine ⟨_, _, ?_, aw [1, 2, 3, 4, 6, 7, 9, 10, 11, 12, 13, 53], a + 1, v2 + 1, w1 + 1, w2 + 1, RO ++ [(m.ot.getD (O.getD i 0).toNat []).getD a 0], by omega, by rw [aq, hRO]; rfl, rfl, ?_⟩
       · omega
       · rw [fF]; unfold qk; rw [hA]; rfl)
    | (refine ⟨_, _, ?_, aw [1, 2, 3, 4, 6, 7, 9, 10, 11, 12, 13, 53], a + 1, v2, w1 + 1, w2 + 1, RO ++ [(m.ot.getD (O.getD i 0).toNat []).getD a 0], by omega, by rw [aq, hRO]; rfl, rfl, ?_⟩
       · omega
       · rw [fF]; unfold qk; rw [hA]; rfl)
   (try simp only [zB, reduceCtorEq] at hc36)
   have hnm : ¬ nmO m (cJ m (O.getD i 0) O a).1 (cAt m (m.nxt (O.getD i 0) (a : Int))) < 0 := by have h9 : 0 ≤ nmO m (cJ m (O.getD i 0) O a).1 (cAt m (m.nxt (O.getD i 0) (a : Int))) := hc36; omega
   have hA : mmA m (cJ m (O.getD i 0) O a).1 (m.nxt (O.getD i 0) (a : Int)) = (cJ m (O.getD i 0) O a).1 := if_neg hnm
   refine ax ?_
   apply k34; clear k34; refine kp [1, 2, 3, 4, 6, 7, 9, 10, 11, 12, 13, 14, 53, 59, 80] ?_
   refine ai fun _ k39 => ?_
   refine ak hP hN rfl ?_
   iterate 11 (refine aj rfl fun _ k0 => ?_; simp only [zO, zT, acs, reduceCtorEq, aa, V, ad, ag, af, ae, Mly.av, ah, bt, hgn]; (repeat refine an ?_); (try refine .inl ?_); apply k0; clear k0; simp only [zP, V])
   refine am ?_
   apply k39; clear k39; refine kp [1, 2, 3, 4, 6, 7, 9, 10, 11, 12, 13, 14, 53, 59, 80] ?_
   have q2 := hm.ql (O.getD i 0).toNat (by omega)
   have hgx2 : ((cJ m (O.getD i 0) O a).1 ++ [((m.nx.getD (O.getD i 0).toNat []).getD a 0)]).getD i 0 = (O.getD i 0) := (kQ hil2).trans hgx
   refine bp hP hN Try.mixed rfl ?_
   iterate 15 (refine aj rfl fun _ k0 => ?_; simp only [zO, zT, acs, reduceCtorEq, aa, V, ad, ag, af, ae, Mly.av, ah, bt, hgx, hgx2, aq]; (repeat refine an ?_); (try refine .inl ?_); apply k0; clear k0; simp only [zP, V])
   refine am ?_
   refine ⟨by kernel_rfl, ?_⟩
   apply k32; clear k32; refine kp [1, 2, 3, 4, 6, 7, 9, 10, 11, 12, 13, 14, 53, 59, 80] ?_
   refine ak hP hN rfl ?_
   iterate 3 (refine aj rfl fun _ k0 => ?_; simp only [zO, zT, acs, reduceCtorEq, aa, V, ad, ag, af, ae, Mly.av, ah, bt]; (repeat refine an ?_); (try refine .inl ?_); apply k0; clear k0; simp only [zP, V])
   refine am ?_
   first
   | (refine ⟨_, _, ?_, aw [1, 2, 3, 4, 6, 7, 9, 10, 11, 12, 13, 53], a + 1, v2 + 1, w1 + 1, w2 + 1, RO ++ [(m.ot.getD (O.getD i 0).toNat []).getD a 0], by omega, by rw [aq, hRO]; rfl, rfl, ?_⟩
      · omega
      · rw [fF]; unfold qk; rw [hA]; rfl)
   | (refine ⟨_, _, ?_, aw [1, 2, 3, 4, 6, 7, 9, 10, 11, 12, 13, 53], a + 1, v2, w1 + 1, w2 + 1, RO ++ [(m.ot.getD (O.getD i 0).toNat []).getD a 0], by omega, by rw [aq, hRO]; rfl, rfl, ?_⟩
      · omega
      · rw [fF]; unfold qk; rw [hA]; rfl)
  (try simp only [zB, reduceCtorEq] at hc31)
  have hae : m.inp.toNat = a := by omega
  refine aX ?_
  apply k26; clear k26; refine kp [1, 2, 3, 4, 6, 7, 9, 10, 11, 12, 13, 53, 59] ?_
  refine ai fun _ k40 => ?_
  refine cO 7 rfl ?_; simp only [aF, bl, zS, aa, and_self, and_true, true_and, and_false, false_and, if_true, if_false, eq_self, reduceCtorEq, Nat.one_ne_zero, Nat.zero_ne_one]
  refine ak hP hN rfl ?_
  iterate 7 (refine aj rfl fun _ k0 => ?_; simp only [zO, zT, acs, reduceCtorEq, aa, V, ad, ag, af, ae, Mly.av, ah, bt]; (repeat refine an ?_); (try refine .inl ?_); apply k0; clear k0; simp only [zP, V])
  refine am ?_
  apply k40; clear k40; refine kp [1, 2, 3, 4, 6, 7, 9, 10, 11, 12, 13, 53, 59] ?_
  refine cO 8 rfl ?_; simp only [aF, bl, zS, aa, and_self, and_true, true_and, and_false, false_and, if_true, if_false, eq_self, reduceCtorEq, Nat.one_ne_zero, Nat.zero_ne_one]
  refine ak hP hN rfl ?_
  iterate 7 (refine aj rfl fun _ k0 => ?_; simp only [zO, zT, acs, reduceCtorEq, aa, V, ad, ag, af, ae, Mly.av, ah, bt]; (repeat refine an ?_); (try refine .inl ?_); apply k0; clear k0; simp only [zP, V])
  refine am ?_
  apply k24; clear k24; refine kp [1, 2, 3, 4, 6, 7, 9, 10, 11, 12, 13, 53, 59] ?_
  refine da [1, 2, 3, 4, 6, 7, 9, 10] ?_
  simp only [cC, lkp, zE, reduceCtorEq, aa]
  refine cM (n := 8) (L1 := [_, _, _, _, _, _, _, _]) rfl rfl (by rw [hB]; decide) rfl rfl ?_
  refine cM (n := 7) (L1 := [_, _, _, _, _, _, _]) rfl rfl (by rw [hB]; decide) rfl rfl ?_
  obtain ⟨hR1, hR2, rr, hR3⟩ := jP hm hxr hO a (by omega)
  have hRl := hR1.len
  have hil2 : i < (cJ m (O.getD i 0) O a).1.length := by rw [hR3, aq]; omega
  refine ak hP hN rfl ?_
  iterate 3 (refine aj rfl fun _ k0 => ?_; simp only [zO, zT, acs, reduceCtorEq, aa, V, ad, ag, af, ae, Mly.av, ah, bt]; (repeat refine an ?_); (try refine .inl ?_); apply k0; clear k0; simp only [zP, V])
  refine am ?_
  refine ⟨_, _, ?_, aw [1, 2, 3, 4, 6, 7, 9, 10], i + 1, v2, y + 1, z + 1, (cJ m (O.getD i 0) O a).1, RX ++ [(cJ m (O.getD i 0) O a).2], RY ++ [RO], by omega, hR1, ⟨by rw [aq, hRl0.1]; rfl, by rw [aq, hRl0.2]; rfl⟩, ?_, rfl, rfl⟩
  · omega
  · rw [← hgo, show m.nx.length + 1 - i = (m.nx.length + 1 - (i + 1)) + 1 by omega, oC hil, hae]
 (try simp only [zB, reduceCtorEq] at hc23)
 have hie : i = O.length := by omega
 have hfin := ru (m := m) (f := m.nx.length + 1 - i) (i := i) (p := (O, RX)) (by show ¬ i < O.length; omega)
 have hRX : RX = (mmF m).2 := by rw [← hgo, hfin]
 refine aX ?_
 apply k18; clear k18; refine kp [1, 2, 3, 4, 6, 7, 9, 10, 53] ?_
 refine ai fun _ k41 => ?_
 refine jp 5 4 rfl rfl ?_; simp only [aF, bl, frC, zS, aa, and_self, and_true, true_and, and_false, false_and, if_true, if_false, eq_self, reduceCtorEq, Nat.one_ne_zero, Nat.zero_ne_one]
 refine jp 6 4 rfl rfl ?_; simp only [aF, bl, frC, zS, aa, and_self, and_true, true_and, and_false, false_and, if_true, if_false, eq_self, reduceCtorEq, Nat.one_ne_zero, Nat.zero_ne_one]
 refine ak hP hN rfl ?_
 iterate 3 (refine aj rfl fun _ k0 => ?_; simp only [zO, zT, acs, reduceCtorEq, aa, V, ad, ag, af, ae, Mly.av, ah, bt]; (repeat refine an ?_); (try refine .inl ?_); apply k0; clear k0; simp only [zP, V])
 refine am ?_
 apply k41; clear k41; refine kp [1, 2, 3, 4, 6, 7, 9, 10, 53] ?_
 refine aB ?_
 refine ⟨nr, _, rfl, ?_⟩; simp only [zF, zP, aa, V, Mly.av, ah, bt]
 first
 | (rw [if_neg hv]; exact cv ⟨dq ⟨.refl _, .refl _, bz rfl, bz rfl, trivial⟩, aZ (.refl _), trivial⟩)
 | (rw [if_pos hv, hv, ← hRX]; exact cv ⟨dq ⟨.refl _, .refl _, .refl _, fun C L σ w u hu => ⟨hu.1, trivial⟩, trivial⟩, aZ (.refl _), trivial⟩)
theorem Au (m : Mly) (hv : aO m = 0) : bZ Try.prog 63 [m.av] (.tup [.agg [.int .i64 m.inp, .int .i64 0, .list (.list (.int .i64)) (mmF m).2, .junk], .one (.int .i64 0)]) := by
  have h := tR m
  rw [if_pos hv, hv] at h; exact h
theorem zU (m : Mly) (hv : ¬ aO m = 0) : bZ Try.prog 63 [m.av] (.tup [Mly.av ⟨0, 0, [], []⟩, .one (.int .i64 (aO m))]) := by
  have h := tR m
  rw [if_neg hv] at h; exact h
theorem vK (m : Mly) (hv : aO m = 0) : bZ Try.prog 44 [m.av] (.one (.bool (mmB m))) := by
 refine aU Try.func44 rfl (by kernel_rfl) (Nat.le_of_ble_eq_true rfl) rfl fun C hP hN hB => ?_
 replace hN : C.N = 21 := hN
 simp only [bg, V]
 refine ai fun _ k1 => ?_
 refine ak hP hN rfl ?_
 iterate 2 (refine aj rfl fun _ k0 => ?_; simp only [zO, zT, acs, reduceCtorEq, aa, V, ad, ag, af, ae, Mly.av, ah]; (repeat refine an ?_); (try refine .inl ?_); apply k0; clear k0; simp only [zP, V])
 refine am ?_
 apply k1; clear k1; refine kp [0, 1, 2] ?_
 refine ai fun _ k2 => ?_
 refine ak hP hN rfl ?_
 (refine aj rfl fun _ k0 => ?_; simp only [zO, zT, acs, reduceCtorEq, aa, V, ad, ag, af, ae, Mly.av, ah]; (repeat refine an ?_); (try refine .inl ?_); apply k0; clear k0; simp only [zP, V])
 refine aj rfl fun _ k0 => ?_
 refine aN (h := aA (Au m hv)) rfl rfl (by first | exact rfl | (simp only [ev, zP, aa, V]; exact rfl)) (by simp only [zV, acs, reduceCtorEq, aa, V, ad, ag, af, ae, Mly.av, ah]) ?_
 apply k0; clear k0; simp only [zP, V]
 iterate 6 (refine aj rfl fun _ k0 => ?_; simp only [zO, zT, acs, reduceCtorEq, aa, V, ad, ag, af, ae, Mly.av, ah]; (repeat refine an ?_); (try refine .inl ?_); apply k0; clear k0; simp only [zP, V])
 refine am ?_
 apply k2; clear k2; refine kp [0, 1, 2, 3, 4] ?_
 refine ai fun _ k3 => ?_
 refine ak hP hN rfl ?_
 iterate 3 (refine aj rfl fun _ k0 => ?_; simp only [zO, zT, acs, reduceCtorEq, aa, V, ad, ag, af, ae, Mly.av, ah]; (repeat refine an ?_); (try refine .inl ?_); apply k0; clear k0; simp only [zP, V])
 refine' aP (want := true) 7 rfl (m := 12) (by simp only [zP, aa, V]; exact rfl) (by kernel_rfl) rfl rfl rfl rfl rfl (fun hg4 => ?a4) ?b4 ?c4
 case a4 =>
  have hq4 := hg4; (try simp only [zB, reduceCtorEq] at hg4); simp only [zE]
  iterate 7 (refine bf rfl fun _ k0 => ?_; simp only [zO, zT, acs, reduceCtorEq, aa, V, ad, ag, af, ae, Mly.av, ah]; (repeat refine an ?_); (try refine .inl ?_); apply k0; clear k0; simp only [zP, V])
  (refine aj rfl fun _ k0 => ?_; simp only [zO, zT, acs, reduceCtorEq, aa, V, ad, ag, af, ae, Mly.av, ah]; (repeat refine an ?_); (try refine .inl ?_); apply k0; clear k0; simp only [zP, V])
  refine am ?_
  refine ⟨by simp only [zP, aa, V]; exact rfl, rfl, ?_, rfl⟩; (repeat refine aQ rfl ?_); exact bn (by exact rfl) hq4
 case b4 => exact cq
 simp only [b7, aT]
 (refine aj rfl fun _ k0 => ?_; simp only [zO, zT, acs, reduceCtorEq, aa, V, ad, ag, af, ae, Mly.av, ah]; (repeat refine an ?_); (try refine .inl ?_); apply k0; clear k0; simp only [zP, V])
 refine am ?_
 apply k3; clear k3; refine kp [0, 1, 2, 3, 4] ?_
 refine aB ?_
 refine ⟨nr, _, rfl, ?_⟩; simp only [zF, zP, aa, V, Mly.av, ah]
 refine VLE.of_eq ?_
 refine congrArg (fun b => AV.one (AC.bool b)) ?_
 unfold mmB
 rw [decide_eq_true hv]
 simp
 try omega
theorem vp (m : Mly) (hv : ¬ aO m = 0) : bZ Try.prog 44 [m.av] (.one (.bool (mmB m))) := by
 refine aU Try.func44 rfl (by kernel_rfl) (Nat.le_of_ble_eq_true rfl) rfl fun C hP hN hB => ?_
 replace hN : C.N = 21 := hN
 simp only [bg, V]
 refine ai fun _ k1 => ?_
 refine ak hP hN rfl ?_
 iterate 2 (refine aj rfl fun _ k0 => ?_; simp only [zO, zT, acs, reduceCtorEq, aa, V, ad, ag, af, ae, Mly.av, ah]; (repeat refine an ?_); (try refine .inl ?_); apply k0; clear k0; simp only [zP, V])
 refine am ?_
 apply k1; clear k1; refine kp [0, 1, 2] ?_
 refine ai fun _ k2 => ?_
 refine ak hP hN rfl ?_
 (refine aj rfl fun _ k0 => ?_; simp only [zO, zT, acs, reduceCtorEq, aa, V, ad, ag, af, ae, Mly.av, ah]; (repeat refine an ?_); (try refine .inl ?_); apply k0; clear k0; simp only [zP, V])
 refine aj rfl fun _ k0 => ?_
 refine aN (h := aA (zU m hv)) rfl rfl (by first | exact rfl | (simp only [ev, zP, aa, V]; exact rfl)) (by simp only [zV, acs, reduceCtorEq, aa, V, ad, ag, af, ae, Mly.av, ah]) ?_
 apply k0; clear k0; simp only [zP, V]
 iterate 6 (refine aj rfl fun _ k0 => ?_; simp only [zO, zT, acs, reduceCtorEq, aa, V, ad, ag, af, ae, Mly.av, ah]; (repeat refine an ?_); (try refine .inl ?_); apply k0; clear k0; simp only [zP, V])
 refine am ?_
 apply k2; clear k2; refine kp [0, 1, 2, 3, 4] ?_
 refine ai fun _ k3 => ?_
 refine ak hP hN rfl ?_
 iterate 3 (refine aj rfl fun _ k0 => ?_; simp only [zO, zT, acs, reduceCtorEq, aa, V, ad, ag, af, ae, Mly.av, ah]; (repeat refine an ?_); (try refine .inl ?_); apply k0; clear k0; simp only [zP, V])
 refine' aP (want := true) 7 rfl (m := 12) (by simp only [zP, aa, V]; exact rfl) (by kernel_rfl) rfl rfl rfl rfl rfl (fun hg4 => ?a4) ?b4 ?c4
 case a4 =>
  have hq4 := hg4; (try simp only [zB, reduceCtorEq] at hg4); simp only [zE]
  iterate 7 (refine bf rfl fun _ k0 => ?_; simp only [zO, zT, acs, reduceCtorEq, aa, V, ad, ag, af, ae, Mly.av, ah]; (repeat refine an ?_); (try refine .inl ?_); apply k0; clear k0; simp only [zP, V])
  (refine aj rfl fun _ k0 => ?_; simp only [zO, zT, acs, reduceCtorEq, aa, V, ad, ag, af, ae, Mly.av, ah]; (repeat refine an ?_); (try refine .inl ?_); apply k0; clear k0; simp only [zP, V])
  refine am ?_
  refine ⟨by simp only [zP, aa, V]; exact rfl, rfl, ?_, rfl⟩; (repeat refine aQ rfl ?_); exact bn (by exact rfl) hq4
 case b4 => exact cq
 simp only [b7, aT]
 (refine aj rfl fun _ k0 => ?_; simp only [zO, zT, acs, reduceCtorEq, aa, V, ad, ag, af, ae, Mly.av, ah]; (repeat refine an ?_); (try refine .inl ?_); apply k0; clear k0; simp only [zP, V])
 refine am ?_
 apply k3; clear k3; refine kp [0, 1, 2, 3, 4] ?_
 refine aB ?_
 refine ⟨nr, _, rfl, ?_⟩; simp only [zF, zP, aa, V, Mly.av, ah]
 refine VLE.of_eq ?_
 refine congrArg (fun b => AV.one (AC.bool b)) ?_
 unfold mmB
 rw [decide_eq_false hv]
 simp [hv]
theorem wU (m : Mly) : bZ Try.prog 44 [m.av] (.one (.bool (mmB m))) := by
  by_cases hv : aO m = 0
  · exact vK m hv
  · exact vp m hv
theorem xJ (m : Mly) : bZ Try.prog 25 [m.av] (.one (.int .i64 (hM m))) := by
 refine aU Try.func25 rfl (by kernel_rfl) (Nat.le_of_ble_eq_true rfl) rfl fun C hP hN hB => ?_
 replace hN : C.N = 12 := hN
 simp only [bg, V]
 refine ai fun _ k1 => ?_
 refine ak hP hN rfl ?_
 iterate 2 (refine aj rfl fun _ k0 => ?_; simp only [zO, zT, acs, reduceCtorEq, aa, V, ad, ag, af, ae, Mly.av]; (repeat refine an ?_); (try refine .inl ?_); apply k0; clear k0; simp only [zP, V])
 refine am ?_
 apply k1; clear k1; refine kp [0, 1, 2] ?_
 refine ai fun _ k2 => ?_
 refine ai fun _ k3 => ?_
 refine ak hP hN rfl ?_
 (refine aj rfl fun _ k0 => ?_; simp only [zO, zT, acs, reduceCtorEq, aa, V, ad, ag, af, ae, Mly.av]; (repeat refine an ?_); (try refine .inl ?_); apply k0; clear k0; simp only [zP, V])
 refine aj rfl fun _ k0 => ?_
 refine aN (h := aA (qC m)) rfl rfl (by first | exact rfl | (simp only [ev, zP, aa, V]; exact rfl)) (by simp only [zV, acs, reduceCtorEq, aa, V, ad, ag, af, ae, Mly.av]) ?_
 apply k0; clear k0; simp only [zP, V]
 (refine aj rfl fun _ k0 => ?_; simp only [zO, zT, acs, reduceCtorEq, aa, V, ad, ag, af, ae, Mly.av]; (repeat refine an ?_); (try refine .inl ?_); apply k0; clear k0; simp only [zP, V])
 refine am ?_
 apply k3; clear k3; refine kp [0, 1, 2, 3] ?_
 refine ai fun _ k4 => ?_
 refine ak hP hN rfl ?_
 iterate 2 (refine aj rfl fun _ k0 => ?_; simp only [zO, zT, acs, reduceCtorEq, aa, V, ad, ag, af, ae, Mly.av]; (repeat refine an ?_); (try refine .inl ?_); apply k0; clear k0; simp only [zP, V])
 refine am ?_
 apply k4; clear k4; refine kp [0, 1, 2, 3, 7] ?_
 refine cd (fun hc5 => ?_) (fun hc5 => ?_)
 ·(try simp only [zB, reduceCtorEq] at hc5)
  refine ai fun _ k6 => ?_
  refine ak hP hN rfl ?_
  iterate 2 (refine aj rfl fun _ k0 => ?_; simp only [zO, zT, acs, reduceCtorEq, aa, V, ad, ag, af, ae, Mly.av]; (repeat refine an ?_); (try refine .inl ?_); apply k0; clear k0; simp only [zP, V])
  refine am ?_
  apply k6; clear k6; refine kp [0, 1, 2, 3, 7] ?_
  refine aB ?_
  refine ⟨nr, _, rfl, ?_⟩; simp only [zF, zP, aa, V, Mly.av]
  refine VLE.of_eq ?_
  refine congrArg (fun n => AV.one (AC.int IntKind.i64 n)) ?_
  unfold hM
  symm
  first
  | (rw [if_pos (by omega)]; done)
  | (rw [if_neg (by omega), if_neg (by simp_all)]; done)
  | (rw [if_neg (by omega), if_pos (by simp_all)]; done)
 (try simp only [zB, reduceCtorEq] at hc5)
 refine ax ?_
 apply k2; clear k2; refine kp [0, 1, 2, 3, 7] ?_
 refine ai fun _ k7 => ?_
 refine ai fun _ k8 => ?_
 refine ak hP hN rfl ?_
 (refine aj rfl fun _ k0 => ?_; simp only [zO, zT, acs, reduceCtorEq, aa, V, ad, ag, af, ae, Mly.av]; (repeat refine an ?_); (try refine .inl ?_); apply k0; clear k0; simp only [zP, V])
 refine aj rfl fun _ k0 => ?_
 refine aN (h := aA (wU m)) rfl rfl (by first | exact rfl | (simp only [ev, zP, aa, V]; exact rfl)) (by simp only [zV, acs, reduceCtorEq, aa, V, ad, ag, af, ae, Mly.av]) ?_
 apply k0; clear k0; simp only [zP, V]
 (refine aj rfl fun _ k0 => ?_; simp only [zO, zT, acs, reduceCtorEq, aa, V, ad, ag, af, ae, Mly.av]; (repeat refine an ?_); (try refine .inl ?_); apply k0; clear k0; simp only [zP, V])
 refine am ?_
 apply k8; clear k8; refine kp [0, 1, 2, 3, 7, 11] ?_
 refine cd (fun hc9 => ?_) (fun hc9 => ?_)
 ·(try simp only [zB, reduceCtorEq] at hc9)
  refine ai fun _ k10 => ?_
  refine ak hP hN rfl ?_
  (refine aj rfl fun _ k0 => ?_; simp only [zO, zT, acs, reduceCtorEq, aa, V, ad, ag, af, ae, Mly.av]; (repeat refine an ?_); (try refine .inl ?_); apply k0; clear k0; simp only [zP, V])
  refine am ?_
  apply k10; clear k10; refine kp [0, 1, 2, 3, 7, 11] ?_
  refine aB ?_
  refine ⟨nr, _, rfl, ?_⟩; simp only [zF, zP, aa, V, Mly.av]
  refine VLE.of_eq ?_
  refine congrArg (fun n => AV.one (AC.int IntKind.i64 n)) ?_
  unfold hM
  symm
  first
  | (rw [if_pos (by omega)]; done)
  | (rw [if_neg (by omega), if_neg (by simp_all)]; done)
  | (rw [if_neg (by omega), if_pos (by simp_all)]; done)
 (try simp only [zB, reduceCtorEq] at hc9)
 refine ax ?_
 apply k7; clear k7; refine kp [0, 1, 2, 3, 7, 11] ?_
 refine ai fun _ k11 => ?_
 refine ak hP hN rfl ?_
 (refine aj rfl fun _ k0 => ?_; simp only [zO, zT, acs, reduceCtorEq, aa, V, ad, ag, af, ae, Mly.av]; (repeat refine an ?_); (try refine .inl ?_); apply k0; clear k0; simp only [zP, V])
 refine am ?_
 apply k11; clear k11; refine kp [0, 1, 2, 3, 7, 11] ?_
 refine aB ?_
 refine ⟨nr, _, rfl, ?_⟩; simp only [zF, zP, aa, V, Mly.av]
 refine VLE.of_eq ?_
 refine congrArg (fun n => AV.one (AC.int IntKind.i64 n)) ?_
 unfold hM
 symm
 first
 | (rw [if_pos (by omega)]; done)
 | (rw [if_neg (by omega), if_neg (by simp_all)]; done)
 | (rw [if_neg (by omega), if_pos (by simp_all)]; done)
end Go.Proofs.Ytoahhklogohehaa
