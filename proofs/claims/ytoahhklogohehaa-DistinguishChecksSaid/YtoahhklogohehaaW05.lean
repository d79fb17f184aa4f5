/- Contracts of functions of this seat, each out of a walk through its code, and plain facts on what they compute. Conditions: those that each theorem names. -/
import Derived.Test.YtoahhklogohehaaW04
set_option linter.unusedSimpArgs false
set_option linter.unusedVariables false
set_option maxRecDepth 100000
namespace Go.Proofs.Ytoahhklogohehaa
open Go Go.AV
open Nat renaming reduceEqDiff → aa, reduceAdd → V, reduceLeDiff → ad, reduceLT → ag, reduceMul → af, reduceSub → ae
open List renaming set_cons_zero → cG, set_cons_succ → cm, getD_cons_zero → au, length_append → aq, map_cons → aI, cons_append → aP, map_nil → bl, length_cons → aw, nil_append → bc, take_succ_cons → dA, length_nil → aH, length_map → aF, length_replicate → aD, take_length → aJ, mem_cons_self → aS, mem_cons_of_mem → aL
open Int renaming toNat_natCast → ah
set_option maxHeartbeats 1500000 in
theorem w5 (T U : List aX) (hT : T.length ≤ 100000) (hK : ∀ x ∈ T, x.2.2.1.length ≤ 1000000) : bG Try.prog 13 [.agg [.list ndT T], .agg [.list ndT U]] (.one (.bool (decide (T = U)))) := by
 refine aR Try.func13 rfl (by kernel_rfl) (Nat.le_of_ble_eq_true rfl) rfl fun C hP hN hB => ?_
 replace hN : C.N = 73 := hN
 simp only [bf, V]
 refine ai fun _ k1 => ?_
 refine ak hP hN rfl ?_
 iterate 3 (refine aj rfl fun _ k0 => ?_; simp only [zO, zT, acs, reduceCtorEq, aa, V, ad, ag, af, ae, ah, ar, aA, az, au]; (repeat refine And.intro (by first | omega | assumption | exact rfl | exact hkX | exact hkY) ?_); (try refine .inl ?_); apply k0; clear k0; simp only [zP, V])
 refine am ?_
 apply k1; clear k1; refine kp [0, 1, 2, 3, 4] ?_
 refine ai fun _ k2 => ?_
 refine ai fun _ k3 => ?_
 refine ak hP hN rfl ?_
 iterate 7 (refine aj rfl fun _ k0 => ?_; simp only [zO, zT, acs, reduceCtorEq, aa, V, ad, ag, af, ae, ah, ar, aA, az, au]; (repeat refine And.intro (by first | omega | assumption | exact rfl | exact hkX | exact hkY) ?_); (try refine .inl ?_); apply k0; clear k0; simp only [zP, V])
 refine am ?_
 apply k3; clear k3; refine kp [0, 1, 2, 3, 4, 15] ?_
 refine cd (fun hc4 => ?_) (fun hc4 => ?_)
 ·(try simp only [zB, reduceCtorEq] at hc4)
  have hno : ¬ T = U := fun e => hc4 (by rw [e])
  refine ai fun _ k5 => ?_
  refine ak hP hN rfl ?_
  (refine aj rfl fun _ k0 => ?_; simp only [zO, zT, acs, reduceCtorEq, aa, V, ad, ag, af, ae, ah, ar, aA, az, au]; (repeat refine And.intro (by first | omega | assumption | exact rfl | exact hkX | exact hkY) ?_); (try refine .inl ?_); apply k0; clear k0; simp only [zP, V])
  refine am ?_
  apply k5; clear k5; refine kp [0, 1, 2, 3, 4, 15] ?_
  refine aG ?_
  refine ⟨nr, _, rfl, ?_⟩; simp only [zF, zP, aa, V, ah, ar, aA, az, au]
  refine VLE.of_eq ?_
  refine congrArg (fun b => AV.one (AC.bool b)) ?_
  symm
  first
  | exact decide_eq_false hno
  | exact decide_eq_true (lQ hll (fun q hq => hu q (by omega)))
 (try simp only [zB, reduceCtorEq] at hc4)
 have hll : T.length = U.length := by omega
 refine ay ?_
 apply k2; clear k2; refine kp [0, 1, 2, 3, 4, 15] ?_
 refine ai fun _ k6 => ?_
 refine ai fun _ k7 => ?_
 refine ak hP hN rfl ?_
 (refine aj rfl fun _ k0 => ?_; simp only [zO, zT, acs, reduceCtorEq, aa, V, ad, ag, af, ae, ah, ar, aA, az, au]; (repeat refine And.intro (by first | omega | assumption | exact rfl | exact hkX | exact hkY) ?_); (try refine .inl ?_); apply k0; clear k0; simp only [zP, V])
 refine am ?_
 apply k7; clear k7; refine kp [0, 1, 2, 3, 4, 5, 15] ?_
 refine aB ?_
 refine aZ (fun n8 s8 => ∃ (i : Nat), (i ≤ T.length) ∧ (∀ q, q < i → T.getD q nd0 = U.getD q nd0) ∧ n8 = T.length - i ∧ s8 = { env := [(2, .one (.ptr 0 0 0 0)), (3, .one (.ptr 1 0 0 0)), (4, .one (.bool false)), (5, .one (.int .i64 (i : Int)))], L := [.vars 29 [.list ndT T], .vars 29 [.list ndT U]] }) ?_ ?_
 ·exact ⟨_, _, ax [2, 3, 4, 5], 0, Nat.zero_le _, fun q h => by omega, rfl, rfl⟩
 rintro n8 s8 ⟨i, hi, hu, rfl, rfl⟩
 refine ai fun _ k9 => ?_
 refine ai fun _ k10 => ?_
 refine ak hP hN rfl ?_
 iterate 5 (refine aj rfl fun _ k0 => ?_; simp only [zO, zT, acs, reduceCtorEq, aa, V, ad, ag, af, ae, ah, ar, aA, az, au]; (repeat refine And.intro (by first | omega | assumption | exact rfl | exact hkX | exact hkY) ?_); (try refine .inl ?_); apply k0; clear k0; simp only [zP, V])
 refine am ?_
 apply k10; clear k10; refine kp [2, 3, 4, 5, 20] ?_
 refine cd (fun hc11 => ?_) (fun hc11 => ?_)
 ·(try simp only [zB, reduceCtorEq] at hc11)
  refine ay ?_
  apply k9; clear k9; refine kp [2, 3, 4, 5, 20] ?_
  refine ai fun _ k12 => ?_
  refine aB ?_
  refine ai fun _ k13 => ?_
  refine kv ?_; simp only [aP, List.append_assoc, bc]
  refine kv ?_; simp only [aP, List.append_assoc, bc]
  refine bj hP hN Try.mixed rfl ?_
  iterate 10 (refine aj rfl fun _ k0 => ?_; simp only [zO, zT, acs, reduceCtorEq, aa, V, ad, ag, af, ae, ah, ar, aA, az, au]; (repeat refine And.intro (by first | omega | assumption | exact rfl | exact hkX | exact hkY) ?_); (try refine .inl ?_); apply k0; clear k0; simp only [zP, V])
  (refine aj rfl fun _ k0 => ?_; simp only [zO, zT, acs, reduceCtorEq, aa, V, ad, ag, af, ae, ah, ar, aA, az, au]; refine Or.inr (Or.inl ⟨2, ?_, ndT, nd0, ?_⟩); (exact rfl); (repeat refine And.intro (by first | rfl | decide) ?_); refine k0 _ ?_; clear k0; simp only [zP, V])
  (refine aj rfl fun _ k0 => ?_; simp only [zO, zT, acs, reduceCtorEq, aa, V, ad, ag, af, ae, ah, ar, aA, az, au]; refine Or.inr (Or.inl ⟨3, ?_, ndT, nd0, ?_⟩); (exact rfl); (repeat refine And.intro (by first | rfl | decide) ?_); refine k0 _ ?_; clear k0; simp only [zP, V])
  iterate 2 (refine aj rfl fun _ k0 => ?_; simp only [zO, zT, acs, reduceCtorEq, aa, V, ad, ag, af, ae, ah, ar, aA, az, au]; (repeat refine And.intro (by first | omega | assumption | exact rfl | exact hkX | exact hkY) ?_); (try refine .inl ?_); apply k0; clear k0; simp only [zP, V])
  refine am ?_
  refine ⟨by kernel_rfl, ?_⟩
  apply k13; clear k13; refine kp [2, 3, 4, 5, 6, 7, 20] ?_
  refine ai fun _ k14 => ?_
  refine ai fun _ k15 => ?_
  have hil : i < T.length := by omega
  have hkm : (T.getD i nd0) ∈ T := by simp [List.getD, hil]
  have hkl := hK _ hkm
  refine ak hP hN rfl ?_
  iterate 6 (refine aj rfl fun _ k0 => ?_; simp only [zO, zT, acs, reduceCtorEq, aa, V, ad, ag, af, ae, ah, ar, aA, az, au]; (repeat refine And.intro (by first | omega | assumption | exact rfl | exact hkX | exact hkY) ?_); (try refine .inl ?_); apply k0; clear k0; simp only [zP, V])
  refine' aN (want := false) 6 rfl (m := 38) (by simp only [zP, aa, V]; exact rfl) (by kernel_rfl) rfl rfl rfl rfl rfl (fun hg16 => ?a16) ?b16 ?c16
  case a16 =>
   have hq16 := hg16; (try simp only [zB, reduceCtorEq] at hg16); simp only [zE]
   iterate 4 (refine aY rfl fun _ k0 => ?_; simp only [zO, zT, acs, reduceCtorEq, aa, V, ad, ag, af, ae, ah, ar, aA, az, au]; (repeat refine And.intro (by first | omega | assumption | exact rfl | exact hkX | exact hkY) ?_); (try refine .inl ?_); apply k0; clear k0; simp only [zP, V])
   refine aY rfl fun _ k0 => ?_
   refine aK (h := aC (AE (T.getD i nd0).1 (U.getD i nd0).1)) rfl rfl (by first | exact rfl | (simp only [ev, zP, aa, V]; exact rfl)) (by simp only [zV, acs, reduceCtorEq, aa, V, ad, ag, af, ae, ah, ar, aA, az, au]) ?_
   apply k0; clear k0; simp only [zP, V]
   (refine aY rfl fun _ k0 => ?_; simp only [zO, zT, acs, reduceCtorEq, aa, V, ad, ag, af, ae, ah, ar, aA, az, au]; (repeat refine And.intro (by first | omega | assumption | exact rfl | exact hkX | exact hkY) ?_); (try refine .inl ?_); apply k0; clear k0; simp only [zP, V])
   (refine aj rfl fun _ k0 => ?_; simp only [zO, zT, acs, reduceCtorEq, aa, V, ad, ag, af, ae, ah, ar, aA, az, au]; (repeat refine And.intro (by first | omega | assumption | exact rfl | exact hkX | exact hkY) ?_); (try refine .inl ?_); apply k0; clear k0; simp only [zP, V])
   refine am ?_
   refine ⟨by simp only [zP, aa, V]; exact rfl, rfl, ?_, rfl⟩; (repeat refine aM rfl ?_); exact bm (by exact rfl) hq16
  case b16 => exact bZ
  simp only [b7, aU]
  (refine aj rfl fun _ k0 => ?_; simp only [zO, zT, acs, reduceCtorEq, aa, V, ad, ag, af, ae, ah, ar, aA, az, au]; (repeat refine And.intro (by first | omega | assumption | exact rfl | exact hkX | exact hkY) ?_); (try refine .inl ?_); apply k0; clear k0; simp only [zP, V])
  refine' aN (want := false) 7 rfl (m := 46) (by simp only [zP, aa, V]; exact rfl) (by kernel_rfl) rfl rfl rfl rfl rfl (fun hg17 => ?a17) ?b17 ?c17
  case a17 =>
   have hq17 := hg17; (try simp only [zB, reduceCtorEq] at hg17); simp only [zE]
   iterate 7 (refine aY rfl fun _ k0 => ?_; simp only [zO, zT, acs, reduceCtorEq, aa, V, ad, ag, af, ae, ah, ar, aA, az, au]; (repeat refine And.intro (by first | omega | assumption | exact rfl | exact hkX | exact hkY) ?_); (try refine .inl ?_); apply k0; clear k0; simp only [zP, V])
   (refine aj rfl fun _ k0 => ?_; simp only [zO, zT, acs, reduceCtorEq, aa, V, ad, ag, af, ae, ah, ar, aA, az, au]; (repeat refine And.intro (by first | omega | assumption | exact rfl | exact hkX | exact hkY) ?_); (try refine .inl ?_); apply k0; clear k0; simp only [zP, V])
   refine am ?_
   refine ⟨by simp only [zP, aa, V]; exact rfl, rfl, ?_, rfl⟩; (repeat refine aM rfl ?_); exact bm (by exact rfl) hq17
  case b17 => exact bZ
  simp only [b7, aU]
  refine am ?_
  apply k15; clear k15; refine kp [2, 3, 4, 5, 6, 7, 20, 54] ?_
  refine cd (fun hc18 => ?_) (fun hc18 => ?_)
  ·(try simp only [zB, reduceCtorEq] at hc18)
   have hno : ¬ T = U := wn (i := i) (fun e => Or.elim hc18 (fun h9 => Or.elim h9 (fun h8 => h8 (by show (T.getD i nd0).2.1 = (U.getD i nd0).2.1; rw [e])) (fun h8 => h8 (by show (T.getD i nd0).1 = (U.getD i nd0).1; rw [e]))) (fun h9 => h9 (by show ((T.getD i nd0).2.2.1.length : Int) = ((U.getD i nd0).2.2.1.length : Int); rw [e])))
   refine ai fun _ k19 => ?_
   refine ak hP hN rfl ?_
   (refine aj rfl fun _ k0 => ?_; simp only [zO, zT, acs, reduceCtorEq, aa, V, ad, ag, af, ae, ah, ar, aA, az, au]; (repeat refine And.intro (by first | omega | assumption | exact rfl | exact hkX | exact hkY) ?_); (try refine .inl ?_); apply k0; clear k0; simp only [zP, V])
   refine am ?_
   apply k19; clear k19; refine kp [2, 3, 4, 5, 6, 7, 20, 54] ?_
   refine aG ?_
   refine ⟨nr, _, rfl, ?_⟩; simp only [zF, zP, aa, V, ah, ar, aA, az, au]
   refine VLE.of_eq ?_
   refine congrArg (fun b => AV.one (AC.bool b)) ?_
   symm
   first
   | exact decide_eq_false hno
   | exact decide_eq_true (lQ hll (fun q hq => hu q (by omega)))
  (try simp only [zB, reduceCtorEq] at hc18)
  have hx1 : (T.getD i nd0).2.1 = (U.getD i nd0).2.1 := hc18.1.1
  have hx2 : (T.getD i nd0).1 = (U.getD i nd0).1 := hc18.1.2
  have hx3 : (T.getD i nd0).2.2.1.length = (U.getD i nd0).2.2.1.length := by have h9 : ((T.getD i nd0).2.2.1.length : Int) = ((U.getD i nd0).2.2.1.length : Int) := hc18.2; omega
  refine ay ?_
  apply k14; clear k14; refine kp [2, 3, 4, 5, 6, 7, 20, 54] ?_
  refine ai fun _ k20 => ?_
  refine ak hP hN rfl ?_
  (refine aj rfl fun _ k0 => ?_; simp only [zO, zT, acs, reduceCtorEq, aa, V, ad, ag, af, ae, ah, ar, aA, az, au]; (repeat refine And.intro (by first | omega | assumption | exact rfl | exact hkX | exact hkY) ?_); (try refine .inl ?_); apply k0; clear k0; simp only [zP, V])
  refine am ?_
  apply k20; clear k20; refine kp [2, 3, 4, 5, 6, 7, 8, 20, 54] ?_
  refine aB ?_
  refine aZ (fun n21 s21 => ∃ (j : Nat), (j ≤ (T.getD i nd0).2.2.1.length) ∧ (∀ q, q < j → (T.getD i nd0).2.2.1.getD q kd0 = (U.getD i nd0).2.2.1.getD q kd0) ∧ n21 = (T.getD i nd0).2.2.1.length - j ∧ s21 = { env := [(2, .one (.ptr 0 0 0 0)), (3, .one (.ptr 1 0 0 0)), (4, .one (.bool false)), (5, .one (.int .i64 (i : Int))), (6, .one (.ptr 2 1 0 0)), (7, .one (.ptr 3 1 0 0)), (8, .one (.int .i64 (j : Int))), (20, .one (.bool true))], L := [.vars 29 [.list ndT T], .vars 29 [.list ndT U], .row ndT 52 1 [(T.getD i nd0)], .row ndT 52 1 [(U.getD i nd0)]] }) ?_ ?_
  ·exact ⟨_, _, ax [2, 3, 4, 5, 6, 7, 8, 20], 0, Nat.zero_le _, fun q h => by omega, rfl, by rw [decide_eq_true (show (i : Int) < (T.length : Int) by omega)]; rfl⟩
  rintro n21 s21 ⟨j, hj, hqs, rfl, rfl⟩
  refine ai fun _ k22 => ?_
  refine ai fun _ k23 => ?_
  refine ak hP hN rfl ?_
  iterate 5 (refine aj rfl fun _ k0 => ?_; simp only [zO, zT, acs, reduceCtorEq, aa, V, ad, ag, af, ae, ah, ar, aA, az, au]; (repeat refine And.intro (by first | omega | assumption | exact rfl | exact hkX | exact hkY) ?_); (try refine .inl ?_); apply k0; clear k0; simp only [zP, V])
  refine am ?_
  apply k23; clear k23; refine kp [2, 3, 4, 5, 6, 7, 8, 20, 59] ?_
  refine cd (fun hc24 => ?_) (fun hc24 => ?_)
  ·(try simp only [zB, reduceCtorEq] at hc24)
   have hjl9 : j < (T.getD i nd0).2.2.1.length := by have h9 : (j : Int) < ((T.getD i nd0).2.2.1.length : Int) := hc24; omega
   refine ay ?_
   apply k22; clear k22; refine kp [2, 3, 4, 5, 6, 7, 8, 20, 59] ?_
   refine ai fun _ k25 => ?_
   refine aB ?_
   refine ai fun _ k26 => ?_
   have hjl : j < (T.getD i nd0).2.2.1.length := hjl9
   have hkX : (0 : Int) ≤ (j : Int) ∧ (j : Int) < ((T.getD i nd0).2.2.1.length : Int) := by omega
   have hkY : (0 : Int) ≤ (j : Int) ∧ (j : Int) < ((U.getD i nd0).2.2.1.length : Int) := by omega
   refine bj hP hN Try.mixed rfl ?_
   iterate 11 (refine aj rfl fun _ k0 => ?_; simp only [zO, zT, acs, reduceCtorEq, aa, V, ad, ag, af, ae, ah, ar, aA, az, au]; (repeat refine And.intro (by first | omega | assumption | exact rfl | exact hkX | exact hkY) ?_); (try refine .inl ?_); apply k0; clear k0; simp only [zP, V])
   refine am ?_
   refine ⟨by kernel_rfl, ?_⟩
   apply k26; clear k26; refine kp [2, 3, 4, 5, 6, 7, 8, 20, 59, 72] ?_
   refine cd (fun hc27 => ?_) (fun hc27 => ?_)
   ·(try simp only [zB, reduceCtorEq] at hc27)
    have hno : ¬ T = U := wn (i := i) (fun e => by
      have e3 : (T.getD i nd0).2.2.1.getD j kd0 = (U.getD i nd0).2.2.1.getD j kd0 := by rw [e]
      rcases hc27 with h9 | h9
      · exact h9 (by show ((T.getD i nd0).2.2.1.getD j kd0).1 = ((U.getD i nd0).2.2.1.getD j kd0).1; rw [e3])
      · rcases h9 with h9 | h9
        · exact h9 (by show ((T.getD i nd0).2.2.1.getD j kd0).2.1 = ((U.getD i nd0).2.2.1.getD j kd0).2.1; rw [e3])
        · exact h9)
    refine ai fun _ k28 => ?_
    refine ak hP hN rfl ?_
    (refine aj rfl fun _ k0 => ?_; simp only [zO, zT, acs, reduceCtorEq, aa, V, ad, ag, af, ae, ah, ar, aA, az, au]; (repeat refine And.intro (by first | omega | assumption | exact rfl | exact hkX | exact hkY) ?_); (try refine .inl ?_); apply k0; clear k0; simp only [zP, V])
    refine am ?_
    apply k28; clear k28; refine kp [2, 3, 4, 5, 6, 7, 8, 20, 59, 72] ?_
    refine aG ?_
    refine ⟨nr, _, rfl, ?_⟩; simp only [zF, zP, aa, V, ah, ar, aA, az, au]
    refine VLE.of_eq ?_
    refine congrArg (fun b => AV.one (AC.bool b)) ?_
    symm
    first
    | exact decide_eq_false hno
    | exact decide_eq_true (lQ hll (fun q hq => hu q (by omega)))
   (try simp only [zB, reduceCtorEq] at hc27)
   have hkk : (T.getD i nd0).2.2.1.getD j kd0 = (U.getD i nd0).2.2.1.getD j kd0 := Bl hc27.1 hc27.2.1
   refine ay ?_
   apply k25; clear k25; refine kp [2, 3, 4, 5, 6, 7, 8, 20, 59, 72] ?_
   refine ak hP hN rfl ?_
   iterate 3 (refine aj rfl fun _ k0 => ?_; simp only [zO, zT, acs, reduceCtorEq, aa, V, ad, ag, af, ae, ah, ar, aA, az, au]; (repeat refine And.intro (by first | omega | assumption | exact rfl | exact hkX | exact hkY) ?_); (try refine .inl ?_); apply k0; clear k0; simp only [zP, V])
   refine am ?_
   refine ⟨_, _, ?_, ax [2, 3, 4, 5, 6, 7, 8, 20], j + 1, by omega, fun q h => ?_, rfl, rfl⟩
   · omega
   · by_cases e : q = j
     · rw [e]; exact hkk
     · exact hqs q (by omega)
  (try simp only [zB, reduceCtorEq] at hc24)
  have hje : (T.getD i nd0).2.2.1.length ≤ j := by have h9 : ((T.getD i nd0).2.2.1.length : Int) ≤ (j : Int) := hc24; omega
  have hxy : (T.getD i nd0) = (U.getD i nd0) := B5 hx1 hx2 (yL hx3 (fun q hq => hqs q (by omega)))
  refine aV ?_
  apply k12; clear k12; refine kp [2, 3, 4, 5, 6, 7, 8, 20, 59] ?_
  refine cT [2, 3, 4, 5] ?_; simp only [cq, lkp, zE, reduceCtorEq, aa]
  refine gy (L1 := [_, _, _]) rfl hB rfl rfl ?_
  refine gy (L1 := [_, _]) rfl hB rfl rfl ?_
  refine ak hP hN rfl ?_
  iterate 3 (refine aj rfl fun _ k0 => ?_; simp only [zO, zT, acs, reduceCtorEq, aa, V, ad, ag, af, ae, ah, ar, aA, az, au]; (repeat refine And.intro (by first | omega | assumption | exact rfl | exact hkX | exact hkY) ?_); (try refine .inl ?_); apply k0; clear k0; simp only [zP, V])
  refine am ?_
  refine ⟨_, _, ?_, ax [2, 3, 4, 5], i + 1, by omega, fun q h => ?_, rfl, rfl⟩
  · omega
  · by_cases e : q = i
    · rw [e]; exact hxy
    · exact hu q (by omega)
 (try simp only [zB, reduceCtorEq] at hc11)
 have hie : ¬ i < T.length := by omega
 refine aV ?_
 apply k6; clear k6; refine kp [2, 3, 4, 5, 20] ?_
 refine ai fun _ k29 => ?_
 refine ak hP hN rfl ?_
 (refine aj rfl fun _ k0 => ?_; simp only [zO, zT, acs, reduceCtorEq, aa, V, ad, ag, af, ae, ah, ar, aA, az, au]; (repeat refine And.intro (by first | omega | assumption | exact rfl | exact hkX | exact hkY) ?_); (try refine .inl ?_); apply k0; clear k0; simp only [zP, V])
 refine am ?_
 apply k29; clear k29; refine kp [2, 3, 4, 5, 20] ?_
 refine aG ?_
 refine ⟨nr, _, rfl, ?_⟩; simp only [zF, zP, aa, V, ah, ar, aA, az, au]
 refine VLE.of_eq ?_
 refine congrArg (fun b => AV.one (AC.bool b)) ?_
 symm
 first
 | exact decide_eq_false hno
 | exact decide_eq_true (lQ hll (fun q hq => hu q (by omega)))
set_option maxHeartbeats 2000000 in
theorem wz  : bG Try.prog 10 [] (.one (.bool true)) := by
 refine aR Try.func10 rfl (by kernel_rfl) (Nat.le_of_ble_eq_true rfl) rfl fun C hP hN hB => ?_
 replace hN : C.N = 100 := hN
 simp only [bf, V]
 refine ai fun _ k1 => ?_
 refine ak hP hN rfl ?_
 (refine aj rfl fun _ k0 => ?_; simp only [zO, zT, acs, reduceCtorEq, aa, V, ad, ag, af, ae, cb, cf]; (repeat refine an ?_); (try refine .inl ?_); apply k0; clear k0; simp only [zP, V])
 refine am ?_
 apply k1; clear k1; refine kp [0] ?_
 refine ai fun _ k2 => ?_
 refine ak hP hN rfl ?_
 iterate 11 (refine aj rfl fun _ k0 => ?_; simp only [zO, zT, acs, reduceCtorEq, aa, V, ad, ag, af, ae, cb, cf]; (repeat refine an ?_); (try refine .inl ?_); apply k0; clear k0; simp only [zP, V])
 refine am ?_
 apply k2; clear k2; refine kp [0, 1] ?_
 refine ai fun _ k3 => ?_
 refine ak hP hN rfl ?_
 (refine aj rfl fun _ k0 => ?_; simp only [zO, zT, acs, reduceCtorEq, aa, V, ad, ag, af, ae, cb, cf]; (repeat refine an ?_); (try refine .inl ?_); apply k0; clear k0; simp only [zP, V])
 refine aj rfl fun _ k0 => ?_
 refine aK (h := aC (qW dP)) rfl rfl (by first | exact rfl | (simp only [ev, zP, aa, V]; exact rfl)) (by simp only [zV, acs, reduceCtorEq, aa, V, ad, ag, af, ae, cb, cf]) ?_
 apply k0; clear k0; simp only [zP, V]
 iterate 8 (refine aj rfl fun _ k0 => ?_; simp only [zO, zT, acs, reduceCtorEq, aa, V, ad, ag, af, ae, cb, cf]; (repeat refine an ?_); (try refine .inl ?_); apply k0; clear k0; simp only [zP, V])
 refine am ?_
 apply k3; clear k3; refine kp [0, 1, 2, 3, 4] ?_
 refine ai fun _ k4 => ?_
 refine ak hP hN rfl ?_
 iterate 20 (refine aj rfl fun _ k0 => ?_; simp only [zO, zT, acs, reduceCtorEq, aa, V, ad, ag, af, ae, cb, cf]; (repeat refine an ?_); (try refine .inl ?_); apply k0; clear k0; simp only [zP, V])
 refine am ?_
 apply k4; clear k4; refine kp [0, 1, 2, 3, 4, 5] ?_
 refine ai fun _ k5 => ?_
 refine ak hP hN rfl ?_
 iterate 2 (refine aj rfl fun _ k0 => ?_; simp only [zO, zT, acs, reduceCtorEq, aa, V, ad, ag, af, ae, cb, cf]; (repeat refine an ?_); (try refine .inl ?_); apply k0; clear k0; simp only [zP, V])
 refine aj rfl fun _ k0 => ?_
 refine aK (h := aC (yN dP hM (by decide) 0)) rfl rfl (by first | exact rfl | (simp only [ev, zP, aa, V]; exact rfl)) (by simp only [zV, acs, reduceCtorEq, aa, V, ad, ag, af, ae, cb, cf]) ?_
 apply k0; clear k0; simp only [zP, V]
 iterate 7 (refine aj rfl fun _ k0 => ?_; simp only [zO, zT, acs, reduceCtorEq, aa, V, ad, ag, af, ae, cb, cf]; (repeat refine an ?_); (try refine .inl ?_); apply k0; clear k0; simp only [zP, V])
 refine am ?_
 apply k5; clear k5; refine kp [0, 1, 2, 3, 4, 5, 6, 7, 8] ?_
 refine ai fun _ k6 => ?_
 refine ak hP hN rfl ?_
 (refine aj rfl fun _ k0 => ?_; simp only [zO, zT, acs, reduceCtorEq, aa, V, ad, ag, af, ae, cb, cf]; (repeat refine an ?_); (try refine .inl ?_); apply k0; clear k0; simp only [zP, V])
 refine aj rfl fun _ k0 => ?_
 refine aK (h := aC vG) rfl rfl (by first | exact rfl | (simp only [ev, zP, aa, V]; exact rfl)) (by simp only [zV, acs, reduceCtorEq, aa, V, ad, ag, af, ae, cb, cf]) ?_
 apply k0; clear k0; simp only [zP, V]
 iterate 8 (refine aj rfl fun _ k0 => ?_; simp only [zO, zT, acs, reduceCtorEq, aa, V, ad, ag, af, ae, cb, cf]; (repeat refine an ?_); (try refine .inl ?_); apply k0; clear k0; simp only [zP, V])
 refine am ?_
 apply k6; clear k6; refine kp [0, 1, 2, 3, 4, 5, 6, 7, 8, 11] ?_
 refine ai fun _ k7 => ?_
 refine ak hP hN rfl ?_
 iterate 3 (refine aj rfl fun _ k0 => ?_; simp only [zO, zT, acs, reduceCtorEq, aa, V, ad, ag, af, ae, cb, cf]; (repeat refine an ?_); (try refine .inl ?_); apply k0; clear k0; simp only [zP, V])
 refine' aN (want := true) 2 rfl (m := 60) (by simp only [zP, aa, V]; exact rfl) (by kernel_rfl) rfl rfl rfl rfl rfl (fun hg8 => ?a8) ?b8 ?c8
 case a8 =>
  have hq8 := hg8; (try simp only [zB, reduceCtorEq] at hg8); simp only [zE]
  iterate 2 (refine aY rfl fun _ k0 => ?_; simp only [zO, zT, acs, reduceCtorEq, aa, V, ad, ag, af, ae, cb, cf]; (repeat refine an ?_); (try refine .inl ?_); apply k0; clear k0; simp only [zP, V])
  (refine aj rfl fun _ k0 => ?_; simp only [zO, zT, acs, reduceCtorEq, aa, V, ad, ag, af, ae, cb, cf]; (repeat refine an ?_); (try refine .inl ?_); apply k0; clear k0; simp only [zP, V])
  refine am ?_
  refine ⟨by simp only [zP, aa, V]; exact rfl, rfl, ?_, rfl⟩; (repeat refine aM rfl ?_); exact bm (by exact rfl) hq8
 case b8 => exact bZ
 simp only [b7, aU]
 (refine aj rfl fun _ k0 => ?_; simp only [zO, zT, acs, reduceCtorEq, aa, V, ad, ag, af, ae, cb, cf]; (repeat refine an ?_); (try refine .inl ?_); apply k0; clear k0; simp only [zP, V])
 refine' aN (want := true) 2 rfl (m := 64) (by simp only [zP, aa, V]; exact rfl) (by kernel_rfl) rfl rfl rfl rfl rfl (fun hg9 => ?a9) ?b9 ?c9
 case a9 =>
  have hq9 := hg9; (try simp only [zB, reduceCtorEq] at hg9); simp only [zE]
  iterate 2 (refine aY rfl fun _ k0 => ?_; simp only [zO, zT, acs, reduceCtorEq, aa, V, ad, ag, af, ae, cb, cf]; (repeat refine an ?_); (try refine .inl ?_); apply k0; clear k0; simp only [zP, V])
  (refine aj rfl fun _ k0 => ?_; simp only [zO, zT, acs, reduceCtorEq, aa, V, ad, ag, af, ae, cb, cf]; (repeat refine an ?_); (try refine .inl ?_); apply k0; clear k0; simp only [zP, V])
  refine am ?_
  refine ⟨by simp only [zP, aa, V]; exact rfl, rfl, ?_, rfl⟩; (repeat refine aM rfl ?_); exact bm (by exact rfl) hq9
 case b9 => exact bZ
 simp only [b7, aU]
 (refine aj rfl fun _ k0 => ?_; simp only [zO, zT, acs, reduceCtorEq, aa, V, ad, ag, af, ae, cb, cf]; (repeat refine an ?_); (try refine .inl ?_); apply k0; clear k0; simp only [zP, V])
 refine' aN (want := true) 1 rfl (m := 68) (by simp only [zP, aa, V]; exact rfl) (by kernel_rfl) rfl rfl rfl rfl rfl (fun hg10 => ?a10) ?b10 ?c10
 case a10 =>
  have hq10 := hg10; (try simp only [zB, reduceCtorEq] at hg10); simp only [zE]
  (refine aY rfl fun _ k0 => ?_; simp only [zO, zT, acs, reduceCtorEq, aa, V, ad, ag, af, ae, cb, cf]; (repeat refine an ?_); (try refine .inl ?_); apply k0; clear k0; simp only [zP, V])
  (refine aj rfl fun _ k0 => ?_; simp only [zO, zT, acs, reduceCtorEq, aa, V, ad, ag, af, ae, cb, cf]; (repeat refine an ?_); (try refine .inl ?_); apply k0; clear k0; simp only [zP, V])
  refine am ?_
  refine ⟨by simp only [zP, aa, V]; exact rfl, rfl, ?_, rfl⟩; (repeat refine aM rfl ?_); exact bm (by exact rfl) hq10
 case b10 => exact bZ
 simp only [b7, aU]
 (refine aj rfl fun _ k0 => ?_; simp only [zO, zT, acs, reduceCtorEq, aa, V, ad, ag, af, ae, cb, cf]; (repeat refine an ?_); (try refine .inl ?_); apply k0; clear k0; simp only [zP, V])
 refine' aN (want := true) 3 rfl (m := 71) (by simp only [zP, aa, V]; exact rfl) (by kernel_rfl) rfl rfl rfl rfl rfl (fun hg11 => ?a11) ?b11 ?c11
 case a11 =>
  have hq11 := hg11; (try simp only [zB, reduceCtorEq] at hg11); simp only [zE]
  iterate 2 (refine aY rfl fun _ k0 => ?_; simp only [zO, zT, acs, reduceCtorEq, aa, V, ad, ag, af, ae, cb, cf]; (repeat refine an ?_); (try refine .inl ?_); apply k0; clear k0; simp only [zP, V])
  refine aY rfl fun _ k0 => ?_
  refine aK (h := aC (w5 (iE dP) hM (by rw [qS]; decide) (by rw [qS]; decide))) rfl rfl (by first | exact rfl | (simp only [ev, zP, aa, V]; exact rfl)) (by simp only [zV, acs, reduceCtorEq, aa, V, ad, ag, af, ae, cb, cf]) ?_
  apply k0; clear k0; simp only [zP, V]
  (refine aj rfl fun _ k0 => ?_; simp only [zO, zT, acs, reduceCtorEq, aa, V, ad, ag, af, ae, cb, cf]; (repeat refine an ?_); (try refine .inl ?_); apply k0; clear k0; simp only [zP, V])
  refine am ?_
  refine ⟨by simp only [zP, aa, V]; exact rfl, rfl, ?_, rfl⟩; (repeat refine aM rfl ?_); exact bm (by exact rfl) hq11
 case b11 => exact bZ
 simp only [b7, aU]
 (refine aj rfl fun _ k0 => ?_; simp only [zO, zT, acs, reduceCtorEq, aa, V, ad, ag, af, ae, cb, cf]; (repeat refine an ?_); (try refine .inl ?_); apply k0; clear k0; simp only [zP, V])
 refine' aN (want := true) 3 rfl (m := 76) (by simp only [zP, aa, V]; exact rfl) (by kernel_rfl) rfl rfl rfl rfl rfl (fun hg12 => ?a12) ?b12 ?c12
 case a12 =>
  have hq12 := hg12; (try simp only [zB, reduceCtorEq] at hg12); simp only [zE]
  iterate 2 (refine aY rfl fun _ k0 => ?_; simp only [zO, zT, acs, reduceCtorEq, aa, V, ad, ag, af, ae, cb, cf]; (repeat refine an ?_); (try refine .inl ?_); apply k0; clear k0; simp only [zP, V])
  refine aY rfl fun _ k0 => ?_
  refine aK (h := aC (wR (if i8 dP hM 0 = 0 then (jl dP hM 0).1 else []) [0, 0])) rfl rfl (by first | exact rfl | (simp only [ev, zP, aa, V]; exact rfl)) (by simp only [zV, acs, reduceCtorEq, aa, V, ad, ag, af, ae, cb, cf]) ?_
  apply k0; clear k0; simp only [zP, V]
  (refine aj rfl fun _ k0 => ?_; simp only [zO, zT, acs, reduceCtorEq, aa, V, ad, ag, af, ae, cb, cf]; (repeat refine an ?_); (try refine .inl ?_); apply k0; clear k0; simp only [zP, V])
  refine am ?_
  refine ⟨by simp only [zP, aa, V]; exact rfl, rfl, ?_, rfl⟩; (repeat refine aM rfl ?_); exact bm (by exact rfl) hq12
 case b12 => exact bZ
 simp only [b7, aU]
 (refine aj rfl fun _ k0 => ?_; simp only [zO, zT, acs, reduceCtorEq, aa, V, ad, ag, af, ae, cb, cf]; (repeat refine an ?_); (try refine .inl ?_); apply k0; clear k0; simp only [zP, V])
 refine' aN (want := true) 2 rfl (m := 81) (by simp only [zP, aa, V]; exact rfl) (by kernel_rfl) rfl rfl rfl rfl rfl (fun hg13 => ?a13) ?b13 ?c13
 case a13 =>
  have hq13 := hg13; (try simp only [zB, reduceCtorEq] at hg13); simp only [zE]
  iterate 2 (refine aY rfl fun _ k0 => ?_; simp only [zO, zT, acs, reduceCtorEq, aa, V, ad, ag, af, ae, cb, cf]; (repeat refine an ?_); (try refine .inl ?_); apply k0; clear k0; simp only [zP, V])
  (refine aj rfl fun _ k0 => ?_; simp only [zO, zT, acs, reduceCtorEq, aa, V, ad, ag, af, ae, cb, cf]; (repeat refine an ?_); (try refine .inl ?_); apply k0; clear k0; simp only [zP, V])
  refine am ?_
  refine ⟨by simp only [zP, aa, V]; exact rfl, rfl, ?_, rfl⟩; (repeat refine aM rfl ?_); exact bm (by exact rfl) hq13
 case b13 => exact bZ
 simp only [b7, aU]
 (refine aj rfl fun _ k0 => ?_; simp only [zO, zT, acs, reduceCtorEq, aa, V, ad, ag, af, ae, cb, cf]; (repeat refine an ?_); (try refine .inl ?_); apply k0; clear k0; simp only [zP, V])
 refine' aN (want := true) 3 rfl (m := 85) (by simp only [zP, aa, V]; exact rfl) (by kernel_rfl) rfl rfl rfl rfl rfl (fun hg14 => ?a14) ?b14 ?c14
 case a14 =>
  have hq14 := hg14; (try simp only [zB, reduceCtorEq] at hg14); simp only [zE]
  (refine aY rfl fun _ k0 => ?_; simp only [zO, zT, acs, reduceCtorEq, aa, V, ad, ag, af, ae, cb, cf]; (repeat refine an ?_); (try refine .inl ?_); apply k0; clear k0; simp only [zP, V])
  refine aY rfl fun _ k0 => ?_
  refine aK (h := aC (wP (iE dP) (by rw [qS]; decide) (by rw [qS]; decide))) rfl rfl (by first | exact rfl | (simp only [ev, zP, aa, V]; exact rfl)) (by simp only [zV, acs, reduceCtorEq, aa, V, ad, ag, af, ae, cb, cf]) ?_
  apply k0; clear k0; simp only [zP, V]
  (refine aY rfl fun _ k0 => ?_; simp only [zO, zT, acs, reduceCtorEq, aa, V, ad, ag, af, ae, cb, cf]; (repeat refine an ?_); (try refine .inl ?_); apply k0; clear k0; simp only [zP, V])
  (refine aj rfl fun _ k0 => ?_; simp only [zO, zT, acs, reduceCtorEq, aa, V, ad, ag, af, ae, cb, cf]; (repeat refine an ?_); (try refine .inl ?_); apply k0; clear k0; simp only [zP, V])
  refine am ?_
  refine ⟨by simp only [zP, aa, V]; exact rfl, rfl, ?_, rfl⟩; (repeat refine aM rfl ?_); exact bm (by exact rfl) hq14
 case b14 => exact bZ
 simp only [b7, aU]
 (refine aj rfl fun _ k0 => ?_; simp only [zO, zT, acs, reduceCtorEq, aa, V, ad, ag, af, ae, cb, cf]; (repeat refine an ?_); (try refine .inl ?_); apply k0; clear k0; simp only [zP, V])
 refine' aN (want := true) 2 rfl (m := 90) (by simp only [zP, aa, V]; exact rfl) (by kernel_rfl) rfl rfl rfl rfl rfl (fun hg15 => ?a15) ?b15 ?c15
 case a15 =>
  have hq15 := hg15; (try simp only [zB, reduceCtorEq] at hg15); simp only [zE]
  (refine aY rfl fun _ k0 => ?_; simp only [zO, zT, acs, reduceCtorEq, aa, V, ad, ag, af, ae, cb, cf]; (repeat refine an ?_); (try refine .inl ?_); apply k0; clear k0; simp only [zP, V])
  refine aY rfl fun _ k0 => ?_
  refine aK (h := aC (sK (iE dP) (by rw [qS]; decide))) rfl rfl (by first | exact rfl | (simp only [ev, zP, aa, V]; exact rfl)) (by simp only [zV, acs, reduceCtorEq, aa, V, ad, ag, af, ae, cb, cf]) ?_
  apply k0; clear k0; simp only [zP, V]
  (refine aj rfl fun _ k0 => ?_; simp only [zO, zT, acs, reduceCtorEq, aa, V, ad, ag, af, ae, cb, cf]; (repeat refine an ?_); (try refine .inl ?_); apply k0; clear k0; simp only [zP, V])
  refine am ?_
  refine ⟨by simp only [zP, aa, V]; exact rfl, rfl, ?_, rfl⟩; (repeat refine aM rfl ?_); exact bm (by exact rfl) hq15
 case b15 => exact bZ
 simp only [b7, aU]
 (refine aj rfl fun _ k0 => ?_; simp only [zO, zT, acs, reduceCtorEq, aa, V, ad, ag, af, ae, cb, cf]; (repeat refine an ?_); (try refine .inl ?_); apply k0; clear k0; simp only [zP, V])
 refine' aN (want := true) 4 rfl (m := 94) (by simp only [zP, aa, V]; exact rfl) (by kernel_rfl) rfl rfl rfl rfl rfl (fun hg16 => ?a16) ?b16 ?c16
 case a16 =>
  have hq16 := hg16; (try simp only [zB, reduceCtorEq] at hg16); simp only [zE]
  iterate 2 (refine aY rfl fun _ k0 => ?_; simp only [zO, zT, acs, reduceCtorEq, aa, V, ad, ag, af, ae, cb, cf]; (repeat refine an ?_); (try refine .inl ?_); apply k0; clear k0; simp only [zP, V])
  refine aY rfl fun _ k0 => ?_
  refine aK (h := aC zh) rfl rfl (by first | exact rfl | (simp only [ev, zP, aa, V]; exact rfl)) (by simp only [zV, acs, reduceCtorEq, aa, V, ad, ag, af, ae, cb, cf]) ?_
  apply k0; clear k0; simp only [zP, V]
  (refine aY rfl fun _ k0 => ?_; simp only [zO, zT, acs, reduceCtorEq, aa, V, ad, ag, af, ae, cb, cf]; (repeat refine an ?_); (try refine .inl ?_); apply k0; clear k0; simp only [zP, V])
  (refine aj rfl fun _ k0 => ?_; simp only [zO, zT, acs, reduceCtorEq, aa, V, ad, ag, af, ae, cb, cf]; (repeat refine an ?_); (try refine .inl ?_); apply k0; clear k0; simp only [zP, V])
  refine am ?_
  refine ⟨by simp only [zP, aa, V]; exact rfl, rfl, ?_, rfl⟩; (repeat refine aM rfl ?_); exact bm (by exact rfl) hq16
 case b16 => exact bZ
 simp only [b7, aU]
 (refine aj rfl fun _ k0 => ?_; simp only [zO, zT, acs, reduceCtorEq, aa, V, ad, ag, af, ae, cb, cf]; (repeat refine an ?_); (try refine .inl ?_); apply k0; clear k0; simp only [zP, V])
 refine am ?_
 apply k7; clear k7; refine kp [0, 1, 2, 3, 4, 5, 6, 7, 8, 11] ?_
 refine aG ?_
 refine ⟨nr, _, rfl, ?_⟩; simp only [zF, zP, aa, V, cb, cf]
 refine VLE.of_eq ?_
 refine congrArg (fun b => AV.one (AC.bool b)) ?_
 rw [qS, zR, BI, B8, if_pos rfl, if_pos rfl, BD, Bg, B1, decide_eq_false BH]
 decide
set_option maxHeartbeats 1000000 in
theorem Bj (T : List aX) : bG Try.prog 14 [.agg [.list ndT T]] (.one (.bool (gQ T))) := by
 refine aR Try.func14 rfl (by kernel_rfl) (Nat.le_of_ble_eq_true rfl) rfl fun C hP hN hB => ?_
 replace hN : C.N = 33 := hN
 simp only [bf, V]
 refine ai fun _ k1 => ?_
 refine ak hP hN rfl ?_
 iterate 2 (refine aj rfl fun _ k0 => ?_; simp only [zO, zT, acs, reduceCtorEq, aa, V, ad, ag, af, ae, ah, ar, aA, az]; (repeat refine an ?_); (try refine .inl ?_); apply k0; clear k0; simp only [zP, V])
 refine am ?_
 apply k1; clear k1; refine kp [0, 1, 2] ?_
 refine ai fun _ k2 => ?_
 refine ai fun _ k3 => ?_
 refine ak hP hN rfl ?_
 iterate 4 (refine aj rfl fun _ k0 => ?_; simp only [zO, zT, acs, reduceCtorEq, aa, V, ad, ag, af, ae, ah, ar, aA, az]; (repeat refine an ?_); (try refine .inl ?_); apply k0; clear k0; simp only [zP, V])
 refine am ?_
 apply k3; clear k3; refine kp [0, 1, 2, 7] ?_
 refine cd (fun hc4 => ?_) (fun hc4 => ?_)
 ·(try simp only [zB, reduceCtorEq] at hc4)
  have h60 : ¬ T.length ≤ 60 := by have h9 : (60 : Int) < (T.length : Int) := hc4; omega
  refine ai fun _ k5 => ?_
  refine ak hP hN rfl ?_
  (refine aj rfl fun _ k0 => ?_; simp only [zO, zT, acs, reduceCtorEq, aa, V, ad, ag, af, ae, ah, ar, aA, az]; (repeat refine an ?_); (try refine .inl ?_); apply k0; clear k0; simp only [zP, V])
  refine am ?_
  apply k5; clear k5; refine kp [0, 1, 2, 7] ?_
  refine aG ?_
  refine ⟨nr, _, rfl, ?_⟩; simp only [zF, zP, aa, V, ah, ar, aA, az]
  refine VLE.of_eq ?_
  refine congrArg (fun b => AV.one (AC.bool b)) ?_
  symm
  first
  | exact hno
  | (unfold gQ; rw [decide_eq_false h60]; done)
  | (unfold gQ; rw [decide_eq_false h60]; rfl)
  | exact vC h60 (fun j h => hu j (by omega))
 (try simp only [zB, reduceCtorEq] at hc4)
 have h60 : T.length ≤ 60 := by have h9 : (T.length : Int) ≤ 60 := hc4; omega
 refine ay ?_
 apply k2; clear k2; refine kp [0, 1, 2, 7] ?_
 refine ai fun _ k6 => ?_
 refine ai fun _ k7 => ?_
 refine ak hP hN rfl ?_
 iterate 4 (refine aj rfl fun _ k0 => ?_; simp only [zO, zT, acs, reduceCtorEq, aa, V, ad, ag, af, ae, ah, ar, aA, az]; (repeat refine an ?_); (try refine .inl ?_); apply k0; clear k0; simp only [zP, V])
 refine am ?_
 apply k7; clear k7; refine kp [0, 1, 2, 7, 10, 11] ?_
 refine aB ?_
 refine aZ (fun n8 s8 => ∃ (i : Nat), (i ≤ T.length) ∧ (∀ j, j < i → (T.getD j nd0).1.length ≤ 20 ∧ (T.getD j nd0).2.2.1.length ≤ 20) ∧ n8 = T.length - i ∧ s8 = { env := [(1, .one (.ptr 0 0 0 0)), (2, .one (.bool false)), (10, .one (.int .i64 (T.length : Int))), (11, .one (.int .i64 (i : Int)))], L := [.vars 29 [.list ndT T]] }) ?_ ?_
 ·exact ⟨_, _, ax [1, 2, 10, 11], 0, Nat.zero_le _, fun j h => by omega, rfl, rfl⟩
 rintro n8 s8 ⟨i, hi, hu, rfl, rfl⟩
 refine ai fun _ k9 => ?_
 refine ak hP hN rfl ?_
 (refine aj rfl fun _ k0 => ?_; simp only [zO, zT, acs, reduceCtorEq, aa, V, ad, ag, af, ae, ah, ar, aA, az]; (repeat refine an ?_); (try refine .inl ?_); apply k0; clear k0; simp only [zP, V])
 refine am ?_
 apply k9; clear k9; refine kp [1, 2, 10, 11, 12] ?_
 refine ai fun _ k10 => ?_
 refine cd (fun hc11 => ?_) (fun hc11 => ?_)
 ·(try simp only [zB, reduceCtorEq] at hc11)
  refine ay ?_
  apply k10; clear k10; refine kp [1, 2, 10, 11, 12] ?_
  refine ai fun _ k12 => ?_
  refine aB ?_
  refine ai fun _ k13 => ?_
  refine ak hP hN rfl ?_
  iterate 2 (refine aj rfl fun _ k0 => ?_; simp only [zO, zT, acs, reduceCtorEq, aa, V, ad, ag, af, ae, ah, ar, aA, az]; (repeat refine an ?_); (try refine .inl ?_); apply k0; clear k0; simp only [zP, V])
  refine am ?_
  apply k13; clear k13; refine kp [1, 2, 3, 10, 11, 12] ?_
  refine ai fun _ k14 => ?_
  refine ak hP hN rfl ?_
  iterate 9 (refine aj rfl fun _ k0 => ?_; simp only [zO, zT, acs, reduceCtorEq, aa, V, ad, ag, af, ae, ah, ar, aA, az]; (repeat refine an ?_); (try refine .inl ?_); apply k0; clear k0; simp only [zP, V])
  refine' aN (want := false) 8 rfl (m := 22) (by simp only [zP, aa, V]; exact rfl) (by kernel_rfl) rfl rfl rfl rfl rfl (fun hg15 => ?a15) ?b15 ?c15
  case a15 =>
   have hq15 := hg15; (try simp only [zB, reduceCtorEq] at hg15); simp only [zE]
   iterate 8 (refine aY rfl fun _ k0 => ?_; simp only [zO, zT, acs, reduceCtorEq, aa, V, ad, ag, af, ae, ah, ar, aA, az]; (repeat refine an ?_); (try refine .inl ?_); apply k0; clear k0; simp only [zP, V])
   (refine aj rfl fun _ k0 => ?_; simp only [zO, zT, acs, reduceCtorEq, aa, V, ad, ag, af, ae, ah, ar, aA, az]; (repeat refine an ?_); (try refine .inl ?_); apply k0; clear k0; simp only [zP, V])
   refine am ?_
   refine ⟨by simp only [zP, aa, V]; exact rfl, rfl, ?_, rfl⟩; (repeat refine aM rfl ?_); exact bm (by exact rfl) hq15
  case b15 => exact bZ
  simp only [b7, aU]
  refine am ?_
  apply k14; clear k14; refine kp [1, 2, 3, 10, 11, 12, 31] ?_
  refine cd (fun hc16 => ?_) (fun hc16 => ?_)
  ·(try simp only [zB, reduceCtorEq] at hc16)
   have hno : gQ T = false := Bo (i := i) (by omega) (Or.elim hc16 (fun h9 => .inl (by have h8 : (20 : Int) < ((T.getD i nd0).1.length : Int) := h9; omega)) (fun h9 => .inr (by have h8 : (20 : Int) < ((T.getD i nd0).2.2.1.length : Int) := h9; omega)))
   refine ai fun _ k17 => ?_
   refine ak hP hN rfl ?_
   (refine aj rfl fun _ k0 => ?_; simp only [zO, zT, acs, reduceCtorEq, aa, V, ad, ag, af, ae, ah, ar, aA, az]; (repeat refine an ?_); (try refine .inl ?_); apply k0; clear k0; simp only [zP, V])
   refine am ?_
   apply k17; clear k17; refine kp [1, 2, 3, 10, 11, 12, 31] ?_
   refine aG ?_
   refine ⟨nr, _, rfl, ?_⟩; simp only [zF, zP, aa, V, ah, ar, aA, az]
   refine VLE.of_eq ?_
   refine congrArg (fun b => AV.one (AC.bool b)) ?_
   symm
   first
   | exact hno
   | (unfold gQ; rw [decide_eq_false h60]; done)
   | (unfold gQ; rw [decide_eq_false h60]; rfl)
   | exact vC h60 (fun j h => hu j (by omega))
  (try simp only [zB, reduceCtorEq] at hc16)
  have hyes : (T.getD i nd0).1.length ≤ 20 ∧ (T.getD i nd0).2.2.1.length ≤ 20 := ⟨by have h8 : ((T.getD i nd0).1.length : Int) ≤ 20 := hc16.1; omega, by have h8 : ((T.getD i nd0).2.2.1.length : Int) ≤ 20 := hc16.2; omega⟩
  refine ay ?_
  apply k12; clear k12; refine kp [1, 2, 3, 10, 11, 12, 31] ?_
  refine ak hP hN rfl ?_
  iterate 2 (refine aj rfl fun _ k0 => ?_; simp only [zO, zT, acs, reduceCtorEq, aa, V, ad, ag, af, ae, ah, ar, aA, az]; (repeat refine an ?_); (try refine .inl ?_); apply k0; clear k0; simp only [zP, V])
  refine am ?_
  refine ⟨_, _, ?_, ax [1, 2, 10, 11], i + 1, by omega, fun j h => ?_, rfl, rfl⟩
  · omega
  · by_cases e : j = i
    · rw [e]; exact hyes
    · exact hu j (by omega)
 (try simp only [zB, reduceCtorEq] at hc11)
 refine aV ?_
 apply k6; clear k6; refine kp [1, 2, 10, 11, 12] ?_
 refine ai fun _ k18 => ?_
 refine ak hP hN rfl ?_
 (refine aj rfl fun _ k0 => ?_; simp only [zO, zT, acs, reduceCtorEq, aa, V, ad, ag, af, ae, ah, ar, aA, az]; (repeat refine an ?_); (try refine .inl ?_); apply k0; clear k0; simp only [zP, V])
 refine am ?_
 apply k18; clear k18; refine kp [1, 2, 10, 11, 12] ?_
 refine aG ?_
 refine ⟨nr, _, rfl, ?_⟩; simp only [zF, zP, aa, V, ah, ar, aA, az]
 refine VLE.of_eq ?_
 refine congrArg (fun b => AV.one (AC.bool b)) ?_
 symm
 first
 | exact hno
 | (unfold gQ; rw [decide_eq_false h60]; done)
 | (unfold gQ; rw [decide_eq_false h60]; rfl)
 | exact vC h60 (fun j h => hu j (by omega))
set_option maxHeartbeats 1500000 in
theorem zJ (T : List aX) (hT : T.length ≤ 60) (hK : ∀ x ∈ T, x.2.2.1.length ≤ 20) : bG Try.prog 15 [.agg [.list ndT T]] (.one (.int .i64 ((fm T T.length).2))) := by
 refine aR Try.func15 rfl (by kernel_rfl) (Nat.le_of_ble_eq_true rfl) rfl fun C hP hN hB => ?_
 replace hN : C.N = 69 := hN
 simp only [bf, V]
 refine ai fun _ k1 => ?_
 refine ak hP hN rfl ?_
 iterate 2 (refine aj rfl fun _ k0 => ?_; simp only [zO, zT, acs, reduceCtorEq, aa, V, ad, ag, af, ae, ah, ar, aA, az, aD]; (repeat refine And.intro (by first | omega | assumption | exact rfl | exact hov) ?_); (try refine .inl ?_); apply k0; clear k0; simp only [zP, V])
 refine am ?_
 apply k1; clear k1; refine kp [0, 1, 2] ?_
 refine ai fun _ k2 => ?_
 refine ak hP hN rfl ?_
 iterate 3 (refine aj rfl fun _ k0 => ?_; simp only [zO, zT, acs, reduceCtorEq, aa, V, ad, ag, af, ae, ah, ar, aA, az, aD]; (repeat refine And.intro (by first | omega | assumption | exact rfl | exact hov) ?_); (try refine .inl ?_); apply k0; clear k0; simp only [zP, V])
 (refine aj rfl fun _ k0 => ?_; simp only [zE, op1, ev, lkp, cW, bJ, bI, d5, Nat.mul_one, bS, cH, acs, Ty.dflt, zG, bW, ca, eQ, dS, cE, cV, dZ, Nat.div_one, cD, cZ, Ty.size, bq, dite_true, cL, reduceCtorEq, aa, V, ad, ag, af, ae, Try.el27, Try.el41, Try.st29, Try.td27, Try.td29, Try.td3, Try.td41, ah, ar, aA, az, aD]; (repeat refine And.intro (by first | omega | assumption | exact rfl | exact hov) ?_); (try refine .inl ?_); apply k0; clear k0; simp only [zP, V])
 (refine aj rfl fun _ k0 => ?_; simp only [zO, zT, acs, reduceCtorEq, aa, V, ad, ag, af, ae, ah, ar, aA, az, aD]; (repeat refine And.intro (by first | omega | assumption | exact rfl | exact hov) ?_); (try refine .inl ?_); apply k0; clear k0; simp only [zP, V])
 refine am ?_
 apply k2; clear k2; refine kp [0, 1, 2, 3] ?_
 refine ai fun _ k3 => ?_
 refine ak hP hN rfl ?_
 (refine aj rfl fun _ k0 => ?_; simp only [zO, zT, acs, reduceCtorEq, aa, V, ad, ag, af, ae, ah, ar, aA, az, aD]; (repeat refine And.intro (by first | omega | assumption | exact rfl | exact hov) ?_); (try refine .inl ?_); apply k0; clear k0; simp only [zP, V])
 refine am ?_
 apply k3; clear k3; refine kp [0, 1, 2, 3, 4] ?_
 refine ai fun _ k4 => ?_
 refine ai fun _ k5 => ?_
 refine ak hP hN rfl ?_
 iterate 3 (refine aj rfl fun _ k0 => ?_; simp only [zO, zT, acs, reduceCtorEq, aa, V, ad, ag, af, ae, ah, ar, aA, az, aD]; (repeat refine And.intro (by first | omega | assumption | exact rfl | exact hov) ?_); (try refine .inl ?_); apply k0; clear k0; simp only [zP, V])
 refine am ?_
 apply k5; clear k5; refine kp [0, 1, 2, 3, 4, 13, 14] ?_
 refine aB ?_
 refine aZ (fun n6 s6 => ∃ (i : Nat), (i ≤ T.length) ∧ n6 = T.length - i ∧ s6 = { env := [(1, .one (.ptr 0 0 0 0)), (2, .one (.int .i64 0)), (3, .one (.row 1 0)), (4, .one (.int .i64 (fm T i).2)), (13, .one (.int .i64 (T.length : Int))), (14, .one (.int .i64 (i : Int)))], L := [.vars 29 [.list ndT T], .row (.int .i64) 3 0 (fm T i).1] }) ?_ ?_
 ·exact ⟨_, _, ax [1, 2, 3, 4, 13, 14], 0, Nat.zero_le _, rfl, rfl⟩
 rintro n6 s6 ⟨i, hi, rfl, rfl⟩
 refine ai fun _ k7 => ?_
 refine ak hP hN rfl ?_
 (refine aj rfl fun _ k0 => ?_; simp only [zO, zT, acs, reduceCtorEq, aa, V, ad, ag, af, ae, ah, ar, aA, az, aD]; (repeat refine And.intro (by first | omega | assumption | exact rfl | exact hov) ?_); (try refine .inl ?_); apply k0; clear k0; simp only [zP, V])
 refine am ?_
 apply k7; clear k7; refine kp [1, 2, 3, 4, 13, 14, 15] ?_
 refine ai fun _ k8 => ?_
 refine cd (fun hc9 => ?_) (fun hc9 => ?_)
 ·(try simp only [zB, reduceCtorEq] at hc9)
  refine ay ?_
  apply k8; clear k8; refine kp [1, 2, 3, 4, 13, 14, 15] ?_
  refine ai fun _ k10 => ?_
  refine aB ?_
  refine ai fun _ k11 => ?_
  obtain ⟨⟨hsl, hsr⟩, hs0, hs1⟩ := wL T i
  have hil : i < T.length := by omega
  obtain ⟨hpl, hpr⟩ := vO T i
  have hpi := hpr i
  have hkm : (T.getD i nd0) ∈ T := by rw [List.getD, List.getElem?_eq_getElem hil]; exact List.getElem_mem hil
  have hkl := hK _ hkm
  refine ak hP hN rfl ?_
  iterate 2 (refine aj rfl fun _ k0 => ?_; simp only [zO, zT, acs, reduceCtorEq, aa, V, ad, ag, af, ae, ah, ar, aA, az, aD]; (repeat refine And.intro (by first | omega | assumption | exact rfl | exact hov) ?_); (try refine .inl ?_); apply k0; clear k0; simp only [zP, V])
  refine am ?_
  apply k11; clear k11; refine kp [1, 2, 3, 4, 5, 13, 14, 15] ?_
  refine ai fun _ k12 => ?_
  refine ai fun _ k13 => ?_
  refine ak hP hN rfl ?_
  iterate 2 (refine aj rfl fun _ k0 => ?_; simp only [zO, zT, acs, reduceCtorEq, aa, V, ad, ag, af, ae, ah, ar, aA, az, aD]; (repeat refine And.intro (by first | omega | assumption | exact rfl | exact hov) ?_); (try refine .inl ?_); apply k0; clear k0; simp only [zP, V])
  refine am ?_
  apply k13; clear k13; refine kp [1, 2, 3, 4, 5, 13, 14, 15, 18] ?_
  refine cd (fun hc14 => ?_) (fun hc14 => ?_)
  ·(try simp only [zB, reduceCtorEq] at hc14)
   have h1 : (fm T i).1.set i 1 = fh T i := by unfold fh; rw [if_pos (by omega)]
   refine ak hP hN rfl ?_
   iterate 4 (refine aj rfl fun _ k0 => ?_; simp only [zO, zT, acs, reduceCtorEq, aa, V, ad, ag, af, ae, ah, ar, aA, az, aD]; (repeat refine And.intro (by first | omega | assumption | exact rfl | exact hov) ?_); (try refine .inl ?_); apply k0; clear k0; simp only [zP, V])
   refine am ?_
   apply k12; clear k12; refine kp [1, 2, 3, 4, 5, 13, 14, 15, 18] ?_
   refine ai fun _ k15 => ?_
   rw [h1]
   refine ak hP hN rfl ?_
   iterate 8 (refine aj rfl fun _ k0 => ?_; simp only [zO, zT, acs, reduceCtorEq, aa, V, ad, ag, af, ae, ah, ar, aA, az, aD]; (repeat refine And.intro (by first | omega | assumption | exact rfl | exact hov) ?_); (try refine .inl ?_); apply k0; clear k0; simp only [zP, V])
   refine am ?_
   apply k15; clear k15; refine kp [1, 2, 3, 4, 5, 13, 14, 15, 18] ?_
   refine ai fun _ k16 => ?_
   refine ak hP hN rfl ?_
   iterate 8 (refine aj rfl fun _ k0 => ?_; simp only [zO, zT, acs, reduceCtorEq, aa, V, ad, ag, af, ae, ah, ar, aA, az, aD]; (repeat refine And.intro (by first | omega | assumption | exact rfl | exact hov) ?_); (try refine .inl ?_); apply k0; clear k0; simp only [zP, V])
   refine am ?_
   apply k16; clear k16; refine kp [1, 2, 3, 4, 5, 13, 14, 15, 18, 34, 35, 36] ?_
   refine aB ?_
   refine aZ (fun n17 s17 => ∃ (j : Nat), (j ≤ (T.getD i nd0).2.2.1.length) ∧ n17 = (T.getD i nd0).2.2.1.length - j ∧ s17 = { env := [(1, .one (.ptr 0 0 0 0)), (2, .one (.int .i64 0)), (3, .one (.row 1 0)), (4, .one (.int .i64 (min 2001 ((fm T i).2 + (fh T i).getD i 0)))), (5, .one (.int .i64 (i : Int))), (13, .one (.int .i64 (T.length : Int))), (14, .one (.int .i64 (i : Int))), (34, .one (.list kdT (T.getD i nd0).2.2.1)), (35, .one (.int .i64 ((T.getD i nd0).2.2.1.length : Int))), (36, .one (.int .i64 (j : Int)))], L := [.vars 29 [.list ndT T], .row (.int .i64) 3 0 (((T.getD i nd0).2.2.1.take j).foldl (er T.length i) (fh T i))] }) ?_ ?_
   ·exact ⟨_, _, ax [1, 2, 3, 4, 5, 13, 14, 34, 35, 36], 0, Nat.zero_le _, rfl, rfl⟩
   rintro n17 s17 ⟨j, hj, rfl, rfl⟩
   refine ai fun _ k18 => ?_
   refine ak hP hN rfl ?_
   (refine aj rfl fun _ k0 => ?_; simp only [zO, zT, acs, reduceCtorEq, aa, V, ad, ag, af, ae, ah, ar, aA, az, aD]; (repeat refine And.intro (by first | omega | assumption | exact rfl | exact hov) ?_); (try refine .inl ?_); apply k0; clear k0; simp only [zP, V])
   refine am ?_
   apply k18; clear k18; refine kp [1, 2, 3, 4, 5, 13, 14, 34, 35, 36, 37] ?_
   refine ai fun _ k19 => ?_
   refine cd (fun hc20 => ?_) (fun hc20 => ?_)
   ·(try simp only [zB, reduceCtorEq] at hc20)
    have hjl9 : j < (T.getD i nd0).2.2.1.length := by have h9 : (j : Int) < ((T.getD i nd0).2.2.1.length : Int) := hc20; omega
    refine ay ?_
    apply k19; clear k19; refine kp [1, 2, 3, 4, 5, 13, 14, 34, 35, 36, 37] ?_
    refine ai fun _ k21 => ?_
    refine aB ?_
    refine ai fun _ k22 => ?_
    have hjl : j < (T.getD i nd0).2.2.1.length := hjl9
    refine ak hP hN rfl ?_
    iterate 4 (refine aj rfl fun _ k0 => ?_; simp only [zO, zT, acs, reduceCtorEq, aa, V, ad, ag, af, ae, ah, ar, aA, az, aD]; (repeat refine And.intro (by first | omega | assumption | exact rfl | exact hov) ?_); (try refine .inl ?_); apply k0; clear k0; simp only [zP, V])
    refine am ?_
    apply k22; clear k22; refine kp [1, 2, 3, 4, 5, 7, 13, 14, 34, 35, 36, 37] ?_
    refine ai fun _ k23 => ?_
    obtain ⟨hll, hlr⟩ := mn (n := T.length) (i := i) ((T.getD i nd0).2.2.1.take j) (vO T i)
    have hpt := qI (n := T.length) (i := i) (l := fh T i) hjl
    have hri := hlr i
    have hrk := hlr ((T.getD i nd0).2.2.1.getD j kd0).2.1.toNat
    have hov : -9223372036854775808 ≤ (((T.getD i nd0).2.2.1.take j).foldl (er T.length i) (fh T i)).getD ((T.getD i nd0).2.2.1.getD j kd0).2.1.toNat 0 + (((T.getD i nd0).2.2.1.take j).foldl (er T.length i) (fh T i)).getD i 0 ∧ (((T.getD i nd0).2.2.1.take j).foldl (er T.length i) (fh T i)).getD ((T.getD i nd0).2.2.1.getD j kd0).2.1.toNat 0 + (((T.getD i nd0).2.2.1.take j).foldl (er T.length i) (fh T i)).getD i 0 ≤ 9223372036854775807 := by omega
    refine ak hP hN rfl ?_
    iterate 5 (refine aj rfl fun _ k0 => ?_; simp only [zO, zT, acs, reduceCtorEq, aa, V, ad, ag, af, ae, ah, ar, aA, az, aD, hll]; (repeat refine And.intro (by first | omega | assumption | exact rfl | exact hov) ?_); (try refine .inl ?_); apply k0; clear k0; simp only [zP, V])
    refine' aN (want := true) 5 rfl (m := 44) (by simp only [zP, aa, V]; exact rfl) (by kernel_rfl) rfl rfl rfl rfl rfl (fun hg24 => ?a24) ?b24 ?c24
    case a24 =>
     have hq24 := hg24; (try simp only [zB, reduceCtorEq] at hg24); simp only [zE]
     iterate 5 (refine aY rfl fun _ k0 => ?_; simp only [zO, zT, acs, reduceCtorEq, aa, V, ad, ag, af, ae, ah, ar, aA, az, aD, hll]; (repeat refine And.intro (by first | omega | assumption | exact rfl | exact hov) ?_); (try refine .inl ?_); apply k0; clear k0; simp only [zP, V])
     (refine aj rfl fun _ k0 => ?_; simp only [zO, zT, acs, reduceCtorEq, aa, V, ad, ag, af, ae, ah, ar, aA, az, aD, hll]; (repeat refine And.intro (by first | omega | assumption | exact rfl | exact hov) ?_); (try refine .inl ?_); apply k0; clear k0; simp only [zP, V])
     refine am ?_
     refine ⟨by simp only [zP, aa, V]; exact rfl, rfl, ?_, rfl⟩; (repeat refine aM rfl ?_); exact bm (by exact rfl) hq24
    case b24 => exact bZ
    simp only [b7, aU]
    refine am ?_
    apply k23; clear k23; refine kp [1, 2, 3, 4, 5, 7, 13, 14, 34, 35, 36, 37, 50] ?_
    refine cd (fun hc25 => ?_) (fun hc25 => ?_)
    ·(try simp only [zB, reduceCtorEq] at hc25)
     have hkc := hc25
     have hkr : (i : Int) < ((T.getD i nd0).2.2.1.getD j kd0).2.1 ∧ ((T.getD i nd0).2.2.1.getD j kd0).2.1 < (T.length : Int) := hkc
     refine bj hP hN Try.mixed rfl ?_
     iterate 16 (refine aj rfl fun _ k0 => ?_; simp only [zO, zT, acs, reduceCtorEq, aa, V, ad, ag, af, ae, ah, ar, aA, az, aD, hll]; (repeat refine And.intro (by first | omega | assumption | exact rfl | exact hov) ?_); (try refine .inl ?_); apply k0; clear k0; simp only [zP, V])
     refine am ?_
     refine ⟨by kernel_rfl, ?_⟩
     apply k21; clear k21; refine kp [1, 2, 3, 4, 5, 7, 13, 14, 34, 35, 36, 37, 50] ?_
     refine cT [1, 2, 3, 4, 5, 13, 14, 34, 35, 36] ?_; simp only [cq, lkp, zE, reduceCtorEq, aa]
     refine gy (L1 := [_, _]) rfl hB rfl rfl ?_
     refine ak hP hN rfl ?_
     iterate 2 (refine aj rfl fun _ k0 => ?_; simp only [zO, zT, acs, reduceCtorEq, aa, V, ad, ag, af, ae, ah, ar, aA, az, aD]; (repeat refine And.intro (by first | omega | assumption | exact rfl | exact hov) ?_); (try refine .inl ?_); apply k0; clear k0; simp only [zP, V])
     refine am ?_
     first
     | (refine ⟨_, _, ?_, ax [1, 2, 3, 4, 5, 13, 14, 34, 35, 36], j + 1, by omega, rfl, ?_⟩
        · omega
        · rw [hpt]; unfold er; rw [if_pos hkr]; all_goals rfl)
     | (refine ⟨_, _, ?_, ax [1, 2, 3, 4, 5, 13, 14, 34, 35, 36], j + 1, by omega, rfl, ?_⟩
        · omega
        · rw [hpt]; unfold er; rw [if_neg hkc]; all_goals rfl)
    (try simp only [zB, reduceCtorEq] at hc25)
    have hkc : ¬ ((i : Int) < ((T.getD i nd0).2.2.1.getD j kd0).2.1 ∧ ((T.getD i nd0).2.2.1.getD j kd0).2.1 < (T.length : Int)) := by
      have h8 : ((T.getD i nd0).2.2.1.getD j kd0).2.1 ≤ (i : Int) ∨ (T.length : Int) ≤ ((T.getD i nd0).2.2.1.getD j kd0).2.1 := hc25
      omega
    refine ay ?_
    apply k21; clear k21; refine kp [1, 2, 3, 4, 5, 7, 13, 14, 34, 35, 36, 37, 50] ?_
    refine cT [1, 2, 3, 4, 5, 13, 14, 34, 35, 36] ?_; simp only [cq, lkp, zE, reduceCtorEq, aa]
    refine gy (L1 := [_, _]) rfl hB rfl rfl ?_
    refine ak hP hN rfl ?_
    iterate 2 (refine aj rfl fun _ k0 => ?_; simp only [zO, zT, acs, reduceCtorEq, aa, V, ad, ag, af, ae, ah, ar, aA, az, aD]; (repeat refine And.intro (by first | omega | assumption | exact rfl | exact hov) ?_); (try refine .inl ?_); apply k0; clear k0; simp only [zP, V])
    refine am ?_
    first
    | (refine ⟨_, _, ?_, ax [1, 2, 3, 4, 5, 13, 14, 34, 35, 36], j + 1, by omega, rfl, ?_⟩
       · omega
       · rw [hpt]; unfold er; rw [if_pos hkr]; all_goals rfl)
    | (refine ⟨_, _, ?_, ax [1, 2, 3, 4, 5, 13, 14, 34, 35, 36], j + 1, by omega, rfl, ?_⟩
       · omega
       · rw [hpt]; unfold er; rw [if_neg hkc]; all_goals rfl)
   (try simp only [zB, reduceCtorEq] at hc20)
   have hje : (T.getD i nd0).2.2.1.length ≤ j := by have h9 : ((T.getD i nd0).2.2.1.length : Int) ≤ (j : Int) := hc20; omega
   refine aV ?_
   apply k10; clear k10; refine kp [1, 2, 3, 4, 5, 13, 14, 34, 35, 36, 37] ?_
   refine ak hP hN rfl ?_
   iterate 2 (refine aj rfl fun _ k0 => ?_; simp only [zO, zT, acs, reduceCtorEq, aa, V, ad, ag, af, ae, ah, ar, aA, az, aD]; (repeat refine And.intro (by first | omega | assumption | exact rfl | exact hov) ?_); (try refine .inl ?_); apply k0; clear k0; simp only [zP, V])
   refine am ?_
   refine ⟨_, _, ?_, ax [1, 2, 3, 4, 13, 14], i + 1, by omega, rfl, ?_⟩
   · omega
   · rw [qZ, List.take_of_length_le hje]; rfl
  (try simp only [zB, reduceCtorEq] at hc14)
  have h1 : (fm T i).1 = fh T i := by unfold fh; rw [if_neg (by omega)]
  refine ay ?_
  apply k12; clear k12; refine kp [1, 2, 3, 4, 5, 13, 14, 15, 18] ?_
  refine ai fun _ k26 => ?_
  rw [h1]
  refine ak hP hN rfl ?_
  iterate 8 (refine aj rfl fun _ k0 => ?_; simp only [zO, zT, acs, reduceCtorEq, aa, V, ad, ag, af, ae, ah, ar, aA, az, aD]; (repeat refine And.intro (by first | omega | assumption | exact rfl | exact hov) ?_); (try refine .inl ?_); apply k0; clear k0; simp only [zP, V])
  refine am ?_
  apply k26; clear k26; refine kp [1, 2, 3, 4, 5, 13, 14, 15, 18] ?_
  refine ai fun _ k27 => ?_
  refine ak hP hN rfl ?_
  iterate 8 (refine aj rfl fun _ k0 => ?_; simp only [zO, zT, acs, reduceCtorEq, aa, V, ad, ag, af, ae, ah, ar, aA, az, aD]; (repeat refine And.intro (by first | omega | assumption | exact rfl | exact hov) ?_); (try refine .inl ?_); apply k0; clear k0; simp only [zP, V])
  refine am ?_
  apply k27; clear k27; refine kp [1, 2, 3, 4, 5, 13, 14, 15, 18, 34, 35, 36] ?_
  refine aB ?_
  refine aZ (fun n28 s28 => ∃ (j : Nat), (j ≤ (T.getD i nd0).2.2.1.length) ∧ n28 = (T.getD i nd0).2.2.1.length - j ∧ s28 = { env := [(1, .one (.ptr 0 0 0 0)), (2, .one (.int .i64 0)), (3, .one (.row 1 0)), (4, .one (.int .i64 (min 2001 ((fm T i).2 + (fh T i).getD i 0)))), (5, .one (.int .i64 (i : Int))), (13, .one (.int .i64 (T.length : Int))), (14, .one (.int .i64 (i : Int))), (34, .one (.list kdT (T.getD i nd0).2.2.1)), (35, .one (.int .i64 ((T.getD i nd0).2.2.1.length : Int))), (36, .one (.int .i64 (j : Int)))], L := [.vars 29 [.list ndT T], .row (.int .i64) 3 0 (((T.getD i nd0).2.2.1.take j).foldl (er T.length i) (fh T i))] }) ?_ ?_
  ·exact ⟨_, _, ax [1, 2, 3, 4, 5, 13, 14, 34, 35, 36], 0, Nat.zero_le _, rfl, rfl⟩
  rintro n28 s28 ⟨j, hj, rfl, rfl⟩
  refine ai fun _ k29 => ?_
  refine ak hP hN rfl ?_
  (refine aj rfl fun _ k0 => ?_; simp only [zO, zT, acs, reduceCtorEq, aa, V, ad, ag, af, ae, ah, ar, aA, az, aD]; (repeat refine And.intro (by first | omega | assumption | exact rfl | exact hov) ?_); (try refine .inl ?_); apply k0; clear k0; simp only [zP, V])
  refine am ?_
  apply k29; clear k29; refine kp [1, 2, 3, 4, 5, 13, 14, 34, 35, 36, 37] ?_
  refine ai fun _ k30 => ?_
  refine cd (fun hc31 => ?_) (fun hc31 => ?_)
  ·(try simp only [zB, reduceCtorEq] at hc31)
   have hjl9 : j < (T.getD i nd0).2.2.1.length := by have h9 : (j : Int) < ((T.getD i nd0).2.2.1.length : Int) := hc31; omega
   refine ay ?_
   apply k30; clear k30; refine kp [1, 2, 3, 4, 5, 13, 14, 34, 35, 36, 37] ?_
   refine ai fun _ k32 => ?_
   refine aB ?_
   refine ai fun _ k33 => ?_
   have hjl : j < (T.getD i nd0).2.2.1.length := hjl9
   refine ak hP hN rfl ?_
   iterate 4 (refine aj rfl fun _ k0 => ?_; simp only [zO, zT, acs, reduceCtorEq, aa, V, ad, ag, af, ae, ah, ar, aA, az, aD]; (repeat refine And.intro (by first | omega | assumption | exact rfl | exact hov) ?_); (try refine .inl ?_); apply k0; clear k0; simp only [zP, V])
   refine am ?_
   apply k33; clear k33; refine kp [1, 2, 3, 4, 5, 7, 13, 14, 34, 35, 36, 37] ?_
   refine ai fun _ k34 => ?_
   obtain ⟨hll, hlr⟩ := mn (n := T.length) (i := i) ((T.getD i nd0).2.2.1.take j) (vO T i)
   have hpt := qI (n := T.length) (i := i) (l := fh T i) hjl
   have hri := hlr i
   have hrk := hlr ((T.getD i nd0).2.2.1.getD j kd0).2.1.toNat
   have hov : -9223372036854775808 ≤ (((T.getD i nd0).2.2.1.take j).foldl (er T.length i) (fh T i)).getD ((T.getD i nd0).2.2.1.getD j kd0).2.1.toNat 0 + (((T.getD i nd0).2.2.1.take j).foldl (er T.length i) (fh T i)).getD i 0 ∧ (((T.getD i nd0).2.2.1.take j).foldl (er T.length i) (fh T i)).getD ((T.getD i nd0).2.2.1.getD j kd0).2.1.toNat 0 + (((T.getD i nd0).2.2.1.take j).foldl (er T.length i) (fh T i)).getD i 0 ≤ 9223372036854775807 := by omega
   refine ak hP hN rfl ?_
   iterate 5 (refine aj rfl fun _ k0 => ?_; simp only [zO, zT, acs, reduceCtorEq, aa, V, ad, ag, af, ae, ah, ar, aA, az, aD, hll]; (repeat refine And.intro (by first | omega | assumption | exact rfl | exact hov) ?_); (try refine .inl ?_); apply k0; clear k0; simp only [zP, V])
   refine' aN (want := true) 5 rfl (m := 44) (by simp only [zP, aa, V]; exact rfl) (by kernel_rfl) rfl rfl rfl rfl rfl (fun hg35 => ?a35) ?b35 ?c35
   case a35 =>
    have hq35 := hg35; (try simp only [zB, reduceCtorEq] at hg35); simp only [zE]
    iterate 5 (refine aY rfl fun _ k0 => ?_; simp only [zO, zT, acs, reduceCtorEq, aa, V, ad, ag, af, ae, ah, ar, aA, az, aD, hll]; (repeat refine And.intro (by first | omega | assumption | exact rfl | exact hov) ?_); (try refine .inl ?_); apply k0; clear k0; simp only [zP, V])
    (refine aj rfl fun _ k0 => ?_; simp only [zO, zT, acs, reduceCtorEq, aa, V, ad, ag, af, ae, ah, ar, aA, az, aD, hll]; (repeat refine And.intro (by first | omega | assumption | exact rfl | exact hov) ?_); (try refine .inl ?_); apply k0; clear k0; simp only [zP, V])
    refine am ?_
    refine ⟨by simp only [zP, aa, V]; exact rfl, rfl, ?_, rfl⟩; (repeat refine aM rfl ?_); exact bm (by exact rfl) hq35
   case b35 => exact bZ
   simp only [b7, aU]
   refine am ?_
   apply k34; clear k34; refine kp [1, 2, 3, 4, 5, 7, 13, 14, 34, 35, 36, 37, 50] ?_
   refine cd (fun hc36 => ?_) (fun hc36 => ?_)
   ·(try simp only [zB, reduceCtorEq] at hc36)
    have hkc := hc36
    have hkr : (i : Int) < ((T.getD i nd0).2.2.1.getD j kd0).2.1 ∧ ((T.getD i nd0).2.2.1.getD j kd0).2.1 < (T.length : Int) := hkc
    refine bj hP hN Try.mixed rfl ?_
    iterate 16 (refine aj rfl fun _ k0 => ?_; simp only [zO, zT, acs, reduceCtorEq, aa, V, ad, ag, af, ae, ah, ar, aA, az, aD, hll]; (repeat refine And.intro (by first | omega | assumption | exact rfl | exact hov) ?_); (try refine .inl ?_); apply k0; clear k0; simp only [zP, V])
    refine am ?_
    refine ⟨by kernel_rfl, ?_⟩
    apply k32; clear k32; refine kp [1, 2, 3, 4, 5, 7, 13, 14, 34, 35, 36, 37, 50] ?_
    refine cT [1, 2, 3, 4, 5, 13, 14, 34, 35, 36] ?_; simp only [cq, lkp, zE, reduceCtorEq, aa]
    refine gy (L1 := [_, _]) rfl hB rfl rfl ?_
    refine ak hP hN rfl ?_
    iterate 2 (refine aj rfl fun _ k0 => ?_; simp only [zO, zT, acs, reduceCtorEq, aa, V, ad, ag, af, ae, ah, ar, aA, az, aD]; (repeat refine And.intro (by first | omega | assumption | exact rfl | exact hov) ?_); (try refine .inl ?_); apply k0; clear k0; simp only [zP, V])
    refine am ?_
    first
    | (refine ⟨_, _, ?_, ax [1, 2, 3, 4, 5, 13, 14, 34, 35, 36], j + 1, by omega, rfl, ?_⟩
       · omega
       · rw [hpt]; unfold er; rw [if_pos hkr]; all_goals rfl)
    | (refine ⟨_, _, ?_, ax [1, 2, 3, 4, 5, 13, 14, 34, 35, 36], j + 1, by omega, rfl, ?_⟩
       · omega
       · rw [hpt]; unfold er; rw [if_neg hkc]; all_goals rfl)
   (try simp only [zB, reduceCtorEq] at hc36)
   have hkc : ¬ ((i : Int) < ((T.getD i nd0).2.2.1.getD j kd0).2.1 ∧ ((T.getD i nd0).2.2.1.getD j kd0).2.1 < (T.length : Int)) := by
     have h8 : ((T.getD i nd0).2.2.1.getD j kd0).2.1 ≤ (i : Int) ∨ (T.length : Int) ≤ ((T.getD i nd0).2.2.1.getD j kd0).2.1 := hc36
     omega
   refine ay ?_
   apply k32; clear k32; refine kp [1, 2, 3, 4, 5, 7, 13, 14, 34, 35, 36, 37, 50] ?_
   refine cT [1, 2, 3, 4, 5, 13, 14, 34, 35, 36] ?_; simp only [cq, lkp, zE, reduceCtorEq, aa]
   refine gy (L1 := [_, _]) rfl hB rfl rfl ?_
   refine ak hP hN rfl ?_
   iterate 2 (refine aj rfl fun _ k0 => ?_; simp only [zO, zT, acs, reduceCtorEq, aa, V, ad, ag, af, ae, ah, ar, aA, az, aD]; (repeat refine And.intro (by first | omega | assumption | exact rfl | exact hov) ?_); (try refine .inl ?_); apply k0; clear k0; simp only [zP, V])
   refine am ?_
   first
   | (refine ⟨_, _, ?_, ax [1, 2, 3, 4, 5, 13, 14, 34, 35, 36], j + 1, by omega, rfl, ?_⟩
      · omega
      · rw [hpt]; unfold er; rw [if_pos hkr]; all_goals rfl)
   | (refine ⟨_, _, ?_, ax [1, 2, 3, 4, 5, 13, 14, 34, 35, 36], j + 1, by omega, rfl, ?_⟩
      · omega
      · rw [hpt]; unfold er; rw [if_neg hkc]; all_goals rfl)
  (try simp only [zB, reduceCtorEq] at hc31)
  have hje : (T.getD i nd0).2.2.1.length ≤ j := by have h9 : ((T.getD i nd0).2.2.1.length : Int) ≤ (j : Int) := hc31; omega
  refine aV ?_
  apply k10; clear k10; refine kp [1, 2, 3, 4, 5, 13, 14, 34, 35, 36, 37] ?_
  refine ak hP hN rfl ?_
  iterate 2 (refine aj rfl fun _ k0 => ?_; simp only [zO, zT, acs, reduceCtorEq, aa, V, ad, ag, af, ae, ah, ar, aA, az, aD]; (repeat refine And.intro (by first | omega | assumption | exact rfl | exact hov) ?_); (try refine .inl ?_); apply k0; clear k0; simp only [zP, V])
  refine am ?_
  refine ⟨_, _, ?_, ax [1, 2, 3, 4, 13, 14], i + 1, by omega, rfl, ?_⟩
  · omega
  · rw [qZ, List.take_of_length_le hje]; rfl
 (try simp only [zB, reduceCtorEq] at hc9)
 refine aV ?_
 apply k4; clear k4; refine kp [1, 2, 3, 4, 13, 14, 15] ?_
 refine ai fun _ k37 => ?_
 have hin : i = T.length := by omega
 refine ak hP hN rfl ?_
 iterate 2 (refine aj rfl fun _ k0 => ?_; simp only [zO, zT, acs, reduceCtorEq, aa, V, ad, ag, af, ae, ah, ar, aA, az, aD]; (repeat refine And.intro (by first | omega | assumption | exact rfl | exact hov) ?_); (try refine .inl ?_); apply k0; clear k0; simp only [zP, V])
 refine am ?_
 apply k37; clear k37; refine kp [1, 2, 3, 4, 13, 14, 15] ?_
 refine aG ?_
 refine ⟨nr, _, rfl, ?_⟩; simp only [zF, zP, aa, V, ah, ar, aA, az, aD]
 refine VLE.of_eq ?_
 refine congrArg (fun n => AV.one (AC.int IntKind.i64 n)) ?_
 rw [hin]
set_option maxHeartbeats 1500000 in
theorem yU (m : Mly) (i : Nat) (hm : MOK m) : bG Try.prog 101 [m.av, .one (.list (.int .i64) (m.cls i))] (.one (.list (.int .i64) (m.cls (i + 1)))) := by
 have ol := hm.ol; have hi1 := hm.i1; have hi2 := hm.i2; have hn2 := hm.n2
 have hcl := jQ m i
 have hnl := pM m (m.cls i)
 refine aR Try.func101 rfl (by kernel_rfl) (Nat.le_of_ble_eq_true rfl) rfl fun C hP hN hB => ?_
 replace hN : C.N = 99 := hN
 simp only [bf, V]
 refine ai fun _ k1 => ?_
 refine ak hP hN rfl ?_
 iterate 2 (refine aj rfl fun _ k0 => ?_; simp only [zO, zT, acs, reduceCtorEq, aa, V, ad, ag, af, ae, Mly.av, ah]; (repeat refine an ?_); (try refine .inl ?_); apply k0; clear k0; simp only [zP, V])
 refine am ?_
 apply k1; clear k1; refine kp [0, 1, 2, 4] ?_
 refine ai fun _ k2 => ?_
 refine ak hP hN rfl ?_
 (refine aj rfl fun _ k0 => ?_; simp only [zO, zT, acs, reduceCtorEq, aa, V, ad, ag, af, ae, Mly.av, ah]; (repeat refine an ?_); (try refine .inl ?_); apply k0; clear k0; simp only [zP, V])
 refine am ?_
 apply k2; clear k2; refine kp [0, 1, 2, 4, 5] ?_
 refine ai fun _ k3 => ?_
 refine ak hP hN rfl ?_
 (refine aj rfl fun _ k0 => ?_; simp only [zO, zT, acs, reduceCtorEq, aa, V, ad, ag, af, ae, Mly.av, ah]; (repeat refine an ?_); (try refine .inl ?_); apply k0; clear k0; simp only [zP, V])
 refine am ?_
 apply k3; clear k3; refine kp [0, 1, 2, 4, 5, 6] ?_
 refine ai fun _ k4 => ?_
 refine ai fun _ k5 => ?_
 refine ak hP hN rfl ?_
 (refine aj rfl fun _ k0 => ?_; simp only [zO, zT, acs, reduceCtorEq, aa, V, ad, ag, af, ae, Mly.av, ah]; (repeat refine an ?_); (try refine .inl ?_); apply k0; clear k0; simp only [zP, V])
 refine am ?_
 apply k5; clear k5; refine kp [0, 1, 2, 4, 5, 6, 7] ?_
 refine aB ?_
 refine eE 5 (.int .i64) 3 (by decide) rfl ?_; simp only [aw, aH, aP, bc, Nat.zero_add, V]
 refine aZ (fun n6 s6 => ∃ (s : Nat) (v : Nat), (s ≤ m.nx.length) ∧ n6 = m.nx.length - s ∧ s6 = { env := [(1, .one (.list (.int .i64) (m.cls i))), (2, .one (.ptr 0 0 0 0)), (4, .one .nils), (5, .one (.row 1 v)), (6, .one (.int .i64 ((cY (m.sig (m.cls i)) s).length : Int))), (7, .one (.int .i64 (s : Int)))], L := [.vars 24 [.int .i64 m.inp, .int .i64 m.st, .list (.list (.int .i64)) m.nx, .list (.list (.int .i64)) m.ot], .row (.int .i64) 3 v ((m.nextL (m.cls i)).take s)] }) ?_ ?_
 ·exact ⟨_, _, ax [1, 2, 4, 5, 6, 7], 0, 0, Nat.zero_le _, rfl, rfl⟩
 rintro n6 s6 ⟨s, v, hs, rfl, rfl⟩
 refine ai fun _ k7 => ?_
 refine ai fun _ k8 => ?_
 refine ak hP hN rfl ?_
 iterate 4 (refine aj rfl fun _ k0 => ?_; simp only [zO, zT, acs, reduceCtorEq, aa, V, ad, ag, af, ae, Mly.av, ah]; (repeat refine an ?_); (try refine .inl ?_); apply k0; clear k0; simp only [zP, V])
 refine am ?_
 apply k8; clear k8; refine kp [1, 2, 4, 5, 6, 7, 15] ?_
 refine cd (fun hc9 => ?_) (fun hc9 => ?_)
 ·(try simp only [zB, reduceCtorEq] at hc9)
  refine ay ?_
  apply k7; clear k7; refine kp [1, 2, 4, 5, 6, 7, 15] ?_
  refine ai fun _ k10 => ?_
  refine aB ?_
  refine ai fun _ k11 => ?_
  have hsn : s < m.nx.length := by omega
  have hdl := mh (m.sig (m.cls i)) s
  have htl : ((m.nextL (m.cls i)).take s).length = s := by rw [List.length_take]; omega
  refine ak hP hN rfl ?_
  (refine aj rfl fun _ k0 => ?_; simp only [zO, zT, acs, reduceCtorEq, aa, V, ad, ag, af, ae, Mly.av, ah]; (repeat refine an ?_); (try refine .inl ?_); apply k0; clear k0; simp only [zP, V])
  refine am ?_
  apply k11; clear k11; refine kp [1, 2, 4, 5, 6, 7, 8, 15] ?_
  refine ai fun _ k12 => ?_
  refine ai fun _ k13 => ?_
  refine ak hP hN rfl ?_
  iterate 3 (refine aj rfl fun _ k0 => ?_; simp only [zO, zT, acs, reduceCtorEq, aa, V, ad, ag, af, ae, Mly.av, ah]; (repeat refine an ?_); (try refine .inl ?_); apply k0; clear k0; simp only [zP, V])
  refine am ?_
  apply k13; clear k13; refine kp [1, 2, 4, 5, 6, 7, 8, 9, 15] ?_
  refine aB ?_
  refine aZ (fun n14 s14 => ∃ (k : Nat) (fd : Int), (k ≤ s) ∧ (fnF m (m.cls i) s k fd) ∧ n14 = k + 1 ∧ s14 = { env := [(1, .one (.list (.int .i64) (m.cls i))), (2, .one (.ptr 0 0 0 0)), (4, .one .nils), (5, .one (.row 1 v)), (6, .one (.int .i64 ((cY (m.sig (m.cls i)) s).length : Int))), (7, .one (.int .i64 (s : Int))), (8, .one (.int .i64 fd)), (9, .one (.int .i64 ((k : Int) - 1))), (15, .one (.bool true))], L := [.vars 24 [.int .i64 m.inp, .int .i64 m.st, .list (.list (.int .i64)) m.nx, .list (.list (.int .i64)) m.ot], .row (.int .i64) 3 v ((m.nextL (m.cls i)).take s)] }) ?_ ?_
  ·refine ⟨_, _, ax [1, 2, 4, 5, 6, 7, 8, 9, 15], s, -1, Nat.le_refl _, .inl ⟨rfl, fun t h1 h2 => by omega⟩, rfl, ?_⟩
   rw [decide_eq_true (by omega)]; rfl
  rintro n14 s14 ⟨k, fd, hk, hfn, rfl, rfl⟩
  refine ai fun _ k15 => ?_
  refine ai fun _ k16 => ?_
  refine ak hP hN rfl ?_
  iterate 2 (refine aj rfl fun _ k0 => ?_; simp only [zO, zT, acs, reduceCtorEq, aa, V, ad, ag, af, ae, Mly.av, ah]; (repeat refine an ?_); (try refine .inl ?_); apply k0; clear k0; simp only [zP, V])
  refine am ?_
  apply k16; clear k16; refine kp [1, 2, 4, 5, 6, 7, 8, 9, 15, 21] ?_
  refine cd (fun hc17 => ?_) (fun hc17 => ?_)
  ·(try simp only [zB, reduceCtorEq] at hc17)
   refine ay ?_
   apply k15; clear k15; refine kp [1, 2, 4, 5, 6, 7, 8, 9, 15, 21] ?_
   refine ai fun _ k18 => ?_
   refine aB ?_
   refine ai fun _ k19 => ?_
   obtain ⟨t, rfl⟩ : ∃ t, k = t + 1 := ⟨k - 1, by omega⟩
   rw [show (((t + 1 : Nat) : Int) - 1) = (t : Int) by omega]
   have htn : t < m.nx.length := by omega
   refine bj hP hN Try.mixed rfl ?_
   iterate 10 (refine aj rfl fun _ k0 => ?_; simp only [zO, zT, acs, reduceCtorEq, aa, V, ad, ag, af, ae, Mly.av, ah]; (repeat refine an ?_); (try refine .inl ?_); apply k0; clear k0; simp only [zP, V])
   refine am ?_
   refine ⟨by kernel_rfl, ?_⟩
   apply k19; clear k19; refine kp [1, 2, 4, 5, 6, 7, 8, 9, 10, 15, 21] ?_
   refine ai fun _ k20 => ?_
   refine ai fun _ k21 => ?_
   refine ak hP hN rfl ?_
   (refine aj rfl fun _ k0 => ?_; simp only [zO, zT, acs, reduceCtorEq, aa, V, ad, ag, af, ae, Mly.av, ah]; (repeat refine an ?_); (try refine .inl ?_); apply k0; clear k0; simp only [zP, V])
   refine am ?_
   apply k21; clear k21; refine kp [1, 2, 4, 5, 6, 7, 8, 9, 10, 11, 15, 21] ?_
   refine aB ?_
   refine aZ (fun n22 s22 => ∃ (a : Nat) (sm : Bool), ((a : Int) ≤ m.inp) ∧ (sm = true ↔ smB m (m.cls i) s t a) ∧ n22 = m.inp.toNat - a ∧ s22 = { env := [(1, .one (.list (.int .i64) (m.cls i))), (2, .one (.ptr 0 0 0 0)), (4, .one .nils), (5, .one (.row 1 v)), (6, .one (.int .i64 ((cY (m.sig (m.cls i)) s).length : Int))), (7, .one (.int .i64 (s : Int))), (8, .one (.int .i64 fd)), (9, .one (.int .i64 (t : Int))), (10, .one (.bool sm)), (11, .one (.int .i64 (a : Int))), (15, .one (.bool true)), (21, .one (.bool true))], L := [.vars 24 [.int .i64 m.inp, .int .i64 m.st, .list (.list (.int .i64)) m.nx, .list (.list (.int .i64)) m.ot], .row (.int .i64) 3 v ((m.nextL (m.cls i)).take s)] }) ?_ ?_
   ·refine ⟨_, _, ax [1, 2, 4, 5, 6, 7, 8, 9, 10, 11, 15, 21], 0, decide ((m.cls i).getD s 0 = (m.cls i).getD t 0), by omega, by rw [decide_eq_true_eq]; exact ⟨fun h => ⟨h, fun b hb => by omega⟩, fun h => h.1⟩, rfl, ?_⟩
    rw [decide_eq_true (show (0 : Int) ≤ (t : Int) by omega)]; rfl
   rintro n22 s22 ⟨a, sm, ha, hsb, rfl, rfl⟩
   refine ai fun _ k23 => ?_
   refine ai fun _ k24 => ?_
   refine ak hP hN rfl ?_
   iterate 5 (refine aj rfl fun _ k0 => ?_; simp only [zO, zT, acs, reduceCtorEq, aa, V, ad, ag, af, ae, Mly.av, ah]; (repeat refine an ?_); (try refine .inl ?_); apply k0; clear k0; simp only [zP, V])
   refine' aN (want := true) 1 rfl (m := 37) (by simp only [zP, aa, V]; exact rfl) (by kernel_rfl) rfl rfl rfl rfl rfl (fun hg25 => ?a25) ?b25 ?c25
   case a25 =>
    have hq25 := hg25; (try simp only [zB, reduceCtorEq] at hg25); simp only [zE]
    (refine aY rfl fun _ k0 => ?_; simp only [zO, zT, acs, reduceCtorEq, aa, V, ad, ag, af, ae, Mly.av, ah]; (repeat refine an ?_); (try refine .inl ?_); apply k0; clear k0; simp only [zP, V])
    (refine aj rfl fun _ k0 => ?_; simp only [zO, zT, acs, reduceCtorEq, aa, V, ad, ag, af, ae, Mly.av, ah]; (repeat refine an ?_); (try refine .inl ?_); apply k0; clear k0; simp only [zP, V])
    refine am ?_
    refine ⟨by simp only [zP, aa, V]; exact rfl, rfl, ?_, rfl⟩; (repeat refine aM rfl ?_); exact bm (by exact rfl) hq25
   case b25 => exact bZ
   simp only [b7, aU]
   refine am ?_
   apply k24; clear k24; refine kp [1, 2, 4, 5, 6, 7, 8, 9, 10, 11, 15, 21, 39] ?_
   refine cd (fun hc26 => ?_) (fun hc26 => ?_)
   ·(try simp only [zB, reduceCtorEq] at hc26)
    have hy : (a : Int) < m.inp ∧ smB m (m.cls i) s t a := by
      have h9 : (a : Int) < m.inp ∧ sm = true := by simpa using hc26
      exact ⟨h9.1, hsb.1 h9.2⟩
    refine ay ?_
    apply k23; clear k23; refine kp [1, 2, 4, 5, 6, 7, 8, 9, 10, 11, 15, 21, 39] ?_
    refine ai fun _ k27 => ?_
    refine aB ?_
    have q1 := hm.rl s hsn; have q2 := hm.ql s hsn; have q3 := hm.rl t htn; have q4 := hm.ql t htn
    have n1 := hm.nr s a hsn (by omega)
    have n2 := hm.nr t a htn (by omega)
    refine bj hP hN Try.mixed rfl ?_
    iterate 18 (refine aj rfl fun _ k0 => ?_; simp only [zO, zT, acs, reduceCtorEq, aa, V, ad, ag, af, ae, Mly.av, ah]; (repeat refine an ?_); (try refine .inl ?_); apply k0; clear k0; simp only [zP, V])
    refine' aN (want := true) 23 rfl (m := 59) (by simp only [zP, aa, V]; exact rfl) (by kernel_rfl) rfl rfl rfl rfl rfl (fun hg28 => ?a28) ?b28 ?c28
    case a28 =>
     have hq28 := hg28; (try simp only [zB, reduceCtorEq] at hg28); simp only [zE]
     iterate 23 (refine aY rfl fun _ k0 => ?_; simp only [zO, zT, acs, reduceCtorEq, aa, V, ad, ag, af, ae, Mly.av, ah]; (repeat refine an ?_); (try refine .inl ?_); apply k0; clear k0; simp only [zP, V])
     (refine aj rfl fun _ k0 => ?_; simp only [zO, zT, acs, reduceCtorEq, aa, V, ad, ag, af, ae, Mly.av, ah]; (repeat refine an ?_); (try refine .inl ?_); apply k0; clear k0; simp only [zP, V])
     refine am ?_
     refine ⟨by simp only [zP, aa, V]; exact rfl, rfl, ?_, rfl⟩; (repeat refine aM rfl ?_); exact bm (by exact rfl) hq28
    case b28 => exact bZ
    simp only [b7, aU]
    (refine aj rfl fun _ k0 => ?_; simp only [zO, zT, acs, reduceCtorEq, aa, V, ad, ag, af, ae, Mly.av, ah]; (repeat refine an ?_); (try refine .inl ?_); apply k0; clear k0; simp only [zP, V])
    refine am ?_
    refine ⟨by kernel_rfl, ?_⟩
    apply k27; clear k27; refine kp [1, 2, 4, 5, 6, 7, 8, 9, 10, 11, 15, 21, 39] ?_
    refine ak hP hN rfl ?_
    iterate 3 (refine aj rfl fun _ k0 => ?_; simp only [zO, zT, acs, reduceCtorEq, aa, V, ad, ag, af, ae, Mly.av, ah]; (repeat refine an ?_); (try refine .inl ?_); apply k0; clear k0; simp only [zP, V])
    refine am ?_
    refine ⟨_, _, ?_, ax [1, 2, 4, 5, 6, 7, 8, 9, 10, 11, 15, 21], a + 1, _, by omega, ?_, rfl, rfl⟩
    · omega
    · rw [x6 hy.2]; simp
   (try simp only [zB, reduceCtorEq] at hc26)
   have hy : ¬ ((a : Int) < m.inp ∧ smB m (m.cls i) s t a) := by
     rintro ⟨h1, h2⟩
     have h3 := hsb.2 h2
     have h9 : m.inp ≤ (a : Int) ∨ sm = false := by simpa using hc26
     rcases h9 with h9 | h9
     · omega
     · rw [h3] at h9; cases h9
   refine aV ?_
   apply k20; clear k20; refine kp [1, 2, 4, 5, 6, 7, 8, 9, 10, 11, 15, 21, 39] ?_
   refine ai fun _ k29 => ?_
   have hsm : smB m (m.cls i) s t m.inp.toNat ↔ m.sig (m.cls i) s = m.sig (m.cls i) t := z9 hm hsn htn
   refine ak hP hN rfl ?_
   (refine aj rfl fun _ k0 => ?_; simp only [zO, zT, acs, reduceCtorEq, aa, V, ad, ag, af, ae, Mly.av, ah]; (repeat refine an ?_); (try refine .inl ?_); apply k0; clear k0; simp only [zP, V])
   refine am ?_
   apply k29; clear k29; refine kp [1, 2, 4, 5, 6, 7, 8, 9, 10, 11, 15, 21, 39, 84] ?_
   refine cd (fun hc30 => ?_) (fun hc30 => ?_)
   ·(try simp only [zB, reduceCtorEq] at hc30)
    have hy9 : smB m (m.cls i) s t a := hsb.1 hc30
    have hya : a = m.inp.toNat := by
      by_cases e : (a : Int) < m.inp
      · exact absurd ⟨e, hy9⟩ hy
      · omega
    have hsg := hsm.1 (hya ▸ hy9)
    have hfn2 := Am hsn (by omega) hsg
    have hgt : ((m.nextL (m.cls i)).take s).getD t 0 = (m.nextL (m.cls i)).getD t 0 := qt (by omega)
    refine ak hP hN rfl ?_
    iterate 5 (refine aj rfl fun _ k0 => ?_; simp only [zO, zT, acs, reduceCtorEq, aa, V, ad, ag, af, ae, Mly.av, ah, htl]; (repeat refine an ?_); (try refine .inl ?_); apply k0; clear k0; simp only [zP, V])
    refine am ?_
    apply k18; clear k18; refine kp [1, 2, 4, 5, 6, 7, 8, 9, 10, 11, 15, 21, 39, 84] ?_
    refine ak hP hN rfl ?_
    iterate 3 (refine aj rfl fun _ k0 => ?_; simp only [zO, zT, acs, reduceCtorEq, aa, V, ad, ag, af, ae, Mly.av, ah]; (repeat refine an ?_); (try refine .inl ?_); apply k0; clear k0; simp only [zP, V])
    refine am ?_
    first
    | (refine ⟨_, _, ?_, ax [1, 2, 4, 5, 6, 7, 8, 9, 15], t, _, by omega, hfn2, rfl, rfl⟩
       omega)
    | (refine ⟨_, _, ?_, ax [1, 2, 4, 5, 6, 7, 8, 9, 15], t, (m.nextL (m.cls i)).getD t 0, by omega, hfn2, rfl, ?_⟩
       · omega
       · rw [← hgt]; rfl)
   (try simp only [zB, reduceCtorEq] at hc30)
   have hy9 : ¬ smB m (m.cls i) s t a := fun h => by
     have h3 := hsb.2 h
     have h9 : sm = false := by simpa using hc30
     rw [h3] at h9; cases h9
   have hsg : ¬ m.sig (m.cls i) s = m.sig (m.cls i) t := fun h => xh (by omega) hy9 (hsm.2 h)
   have hfn2 := Bd hfn hsg
   refine ay ?_
   apply k18; clear k18; refine kp [1, 2, 4, 5, 6, 7, 8, 9, 10, 11, 15, 21, 39, 84] ?_
   refine ak hP hN rfl ?_
   iterate 3 (refine aj rfl fun _ k0 => ?_; simp only [zO, zT, acs, reduceCtorEq, aa, V, ad, ag, af, ae, Mly.av, ah]; (repeat refine an ?_); (try refine .inl ?_); apply k0; clear k0; simp only [zP, V])
   refine am ?_
   first
   | (refine ⟨_, _, ?_, ax [1, 2, 4, 5, 6, 7, 8, 9, 15], t, _, by omega, hfn2, rfl, rfl⟩
      omega)
   | (refine ⟨_, _, ?_, ax [1, 2, 4, 5, 6, 7, 8, 9, 15], t, (m.nextL (m.cls i)).getD t 0, by omega, hfn2, rfl, ?_⟩
      · omega
      · rw [← hgt]; rfl)
  (try simp only [zB, reduceCtorEq] at hc17)
  refine aV ?_
  apply k12; clear k12; refine kp [1, 2, 4, 5, 6, 7, 8, 9, 15, 21] ?_
  refine ai fun _ k31 => ?_
  refine ai fun _ k32 => ?_
  have hk0 : k = 0 := by omega
  subst hk0
  refine ak hP hN rfl ?_
  iterate 2 (refine aj rfl fun _ k0 => ?_; simp only [zO, zT, acs, reduceCtorEq, aa, V, ad, ag, af, ae, Mly.av, ah]; (repeat refine an ?_); (try refine .inl ?_); apply k0; clear k0; simp only [zP, V])
  refine am ?_
  apply k32; clear k32; refine kp [1, 2, 4, 5, 6, 7, 8, 9, 15, 21, 90] ?_
  refine cd (fun hc33 => ?_) (fun hc33 => ?_)
  ·(try simp only [zB, reduceCtorEq] at hc33)
   have hnew := AP hsn hfn (by omega)
   refine ai fun _ k34 => ?_
   refine ak hP hN rfl ?_
   iterate 2 (refine aj rfl fun _ k0 => ?_; simp only [zO, zT, acs, reduceCtorEq, aa, V, ad, ag, af, ae, Mly.av, ah]; (repeat refine an ?_); (try refine .inl ?_); apply k0; clear k0; simp only [zP, V])
   refine am ?_
   apply k34; clear k34; refine kp [1, 2, 4, 5, 6, 7, 8, 9, 15, 21, 90] ?_
   refine ak hP hN rfl ?_
   iterate 3 (refine aj rfl fun _ k0 => ?_; simp only [zO, zT, acs, reduceCtorEq, aa, V, ad, ag, af, ae, Mly.av, ah]; (repeat refine an ?_); (try refine .inl ?_); apply k0; clear k0; simp only [zP, V])
   refine am ?_
   apply k31; clear k31; refine kp [1, 2, 4, 5, 6, 7, 8, 9, 15, 21, 90] ?_
   have hnr := ji (m := m) (cl := (m.cls i)) hsn
   refine ak hP hN rfl ?_
   iterate 5 (refine aj rfl fun _ k0 => ?_; simp only [zO, zT, acs, reduceCtorEq, aa, V, ad, ag, af, ae, Mly.av, ah]; (repeat refine an ?_); (try refine .inl ?_); apply k0; clear k0; simp only [zP, V])
   refine am ?_
   apply k10; clear k10; refine kp [1, 2, 4, 5, 6, 7, 8, 9, 15, 21, 90] ?_
   refine ak hP hN rfl ?_
   iterate 3 (refine aj rfl fun _ k0 => ?_; simp only [zO, zT, acs, reduceCtorEq, aa, V, ad, ag, af, ae, Mly.av, ah]; (repeat refine an ?_); (try refine .inl ?_); apply k0; clear k0; simp only [zP, V])
   refine am ?_
   first
   | (refine ⟨_, _, ?_, ax [1, 2, 4, 5, 6, 7], s + 1, v + 1, by omega, rfl, ?_⟩
      · omega
      · rw [cR (by omega), hnew.1, hnew.2]; rfl)
   | (refine ⟨_, _, ?_, ax [1, 2, 4, 5, 6, 7], s + 1, v + 1, by omega, rfl, ?_⟩
      · omega
      · rw [cR (by omega), hold.1, hold.2]; rfl)
  (try simp only [zB, reduceCtorEq] at hc33)
  have hold := AM hfn (by omega)
  refine ay ?_
  apply k31; clear k31; refine kp [1, 2, 4, 5, 6, 7, 8, 9, 15, 21, 90] ?_
  have hnr := ji (m := m) (cl := (m.cls i)) hsn
  refine ak hP hN rfl ?_
  iterate 5 (refine aj rfl fun _ k0 => ?_; simp only [zO, zT, acs, reduceCtorEq, aa, V, ad, ag, af, ae, Mly.av, ah]; (repeat refine an ?_); (try refine .inl ?_); apply k0; clear k0; simp only [zP, V])
  refine am ?_
  apply k10; clear k10; refine kp [1, 2, 4, 5, 6, 7, 8, 9, 15, 21, 90] ?_
  refine ak hP hN rfl ?_
  iterate 3 (refine aj rfl fun _ k0 => ?_; simp only [zO, zT, acs, reduceCtorEq, aa, V, ad, ag, af, ae, Mly.av, ah]; (repeat refine an ?_); (try refine .inl ?_); apply k0; clear k0; simp only [zP, V])
  refine am ?_
  first
  | (refine ⟨_, _, ?_, ax [1, 2, 4, 5, 6, 7], s + 1, v + 1, by omega, rfl, ?_⟩
     · omega
     · rw [cR (by omega), hnew.1, hnew.2]; rfl)
  | (refine ⟨_, _, ?_, ax [1, 2, 4, 5, 6, 7], s + 1, v + 1, by omega, rfl, ?_⟩
     · omega
     · rw [cR (by omega), hold.1, hold.2]; rfl)
 (try simp only [zB, reduceCtorEq] at hc9)
 refine aV ?_
 apply k4; clear k4; refine kp [1, 2, 4, 5, 6, 7, 15] ?_
 refine ai fun _ k35 => ?_
 refine cu 1 rfl ?_; simp only [aI, bl, zS, aa, and_self, and_true, true_and, and_false, false_and, if_true, if_false, eq_self, reduceCtorEq, Nat.one_ne_zero, Nat.zero_ne_one]
 have hse : s = m.nx.length := by omega
 rw [hse, ← hnl, aJ]
 refine ak hP hN rfl ?_
 iterate 2 (refine aj rfl fun _ k0 => ?_; simp only [zO, zT, acs, reduceCtorEq, aa, V, ad, ag, af, ae, Mly.av, ah]; (repeat refine an ?_); (try refine .inl ?_); apply k0; clear k0; simp only [zP, V])
 refine am ?_
 apply k35; clear k35; refine kp [1, 2, 4, 5, 6, 7, 15] ?_
 refine aG ?_
 refine ⟨nr, _, rfl, ?_⟩; simp only [zF, zP, aa, V, Mly.av, ah]
 exact VLE.of_eq rfl
theorem zZ (m : Mly) (s : Nat) (hi : m.inp ≤ 64) (hs : s < m.nx.length) (ho : m.ot.length = m.nx.length) : bG Try.prog 62 [m.av, .one (.int .i64 (s : Int))] (.one (.int .i64 (iM m s))) := by
 refine aR Try.func62 rfl (by kernel_rfl) (Nat.le_of_ble_eq_true rfl) rfl fun C hP hN hB => ?_
 replace hN : C.N = 77 := hN
 simp only [bf, V]
 refine ai fun _ k1 => ?_
 refine ak hP hN rfl ?_
 iterate 2 (refine aj rfl fun _ k0 => ?_; simp only [zO, zT, acs, reduceCtorEq, aa, V, ad, ag, af, ae, Mly.av]; (repeat refine an ?_); (try refine .inl ?_); apply k0; clear k0; simp only [zP, V])
 refine am ?_
 apply k1; clear k1; refine kp [0, 1, 2, 4] ?_
 refine ai fun _ k2 => ?_
 refine ai fun _ k3 => ?_
 refine bj hP hN Try.mixed rfl ?_
 iterate 10 (refine aj rfl fun _ k0 => ?_; simp only [zO, zT, acs, reduceCtorEq, aa, V, ad, ag, af, ae, Mly.av]; (repeat refine an ?_); (try refine .inl ?_); apply k0; clear k0; simp only [zP, V])
 refine' aN (want := false) 9 rfl (m := 15) (by simp only [zP, aa, V]; exact rfl) (by kernel_rfl) rfl rfl rfl rfl rfl (fun hg4 => ?a4) ?b4 ?c4
 case a4 =>
  have hq4 := hg4; (try simp only [zB, reduceCtorEq] at hg4); simp only [zE]
  iterate 9 (refine aY rfl fun _ k0 => ?_; simp only [zO, zT, acs, reduceCtorEq, aa, V, ad, ag, af, ae, Mly.av]; (repeat refine an ?_); (try refine .inl ?_); apply k0; clear k0; simp only [zP, V])
  (refine aj rfl fun _ k0 => ?_; simp only [zO, zT, acs, reduceCtorEq, aa, V, ad, ag, af, ae, Mly.av]; (repeat refine an ?_); (try refine .inl ?_); apply k0; clear k0; simp only [zP, V])
  refine am ?_
  refine ⟨by simp only [zP, aa, V]; exact rfl, rfl, ?_, rfl⟩; (repeat refine aM rfl ?_); exact bm (by exact rfl) hq4
 case b4 => exact bZ
 simp only [b7, aU]
 refine am ?_
 refine ⟨by kernel_rfl, ?_⟩
 apply k3; clear k3; refine kp [0, 1, 2, 4, 25] ?_
 refine cd (fun hc5 => ?_) (fun hc5 => ?_)
 ·(try simp only [zB, reduceCtorEq] at hc5)
  refine ai fun _ k6 => ?_
  refine ak hP hN rfl ?_
  (refine aj rfl fun _ k0 => ?_; simp only [zO, zT, acs, reduceCtorEq, aa, V, ad, ag, af, ae, Mly.av]; (repeat refine an ?_); (try refine .inl ?_); apply k0; clear k0; simp only [zP, V])
  refine am ?_
  apply k6; clear k6; refine kp [0, 1, 2, 4, 25] ?_
  refine aG ?_
  refine ⟨nr, _, rfl, ?_⟩; simp only [zF, zP, aa, V, Mly.av]
  refine VLE.of_eq ?_
  refine congrArg (fun n => AV.one (AC.int IntKind.i64 n)) ?_
  symm
  first
  | exact cM hc5
  | exact cK hc5.1 hc5.2 (j := j) (by omega) (by unfold bQ; omega)
  | exact lR hc5.1 hc5.2 fun a ha => hcells a (by omega)
 (try simp only [zB, reduceCtorEq] at hc5)
 refine ay ?_
 apply k2; clear k2; refine kp [0, 1, 2, 4, 25] ?_
 refine ai fun _ k7 => ?_
 refine ai fun _ k8 => ?_
 refine ak hP hN rfl ?_
 (refine aj rfl fun _ k0 => ?_; simp only [zO, zT, acs, reduceCtorEq, aa, V, ad, ag, af, ae, Mly.av]; (repeat refine an ?_); (try refine .inl ?_); apply k0; clear k0; simp only [zP, V])
 refine am ?_
 apply k8; clear k8; refine kp [0, 1, 2, 4, 5, 25] ?_
 refine aB ?_
 refine aZ (fun n9 s9 => ∃ (j : Nat), (∀ a, a < j → ¬ bQ m s a) ∧ (j ≤ m.inp.toNat) ∧ n9 = m.inp.toNat - j ∧ s9 = { env := [(1, .one (.int .i64 (s : Int))), (2, .one (.ptr 0 0 0 0)), (5, .one (.int .i64 (j : Int)))], L := [.vars 24 [.int .i64 m.inp, .int .i64 m.st, .list (.list (.int .i64)) m.nx, .list (.list (.int .i64)) m.ot]] }) ?_ ?_
 ·exact ⟨_, _, ax [1, 2, 5], 0, fun i hi => by omega, Nat.zero_le _, rfl, rfl⟩
 rintro n9 s9 ⟨j, hcells, hj, rfl, rfl⟩
 refine ai fun _ k10 => ?_
 refine ai fun _ k11 => ?_
 refine ak hP hN rfl ?_
 iterate 4 (refine aj rfl fun _ k0 => ?_; simp only [zO, zT, acs, reduceCtorEq, aa, V, ad, ag, af, ae, Mly.av]; (repeat refine an ?_); (try refine .inl ?_); apply k0; clear k0; simp only [zP, V])
 refine am ?_
 apply k11; clear k11; refine kp [1, 2, 5, 29] ?_
 refine cd (fun hc12 => ?_) (fun hc12 => ?_)
 ·(try simp only [zB, reduceCtorEq] at hc12)
  refine ay ?_
  apply k10; clear k10; refine kp [1, 2, 5, 29] ?_
  refine ai fun _ k13 => ?_
  refine aB ?_
  refine ai fun _ k14 => ?_
  refine bj hP hN Try.mixed rfl ?_
  iterate 10 (refine aj rfl fun _ k0 => ?_; simp only [zO, zT, acs, reduceCtorEq, aa, V, ad, ag, af, ae, Mly.av]; (repeat refine an ?_); (try refine .inl ?_); apply k0; clear k0; simp only [zP, V])
  refine' aN (want := false) 12 rfl (m := 41) (by simp only [zP, aa, V]; exact rfl) (by kernel_rfl) rfl rfl rfl rfl rfl (fun hg15 => ?a15) ?b15 ?c15
  case a15 =>
   have hq15 := hg15; (try simp only [zB, reduceCtorEq] at hg15); simp only [zE]
   iterate 12 (refine aY rfl fun _ k0 => ?_; simp only [zO, zT, acs, reduceCtorEq, aa, V, ad, ag, af, ae, Mly.av]; (repeat refine an ?_); (try refine .inl ?_); apply k0; clear k0; simp only [zP, V])
   (refine aj rfl fun _ k0 => ?_; simp only [zO, zT, acs, reduceCtorEq, aa, V, ad, ag, af, ae, Mly.av]; (repeat refine an ?_); (try refine .inl ?_); apply k0; clear k0; simp only [zP, V])
   refine am ?_
   refine ⟨by simp only [zP, aa, V]; exact rfl, rfl, ?_, rfl⟩; (repeat refine aM rfl ?_); exact bm (by exact rfl) hq15
  case b15 => exact bZ
  simp only [b7, aU]
  (refine aj rfl fun _ k0 => ?_; simp only [zO, zT, acs, reduceCtorEq, aa, V, ad, ag, af, ae, Mly.av]; (repeat refine an ?_); (try refine .inl ?_); apply k0; clear k0; simp only [zP, V])
  refine' aN (want := false) 9 rfl (m := 55) (by simp only [zP, aa, V]; exact rfl) (by kernel_rfl) rfl rfl rfl rfl rfl (fun hg16 => ?a16) ?b16 ?c16
  case a16 =>
   have hq16 := hg16; (try simp only [zB, reduceCtorEq] at hg16); simp only [zE]
   iterate 9 (refine aY rfl fun _ k0 => ?_; simp only [zO, zT, acs, reduceCtorEq, aa, V, ad, ag, af, ae, Mly.av]; (repeat refine an ?_); (try refine .inl ?_); apply k0; clear k0; simp only [zP, V])
   (refine aj rfl fun _ k0 => ?_; simp only [zO, zT, acs, reduceCtorEq, aa, V, ad, ag, af, ae, Mly.av]; (repeat refine an ?_); (try refine .inl ?_); apply k0; clear k0; simp only [zP, V])
   refine am ?_
   refine ⟨by simp only [zP, aa, V]; exact rfl, rfl, ?_, rfl⟩; (repeat refine aM rfl ?_); exact bm (by exact rfl) hq16
  case b16 => exact bZ
  simp only [b7, aU]
  (refine aj rfl fun _ k0 => ?_; simp only [zO, zT, acs, reduceCtorEq, aa, V, ad, ag, af, ae, Mly.av]; (repeat refine an ?_); (try refine .inl ?_); apply k0; clear k0; simp only [zP, V])
  refine' aN (want := false) 9 rfl (m := 66) (by simp only [zP, aa, V]; exact rfl) (by kernel_rfl) rfl rfl rfl rfl rfl (fun hg17 => ?a17) ?b17 ?c17
  case a17 =>
   have hq17 := hg17; (try simp only [zB, reduceCtorEq] at hg17); simp only [zE]
   iterate 9 (refine aY rfl fun _ k0 => ?_; simp only [zO, zT, acs, reduceCtorEq, aa, V, ad, ag, af, ae, Mly.av]; (repeat refine an ?_); (try refine .inl ?_); apply k0; clear k0; simp only [zP, V])
   (refine aj rfl fun _ k0 => ?_; simp only [zO, zT, acs, reduceCtorEq, aa, V, ad, ag, af, ae, Mly.av]; (repeat refine an ?_); (try refine .inl ?_); apply k0; clear k0; simp only [zP, V])
   refine am ?_
   refine ⟨by simp only [zP, aa, V]; exact rfl, rfl, ?_, rfl⟩; (repeat refine aM rfl ?_); exact bm (by exact rfl) hq17
  case b17 => exact bZ
  simp only [b7, aU]
  refine am ?_
  refine ⟨by kernel_rfl, ?_⟩
  apply k14; clear k14; refine kp [1, 2, 5, 29, 76] ?_
  refine cd (fun hc18 => ?_) (fun hc18 => ?_)
  ·(try simp only [zB, reduceCtorEq] at hc18)
   refine ai fun _ k19 => ?_
   refine ak hP hN rfl ?_
   (refine aj rfl fun _ k0 => ?_; simp only [zO, zT, acs, reduceCtorEq, aa, V, ad, ag, af, ae, Mly.av]; (repeat refine an ?_); (try refine .inl ?_); apply k0; clear k0; simp only [zP, V])
   refine am ?_
   apply k19; clear k19; refine kp [1, 2, 4, 5, 29, 76] ?_
   refine aG ?_
   refine ⟨nr, _, rfl, ?_⟩; simp only [zF, zP, aa, V, Mly.av]
   refine VLE.of_eq ?_
   refine congrArg (fun n => AV.one (AC.int IntKind.i64 n)) ?_
   symm
   first
   | exact cM hc5
   | exact cK hc5.1 hc5.2 (j := j) (by omega) (by unfold bQ; omega)
   | exact lR hc5.1 hc5.2 fun a ha => hcells a (by omega)
  (try simp only [zB, reduceCtorEq] at hc18)
  refine ay ?_
  apply k13; clear k13; refine kp [1, 2, 5, 29, 76] ?_
  refine ak hP hN rfl ?_
  iterate 3 (refine aj rfl fun _ k0 => ?_; simp only [zO, zT, acs, reduceCtorEq, aa, V, ad, ag, af, ae, Mly.av]; (repeat refine an ?_); (try refine .inl ?_); apply k0; clear k0; simp only [zP, V])
  refine am ?_
  refine ⟨_, _, ?_, ax [1, 2, 5], j + 1, fun a ha => ?_, ?_, rfl, rfl⟩
  · omega
  · by_cases e : a = j
    · rw [e]; unfold bQ; omega
    · exact hcells a (by omega)
  · omega
 (try simp only [zB, reduceCtorEq] at hc12)
 refine aV ?_
 apply k7; clear k7; refine kp [1, 2, 5, 29] ?_
 refine ai fun _ k20 => ?_
 refine ak hP hN rfl ?_
 (refine aj rfl fun _ k0 => ?_; simp only [zO, zT, acs, reduceCtorEq, aa, V, ad, ag, af, ae, Mly.av]; (repeat refine an ?_); (try refine .inl ?_); apply k0; clear k0; simp only [zP, V])
 refine am ?_
 apply k20; clear k20; refine kp [1, 2, 4, 5, 29] ?_
 refine aG ?_
 refine ⟨nr, _, rfl, ?_⟩; simp only [zF, zP, aa, V, Mly.av]
 refine VLE.of_eq ?_
 refine congrArg (fun n => AV.one (AC.int IntKind.i64 n)) ?_
 symm
 first
 | exact cM hc5
 | exact cK hc5.1 hc5.2 (j := j) (by omega) (by unfold bQ; omega)
 | exact lR hc5.1 hc5.2 fun a ha => hcells a (by omega)
theorem r9 (m : Mly) : bG Try.prog 43 [m.av] (.one (.int .i64 (aT m))) := by
 refine aR Try.func43 rfl (by kernel_rfl) (Nat.le_of_ble_eq_true rfl) rfl fun C hP hN hB => ?_
 replace hN : C.N = 52 := hN
 simp only [bf, V]
 refine ai fun _ k1 => ?_
 refine ak hP hN rfl ?_
 iterate 2 (refine aj rfl fun _ k0 => ?_; simp only [zO, zT, acs, reduceCtorEq, aa, V, ad, ag, af, ae, Mly.av]; (repeat refine an ?_); (try refine .inl ?_); apply k0; clear k0; simp only [zP, V])
 refine am ?_
 apply k1; clear k1; refine kp [0, 1, 2] ?_
 refine ai fun _ k2 => ?_
 refine ai fun _ k3 => ?_
 refine ak hP hN rfl ?_
 iterate 4 (refine aj rfl fun _ k0 => ?_; simp only [zO, zT, acs, reduceCtorEq, aa, V, ad, ag, af, ae, Mly.av]; (repeat refine an ?_); (try refine .inl ?_); apply k0; clear k0; simp only [zP, V])
 refine' aN (want := false) 3 rfl (m := 8) (by simp only [zP, aa, V]; exact rfl) (by kernel_rfl) rfl rfl rfl rfl rfl (fun hg4 => ?a4) ?b4 ?c4
 case a4 =>
  have hq4 := hg4; (try simp only [zB, reduceCtorEq] at hg4); simp only [zE]
  iterate 3 (refine aY rfl fun _ k0 => ?_; simp only [zO, zT, acs, reduceCtorEq, aa, V, ad, ag, af, ae, Mly.av]; (repeat refine an ?_); (try refine .inl ?_); apply k0; clear k0; simp only [zP, V])
  (refine aj rfl fun _ k0 => ?_; simp only [zO, zT, acs, reduceCtorEq, aa, V, ad, ag, af, ae, Mly.av]; (repeat refine an ?_); (try refine .inl ?_); apply k0; clear k0; simp only [zP, V])
  refine am ?_
  refine ⟨by simp only [zP, aa, V]; exact rfl, rfl, ?_, rfl⟩; (repeat refine aM rfl ?_); exact bm (by exact rfl) hq4
 case b4 => exact bZ
 simp only [b7, aU]
 refine am ?_
 apply k3; clear k3; refine kp [0, 1, 2, 12] ?_
 refine cd (fun hc5 => ?_) (fun hc5 => ?_)
 ·(try simp only [zB, reduceCtorEq] at hc5)
  refine ai fun _ k6 => ?_
  refine ak hP hN rfl ?_
  (refine aj rfl fun _ k0 => ?_; simp only [zO, zT, acs, reduceCtorEq, aa, V, ad, ag, af, ae, Mly.av]; (repeat refine an ?_); (try refine .inl ?_); apply k0; clear k0; simp only [zP, V])
  refine am ?_
  apply k6; clear k6; refine kp [0, 1, 2, 12] ?_
  refine aG ?_
  refine ⟨nr, _, rfl, ?_⟩; simp only [zF, zP, aa, V, Mly.av]
  refine VLE.of_eq ?_
  refine congrArg (fun n => AV.one (AC.int IntKind.i64 n)) ?_
  symm
  unfold aT
  first
  | (rw [if_pos (by omega)]; done)
  | (rw [if_neg (by omega), if_pos (by omega)]; done)
  | (rw [if_neg (by omega), if_neg (by omega), if_pos (by omega)]; done)
  | (rw [if_neg (by omega), if_neg (by omega), if_neg (by omega), if_pos (by omega)]; done)
  | (rw [if_neg (by omega), if_neg (by omega), if_neg (by omega), if_neg (by omega), if_pos (by omega)]; done)
  | (rw [if_neg (by omega), if_neg (by omega), if_neg (by omega), if_neg (by omega), if_neg (by omega)]
     first
     | exact ci hrows (by omega) (by assumption)
     | exact cp fun i hi => hrows i (by omega))
 (try simp only [zB, reduceCtorEq] at hc5)
 refine ay ?_
 apply k2; clear k2; refine kp [0, 1, 2, 12] ?_
 refine ai fun _ k7 => ?_
 refine ai fun _ k8 => ?_
 refine ak hP hN rfl ?_
 iterate 4 (refine aj rfl fun _ k0 => ?_; simp only [zO, zT, acs, reduceCtorEq, aa, V, ad, ag, af, ae, Mly.av]; (repeat refine an ?_); (try refine .inl ?_); apply k0; clear k0; simp only [zP, V])
 refine am ?_
 apply k8; clear k8; refine kp [0, 1, 2, 12, 16] ?_
 refine cd (fun hc9 => ?_) (fun hc9 => ?_)
 ·(try simp only [zB, reduceCtorEq] at hc9)
  refine ai fun _ k10 => ?_
  refine ak hP hN rfl ?_
  (refine aj rfl fun _ k0 => ?_; simp only [zO, zT, acs, reduceCtorEq, aa, V, ad, ag, af, ae, Mly.av]; (repeat refine an ?_); (try refine .inl ?_); apply k0; clear k0; simp only [zP, V])
  refine am ?_
  apply k10; clear k10; refine kp [0, 1, 2, 12, 16] ?_
  refine aG ?_
  refine ⟨nr, _, rfl, ?_⟩; simp only [zF, zP, aa, V, Mly.av]
  refine VLE.of_eq ?_
  refine congrArg (fun n => AV.one (AC.int IntKind.i64 n)) ?_
  symm
  unfold aT
  first
  | (rw [if_pos (by omega)]; done)
  | (rw [if_neg (by omega), if_pos (by omega)]; done)
  | (rw [if_neg (by omega), if_neg (by omega), if_pos (by omega)]; done)
  | (rw [if_neg (by omega), if_neg (by omega), if_neg (by omega), if_pos (by omega)]; done)
  | (rw [if_neg (by omega), if_neg (by omega), if_neg (by omega), if_neg (by omega), if_pos (by omega)]; done)
  | (rw [if_neg (by omega), if_neg (by omega), if_neg (by omega), if_neg (by omega), if_neg (by omega)]
     first
     | exact ci hrows (by omega) (by assumption)
     | exact cp fun i hi => hrows i (by omega))
 (try simp only [zB, reduceCtorEq] at hc9)
 refine ay ?_
 apply k7; clear k7; refine kp [0, 1, 2, 12, 16] ?_
 refine ai fun _ k11 => ?_
 refine ai fun _ k12 => ?_
 refine ak hP hN rfl ?_
 iterate 4 (refine aj rfl fun _ k0 => ?_; simp only [zO, zT, acs, reduceCtorEq, aa, V, ad, ag, af, ae, Mly.av]; (repeat refine an ?_); (try refine .inl ?_); apply k0; clear k0; simp only [zP, V])
 refine am ?_
 apply k12; clear k12; refine kp [0, 1, 2, 12, 16, 20] ?_
 refine cd (fun hc13 => ?_) (fun hc13 => ?_)
 ·(try simp only [zB, reduceCtorEq] at hc13)
  refine ai fun _ k14 => ?_
  refine ak hP hN rfl ?_
  (refine aj rfl fun _ k0 => ?_; simp only [zO, zT, acs, reduceCtorEq, aa, V, ad, ag, af, ae, Mly.av]; (repeat refine an ?_); (try refine .inl ?_); apply k0; clear k0; simp only [zP, V])
  refine am ?_
  apply k14; clear k14; refine kp [0, 1, 2, 12, 16, 20] ?_
  refine aG ?_
  refine ⟨nr, _, rfl, ?_⟩; simp only [zF, zP, aa, V, Mly.av]
  refine VLE.of_eq ?_
  refine congrArg (fun n => AV.one (AC.int IntKind.i64 n)) ?_
  symm
  unfold aT
  first
  | (rw [if_pos (by omega)]; done)
  | (rw [if_neg (by omega), if_pos (by omega)]; done)
  | (rw [if_neg (by omega), if_neg (by omega), if_pos (by omega)]; done)
  | (rw [if_neg (by omega), if_neg (by omega), if_neg (by omega), if_pos (by omega)]; done)
  | (rw [if_neg (by omega), if_neg (by omega), if_neg (by omega), if_neg (by omega), if_pos (by omega)]; done)
  | (rw [if_neg (by omega), if_neg (by omega), if_neg (by omega), if_neg (by omega), if_neg (by omega)]
     first
     | exact ci hrows (by omega) (by assumption)
     | exact cp fun i hi => hrows i (by omega))
 (try simp only [zB, reduceCtorEq] at hc13)
 refine ay ?_
 apply k11; clear k11; refine kp [0, 1, 2, 12, 16, 20] ?_
 refine ai fun _ k15 => ?_
 refine ai fun _ k16 => ?_
 refine ak hP hN rfl ?_
 iterate 4 (refine aj rfl fun _ k0 => ?_; simp only [zO, zT, acs, reduceCtorEq, aa, V, ad, ag, af, ae, Mly.av]; (repeat refine an ?_); (try refine .inl ?_); apply k0; clear k0; simp only [zP, V])
 refine' aN (want := false) 6 rfl (m := 24) (by simp only [zP, aa, V]; exact rfl) (by kernel_rfl) rfl rfl rfl rfl rfl (fun hg17 => ?a17) ?b17 ?c17
 case a17 =>
  have hq17 := hg17; (try simp only [zB, reduceCtorEq] at hg17); simp only [zE]
  iterate 6 (refine aY rfl fun _ k0 => ?_; simp only [zO, zT, acs, reduceCtorEq, aa, V, ad, ag, af, ae, Mly.av]; (repeat refine an ?_); (try refine .inl ?_); apply k0; clear k0; simp only [zP, V])
  (refine aj rfl fun _ k0 => ?_; simp only [zO, zT, acs, reduceCtorEq, aa, V, ad, ag, af, ae, Mly.av]; (repeat refine an ?_); (try refine .inl ?_); apply k0; clear k0; simp only [zP, V])
  refine am ?_
  refine ⟨by simp only [zP, aa, V]; exact rfl, rfl, ?_, rfl⟩; (repeat refine aM rfl ?_); exact bm (by exact rfl) hq17
 case b17 => exact bZ
 simp only [b7, aU]
 refine am ?_
 apply k16; clear k16; refine kp [0, 1, 2, 12, 16, 20, 31] ?_
 refine cd (fun hc18 => ?_) (fun hc18 => ?_)
 ·(try simp only [zB, reduceCtorEq] at hc18)
  refine ai fun _ k19 => ?_
  refine ak hP hN rfl ?_
  (refine aj rfl fun _ k0 => ?_; simp only [zO, zT, acs, reduceCtorEq, aa, V, ad, ag, af, ae, Mly.av]; (repeat refine an ?_); (try refine .inl ?_); apply k0; clear k0; simp only [zP, V])
  refine am ?_
  apply k19; clear k19; refine kp [0, 1, 2, 12, 16, 20, 31] ?_
  refine aG ?_
  refine ⟨nr, _, rfl, ?_⟩; simp only [zF, zP, aa, V, Mly.av]
  refine VLE.of_eq ?_
  refine congrArg (fun n => AV.one (AC.int IntKind.i64 n)) ?_
  symm
  unfold aT
  first
  | (rw [if_pos (by omega)]; done)
  | (rw [if_neg (by omega), if_pos (by omega)]; done)
  | (rw [if_neg (by omega), if_neg (by omega), if_pos (by omega)]; done)
  | (rw [if_neg (by omega), if_neg (by omega), if_neg (by omega), if_pos (by omega)]; done)
  | (rw [if_neg (by omega), if_neg (by omega), if_neg (by omega), if_neg (by omega), if_pos (by omega)]; done)
  | (rw [if_neg (by omega), if_neg (by omega), if_neg (by omega), if_neg (by omega), if_neg (by omega)]
     first
     | exact ci hrows (by omega) (by assumption)
     | exact cp fun i hi => hrows i (by omega))
 (try simp only [zB, reduceCtorEq] at hc18)
 refine ay ?_
 apply k15; clear k15; refine kp [0, 1, 2, 12, 16, 20, 31] ?_
 refine ai fun _ k20 => ?_
 refine ai fun _ k21 => ?_
 refine ak hP hN rfl ?_
 iterate 7 (refine aj rfl fun _ k0 => ?_; simp only [zO, zT, acs, reduceCtorEq, aa, V, ad, ag, af, ae, Mly.av]; (repeat refine an ?_); (try refine .inl ?_); apply k0; clear k0; simp only [zP, V])
 refine am ?_
 apply k21; clear k21; refine kp [0, 1, 2, 12, 16, 20, 31, 38] ?_
 refine cd (fun hc22 => ?_) (fun hc22 => ?_)
 ·(try simp only [zB, reduceCtorEq] at hc22)
  refine ai fun _ k23 => ?_
  refine ak hP hN rfl ?_
  (refine aj rfl fun _ k0 => ?_; simp only [zO, zT, acs, reduceCtorEq, aa, V, ad, ag, af, ae, Mly.av]; (repeat refine an ?_); (try refine .inl ?_); apply k0; clear k0; simp only [zP, V])
  refine am ?_
  apply k23; clear k23; refine kp [0, 1, 2, 12, 16, 20, 31, 38] ?_
  refine aG ?_
  refine ⟨nr, _, rfl, ?_⟩; simp only [zF, zP, aa, V, Mly.av]
  refine VLE.of_eq ?_
  refine congrArg (fun n => AV.one (AC.int IntKind.i64 n)) ?_
  symm
  unfold aT
  first
  | (rw [if_pos (by omega)]; done)
  | (rw [if_neg (by omega), if_pos (by omega)]; done)
  | (rw [if_neg (by omega), if_neg (by omega), if_pos (by omega)]; done)
  | (rw [if_neg (by omega), if_neg (by omega), if_neg (by omega), if_pos (by omega)]; done)
  | (rw [if_neg (by omega), if_neg (by omega), if_neg (by omega), if_neg (by omega), if_pos (by omega)]; done)
  | (rw [if_neg (by omega), if_neg (by omega), if_neg (by omega), if_neg (by omega), if_neg (by omega)]
     first
     | exact ci hrows (by omega) (by assumption)
     | exact cp fun i hi => hrows i (by omega))
 (try simp only [zB, reduceCtorEq] at hc22)
 refine ay ?_
 apply k20; clear k20; refine kp [0, 1, 2, 12, 16, 20, 31, 38] ?_
 refine ai fun _ k24 => ?_
 refine ai fun _ k25 => ?_
 refine ak hP hN rfl ?_
 (refine aj rfl fun _ k0 => ?_; simp only [zO, zT, acs, reduceCtorEq, aa, V, ad, ag, af, ae, Mly.av]; (repeat refine an ?_); (try refine .inl ?_); apply k0; clear k0; simp only [zP, V])
 refine am ?_
 apply k25; clear k25; refine kp [0, 1, 2, 3, 12, 16, 20, 31, 38] ?_
 refine aB ?_
 refine aZ (fun n26 s26 => ∃ (k : Nat), (k ≤ m.nx.length) ∧ (∀ i, i < k → iM m i = 0) ∧ n26 = m.nx.length - k ∧ s26 = { env := [(1, .one (.ptr 0 0 0 0)), (3, .one (.int .i64 (k : Int)))], L := [.vars 24 [.int .i64 m.inp, .int .i64 m.st, .list (.list (.int .i64)) m.nx, .list (.list (.int .i64)) m.ot]] }) ?_ ?_
 ·exact ⟨_, _, ax [1, 3], 0, Nat.zero_le _, fun i hi => by omega, rfl, rfl⟩
 rintro n26 s26 ⟨k, hk, hrows, rfl, rfl⟩
 refine ai fun _ k27 => ?_
 refine ai fun _ k28 => ?_
 refine ak hP hN rfl ?_
 iterate 5 (refine aj rfl fun _ k0 => ?_; simp only [zO, zT, acs, reduceCtorEq, aa, V, ad, ag, af, ae, Mly.av]; (repeat refine an ?_); (try refine .inl ?_); apply k0; clear k0; simp only [zP, V])
 refine am ?_
 apply k28; clear k28; refine kp [1, 3, 43] ?_
 refine cd (fun hc29 => ?_) (fun hc29 => ?_)
 ·(try simp only [zB, reduceCtorEq] at hc29)
  refine ay ?_
  apply k27; clear k27; refine kp [1, 3, 43] ?_
  refine ai fun _ k30 => ?_
  refine aB ?_
  refine ai fun _ k31 => ?_
  refine ak hP hN rfl ?_
  iterate 2 (refine aj rfl fun _ k0 => ?_; simp only [zO, zT, acs, reduceCtorEq, aa, V, ad, ag, af, ae, Mly.av]; (repeat refine an ?_); (try refine .inl ?_); apply k0; clear k0; simp only [zP, V])
  refine aj rfl fun _ k0 => ?_
  refine aK (h := aC (zZ m k (by omega) (by omega) (by omega))) rfl rfl (by first | exact rfl | (simp only [ev, zP, aa, V]; exact rfl)) (by simp only [zV, acs, reduceCtorEq, aa, V, ad, ag, af, ae, Mly.av]) ?_
  apply k0; clear k0; simp only [zP, V]
  (refine aj rfl fun _ k0 => ?_; simp only [zO, zT, acs, reduceCtorEq, aa, V, ad, ag, af, ae, Mly.av]; (repeat refine an ?_); (try refine .inl ?_); apply k0; clear k0; simp only [zP, V])
  refine am ?_
  apply k31; clear k31; refine kp [1, 3, 4, 43] ?_
  refine ai fun _ k32 => ?_
  refine ak hP hN rfl ?_
  iterate 2 (refine aj rfl fun _ k0 => ?_; simp only [zO, zT, acs, reduceCtorEq, aa, V, ad, ag, af, ae, Mly.av]; (repeat refine an ?_); (try refine .inl ?_); apply k0; clear k0; simp only [zP, V])
  refine am ?_
  apply k32; clear k32; refine kp [1, 3, 4, 43, 50] ?_
  refine cd (fun hc33 => ?_) (fun hc33 => ?_)
  ·(try simp only [zB, reduceCtorEq] at hc33)
   refine ai fun _ k34 => ?_
   refine ak hP hN rfl ?_
   iterate 2 (refine aj rfl fun _ k0 => ?_; simp only [zO, zT, acs, reduceCtorEq, aa, V, ad, ag, af, ae, Mly.av]; (repeat refine an ?_); (try refine .inl ?_); apply k0; clear k0; simp only [zP, V])
   refine am ?_
   apply k34; clear k34; refine kp [1, 2, 3, 4, 43, 50] ?_
   refine aG ?_
   refine ⟨nr, _, rfl, ?_⟩; simp only [zF, zP, aa, V, Mly.av]
   refine VLE.of_eq ?_
   refine congrArg (fun n => AV.one (AC.int IntKind.i64 n)) ?_
   symm
   unfold aT
   first
   | (rw [if_pos (by omega)]; done)
   | (rw [if_neg (by omega), if_pos (by omega)]; done)
   | (rw [if_neg (by omega), if_neg (by omega), if_pos (by omega)]; done)
   | (rw [if_neg (by omega), if_neg (by omega), if_neg (by omega), if_pos (by omega)]; done)
   | (rw [if_neg (by omega), if_neg (by omega), if_neg (by omega), if_neg (by omega), if_pos (by omega)]; done)
   | (rw [if_neg (by omega), if_neg (by omega), if_neg (by omega), if_neg (by omega), if_neg (by omega)]
      first
      | exact ci hrows (by omega) (by assumption)
      | exact cp fun i hi => hrows i (by omega))
  (try simp only [zB, reduceCtorEq] at hc33)
  refine ay ?_
  apply k30; clear k30; refine kp [1, 3, 4, 43, 50] ?_
  refine ak hP hN rfl ?_
  iterate 3 (refine aj rfl fun _ k0 => ?_; simp only [zO, zT, acs, reduceCtorEq, aa, V, ad, ag, af, ae, Mly.av]; (repeat refine an ?_); (try refine .inl ?_); apply k0; clear k0; simp only [zP, V])
  refine am ?_
  refine ⟨_, _, ?_, ax [1, 3], k + 1, by omega, fun i hi => ?_, rfl, rfl⟩
  · omega
  · by_cases e : i = k
    · rw [e]; first | assumption | omega
    · exact hrows i (by omega)
 (try simp only [zB, reduceCtorEq] at hc29)
 refine aV ?_
 apply k24; clear k24; refine kp [1, 3, 43] ?_
 refine ai fun _ k35 => ?_
 refine ak hP hN rfl ?_
 (refine aj rfl fun _ k0 => ?_; simp only [zO, zT, acs, reduceCtorEq, aa, V, ad, ag, af, ae, Mly.av]; (repeat refine an ?_); (try refine .inl ?_); apply k0; clear k0; simp only [zP, V])
 refine am ?_
 apply k35; clear k35; refine kp [1, 2, 3, 43] ?_
 refine aG ?_
 refine ⟨nr, _, rfl, ?_⟩; simp only [zF, zP, aa, V, Mly.av]
 refine VLE.of_eq ?_
 refine congrArg (fun n => AV.one (AC.int IntKind.i64 n)) ?_
 symm
 unfold aT
 first
 | (rw [if_pos (by omega)]; done)
 | (rw [if_neg (by omega), if_pos (by omega)]; done)
 | (rw [if_neg (by omega), if_neg (by omega), if_pos (by omega)]; done)
 | (rw [if_neg (by omega), if_neg (by omega), if_neg (by omega), if_pos (by omega)]; done)
 | (rw [if_neg (by omega), if_neg (by omega), if_neg (by omega), if_neg (by omega), if_pos (by omega)]; done)
 | (rw [if_neg (by omega), if_neg (by omega), if_neg (by omega), if_neg (by omega), if_neg (by omega)]
    first
    | exact ci hrows (by omega) (by assumption)
    | exact cp fun i hi => hrows i (by omega))
theorem xi (m : Mly) : bG Try.prog 87 [m.av, .one (.int .i64 (m.nx.length : Int))] (.tup [.one (.list (.int .i64) (if aT m = 0 then m.cls m.nx.length else [])), .one (.int .i64 (aT m))]) := by
 refine aR Try.func87 rfl (by kernel_rfl) (Nat.le_of_ble_eq_true rfl) rfl fun C hP hN hB => ?_
 replace hN : C.N = 34 := hN
 simp only [bf, V]
 refine ai fun _ k1 => ?_
 refine ak hP hN rfl ?_
 iterate 3 (refine aj rfl fun _ k0 => ?_; simp only [zO, zT, acs, reduceCtorEq, aa, V, ad, ag, af, ae, Mly.av, ah]; (repeat refine an ?_); (try refine .inl ?_); apply k0; clear k0; simp only [zP, V])
 refine am ?_
 apply k1; clear k1; refine kp [0, 1, 2, 4, 5] ?_
 refine ai fun _ k2 => ?_
 refine ai fun _ k3 => ?_
 refine ak hP hN rfl ?_
 (refine aj rfl fun _ k0 => ?_; simp only [zO, zT, acs, reduceCtorEq, aa, V, ad, ag, af, ae, Mly.av, ah]; (repeat refine an ?_); (try refine .inl ?_); apply k0; clear k0; simp only [zP, V])
 refine aj rfl fun _ k0 => ?_
 refine aK (h := aC (r9 m)) rfl rfl (by first | exact rfl | (simp only [ev, zP, aa, V]; exact rfl)) (by simp only [zV, acs, reduceCtorEq, aa, V, ad, ag, af, ae, Mly.av, ah]) ?_
 apply k0; clear k0; simp only [zP, V]
 (refine aj rfl fun _ k0 => ?_; simp only [zO, zT, acs, reduceCtorEq, aa, V, ad, ag, af, ae, Mly.av, ah]; (repeat refine an ?_); (try refine .inl ?_); apply k0; clear k0; simp only [zP, V])
 refine am ?_
 apply k3; clear k3; refine kp [0, 1, 2, 4, 5, 6] ?_
 refine ai fun _ k4 => ?_
 refine ak hP hN rfl ?_
 iterate 2 (refine aj rfl fun _ k0 => ?_; simp only [zO, zT, acs, reduceCtorEq, aa, V, ad, ag, af, ae, Mly.av, ah]; (repeat refine an ?_); (try refine .inl ?_); apply k0; clear k0; simp only [zP, V])
 refine am ?_
 apply k4; clear k4; refine kp [0, 1, 2, 4, 5, 6, 12] ?_
 refine cd (fun hc5 => ?_) (fun hc5 => ?_)
 ·(try simp only [zB, reduceCtorEq] at hc5)
  have hv : ¬ aT m = 0 := hc5
  refine ai fun _ k6 => ?_
  refine ak hP hN rfl ?_
  iterate 3 (refine aj rfl fun _ k0 => ?_; simp only [zO, zT, acs, reduceCtorEq, aa, V, ad, ag, af, ae, Mly.av, ah]; (repeat refine an ?_); (try refine .inl ?_); apply k0; clear k0; simp only [zP, V])
  refine am ?_
  apply k6; clear k6; refine kp [0, 1, 2, 4, 5, 6, 12] ?_
  refine aG ?_
  refine ⟨nr, _, rfl, ?_⟩; simp only [zF, zP, aa, V, Mly.av, ah]
  first
  | (rw [if_neg hv]; exact cz ⟨bg (bt rfl), bg (.refl _), trivial⟩)
  | (rw [if_pos hv, hv, hke]; exact VLE.of_eq rfl)
 (try simp only [zB, reduceCtorEq] at hc5)
 have hv : aT m = 0 := by simpa using hc5
 have hm := fc hv
 have hn2 := hm.n2
 refine ay ?_
 apply k2; clear k2; refine kp [0, 1, 2, 4, 5, 6, 12] ?_
 refine ai fun _ k7 => ?_
 refine ak hP hN rfl ?_
 iterate 3 (refine aj rfl fun _ k0 => ?_; simp only [zO, zT, acs, reduceCtorEq, aa, V, ad, ag, af, ae, Mly.av, ah]; (repeat refine an ?_); (try refine .inl ?_); apply k0; clear k0; simp only [zP, V])
 (refine aj rfl fun _ k0 => ?_; simp only [zE, op1, ev, lkp, cW, bJ, cL, bq, Ty.size, Ty.dflt, reduceCtorEq, aa, V, ad, ag, af, ae, Try.el41, Try.td41, Mly.av, ah]; (repeat refine an ?_); refine Or.inr (Or.inr (k0 _ ?_)); clear k0; simp only [zP, V])
 (refine aj rfl fun _ k0 => ?_; simp only [zO, zT, acs, reduceCtorEq, aa, V, ad, ag, af, ae, Mly.av, ah]; (repeat refine an ?_); (try refine .inl ?_); apply k0; clear k0; simp only [zP, V])
 refine am ?_
 apply k7; clear k7; refine kp [0, 1, 2, 4, 5, 6, 7, 12] ?_
 refine ai fun _ k8 => ?_
 refine ai fun _ k9 => ?_
 refine ak hP hN rfl ?_
 (refine aj rfl fun _ k0 => ?_; simp only [zO, zT, acs, reduceCtorEq, aa, V, ad, ag, af, ae, Mly.av, ah]; (repeat refine an ?_); (try refine .inl ?_); apply k0; clear k0; simp only [zP, V])
 refine am ?_
 apply k9; clear k9; refine kp [0, 1, 2, 4, 5, 6, 7, 8, 12] ?_
 refine aB ?_
 refine aZ (fun n10 s10 => ∃ (k : Nat), (k ≤ m.nx.length) ∧ n10 = m.nx.length - k ∧ s10 = { env := [(1, .one (.int .i64 (m.nx.length : Int))), (2, .one (.ptr 0 0 0 0)), (4, .one .nils), (5, .one (.int .i64 0)), (7, .one (.list (.int .i64) (m.cls k))), (8, .one (.int .i64 (k : Int)))], L := [.vars 24 [.int .i64 m.inp, .int .i64 m.st, .list (.list (.int .i64)) m.nx, .list (.list (.int .i64)) m.ot]] }) ?_ ?_
 ·exact ⟨_, _, ax [1, 2, 4, 5, 7, 8], 0, Nat.zero_le _, rfl, rfl⟩
 rintro n10 s10 ⟨k, hk, rfl, rfl⟩
 refine ai fun _ k11 => ?_
 refine ai fun _ k12 => ?_
 refine ak hP hN rfl ?_
 iterate 4 (refine aj rfl fun _ k0 => ?_; simp only [zO, zT, acs, reduceCtorEq, aa, V, ad, ag, af, ae, Mly.av, ah]; (repeat refine an ?_); (try refine .inl ?_); apply k0; clear k0; simp only [zP, V])
 refine' aN (want := true) 5 rfl (m := 21) (by simp only [zP, aa, V]; exact rfl) (by kernel_rfl) rfl rfl rfl rfl rfl (fun hg13 => ?a13) ?b13 ?c13
 case a13 =>
  have hq13 := hg13; (try simp only [zB, reduceCtorEq] at hg13); simp only [zE]
  iterate 5 (refine aY rfl fun _ k0 => ?_; simp only [zO, zT, acs, reduceCtorEq, aa, V, ad, ag, af, ae, Mly.av, ah]; (repeat refine an ?_); (try refine .inl ?_); apply k0; clear k0; simp only [zP, V])
  (refine aj rfl fun _ k0 => ?_; simp only [zO, zT, acs, reduceCtorEq, aa, V, ad, ag, af, ae, Mly.av, ah]; (repeat refine an ?_); (try refine .inl ?_); apply k0; clear k0; simp only [zP, V])
  refine am ?_
  refine ⟨by simp only [zP, aa, V]; exact rfl, rfl, ?_, rfl⟩; (repeat refine aM rfl ?_); exact bm (by exact rfl) hq13
 case b13 => exact bZ
 simp only [b7, aU]
 refine am ?_
 apply k12; clear k12; refine kp [1, 2, 4, 5, 7, 8, 27] ?_
 refine cd (fun hc14 => ?_) (fun hc14 => ?_)
 ·(try simp only [zB, reduceCtorEq] at hc14)
  refine ay ?_
  apply k11; clear k11; refine kp [1, 2, 4, 5, 7, 8, 27] ?_
  refine ai fun _ k15 => ?_
  refine aB ?_
  refine ak hP hN rfl ?_
  iterate 2 (refine aj rfl fun _ k0 => ?_; simp only [zO, zT, acs, reduceCtorEq, aa, V, ad, ag, af, ae, Mly.av, ah]; (repeat refine an ?_); (try refine .inl ?_); apply k0; clear k0; simp only [zP, V])
  refine aj rfl fun _ k0 => ?_
  refine aK (h := aC (yU m k hm)) rfl rfl (by first | exact rfl | (simp only [ev, zP, aa, V]; exact rfl)) (by simp only [zV, acs, reduceCtorEq, aa, V, ad, ag, af, ae, Mly.av, ah]) ?_
  apply k0; clear k0; simp only [zP, V]
  (refine aj rfl fun _ k0 => ?_; simp only [zO, zT, acs, reduceCtorEq, aa, V, ad, ag, af, ae, Mly.av, ah]; (repeat refine an ?_); (try refine .inl ?_); apply k0; clear k0; simp only [zP, V])
  refine am ?_
  apply k15; clear k15; refine kp [1, 2, 4, 5, 7, 8, 27] ?_
  refine ak hP hN rfl ?_
  iterate 3 (refine aj rfl fun _ k0 => ?_; simp only [zO, zT, acs, reduceCtorEq, aa, V, ad, ag, af, ae, Mly.av, ah]; (repeat refine an ?_); (try refine .inl ?_); apply k0; clear k0; simp only [zP, V])
  refine am ?_
  refine ⟨_, _, ?_, ax [1, 2, 4, 5, 7, 8], k + 1, by omega, rfl, rfl⟩
  omega
 (try simp only [zB, reduceCtorEq] at hc14)
 have hke : k = m.nx.length := by omega
 refine aV ?_
 apply k8; clear k8; refine kp [1, 2, 4, 5, 7, 8, 27] ?_
 refine ai fun _ k16 => ?_
 refine ak hP hN rfl ?_
 iterate 3 (refine aj rfl fun _ k0 => ?_; simp only [zO, zT, acs, reduceCtorEq, aa, V, ad, ag, af, ae, Mly.av, ah]; (repeat refine an ?_); (try refine .inl ?_); apply k0; clear k0; simp only [zP, V])
 refine am ?_
 apply k16; clear k16; refine kp [1, 2, 4, 5, 7, 8, 27] ?_
 refine aG ?_
 refine ⟨nr, _, rfl, ?_⟩; simp only [zF, zP, aa, V, Mly.av, ah]
 first
 | (rw [if_neg hv]; exact cz ⟨bg (bt rfl), bg (.refl _), trivial⟩)
 | (rw [if_pos hv, hv, hke]; exact VLE.of_eq rfl)
theorem yQ (m : Mly) : bG Try.prog 78 [m.av] (.tup [.one (.list (.int .i64) (if aT m = 0 then m.cls m.nx.length else [])), .one (.int .i64 (aT m))]) := by
 refine aR Try.func78 rfl (by kernel_rfl) (Nat.le_of_ble_eq_true rfl) rfl fun C hP hN hB => ?_
 replace hN : C.N = 11 := hN
 simp only [bf, V]
 refine ai fun _ k1 => ?_
 refine ak hP hN rfl ?_
 iterate 3 (refine aj rfl fun _ k0 => ?_; simp only [zO, zT, acs, reduceCtorEq, aa, V, ad, ag, af, ae, Mly.av]; (repeat refine an ?_); (try refine .inl ?_); apply k0; clear k0; simp only [zP, V])
 refine am ?_
 apply k1; clear k1; refine kp [0, 1, 2, 3] ?_
 refine ai fun _ k2 => ?_
 refine ak hP hN rfl ?_
 iterate 4 (refine aj rfl fun _ k0 => ?_; simp only [zO, zT, acs, reduceCtorEq, aa, V, ad, ag, af, ae, Mly.av]; (repeat refine an ?_); (try refine .inl ?_); apply k0; clear k0; simp only [zP, V])
 refine aj rfl fun _ k0 => ?_
 refine aK (h := aC (xi m)) rfl rfl (by first | exact rfl | (simp only [ev, zP, aa, V]; exact rfl)) (by simp only [zV, acs, reduceCtorEq, aa, V, ad, ag, af, ae, Mly.av]) ?_
 apply k0; clear k0; simp only [zP, V]
 iterate 4 (refine aj rfl fun _ k0 => ?_; simp only [zO, zT, acs, reduceCtorEq, aa, V, ad, ag, af, ae, Mly.av]; (repeat refine an ?_); (try refine .inl ?_); apply k0; clear k0; simp only [zP, V])
 refine am ?_
 apply k2; clear k2; refine kp [0, 1, 2, 3] ?_
 refine aG ?_
 refine ⟨nr, _, rfl, ?_⟩; simp only [zF, zP, aa, V, Mly.av]
 refine VLE.of_eq ?_
 rfl
set_option maxHeartbeats 2500000 in
theorem tK (m : Mly) : bG Try.prog 63 [m.av] (.tup [if aT m = 0 then .agg [.int .i64 m.inp, .int .i64 0, .list (.list (.int .i64)) (mmF m).2, .junk] else Mly.av ⟨0, 0, [], []⟩, .one (.int .i64 (aT m))]) := by
 refine aR Try.func63 rfl (by kernel_rfl) (Nat.le_of_ble_eq_true rfl) rfl fun C hP hN hB => ?_
 replace hN : C.N = 130 := hN
 simp only [bf, V]
 refine ai fun _ k1 => ?_
 refine ak hP hN rfl ?_
 iterate 3 (refine aj rfl fun _ k0 => ?_; simp only [zO, zT, acs, reduceCtorEq, aa, V, ad, ag, af, ae, Mly.av, ah, br]; (repeat refine an ?_); (try refine .inl ?_); apply k0; clear k0; simp only [zP, V])
 refine am ?_
 apply k1; clear k1; refine kp [0, 1, 2, 3] ?_
 refine ai fun _ k2 => ?_
 refine ak hP hN rfl ?_
 (refine aj rfl fun _ k0 => ?_; simp only [zO, zT, acs, reduceCtorEq, aa, V, ad, ag, af, ae, Mly.av, ah, br]; (repeat refine an ?_); (try refine .inl ?_); apply k0; clear k0; simp only [zP, V])
 refine aj rfl fun _ k0 => ?_
 refine aK (h := aC (yQ m)) rfl rfl (by first | exact rfl | (simp only [ev, zP, aa, V]; exact rfl)) (by simp only [zV, acs, reduceCtorEq, aa, V, ad, ag, af, ae, Mly.av, ah, br]) ?_
 apply k0; clear k0; simp only [zP, V]
 iterate 5 (refine aj rfl fun _ k0 => ?_; simp only [zO, zT, acs, reduceCtorEq, aa, V, ad, ag, af, ae, Mly.av, ah, br]; (repeat refine an ?_); (try refine .inl ?_); apply k0; clear k0; simp only [zP, V])
 refine am ?_
 apply k2; clear k2; refine kp [0, 1, 2, 3, 4, 5] ?_
 refine ai fun _ k3 => ?_
 refine ai fun _ k4 => ?_
 refine ak hP hN rfl ?_
 iterate 2 (refine aj rfl fun _ k0 => ?_; simp only [zO, zT, acs, reduceCtorEq, aa, V, ad, ag, af, ae, Mly.av, ah, br]; (repeat refine an ?_); (try refine .inl ?_); apply k0; clear k0; simp only [zP, V])
 refine am ?_
 apply k4; clear k4; refine kp [0, 1, 2, 3, 4, 5, 21] ?_
 refine cd (fun hc5 => ?_) (fun hc5 => ?_)
 ·(try simp only [zB, reduceCtorEq] at hc5)
  have hv : ¬ aT m = 0 := hc5
  refine ai fun _ k6 => ?_
  refine ak hP hN rfl ?_
  iterate 4 (refine aj rfl fun _ k0 => ?_; simp only [zO, zT, acs, reduceCtorEq, aa, V, ad, ag, af, ae, Mly.av, ah, br]; (repeat refine an ?_); (try refine .inl ?_); apply k0; clear k0; simp only [zP, V])
  refine am ?_
  apply k6; clear k6; refine kp [0, 1, 2, 3, 4, 5, 21] ?_
  refine aG ?_
  refine ⟨nr, _, rfl, ?_⟩; simp only [zF, zP, aa, V, Mly.av, ah, br]
  first
  | (rw [if_neg hv]; exact cz ⟨dk ⟨.refl _, .refl _, bt rfl, bt rfl, trivial⟩, bg (.refl _), trivial⟩)
  | (rw [if_pos hv, hv, ← hRX]; exact cz ⟨dk ⟨.refl _, .refl _, .refl _, fun C L σ w u hu => ⟨hu.1, trivial⟩, trivial⟩, bg (.refl _), trivial⟩)
 (try simp only [zB, reduceCtorEq] at hc5)
 have hv : aT m = 0 := by simpa using hc5
 have hm := fc hv
 have hi1 := hm.i1; have hi2 := hm.i2; have hn1 := hm.n1; have hn2 := hm.n2; have hs1 := hm.s1; have hs2 := hm.s2; have ol := hm.ol
 have hcl := jQ m m.nx.length
 refine o8 4 (v' := .one (.list (.int .i64) (m.cls m.nx.length))) rfl (VLE.of_eq (by show AV.one (.list (.int .i64) (if aT m = 0 then m.cls m.nx.length else [])) = _; rw [if_pos hv])) ?_
 refine ay ?_
 apply k3; clear k3; refine kp [0, 1, 2, 3, 4, 5, 21] ?_
 refine ai fun _ k7 => ?_
 refine ak hP hN rfl ?_
 iterate 2 (refine aj rfl fun _ k0 => ?_; simp only [zO, zT, acs, reduceCtorEq, aa, V, ad, ag, af, ae, Mly.av, ah, br]; (repeat refine an ?_); (try refine .inl ?_); apply k0; clear k0; simp only [zP, V])
 (refine aj rfl fun _ k0 => ?_; simp only [zO, zT, acs, reduceCtorEq, aa, V, ad, ag, af, ae, Mly.av, ah, br]; (repeat refine an ?_); refine Or.inr (Or.inl (k0 _ ?_)); clear k0; simp only [zP, V])
 (refine aj rfl fun _ k0 => ?_; simp only [zO, zT, acs, reduceCtorEq, aa, V, ad, ag, af, ae, Mly.av, ah, br]; (repeat refine an ?_); (try refine .inl ?_); apply k0; clear k0; simp only [zP, V])
 refine am ?_
 apply k7; clear k7; refine kp [0, 1, 2, 3, 4, 5, 6, 21] ?_
 refine ai fun _ k8 => ?_
 refine ak hP hN rfl ?_
 iterate 3 (refine aj rfl fun _ k0 => ?_; simp only [zO, zT, acs, reduceCtorEq, aa, V, ad, ag, af, ae, Mly.av, ah, br]; (repeat refine an ?_); (try refine .inl ?_); apply k0; clear k0; simp only [zP, V])
 (refine aj rfl fun _ k0 => ?_; simp only [zE, op1, ev, lkp, cW, bJ, bI, d5, Nat.mul_one, bS, cH, acs, Ty.dflt, zG, bW, ca, eQ, dS, cE, cV, dZ, Nat.div_one, cD, cZ, Ty.size, bq, dite_true, cL, reduceCtorEq, aa, V, ad, ag, af, ae, Try.el22, Try.el41, Try.st24, Try.td2, Try.td22, Try.td24, Try.td3, Try.td41, Mly.av, ah, br]; (repeat refine an ?_); (try refine .inl ?_); apply k0; clear k0; simp only [zP, V])
 (refine aj rfl fun _ k0 => ?_; simp only [zO, zT, acs, reduceCtorEq, aa, V, ad, ag, af, ae, Mly.av, ah, br]; (repeat refine an ?_); (try refine .inl ?_); apply k0; clear k0; simp only [zP, V])
 refine am ?_
 apply k8; clear k8; refine kp [0, 1, 2, 3, 4, 5, 6, 7, 21] ?_
 refine ai fun _ k9 => ?_
 refine ai fun _ k10 => ?_
 refine ak hP hN rfl ?_
 (refine aj rfl fun _ k0 => ?_; simp only [zO, zT, acs, reduceCtorEq, aa, V, ad, ag, af, ae, Mly.av, ah, br]; (repeat refine an ?_); (try refine .inl ?_); apply k0; clear k0; simp only [zP, V])
 refine am ?_
 apply k10; clear k10; refine kp [0, 1, 2, 3, 4, 5, 6, 7, 8, 21] ?_
 refine aB ?_
 refine aZ (fun n11 s11 => ∃ (k : Nat), (k ≤ m.nx.length) ∧ n11 = m.nx.length - k ∧ s11 = { env := [(1, .one (.ptr 0 0 0 0)), (2, .one (.ptr 1 0 0 0)), (3, .one (.int .i64 0)), (4, .one (.list (.int .i64) (m.cls m.nx.length))), (6, .one (.row 2 0)), (7, .one (.row 3 0)), (8, .one (.int .i64 (k : Int)))], L := [.vars 24 [.int .i64 m.inp, .int .i64 m.st, .list (.list (.int .i64)) m.nx, .list (.list (.int .i64)) m.ot], .vars 24 [.int .i64 0, .int .i64 0, .nils, .nils], .row (.int .i64) 3 0 [m.st], .row (.int .i64) 3 0 (prL (fun _ => -1) m.nx.length k 0)] }) ?_ ?_
 ·refine ⟨_, _, ax [1, 2, 3, 4, 6, 7, 8], 0, Nat.zero_le _, rfl, ?_⟩
  rw [yi]; rfl
 rintro n11 s11 ⟨k, hk, rfl, rfl⟩
 refine ai fun _ k12 => ?_
 refine ai fun _ k13 => ?_
 refine ak hP hN rfl ?_
 iterate 4 (refine aj rfl fun _ k0 => ?_; simp only [zO, zT, acs, reduceCtorEq, aa, V, ad, ag, af, ae, Mly.av, ah, br, oT]; (repeat refine an ?_); (try refine .inl ?_); apply k0; clear k0; simp only [zP, V])
 refine am ?_
 apply k13; clear k13; refine kp [1, 2, 3, 4, 6, 7, 8, 34] ?_
 refine cd (fun hc14 => ?_) (fun hc14 => ?_)
 ·(try simp only [zB, reduceCtorEq] at hc14)
  refine ay ?_
  apply k12; clear k12; refine kp [1, 2, 3, 4, 6, 7, 8, 34] ?_
  refine ai fun _ k15 => ?_
  refine aB ?_
  have hp9 := tB (f := fun _ => (-1 : Int)) (n := m.nx.length) (s := k) (by omega)
  refine ak hP hN rfl ?_
  iterate 4 (refine aj rfl fun _ k0 => ?_; simp only [zO, zT, acs, reduceCtorEq, aa, V, ad, ag, af, ae, Mly.av, ah, br, oT]; (repeat refine an ?_); (try refine .inl ?_); apply k0; clear k0; simp only [zP, V])
  refine am ?_
  apply k15; clear k15; refine kp [1, 2, 3, 4, 6, 7, 8, 34] ?_
  refine ak hP hN rfl ?_
  iterate 3 (refine aj rfl fun _ k0 => ?_; simp only [zO, zT, acs, reduceCtorEq, aa, V, ad, ag, af, ae, Mly.av, ah, br]; (repeat refine an ?_); (try refine .inl ?_); apply k0; clear k0; simp only [zP, V])
  refine am ?_
  refine ⟨_, _, ?_, ax [1, 2, 3, 4, 6, 7, 8], k + 1, by omega, rfl, ?_⟩
  · omega
  · rw [hp9, ← rR]; rfl
 (try simp only [zB, reduceCtorEq] at hc14)
 refine aV ?_
 apply k9; clear k9; refine kp [1, 2, 3, 4, 6, 7, 8, 34] ?_
 refine ai fun _ k16 => ?_
 have hc0 : 0 ≤ (m.cls m.nx.length).getD m.st.toNat 0 ∧ (m.cls m.nx.length).getD m.st.toNat 0 < m.nx.length := tQ hm ⟨hs1, hs2⟩
 have hke : k = m.nx.length := by omega
 have hset0 : (fU m []).set ((m.cls m.nx.length).getD m.st.toNat 0).toNat 0 = fU m [m.st] := rX (m := m) (O := []) (t := m.st) (c := ((m.cls m.nx.length).getD m.st.toNat 0).toNat) (by omega) (by show (m.cls m.nx.length).getD m.st.toNat 0 = _; omega) (by show (-1 : Int) < 0; omega)
 rw [hke, uM, show (List.range m.nx.length).map (fun _ => (-1 : Int)) = fU m [] by rw [xC]; simp [List.map_const']]
 refine ak hP hN rfl ?_
 iterate 8 (refine aj rfl fun _ k0 => ?_; simp only [zO, zT, acs, reduceCtorEq, aa, V, ad, ag, af, ae, Mly.av, ah, br]; (repeat refine an ?_); (try refine .inl ?_); apply k0; clear k0; simp only [zP, V, hset0])
 refine am ?_
 apply k16; clear k16; refine kp [1, 2, 3, 4, 6, 7, 8, 34] ?_
 refine ai fun _ k17 => ?_
 refine ak hP hN rfl ?_
 iterate 5 (refine aj rfl fun _ k0 => ?_; simp only [zO, zT, acs, reduceCtorEq, aa, V, ad, ag, af, ae, Mly.av, ah, br]; (repeat refine an ?_); (try refine .inl ?_); apply k0; clear k0; simp only [zP, V])
 refine am ?_
 apply k17; clear k17; refine kp [1, 2, 3, 4, 6, 7, 8, 9, 34] ?_
 refine ai fun _ k18 => ?_
 refine ai fun _ k19 => ?_
 refine ak hP hN rfl ?_
 (refine aj rfl fun _ k0 => ?_; simp only [zO, zT, acs, reduceCtorEq, aa, V, ad, ag, af, ae, Mly.av, ah, br]; (repeat refine an ?_); (try refine .inl ?_); apply k0; clear k0; simp only [zP, V])
 refine am ?_
 apply k19; clear k19; refine kp [1, 2, 3, 4, 6, 7, 8, 9, 10, 34] ?_
 refine aB ?_
 refine eK 4 2 (.list (.int .i64)) 41 (by decide) rfl rfl ?_; simp only [zS, aw, aH, aP, bc, Nat.zero_add, V]
 refine eK 4 3 (.list (.int .i64)) 41 (by decide) rfl rfl ?_; simp only [zS, aw, aH, aP, bc, Nat.zero_add, V]
 refine aZ (fun n20 s20 => ∃ (i v y z : Nat) (O : List Int) (RX RY : BK), (i ≤ O.length) ∧ (MO m O) ∧ (RX.length = i ∧ RY.length = i) ∧ (np m (m.nx.length + 1 - i) i (O, RX) = mmF m) ∧ n20 = m.nx.length + 1 - i ∧ s20 = { env := [(1, .one (.ptr 0 0 0 0)), (2, .one (.ptr 1 0 0 0)), (3, .one (.int .i64 0)), (4, .one (.list (.int .i64) (m.cls m.nx.length))), (6, .one (.row 2 v)), (7, .one (.row 3 0)), (9, .one (.ptr 4 0 0 0)), (10, .one (.int .i64 (i : Int)))], L := [.vars 24 [.int .i64 m.inp, .int .i64 m.st, .list (.list (.int .i64)) m.nx, .list (.list (.int .i64)) m.ot], .vars 24 [.int .i64 0, .int .i64 0, .nils, .nils], .row (.int .i64) 3 v O, .row (.int .i64) 3 0 (fU m O), .vars 24 [.int .i64 m.inp, .int .i64 0, .row 5 y, .row 6 z], .row (.list (.int .i64)) 41 y RX, .row (.list (.int .i64)) 41 z RY] }) ?_ ?_
 ·exact ⟨_, _, ax [1, 2, 3, 4, 6, 7, 9, 10], 0, 0, 0, 0, [m.st], [], [], Nat.zero_le _, ⟨fun o ho => by rw [List.mem_singleton] at ho; rw [ho]; exact ⟨hs1, hs2⟩, List.pairwise_singleton _ _⟩, ⟨rfl, rfl⟩, rfl, rfl, rfl⟩
 rintro n20 s20 ⟨i, v, y, z, O, RX, RY, hi, hO, hRl0, hgo, rfl, rfl⟩
 refine ai fun _ k21 => ?_
 refine ai fun _ k22 => ?_
 refine ak hP hN rfl ?_
 iterate 4 (refine aj rfl fun _ k0 => ?_; simp only [zO, zT, acs, reduceCtorEq, aa, V, ad, ag, af, ae, Mly.av, ah, br]; (repeat refine an ?_); (try refine .inl ?_); apply k0; clear k0; simp only [zP, V])
 refine am ?_
 apply k22; clear k22; refine kp [1, 2, 3, 4, 6, 7, 9, 10, 53] ?_
 refine cd (fun hc23 => ?_) (fun hc23 => ?_)
 ·(try simp only [zB, reduceCtorEq] at hc23)
  refine ay ?_
  apply k21; clear k21; refine kp [1, 2, 3, 4, 6, 7, 9, 10, 53] ?_
  refine ai fun _ k24 => ?_
  refine aB ?_
  refine ai fun _ k25 => ?_
  have hil : i < O.length := by omega
  have hxr := hO.rng _ (bn hil)
  have hOl := hO.len
  refine ak hP hN rfl ?_
  iterate 2 (refine aj rfl fun _ k0 => ?_; simp only [zO, zT, acs, reduceCtorEq, aa, V, ad, ag, af, ae, Mly.av, ah, br]; (repeat refine an ?_); (try refine .inl ?_); apply k0; clear k0; simp only [zP, V])
  refine am ?_
  apply k25; clear k25; refine kp [1, 2, 3, 4, 6, 7, 9, 10, 11, 12, 53] ?_
  refine ai fun _ k26 => ?_
  refine ai fun _ k27 => ?_
  refine ak hP hN rfl ?_
  (refine aj rfl fun _ k0 => ?_; simp only [zO, zT, acs, reduceCtorEq, aa, V, ad, ag, af, ae, Mly.av, ah, br]; (repeat refine an ?_); (try refine .inl ?_); apply k0; clear k0; simp only [zP, V])
  refine am ?_
  apply k27; clear k27; refine kp [1, 2, 3, 4, 6, 7, 9, 10, 11, 12, 13, 53] ?_
  refine aB ?_
  refine eE 11 (.int .i64) 3 (by decide) rfl ?_; simp only [aw, aH, aP, bc, Nat.zero_add, V]
  refine eE 12 (.int .i64) 3 (by decide) rfl ?_; simp only [aw, aH, aP, bc, Nat.zero_add, V]
  refine aZ (fun n28 s28 => ∃ (a v2 w1 w2 : Nat) (RO : List Int), ((a : Int) ≤ m.inp) ∧ (RO.length = a) ∧ n28 = m.inp.toNat - a ∧ s28 = { env := [(1, .one (.ptr 0 0 0 0)), (2, .one (.ptr 1 0 0 0)), (3, .one (.int .i64 0)), (4, .one (.list (.int .i64) (m.cls m.nx.length))), (6, .one (.row 2 v2)), (7, .one (.row 3 0)), (9, .one (.ptr 4 0 0 0)), (10, .one (.int .i64 (i : Int))), (11, .one (.row 7 w1)), (12, .one (.row 8 w2)), (13, .one (.int .i64 (a : Int))), (53, .one (.bool true))], L := [.vars 24 [.int .i64 m.inp, .int .i64 m.st, .list (.list (.int .i64)) m.nx, .list (.list (.int .i64)) m.ot], .vars 24 [.int .i64 0, .int .i64 0, .nils, .nils], .row (.int .i64) 3 v2 (cO m (O.getD i 0) O a).1, .row (.int .i64) 3 0 (fU m (cO m (O.getD i 0) O a).1), .vars 24 [.int .i64 m.inp, .int .i64 0, .row 5 y, .row 6 z], .row (.list (.int .i64)) 41 y RX, .row (.list (.int .i64)) 41 z RY, .row (.int .i64) 3 w1 (cO m (O.getD i 0) O a).2, .row (.int .i64) 3 w2 RO] }) ?_ ?_
  ·refine ⟨_, _, ax [1, 2, 3, 4, 6, 7, 9, 10, 11, 12, 13, 53], 0, v, 0, 0, [], by omega, rfl, rfl, ?_⟩
   rw [decide_eq_true (show (i : Int) < (O.length : Int) by omega)]; rfl
  rintro n28 s28 ⟨a, v2, w1, w2, RO, ha, hRO, rfl, rfl⟩
  refine ai fun _ k29 => ?_
  refine ai fun _ k30 => ?_
  refine ak hP hN rfl ?_
  iterate 4 (refine aj rfl fun _ k0 => ?_; simp only [zO, zT, acs, reduceCtorEq, aa, V, ad, ag, af, ae, Mly.av, ah, br]; (repeat refine an ?_); (try refine .inl ?_); apply k0; clear k0; simp only [zP, V])
  refine am ?_
  apply k30; clear k30; refine kp [1, 2, 3, 4, 6, 7, 9, 10, 11, 12, 13, 53, 59] ?_
  refine cd (fun hc31 => ?_) (fun hc31 => ?_)
  ·(try simp only [zB, reduceCtorEq] at hc31)
   refine ay ?_
   apply k29; clear k29; refine kp [1, 2, 3, 4, 6, 7, 9, 10, 11, 12, 13, 53, 59] ?_
   refine ai fun _ k32 => ?_
   refine aB ?_
   refine ai fun _ k33 => ?_
   obtain ⟨hR1, hR2, rr, hR3⟩ := kD hm hxr hO a (by omega)
   have hRl := hR1.len
   have hgx : (cO m (O.getD i 0) O a).1.getD i 0 = (O.getD i 0) := by rw [hR3]; simp [List.getD, List.getElem?_append_left hil]
   have hil2 : i < (cO m (O.getD i 0) O a).1.length := by rw [hR3, aq]; omega
   have q1 := hm.rl (O.getD i 0).toNat (by omega)
   have hnr := hm.nr (O.getD i 0).toNat a (by omega) (by omega)
   have hct : 0 ≤ (m.cls m.nx.length).getD ((m.nx.getD (O.getD i 0).toNat []).getD a 0).toNat 0 ∧ (m.cls m.nx.length).getD ((m.nx.getD (O.getD i 0).toNat []).getD a 0).toNat 0 < m.nx.length := tQ hm (t := (m.nxt (O.getD i 0) (a : Int))) hnr
   have hgn : ∀ Z, (fU m Z).getD ((m.cls m.nx.length).getD ((m.nx.getD (O.getD i 0).toNat []).getD a 0).toNat 0).toNat 0 = nmO m Z (cAt m (m.nxt (O.getD i 0) (a : Int))) := fun Z => (xk (by omega)).trans (congrArg (nmO m Z) (by show _ = (m.cls m.nx.length).getD ((m.nx.getD (O.getD i 0).toNat []).getD a 0).toNat 0; omega))
   refine bj hP hN Try.mixed rfl ?_
   iterate 12 (refine aj rfl fun _ k0 => ?_; simp only [zO, zT, acs, reduceCtorEq, aa, V, ad, ag, af, ae, Mly.av, ah, br, hgx]; (repeat refine an ?_); (try refine .inl ?_); apply k0; clear k0; simp only [zP, V])
   refine am ?_
   refine ⟨by kernel_rfl, ?_⟩
   apply k33; clear k33; refine kp [1, 2, 3, 4, 6, 7, 9, 10, 11, 12, 13, 14, 53, 59] ?_
   refine ai fun _ k34 => ?_
   refine ai fun _ k35 => ?_
   refine ak hP hN rfl ?_
   iterate 8 (refine aj rfl fun _ k0 => ?_; simp only [zO, zT, acs, reduceCtorEq, aa, V, ad, ag, af, ae, Mly.av, ah, br, hgn]; (repeat refine an ?_); (try refine .inl ?_); apply k0; clear k0; simp only [zP, V])
   refine am ?_
   apply k35; clear k35; refine kp [1, 2, 3, 4, 6, 7, 9, 10, 11, 12, 13, 14, 53, 59, 80] ?_
   refine cd (fun hc36 => ?_) (fun hc36 => ?_)
   ·(try simp only [zB, reduceCtorEq] at hc36)
    have hnm : nmO m (cO m (O.getD i 0) O a).1 (cAt m (m.nxt (O.getD i 0) (a : Int))) < 0 := hc36
    have hA : mmA m (cO m (O.getD i 0) O a).1 (m.nxt (O.getD i 0) (a : Int)) = (cO m (O.getD i 0) O a).1 ++ [(m.nxt (O.getD i 0) (a : Int))] := if_pos hnm
    refine ai fun _ k37 => ?_
    have hset1 : (fU m (cO m (O.getD i 0) O a).1).set ((m.cls m.nx.length).getD ((m.nx.getD (O.getD i 0).toNat []).getD a 0).toNat 0).toNat ((cO m (O.getD i 0) O a).1.length : Int) = fU m ((cO m (O.getD i 0) O a).1 ++ [(m.nxt (O.getD i 0) (a : Int))]) := rX (by omega) (by show (m.cls m.nx.length).getD ((m.nx.getD (O.getD i 0).toNat []).getD a 0).toNat 0 = _; omega) (by rw [show ((((m.cls m.nx.length).getD ((m.nx.getD (O.getD i 0).toNat []).getD a 0).toNat 0).toNat : Nat) : Int) = cAt m (m.nxt (O.getD i 0) (a : Int)) by show _ = (m.cls m.nx.length).getD ((m.nx.getD (O.getD i 0).toNat []).getD a 0).toNat 0; omega]; exact hnm)
    refine ak hP hN rfl ?_
    iterate 9 (refine aj rfl fun _ k0 => ?_; simp only [zO, zT, acs, reduceCtorEq, aa, V, ad, ag, af, ae, Mly.av, ah, br, hgn]; (repeat refine an ?_); (try refine .inl ?_); apply k0; clear k0; simp only [zP, V, hset1])
    refine am ?_
    apply k37; clear k37; refine kp [1, 2, 3, 4, 6, 7, 9, 10, 11, 12, 13, 14, 53, 59, 80] ?_
    refine ak hP hN rfl ?_
    iterate 5 (refine aj rfl fun _ k0 => ?_; simp only [zO, zT, acs, reduceCtorEq, aa, V, ad, ag, af, ae, Mly.av, ah, br]; (repeat refine an ?_); (try refine .inl ?_); apply k0; clear k0; simp only [zP, V])
    refine am ?_
    apply k34; clear k34; refine kp [1, 2, 3, 4, 6, 7, 9, 10, 11, 12, 13, 14, 53, 59, 80] ?_
    refine ai fun _ k38 => ?_
    refine ak hP hN rfl ?_
    iterate 11 (refine aj rfl fun _ k0 => ?_; simp only [zO, zT, acs, reduceCtorEq, aa, V, ad, ag, af, ae, Mly.av, ah, br, hgn]; (repeat refine an ?_); (try refine .inl ?_); apply k0; clear k0; simp only [zP, V])
    refine am ?_
    apply k38; clear k38; refine kp [1, 2, 3, 4, 6, 7, 9, 10, 11, 12, 13, 14, 53, 59, 80] ?_
    have q2 := hm.ql (O.getD i 0).toNat (by omega)
    have hgx2 : ((cO m (O.getD i 0) O a).1 ++ [((m.nx.getD (O.getD i 0).toNat []).getD a 0)]).getD i 0 = (O.getD i 0) := (lx hil2).trans hgx
    refine bj hP hN Try.mixed rfl ?_
    iterate 15 (refine aj rfl fun _ k0 => ?_; simp only [zO, zT, acs, reduceCtorEq, aa, V, ad, ag, af, ae, Mly.av, ah, br, hgx, hgx2, aq]; (repeat refine an ?_); (try refine .inl ?_); apply k0; clear k0; simp only [zP, V])
    refine am ?_
    refine ⟨by kernel_rfl, ?_⟩
    apply k32; clear k32; refine kp [1, 2, 3, 4, 6, 7, 9, 10, 11, 12, 13, 14, 53, 59, 80] ?_
    refine ak hP hN rfl ?_
    iterate 3 (refine aj rfl fun _ k0 => ?_; simp only [zO, zT, acs, reduceCtorEq, aa, V, ad, ag, af, ae, Mly.av, ah, br]; (repeat refine an ?_); (try refine .inl ?_); apply k0; clear k0; simp only [zP, V])
    refine am ?_
    first
    | (refine ⟨_, _, ?_, ax [1, 2, 3, 4, 6, 7, 9, 10, 11, 12, 13, 53], a + 1, v2 + 1, w1 + 1, w2 + 1, RO ++ [(m.ot.getD (O.getD i 0).toNat []).getD a 0], by omega, by rw [aq, hRO]; rfl, rfl, ?_⟩
       · omega
       · rw [fN]; unfold qP; rw [hA]; rfl)
    | (refine ⟨_, _, ?_, ax [1, 2, 3, 4, 6, 7, 9, 10, 11, 12, 13, 53], a + 1, v2, w1 + 1, w2 + 1, RO ++ [(m.ot.getD (O.getD i 0).toNat []).getD a 0], by omega, by rw [aq, hRO]; rfl, rfl, ?_⟩
       · omega
       · rw [fN]; unfold qP; rw [hA]; rfl)
   (try simp only [zB, reduceCtorEq] at hc36)
   have hnm : ¬ nmO m (cO m (O.getD i 0) O a).1 (cAt m (m.nxt (O.getD i 0) (a : Int))) < 0 := by have h9 : 0 ≤ nmO m (cO m (O.getD i 0) O a).1 (cAt m (m.nxt (O.getD i 0) (a : Int))) := hc36; omega
   have hA : mmA m (cO m (O.getD i 0) O a).1 (m.nxt (O.getD i 0) (a : Int)) = (cO m (O.getD i 0) O a).1 := if_neg hnm
   refine ay ?_
   apply k34; clear k34; refine kp [1, 2, 3, 4, 6, 7, 9, 10, 11, 12, 13, 14, 53, 59, 80] ?_
   refine ai fun _ k39 => ?_
   refine ak hP hN rfl ?_
   iterate 11 (refine aj rfl fun _ k0 => ?_; simp only [zO, zT, acs, reduceCtorEq, aa, V, ad, ag, af, ae, Mly.av, ah, br, hgn]; (repeat refine an ?_); (try refine .inl ?_); apply k0; clear k0; simp only [zP, V])
   refine am ?_
   apply k39; clear k39; refine kp [1, 2, 3, 4, 6, 7, 9, 10, 11, 12, 13, 14, 53, 59, 80] ?_
   have q2 := hm.ql (O.getD i 0).toNat (by omega)
   have hgx2 : ((cO m (O.getD i 0) O a).1 ++ [((m.nx.getD (O.getD i 0).toNat []).getD a 0)]).getD i 0 = (O.getD i 0) := (lx hil2).trans hgx
   refine bj hP hN Try.mixed rfl ?_
   iterate 15 (refine aj rfl fun _ k0 => ?_; simp only [zO, zT, acs, reduceCtorEq, aa, V, ad, ag, af, ae, Mly.av, ah, br, hgx, hgx2, aq]; (repeat refine an ?_); (try refine .inl ?_); apply k0; clear k0; simp only [zP, V])
   refine am ?_
   refine ⟨by kernel_rfl, ?_⟩
   apply k32; clear k32; refine kp [1, 2, 3, 4, 6, 7, 9, 10, 11, 12, 13, 14, 53, 59, 80] ?_
   refine ak hP hN rfl ?_
   iterate 3 (refine aj rfl fun _ k0 => ?_; simp only [zO, zT, acs, reduceCtorEq, aa, V, ad, ag, af, ae, Mly.av, ah, br]; (repeat refine an ?_); (try refine .inl ?_); apply k0; clear k0; simp only [zP, V])
   refine am ?_
   first
   | (refine ⟨_, _, ?_, ax [1, 2, 3, 4, 6, 7, 9, 10, 11, 12, 13, 53], a + 1, v2 + 1, w1 + 1, w2 + 1, RO ++ [(m.ot.getD (O.getD i 0).toNat []).getD a 0], by omega, by rw [aq, hRO]; rfl, rfl, ?_⟩
      · omega
      · rw [fN]; unfold qP; rw [hA]; rfl)
   | (refine ⟨_, _, ?_, ax [1, 2, 3, 4, 6, 7, 9, 10, 11, 12, 13, 53], a + 1, v2, w1 + 1, w2 + 1, RO ++ [(m.ot.getD (O.getD i 0).toNat []).getD a 0], by omega, by rw [aq, hRO]; rfl, rfl, ?_⟩
      · omega
      · rw [fN]; unfold qP; rw [hA]; rfl)
  (try simp only [zB, reduceCtorEq] at hc31)
  have hae : m.inp.toNat = a := by omega
  refine aV ?_
  apply k26; clear k26; refine kp [1, 2, 3, 4, 6, 7, 9, 10, 11, 12, 13, 53, 59] ?_
  refine ai fun _ k40 => ?_
  refine cu 7 rfl ?_; simp only [aI, bl, zS, aa, and_self, and_true, true_and, and_false, false_and, if_true, if_false, eq_self, reduceCtorEq, Nat.one_ne_zero, Nat.zero_ne_one]
  refine ak hP hN rfl ?_
  iterate 7 (refine aj rfl fun _ k0 => ?_; simp only [zO, zT, acs, reduceCtorEq, aa, V, ad, ag, af, ae, Mly.av, ah, br]; (repeat refine an ?_); (try refine .inl ?_); apply k0; clear k0; simp only [zP, V])
  refine am ?_
  apply k40; clear k40; refine kp [1, 2, 3, 4, 6, 7, 9, 10, 11, 12, 13, 53, 59] ?_
  refine cu 8 rfl ?_; simp only [aI, bl, zS, aa, and_self, and_true, true_and, and_false, false_and, if_true, if_false, eq_self, reduceCtorEq, Nat.one_ne_zero, Nat.zero_ne_one]
  refine ak hP hN rfl ?_
  iterate 7 (refine aj rfl fun _ k0 => ?_; simp only [zO, zT, acs, reduceCtorEq, aa, V, ad, ag, af, ae, Mly.av, ah, br]; (repeat refine an ?_); (try refine .inl ?_); apply k0; clear k0; simp only [zP, V])
  refine am ?_
  apply k24; clear k24; refine kp [1, 2, 3, 4, 6, 7, 9, 10, 11, 12, 13, 53, 59] ?_
  refine cT [1, 2, 3, 4, 6, 7, 9, 10] ?_
  simp only [cq, lkp, zE, reduceCtorEq, aa]
  refine cQ (n := 8) (L1 := [_, _, _, _, _, _, _, _]) rfl rfl (by rw [hB]; decide) rfl rfl ?_
  refine cQ (n := 7) (L1 := [_, _, _, _, _, _, _]) rfl rfl (by rw [hB]; decide) rfl rfl ?_
  obtain ⟨hR1, hR2, rr, hR3⟩ := kD hm hxr hO a (by omega)
  have hRl := hR1.len
  have hil2 : i < (cO m (O.getD i 0) O a).1.length := by rw [hR3, aq]; omega
  refine ak hP hN rfl ?_
  iterate 3 (refine aj rfl fun _ k0 => ?_; simp only [zO, zT, acs, reduceCtorEq, aa, V, ad, ag, af, ae, Mly.av, ah, br]; (repeat refine an ?_); (try refine .inl ?_); apply k0; clear k0; simp only [zP, V])
  refine am ?_
  refine ⟨_, _, ?_, ax [1, 2, 3, 4, 6, 7, 9, 10], i + 1, v2, y + 1, z + 1, (cO m (O.getD i 0) O a).1, RX ++ [(cO m (O.getD i 0) O a).2], RY ++ [RO], by omega, hR1, ⟨by rw [aq, hRl0.1]; rfl, by rw [aq, hRl0.2]; rfl⟩, ?_, rfl, rfl⟩
  · omega
  · rw [← hgo, show m.nx.length + 1 - i = (m.nx.length + 1 - (i + 1)) + 1 by omega, pY hil, hae]
 (try simp only [zB, reduceCtorEq] at hc23)
 have hie : i = O.length := by omega
 have hfin := rH (m := m) (f := m.nx.length + 1 - i) (i := i) (p := (O, RX)) (by show ¬ i < O.length; omega)
 have hRX : RX = (mmF m).2 := by rw [← hgo, hfin]
 refine aV ?_
 apply k18; clear k18; refine kp [1, 2, 3, 4, 6, 7, 9, 10, 53] ?_
 refine ai fun _ k41 => ?_
 refine ju 5 4 rfl rfl ?_; simp only [aI, bl, frC, zS, aa, and_self, and_true, true_and, and_false, false_and, if_true, if_false, eq_self, reduceCtorEq, Nat.one_ne_zero, Nat.zero_ne_one]
 refine ju 6 4 rfl rfl ?_; simp only [aI, bl, frC, zS, aa, and_self, and_true, true_and, and_false, false_and, if_true, if_false, eq_self, reduceCtorEq, Nat.one_ne_zero, Nat.zero_ne_one]
 refine ak hP hN rfl ?_
 iterate 3 (refine aj rfl fun _ k0 => ?_; simp only [zO, zT, acs, reduceCtorEq, aa, V, ad, ag, af, ae, Mly.av, ah, br]; (repeat refine an ?_); (try refine .inl ?_); apply k0; clear k0; simp only [zP, V])
 refine am ?_
 apply k41; clear k41; refine kp [1, 2, 3, 4, 6, 7, 9, 10, 53] ?_
 refine aG ?_
 refine ⟨nr, _, rfl, ?_⟩; simp only [zF, zP, aa, V, Mly.av, ah, br]
 first
 | (rw [if_neg hv]; exact cz ⟨dk ⟨.refl _, .refl _, bt rfl, bt rfl, trivial⟩, bg (.refl _), trivial⟩)
 | (rw [if_pos hv, hv, ← hRX]; exact cz ⟨dk ⟨.refl _, .refl _, .refl _, fun C L σ w u hu => ⟨hu.1, trivial⟩, trivial⟩, bg (.refl _), trivial⟩)
theorem Ac (m : Mly) (hv : aT m = 0) : bG Try.prog 63 [m.av] (.tup [.agg [.int .i64 m.inp, .int .i64 0, .list (.list (.int .i64)) (mmF m).2, .junk], .one (.int .i64 0)]) := by
  have h := tK m
  rw [if_pos hv, hv] at h; exact h
theorem Ae (m : Mly) (hv : ¬ aT m = 0) : bG Try.prog 63 [m.av] (.tup [Mly.av ⟨0, 0, [], []⟩, .one (.int .i64 (aT m))]) := by
  have h := tK m
  rw [if_neg hv] at h; exact h
theorem vw (m : Mly) (hv : aT m = 0) : bG Try.prog 44 [m.av] (.one (.bool (mmB m))) := by
 refine aR Try.func44 rfl (by kernel_rfl) (Nat.le_of_ble_eq_true rfl) rfl fun C hP hN hB => ?_
 replace hN : C.N = 21 := hN
 simp only [bf, V]
 refine ai fun _ k1 => ?_
 refine ak hP hN rfl ?_
 iterate 2 (refine aj rfl fun _ k0 => ?_; simp only [zO, zT, acs, reduceCtorEq, aa, V, ad, ag, af, ae, Mly.av, ah]; (repeat refine an ?_); (try refine .inl ?_); apply k0; clear k0; simp only [zP, V])
 refine am ?_
 apply k1; clear k1; refine kp [0, 1, 2] ?_
 refine ai fun _ k2 => ?_
 refine ak hP hN rfl ?_
 (refine aj rfl fun _ k0 => ?_; simp only [zO, zT, acs, reduceCtorEq, aa, V, ad, ag, af, ae, Mly.av, ah]; (repeat refine an ?_); (try refine .inl ?_); apply k0; clear k0; simp only [zP, V])
 refine aj rfl fun _ k0 => ?_
 refine aK (h := aC (Ac m hv)) rfl rfl (by first | exact rfl | (simp only [ev, zP, aa, V]; exact rfl)) (by simp only [zV, acs, reduceCtorEq, aa, V, ad, ag, af, ae, Mly.av, ah]) ?_
 apply k0; clear k0; simp only [zP, V]
 iterate 6 (refine aj rfl fun _ k0 => ?_; simp only [zO, zT, acs, reduceCtorEq, aa, V, ad, ag, af, ae, Mly.av, ah]; (repeat refine an ?_); (try refine .inl ?_); apply k0; clear k0; simp only [zP, V])
 refine am ?_
 apply k2; clear k2; refine kp [0, 1, 2, 3, 4] ?_
 refine ai fun _ k3 => ?_
 refine ak hP hN rfl ?_
 iterate 3 (refine aj rfl fun _ k0 => ?_; simp only [zO, zT, acs, reduceCtorEq, aa, V, ad, ag, af, ae, Mly.av, ah]; (repeat refine an ?_); (try refine .inl ?_); apply k0; clear k0; simp only [zP, V])
 refine' aN (want := true) 7 rfl (m := 12) (by simp only [zP, aa, V]; exact rfl) (by kernel_rfl) rfl rfl rfl rfl rfl (fun hg4 => ?a4) ?b4 ?c4
 case a4 =>
  have hq4 := hg4; (try simp only [zB, reduceCtorEq] at hg4); simp only [zE]
  iterate 7 (refine aY rfl fun _ k0 => ?_; simp only [zO, zT, acs, reduceCtorEq, aa, V, ad, ag, af, ae, Mly.av, ah]; (repeat refine an ?_); (try refine .inl ?_); apply k0; clear k0; simp only [zP, V])
  (refine aj rfl fun _ k0 => ?_; simp only [zO, zT, acs, reduceCtorEq, aa, V, ad, ag, af, ae, Mly.av, ah]; (repeat refine an ?_); (try refine .inl ?_); apply k0; clear k0; simp only [zP, V])
  refine am ?_
  refine ⟨by simp only [zP, aa, V]; exact rfl, rfl, ?_, rfl⟩; (repeat refine aM rfl ?_); exact bm (by exact rfl) hq4
 case b4 => exact bZ
 simp only [b7, aU]
 (refine aj rfl fun _ k0 => ?_; simp only [zO, zT, acs, reduceCtorEq, aa, V, ad, ag, af, ae, Mly.av, ah]; (repeat refine an ?_); (try refine .inl ?_); apply k0; clear k0; simp only [zP, V])
 refine am ?_
 apply k3; clear k3; refine kp [0, 1, 2, 3, 4] ?_
 refine aG ?_
 refine ⟨nr, _, rfl, ?_⟩; simp only [zF, zP, aa, V, Mly.av, ah]
 refine VLE.of_eq ?_
 refine congrArg (fun b => AV.one (AC.bool b)) ?_
 unfold mmB
 rw [decide_eq_true hv]
 simp
 try omega
theorem vy (m : Mly) (hv : ¬ aT m = 0) : bG Try.prog 44 [m.av] (.one (.bool (mmB m))) := by
 refine aR Try.func44 rfl (by kernel_rfl) (Nat.le_of_ble_eq_true rfl) rfl fun C hP hN hB => ?_
 replace hN : C.N = 21 := hN
 simp only [bf, V]
 refine ai fun _ k1 => ?_
 refine ak hP hN rfl ?_
 iterate 2 (refine aj rfl fun _ k0 => ?_; simp only [zO, zT, acs, reduceCtorEq, aa, V, ad, ag, af, ae, Mly.av, ah]; (repeat refine an ?_); (try refine .inl ?_); apply k0; clear k0; simp only [zP, V])
 refine am ?_
 apply k1; clear k1; refine kp [0, 1, 2] ?_
 refine ai fun _ k2 => ?_
 refine ak hP hN rfl ?_
 (refine aj rfl fun _ k0 => ?_; simp only [zO, zT, acs, reduceCtorEq, aa, V, ad, ag, af, ae, Mly.av, ah]; (repeat refine an ?_); (try refine .inl ?_); apply k0; clear k0; simp only [zP, V])
 refine aj rfl fun _ k0 => ?_
 refine aK (h := aC (Ae m hv)) rfl rfl (by first | exact rfl | (simp only [ev, zP, aa, V]; exact rfl)) (by simp only [zV, acs, reduceCtorEq, aa, V, ad, ag, af, ae, Mly.av, ah]) ?_
 apply k0; clear k0; simp only [zP, V]
 iterate 6 (refine aj rfl fun _ k0 => ?_; simp only [zO, zT, acs, reduceCtorEq, aa, V, ad, ag, af, ae, Mly.av, ah]; (repeat refine an ?_); (try refine .inl ?_); apply k0; clear k0; simp only [zP, V])
 refine am ?_
 apply k2; clear k2; refine kp [0, 1, 2, 3, 4] ?_
 refine ai fun _ k3 => ?_
 refine ak hP hN rfl ?_
 iterate 3 (refine aj rfl fun _ k0 => ?_; simp only [zO, zT, acs, reduceCtorEq, aa, V, ad, ag, af, ae, Mly.av, ah]; (repeat refine an ?_); (try refine .inl ?_); apply k0; clear k0; simp only [zP, V])
 refine' aN (want := true) 7 rfl (m := 12) (by simp only [zP, aa, V]; exact rfl) (by kernel_rfl) rfl rfl rfl rfl rfl (fun hg4 => ?a4) ?b4 ?c4
 case a4 =>
  have hq4 := hg4; (try simp only [zB, reduceCtorEq] at hg4); simp only [zE]
  iterate 7 (refine aY rfl fun _ k0 => ?_; simp only [zO, zT, acs, reduceCtorEq, aa, V, ad, ag, af, ae, Mly.av, ah]; (repeat refine an ?_); (try refine .inl ?_); apply k0; clear k0; simp only [zP, V])
  (refine aj rfl fun _ k0 => ?_; simp only [zO, zT, acs, reduceCtorEq, aa, V, ad, ag, af, ae, Mly.av, ah]; (repeat refine an ?_); (try refine .inl ?_); apply k0; clear k0; simp only [zP, V])
  refine am ?_
  refine ⟨by simp only [zP, aa, V]; exact rfl, rfl, ?_, rfl⟩; (repeat refine aM rfl ?_); exact bm (by exact rfl) hq4
 case b4 => exact bZ
 simp only [b7, aU]
 (refine aj rfl fun _ k0 => ?_; simp only [zO, zT, acs, reduceCtorEq, aa, V, ad, ag, af, ae, Mly.av, ah]; (repeat refine an ?_); (try refine .inl ?_); apply k0; clear k0; simp only [zP, V])
 refine am ?_
 apply k3; clear k3; refine kp [0, 1, 2, 3, 4] ?_
 refine aG ?_
 refine ⟨nr, _, rfl, ?_⟩; simp only [zF, zP, aa, V, Mly.av, ah]
 refine VLE.of_eq ?_
 refine congrArg (fun b => AV.one (AC.bool b)) ?_
 unfold mmB
 rw [decide_eq_false hv]
 simp [hv]
theorem xw (m : Mly) : bG Try.prog 44 [m.av] (.one (.bool (mmB m))) := by
  by_cases hv : aT m = 0
  · exact vw m hv
  · exact vy m hv
theorem xz (m : Mly) : bG Try.prog 25 [m.av] (.one (.int .i64 (fB m))) := by
 refine aR Try.func25 rfl (by kernel_rfl) (Nat.le_of_ble_eq_true rfl) rfl fun C hP hN hB => ?_
 replace hN : C.N = 12 := hN
 simp only [bf, V]
 refine ai fun _ k1 => ?_
 refine ak hP hN rfl ?_
 iterate 2 (refine aj rfl fun _ k0 => ?_; simp only [zO, zT, acs, reduceCtorEq, aa, V, ad, ag, af, ae, Mly.av]; (repeat refine an ?_); (try refine .inl ?_); apply k0; clear k0; simp only [zP, V])
 refine am ?_
 apply k1; clear k1; refine kp [0, 1, 2] ?_
 refine ai fun _ k2 => ?_
 refine ai fun _ k3 => ?_
 refine ak hP hN rfl ?_
 (refine aj rfl fun _ k0 => ?_; simp only [zO, zT, acs, reduceCtorEq, aa, V, ad, ag, af, ae, Mly.av]; (repeat refine an ?_); (try refine .inl ?_); apply k0; clear k0; simp only [zP, V])
 refine aj rfl fun _ k0 => ?_
 refine aK (h := aC (r9 m)) rfl rfl (by first | exact rfl | (simp only [ev, zP, aa, V]; exact rfl)) (by simp only [zV, acs, reduceCtorEq, aa, V, ad, ag, af, ae, Mly.av]) ?_
 apply k0; clear k0; simp only [zP, V]
 (refine aj rfl fun _ k0 => ?_; simp only [zO, zT, acs, reduceCtorEq, aa, V, ad, ag, af, ae, Mly.av]; (repeat refine an ?_); (try refine .inl ?_); apply k0; clear k0; simp only [zP, V])
 refine am ?_
 apply k3; clear k3; refine kp [0, 1, 2, 3] ?_
 refine ai fun _ k4 => ?_
 refine ak hP hN rfl ?_
 iterate 2 (refine aj rfl fun _ k0 => ?_; simp only [zO, zT, acs, reduceCtorEq, aa, V, ad, ag, af, ae, Mly.av]; (repeat refine an ?_); (try refine .inl ?_); apply k0; clear k0; simp only [zP, V])
 refine am ?_
 apply k4; clear k4; refine kp [0, 1, 2, 3, 7] ?_
 refine cd (fun hc5 => ?_) (fun hc5 => ?_)
 ·(try simp only [zB, reduceCtorEq] at hc5)
  refine ai fun _ k6 => ?_
  refine ak hP hN rfl ?_
  iterate 2 (refine aj rfl fun _ k0 => ?_; simp only [zO, zT, acs, reduceCtorEq, aa, V, ad, ag, af, ae, Mly.av]; (repeat refine an ?_); (try refine .inl ?_); apply k0; clear k0; simp only [zP, V])
  refine am ?_
  apply k6; clear k6; refine kp [0, 1, 2, 3, 7] ?_
  refine aG ?_
  refine ⟨nr, _, rfl, ?_⟩; simp only [zF, zP, aa, V, Mly.av]
  refine VLE.of_eq ?_
  refine congrArg (fun n => AV.one (AC.int IntKind.i64 n)) ?_
  unfold fB
  symm
  first
  | (rw [if_pos (by omega)]; done)
  | (rw [if_neg (by omega), if_neg (by simp_all)]; done)
  | (rw [if_neg (by omega), if_pos (by simp_all)]; done)
 (try simp only [zB, reduceCtorEq] at hc5)
 refine ay ?_
 apply k2; clear k2; refine kp [0, 1, 2, 3, 7] ?_
 refine ai fun _ k7 => ?_
 refine ai fun _ k8 => ?_
 refine ak hP hN rfl ?_
 (refine aj rfl fun _ k0 => ?_; simp only [zO, zT, acs, reduceCtorEq, aa, V, ad, ag, af, ae, Mly.av]; (repeat refine an ?_); (try refine .inl ?_); apply k0; clear k0; simp only [zP, V])
 refine aj rfl fun _ k0 => ?_
 refine aK (h := aC (xw m)) rfl rfl (by first | exact rfl | (simp only [ev, zP, aa, V]; exact rfl)) (by simp only [zV, acs, reduceCtorEq, aa, V, ad, ag, af, ae, Mly.av]) ?_
 apply k0; clear k0; simp only [zP, V]
 (refine aj rfl fun _ k0 => ?_; simp only [zO, zT, acs, reduceCtorEq, aa, V, ad, ag, af, ae, Mly.av]; (repeat refine an ?_); (try refine .inl ?_); apply k0; clear k0; simp only [zP, V])
 refine am ?_
 apply k8; clear k8; refine kp [0, 1, 2, 3, 7, 11] ?_
 refine cd (fun hc9 => ?_) (fun hc9 => ?_)
 ·(try simp only [zB, reduceCtorEq] at hc9)
  refine ai fun _ k10 => ?_
  refine ak hP hN rfl ?_
  (refine aj rfl fun _ k0 => ?_; simp only [zO, zT, acs, reduceCtorEq, aa, V, ad, ag, af, ae, Mly.av]; (repeat refine an ?_); (try refine .inl ?_); apply k0; clear k0; simp only [zP, V])
  refine am ?_
  apply k10; clear k10; refine kp [0, 1, 2, 3, 7, 11] ?_
  refine aG ?_
  refine ⟨nr, _, rfl, ?_⟩; simp only [zF, zP, aa, V, Mly.av]
  refine VLE.of_eq ?_
  refine congrArg (fun n => AV.one (AC.int IntKind.i64 n)) ?_
  unfold fB
  symm
  first
  | (rw [if_pos (by omega)]; done)
  | (rw [if_neg (by omega), if_neg (by simp_all)]; done)
  | (rw [if_neg (by omega), if_pos (by simp_all)]; done)
 (try simp only [zB, reduceCtorEq] at hc9)
 refine ay ?_
 apply k7; clear k7; refine kp [0, 1, 2, 3, 7, 11] ?_
 refine ai fun _ k11 => ?_
 refine ak hP hN rfl ?_
 (refine aj rfl fun _ k0 => ?_; simp only [zO, zT, acs, reduceCtorEq, aa, V, ad, ag, af, ae, Mly.av]; (repeat refine an ?_); (try refine .inl ?_); apply k0; clear k0; simp only [zP, V])
 refine am ?_
 apply k11; clear k11; refine kp [0, 1, 2, 3, 7, 11] ?_
 refine aG ?_
 refine ⟨nr, _, rfl, ?_⟩; simp only [zF, zP, aa, V, Mly.av]
 refine VLE.of_eq ?_
 refine congrArg (fun n => AV.one (AC.int IntKind.i64 n)) ?_
 unfold fB
 symm
 first
 | (rw [if_pos (by omega)]; done)
 | (rw [if_neg (by omega), if_neg (by simp_all)]; done)
 | (rw [if_neg (by omega), if_pos (by simp_all)]; done)
theorem xy (n : Nat) (hn : n ≤ 1000) : bG Try.prog 35 [.one (.int .i64 (n : Int))] (.one (.list (.int .i64) ((List.range n).map fun (i : Nat) => (i : Int)))) := by
 refine aR Try.func35 rfl (by kernel_rfl) (Nat.le_of_ble_eq_true rfl) rfl fun C hP hN hB => ?_
 replace hN : C.N = 15 := hN
 simp only [bf, V]
 refine ai fun _ k1 => ?_
 refine ak hP hN rfl ?_
 (refine aj rfl fun _ k0 => ?_; simp only [zO, zT, acs, reduceCtorEq, aa, V, ad, ag, af, ae]; (repeat refine an ?_); (try refine .inl ?_); apply k0; clear k0; simp only [zP, V])
 refine am ?_
 apply k1; clear k1; refine kp [0, 2] ?_
 refine ai fun _ k2 => ?_
 refine ak hP hN rfl ?_
 (refine aj rfl fun _ k0 => ?_; simp only [zO, zT, acs, reduceCtorEq, aa, V, ad, ag, af, ae]; (repeat refine an ?_); (try refine .inl ?_); apply k0; clear k0; simp only [zP, V])
 refine am ?_
 apply k2; clear k2; refine kp [0, 2, 3] ?_
 refine ai fun _ k3 => ?_
 refine ai fun _ k4 => ?_
 refine ak hP hN rfl ?_
 (refine aj rfl fun _ k0 => ?_; simp only [zO, zT, acs, reduceCtorEq, aa, V, ad, ag, af, ae]; (repeat refine an ?_); (try refine .inl ?_); apply k0; clear k0; simp only [zP, V])
 refine am ?_
 apply k4; clear k4; refine kp [0, 2, 3, 4] ?_
 refine aB ?_
 refine eE 3 (.int .i64) 3 (by decide) rfl ?_; simp only [aw, aH, aP, bc, Nat.zero_add, V]
 refine aZ (fun n5 s5 => ∃ (k : Nat) (v : Nat), (k ≤ n) ∧ n5 = n - k ∧ s5 = { env := [(0, .one (.int .i64 (n : Int))), (2, .one .nils), (3, .one (.row 0 v)), (4, .one (.int .i64 (k : Int)))], L := [.row (.int .i64) 3 v ((List.range k).map fun (i : Nat) => (i : Int))] }) ?_ ?_
 ·exact ⟨_, _, ax [0, 2, 3, 4], 0, 0, Nat.zero_le _, rfl, rfl⟩
 rintro n5 s5 ⟨k, v, hk, rfl, rfl⟩
 refine ai fun _ k6 => ?_
 refine ai fun _ k7 => ?_
 refine ak hP hN rfl ?_
 iterate 3 (refine aj rfl fun _ k0 => ?_; simp only [zO, zT, acs, reduceCtorEq, aa, V, ad, ag, af, ae]; (repeat refine an ?_); (try refine .inl ?_); apply k0; clear k0; simp only [zP, V])
 refine am ?_
 apply k7; clear k7; refine kp [0, 2, 3, 4, 7] ?_
 refine cd (fun hc8 => ?_) (fun hc8 => ?_)
 ·(try simp only [zB, reduceCtorEq] at hc8)
  refine ay ?_
  apply k6; clear k6; refine kp [0, 2, 3, 4, 7] ?_
  refine ai fun _ k9 => ?_
  refine aB ?_
  have hrl : ((List.range k).map fun (i : Nat) => (i : Int)).length = k := by simp
  refine ak hP hN rfl ?_
  iterate 5 (refine aj rfl fun _ k0 => ?_; simp only [zO, zT, acs, reduceCtorEq, aa, V, ad, ag, af, ae]; (repeat refine an ?_); (try refine .inl ?_); apply k0; clear k0; simp only [zP, V])
  refine am ?_
  apply k9; clear k9; refine kp [0, 2, 3, 4, 7] ?_
  refine ak hP hN rfl ?_
  iterate 3 (refine aj rfl fun _ k0 => ?_; simp only [zO, zT, acs, reduceCtorEq, aa, V, ad, ag, af, ae]; (repeat refine an ?_); (try refine .inl ?_); apply k0; clear k0; simp only [zP, V])
  refine am ?_
  refine ⟨_, _, ?_, ax [0, 2, 3, 4], k + 1, v + 1, by omega, rfl, ?_⟩
  · omega
  · rw [List.range_succ, List.map_append]; rfl
 (try simp only [zB, reduceCtorEq] at hc8)
 refine aV ?_
 apply k3; clear k3; refine kp [0, 2, 3, 4, 7] ?_
 refine ai fun _ k10 => ?_
 refine cu 0 rfl ?_; simp only [aI, bl, zS, aa, and_self, and_true, true_and, and_false, false_and, if_true, if_false, eq_self, reduceCtorEq, Nat.one_ne_zero, Nat.zero_ne_one]
 have hkn : k = n := by omega
 rw [hkn]
 refine ak hP hN rfl ?_
 iterate 2 (refine aj rfl fun _ k0 => ?_; simp only [zO, zT, acs, reduceCtorEq, aa, V, ad, ag, af, ae]; (repeat refine an ?_); (try refine .inl ?_); apply k0; clear k0; simp only [zP, V])
 refine am ?_
 apply k10; clear k10; refine kp [0, 2, 3, 4, 7] ?_
 refine aG ?_
 refine ⟨nr, _, rfl, ?_⟩; simp only [zF, zP, aa, V]
 exact VLE.of_eq rfl
theorem ve (m : Mly) (l : List Int) (a : Int) (hm : MOK m) (hs : cJ m l) (ha : 0 ≤ a ∧ a < m.inp) (hl : l.length ≤ 1000) : bG Try.prog 58 [m.av, .one (.list (.int .i64) l), .one (.int .i64 a)] (.one (.list (.int .i64) (cr m l a))) := by
 refine aR Try.func58 rfl (by kernel_rfl) (Nat.le_of_ble_eq_true rfl) rfl fun C hP hN hB => ?_
 replace hN : C.N = 30 := hN
 simp only [bf, V]
 refine ai fun _ k1 => ?_
 refine ak hP hN rfl ?_
 iterate 2 (refine aj rfl fun _ k0 => ?_; simp only [zO, zT, acs, reduceCtorEq, aa, V, ad, ag, af, ae, Mly.av, ah]; (repeat refine an ?_); (try refine .inl ?_); apply k0; clear k0; simp only [zP, V])
 refine am ?_
 apply k1; clear k1; refine kp [0, 1, 2, 3, 6] ?_
 refine ai fun _ k2 => ?_
 refine ak hP hN rfl ?_
 (refine aj rfl fun _ k0 => ?_; simp only [zO, zT, acs, reduceCtorEq, aa, V, ad, ag, af, ae, Mly.av, ah]; (repeat refine an ?_); (try refine .inl ?_); apply k0; clear k0; simp only [zP, V])
 refine am ?_
 apply k2; clear k2; refine kp [0, 1, 2, 3, 6, 7] ?_
 refine ai fun _ k3 => ?_
 refine ai fun _ k4 => ?_
 refine ak hP hN rfl ?_
 (refine aj rfl fun _ k0 => ?_; simp only [zO, zT, acs, reduceCtorEq, aa, V, ad, ag, af, ae, Mly.av, ah]; (repeat refine an ?_); (try refine .inl ?_); apply k0; clear k0; simp only [zP, V])
 refine am ?_
 apply k4; clear k4; refine kp [0, 1, 2, 3, 6, 7, 8] ?_
 refine aB ?_
 refine eE 7 (.int .i64) 3 (by decide) rfl ?_; simp only [aw, aH, aP, bc, Nat.zero_add, V]
 refine aZ (fun n5 s5 => ∃ (k : Nat) (v : Nat), (k ≤ l.length) ∧ n5 = l.length - k ∧ s5 = { env := [(1, .one (.list (.int .i64) l)), (2, .one (.int .i64 a)), (3, .one (.ptr 0 0 0 0)), (6, .one .nils), (7, .one (.row 1 v)), (8, .one (.int .i64 (k : Int)))], L := [.vars 24 [.int .i64 m.inp, .int .i64 m.st, .list (.list (.int .i64)) m.nx, .list (.list (.int .i64)) m.ot], .row (.int .i64) 3 v (cr m (l.take k) a)] }) ?_ ?_
 ·exact ⟨_, _, ax [1, 2, 3, 6, 7, 8], 0, 0, Nat.zero_le _, rfl, rfl⟩
 rintro n5 s5 ⟨k, v, hk, rfl, rfl⟩
 refine ai fun _ k6 => ?_
 refine ai fun _ k7 => ?_
 refine ak hP hN rfl ?_
 iterate 4 (refine aj rfl fun _ k0 => ?_; simp only [zO, zT, acs, reduceCtorEq, aa, V, ad, ag, af, ae, Mly.av, ah]; (repeat refine an ?_); (try refine .inl ?_); apply k0; clear k0; simp only [zP, V])
 refine am ?_
 apply k7; clear k7; refine kp [1, 2, 3, 6, 7, 8, 12] ?_
 refine cd (fun hc8 => ?_) (fun hc8 => ?_)
 ·(try simp only [zB, reduceCtorEq] at hc8)
  refine ay ?_
  apply k6; clear k6; refine kp [1, 2, 3, 6, 7, 8, 12] ?_
  refine ai fun _ k9 => ?_
  refine aB ?_
  have hkl : k < l.length := by omega
  have hsk := hs _ (bn hkl)
  have q1 := hm.rl (l.getD k 0).toNat (by omega)
  have hnl : (cr m (l.take k) a).length = k := by unfold cr; rw [aF, List.length_take]; omega
  refine bj hP hN Try.mixed rfl ?_
  iterate 15 (refine aj rfl fun _ k0 => ?_; simp only [zO, zT, acs, reduceCtorEq, aa, V, ad, ag, af, ae, Mly.av, ah]; (repeat refine an ?_); (try refine .inl ?_); apply k0; clear k0; simp only [zP, V])
  refine am ?_
  refine ⟨by kernel_rfl, ?_⟩
  apply k9; clear k9; refine kp [1, 2, 3, 6, 7, 8, 12] ?_
  refine ak hP hN rfl ?_
  iterate 3 (refine aj rfl fun _ k0 => ?_; simp only [zO, zT, acs, reduceCtorEq, aa, V, ad, ag, af, ae, Mly.av, ah]; (repeat refine an ?_); (try refine .inl ?_); apply k0; clear k0; simp only [zP, V])
  refine am ?_
  refine ⟨_, _, ?_, ax [1, 2, 3, 6, 7, 8], k + 1, v + 1, by omega, rfl, ?_⟩
  · omega
  · rw [nF hkl]; rfl
 (try simp only [zB, reduceCtorEq] at hc8)
 refine aV ?_
 apply k3; clear k3; refine kp [1, 2, 3, 6, 7, 8, 12] ?_
 refine ai fun _ k10 => ?_
 refine cu 1 rfl ?_; simp only [aI, bl, zS, aa, and_self, and_true, true_and, and_false, false_and, if_true, if_false, eq_self, reduceCtorEq, Nat.one_ne_zero, Nat.zero_ne_one]
 have hkw : k = l.length := by omega
 rw [hkw, aJ]
 refine ak hP hN rfl ?_
 iterate 2 (refine aj rfl fun _ k0 => ?_; simp only [zO, zT, acs, reduceCtorEq, aa, V, ad, ag, af, ae, Mly.av, ah]; (repeat refine an ?_); (try refine .inl ?_); apply k0; clear k0; simp only [zP, V])
 refine am ?_
 apply k10; clear k10; refine kp [1, 2, 3, 6, 7, 8, 12] ?_
 refine aG ?_
 refine ⟨nr, _, rfl, ?_⟩; simp only [zF, zP, aa, V, Mly.av, ah]
 exact VLE.of_eq rfl
set_option maxHeartbeats 1000000 in
theorem vS (m : Mly) (l : List Int) (a : Int) (hm : MOK m) (hs : cJ m l) (ha : 0 ≤ a ∧ a < m.inp) (hl : l.length ≤ 1000) : bG Try.prog 55 [m.av, .one (.list (.int .i64) l), .one (.int .i64 a)] (.one (.list (.int .i64) (aE (ouL m l a)))) := by
 have ol := hm.ol
 refine aR Try.func55 rfl (by kernel_rfl) (Nat.le_of_ble_eq_true rfl) rfl fun C hP hN hB => ?_
 replace hN : C.N = 71 := hN
 simp only [bf, V]
 refine ai fun _ k1 => ?_
 refine ak hP hN rfl ?_
 iterate 2 (refine aj rfl fun _ k0 => ?_; simp only [zO, zT, acs, reduceCtorEq, aa, V, ad, ag, af, ae, Mly.av, ah]; (repeat refine an ?_); (try refine .inl ?_); apply k0; clear k0; simp only [zP, V])
 refine am ?_
 apply k1; clear k1; refine kp [0, 1, 2, 3, 6] ?_
 refine ai fun _ k2 => ?_
 refine ak hP hN rfl ?_
 (refine aj rfl fun _ k0 => ?_; simp only [zO, zT, acs, reduceCtorEq, aa, V, ad, ag, af, ae, Mly.av, ah]; (repeat refine an ?_); (try refine .inl ?_); apply k0; clear k0; simp only [zP, V])
 refine am ?_
 apply k2; clear k2; refine kp [0, 1, 2, 3, 6, 7] ?_
 refine ai fun _ k3 => ?_
 refine ai fun _ k4 => ?_
 refine ak hP hN rfl ?_
 (refine aj rfl fun _ k0 => ?_; simp only [zO, zT, acs, reduceCtorEq, aa, V, ad, ag, af, ae, Mly.av, ah]; (repeat refine an ?_); (try refine .inl ?_); apply k0; clear k0; simp only [zP, V])
 refine am ?_
 apply k4; clear k4; refine kp [0, 1, 2, 3, 6, 7, 8] ?_
 refine aB ?_
 refine o8 7 (v' := .one (.list (.int .i64) [])) rfl (jC (bt rfl)) ?_
 refine aZ (fun n5 s5 => ∃ (k : Nat), (k ≤ l.length) ∧ n5 = l.length - k ∧ s5 = { env := [(1, .one (.list (.int .i64) l)), (2, .one (.int .i64 a)), (3, .one (.ptr 0 0 0 0)), (6, .one .nils), (7, .one (.list (.int .i64) (aE (ouL m (l.take k) a)))), (8, .one (.int .i64 (k : Int)))], L := [.vars 24 [.int .i64 m.inp, .int .i64 m.st, .list (.list (.int .i64)) m.nx, .list (.list (.int .i64)) m.ot]] }) ?_ ?_
 ·refine ⟨_, _, ax [1, 2, 3, 6, 7, 8], 0, Nat.zero_le _, rfl, ?_⟩
  rw [show ouL m (l.take 0) a = [] from rfl, xj]; rfl
 rintro n5 s5 ⟨k, hk, rfl, rfl⟩
 refine ai fun _ k6 => ?_
 refine ai fun _ k7 => ?_
 refine ak hP hN rfl ?_
 iterate 4 (refine aj rfl fun _ k0 => ?_; simp only [zO, zT, acs, reduceCtorEq, aa, V, ad, ag, af, ae, Mly.av, ah]; (repeat refine an ?_); (try refine .inl ?_); apply k0; clear k0; simp only [zP, V])
 refine am ?_
 apply k7; clear k7; refine kp [1, 2, 3, 6, 7, 8, 15] ?_
 refine cd (fun hc8 => ?_) (fun hc8 => ?_)
 ·(try simp only [zB, reduceCtorEq] at hc8)
  refine ay ?_
  apply k6; clear k6; refine kp [1, 2, 3, 6, 7, 8, 15] ?_
  refine ai fun _ k9 => ?_
  refine aB ?_
  refine ai fun _ k10 => ?_
  have hkl : k < l.length := by omega
  have hsk := hs _ (bn hkl)
  have q2 := hm.ql (l.getD k 0).toNat (by omega)
  have hul := fO (ouL m (l.take k) a)
  have hol : (ouL m (l.take k) a).length = k := by unfold ouL; rw [aF, List.length_take]; omega
  have hor := (dp (ouL m (l.take k) a)).1
  refine bj hP hN Try.mixed rfl ?_
  iterate 12 (refine aj rfl fun _ k0 => ?_; simp only [zO, zT, acs, reduceCtorEq, aa, V, ad, ag, af, ae, Mly.av, ah]; (repeat refine an ?_); (try refine .inl ?_); apply k0; clear k0; simp only [zP, V])
  refine am ?_
  refine ⟨by kernel_rfl, ?_⟩
  apply k10; clear k10; refine kp [1, 2, 3, 6, 7, 8, 9, 15] ?_
  refine ai fun _ k11 => ?_
  refine ak hP hN rfl ?_
  (refine aj rfl fun _ k0 => ?_; simp only [zO, zT, acs, reduceCtorEq, aa, V, ad, ag, af, ae, Mly.av, ah]; (repeat refine an ?_); (try refine .inl ?_); apply k0; clear k0; simp only [zP, V])
  refine am ?_
  apply k11; clear k11; refine kp [1, 2, 3, 6, 7, 8, 9, 10, 15] ?_
  refine ai fun _ k12 => ?_
  refine aB ?_
  refine aZ (fun n13 s13 => ∃ (j : Nat), (j ≤ (aE (ouL m (l.take k) a)).length) ∧ (∀ q, q < j → (aE (ouL m (l.take k) a)).getD q 0 < (m.out (l.getD k 0) a)) ∧ n13 = (aE (ouL m (l.take k) a)).length - j ∧ s13 = { env := [(1, .one (.list (.int .i64) l)), (2, .one (.int .i64 a)), (3, .one (.ptr 0 0 0 0)), (6, .one .nils), (7, .one (.list (.int .i64) (aE (ouL m (l.take k) a)))), (8, .one (.int .i64 (k : Int))), (9, .one (.int .i64 (m.out (l.getD k 0) a))), (10, .one (.int .i64 (j : Int)))], L := [.vars 24 [.int .i64 m.inp, .int .i64 m.st, .list (.list (.int .i64)) m.nx, .list (.list (.int .i64)) m.ot]] }) ?_ ?_
  ·exact ⟨_, _, ax [1, 2, 3, 6, 7, 8, 9, 10], 0, Nat.zero_le _, fun q h => by omega, rfl, rfl⟩
  rintro n13 s13 ⟨j, hj, hq, rfl, rfl⟩
  refine ai fun _ k14 => ?_
  refine ai fun _ k15 => ?_
  refine ak hP hN rfl ?_
  iterate 5 (refine aj rfl fun _ k0 => ?_; simp only [zO, zT, acs, reduceCtorEq, aa, V, ad, ag, af, ae, Mly.av, ah]; (repeat refine an ?_); (try refine .inl ?_); apply k0; clear k0; simp only [zP, V])
  refine' aN (want := true) 6 rfl (m := 33) (by simp only [zP, aa, V]; exact rfl) (by kernel_rfl) rfl rfl rfl rfl rfl (fun hg16 => ?a16) ?b16 ?c16
  case a16 =>
   have hq16 := hg16; (try simp only [zB, reduceCtorEq] at hg16); simp only [zE]
   iterate 6 (refine aY rfl fun _ k0 => ?_; simp only [zO, zT, acs, reduceCtorEq, aa, V, ad, ag, af, ae, Mly.av, ah]; (repeat refine an ?_); (try refine .inl ?_); apply k0; clear k0; simp only [zP, V])
   (refine aj rfl fun _ k0 => ?_; simp only [zO, zT, acs, reduceCtorEq, aa, V, ad, ag, af, ae, Mly.av, ah]; (repeat refine an ?_); (try refine .inl ?_); apply k0; clear k0; simp only [zP, V])
   refine am ?_
   refine ⟨by simp only [zP, aa, V]; exact rfl, rfl, ?_, rfl⟩; (repeat refine aM rfl ?_); exact bm (by exact rfl) hq16
  case b16 => exact bZ
  simp only [b7, aU]
  refine am ?_
  apply k15; clear k15; refine kp [1, 2, 3, 6, 7, 8, 9, 10, 40] ?_
  refine cd (fun hc17 => ?_) (fun hc17 => ?_)
  ·(try simp only [zB, reduceCtorEq] at hc17)
   have hlt : j < (aE (ouL m (l.take k) a)).length ∧ (aE (ouL m (l.take k) a)).getD j 0 < (m.out (l.getD k 0) a) := by have h9 := hc17; simpa using h9
   refine ay ?_
   apply k14; clear k14; refine kp [1, 2, 3, 6, 7, 8, 9, 10, 40] ?_
   refine aB ?_
   refine ak hP hN rfl ?_
   iterate 3 (refine aj rfl fun _ k0 => ?_; simp only [zO, zT, acs, reduceCtorEq, aa, V, ad, ag, af, ae, Mly.av, ah]; (repeat refine an ?_); (try refine .inl ?_); apply k0; clear k0; simp only [zP, V])
   refine am ?_
   refine ⟨_, _, ?_, ax [1, 2, 3, 6, 7, 8, 9, 10], j + 1, by omega, fun q h2 => ?_, rfl, rfl⟩
   · omega
   · by_cases e : q = j
     · rw [e]; exact hlt.2
     · exact hq q (by omega)
  (try simp only [zB, reduceCtorEq] at hc17)
  have hge : j < (aE (ouL m (l.take k) a)).length → ¬ (aE (ouL m (l.take k) a)).getD j 0 < (m.out (l.getD k 0) a) := by have h9 := hc17; intro h8; rcases h9 with h9 | h9 <;> omega
  refine aV ?_
  apply k12; clear k12; refine kp [1, 2, 3, 6, 7, 8, 9, 10, 40] ?_
  refine ai fun _ k18 => ?_
  refine ai fun _ k19 => ?_
  refine ak hP hN rfl ?_
  iterate 5 (refine aj rfl fun _ k0 => ?_; simp only [zO, zT, acs, reduceCtorEq, aa, V, ad, ag, af, ae, Mly.av, ah]; (repeat refine an ?_); (try refine .inl ?_); apply k0; clear k0; simp only [zP, V])
  refine' aN (want := true) 6 rfl (m := 47) (by simp only [zP, aa, V]; exact rfl) (by kernel_rfl) rfl rfl rfl rfl rfl (fun hg20 => ?a20) ?b20 ?c20
  case a20 =>
   have hq20 := hg20; (try simp only [zB, reduceCtorEq] at hg20); simp only [zE]
   iterate 6 (refine aY rfl fun _ k0 => ?_; simp only [zO, zT, acs, reduceCtorEq, aa, V, ad, ag, af, ae, Mly.av, ah]; (repeat refine an ?_); (try refine .inl ?_); apply k0; clear k0; simp only [zP, V])
   (refine aj rfl fun _ k0 => ?_; simp only [zO, zT, acs, reduceCtorEq, aa, V, ad, ag, af, ae, Mly.av, ah]; (repeat refine an ?_); (try refine .inl ?_); apply k0; clear k0; simp only [zP, V])
   refine am ?_
   refine ⟨by simp only [zP, aa, V]; exact rfl, rfl, ?_, rfl⟩; (repeat refine aM rfl ?_); exact bm (by exact rfl) hq20
  case b20 => exact bZ
  simp only [b7, aU]
  refine am ?_
  apply k19; clear k19; refine kp [1, 2, 3, 6, 7, 8, 9, 10, 40, 54] ?_
  refine cd (fun hc21 => ?_) (fun hc21 => ?_)
  ·(try simp only [zB, reduceCtorEq] at hc21)
   have hin : (m.out (l.getD k 0) a) ∈ (aE (ouL m (l.take k) a)) := by have h9 := hc21; rw [← h9.2]; exact bn (by omega)
   refine aV ?_
   apply k9; clear k9; refine kp [1, 2, 3, 6, 7, 8, 9, 10, 40, 54] ?_
   refine ak hP hN rfl ?_
   iterate 3 (refine aj rfl fun _ k0 => ?_; simp only [zO, zT, acs, reduceCtorEq, aa, V, ad, ag, af, ae, Mly.av, ah]; (repeat refine an ?_); (try refine .inl ?_); apply k0; clear k0; simp only [zP, V])
   refine am ?_
   first
   | (refine ⟨_, _, ?_, ax [1, 2, 3, 6, 7, 8], k + 1, by omega, rfl, ?_⟩
      · omega
      · rw [gT hkl, j8, qY hin]; rfl)
   | (refine ⟨_, _, ?_, ax [1, 2, 3, 6, 7, 8], k + 1, by omega, rfl, ?_⟩
      · omega
      · rw [gT hkl, j8, hsp]; rfl)
  (try simp only [zB, reduceCtorEq] at hc21)
  have hgt : j < (aE (ouL m (l.take k) a)).length → (m.out (l.getD k 0) a) < (aE (ouL m (l.take k) a)).getD j 0 := by have h9 := hc21; have h7 := hge; intro h8; have h6 := h7 h8; rcases h9 with h9 | h9 <;> omega
  refine ay ?_
  apply k18; clear k18; refine kp [1, 2, 3, 6, 7, 8, 9, 10, 40, 54] ?_
  refine ai fun _ k22 => ?_
  refine ak hP hN rfl ?_
  (refine aj rfl fun _ k0 => ?_; simp only [zO, zT, acs, reduceCtorEq, aa, V, ad, ag, af, ae, Mly.av, ah]; (repeat refine an ?_); (try refine .inl ?_); apply k0; clear k0; simp only [zP, V])
  refine am ?_
  apply k22; clear k22; refine kp [1, 2, 3, 6, 7, 8, 9, 10, 11, 40, 54] ?_
  refine ai fun _ k23 => ?_
  refine eE 11 (.int .i64) 3 (by decide) rfl ?_; simp only [aw, aH, aP, bc, Nat.zero_add, V]
  have hsp := vW (o := (m.out (l.getD k 0) a)) hor hj hq hgt
  have ht1 : ((aE (ouL m (l.take k) a)).take j).length = j := by rw [List.length_take]; omega
  have ht2 : ((aE (ouL m (l.take k) a)).drop j).length = (aE (ouL m (l.take k) a)).length - j := List.length_drop
  refine ak hP hN rfl ?_
  iterate 3 (refine aj rfl fun _ k0 => ?_; simp only [zO, zT, acs, reduceCtorEq, aa, V, ad, ag, af, ae, Mly.av, ah]; (repeat refine an ?_); (try refine .inl ?_); apply k0; clear k0; simp only [zP, V])
  (refine aj rfl fun _ k0 => ?_; simp only [zE, op1, ev, lkp, cW, bJ, gL, bnd, Ty.size, ca, eQ, dS, cE, cV, dZ, Nat.div_one, cD, cZ, bq, dite_true, reduceCtorEq, aa, V, ad, ag, af, ae, Try.el41, Try.td3, Try.td41, Mly.av, ah]; (repeat refine an ?_); (try refine .inl ?_); apply k0; clear k0; simp only [zP, V])
  iterate 2 (refine aj rfl fun _ k0 => ?_; simp only [zO, zT, acs, reduceCtorEq, aa, V, ad, ag, af, ae, Mly.av, ah]; (repeat refine an ?_); (try refine .inl ?_); apply k0; clear k0; simp only [zP, V])
  refine am ?_
  apply k23; clear k23; refine kp [1, 2, 3, 6, 7, 8, 9, 10, 11, 40, 54] ?_
  refine ai fun _ k24 => ?_
  refine ak hP hN rfl ?_
  iterate 5 (refine aj rfl fun _ k0 => ?_; simp only [zO, zT, acs, reduceCtorEq, aa, V, ad, ag, af, ae, Mly.av, ah, aq, ht1]; (repeat refine an ?_); (try refine .inl ?_); apply k0; clear k0; simp only [zP, V])
  refine am ?_
  apply k24; clear k24; refine kp [1, 2, 3, 6, 7, 8, 9, 10, 11, 40, 54] ?_
  refine ai fun _ k25 => ?_
  refine ak hP hN rfl ?_
  iterate 3 (refine aj rfl fun _ k0 => ?_; simp only [zO, zT, acs, reduceCtorEq, aa, V, ad, ag, af, ae, Mly.av, ah, aJ, aq, ht1, ht2, aw, aH]; (repeat refine an ?_); (try refine .inl ?_); apply k0; clear k0; simp only [zP, V, aJ])
  (refine aj rfl fun _ k0 => ?_; simp only [zE, op1, ev, lkp, cW, bJ, gL, bnd, Ty.size, ca, eQ, dS, cE, cV, dZ, Nat.div_one, cD, cZ, bq, dite_true, reduceCtorEq, aa, V, ad, ag, af, ae, Try.el41, Try.td3, Try.td41, Mly.av, ah, aJ, aq, ht1, ht2, aw, aH]; (repeat refine an ?_); (try refine .inl ?_); apply k0; clear k0; simp only [zP, V, aJ])
  iterate 2 (refine aj rfl fun _ k0 => ?_; simp only [zO, zT, acs, reduceCtorEq, aa, V, ad, ag, af, ae, Mly.av, ah, aJ, aq, ht1, ht2, aw, aH]; (repeat refine an ?_); (try refine .inl ?_); apply k0; clear k0; simp only [zP, V, aJ])
  refine am ?_
  apply k25; clear k25; refine kp [1, 2, 3, 6, 7, 8, 9, 10, 11, 40, 54] ?_
  refine cu 1 rfl ?_; simp only [aI, bl, zS, aa, and_self, and_true, true_and, and_false, false_and, if_true, if_false, eq_self, reduceCtorEq, Nat.one_ne_zero, Nat.zero_ne_one]
  refine cQ (n := 1) (L1 := [_]) rfl rfl (by rw [hB]; decide) rfl rfl ?_
  refine ak hP hN rfl ?_
  iterate 2 (refine aj rfl fun _ k0 => ?_; simp only [zO, zT, acs, reduceCtorEq, aa, V, ad, ag, af, ae, Mly.av, ah]; (repeat refine an ?_); (try refine .inl ?_); apply k0; clear k0; simp only [zP, V])
  refine am ?_
  apply k9; clear k9; refine kp [1, 2, 3, 6, 7, 8, 9, 10, 11, 40, 54] ?_
  refine ak hP hN rfl ?_
  iterate 3 (refine aj rfl fun _ k0 => ?_; simp only [zO, zT, acs, reduceCtorEq, aa, V, ad, ag, af, ae, Mly.av, ah]; (repeat refine an ?_); (try refine .inl ?_); apply k0; clear k0; simp only [zP, V])
  refine am ?_
  first
  | (refine ⟨_, _, ?_, ax [1, 2, 3, 6, 7, 8], k + 1, by omega, rfl, ?_⟩
     · omega
     · rw [gT hkl, j8, qY hin]; rfl)
  | (refine ⟨_, _, ?_, ax [1, 2, 3, 6, 7, 8], k + 1, by omega, rfl, ?_⟩
     · omega
     · rw [gT hkl, j8, hsp]; rfl)
 (try simp only [zB, reduceCtorEq] at hc8)
 refine aV ?_
 apply k3; clear k3; refine kp [1, 2, 3, 6, 7, 8, 15] ?_
 refine ai fun _ k26 => ?_
 have hkw : k = l.length := by omega
 rw [hkw, aJ]
 refine ak hP hN rfl ?_
 iterate 2 (refine aj rfl fun _ k0 => ?_; simp only [zO, zT, acs, reduceCtorEq, aa, V, ad, ag, af, ae, Mly.av, ah]; (repeat refine an ?_); (try refine .inl ?_); apply k0; clear k0; simp only [zP, V])
 refine am ?_
 apply k26; clear k26; refine kp [1, 2, 3, 6, 7, 8, 15] ?_
 refine aG ?_
 refine ⟨nr, _, rfl, ?_⟩; simp only [zF, zP, aa, V, Mly.av, ah]
 exact VLE.of_eq rfl
theorem vQ (m : Mly) (l : List Int) (a o : Int) (hm : MOK m) (hs : cJ m l) (ha : 0 ≤ a ∧ a < m.inp) (hl : l.length ≤ 1000) : bG Try.prog 56 [m.av, .one (.list (.int .i64) l), .one (.int .i64 a), .one (.int .i64 o)] (.one (.list (.int .i64) (ptL m l a o l.length))) := by
 have ol := hm.ol
 refine aR Try.func56 rfl (by kernel_rfl) (Nat.le_of_ble_eq_true rfl) rfl fun C hP hN hB => ?_
 replace hN : C.N = 35 := hN
 simp only [bf, V]
 refine ai fun _ k1 => ?_
 refine ak hP hN rfl ?_
 iterate 2 (refine aj rfl fun _ k0 => ?_; simp only [zO, zT, acs, reduceCtorEq, aa, V, ad, ag, af, ae, Mly.av, ah]; (repeat refine an ?_); (try refine .inl ?_); apply k0; clear k0; simp only [zP, V])
 refine am ?_
 apply k1; clear k1; refine kp [0, 1, 2, 3, 4, 8] ?_
 refine ai fun _ k2 => ?_
 refine ak hP hN rfl ?_
 (refine aj rfl fun _ k0 => ?_; simp only [zO, zT, acs, reduceCtorEq, aa, V, ad, ag, af, ae, Mly.av, ah]; (repeat refine an ?_); (try refine .inl ?_); apply k0; clear k0; simp only [zP, V])
 refine am ?_
 apply k2; clear k2; refine kp [0, 1, 2, 3, 4, 8, 9] ?_
 refine ai fun _ k3 => ?_
 refine ai fun _ k4 => ?_
 refine ak hP hN rfl ?_
 (refine aj rfl fun _ k0 => ?_; simp only [zO, zT, acs, reduceCtorEq, aa, V, ad, ag, af, ae, Mly.av, ah]; (repeat refine an ?_); (try refine .inl ?_); apply k0; clear k0; simp only [zP, V])
 refine am ?_
 apply k4; clear k4; refine kp [0, 1, 2, 3, 4, 8, 9, 10] ?_
 refine aB ?_
 refine eE 9 (.int .i64) 3 (by decide) rfl ?_; simp only [aw, aH, aP, bc, Nat.zero_add, V]
 refine aZ (fun n5 s5 => ∃ (k : Nat) (v : Nat), (k ≤ l.length) ∧ n5 = l.length - k ∧ s5 = { env := [(1, .one (.list (.int .i64) l)), (2, .one (.int .i64 a)), (3, .one (.int .i64 o)), (4, .one (.ptr 0 0 0 0)), (8, .one .nils), (9, .one (.row 1 v)), (10, .one (.int .i64 (k : Int)))], L := [.vars 24 [.int .i64 m.inp, .int .i64 m.st, .list (.list (.int .i64)) m.nx, .list (.list (.int .i64)) m.ot], .row (.int .i64) 3 v (ptL m l a o k)] }) ?_ ?_
 ·exact ⟨_, _, ax [1, 2, 3, 4, 8, 9, 10], 0, 0, Nat.zero_le _, rfl, rfl⟩
 rintro n5 s5 ⟨k, v, hk, rfl, rfl⟩
 refine ai fun _ k6 => ?_
 refine ai fun _ k7 => ?_
 refine ak hP hN rfl ?_
 iterate 4 (refine aj rfl fun _ k0 => ?_; simp only [zO, zT, acs, reduceCtorEq, aa, V, ad, ag, af, ae, Mly.av, ah]; (repeat refine an ?_); (try refine .inl ?_); apply k0; clear k0; simp only [zP, V])
 refine am ?_
 apply k7; clear k7; refine kp [1, 2, 3, 4, 8, 9, 10, 14] ?_
 refine cd (fun hc8 => ?_) (fun hc8 => ?_)
 ·(try simp only [zB, reduceCtorEq] at hc8)
  refine ay ?_
  apply k6; clear k6; refine kp [1, 2, 3, 4, 8, 9, 10, 14] ?_
  refine ai fun _ k9 => ?_
  refine aB ?_
  refine ai fun _ k10 => ?_
  have hkl : k < l.length := by omega
  have hsk := hs _ (bn hkl)
  have q2 := hm.ql (l.getD k 0).toNat (by omega)
  have hnl := ml m l a o k
  refine bj hP hN Try.mixed rfl ?_
  iterate 13 (refine aj rfl fun _ k0 => ?_; simp only [zO, zT, acs, reduceCtorEq, aa, V, ad, ag, af, ae, Mly.av, ah]; (repeat refine an ?_); (try refine .inl ?_); apply k0; clear k0; simp only [zP, V])
  refine am ?_
  refine ⟨by kernel_rfl, ?_⟩
  apply k10; clear k10; refine kp [1, 2, 3, 4, 8, 9, 10, 14, 29] ?_
  refine cd (fun hc11 => ?_) (fun hc11 => ?_)
  ·(try simp only [zB, reduceCtorEq] at hc11)
   have hy : m.out (l.getD k 0) a = o := by have h9 := hc11; unfold Mly.out; simpa using h9
   refine ak hP hN rfl ?_
   iterate 5 (refine aj rfl fun _ k0 => ?_; simp only [zO, zT, acs, reduceCtorEq, aa, V, ad, ag, af, ae, Mly.av, ah]; (repeat refine an ?_); (try refine .inl ?_); apply k0; clear k0; simp only [zP, V])
   refine am ?_
   apply k9; clear k9; refine kp [1, 2, 3, 4, 8, 9, 10, 14, 29] ?_
   refine ak hP hN rfl ?_
   iterate 3 (refine aj rfl fun _ k0 => ?_; simp only [zO, zT, acs, reduceCtorEq, aa, V, ad, ag, af, ae, Mly.av, ah]; (repeat refine an ?_); (try refine .inl ?_); apply k0; clear k0; simp only [zP, V])
   refine am ?_
   first
   | (refine ⟨_, _, ?_, ax [1, 2, 3, 4, 8, 9, 10], k + 1, v + 1, by omega, rfl, ?_⟩
      · omega
      · rw [lK hy]; rfl)
   | (refine ⟨_, _, ?_, ax [1, 2, 3, 4, 8, 9, 10], k + 1, v, by omega, rfl, ?_⟩
      · omega
      · rw [oo hy]; rfl)
  (try simp only [zB, reduceCtorEq] at hc11)
  have hy : ¬ m.out (l.getD k 0) a = o := by have h9 := hc11; unfold Mly.out; simpa using h9
  refine ay ?_
  apply k9; clear k9; refine kp [1, 2, 3, 4, 8, 9, 10, 14, 29] ?_
  refine ak hP hN rfl ?_
  iterate 3 (refine aj rfl fun _ k0 => ?_; simp only [zO, zT, acs, reduceCtorEq, aa, V, ad, ag, af, ae, Mly.av, ah]; (repeat refine an ?_); (try refine .inl ?_); apply k0; clear k0; simp only [zP, V])
  refine am ?_
  first
  | (refine ⟨_, _, ?_, ax [1, 2, 3, 4, 8, 9, 10], k + 1, v + 1, by omega, rfl, ?_⟩
     · omega
     · rw [lK hy]; rfl)
  | (refine ⟨_, _, ?_, ax [1, 2, 3, 4, 8, 9, 10], k + 1, v, by omega, rfl, ?_⟩
     · omega
     · rw [oo hy]; rfl)
 (try simp only [zB, reduceCtorEq] at hc8)
 refine aV ?_
 apply k3; clear k3; refine kp [1, 2, 3, 4, 8, 9, 10, 14] ?_
 refine ai fun _ k12 => ?_
 refine cu 1 rfl ?_; simp only [aI, bl, zS, aa, and_self, and_true, true_and, and_false, false_and, if_true, if_false, eq_self, reduceCtorEq, Nat.one_ne_zero, Nat.zero_ne_one]
 have hkw : k = l.length := by omega
 rw [hkw]
 refine ak hP hN rfl ?_
 iterate 2 (refine aj rfl fun _ k0 => ?_; simp only [zO, zT, acs, reduceCtorEq, aa, V, ad, ag, af, ae, Mly.av, ah]; (repeat refine an ?_); (try refine .inl ?_); apply k0; clear k0; simp only [zP, V])
 refine am ?_
 apply k12; clear k12; refine kp [1, 2, 3, 4, 8, 9, 10, 14] ?_
 refine aG ?_
 refine ⟨nr, _, rfl, ?_⟩; simp only [zF, zP, aa, V, Mly.av, ah]
 exact VLE.of_eq rfl
theorem pd (l w : List Int) (hw : ∀ x ∈ w, 0 ≤ x ∧ x < l.length) (hl : w.length ≤ 100000) : bG Try.prog 57 [.one (.list (.int .i64) l), .one (.list (.int .i64) w)] (.one (.list (.int .i64) (pkL l w))) := by
 refine aR Try.func57 rfl (by kernel_rfl) (Nat.le_of_ble_eq_true rfl) rfl fun C hP hN hB => ?_
 replace hN : C.N = 24 := hN
 simp only [bf, V]
 refine ai fun _ k1 => ?_
 refine ak hP hN rfl ?_
 (refine aj rfl fun _ k0 => ?_; simp only [zO, zT, acs, reduceCtorEq, aa, V, ad, ag, af, ae]; (repeat refine an ?_); (try refine .inl ?_); apply k0; clear k0; simp only [zP, V])
 refine am ?_
 apply k1; clear k1; refine kp [0, 1, 4] ?_
 refine ai fun _ k2 => ?_
 refine ak hP hN rfl ?_
 (refine aj rfl fun _ k0 => ?_; simp only [zO, zT, acs, reduceCtorEq, aa, V, ad, ag, af, ae]; (repeat refine an ?_); (try refine .inl ?_); apply k0; clear k0; simp only [zP, V])
 refine am ?_
 apply k2; clear k2; refine kp [0, 1, 4, 5] ?_
 refine ai fun _ k3 => ?_
 refine ai fun _ k4 => ?_
 refine ak hP hN rfl ?_
 (refine aj rfl fun _ k0 => ?_; simp only [zO, zT, acs, reduceCtorEq, aa, V, ad, ag, af, ae]; (repeat refine an ?_); (try refine .inl ?_); apply k0; clear k0; simp only [zP, V])
 refine am ?_
 apply k4; clear k4; refine kp [0, 1, 4, 5, 6] ?_
 refine aB ?_
 refine eE 5 (.int .i64) 3 (by decide) rfl ?_; simp only [aw, aH, aP, bc, Nat.zero_add, V]
 refine aZ (fun n5 s5 => ∃ (k : Nat) (v : Nat), (k ≤ w.length) ∧ n5 = w.length - k ∧ s5 = { env := [(0, .one (.list (.int .i64) l)), (1, .one (.list (.int .i64) w)), (4, .one .nils), (5, .one (.row 0 v)), (6, .one (.int .i64 (k : Int)))], L := [.row (.int .i64) 3 v (pkL l (w.take k))] }) ?_ ?_
 ·exact ⟨_, _, ax [0, 1, 4, 5, 6], 0, 0, Nat.zero_le _, rfl, rfl⟩
 rintro n5 s5 ⟨k, v, hk, rfl, rfl⟩
 refine ai fun _ k6 => ?_
 refine ai fun _ k7 => ?_
 refine ak hP hN rfl ?_
 iterate 4 (refine aj rfl fun _ k0 => ?_; simp only [zO, zT, acs, reduceCtorEq, aa, V, ad, ag, af, ae]; (repeat refine an ?_); (try refine .inl ?_); apply k0; clear k0; simp only [zP, V])
 refine am ?_
 apply k7; clear k7; refine kp [0, 1, 4, 5, 6, 10] ?_
 refine cd (fun hc8 => ?_) (fun hc8 => ?_)
 ·(try simp only [zB, reduceCtorEq] at hc8)
  refine ay ?_
  apply k6; clear k6; refine kp [0, 1, 4, 5, 6, 10] ?_
  refine ai fun _ k9 => ?_
  refine aB ?_
  have hkl : k < w.length := by omega
  have hwk := hw _ (bn hkl)
  have hnl : (pkL l (w.take k)).length = k := by unfold pkL; rw [aF, List.length_take]; omega
  refine ak hP hN rfl ?_
  iterate 11 (refine aj rfl fun _ k0 => ?_; simp only [zO, zT, acs, reduceCtorEq, aa, V, ad, ag, af, ae]; (repeat refine an ?_); (try refine .inl ?_); apply k0; clear k0; simp only [zP, V])
  refine am ?_
  apply k9; clear k9; refine kp [0, 1, 4, 5, 6, 10] ?_
  refine ak hP hN rfl ?_
  iterate 3 (refine aj rfl fun _ k0 => ?_; simp only [zO, zT, acs, reduceCtorEq, aa, V, ad, ag, af, ae]; (repeat refine an ?_); (try refine .inl ?_); apply k0; clear k0; simp only [zP, V])
  refine am ?_
  refine ⟨_, _, ?_, ax [0, 1, 4, 5, 6], k + 1, v + 1, by omega, rfl, ?_⟩
  · omega
  · rw [xH hkl]; rfl
 (try simp only [zB, reduceCtorEq] at hc8)
 refine aV ?_
 apply k3; clear k3; refine kp [0, 1, 4, 5, 6, 10] ?_
 refine ai fun _ k10 => ?_
 refine cu 0 rfl ?_; simp only [aI, bl, zS, aa, and_self, and_true, true_and, and_false, false_and, if_true, if_false, eq_self, reduceCtorEq, Nat.one_ne_zero, Nat.zero_ne_one]
 have hkw : k = w.length := by omega
 rw [hkw, aJ]
 refine ak hP hN rfl ?_
 iterate 2 (refine aj rfl fun _ k0 => ?_; simp only [zO, zT, acs, reduceCtorEq, aa, V, ad, ag, af, ae]; (repeat refine an ?_); (try refine .inl ?_); apply k0; clear k0; simp only [zP, V])
 refine am ?_
 apply k10; clear k10; refine kp [0, 1, 4, 5, 6, 10] ?_
 refine aG ?_
 refine ⟨nr, _, rfl, ?_⟩; simp only [zF, zP, aa, V]
 exact VLE.of_eq rfl
end Go.Proofs.Ytoahhklogohehaa
