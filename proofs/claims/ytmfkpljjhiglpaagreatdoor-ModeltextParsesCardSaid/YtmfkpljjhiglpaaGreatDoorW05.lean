/- Contracts of functions of this seat, each out of a walk through its code, and plain facts on what they compute. Conditions: those that each theorem names. -/
import Derived.Test.YtmfkpljjhiglpaaGreatDoorW04
set_option linter.unusedSimpArgs false
set_option linter.unusedVariables false
set_option maxRecDepth 100000
namespace Go.Proofs.YtmfkpljjhiglpaaGreatDoor
open Go Go.AV
open Nat renaming reduceEqDiff → V, reduceAdd → O, reduceLeDiff → Z, reduceLT → ad, reduceMul → ab, reduceSub → aa
open List renaming set_cons_zero → bK, set_cons_succ → ba, getD_cons_zero → cM, length_append → aq, map_cons → aS, cons_append → am, map_nil → bM, length_cons → ak, nil_append → ar, take_succ_cons → bY, length_nil → aw, length_map → c0, length_replicate → aL, take_length → aD, mem_cons_self → aT, mem_cons_of_mem → aI
open Int renaming toNat_natCast → aN
set_option maxHeartbeats 4000000 in
theorem qD (s : Bs) (hs : s.length ≤ 900000) : bH Tryz.prog 12 [.one (.str s)] (.tup [(PM s).1.av, .one (.int .i64 (PM s).2.1), .one (.int .i64 (PM s).2.2)]) := by
 have hpl := la 10 s; have hp0 := fm 10 s
 refine aR Tryz.func12 rfl (by kernel_rfl) (Nat.le_of_ble_eq_true rfl) rfl fun C hP hN hB => ?_
 replace hN : C.N = 126 := hN
 simp only [aX, O]
 refine af fun _ k1 => ?_
 refine ah hP hN rfl ?_
 iterate 3 (refine ae rfl fun _ k0 => ?_; simp only [zO, zT, acs, reduceCtorEq, V, O, Z, ad, ab, aa, List.drop_zero]; (repeat refine And.intro (by first | omega | assumption | exact rfl | exact ⟨by omega, hne0 (by assumption)⟩ | (have h9 := hmu2 (by omega); omega)) ?_); (try refine .inl ?_); apply k0; clear k0; simp only [zP, O])
 refine ag ?_
 apply k1; clear k1; refine kp [0, 2, 3, 4] ?_
 refine af fun _ k2 => ?_
 refine af fun _ k3 => ?_
 refine ah hP hN rfl ?_
 iterate 3 (refine ae rfl fun _ k0 => ?_; simp only [zO, zT, acs, reduceCtorEq, V, O, Z, ad, ab, aa, List.drop_zero]; (repeat refine And.intro (by first | omega | assumption | exact rfl | exact ⟨by omega, hne0 (by assumption)⟩ | (have h9 := hmu2 (by omega); omega)) ?_); (try refine .inl ?_); apply k0; clear k0; simp only [zP, O])
 refine ag ?_
 apply k3; clear k3; refine kp [0, 2, 3, 4, 13] ?_
 refine cd (fun hc4 => ?_) (fun hc4 => ?_)
 · exfalso; (try simp only [zB, reduceCtorEq] at hc4); all_goals (first | (cases hc4; done) | omega | (simp at hc4; done) | (simp_all; done))
 (try simp only [zB, reduceCtorEq] at hc4)
 refine ay ?_
 apply k2; clear k2; refine kp [0, 2, 3, 4, 13] ?_
 refine af fun _ k5 => ?_
 refine ah hP hN rfl ?_
 iterate 3 (refine ae rfl fun _ k0 => ?_; simp only [zO, zT, acs, reduceCtorEq, V, O, Z, ad, ab, aa, List.drop_zero]; (repeat refine And.intro (by first | omega | assumption | exact rfl | exact ⟨by omega, hne0 (by assumption)⟩ | (have h9 := hmu2 (by omega); omega)) ?_); (try refine .inl ?_); apply k0; clear k0; simp only [zP, O])
 refine ag ?_
 apply k5; clear k5; refine kp [0, 2, 3, 4, 5, 13] ?_
 refine af fun _ k6 => ?_
 refine ah hP hN rfl ?_
 (refine ae rfl fun _ k0 => ?_; simp only [zO, zT, acs, reduceCtorEq, V, O, Z, ad, ab, aa, List.drop_zero]; (repeat refine And.intro (by first | omega | assumption | exact rfl | exact ⟨by omega, hne0 (by assumption)⟩ | (have h9 := hmu2 (by omega); omega)) ?_); (try refine .inl ?_); apply k0; clear k0; simp only [zP, O])
 refine ae rfl fun _ k0 => ?_
 refine aC (h := au (sT s (by omega))) rfl rfl (by first | exact rfl | (simp only [ev, zP, V, O]; exact rfl)) (by simp only [zV, acs, reduceCtorEq, V, O, Z, ad, ab, aa, List.drop_zero]) ?_
 apply k0; clear k0; simp only [zP, O]
 (refine ae rfl fun _ k0 => ?_; simp only [zO, zT, acs, reduceCtorEq, V, O, Z, ad, ab, aa, List.drop_zero]; (repeat refine And.intro (by first | omega | assumption | exact rfl | exact ⟨by omega, hne0 (by assumption)⟩ | (have h9 := hmu2 (by omega); omega)) ?_); (try refine .inl ?_); apply k0; clear k0; simp only [zP, O])
 refine ag ?_
 apply k6; clear k6; refine kp [0, 2, 3, 4, 5, 6, 13] ?_
 refine af fun _ k7 => ?_
 refine af fun _ k8 => ?_
 refine ah hP hN rfl ?_
 (refine ae rfl fun _ k0 => ?_; simp only [zO, zT, acs, reduceCtorEq, V, O, Z, ad, ab, aa, List.drop_zero]; (repeat refine And.intro (by first | omega | assumption | exact rfl | exact ⟨by omega, hne0 (by assumption)⟩ | (have h9 := hmu2 (by omega); omega)) ?_); (try refine .inl ?_); apply k0; clear k0; simp only [zP, O])
 refine ag ?_
 apply k8; clear k8; refine kp [0, 2, 3, 4, 5, 6, 7, 13] ?_
 refine aE ?_
 refine o5 1 (cs' := rfC rs0 .nils .nils) rfl ⟨.refl _, dn rfl, .refl _, dn rfl, dn rfl, .refl _, .refl _, .refl _, .refl _, trivial⟩ ?_
 simp only [zS]
 refine bn (fun n9 s9 => ∃ (k : Nat), (k ≤ (spB 10 s).length - 1) ∧ (OKC (spB 10 s) k) ∧ n9 = (spB 10 s).length - k ∧ s9 = { env := [(2, .one (.ptr 0 0 0 0)), (3, .one (.int .i64 0)), (4, .one (.int .i64 0)), (5, .one (.ptr 1 0 0 0)), (6, .one (.list .str (spB 10 s))), (7, .one (.int .i64 (k : Int)))], L := (SF (.vars 29 [.str [], .nils, .nils, .int .i64 0, .int .i64 0, .nils, .nils]) 67 27 45 3 (bm (spB 10 s) k)) }) ?_ ?_
 ·exact ⟨_, _, aB [2, 3, 4, 5, 6, 7], 0, Nat.zero_le _, fun j hj => by omega, rfl, rfl⟩
 rintro n9 s9 ⟨k, hk, hok, rfl, rfl⟩
 refine af fun _ k10 => ?_
 refine af fun _ k11 => ?_
 refine ah hP hN rfl ?_
 iterate 5 (refine ae rfl fun _ k0 => ?_; simp only [zO, zT, acs, reduceCtorEq, V, O, Z, ad, ab, aa, List.drop_zero]; (repeat refine And.intro (by first | omega | assumption | exact rfl | exact ⟨by omega, hne0 (by assumption)⟩ | (have h9 := hmu2 (by omega); omega)) ?_); (try refine .inl ?_); apply k0; clear k0; simp only [zP, O])
 refine ag ?_
 apply k11; clear k11; refine kp [2, 3, 4, 5, 6, 7, 23] ?_
 refine cd (fun hc12 => ?_) (fun hc12 => ?_)
 ·(try simp only [zB, reduceCtorEq] at hc12)
  refine ay ?_
  apply k10; clear k10; refine kp [2, 3, 4, 5, 6, 7, 23] ?_
  refine af fun _ k13 => ?_
  refine aE ?_
  refine af fun _ k14 => ?_
  refine af fun _ k15 => ?_
  have hne0 : ¬ ((spB 10 s).getD k []) = [] → 0 < ((((spB 10 s).getD k [])).length : Int) := fun e => by have := List.length_pos_iff.2 e; omega
  refine ah hP hN rfl ?_
  iterate 6 (refine ae rfl fun _ k0 => ?_; simp only [zO, zT, acs, reduceCtorEq, V, O, Z, ad, ab, aa, List.drop_zero]; (repeat refine And.intro (by first | omega | assumption | exact rfl | exact ⟨by omega, hne0 (by assumption)⟩ | (have h9 := hmu2 (by omega); omega)) ?_); (try refine .inl ?_); apply k0; clear k0; simp only [zP, O])
  refine' aA (want := false) 6 rfl (m := 31) (by simp only [zP, V, O]; exact rfl) (by kernel_rfl) rfl rfl rfl rfl rfl (fun hg16 => ?a16) ?b16 ?c16
  case a16 =>
   have hq16 := hg16; (try simp only [zB, reduceCtorEq] at hg16); simp only [zE]
   iterate 6 (refine aQ rfl fun _ k0 => ?_; simp only [zO, zT, acs, reduceCtorEq, V, O, Z, ad, ab, aa, List.drop_zero]; (repeat refine And.intro (by first | omega | assumption | exact rfl | exact ⟨by omega, hne0 (by assumption)⟩ | (have h9 := hmu2 (by omega); omega)) ?_); (try refine .inl ?_); apply k0; clear k0; simp only [zP, O])
   (refine ae rfl fun _ k0 => ?_; simp only [zO, zT, acs, reduceCtorEq, V, O, Z, ad, ab, aa, List.drop_zero]; (repeat refine And.intro (by first | omega | assumption | exact rfl | exact ⟨by omega, hne0 (by assumption)⟩ | (have h9 := hmu2 (by omega); omega)) ?_); (try refine .inl ?_); apply k0; clear k0; simp only [zP, O])
   refine ag ?_
   refine ⟨by simp only [zP, V, O]; exact rfl, rfl, ?_, rfl⟩; (repeat refine az rfl ?_); exact aP (by exact rfl) hq16
  case b16 => exact bf
  simp only [aK, aF]
  refine ag ?_
  apply k15; clear k15; refine kp [2, 3, 4, 5, 6, 7, 23, 38] ?_
  refine cd (fun hc17 => ?_) (fun hc17 => ?_)
  ·(try simp only [zB, reduceCtorEq] at hc17)
   have hsk := hc17
   refine bh ?_
   apply k13; clear k13; refine kp [2, 3, 4, 5, 6, 7, 23, 38] ?_
   refine ah hP hN rfl ?_
   iterate 3 (refine ae rfl fun _ k0 => ?_; simp only [zO, zT, acs, reduceCtorEq, V, O, Z, ad, ab, aa, List.drop_zero]; (repeat refine And.intro (by first | omega | assumption | exact rfl | exact ⟨by omega, hne0 (by assumption)⟩ | (have h9 := hmu2 (by omega); omega)) ?_); (try refine .inl ?_); apply k0; clear k0; simp only [zP, O])
   refine ag ?_
   first
   | (have g9 := ny (r := (bm (spB 10 s) k)) (l := ((spB 10 s).getD k [])) (hsk.imp id kY.1)
      have e9 : bm (spB 10 s) (k + 1) = (bm (spB 10 s) k) := congrArg Prod.fst g9
      refine ⟨_, _, ?_, aB [2, 3, 4, 5, 6, 7], k + 1, by omega, dG hok (congrArg Prod.snd g9), rfl, ?_⟩
      · omega
      · rw [e9]; rfl)
   | (have g9 := i9 (r := (bm (spB 10 s) k)) (l := ((spB 10 s).getD k [])) hns9 h54.1 (by omega)
      have e9 : bm (spB 10 s) (k + 1) = _ := congrArg Prod.fst g9
      refine ⟨_, _, ?_, aB [2, 3, 4, 5, 6, 7], k + 1, by omega, dG hok ((congrArg Prod.snd g9).trans he9), rfl, ?_⟩
      · omega
      · rw [e9]; rfl)
   | (have g9 := kr (r := (bm (spB 10 s) k)) (l := ((spB 10 s).getD k [])) hns9 h65.1 (by omega)
      have e9 : bm (spB 10 s) (k + 1) = _ := congrArg Prod.fst g9
      refine ⟨_, _, ?_, aB [2, 3, 4, 5, 6, 7], k + 1, by omega, dG hok ((congrArg Prod.snd g9).trans he9), rfl, ?_⟩
      · omega
      · rw [e9]; rfl)
  (try simp only [zB, reduceCtorEq] at hc17)
  have hns := hc17
  refine ay ?_
  apply k14; clear k14; refine kp [2, 3, 4, 5, 6, 7, 23, 38] ?_
  refine af fun _ k18 => ?_
  have hll := jW 10 s k
  have hne : ¬ ((spB 10 s).getD k []) = [] := hns.1
  have hns9 : ¬ (((spB 10 s).getD k []) = [] ∨ (((spB 10 s).getD k [])).getD 0 0 = 35) := fun h => h.elim hns.1 (fun e => hns.2 (kY.2 e))
  obtain ⟨hI, hK, hrd⟩ := pu (P := (spB 10 s)) (k := k) (by omega) hok
  have hwn : ∀ j, j < (spB 32 ((spB 10 s).getD k [])).length → ((spB 32 ((spB 10 s).getD k [])).getD j []).length ≤ 1048576 := fun j _ => by have := jW 32 ((spB 10 s).getD k []) j; omega
  have hwl : (spB 32 ((spB 10 s).getD k [])).length ≤ 1000000 := by have := la 32 ((spB 10 s).getD k []); omega
  refine ah hP hN rfl ?_
  iterate 4 (refine ae rfl fun _ k0 => ?_; simp only [zO, zT, acs, reduceCtorEq, V, O, Z, ad, ab, aa, List.drop_zero]; (repeat refine And.intro (by first | omega | assumption | exact rfl | exact ⟨by omega, hne0 (by assumption)⟩ | (have h9 := hmu2 (by omega); omega)) ?_); (try refine .inl ?_); apply k0; clear k0; simp only [zP, O])
  refine ae rfl fun _ k0 => ?_
  refine aC (h := au (ut ((spB 10 s).getD k []) hne (by omega))) rfl rfl (by first | exact rfl | (simp only [ev, zP, V, O]; exact rfl)) (by simp only [zV, acs, reduceCtorEq, V, O, Z, ad, ab, aa, List.drop_zero]) ?_
  apply k0; clear k0; simp only [zP, O]
  iterate 5 (refine ae rfl fun _ k0 => ?_; simp only [zO, zT, acs, reduceCtorEq, V, O, Z, ad, ab, aa, List.drop_zero]; (repeat refine And.intro (by first | omega | assumption | exact rfl | exact ⟨by omega, hne0 (by assumption)⟩ | (have h9 := hmu2 (by omega); omega)) ?_); (try refine .inl ?_); apply k0; clear k0; simp only [zP, O])
  refine ag ?_
  apply k18; clear k18; refine kp [2, 3, 4, 5, 6, 7, 8, 9, 23, 38] ?_
  refine af fun _ k19 => ?_
  refine ah hP hN rfl ?_
  (refine ae rfl fun _ k0 => ?_; simp only [zO, zT, acs, reduceCtorEq, V, O, Z, ad, ab, aa, List.drop_zero]; (repeat refine And.intro (by first | omega | assumption | exact rfl | exact ⟨by omega, hne0 (by assumption)⟩ | (have h9 := hmu2 (by omega); omega)) ?_); (try refine .inl ?_); apply k0; clear k0; simp only [zP, O])
  refine ag ?_
  apply k19; clear k19; refine kp [2, 3, 4, 5, 6, 7, 8, 9, 10, 23, 38] ?_
  refine af fun _ k20 => ?_
  refine af fun _ k21 => ?_
  refine ah hP hN rfl ?_
  iterate 2 (refine ae rfl fun _ k0 => ?_; simp only [zO, zT, acs, reduceCtorEq, V, O, Z, ad, ab, aa, List.drop_zero, fC, rfC]; (repeat refine And.intro (by first | omega | assumption | exact rfl | exact ⟨by omega, hne0 (by assumption)⟩ | (have h9 := hmu2 (by omega); omega)) ?_); (try refine .inl ?_); apply k0; clear k0; simp only [zP, O])
  refine' aA (want := true) 5 rfl (m := 48) (by simp only [zP, V, O]; exact rfl) (by kernel_rfl) rfl rfl rfl rfl rfl (fun hg22 => ?a22) ?b22 ?c22
  case a22 =>
   have hq22 := hg22; (try simp only [zB, reduceCtorEq] at hg22); simp only [zE]
   iterate 5 (refine aQ rfl fun _ k0 => ?_; simp only [zO, zT, acs, reduceCtorEq, V, O, Z, ad, ab, aa, List.drop_zero, fC, rfC]; (repeat refine And.intro (by first | omega | assumption | exact rfl | exact ⟨by omega, hne0 (by assumption)⟩ | (have h9 := hmu2 (by omega); omega)) ?_); (try refine .inl ?_); apply k0; clear k0; simp only [zP, O])
   (refine ae rfl fun _ k0 => ?_; simp only [zO, zT, acs, reduceCtorEq, V, O, Z, ad, ab, aa, List.drop_zero, fC, rfC]; (repeat refine And.intro (by first | omega | assumption | exact rfl | exact ⟨by omega, hne0 (by assumption)⟩ | (have h9 := hmu2 (by omega); omega)) ?_); (try refine .inl ?_); apply k0; clear k0; simp only [zP, O])
   refine ag ?_
   refine ⟨by simp only [zP, V, O]; exact rfl, rfl, ?_, rfl⟩; (repeat refine az rfl ?_); exact aP (by exact rfl) hq22
  case b22 => exact bf
  simp only [aK, aF]
  refine ag ?_
  apply k21; clear k21; refine kp [2, 3, 4, 5, 6, 7, 8, 9, 10, 23, 38, 54] ?_
  refine cd (fun hc23 => ?_) (fun hc23 => ?_)
  ·(try simp only [zB, reduceCtorEq] at hc23)
   have h54 := hc23
   have hin9 : (bm (spB 10 s) k).rd = 3 → (bm (spB 10 s) k).ins.length ≤ 1000000 := fun e => by have := (iN (hI.a1 (by omega))).n1; omega
   have hA := aH (L0 := (SF (.vars 29 [.str [], .nils, .nils, .int .i64 0, .int .i64 0, .nils, .nils]) 67 27 45 3 (bm (spB 10 s) k))) (L1 := (hdQ (.vars 29 [.str [], .nils, .nils, .int .i64 0, .int .i64 0, .nils, .nils]) 67 27 45 3 (bm (spB 10 s) k) (fA (bm (spB 10 s) k)) (fB (bm (spB 10 s) k)) (fT 27 45 3 (bm (spB 10 s) k)) (spB 32 ((spB 10 s).getD k [])))) dX
   obtain ⟨cs9, U9, hX9⟩ := x0 (X := .vars 29 [.str [], .nils, .nils, .int .i64 0, .int .i64 0, .nils, .nils]) (R := 67) (M := 27) (S := 45) (I := 3) (r := (bm (spB 10 s) k)) (a := fA (bm (spB 10 s) k)) (b := fB (bm (spB 10 s) k)) (U := fT 27 45 3 (bm (spB 10 s) k)) (w := (spB 32 ((spB 10 s).getD k [])))
   have hA2 := hA.trans hX9
   have hS9 := fun e : (aU (bm (spB 10 s) k) (spB 32 ((spB 10 s).getD k []))).2 = 0 => hX9.symm.trans (vX (X := .vars 29 [.str [], .nils, .nils, .int .i64 0, .int .i64 0, .nils, .nils]) (R := 67) (M := 27) (S := 45) (I := 3) (w := (spB 32 ((spB 10 s).getD k []))) hI (by omega) e)
   rw [if_neg h54.1]
   refine ah hP hN rfl ?_
   iterate 2 (refine ae rfl fun _ k0 => ?_; simp only [zO, zT, acs, reduceCtorEq, V, O, Z, ad, ab, aa, List.drop_zero]; (repeat refine And.intro (by first | omega | assumption | exact rfl | exact ⟨by omega, hne0 (by assumption)⟩ | (have h9 := hmu2 (by omega); omega)) ?_); (try refine .inl ?_); apply k0; clear k0; simp only [zP, O, hA2])
   refine ae rfl fun _ k0 => ?_
   refine aC (h := rB (bm (spB 10 s) k) (spB 32 ((spB 10 s).getD k [])) hwl (fm ..) (by omega) hin9 hwn) rfl rfl (by first | exact rfl | (simp only [ev, zP, V, O]; exact rfl)) (by simp only [zV, acs, reduceCtorEq, V, O, Z, ad, ab, aa, List.drop_zero]) ?_
   apply k0; clear k0; simp only [zP, O, hA2]
   (refine ae rfl fun _ k0 => ?_; simp only [zO, zT, acs, reduceCtorEq, V, O, Z, ad, ab, aa, List.drop_zero]; (repeat refine And.intro (by first | omega | assumption | exact rfl | exact ⟨by omega, hne0 (by assumption)⟩ | (have h9 := hmu2 (by omega); omega)) ?_); (try refine .inl ?_); apply k0; clear k0; simp only [zP, O, hA2])
   refine ag ?_
   apply k20; clear k20; refine kp [2, 3, 4, 5, 6, 7, 8, 9, 10, 23, 38, 54] ?_
   refine af fun _ k24 => ?_
   refine af fun _ k25 => ?_
   refine ah hP hN rfl ?_
   iterate 2 (refine ae rfl fun _ k0 => ?_; simp only [zO, zT, acs, reduceCtorEq, V, O, Z, ad, ab, aa, List.drop_zero, fC, rfC]; (repeat refine And.intro (by first | omega | assumption | exact rfl | exact ⟨by omega, hne0 (by assumption)⟩ | (have h9 := hmu2 (by omega); omega)) ?_); (try refine .inl ?_); apply k0; clear k0; simp only [zP, O])
   refine' aA (want := true) 5 rfl (m := 59) (by simp only [zP, V, O]; exact rfl) (by kernel_rfl) rfl rfl rfl rfl rfl (fun hg26 => ?a26) ?b26 ?c26
   case a26 =>
    have hq26 := hg26; (try simp only [zB, reduceCtorEq] at hg26); simp only [zE]
    iterate 5 (refine aQ rfl fun _ k0 => ?_; simp only [zO, zT, acs, reduceCtorEq, V, O, Z, ad, ab, aa, List.drop_zero, fC, rfC]; (repeat refine And.intro (by first | omega | assumption | exact rfl | exact ⟨by omega, hne0 (by assumption)⟩ | (have h9 := hmu2 (by omega); omega)) ?_); (try refine .inl ?_); apply k0; clear k0; simp only [zP, O])
    (refine ae rfl fun _ k0 => ?_; simp only [zO, zT, acs, reduceCtorEq, V, O, Z, ad, ab, aa, List.drop_zero, fC, rfC]; (repeat refine And.intro (by first | omega | assumption | exact rfl | exact ⟨by omega, hne0 (by assumption)⟩ | (have h9 := hmu2 (by omega); omega)) ?_); (try refine .inl ?_); apply k0; clear k0; simp only [zP, O])
    refine ag ?_
    refine ⟨by simp only [zP, V, O]; exact rfl, rfl, ?_, rfl⟩; (repeat refine az rfl ?_); exact aP (by exact rfl) hq26
   case b26 => exact bf
   simp only [aK, aF]
   refine ag ?_
   apply k25; clear k25; refine kp [2, 3, 4, 5, 6, 7, 8, 9, 10, 23, 38, 54, 65] ?_
   refine cd (fun hc27 => ?_) (fun hc27 => ?_)
   · exfalso; (try simp only [zB, reduceCtorEq] at hc27); all_goals (first | (cases hc27; done) | omega | (simp at hc27; done) | (simp_all; done))
   (try simp only [zB, reduceCtorEq] at hc27)
   have n65 := hc27
   refine ay ?_
   apply k24; clear k24; refine kp [2, 3, 4, 5, 6, 7, 8, 9, 10, 23, 38, 54, 65] ?_
   refine af fun _ k28 => ?_
   refine af fun _ k29 => ?_
   refine ah hP hN rfl ?_
   iterate 2 (refine ae rfl fun _ k0 => ?_; simp only [zO, zT, acs, reduceCtorEq, V, O, Z, ad, ab, aa, List.drop_zero]; (repeat refine And.intro (by first | omega | assumption | exact rfl | exact ⟨by omega, hne0 (by assumption)⟩ | (have h9 := hmu2 (by omega); omega)) ?_); (try refine .inl ?_); apply k0; clear k0; simp only [zP, O])
   refine ag ?_
   apply k29; clear k29; refine kp [2, 3, 4, 5, 6, 7, 8, 9, 10, 23, 38, 54, 65, 70] ?_
   refine cd (fun hc30 => ?_) (fun hc30 => ?_)
   ·(try simp only [zB, reduceCtorEq] at hc30)
    have he9 := hc30
    refine af fun _ k31 => ?_
    have hPM := p8 hs (by omega) hok (by rw [i9 hns9 h54.1 (by omega)]; exact he9)
    rw [i9 hns9 h54.1 (by omega)] at hPM
    refine ah hP hN rfl ?_
    iterate 7 (refine ae rfl fun _ k0 => ?_; simp only [zO, zT, acs, reduceCtorEq, V, O, Z, ad, ab, aa, List.drop_zero, qN]; (repeat refine And.intro (by first | omega | assumption | exact rfl | exact ⟨by omega, hne0 (by assumption)⟩ | (have h9 := hmu2 (by omega); omega)) ?_); (try refine .inl ?_); apply k0; clear k0; simp only [zP, O, jT])
    refine ag ?_
    apply k31; clear k31; refine kp [2, 3, 4, 5, 6, 7, 8, 9, 10, 23, 38, 54, 65, 70] ?_
    refine ax ?_
    first | (refine ⟨nr, _, rfl, ?_⟩) | (refine ⟨nr, _, oT Tryz.td29 rfl (fa (by omega)) rfl rfl rfl, ?_⟩); simp only [zF, zP, V, O, List.drop_zero]
    first
    | (rw [hPM]; exact eO)
    | (have hPM := hPE.trans (f0 hK (by omega))
       rw [show (k : Int) + 1 = ((spB 10 s).length : Int) by omega] at hPM
       rw [hPM]; exact eO)
    | (have hPM := hPE.trans (eZ hK (by omega) (by omega))
       rw [hPM]; exact VLE.of_eq rfl)
   (try simp only [zB, reduceCtorEq] at hc30)
   have he9 := hc30
   rw [hS9 (by omega)]
   refine ay ?_
   apply k28; clear k28; refine kp [2, 3, 4, 5, 6, 7, 8, 9, 10, 23, 38, 54, 65, 70] ?_
   have hrd9 : (aU (bm (spB 10 s) k) (spB 32 ((spB 10 s).getD k []))).1.rd = (bm (spB 10 s) k).rd := kI
   have hS := vH (X := .vars 29 [.str [], .nils, .nils, .int .i64 0, .int .i64 0, .nils, .nils]) (R := 67) (M := 27) (S := 45) (I := 3) (r := (aU (bm (spB 10 s) k) (spB 32 ((spB 10 s).getD k []))).1)
   refine ah hP hN rfl ?_
   iterate 9 (refine ae rfl fun _ k0 => ?_; simp only [zO, zT, acs, reduceCtorEq, V, O, Z, ad, ab, aa, List.drop_zero, fC, rfC]; (repeat refine And.intro (by first | omega | assumption | exact rfl | exact ⟨by omega, hne0 (by assumption)⟩ | (have h9 := hmu2 (by omega); omega)) ?_); (try refine .inl ?_); apply k0; clear k0; simp only [zP, O, hS])
   refine ag ?_
   apply k13; clear k13; refine kp [2, 3, 4, 5, 6, 7, 8, 9, 10, 23, 38, 54, 65, 70] ?_
   refine ah hP hN rfl ?_
   iterate 3 (refine ae rfl fun _ k0 => ?_; simp only [zO, zT, acs, reduceCtorEq, V, O, Z, ad, ab, aa, List.drop_zero]; (repeat refine And.intro (by first | omega | assumption | exact rfl | exact ⟨by omega, hne0 (by assumption)⟩ | (have h9 := hmu2 (by omega); omega)) ?_); (try refine .inl ?_); apply k0; clear k0; simp only [zP, O])
   refine ag ?_
   first
   | (have g9 := ny (r := (bm (spB 10 s) k)) (l := ((spB 10 s).getD k [])) (hsk.imp id kY.1)
      have e9 : bm (spB 10 s) (k + 1) = (bm (spB 10 s) k) := congrArg Prod.fst g9
      refine ⟨_, _, ?_, aB [2, 3, 4, 5, 6, 7], k + 1, by omega, dG hok (congrArg Prod.snd g9), rfl, ?_⟩
      · omega
      · rw [e9]; rfl)
   | (have g9 := i9 (r := (bm (spB 10 s) k)) (l := ((spB 10 s).getD k [])) hns9 h54.1 (by omega)
      have e9 : bm (spB 10 s) (k + 1) = _ := congrArg Prod.fst g9
      refine ⟨_, _, ?_, aB [2, 3, 4, 5, 6, 7], k + 1, by omega, dG hok ((congrArg Prod.snd g9).trans he9), rfl, ?_⟩
      · omega
      · rw [e9]; rfl)
   | (have g9 := kr (r := (bm (spB 10 s) k)) (l := ((spB 10 s).getD k [])) hns9 h65.1 (by omega)
      have e9 : bm (spB 10 s) (k + 1) = _ := congrArg Prod.fst g9
      refine ⟨_, _, ?_, aB [2, 3, 4, 5, 6, 7], k + 1, by omega, dG hok ((congrArg Prod.snd g9).trans he9), rfl, ?_⟩
      · omega
      · rw [e9]; rfl)
  (try simp only [zB, reduceCtorEq] at hc23)
  have n54 := hc23
  refine ay ?_
  apply k20; clear k20; refine kp [2, 3, 4, 5, 6, 7, 8, 9, 10, 23, 38, 54] ?_
  refine af fun _ k32 => ?_
  refine af fun _ k33 => ?_
  refine ah hP hN rfl ?_
  iterate 2 (refine ae rfl fun _ k0 => ?_; simp only [zO, zT, acs, reduceCtorEq, V, O, Z, ad, ab, aa, List.drop_zero, fC, rfC]; (repeat refine And.intro (by first | omega | assumption | exact rfl | exact ⟨by omega, hne0 (by assumption)⟩ | (have h9 := hmu2 (by omega); omega)) ?_); (try refine .inl ?_); apply k0; clear k0; simp only [zP, O])
  refine' aA (want := true) 5 rfl (m := 59) (by simp only [zP, V, O]; exact rfl) (by kernel_rfl) rfl rfl rfl rfl rfl (fun hg34 => ?a34) ?b34 ?c34
  case a34 =>
   have hq34 := hg34; (try simp only [zB, reduceCtorEq] at hg34); simp only [zE]
   iterate 5 (refine aQ rfl fun _ k0 => ?_; simp only [zO, zT, acs, reduceCtorEq, V, O, Z, ad, ab, aa, List.drop_zero, fC, rfC]; (repeat refine And.intro (by first | omega | assumption | exact rfl | exact ⟨by omega, hne0 (by assumption)⟩ | (have h9 := hmu2 (by omega); omega)) ?_); (try refine .inl ?_); apply k0; clear k0; simp only [zP, O])
   (refine ae rfl fun _ k0 => ?_; simp only [zO, zT, acs, reduceCtorEq, V, O, Z, ad, ab, aa, List.drop_zero, fC, rfC]; (repeat refine And.intro (by first | omega | assumption | exact rfl | exact ⟨by omega, hne0 (by assumption)⟩ | (have h9 := hmu2 (by omega); omega)) ?_); (try refine .inl ?_); apply k0; clear k0; simp only [zP, O])
   refine ag ?_
   refine ⟨by simp only [zP, V, O]; exact rfl, rfl, ?_, rfl⟩; (repeat refine az rfl ?_); exact aP (by exact rfl) hq34
  case b34 => exact bf
  simp only [aK, aF]
  refine ag ?_
  apply k33; clear k33; refine kp [2, 3, 4, 5, 6, 7, 8, 9, 10, 23, 38, 54, 65] ?_
  refine cd (fun hc35 => ?_) (fun hc35 => ?_)
  ·(try simp only [zB, reduceCtorEq] at hc35)
   have h65 := hc35
   have ht9 := hI.t4 (by omega)
   have hA3 := aH (L0 := (SF (.vars 29 [.str [], .nils, .nils, .int .i64 0, .int .i64 0, .nils, .nils]) 67 27 45 3 (bm (spB 10 s) k))) (L1 := (SF (.vars 29 [.str [], .nils, .nils, .int .i64 0, .int .i64 0, .nils, .nils]) 67 27 45 3 (br (bm (spB 10 s) k) (spB 32 ((spB 10 s).getD k []))).1)) (by rw [lc ht9.1, lc (kf.trans ht9.1)]; exact jU _ _)
   rw [if_neg h65.1]
   refine ah hP hN rfl ?_
   iterate 2 (refine ae rfl fun _ k0 => ?_; simp only [zO, zT, acs, reduceCtorEq, V, O, Z, ad, ab, aa, List.drop_zero]; (repeat refine And.intro (by first | omega | assumption | exact rfl | exact ⟨by omega, hne0 (by assumption)⟩ | (have h9 := hmu2 (by omega); omega)) ?_); (try refine .inl ?_); apply k0; clear k0; simp only [zP, O, hA3])
   refine ae rfl fun _ k0 => ?_
   refine aC (h := tT (bm (spB 10 s) k) (spB 32 ((spB 10 s).getD k [])) ht9.1 ht9.2 hwl) rfl rfl (by first | exact rfl | (simp only [ev, zP, V, O]; exact rfl)) (by simp only [zV, acs, reduceCtorEq, V, O, Z, ad, ab, aa, List.drop_zero]) ?_
   apply k0; clear k0; simp only [zP, O, hA3]
   (refine ae rfl fun _ k0 => ?_; simp only [zO, zT, acs, reduceCtorEq, V, O, Z, ad, ab, aa, List.drop_zero]; (repeat refine And.intro (by first | omega | assumption | exact rfl | exact ⟨by omega, hne0 (by assumption)⟩ | (have h9 := hmu2 (by omega); omega)) ?_); (try refine .inl ?_); apply k0; clear k0; simp only [zP, O, hA3])
   refine ag ?_
   apply k32; clear k32; refine kp [2, 3, 4, 5, 6, 7, 8, 9, 10, 23, 38, 54, 65] ?_
   refine af fun _ k36 => ?_
   refine af fun _ k37 => ?_
   refine ah hP hN rfl ?_
   iterate 2 (refine ae rfl fun _ k0 => ?_; simp only [zO, zT, acs, reduceCtorEq, V, O, Z, ad, ab, aa, List.drop_zero]; (repeat refine And.intro (by first | omega | assumption | exact rfl | exact ⟨by omega, hne0 (by assumption)⟩ | (have h9 := hmu2 (by omega); omega)) ?_); (try refine .inl ?_); apply k0; clear k0; simp only [zP, O])
   refine ag ?_
   apply k37; clear k37; refine kp [2, 3, 4, 5, 6, 7, 8, 9, 10, 23, 38, 54, 65, 70] ?_
   refine cd (fun hc38 => ?_) (fun hc38 => ?_)
   ·(try simp only [zB, reduceCtorEq] at hc38)
    have he9 := hc38
    refine af fun _ k39 => ?_
    have hPM := p8 hs (by omega) hok (by rw [kr hns9 h65.1 (by omega)]; exact he9)
    rw [kr hns9 h65.1 (by omega)] at hPM
    refine ah hP hN rfl ?_
    iterate 7 (refine ae rfl fun _ k0 => ?_; simp only [zO, zT, acs, reduceCtorEq, V, O, Z, ad, ab, aa, List.drop_zero, qN]; (repeat refine And.intro (by first | omega | assumption | exact rfl | exact ⟨by omega, hne0 (by assumption)⟩ | (have h9 := hmu2 (by omega); omega)) ?_); (try refine .inl ?_); apply k0; clear k0; simp only [zP, O, jT])
    refine ag ?_
    apply k39; clear k39; refine kp [2, 3, 4, 5, 6, 7, 8, 9, 10, 23, 38, 54, 65, 70] ?_
    refine ax ?_
    first | (refine ⟨nr, _, rfl, ?_⟩) | (refine ⟨nr, _, oT Tryz.td29 rfl (fa (by omega)) rfl rfl rfl, ?_⟩); simp only [zF, zP, V, O, List.drop_zero]
    first
    | (rw [hPM]; exact eO)
    | (have hPM := hPE.trans (f0 hK (by omega))
       rw [show (k : Int) + 1 = ((spB 10 s).length : Int) by omega] at hPM
       rw [hPM]; exact eO)
    | (have hPM := hPE.trans (eZ hK (by omega) (by omega))
       rw [hPM]; exact VLE.of_eq rfl)
   (try simp only [zB, reduceCtorEq] at hc38)
   have he9 := hc38
   refine ay ?_
   apply k36; clear k36; refine kp [2, 3, 4, 5, 6, 7, 8, 9, 10, 23, 38, 54, 65, 70] ?_
   have hrd9 : (br (bm (spB 10 s) k) (spB 32 ((spB 10 s).getD k []))).1.rd = (bm (spB 10 s) k).rd := n7
   have hS := vH (X := .vars 29 [.str [], .nils, .nils, .int .i64 0, .int .i64 0, .nils, .nils]) (R := 67) (M := 27) (S := 45) (I := 3) (r := (br (bm (spB 10 s) k) (spB 32 ((spB 10 s).getD k []))).1)
   refine ah hP hN rfl ?_
   iterate 9 (refine ae rfl fun _ k0 => ?_; simp only [zO, zT, acs, reduceCtorEq, V, O, Z, ad, ab, aa, List.drop_zero, fC, rfC]; (repeat refine And.intro (by first | omega | assumption | exact rfl | exact ⟨by omega, hne0 (by assumption)⟩ | (have h9 := hmu2 (by omega); omega)) ?_); (try refine .inl ?_); apply k0; clear k0; simp only [zP, O, hS])
   refine ag ?_
   apply k13; clear k13; refine kp [2, 3, 4, 5, 6, 7, 8, 9, 10, 23, 38, 54, 65, 70] ?_
   refine ah hP hN rfl ?_
   iterate 3 (refine ae rfl fun _ k0 => ?_; simp only [zO, zT, acs, reduceCtorEq, V, O, Z, ad, ab, aa, List.drop_zero]; (repeat refine And.intro (by first | omega | assumption | exact rfl | exact ⟨by omega, hne0 (by assumption)⟩ | (have h9 := hmu2 (by omega); omega)) ?_); (try refine .inl ?_); apply k0; clear k0; simp only [zP, O])
   refine ag ?_
   first
   | (have g9 := ny (r := (bm (spB 10 s) k)) (l := ((spB 10 s).getD k [])) (hsk.imp id kY.1)
      have e9 : bm (spB 10 s) (k + 1) = (bm (spB 10 s) k) := congrArg Prod.fst g9
      refine ⟨_, _, ?_, aB [2, 3, 4, 5, 6, 7], k + 1, by omega, dG hok (congrArg Prod.snd g9), rfl, ?_⟩
      · omega
      · rw [e9]; rfl)
   | (have g9 := i9 (r := (bm (spB 10 s) k)) (l := ((spB 10 s).getD k [])) hns9 h54.1 (by omega)
      have e9 : bm (spB 10 s) (k + 1) = _ := congrArg Prod.fst g9
      refine ⟨_, _, ?_, aB [2, 3, 4, 5, 6, 7], k + 1, by omega, dG hok ((congrArg Prod.snd g9).trans he9), rfl, ?_⟩
      · omega
      · rw [e9]; rfl)
   | (have g9 := kr (r := (bm (spB 10 s) k)) (l := ((spB 10 s).getD k [])) hns9 h65.1 (by omega)
      have e9 : bm (spB 10 s) (k + 1) = _ := congrArg Prod.fst g9
      refine ⟨_, _, ?_, aB [2, 3, 4, 5, 6, 7], k + 1, by omega, dG hok ((congrArg Prod.snd g9).trans he9), rfl, ?_⟩
      · omega
      · rw [e9]; rfl)
  (try simp only [zB, reduceCtorEq] at hc35)
  have n65 := hc35
  refine ay ?_
  apply k32; clear k32; refine kp [2, 3, 4, 5, 6, 7, 8, 9, 10, 23, 38, 54, 65] ?_
  refine af fun _ k40 => ?_
  refine af fun _ k41 => ?_
  refine ah hP hN rfl ?_
  iterate 2 (refine ae rfl fun _ k0 => ?_; simp only [zO, zT, acs, reduceCtorEq, V, O, Z, ad, ab, aa, List.drop_zero]; (repeat refine And.intro (by first | omega | assumption | exact rfl | exact ⟨by omega, hne0 (by assumption)⟩ | (have h9 := hmu2 (by omega); omega)) ?_); (try refine .inl ?_); apply k0; clear k0; simp only [zP, O])
  refine ag ?_
  apply k41; clear k41; refine kp [2, 3, 4, 5, 6, 7, 8, 9, 10, 23, 38, 54, 65, 70] ?_
  refine cd (fun hc42 => ?_) (fun hc42 => ?_)
  ·(try simp only [zB, reduceCtorEq] at hc42)
   have he9 := hc42
   refine af fun _ k43 => ?_
   have hin9 : [] ∈ (spB 32 ((spB 10 s).getD k [])) := by
     rcases n54 with h | h
     · exact h
     · rcases n65 with h2 | h2
       · exact h2
       · omega
   have hPM := p8 hs (by omega) hok (by rw [sC hns9 hin9]; exact (by decide : ¬ (5 : Int) = 0))
   rw [sC hns9 hin9] at hPM
   refine ah hP hN rfl ?_
   iterate 7 (refine ae rfl fun _ k0 => ?_; simp only [zO, zT, acs, reduceCtorEq, V, O, Z, ad, ab, aa, List.drop_zero, qN]; (repeat refine And.intro (by first | omega | assumption | exact rfl | exact ⟨by omega, hne0 (by assumption)⟩ | (have h9 := hmu2 (by omega); omega)) ?_); (try refine .inl ?_); apply k0; clear k0; simp only [zP, O, jT])
   refine ag ?_
   apply k43; clear k43; refine kp [2, 3, 4, 5, 6, 7, 8, 9, 10, 23, 38, 54, 65, 70] ?_
   refine ax ?_
   first | (refine ⟨nr, _, rfl, ?_⟩) | (refine ⟨nr, _, oT Tryz.td29 rfl (fa (by omega)) rfl rfl rfl, ?_⟩); simp only [zF, zP, V, O, List.drop_zero]
   first
   | (rw [hPM]; exact eO)
   | (have hPM := hPE.trans (f0 hK (by omega))
      rw [show (k : Int) + 1 = ((spB 10 s).length : Int) by omega] at hPM
      rw [hPM]; exact eO)
   | (have hPM := hPE.trans (eZ hK (by omega) (by omega))
      rw [hPM]; exact VLE.of_eq rfl)
  · exfalso; (try simp only [zB, reduceCtorEq] at hc42); all_goals (first | (cases hc42; done) | omega | (simp at hc42; done) | (simp_all; done))
 (try simp only [zB, reduceCtorEq] at hc12)
 refine bh ?_
 apply k7; clear k7; refine kp [2, 3, 4, 5, 6, 7, 23] ?_
 refine af fun _ k44 => ?_
 refine af fun _ k45 => ?_
 obtain ⟨hI, hK, hrd⟩ := pu (P := (spB 10 s)) (k := k) (by omega) hok
 have hkn : k = (spB 10 s).length - 1 := by omega
 have hto : (((spB 10 s).length : Int) - 1).toNat = k := by omega
 refine ah hP hN rfl ?_
 iterate 7 (refine ae rfl fun _ k0 => ?_; simp only [zO, zT, acs, reduceCtorEq, V, O, Z, ad, ab, aa, List.drop_zero, hto]; (repeat refine And.intro (by first | omega | assumption | exact rfl | exact ⟨by omega, hne0 (by assumption)⟩ | (have h9 := hmu2 (by omega); omega)) ?_); (try refine .inl ?_); apply k0; clear k0; simp only [zP, O])
 refine ag ?_
 apply k45; clear k45; refine kp [2, 3, 4, 5, 6, 7, 23, 89] ?_
 refine cd (fun hc46 => ?_) (fun hc46 => ?_)
 ·(try simp only [zB, reduceCtorEq] at hc46)
  have htl := hc46
  refine af fun _ k47 => ?_
  have hPM := uV hs hkn hok htl
  rw [show (k : Int) + 1 = ((spB 10 s).length : Int) by omega] at hPM
  refine ah hP hN rfl ?_
  iterate 6 (refine ae rfl fun _ k0 => ?_; simp only [zO, zT, acs, reduceCtorEq, V, O, Z, ad, ab, aa, List.drop_zero, qN]; (repeat refine And.intro (by first | omega | assumption | exact rfl | exact ⟨by omega, hne0 (by assumption)⟩ | (have h9 := hmu2 (by omega); omega)) ?_); (try refine .inl ?_); apply k0; clear k0; simp only [zP, O, jT])
  refine ag ?_
  apply k47; clear k47; refine kp [2, 3, 4, 5, 6, 7, 23, 89] ?_
  refine ax ?_
  first | (refine ⟨nr, _, rfl, ?_⟩) | (refine ⟨nr, _, oT Tryz.td29 rfl (fa (by omega)) rfl rfl rfl, ?_⟩); simp only [zF, zP, V, O, List.drop_zero]
  first
  | (rw [hPM]; exact eO)
  | (have hPM := hPE.trans (f0 hK (by omega))
     rw [show (k : Int) + 1 = ((spB 10 s).length : Int) by omega] at hPM
     rw [hPM]; exact eO)
  | (have hPM := hPE.trans (eZ hK (by omega) (by omega))
     rw [hPM]; exact VLE.of_eq rfl)
 (try simp only [zB, reduceCtorEq] at hc46)
 have hte := hc46
 refine ay ?_
 apply k44; clear k44; refine kp [2, 3, 4, 5, 6, 7, 23, 89] ?_
 refine af fun _ k48 => ?_
 refine af fun _ k49 => ?_
 have hPE := wz hs hkn hok hte
 have hmu2 : 5 ≤ (bm (spB 10 s) k).rd → (0 : Int) ≤ ((bm (spB 10 s) k).sts.length : Int) * (bm (spB 10 s) k).ins.length ∧ ((bm (spB 10 s) k).sts.length : Int) * (bm (spB 10 s) k).ins.length ≤ 128 * 64 := fun e => by
   have t9 := (hI.t4 (by omega)).2
   have t1 := t9.n2; have t2 := t9.i2
   exact ⟨Int.mul_nonneg (by omega) (by omega), Int.mul_le_mul (by omega) (by omega) (by omega) (by omega)⟩
 refine bZ hP hN Tryz.mixed rfl ?_
 iterate 6 (refine ae rfl fun _ k0 => ?_; simp only [zO, zT, acs, reduceCtorEq, V, O, Z, ad, ab, aa, List.drop_zero, fC, rfC]; (repeat refine And.intro (by first | omega | assumption | exact rfl | exact ⟨by omega, hne0 (by assumption)⟩ | (have h9 := hmu2 (by omega); omega)) ?_); (try refine .inl ?_); apply k0; clear k0; simp only [zP, O])
 refine' aA (want := false) 19 rfl (m := 98) (by simp only [zP, V, O]; exact rfl) (by kernel_rfl) rfl rfl rfl rfl rfl (fun hg50 => ?a50) ?b50 ?c50
 case a50 =>
  have hq50 := hg50; (try simp only [zB, reduceCtorEq] at hg50); simp only [zE]
  iterate 19 (refine aQ rfl fun _ k0 => ?_; simp only [zO, zT, acs, reduceCtorEq, V, O, Z, ad, ab, aa, List.drop_zero, fC, rfC]; (repeat refine And.intro (by first | omega | assumption | exact rfl | exact ⟨by omega, hne0 (by assumption)⟩ | (have h9 := hmu2 (by omega); omega)) ?_); (try refine .inl ?_); apply k0; clear k0; simp only [zP, O])
  (refine ae rfl fun _ k0 => ?_; simp only [zO, zT, acs, reduceCtorEq, V, O, Z, ad, ab, aa, List.drop_zero, fC, rfC]; (repeat refine And.intro (by first | omega | assumption | exact rfl | exact ⟨by omega, hne0 (by assumption)⟩ | (have h9 := hmu2 (by omega); omega)) ?_); (try refine .inl ?_); apply k0; clear k0; simp only [zP, O])
  refine ag ?_
  refine ⟨by simp only [zP, V, O]; exact rfl, rfl, ?_, rfl⟩; (repeat refine az rfl ?_); exact aP (by exact rfl) hq50
 case b50 => exact bf
 simp only [aK, aF]
 refine ag ?_
 refine ⟨by kernel_rfl, ?_⟩
 apply k49; clear k49; refine kp [2, 3, 4, 5, 6, 7, 23, 89, 118] ?_
 refine cd (fun hc51 => ?_) (fun hc51 => ?_)
 ·(try simp only [zB, reduceCtorEq] at hc51)
  have hinc := hc51
  refine af fun _ k52 => ?_
  refine ah hP hN rfl ?_
  iterate 6 (refine ae rfl fun _ k0 => ?_; simp only [zO, zT, acs, reduceCtorEq, V, O, Z, ad, ab, aa, List.drop_zero, qN]; (repeat refine And.intro (by first | omega | assumption | exact rfl | exact ⟨by omega, hne0 (by assumption)⟩ | (have h9 := hmu2 (by omega); omega)) ?_); (try refine .inl ?_); apply k0; clear k0; simp only [zP, O, jT])
  refine ag ?_
  apply k52; clear k52; refine kp [2, 3, 4, 5, 6, 7, 23, 89, 118] ?_
  refine ax ?_
  first | (refine ⟨nr, _, rfl, ?_⟩) | (refine ⟨nr, _, oT Tryz.td29 rfl (fa (by omega)) rfl rfl rfl, ?_⟩); simp only [zF, zP, V, O, List.drop_zero]
  first
  | (rw [hPM]; exact eO)
  | (have hPM := hPE.trans (f0 hK (by omega))
     rw [show (k : Int) + 1 = ((spB 10 s).length : Int) by omega] at hPM
     rw [hPM]; exact eO)
  | (have hPM := hPE.trans (eZ hK (by omega) (by omega))
     rw [hPM]; exact VLE.of_eq rfl)
 (try simp only [zB, reduceCtorEq] at hc51)
 have hgood := hc51
 refine ay ?_
 apply k48; clear k48; refine kp [2, 3, 4, 5, 6, 7, 23, 89, 118] ?_
 refine af fun _ k53 => ?_
 refine kp [2, 3, 4, 5] ?_
 have ht9 := hI.t4 (by omega)
 rw [lc ht9.1]
 refine um (tK rfl) (ht9.2.ol.trans ht9.2.nl.symm) fun L9 hl9 h09 h19 => ?_
 refine ah hP hN rfl ?_
 iterate 7 (refine ae rfl fun _ k0 => ?_; simp only [zO, zT, acs, reduceCtorEq, V, O, Z, ad, ab, aa, List.drop_zero, h09, h19, rfC]; (repeat refine And.intro (by first | omega | assumption | exact rfl | exact ⟨by omega, hne0 (by assumption)⟩ | (have h9 := hmu2 (by omega); omega)) ?_); (try refine .inl ?_); apply k0; clear k0; simp only [zP, O])
 refine ag ?_
 apply k53; clear k53; refine kp [2, 3, 4, 5, 6, 7, 23, 89, 118] ?_
 refine ax ?_
 first | (refine ⟨nr, _, rfl, ?_⟩) | (refine ⟨nr, _, oT Tryz.td29 rfl (fa (by omega)) rfl rfl rfl, ?_⟩); simp only [zF, zP, V, O, List.drop_zero]
 first
 | (rw [hPM]; exact eO)
 | (have hPM := hPE.trans (f0 hK (by omega))
    rw [show (k : Int) + 1 = ((spB 10 s).length : Int) by omega] at hPM
    rw [hPM]; exact eO)
 | (have hPM := hPE.trans (eZ hK (by omega) (by omega))
    rw [hPM]; exact VLE.of_eq rfl)
set_option maxHeartbeats 2000000 in
theorem wy (s : Bs) : bH Tryz.prog 4 [.one (.str s)] (.one (.bool true)) := by
 refine aR Tryz.func4 rfl (by kernel_rfl) (Nat.le_of_ble_eq_true rfl) rfl fun C hP hN hB => ?_
 replace hN : C.N = 41 := hN
 simp only [aX, O]
 refine af fun _ k1 => ?_
 refine ah hP hN rfl ?_
 (refine ae rfl fun _ k0 => ?_; simp only [zO, zT, acs, reduceCtorEq, V, O, Z, ad, ab, aa, Mdl.av, Mdl.cs]; (repeat refine an ?_); (try refine .inl ?_); apply k0; clear k0; simp only [zP, O])
 refine ag ?_
 apply k1; clear k1; refine kp [0, 2] ?_
 refine af fun _ k2 => ?_
 refine af fun _ k3 => ?_
 refine ah hP hN rfl ?_
 iterate 3 (refine ae rfl fun _ k0 => ?_; simp only [zO, zT, acs, reduceCtorEq, V, O, Z, ad, ab, aa, Mdl.av, Mdl.cs]; (repeat refine an ?_); (try refine .inl ?_); apply k0; clear k0; simp only [zP, O])
 refine ag ?_
 apply k3; clear k3; refine kp [0, 2, 11] ?_
 refine cd (fun hc4 => ?_) (fun hc4 => ?_)
 ·(try simp only [zB, reduceCtorEq] at hc4)
  refine af fun _ k5 => ?_
  refine ah hP hN rfl ?_
  refine ae rfl fun _ k0 => ?_
  refine aC (h := au mB) rfl rfl (by first | exact rfl | (simp only [ev, zP, V, O]; exact rfl)) (by simp only [zV, acs, reduceCtorEq, V, O, Z, ad, ab, aa, Mdl.av, Mdl.cs]) ?_
  apply k0; clear k0; simp only [zP, O]
  (refine ae rfl fun _ k0 => ?_; simp only [zO, zT, acs, reduceCtorEq, V, O, Z, ad, ab, aa, Mdl.av, Mdl.cs]; (repeat refine an ?_); (try refine .inl ?_); apply k0; clear k0; simp only [zP, O])
  refine ag ?_
  apply k5; clear k5; refine kp [0, 2, 11] ?_
  refine ax ?_
  refine ⟨nr, _, rfl, ?_⟩; simp only [zF, zP, V, O, Mdl.av, Mdl.cs]
  refine VLE.of_eq ?_
  first | rfl | (rw [iB]; simp; done)
 (try simp only [zB, reduceCtorEq] at hc4)
 refine ay ?_
 apply k2; clear k2; refine kp [0, 2, 11] ?_
 refine af fun _ k6 => ?_
 refine ah hP hN rfl ?_
 (refine ae rfl fun _ k0 => ?_; simp only [zO, zT, acs, reduceCtorEq, V, O, Z, ad, ab, aa, Mdl.av, Mdl.cs]; (repeat refine an ?_); (try refine .inl ?_); apply k0; clear k0; simp only [zP, O])
 refine ae rfl fun _ k0 => ?_
 refine aC (h := au (f9 s (by omega))) rfl rfl (by first | exact rfl | (simp only [ev, zP, V, O]; exact rfl)) (by simp only [zV, acs, reduceCtorEq, V, O, Z, ad, ab, aa, Mdl.av, Mdl.cs]) ?_
 apply k0; clear k0; simp only [zP, O]
 iterate 8 (refine ae rfl fun _ k0 => ?_; simp only [zO, zT, acs, reduceCtorEq, V, O, Z, ad, ab, aa, Mdl.av, Mdl.cs]; (repeat refine an ?_); (try refine .inl ?_); apply k0; clear k0; simp only [zP, O])
 refine ag ?_
 apply k6; clear k6; refine kp [0, 2, 3, 4, 5, 11] ?_
 refine af fun _ k7 => ?_
 refine ah hP hN rfl ?_
 (refine ae rfl fun _ k0 => ?_; simp only [zO, zT, acs, reduceCtorEq, V, O, Z, ad, ab, aa, Mdl.av, Mdl.cs]; (repeat refine an ?_); (try refine .inl ?_); apply k0; clear k0; simp only [zP, O])
 refine ae rfl fun _ k0 => ?_
 refine aC (h := au (qD s (by omega))) rfl rfl (by first | exact rfl | (simp only [ev, zP, V, O]; exact rfl)) (by simp only [zV, acs, reduceCtorEq, V, O, Z, ad, ab, aa, Mdl.av, Mdl.cs]) ?_
 apply k0; clear k0; simp only [zP, O]
 iterate 8 (refine ae rfl fun _ k0 => ?_; simp only [zO, zT, acs, reduceCtorEq, V, O, Z, ad, ab, aa, Mdl.av, Mdl.cs]; (repeat refine an ?_); (try refine .inl ?_); apply k0; clear k0; simp only [zP, O])
 refine ag ?_
 apply k7; clear k7; refine kp [0, 2, 3, 4, 5, 6, 7, 8, 11] ?_
 refine af fun _ k8 => ?_
 refine ah hP hN rfl ?_
 iterate 2 (refine ae rfl fun _ k0 => ?_; simp only [zO, zT, acs, reduceCtorEq, V, O, Z, ad, ab, aa, Mdl.av, Mdl.cs]; (repeat refine an ?_); (try refine .inl ?_); apply k0; clear k0; simp only [zP, O])
 refine ae rfl fun _ k0 => ?_
 refine aC (h := au (qp (PM s).1 (PM s).1)) rfl rfl (by first | exact rfl | (simp only [ev, zP, V, O]; exact rfl)) (by simp only [zV, acs, reduceCtorEq, V, O, Z, ad, ab, aa, Mdl.av, Mdl.cs]) ?_
 apply k0; clear k0; simp only [zP, O]
 (refine ae rfl fun _ k0 => ?_; simp only [zO, zT, acs, reduceCtorEq, V, O, Z, ad, ab, aa, Mdl.av, Mdl.cs]; (repeat refine an ?_); (try refine .inl ?_); apply k0; clear k0; simp only [zP, O])
 refine' aA (want := true) 3 rfl (m := 28) (by simp only [zP, V, O]; exact rfl) (by kernel_rfl) rfl rfl rfl rfl rfl (fun hg9 => ?a9) ?b9 ?c9
 case a9 =>
  have hq9 := hg9; (try simp only [zB, reduceCtorEq] at hg9); simp only [zE]
  iterate 3 (refine aQ rfl fun _ k0 => ?_; simp only [zO, zT, acs, reduceCtorEq, V, O, Z, ad, ab, aa, Mdl.av, Mdl.cs]; (repeat refine an ?_); (try refine .inl ?_); apply k0; clear k0; simp only [zP, O])
  (refine ae rfl fun _ k0 => ?_; simp only [zO, zT, acs, reduceCtorEq, V, O, Z, ad, ab, aa, Mdl.av, Mdl.cs]; (repeat refine an ?_); (try refine .inl ?_); apply k0; clear k0; simp only [zP, O])
  refine ag ?_
  refine ⟨by simp only [zP, V, O]; exact rfl, rfl, ?_, rfl⟩; (repeat refine az rfl ?_); exact aP (by exact rfl) hq9
 case b9 => exact bf
 simp only [aK, aF]
 (refine ae rfl fun _ k0 => ?_; simp only [zO, zT, acs, reduceCtorEq, V, O, Z, ad, ab, aa, Mdl.av, Mdl.cs]; (repeat refine an ?_); (try refine .inl ?_); apply k0; clear k0; simp only [zP, O])
 refine' aA (want := true) 3 rfl (m := 33) (by simp only [zP, V, O]; exact rfl) (by kernel_rfl) rfl rfl rfl rfl rfl (fun hg10 => ?a10) ?b10 ?c10
 case a10 =>
  have hq10 := hg10; (try simp only [zB, reduceCtorEq] at hg10); simp only [zE]
  iterate 3 (refine aQ rfl fun _ k0 => ?_; simp only [zO, zT, acs, reduceCtorEq, V, O, Z, ad, ab, aa, Mdl.av, Mdl.cs]; (repeat refine an ?_); (try refine .inl ?_); apply k0; clear k0; simp only [zP, O])
  (refine ae rfl fun _ k0 => ?_; simp only [zO, zT, acs, reduceCtorEq, V, O, Z, ad, ab, aa, Mdl.av, Mdl.cs]; (repeat refine an ?_); (try refine .inl ?_); apply k0; clear k0; simp only [zP, O])
  refine ag ?_
  refine ⟨by simp only [zP, V, O]; exact rfl, rfl, ?_, rfl⟩; (repeat refine az rfl ?_); exact aP (by exact rfl) hq10
 case b10 => exact bf
 simp only [aK, aF]
 (refine ae rfl fun _ k0 => ?_; simp only [zO, zT, acs, reduceCtorEq, V, O, Z, ad, ab, aa, Mdl.av, Mdl.cs]; (repeat refine an ?_); (try refine .inl ?_); apply k0; clear k0; simp only [zP, O])
 refine' aA (want := true) 1 rfl (m := 38) (by simp only [zP, V, O]; exact rfl) (by kernel_rfl) rfl rfl rfl rfl rfl (fun hg11 => ?a11) ?b11 ?c11
 case a11 =>
  have hq11 := hg11; (try simp only [zB, reduceCtorEq] at hg11); simp only [zE]
  refine aQ rfl fun _ k0 => ?_
  refine aC (h := au mB) rfl rfl (by first | exact rfl | (simp only [ev, zP, V, O]; exact rfl)) (by simp only [zV, acs, reduceCtorEq, V, O, Z, ad, ab, aa, Mdl.av, Mdl.cs]) ?_
  apply k0; clear k0; simp only [zP, O]
  (refine ae rfl fun _ k0 => ?_; simp only [zO, zT, acs, reduceCtorEq, V, O, Z, ad, ab, aa, Mdl.av, Mdl.cs]; (repeat refine an ?_); (try refine .inl ?_); apply k0; clear k0; simp only [zP, O])
  refine ag ?_
  refine ⟨by simp only [zP, V, O]; exact rfl, rfl, ?_, rfl⟩; (repeat refine az rfl ?_); exact aP (by exact rfl) hq11
 case b11 => exact bf
 simp only [aK, aF]
 (refine ae rfl fun _ k0 => ?_; simp only [zO, zT, acs, reduceCtorEq, V, O, Z, ad, ab, aa, Mdl.av, Mdl.cs]; (repeat refine an ?_); (try refine .inl ?_); apply k0; clear k0; simp only [zP, O])
 refine ag ?_
 apply k8; clear k8; refine kp [0, 2, 3, 4, 5, 6, 7, 8, 11] ?_
 refine ax ?_
 refine ⟨nr, _, rfl, ?_⟩; simp only [zF, zP, V, O, Mdl.av, Mdl.cs]
 refine VLE.of_eq ?_
 first | rfl | (rw [iB]; simp; done)
end Go.Proofs.YtmfkpljjhiglpaaGreatDoor
