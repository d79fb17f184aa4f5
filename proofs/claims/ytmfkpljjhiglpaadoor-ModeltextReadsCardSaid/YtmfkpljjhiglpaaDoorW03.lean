/- Contracts of functions of this seat, each out of a walk through its code, and plain facts on what they compute. Conditions: those that each theorem names. -/
import Derived.Test.YtmfkpljjhiglpaaDoorW02
set_option linter.unusedSimpArgs false
set_option linter.unusedVariables false
set_option maxRecDepth 100000
namespace Go.Proofs.YtmfkpljjhiglpaaDoor
open Go Go.AV
open Nat renaming reduceEqDiff → O, reduceAdd → M, reduceLeDiff → V, reduceLT → aa, reduceMul → Z, reduceSub → Y
open List renaming set_cons_zero → bu, set_cons_succ → aX, getD_cons_zero → cJ, length_append → ah, map_cons → aS, cons_append → ak, map_nil → bo, length_cons → aj, nil_append → ar, take_succ_cons → cj, length_nil → aq, length_map → bY, length_replicate → aI, take_length → aF, mem_cons_self → aQ, mem_cons_of_mem → aC
open Int renaming toNat_natCast → aE
set_option maxHeartbeats 1000000 in
theorem qr (r : RS) (s : Bs) (hk : LOK r) (hs : s.length ≤ 900000) : cH Tryd.prog (SH 56 44 3 r) 24 [.one (.ptr 0 0 0 0), .one (.str s)] { av := .one (.int .i64 (aW r s).2), upd := fj (SH 56 44 3 r).length (SH 56 44 3 (aW r s).1), new := (SH 56 44 3 (aW r s).1).drop (SH 56 44 3 r).length, fp := List.range (SH 56 44 3 r).length } := by
 refine dn _ _ Tryd.func24 rfl (by kernel_rfl) (Nat.le_of_ble_eq_true rfl) (by intro k hk; exact List.mem_range.2 hk) (fun C hP hN hB => ?_)
 replace hB : C.bL.length = (SH 56 44 3 r).length := by rw [hB]; skip
 replace hN : C.N = 46 := hN
 simp only [aV, M]
 refine ad fun _ k1 => ?_
 refine ag hP hN rfl ?_
 (refine ab rfl fun _ k0 => ?_; simp only [zO, zT, acs, reduceCtorEq, O, M, V, aa, Z, Y, Int.toNat_one, Int.reduceToNat, Int.toNat_zero]; (repeat refine And.intro (by first | omega | assumption | exact rfl | exact ⟨by omega, hne (by assumption)⟩) ?_); (try refine .inl ?_); apply k0; clear k0; simp only [zP, M])
 refine af ?_
 apply k1; clear k1; refine kp [0, 1, 4] ?_
 refine ad fun _ k2 => ?_
 refine ag hP hN rfl ?_
 (refine ab rfl fun _ k0 => ?_; simp only [zO, zT, acs, reduceCtorEq, O, M, V, aa, Z, Y, Int.toNat_one, Int.reduceToNat, Int.toNat_zero]; (repeat refine And.intro (by first | omega | assumption | exact rfl | exact ⟨by omega, hne (by assumption)⟩) ?_); (try refine .inl ?_); apply k0; clear k0; simp only [zP, M])
 refine ab rfl fun _ k0 => ?_
 refine aw (h := am (rb s [10] (by omega))) rfl rfl (by first | exact rfl | (simp only [ev, zP, O, M]; exact rfl)) (by simp only [zV, acs, reduceCtorEq, O, M, V, aa, Z, Y, Int.toNat_one, Int.reduceToNat, Int.toNat_zero]) ?_
 apply k0; clear k0; simp only [zP, M]
 iterate 5 (refine ab rfl fun _ k0 => ?_; simp only [zO, zT, acs, reduceCtorEq, O, M, V, aa, Z, Y, Int.toNat_one, Int.reduceToNat, Int.toNat_zero]; (repeat refine And.intro (by first | omega | assumption | exact rfl | exact ⟨by omega, hne (by assumption)⟩) ?_); (try refine .inl ?_); apply k0; clear k0; simp only [zP, M])
 refine af ?_
 apply k2; clear k2; refine kp [0, 1, 4, 5, 6] ?_
 refine ad fun _ k3 => ?_
 refine ad fun _ k4 => ?_
 refine ag hP hN rfl ?_
 iterate 2 (refine ab rfl fun _ k0 => ?_; simp only [zO, zT, acs, reduceCtorEq, O, M, V, aa, Z, Y, Int.toNat_one, Int.reduceToNat, Int.toNat_zero]; (repeat refine And.intro (by first | omega | assumption | exact rfl | exact ⟨by omega, hne (by assumption)⟩) ?_); (try refine .inl ?_); apply k0; clear k0; simp only [zP, M])
 refine af ?_
 apply k4; clear k4; refine kp [0, 1, 4, 5, 6, 15] ?_
 refine cd (fun hc5 => ?_) (fun hc5 => ?_)
 ·(try simp only [zB, reduceCtorEq] at hc5)
  have hsf : du s [10] = false := by simpa using hc5
  refine ad fun _ k6 => ?_
  refine ag hP hN rfl ?_
  (refine ab rfl fun _ k0 => ?_; simp only [zO, zT, acs, reduceCtorEq, O, M, V, aa, Z, Y, Int.toNat_one, Int.reduceToNat, Int.toNat_zero]; (repeat refine And.intro (by first | omega | assumption | exact rfl | exact ⟨by omega, hne (by assumption)⟩) ?_); (try refine .inl ?_); apply k0; clear k0; simp only [zP, M])
  refine af ?_
  apply k6; clear k6; refine kp [0, 1, 4, 5, 6, 15] ?_
  refine au ?_
  refine ⟨by first | exact .inl rfl | exact .inr rfl, _, rfl, ?_⟩; simp only [zP, O, M, Int.toNat_one, Int.reduceToNat, Int.toNat_zero]
  first
  | (rw [fY hsf, aD (Nat.le_refl _)]; all_goals exact ⟨rfl, rfl⟩)
  | (rw [iV hsf hcm, aD (Nat.le_refl _)]; all_goals exact ⟨rfl, rfl⟩)
  | (rw [gg hsf hcm hin, aD (Nat.le_refl _)]; all_goals exact ⟨rfl, rfl⟩)
  | (rw [iW hsf hcm hni hr5]
     have hU := aD (L0 := SH 56 44 3 r) (L1 := SH 56 44 3 { (ba r (spB 32 (s.take (s.length - 1)))).1 with rd := (ba r (spB 32 (s.take (s.length - 1)))).1.rd + 1 }) hle
     rw [hU]; all_goals exact ⟨rfl, rfl⟩)
  | (rw [ig hsf hcm hni hr5]
     have hU := aD (L0 := SH 56 44 3 r) (L1 := SH 56 44 3 { (bI r (spB 32 (s.take (s.length - 1)))).1 with rd := (bI r (spB 32 (s.take (s.length - 1)))).1.rd + 1 }) hle
     rw [hU]; all_goals exact ⟨rfl, rfl⟩)
 (try simp only [zB, reduceCtorEq] at hc5)
 have hsf : du s [10] = true := by simpa using hc5
 refine ax ?_
 apply k3; clear k3; refine kp [0, 1, 4, 5, 6, 15] ?_
 refine ad fun _ k7 => ?_
 refine ad fun _ k8 => ?_
 rw [if_pos hsf]
 have hne : ¬ (s.take (s.length - 1)) = [] → 0 < (((s.take (s.length - 1))).length : Int) := fun e => by have := List.length_pos_iff.2 e; omega
 refine ag hP hN rfl ?_
 iterate 3 (refine ab rfl fun _ k0 => ?_; simp only [zO, zT, acs, reduceCtorEq, O, M, V, aa, Z, Y, Int.toNat_one, Int.reduceToNat, Int.toNat_zero]; (repeat refine And.intro (by first | omega | assumption | exact rfl | exact ⟨by omega, hne (by assumption)⟩) ?_); (try refine .inl ?_); apply k0; clear k0; simp only [zP, M])
 refine' ay (want := false) 3 rfl (m := 18) (by simp only [zP, O, M]; exact rfl) (by kernel_rfl) rfl rfl rfl rfl rfl (fun hg9 => ?a9) ?b9 ?c9
 case a9 =>
  have hq9 := hg9; (try simp only [zB, reduceCtorEq] at hg9); simp only [zE]
  iterate 3 (refine aO rfl fun _ k0 => ?_; simp only [zO, zT, acs, reduceCtorEq, O, M, V, aa, Z, Y, Int.toNat_one, Int.reduceToNat, Int.toNat_zero]; (repeat refine And.intro (by first | omega | assumption | exact rfl | exact ⟨by omega, hne (by assumption)⟩) ?_); (try refine .inl ?_); apply k0; clear k0; simp only [zP, M])
  (refine ab rfl fun _ k0 => ?_; simp only [zO, zT, acs, reduceCtorEq, O, M, V, aa, Z, Y, Int.toNat_one, Int.reduceToNat, Int.toNat_zero]; (repeat refine And.intro (by first | omega | assumption | exact rfl | exact ⟨by omega, hne (by assumption)⟩) ?_); (try refine .inl ?_); apply k0; clear k0; simp only [zP, M])
  refine af ?_
  refine ⟨by simp only [zP, O, M]; exact rfl, rfl, ?_, rfl⟩; (repeat refine az rfl ?_); exact aP (by exact rfl) hq9
 case b9 => exact bq
 simp only [aK, aH]
 refine af ?_
 apply k8; clear k8; refine kp [0, 1, 4, 5, 6, 15, 22] ?_
 refine cd (fun hc10 => ?_) (fun hc10 => ?_)
 ·(try simp only [zB, reduceCtorEq] at hc10)
  have hcm := hc10
  refine ad fun _ k11 => ?_
  refine ag hP hN rfl ?_
  (refine ab rfl fun _ k0 => ?_; simp only [zO, zT, acs, reduceCtorEq, O, M, V, aa, Z, Y, Int.toNat_one, Int.reduceToNat, Int.toNat_zero]; (repeat refine And.intro (by first | omega | assumption | exact rfl | exact ⟨by omega, hne (by assumption)⟩) ?_); (try refine .inl ?_); apply k0; clear k0; simp only [zP, M])
  refine af ?_
  apply k11; clear k11; refine kp [0, 1, 4, 5, 6, 15, 22] ?_
  refine au ?_
  refine ⟨by first | exact .inl rfl | exact .inr rfl, _, rfl, ?_⟩; simp only [zP, O, M, Int.toNat_one, Int.reduceToNat, Int.toNat_zero]
  first
  | (rw [fY hsf, aD (Nat.le_refl _)]; all_goals exact ⟨rfl, rfl⟩)
  | (rw [iV hsf hcm, aD (Nat.le_refl _)]; all_goals exact ⟨rfl, rfl⟩)
  | (rw [gg hsf hcm hin, aD (Nat.le_refl _)]; all_goals exact ⟨rfl, rfl⟩)
  | (rw [iW hsf hcm hni hr5]
     have hU := aD (L0 := SH 56 44 3 r) (L1 := SH 56 44 3 { (ba r (spB 32 (s.take (s.length - 1)))).1 with rd := (ba r (spB 32 (s.take (s.length - 1)))).1.rd + 1 }) hle
     rw [hU]; all_goals exact ⟨rfl, rfl⟩)
  | (rw [ig hsf hcm hni hr5]
     have hU := aD (L0 := SH 56 44 3 r) (L1 := SH 56 44 3 { (bI r (spB 32 (s.take (s.length - 1)))).1 with rd := (bI r (spB 32 (s.take (s.length - 1)))).1.rd + 1 }) hle
     rw [hU]; all_goals exact ⟨rfl, rfl⟩)
 (try simp only [zB, reduceCtorEq] at hc10)
 have hcm := hc10
 refine ax ?_
 apply k7; clear k7; refine kp [0, 1, 4, 5, 6, 15, 22] ?_
 refine ad fun _ k12 => ?_
 refine ag hP hN rfl ?_
 (refine ab rfl fun _ k0 => ?_; simp only [zO, zT, acs, reduceCtorEq, O, M, V, aa, Z, Y, Int.toNat_one, Int.reduceToNat, Int.toNat_zero]; (repeat refine And.intro (by first | omega | assumption | exact rfl | exact ⟨by omega, hne (by assumption)⟩) ?_); (try refine .inl ?_); apply k0; clear k0; simp only [zP, M])
 refine ab rfl fun _ k0 => ?_
 refine aw (h := am (qC (s.take (s.length - 1)) 32 (by rw [List.length_take]; omega))) rfl rfl (by first | exact rfl | (simp only [ev, zP, O, M]; exact rfl)) (by simp only [zV, acs, reduceCtorEq, O, M, V, aa, Z, Y, Int.toNat_one, Int.reduceToNat, Int.toNat_zero]) ?_
 apply k0; clear k0; simp only [zP, M]
 (refine ab rfl fun _ k0 => ?_; simp only [zO, zT, acs, reduceCtorEq, O, M, V, aa, Z, Y, Int.toNat_one, Int.reduceToNat, Int.toNat_zero]; (repeat refine And.intro (by first | omega | assumption | exact rfl | exact ⟨by omega, hne (by assumption)⟩) ?_); (try refine .inl ?_); apply k0; clear k0; simp only [zP, M])
 refine af ?_
 apply k12; clear k12; refine kp [0, 1, 4, 5, 6, 7, 15, 22] ?_
 refine ad fun _ k13 => ?_
 refine ad fun _ k14 => ?_
 refine ag hP hN rfl ?_
 (refine ab rfl fun _ k0 => ?_; simp only [zO, zT, acs, reduceCtorEq, O, M, V, aa, Z, Y, Int.toNat_one, Int.reduceToNat, Int.toNat_zero]; (repeat refine And.intro (by first | omega | assumption | exact rfl | exact ⟨by omega, hne (by assumption)⟩) ?_); (try refine .inl ?_); apply k0; clear k0; simp only [zP, M])
 refine ab rfl fun _ k0 => ?_
 refine aw (h := am (fA (spB 32 (s.take (s.length - 1))) [])) rfl rfl (by first | exact rfl | (simp only [ev, zP, O, M]; exact rfl)) (by simp only [zV, acs, reduceCtorEq, O, M, V, aa, Z, Y, Int.toNat_one, Int.reduceToNat, Int.toNat_zero]) ?_
 apply k0; clear k0; simp only [zP, M]
 refine af ?_
 apply k14; clear k14; refine kp [0, 1, 4, 5, 6, 7, 15, 22, 26] ?_
 refine cd (fun hc15 => ?_) (fun hc15 => ?_)
 ·(try simp only [zB, reduceCtorEq] at hc15)
  have hin := hc15
  refine ad fun _ k16 => ?_
  refine ag hP hN rfl ?_
  (refine ab rfl fun _ k0 => ?_; simp only [zO, zT, acs, reduceCtorEq, O, M, V, aa, Z, Y, Int.toNat_one, Int.reduceToNat, Int.toNat_zero]; (repeat refine And.intro (by first | omega | assumption | exact rfl | exact ⟨by omega, hne (by assumption)⟩) ?_); (try refine .inl ?_); apply k0; clear k0; simp only [zP, M])
  refine af ?_
  apply k16; clear k16; refine kp [0, 1, 4, 5, 6, 7, 15, 22, 26] ?_
  refine au ?_
  refine ⟨by first | exact .inl rfl | exact .inr rfl, _, rfl, ?_⟩; simp only [zP, O, M, Int.toNat_one, Int.reduceToNat, Int.toNat_zero]
  first
  | (rw [fY hsf, aD (Nat.le_refl _)]; all_goals exact ⟨rfl, rfl⟩)
  | (rw [iV hsf hcm, aD (Nat.le_refl _)]; all_goals exact ⟨rfl, rfl⟩)
  | (rw [gg hsf hcm hin, aD (Nat.le_refl _)]; all_goals exact ⟨rfl, rfl⟩)
  | (rw [iW hsf hcm hni hr5]
     have hU := aD (L0 := SH 56 44 3 r) (L1 := SH 56 44 3 { (ba r (spB 32 (s.take (s.length - 1)))).1 with rd := (ba r (spB 32 (s.take (s.length - 1)))).1.rd + 1 }) hle
     rw [hU]; all_goals exact ⟨rfl, rfl⟩)
  | (rw [ig hsf hcm hni hr5]
     have hU := aD (L0 := SH 56 44 3 r) (L1 := SH 56 44 3 { (bI r (spB 32 (s.take (s.length - 1)))).1 with rd := (bI r (spB 32 (s.take (s.length - 1)))).1.rd + 1 }) hle
     rw [hU]; all_goals exact ⟨rfl, rfl⟩)
 (try simp only [zB, reduceCtorEq] at hc15)
 have hni := hc15
 refine ax ?_
 apply k13; clear k13; refine kp [0, 1, 4, 5, 6, 7, 15, 22, 26] ?_
 refine ad fun _ k17 => ?_
 refine ag hP hN rfl ?_
 (refine ab rfl fun _ k0 => ?_; simp only [zO, zT, acs, reduceCtorEq, O, M, V, aa, Z, Y, Int.toNat_one, Int.reduceToNat, Int.toNat_zero]; (repeat refine And.intro (by first | omega | assumption | exact rfl | exact ⟨by omega, hne (by assumption)⟩) ?_); (try refine .inl ?_); apply k0; clear k0; simp only [zP, M])
 refine af ?_
 apply k17; clear k17; refine kp [0, 1, 4, 5, 6, 7, 8, 15, 22, 26] ?_
 refine ad fun _ k18 => ?_
 refine ad fun _ k19 => ?_
 have hwl : (spB 32 (s.take (s.length - 1))).length ≤ 1000000 := by have := qy 32 (s.take (s.length - 1)); rw [List.length_take] at this; omega
 refine ag hP hN rfl ?_
 iterate 5 (refine ab rfl fun _ k0 => ?_; simp only [zO, zT, acs, reduceCtorEq, O, M, V, aa, Z, Y, Int.toNat_one, Int.reduceToNat, Int.toNat_zero, mb, rdC]; (repeat refine And.intro (by first | omega | assumption | exact rfl | exact ⟨by omega, hne (by assumption)⟩) ?_); (try refine .inl ?_); apply k0; clear k0; simp only [zP, M])
 refine af ?_
 apply k19; clear k19; refine kp [0, 1, 4, 5, 6, 7, 8, 15, 22, 26, 31] ?_
 refine cd (fun hc20 => ?_) (fun hc20 => ?_)
 ·(try simp only [zB, reduceCtorEq] at hc20)
  have hr5 := hc20
  have hle := qm (R := 56) (S := 44) (I := 3) (r := r) (fun e => (hk.h3 e).1) (spB 32 (s.take (s.length - 1)))
  have hA := aD hle
  have hS := sD 56 44 3 (ba r (spB 32 (s.take (s.length - 1)))).1
  have hrd : (ba r (spB 32 (s.take (s.length - 1)))).1.rd = r.rd := mB
  have hrl := hk.rl
  refine ag hP hN rfl ?_
  iterate 2 (refine ab rfl fun _ k0 => ?_; simp only [zO, zT, acs, reduceCtorEq, O, M, V, aa, Z, Y, Int.toNat_one, Int.reduceToNat, Int.toNat_zero]; (repeat refine And.intro (by first | omega | assumption | exact rfl | exact ⟨by omega, hne (by assumption)⟩) ?_); (try refine .inl ?_); apply k0; clear k0; simp only [zP, M, hA])
  refine ab rfl fun _ k0 => ?_
  refine aw (h := tn r (spB 32 (s.take (s.length - 1))) hwl (kZ ..) (by omega) hk) rfl rfl (by first | exact rfl | (simp only [ev, zP, O, M]; exact rfl)) (by simp only [zV, acs, reduceCtorEq, O, M, V, aa, Z, Y, Int.toNat_one, Int.reduceToNat, Int.toNat_zero]) ?_
  apply k0; clear k0; simp only [zP, M, hA]
  (refine ab rfl fun _ k0 => ?_; simp only [zO, zT, acs, reduceCtorEq, O, M, V, aa, Z, Y, Int.toNat_one, Int.reduceToNat, Int.toNat_zero]; (repeat refine And.intro (by first | omega | assumption | exact rfl | exact ⟨by omega, hne (by assumption)⟩) ?_); (try refine .inl ?_); apply k0; clear k0; simp only [zP, M, hA])
  refine af ?_
  apply k18; clear k18; refine kp [0, 1, 4, 5, 6, 7, 8, 15, 22, 26, 31] ?_
  refine ad fun _ k21 => ?_
  refine ag hP hN rfl ?_
  iterate 8 (refine ab rfl fun _ k0 => ?_; simp only [zO, zT, acs, reduceCtorEq, O, M, V, aa, Z, Y, Int.toNat_one, Int.reduceToNat, Int.toNat_zero, mb, rdC]; (repeat refine And.intro (by first | omega | assumption | exact rfl | exact ⟨by omega, hne (by assumption)⟩) ?_); (try refine .inl ?_); apply k0; clear k0; simp only [zP, M, hS])
  refine af ?_
  apply k21; clear k21; refine kp [0, 1, 4, 5, 6, 7, 8, 15, 22, 26, 31] ?_
  refine ad fun _ k22 => ?_
  refine ag hP hN rfl ?_
  iterate 2 (refine ab rfl fun _ k0 => ?_; simp only [zO, zT, acs, reduceCtorEq, O, M, V, aa, Z, Y, Int.toNat_one, Int.reduceToNat, Int.toNat_zero]; (repeat refine And.intro (by first | omega | assumption | exact rfl | exact ⟨by omega, hne (by assumption)⟩) ?_); (try refine .inl ?_); apply k0; clear k0; simp only [zP, M])
  refine af ?_
  apply k22; clear k22; refine kp [0, 1, 4, 5, 6, 7, 8, 15, 22, 26, 31] ?_
  refine au ?_
  refine ⟨by first | exact .inl rfl | exact .inr rfl, _, rfl, ?_⟩; simp only [zP, O, M, Int.toNat_one, Int.reduceToNat, Int.toNat_zero]
  first
  | (rw [fY hsf, aD (Nat.le_refl _)]; all_goals exact ⟨rfl, rfl⟩)
  | (rw [iV hsf hcm, aD (Nat.le_refl _)]; all_goals exact ⟨rfl, rfl⟩)
  | (rw [gg hsf hcm hin, aD (Nat.le_refl _)]; all_goals exact ⟨rfl, rfl⟩)
  | (rw [iW hsf hcm hni hr5]
     have hU := aD (L0 := SH 56 44 3 r) (L1 := SH 56 44 3 { (ba r (spB 32 (s.take (s.length - 1)))).1 with rd := (ba r (spB 32 (s.take (s.length - 1)))).1.rd + 1 }) hle
     rw [hU]; all_goals exact ⟨rfl, rfl⟩)
  | (rw [ig hsf hcm hni hr5]
     have hU := aD (L0 := SH 56 44 3 r) (L1 := SH 56 44 3 { (bI r (spB 32 (s.take (s.length - 1)))).1 with rd := (bI r (spB 32 (s.take (s.length - 1)))).1.rd + 1 }) hle
     rw [hU]; all_goals exact ⟨rfl, rfl⟩)
 (try simp only [zB, reduceCtorEq] at hc20)
 have hr5 := hc20
 have hle := qe (R := 56) (S := 44) (I := 3) (r := r) (hk.h5 (by omega)).1 (spB 32 (s.take (s.length - 1)))
 have hA := aD hle
 have hS := sD 56 44 3 (bI r (spB 32 (s.take (s.length - 1)))).1
 have hrd : (bI r (spB 32 (s.take (s.length - 1)))).1.rd = r.rd := ow
 have hrl := hk.rl
 refine ag hP hN rfl ?_
 iterate 2 (refine ab rfl fun _ k0 => ?_; simp only [zO, zT, acs, reduceCtorEq, O, M, V, aa, Z, Y, Int.toNat_one, Int.reduceToNat, Int.toNat_zero]; (repeat refine And.intro (by first | omega | assumption | exact rfl | exact ⟨by omega, hne (by assumption)⟩) ?_); (try refine .inl ?_); apply k0; clear k0; simp only [zP, M, hA])
 refine ab rfl fun _ k0 => ?_
 refine aw (h := uA r (spB 32 (s.take (s.length - 1))) hwl (by omega) hk) rfl rfl (by first | exact rfl | (simp only [ev, zP, O, M]; exact rfl)) (by simp only [zV, acs, reduceCtorEq, O, M, V, aa, Z, Y, Int.toNat_one, Int.reduceToNat, Int.toNat_zero]) ?_
 apply k0; clear k0; simp only [zP, M, hA]
 (refine ab rfl fun _ k0 => ?_; simp only [zO, zT, acs, reduceCtorEq, O, M, V, aa, Z, Y, Int.toNat_one, Int.reduceToNat, Int.toNat_zero]; (repeat refine And.intro (by first | omega | assumption | exact rfl | exact ⟨by omega, hne (by assumption)⟩) ?_); (try refine .inl ?_); apply k0; clear k0; simp only [zP, M, hA])
 refine af ?_
 apply k18; clear k18; refine kp [0, 1, 4, 5, 6, 7, 8, 15, 22, 26, 31] ?_
 refine ad fun _ k23 => ?_
 refine ag hP hN rfl ?_
 iterate 8 (refine ab rfl fun _ k0 => ?_; simp only [zO, zT, acs, reduceCtorEq, O, M, V, aa, Z, Y, Int.toNat_one, Int.reduceToNat, Int.toNat_zero, mb, rdC]; (repeat refine And.intro (by first | omega | assumption | exact rfl | exact ⟨by omega, hne (by assumption)⟩) ?_); (try refine .inl ?_); apply k0; clear k0; simp only [zP, M, hS])
 refine af ?_
 apply k23; clear k23; refine kp [0, 1, 4, 5, 6, 7, 8, 15, 22, 26, 31] ?_
 refine ad fun _ k24 => ?_
 refine ag hP hN rfl ?_
 iterate 2 (refine ab rfl fun _ k0 => ?_; simp only [zO, zT, acs, reduceCtorEq, O, M, V, aa, Z, Y, Int.toNat_one, Int.reduceToNat, Int.toNat_zero]; (repeat refine And.intro (by first | omega | assumption | exact rfl | exact ⟨by omega, hne (by assumption)⟩) ?_); (try refine .inl ?_); apply k0; clear k0; simp only [zP, M])
 refine af ?_
 apply k24; clear k24; refine kp [0, 1, 4, 5, 6, 7, 8, 15, 22, 26, 31] ?_
 refine au ?_
 refine ⟨by first | exact .inl rfl | exact .inr rfl, _, rfl, ?_⟩; simp only [zP, O, M, Int.toNat_one, Int.reduceToNat, Int.toNat_zero]
 first
 | (rw [fY hsf, aD (Nat.le_refl _)]; all_goals exact ⟨rfl, rfl⟩)
 | (rw [iV hsf hcm, aD (Nat.le_refl _)]; all_goals exact ⟨rfl, rfl⟩)
 | (rw [gg hsf hcm hin, aD (Nat.le_refl _)]; all_goals exact ⟨rfl, rfl⟩)
 | (rw [iW hsf hcm hni hr5]
    have hU := aD (L0 := SH 56 44 3 r) (L1 := SH 56 44 3 { (ba r (spB 32 (s.take (s.length - 1)))).1 with rd := (ba r (spB 32 (s.take (s.length - 1)))).1.rd + 1 }) hle
    rw [hU]; all_goals exact ⟨rfl, rfl⟩)
 | (rw [ig hsf hcm hni hr5]
    have hU := aD (L0 := SH 56 44 3 r) (L1 := SH 56 44 3 { (bI r (spB 32 (s.take (s.length - 1)))).1 with rd := (bI r (spB 32 (s.take (s.length - 1)))).1.rd + 1 }) hle
    rw [hU]; all_goals exact ⟨rfl, rfl⟩)
section
open Go.RowKit
def XP (N b : Nat) : Prop := b ≤ N + 8 ∧ b ≠ N + 3
structure Chg (j : Nat) (W W' : World) : Prop where
  size : W.heap.size ≤ W'.heap.size
  same : ∀ b, b ≠ j → b < W.heap.size → W'.heap[b]? = W.heap[b]?
  os : W'.os = W.os
  tape : W'.tape = W.tape
  output : W'.output = W.output
theorem iO (W : World) (j : Nat) (o : Obj) : Chg j W (W.putObj j o) := ⟨by simp, fun b hb _ => World.putObj_heap_other hb, rfl, rfl, rfl⟩
theorem dY (W : World) (j : Nat) (v : Value) : Chg j W (W.setCell ⟨j, 0, none⟩ v) := by
  have h := (Below.refl j W).setCell (p := ⟨j, 0, none⟩) (Nat.le_refl _) v
  exact ⟨h.size, fun b hb _ => Below.heap_setCell W ⟨j, 0, none⟩ v b hb, h.os, h.tape, h.output⟩
theorem Chg.boxed {j B : Nat} {W W' : World} {t : TypeId} {v : Value} (h : Chg j W W') (hb : Boxed W B t v) (hne : B ≠ j) : Boxed W' B t v := (h.same B hne hb.lt).trans hb
theorem Chg.below {j B : Nat} {w W W' : World} (h : Chg j W W') (hb : Below B w W) (hB : B ≤ w.heap.size) (hj : B ≤ j) : Below B w W' :=
  ⟨h.os.trans hb.os, h.tape.trans hb.tape, h.output.trans hb.output, Nat.le_trans hb.size h.size, fun k hk => (h.same k (by omega) (by have := hb.size; omega)).trans (hb.block k hk)⟩
def zmC : Array Value := #[.string ⟨#[]⟩, .slice none 0 0, .slice none 0 0, .int .i64 0, .int .i64 0, .slice none 0 0, .slice none 0 0]
structure PS (w : World) (last : Int) (W : World) : Prop where
  bl : Below w.heap.size w W
  b2 : W.heap[w.heap.size]? = some (.cells zmC 29 (0, 0))
  b3 : Boxed W (w.heap.size + 1) 3 (.int .i64 0)
  b4 : Boxed W (w.heap.size + 2) 32 (.int .i64 0)
  b5 : Boxed W (w.heap.size + 4) 54 (.pointer (some ⟨w.heap.size + 3, 0, none⟩))
  b6 : Boxed W (w.heap.size + 5) 3 (.int .i64 last)
  sz : w.heap.size + 8 < W.heap.size
def HS (N : Nat) (r : RS) (W : World) : Prop := ∃ σ, jD Tryd.prog (XP N) (SH 56 44 3 r) σ W ∧ RC (dH Tryd.prog (XP N) W) (SH 56 44 3 r) σ W (.ptr 0 0 0 0) (.pointer (some ⟨N + 3, 0, none⟩))
theorem nE {w W W' : World} {last : Int} {j : Nat} (h : PS w last W) (hc : Chg j W W') (hj : w.heap.size + 5 < j) : PS w last W' :=
  ⟨hc.below h.bl (Nat.le_refl _) (by omega), (hc.same _ (by omega) (by have := h.sz; omega)).trans h.b2, hc.boxed h.b3 (by omega), hc.boxed h.b4 (by omega), hc.boxed h.b5 (by omega), hc.boxed h.b6 (by omega), Nat.lt_of_lt_of_le h.sz hc.size⟩
theorem kg {N : Nat} {W W' : World} {r : RS} {j : Nat} (h : HS N r W) (hc : Chg j W W') (hj : XP N j) (hz : N + 8 < W.heap.size) : HS N r W' := by
  obtain ⟨σ, h1, h2⟩ := h
  obtain ⟨g1, g2⟩ := rI (X' := XP N) h1 hc.size (fun b hb hx => hc.same b (fun e => hx (e ▸ hj)) hb) (fun b hb _ => hb) (fun b hb => by have := hc.size; have := hb.1; omega)
  exact ⟨σ, g1, g2 _ _ h2⟩
def IPs (s : Bs) (w : World) (k : Nat) (W : World) : Prop := PS w (k : Int) W ∧ Boxed W (w.heap.size + 6) 9 (.string ⟨(aN s k).toArray⟩) ∧ HS w.heap.size (bK s k) W ∧ OKR s k
def IYs (s : Bs) (w : World) (k : Nat) (W : World) : Prop := PS w ((k + 1 : Nat) : Int) W ∧ Boxed W (w.heap.size + 6) 9 (.string ⟨(aN s k).toArray⟩) ∧ HS w.heap.size (bK s (k + 1)) W ∧ OKR s (k + 1)
structure IXs (s : Bs) (w : World) (k : Nat) (W : World) : Prop where
  bl : Below w.heap.size w W
  b2 : W.heap[w.heap.size]? = some (.cells zmC 29 (0, 0))
  b3 : Boxed W (w.heap.size + 1) 3 (.int .i64 ((k : Int) + 1))
  b4 : Boxed W (w.heap.size + 2) 32 (.int .i64 (aW (bK s k) (bV s k)).2)
  e0 : ¬ (aW (bK s k) (bV s k)).2 = 0
  ok : OKR s k
theorem sv {s : Bs} {w W : World} {k : Nat} {o : Obj} (h : IPs s w k W) : IPs s w k (W.putObj (w.heap.size + 8) o) := by
  obtain ⟨h1, h2, h3, h4⟩ := h
  have hc := iO W (w.heap.size + 8) o
  exact ⟨nE h1 hc (by omega), hc.boxed h2 (by omega), kg h3 hc ⟨Nat.le_refl _, by omega⟩ h1.sz, h4⟩
theorem sQ {s : Bs} {w W : World} {k : Nat} {o : Obj} (h : IYs s w k W) : IYs s w k (W.putObj (w.heap.size + 8) o) := by
  obtain ⟨h1, h2, h3, h4⟩ := h
  have hc := iO W (w.heap.size + 8) o
  exact ⟨nE h1 hc (by omega), hc.boxed h2 (by omega), kg h3 hc ⟨Nat.le_refl _, by omega⟩ h1.sz, h4⟩
theorem sq {s : Bs} {w W : World} {k : Nat} {o : Obj} (h : IXs s w k W) (hz : w.heap.size + 8 < W.heap.size) : IXs s w k (W.putObj (w.heap.size + 8) o) := by
  have hc := iO W (w.heap.size + 8) o
  exact ⟨hc.below h.bl (Nat.le_refl _) (by omega), (hc.same _ (by omega) (by omega)).trans h.b2, hc.boxed h.b3 (by omega), hc.boxed h.b4 (by omega), h.e0, h.ok⟩
theorem rr {s : Bs} {w W : World} {k : Nat} (h : IYs s w k W) : IPs s w (k + 1) (W.setCell ⟨w.heap.size + 6, 0, none⟩ (.string ⟨(aN s (k + 1)).toArray⟩)) := by
  obtain ⟨h1, h2, h3, h4⟩ := h
  have hc := dY W (w.heap.size + 6) (.string ⟨(aN s (k + 1)).toArray⟩)
  exact ⟨nE h1 hc (by omega), h2.set _, kg h3 hc ⟨by omega, by omega⟩ h1.sz, h4⟩
def LQ (s : Bs) (w : World) (k : Nat) (e : Ending) (W : World) : Prop :=
  e = .returned (.int .i64 (aW (bK s k) (bV s k)).2) ∧ PS w (k : Int) W ∧ Boxed W (w.heap.size + 6) 9 (.string ⟨(aN s k).toArray⟩) ∧ HS w.heap.size (bK s (k + 1)) W
theorem tX (r r' : RS) (v : AV) (hle : (SH 56 44 3 r).length ≤ (SH 56 44 3 r').length) : app (SH 56 44 3 r) { av := v, upd := fj (SH 56 44 3 r).length (SH 56 44 3 r'), new := (SH 56 44 3 r').drop (SH 56 44 3 r).length, fp := List.range (SH 56 44 3 r).length } = SH 56 44 3 r' := aD hle
theorem oF {s : Bs} {w W : World} {k : Nat} (hs : s.length ≤ 900000) (h : IPs s w k W) (hne : aN s k ≠ []) :
    Calls Tryd.prog 24 #[.pointer (some ⟨w.heap.size + 3, 0, none⟩), .string ⟨(bV s k).toArray⟩] W fun e W' => LQ s w k e W' ∧ W'.heap[w.heap.size + 7]? = W.heap[w.heap.size + 7]? ∧ W'.heap[w.heap.size + 8]? = W.heap[w.heap.size + 8]? := by
  obtain ⟨h1, h2, ⟨σ, h3, h4⟩, h5⟩ := h
  obtain ⟨r1, r2, r3⟩ := km (by omega : s.length ≤ 1048576) h5
  have hlk := t0 r1 (by omega)
  have hll : (bV s k).length ≤ 900000 := by unfold bV; have := ov s k; rw [List.length_take]; omega
  refine (pM (qr (bK s k) (bV s k) hlk hll) h3 (vs := [.pointer (some ⟨w.heap.size + 3, 0, none⟩), .string ⟨(bV s k).toArray⟩]) ⟨h4, ⟨rfl, rfl⟩, trivial⟩).mono fun e W' hh => ?_
  obtain ⟨v, σ', he, g1, g2, g3, g4⟩ := hh
  rw [tX _ _ _ (ui hlk _)] at g1 g2 g4
  have hv : v = .int .i64 (aW (bK s k) (bV s k)).2 := g2.2
  subst hv
  have hsame : ∀ b, XP w.heap.size b → W'.heap[b]? = W.heap[b]? := g3.same
  have hbx : ∀ {B : Nat} {t : TypeId} {v : Value}, XP w.heap.size B → Boxed W B t v → Boxed W' B t v := fun hB hb => (hsame _ hB).trans hb
  have hz := h1.sz
  refine ⟨⟨he, ⟨⟨g3.os.trans h1.bl.os, g3.tape.trans h1.bl.tape, g3.output.trans h1.bl.output, Nat.le_trans h1.bl.size g3.size, fun b hb => (hsame b ⟨by omega, by omega⟩).trans (h1.bl.block b hb)⟩, (hsame _ ⟨by omega, by omega⟩).trans h1.b2, hbx ⟨by omega, by omega⟩ h1.b3, hbx ⟨by omega, by omega⟩ h1.b4, hbx ⟨by omega, by omega⟩ h1.b5, hbx ⟨by omega, by omega⟩ h1.b6, Nat.lt_of_lt_of_le hz g3.size⟩,
    hbx ⟨by omega, by omega⟩ h2, ⟨σ', g1, g4 _ _ h4⟩⟩, hsame _ ⟨by omega, by omega⟩, hsame _ ⟨by omega, by omega⟩⟩
theorem jF : ∀ (os : List Obj) (w : World) (k : Nat), k < w.heap.size → (os.foldl (fun W o => W.alloc o) w).heap[k]? = w.heap[k]?
  | [], _, _, _ => rfl
  | o :: os, w, k, h => (jF os (w.alloc o) k (by simp; omega)).trans (Below.heap_alloc w o k h)
theorem jv : ∀ (os : List Obj) (w : World) (i : Nat), i < os.length → (os.foldl (fun W o => W.alloc o) w).heap[w.heap.size + i]? = os[i]?
  | o :: os, w, 0, _ => (jF os (w.alloc o) w.heap.size (by simp)).trans (World.alloc_heap_new w o)
  | o :: os, w, i + 1, h => by
    have := jv os (w.alloc o) i (by simpa using h)
    rw [World.size_alloc, show w.heap.size + 1 + i = w.heap.size + (i + 1) by omega] at this
    exact this
theorem fC : ∀ (os : List Obj) (w : World), (os.foldl (fun W o => W.alloc o) w).heap.size = w.heap.size + os.length
  | [], _ => rfl
  | o :: os, w => by
    have := fC os (w.alloc o)
    rw [World.size_alloc] at this
    simp only [List.foldl_cons, aj]; omega
theorem gT : ∀ (os : List Obj) (w : World), Below w.heap.size w (os.foldl (fun W o => W.alloc o) w)
  | [], w => Below.refl _ w
  | o :: os, w => ((Below.refl _ w).alloc (Nat.le_refl _) o).trans ((gT os (w.alloc o)).mono (by simp))
def rdZ : List Value := [.string ⟨#[]⟩, .slice none 0 0, .slice none 0 0, .int .i64 0, .int .i64 0, .slice none 0 0, .slice none 0 0, .slice none 0 0, .int .i64 0, .int .i64 0]
theorem qN {N : Nat} {W : World} (hb : W.heap[N + 3]? = some (.cells rdZ.toArray 56 (0, 0))) (hz : N + 8 < W.heap.size) : HS N rs0 W := by
  refine ⟨fun _ => .pointer (some ⟨N + 3, 0, none⟩), ⟨fun o ob e => ?_, fun o o' b h h' => ?_, fun o b h => ?_, fun b h => h.elim, fun b h => by have := h.1; show b < W.heap.size; omega, Nat.le_refl _, rfl, rfl, rfl⟩, rfl, _, mb _ _ _ _, Nat.le_refl _, fun _ _ => ⟨_, rfl, rfl⟩⟩
  · have h0 : o = 0 ∧ ob = .vars 56 (rdC rs0 .nils .nils) := by
      cases o with
      | zero => exact ⟨rfl, (Option.some.inj e).symm⟩
      | succ o => cases e
    obtain ⟨rfl, rfl⟩ := h0
    refine ⟨N + 3, rdZ, rfl, hb, ?_⟩
    exact ⟨⟨rfl, rfl⟩, ⟨rfl, bU _⟩, ⟨rfl, bU _⟩, ⟨rfl, rfl⟩, ⟨rfl, rfl⟩, ⟨rfl, rfl⟩, ⟨rfl, rfl⟩, ⟨rfl, bU _⟩, ⟨rfl, rfl⟩, ⟨rfl, rfl⟩, trivial⟩
  · obtain ⟨ob, e, _, _⟩ := h
    obtain ⟨ob', e', _, _⟩ := h'
    have q : ∀ {o ob}, (SH 56 44 3 rs0)[o]? = some ob → o = 0 := fun {o ob} e => by
      cases o with
      | zero => rfl
      | succ o => cases e
    rw [q e, q e']
  · obtain ⟨ob, _, _, e⟩ := h
    have e2 : some (N + 3) = some b := e
    cases e2
    exact ⟨fun h => h, fun h => h.2 rfl⟩
def iE (s : Bs) (N : Nat) : List Obj := [.cells zmC 29, .cells #[.int .i64 0] 3, .cells #[.int .i64 0] 32, .cells rdZ.toArray 56, .cells #[.pointer (some ⟨N + 3, 0, none⟩)] 54, .cells #[.int .i64 0] 3, .cells #[.string ⟨s.toArray⟩] 9]
theorem pd (s : Bs) (w : World) (d l : Obj) : IPs s w 0 ((((iE s w.heap.size).foldl (fun W o => W.alloc o) w).alloc d).alloc l) := by
  have e : (((iE s w.heap.size).foldl (fun W o => W.alloc o) w).alloc d).alloc l = (iE s w.heap.size ++ [d, l]).foldl (fun W o => W.alloc o) w := by rw [List.foldl_append]; rfl
  rw [e]
  have hg := fun i hi => jv (iE s w.heap.size ++ [d, l]) w i hi
  have hz := fC (iE s w.heap.size ++ [d, l]) w
  have hl : (iE s w.heap.size ++ [d, l]).length = 9 := rfl
  rw [hl] at hz hg
  exact ⟨⟨gT _ w, hg 0 (by decide), hg 1 (by decide), hg 2 (by decide), hg 4 (by decide), hg 5 (by decide), by omega⟩, hg 6 (by decide), qN (hg 3 (by decide)) (by omega), fun j hj => by omega⟩
theorem gK {F : Fence} {n : Nat} {P : Program} {ops : Array Oper} {rest : List Oper} {o : Oper} {a : Act} {w : World} {Q : Go.Exit → Act → World → Prop} (hgd : o.guard = none) (ty : TypeId) (x y : Operand) (ho : o.op = .store ty x y)
    (g : Nat) (cells : Array Value) (hx : a.eval x = .pointer (some ⟨g, 0, none⟩)) (hy : a.eval y = .agg cells)
    (t : TypeId) (old : Array Value) (hg : w.heap[g]? = some (.cells old t (0, 0))) (hi : (P.info? ty).map (·.size) = some cells.size)
    (hold : old.size = cells.size) (h1 : cells.all (·.oneCell') = true)
    (h : wpListIn F n P ops Q rest (a.put o.dst undef) (w.setRow g cells)) : wpListIn F n P ops Q (o :: rest) a w := by
  refine wpListIn_plain hgd fun K hK' => ?_
  unfold Oper.wpIn
  refine ⟨?_, ?_⟩
  · simp [Oper.about, ho]
  · rw [Oper.semAt_plain F _ _ (by rw [ho]; intro c hc'; cases hc')]
    unfold execOp
    simp only [ho, hx, hy, Instr.storeAt, Instr.sureAddr, Sem.run_bind, Sem.run_pure, Result.andThen_ok, run_storeVar_row w g t ty old cells hg hi hold h1]
    exact hK' _ _ h
theorem o0 (W : World) (N : Nat) (cs : Array Value) : Chg N W (W.setRow N cs) := ⟨by simp [World.setRow], fun b hb _ => setRow_other W N b cs hb, rfl, rfl, rfl⟩
theorem gQ {F : Fence} {n : Nat} {P : Program} {ops : Array Oper} {rest : List Oper} {o : Oper} {a : Act} {w : World} {Q : Go.Exit → Act → World → Prop} (hgd : o.guard = none) (ty : TypeId) (x y : Operand) (ho : o.op = .store ty x y)
    (g : Nat) (cells : Array Value) (hx : a.eval x = .pointer (some ⟨g, 0, none⟩)) (hy : a.eval y = .agg cells)
    (t : TypeId) (old : Array Value) (hg : w.heap[g]? = some (.cells old t (0, 0))) (hi : (P.info? ty).map (·.size) = some cells.size)
    (hold : old.size = cells.size) (h1 : cells.all (·.oneCell') = true) {t3 t4 : TypeId} {v3 v4 : Value} (b3 : Boxed w (g + 1) t3 v3) (b4 : Boxed w (g + 2) t4 v4)
    (h : ∀ W', (Chg g w W' ∧ W'.heap[g]? = some (.cells cells t (0, 0)) ∧ Boxed W' (g + 1) t3 v3 ∧ Boxed W' (g + 2) t4 v4) ∧ W'.cell? ⟨g + 1, 0, none⟩ = some v3 ∧ W'.frozen? ⟨g + 1, 0, none⟩ = false ∧ W'.cell? ⟨g + 1 + 1, 0, none⟩ = some v4 ∧ W'.frozen? ⟨g + 1 + 1, 0, none⟩ = false → wpListIn F n P ops Q rest (a.put o.dst undef) W') : wpListIn F n P ops Q (o :: rest) a w := by
  refine gK hgd ty x y ho g cells hx hy t old hg hi hold h1 (h _ ?_)
  have hc := o0 w g cells
  have c3 := hc.boxed b3 (by omega)
  have c4 := hc.boxed b4 (by omega)
  exact ⟨⟨hc, setRow_heap w g _ _ t _ hg, c3, c4⟩, c3.cell, c3.frozen, c4.cell, c4.frozen⟩
theorem zm1 : zmC.all (·.oneCell') = true := by simp [zmC, Value.oneCell']
theorem tW {s : Bs} {w W W2 : World} {k : Nat} (hp : PS w (k : Int) W2) (hbx : Boxed W2 (w.heap.size + 6) 9 (.string ⟨(aN s k).toArray⟩)) (hhs : HS w.heap.size (bK s (k + 1)) W2) (hok : OKR s k) (hne : aN s k ≠ []) (he : (aW (bK s k) (bV s k)).2 = 0)
    (hd : W2.heap[w.heap.size + 7]? = W.heap[w.heap.size + 7]?) (hl : W2.heap[w.heap.size + 8]? = W.heap[w.heap.size + 8]?) :
    ((W2.setCell ⟨w.heap.size + 5, 0, none⟩ (.int .i64 ((k : Int) + 1))).heap[w.heap.size + 7]? = W.heap[w.heap.size + 7]? ∧ (W2.setCell ⟨w.heap.size + 5, 0, none⟩ (.int .i64 ((k : Int) + 1))).heap[w.heap.size + 7 + 1]? = W.heap[w.heap.size + 7 + 1]?) ∧
      IYs s w k (W2.setCell ⟨w.heap.size + 5, 0, none⟩ (.int .i64 ((k : Int) + 1))) := by
  have hc := dY W2 (w.heap.size + 5) (.int .i64 ((k : Int) + 1))
  have hz := hp.sz
  refine ⟨⟨(hc.same _ (by omega) (by omega)).trans hd, (hc.same _ (by omega) (by omega)).trans hl⟩, ⟨hc.below hp.bl (Nat.le_refl _) (by omega), (hc.same _ (by omega) (by omega)).trans hp.b2, hc.boxed hp.b3 (by omega), hc.boxed hp.b4 (by omega), hc.boxed hp.b5 (by omega), hp.b6.set _, Nat.lt_of_lt_of_le hz hc.size⟩,
    hc.boxed hbx (by omega), kg hhs hc ⟨by omega, by omega⟩ hz, rz hok hne he⟩
theorem tz {s : Bs} {w W W2 W3 : World} {k : Nat} (hp : PS w (k : Int) W2) (hok : OKR s k) (he : ¬ (aW (bK s k) (bV s k)).2 = 0)
    (hd : W2.heap[w.heap.size + 7]? = W.heap[w.heap.size + 7]?) (hl : W2.heap[w.heap.size + 8]? = W.heap[w.heap.size + 8]?)
    (h3 : Chg w.heap.size W2 W3 ∧ W3.heap[w.heap.size]? = some (.cells zmC 29 (0, 0)) ∧ Boxed W3 (w.heap.size + 1) 3 (.int .i64 0) ∧ Boxed W3 (w.heap.size + 2) 32 (.int .i64 0)) :
    (((W3.setCell ⟨w.heap.size + 1, 0, none⟩ (.int .i64 ((k : Int) + 1))).setCell ⟨w.heap.size + 1 + 1, 0, none⟩ (.int .i64 (aW (bK s k) (bV s k)).2)).heap[w.heap.size + 7]? = W.heap[w.heap.size + 7]? ∧
      ((W3.setCell ⟨w.heap.size + 1, 0, none⟩ (.int .i64 ((k : Int) + 1))).setCell ⟨w.heap.size + 1 + 1, 0, none⟩ (.int .i64 (aW (bK s k) (bV s k)).2)).heap[w.heap.size + 7 + 1]? = W.heap[w.heap.size + 7 + 1]?) ∧
      IXs s w k ((W3.setCell ⟨w.heap.size + 1, 0, none⟩ (.int .i64 ((k : Int) + 1))).setCell ⟨w.heap.size + 1 + 1, 0, none⟩ (.int .i64 (aW (bK s k) (bV s k)).2)) := by
  obtain ⟨hc, h4, h5, h6⟩ := h3
  have hc1 := dY W3 (w.heap.size + 1) (.int .i64 ((k : Int) + 1))
  have hc2 := dY (W3.setCell ⟨w.heap.size + 1, 0, none⟩ (.int .i64 ((k : Int) + 1))) (w.heap.size + 1 + 1) (.int .i64 (aW (bK s k) (bV s k)).2)
  have hz := hp.sz
  have s3 := hc.size
  have s4 := hc1.size
  have hall : ∀ b, b ≠ w.heap.size → b ≠ w.heap.size + 1 → b ≠ w.heap.size + 1 + 1 → b < W2.heap.size → ((W3.setCell ⟨w.heap.size + 1, 0, none⟩ (.int .i64 ((k : Int) + 1))).setCell ⟨w.heap.size + 1 + 1, 0, none⟩ (.int .i64 (aW (bK s k) (bV s k)).2)).heap[b]? = W2.heap[b]? :=
    fun b q1 q2 q3 q4 => (hc2.same b q3 (by omega)).trans ((hc1.same b q2 (by omega)).trans (hc.same b q1 q4))
  refine ⟨⟨(hall _ (by omega) (by omega) (by omega) (by omega)).trans hd, (hall _ (by omega) (by omega) (by omega) (by omega)).trans hl⟩, ?_, ?_, ?_, ?_, he, hok⟩
  · exact hc2.below (hc1.below (hc.below hp.bl (Nat.le_refl _) (Nat.le_refl _)) (Nat.le_refl _) (by omega)) (Nat.le_refl _) (by omega)
  · exact (hc2.same _ (by omega) (by omega)).trans ((hc1.same _ (by omega) (by omega)).trans h4)
  · exact hc2.boxed (h5.set _) (by omega)
  · exact Boxed.set (B := w.heap.size + 1 + 1) _ (hc1.boxed h6 (by omega))
theorem qP {N : Nat} {r : RS} {W : World} (h : HS N r W) : ∃ v1 v2 v5 v6 v7, W.heap[N + 3]? = some (.cells #[.string ⟨r.nm.toArray⟩, v1, v2, .int .i64 r.inp, .int .i64 r.st, v5, v6, v7, .int .i64 (r.rd : Int), .int .i64 r.lf] 56 (0, 0)) ∧
    (v1.oneCell' = true ∧ v2.oneCell' = true ∧ v5.oneCell' = true ∧ v6.oneCell' = true) ∧
    (r.tb = true → Dat (XP N) W (.list .str) r.ins [v1] ∧ Dat (XP N) W (.list .str) r.outs [v2] ∧ Dat (XP N) W (.list (.list (.int .i64))) r.nx [v5] ∧ Dat (XP N) W (.list (.list (.int .i64))) r.ot [v6]) := by
  obtain ⟨σ, h1, h2⟩ := h
  obtain ⟨b, vs, e1, e2, e3⟩ := h1.ob 0 _ (mb ..)
  obtain ⟨_, ob, q1, _, q3⟩ := h2
  rw [mb] at q1; cases q1
  obtain ⟨b', q4, q5⟩ := q3 rfl rfl
  rw [e1] at q4
  have q6 : b = b' := by simpa [blk] using q4
  subst q6
  have q7 : b = N + 3 := by simpa using q5.symm
  subst q7
  have hav : ∀ o b, own (SH 56 44 3 r) σ o b → ¬ XP N b := fun o b ho => (h1.off o b ho).2
  have hk : ∀ {t : Ty} {d : t.den} {cs : List Value}, Dat (avd (dH Tryd.prog (XP N) W) (SH 56 44 3 r) σ) W t d cs → Dat (XP N) W t d cs := fun h => h.keep (Nat.le_refl _) (fun _ _ _ => rfl) fun b _ hb => .inl hb
  match vs, e3 with
  | [a0, a1, a2, a3, a4, a5, a6, a7, a8, a9], ⟨g0, g1, g2, g3, g4, g5, g6, g7, g8, g9, _⟩ =>
  obtain rfl : a0 = .string ⟨r.nm.toArray⟩ := g0.2
  obtain rfl : a3 = .int .i64 r.inp := g3.2
  obtain rfl : a4 = .int .i64 r.st := g4.2
  obtain rfl : a8 = .int .i64 (r.rd : Int) := g8.2
  obtain rfl : a9 = .int .i64 r.lf := g9.2
  refine ⟨a1, a2, a5, a6, a7, e2, ⟨g1.1, g2.1, g5.1, g6.1⟩, fun ht => ⟨hk g1.2, hk g2.2, ?_, ?_⟩⟩
  · have hA : rdA r = .rwc 1 0 := by unfold rdA; rw [if_pos ht]
    rw [hA] at g5
    obtain ⟨_, ob, p1, _, p3⟩ := g5
    rw [eO ht, pR] at p1; cases p1
    obtain ⟨_, p4⟩ := p3 rfl rfl
    rw [p4]
    exact mG h1 (by rw [eO ht]; exact pR ..) (fun i hi => by rw [eO ht]; exact ub hi) hav
  · have hB : rdB r = .rwc (2 + r.nx.length) 0 := by unfold rdB; rw [if_pos ht]
    rw [hB] at g6
    obtain ⟨_, ob, p1, _, p3⟩ := g6
    rw [eO ht, sN] at p1; cases p1
    obtain ⟨_, p4⟩ := p3 rfl rfl
    rw [p4]
    exact mG h1 (by rw [eO ht]; exact sN ..) (fun i hi => by rw [eO ht]; exact ue hi) hav
theorem jp {F : Fence} {n : Nat} {P : Program} {o : Oper} {a : Act} {w : World} {K : Act → World → Prop} {Q : Go.Exit → Act → World → Prop} (ty : TypeId) (x y : Operand) (ho : o.op = .store ty x y)
    (g : Nat) (cells : Array Value) (hx : a.eval x = .pointer (some ⟨g, 0, none⟩)) (hy : a.eval y = .agg cells)
    (t : TypeId) (old : Array Value) (hg : w.heap[g]? = some (.cells old t (0, 0))) (hi : (P.info? ty).map (·.size) = some cells.size)
    (hold : old.size = cells.size) (h1 : cells.all (·.oneCell') = true)
    (h : ∀ W', Chg g w W' → W'.heap[g]? = some (.cells cells t (0, 0)) → K (a.put o.dst undef) W') : Oper.wpIn F n P o a w K Q := by
  unfold Oper.wpIn
  refine ⟨?_, ?_⟩
  · simp [Oper.about, ho]
  · rw [Oper.semAt_plain F _ _ (by rw [ho]; intro c hc'; cases hc')]
    unfold execOp
    simp only [ho, hx, hy, Instr.storeAt, Instr.sureAddr, Sem.run_bind, Sem.run_pure, Result.andThen_ok, run_storeVar_row w g t ty old cells hg hi hold h1]
    exact h _ (o0 w g cells) (setRow_heap w g _ _ t _ hg)
def MpQ (s : Bs) (w : World) (e : Ending) (W' : World) : Prop :=
  ∃ us : List Value, e = .returned (.tuple #[.agg us.toArray, .int .i64 (PM s).2.1, .int .i64 (PM s).2.2]) ∧ Below w.heap.size w W' ∧ ∀ C L σ, (∀ b, avd C L σ b → b < w.heap.size) → aM (RC C L σ W') (PM s).1.cs us
theorem kQ {F : Fence} {n : Nat} {s : Bs} {w W : World} {tmps : Array Value} {v0 v1 v2 v3 v4 v5 v6 : Value} {i er : Int}
    (t2 : tmps.getD 2 undef = .pointer (some ⟨w.heap.size, 0, none⟩)) (t3 : tmps.getD 3 undef = .pointer (some ⟨w.heap.size + 1, 0, none⟩)) (t4 : tmps.getD 4 undef = .pointer (some ⟨w.heap.size + 2, 0, none⟩))
    (hb : Below w.heap.size w W) (c2 : W.heap[w.heap.size]? = some (.cells #[v0, v1, v2, v3, v4, v5, v6] 29 (0, 0))) (c3 : Boxed W (w.heap.size + 1) 3 (.int .i64 i)) (c4 : Boxed W (w.heap.size + 2) 32 (.int .i64 er))
    (hD : W.heap[w.heap.size + 7]? = some (.deferred (some []))) (hpm : (PM s).2 = (i, er))
    (hcs : ∀ W', W.heap.size ≤ W'.heap.size → (∀ b, b < W.heap.size → ¬ XP w.heap.size b → W'.heap[b]? = W.heap[b]?) → ∀ C L σ, (∀ b, avd C L σ b → b < w.heap.size) → aM (RC C L σ W') (PM s).1.cs [v0, v1, v2, v3, v4, v5, v6]) :
    bodyPostM F n Tryd.prog Tryd.f11 (MpQ s w) .ret { tmps := tmps, defers := [{ target := .collected (w.heap.size + 7), args := #[] }] } W := by
  have hc := iO W (w.heap.size + 7) (.deferred none)
  have hlt := (Array.getElem?_eq_some_iff.1 hD).1
  have g2 := (hc.same w.heap.size (by omega) (by omega)).trans c2
  have g3 := hc.boxed c3 (by omega)
  have g4 := hc.boxed c4 (by omega)
  refine ⟨by simp, .inl ⟨_, _, rfl, run_takeDeferred hD, ?_⟩⟩
  refine ⟨.tuple #[.agg #[v0, v1, v2, v3, v4, v5, v6], .int .i64 i, .int .i64 er], ?_, [v0, v1, v2, v3, v4, v5, v6], by rw [hpm], hc.below hb (Nat.le_refl _) (by omega), fun C L σ hav => hcs _ hc.size (fun b hb2 hx => hc.same b (fun e => hx (by subst e; exact ⟨by omega, by omega⟩)) hb2) C L σ hav⟩
  have d0 := bj g2 0
  have d1 := bj g2 1
  have d2 := bj g2 2
  have d3 := bj g2 3
  have d4 := bj g2 4
  have d5 := bj g2 5
  have d6 := bj g2 6
  have e3 := g3.cell
  have e4 := g4.cell
  simp only [results, show Tryd.f11.results = #[.cell 2 29, .cell 3 3, .cell 4 32] by kernel_rfl]
  simp only [Array.getD_eq_getD_getElem?] at t2 t3 t4
  have i1 : (Tryd.prog.info? 29).map (fun i => i.size) = some 7 := by kernel_rfl
  simp [loadVar, asAddr, go_sem, t2, t3, t4, d0, d1, d2, d3, d4, d5, d6, e3, e4]
end
section
open Go.RowKit Go.Shelf
attribute [local go_sem] Oper.semAt_some
def R13 (w : World) (k : Nat) (W W' : World) : Prop :=
  (W.heap.size ≤ W'.heap.size ∧ W'.os = W.os ∧ W'.tape = W.tape ∧ W'.output = W.output ∧ ∀ b, b < W.heap.size → b ≠ w.heap.size → b ≠ w.heap.size + 1 → b ≠ w.heap.size + 2 → W'.heap[b]? = W.heap[b]?) ∧
  W'.heap[w.heap.size]? = some (.cells zmC 29 (0, 0)) ∧ Boxed W' (w.heap.size + 1) 3 (.int .i64 ((k : Int) + 1)) ∧ Boxed W' (w.heap.size + 2) 32 (.int .i64 12)
theorem qh {w W W3 : World} {k : Nat} (hp : PS w (k : Int) W) (hc : Chg w.heap.size W.drew W3) (hg : W3.heap[w.heap.size]? = some (.cells zmC 29 (0, 0))) (b3 : Boxed W3 (w.heap.size + 1) 3 (.int .i64 0)) (b4 : Boxed W3 (w.heap.size + 2) 32 (.int .i64 0)) :
    R13 w k W ((W3.setCell ⟨w.heap.size + 1, 0, none⟩ (.int .i64 ((k : Int) + 1))).setCell ⟨w.heap.size + 1 + 1, 0, none⟩ (.int .i64 12)) := by
  have hc1 := dY W3 (w.heap.size + 1) (.int .i64 ((k : Int) + 1))
  have hc2 := dY (W3.setCell ⟨w.heap.size + 1, 0, none⟩ (.int .i64 ((k : Int) + 1))) (w.heap.size + 1 + 1) (.int .i64 12)
  have hz : w.heap.size + 8 < W.drew.heap.size := hp.sz
  have s3 := hc.size
  have s4 := hc1.size
  have s5 := hc2.size
  exact ⟨⟨Nat.le_trans s3 (Nat.le_trans s4 s5), hc2.os.trans (hc1.os.trans hc.os), hc2.tape.trans (hc1.tape.trans hc.tape), hc2.output.trans (hc1.output.trans hc.output), fun b q1 q2 q3 q4 => (hc2.same b q4 (Nat.lt_of_lt_of_le (show b < W.drew.heap.size from q1) (Nat.le_trans s3 s4))).trans ((hc1.same b q3 (Nat.lt_of_lt_of_le (show b < W.drew.heap.size from q1) s3)).trans (hc.same b q2 q1))⟩,
    (hc2.same _ (by omega) (by omega)).trans ((hc1.same _ (by omega) (by omega)).trans hg), hc2.boxed (b3.set _) (by omega), Boxed.set (B := w.heap.size + 1 + 1) _ (hc1.boxed b4 (by omega))⟩
theorem uF {w W W3 : World} {last i er : Int} {cs : Array Value} (hp : PS w last W) (h3 : Chg w.heap.size W W3 ∧ W3.heap[w.heap.size]? = some (.cells cs 29 (0, 0)) ∧ Boxed W3 (w.heap.size + 1) 3 (.int .i64 0) ∧ Boxed W3 (w.heap.size + 2) 32 (.int .i64 0)) (hD : W.heap[w.heap.size + 7]? = some (.deferred (some []))) :
    ∃ Wf, ((W3.setCell ⟨w.heap.size + 1, 0, none⟩ (.int .i64 i)).setCell ⟨w.heap.size + 1 + 1, 0, none⟩ (.int .i64 er)) = Wf ∧ Below w.heap.size w Wf ∧ Wf.heap[w.heap.size]? = some (.cells cs 29 (0, 0)) ∧ Boxed Wf (w.heap.size + 1) 3 (.int .i64 i) ∧ Boxed Wf (w.heap.size + 2) 32 (.int .i64 er) ∧
      Wf.heap[w.heap.size + 7]? = some (.deferred (some [])) ∧ W.heap.size ≤ Wf.heap.size ∧ ∀ b, b < W.heap.size → ¬ XP w.heap.size b → Wf.heap[b]? = W.heap[b]? := by
  obtain ⟨hc, hg, b3, b4⟩ := h3
  have hc1 := dY W3 (w.heap.size + 1) (.int .i64 i)
  have hc2 := dY (W3.setCell ⟨w.heap.size + 1, 0, none⟩ (.int .i64 i)) (w.heap.size + 1 + 1) (.int .i64 er)
  have hz := hp.sz
  have s3 := hc.size
  have s4 := hc1.size
  have s5 := hc2.size
  have hall : ∀ b, b < W.heap.size → b ≠ w.heap.size → b ≠ w.heap.size + 1 → b ≠ w.heap.size + 1 + 1 → ((W3.setCell ⟨w.heap.size + 1, 0, none⟩ (.int .i64 i)).setCell ⟨w.heap.size + 1 + 1, 0, none⟩ (.int .i64 er)).heap[b]? = W.heap[b]? :=
    fun b q1 q2 q3 q4 => (hc2.same b q4 (by omega)).trans ((hc1.same b q3 (by omega)).trans (hc.same b q2 q1))
  refine ⟨_, rfl, hc2.below (hc1.below (hc.below hp.bl (Nat.le_refl _) (Nat.le_refl _)) (Nat.le_refl _) (by omega)) (Nat.le_refl _) (by omega), (hc2.same _ (by omega) (by omega)).trans ((hc1.same _ (by omega) (by omega)).trans hg), hc2.boxed (b3.set _) (by omega), Boxed.set (B := w.heap.size + 1 + 1) _ (hc1.boxed b4 (by omega)), (hall _ (by omega) (by omega) (by omega) (by omega)).trans hD, by omega, fun b hb hx => hall b hb ?_ ?_ ?_⟩
  all_goals (intro e; subst e; exact hx ⟨by omega, by omega⟩)
set_option maxHeartbeats 4000000 in
theorem pj (n : Nat) (hn : 6 ≤ n) (s : Bs) (hs : s.length ≤ 900000) (w : World) : CallsIn Fence.wide n Tryd.prog 11 #[.string ⟨s.toArray⟩] w (MpQ s w) := by
  have h1 : 1 ≤ n := by omega
  have w23 : Fence.wide.fn 23 := trivial
  refine callsIn_of_wp_marks Tryd.func11 rfl trivial ?_ rfl
  simp only [Tryd.ntmps11, List.size_toArray, aj, aq, M, Y, Array.replicate_succ, Array.replicate_zero, List.push_toArray, List.append_toArray, ar, ak]
  have hbig : ¬ 1048576 < s.length := by omega
  gi_wp2_with (gi_at_call 23; refine (tY (n - 1) _ _).mono ?_; rintro e w' ⟨rfl, rfl⟩)
  obtain ⟨W0, hW0⟩ : ∃ W0, ((iE s w.heap.size).foldl (fun W o => W.alloc o) w) = W0 := ⟨_, rfl⟩
  show Code.wpIn Fence.wide n Tryd.prog _ _ _ ((iE s w.heap.size).foldl (fun W o => W.alloc o) w)
  have hst0 := pd s w
  have hz0 := fC (iE s w.heap.size) w
  rw [hW0] at hst0 hz0 ⊢
  replace hz0 : W0.heap.size = w.heap.size + 7 := hz0
  clear hW0
  refine nH rfl h1 (gf := 34) (lb := #[.pointer (some ⟨w.heap.size + 6, 0, none⟩)]) rfl trivial (enters_of Tryd.func34 (by kernel_rfl) rfl)
    (oU (n - 1) (by omega) s (by omega) (w.heap.size + 6)) (fun _ => rfl) ?hstp (IPs s w) (IYs s w) (fun c k W => c = .ret ∧ IXs s w k W) (fun k W h => h.2.1) (fun k W h => h.2.1) (fun k W h => rr h)
    ?hIp ?hYp ?hXp ?h0 ?a1 ?hassign ?hbody ?hdone ?hstop
  case hassign =>
    intro l k W K hK
    gi_wp2
    exact hK
  case hstp => intro k W b hb; exact Below.heap_setCell W _ _ b (by show b ≠ w.heap.size + 6; omega)
  case hIp => intro k W r h _; rw [hz0]; exact sv h
  case hYp => intro k W r h _; rw [hz0]; exact sQ h
  case hXp => rintro c k W r ⟨hc, h⟩ hz; rw [hz0] at hz ⊢; exact ⟨hc, sq h hz⟩
  case h0 => intro r; exact hst0 _ _
  case hbody =>
    intro k W hi hne
    have w24 : Fence.wide.fn 24 := trivial
    have hn2 : 1 ≤ n - 1 - 1 := by omega
    have hcall := CallsIn.inRound (n := n - 1 - 1 - 1) (w.heap.size + 7 + 1) (callsIn_wide.2 (oF hs hi hne))
    have c5 := hi.1.b5.cell
    rw [hz0]
    by_cases he : (aW (bK s k) (bV s k)).2 = 0
    · gi_wp2_with (gi_at_call 24; refine hcall.mono ?_; rintro e W2 ⟨⟨rfl, hp, hbx, hhs⟩, hd, hl⟩; have c6 := hp.b6.cell; have f6 := hp.b6.frozen)
      exact tW hp hbx hhs hi.2.2.2 hne he hd hl
    · gi_wp2_with (first | (gi_at_call 24; refine hcall.mono ?_; rintro e W2 ⟨⟨rfl, hp, hbx, hhs⟩, hd, hl⟩) | (refine gQ rfl 29 (.tmp 2) (.tmp 25) rfl w.heap.size zmC rfl rfl 29 zmC hp.b2 (by kernel_rfl) rfl zm1 hp.b3 hp.b4 ?_; rintro W3 ⟨hc3, c3, f3, c4, f4⟩))
      obtain ⟨g1, g2⟩ := tz (W := W) hp hi.2.2.2 he hd hl hc3
      exact ⟨g1, rfl, g2⟩
  case hdone =>
    intro k W hf hi hD
    rw [hz0] at hD
    have c5 := hi.1.b5.cell
    have c6 := hi.1.b6.cell
    obtain ⟨v1, v2, v5, v6, v7, hR, ho, hdat⟩ := qP hi.2.2.1
    have d8 : W.cell? ⟨w.heap.size + 3, 8, none⟩ = some (.int .i64 ((bK s k).rd : Int)) := bj hR 8
    have d9 : W.cell? ⟨w.heap.size + 3, 9, none⟩ = some (.int .i64 (bK s k).lf) := bj hR 9
    have d0 : W.cell? ⟨w.heap.size + 3, 0, none⟩ = some (.string ⟨(bK s k).nm.toArray⟩) := bj hR 0
    have d1 : W.cell? ⟨w.heap.size + 3, 1, none⟩ = some v1 := bj hR 1
    have d2 : W.cell? ⟨w.heap.size + 3, 2, none⟩ = some v2 := bj hR 2
    have d3 : W.cell? ⟨w.heap.size + 3, 3, none⟩ = some (.int .i64 (bK s k).inp) := bj hR 3
    have d4 : W.cell? ⟨w.heap.size + 3, 4, none⟩ = some (.int .i64 (bK s k).st) := bj hR 4
    have d5 : W.cell? ⟨w.heap.size + 3, 5, none⟩ = some v5 := bj hR 5
    have d6 : W.cell? ⟨w.heap.size + 3, 6, none⟩ = some v6 := bj hR 6
    rw [hz0]
    have hps := hi.1
    have hend := tl hbig hi.2.2.2 hf
    have b2 := hps.b2
    have h6d : Boxed W.drew (w.heap.size + 5) 3 (.int .i64 (k : Int)) := hps.b6
    have c6d : W.drew.cell? ⟨w.heap.size + 1 + 1 + 1 + 1 + 1, 0, none⟩ = some (.int .i64 (k : Int)) := h6d.cell
    have hkl : k ≤ 1048576 := by have := (km (by omega : s.length ≤ 1048576) hi.2.2.2).2.2; omega
    by_cases hfin : (bK s k).rd < 5 ∨ ((5 : Int) ≤ ((bK s k).rd : Int) ∧ 0 < (bK s k).lf)
    · rcases hfin with hrd | ⟨hrd, hlf⟩
      all_goals gi_wp2
      all_goals
        (refine wpIn_mono (Q := fun e a' W' => match e with | .normal => (a'.defers = [{ target := .collected (w.heap.size + 7), args := #[] }] ∧ a'.tmps.getD 2 undef = .pointer (some ⟨w.heap.size, 0, none⟩) ∧ a'.tmps.getD 3 undef = .pointer (some ⟨w.heap.size + 1, 0, none⟩) ∧ a'.tmps.getD 4 undef = .pointer (some ⟨w.heap.size + 2, 0, none⟩)) ∧ R13 w k W W' | _ => False) ?_ ?_
         · refine wpIn_region_any (by kernel_rfl) ?_
           refine wpAnyIn_take (i := 0) (v := .agg zmC) rfl rfl (by kernel_rfl) (by kernel_rfl) (by kernel_rfl) (fun _ _ _ h => h) ⟨Or.inl ⟨by rfl, ?_⟩, fun _ => rfl⟩ ?_
           · intro w'; go_simp; rfl
           refine wpAnyIn_ready (rs := [1, 3]) (by kernel_rfl) (by simp) ?_
           refine AllReadyIn.cons rfl (fun K hK => ?_) (AllReadyIn.cons rfl (fun K hK => ?_) AllReadyIn.nil)
           · go_simp
             refine hK _ _ ?_
             refine wpAnyIn_take (i := 2) (v := .int .i64 ((k : Int) + 1)) rfl rfl (by kernel_rfl) (by kernel_rfl) (by kernel_rfl) (fun _ _ _ h => h) ⟨Or.inl ⟨by rfl, ?_⟩, fun _ => rfl⟩ ?_
             · intro w'; go_simp; rw [IntKind.wrap_i64]; omega
             refine wpAnyIn_ready (rs := [3]) (by kernel_rfl) (by simp) ?_
             refine AllReadyIn.cons rfl (fun K hK => ?_) AllReadyIn.nil
             refine jp 29 (.tmp 2) (.tmp 41) rfl w.heap.size zmC rfl rfl 29 zmC (show W.drew.heap[w.heap.size]? = _ from b2) (by kernel_rfl) rfl zm1 ?_
             intro W3 hc3 hg3
             refine hK _ _ ?_
             have m3 := hc3.boxed (show Boxed W.drew (w.heap.size + 1) 3 (.int .i64 0) from hps.b3) (by omega)
             have m4 := hc3.boxed (show Boxed W.drew (w.heap.size + 2) 32 (.int .i64 0) from hps.b4) (by omega)
             have m6 := hc3.boxed h6d (by omega)
             have e3 := m3.cell; have f3 := m3.frozen
             have e4 : W3.cell? ⟨w.heap.size + 1 + 1, 0, none⟩ = some (.int .i64 0) := m4.cell
             have f4 : W3.frozen? ⟨w.heap.size + 1 + 1, 0, none⟩ = false := m4.frozen
             have e6 : W3.cell? ⟨w.heap.size + 1 + 1 + 1 + 1 + 1, 0, none⟩ = some (.int .i64 (k : Int)) := m6.cell
             refine wpAnyIn_ready (rs := [4]) (by kernel_rfl) (by simp) ?_
             refine AllReadyIn.cons rfl (fun K hK => ?_) AllReadyIn.nil
             go_simp
             refine hK _ _ ?_
             refine wpAnyIn_ready (rs := [5]) (by kernel_rfl) (by simp) ?_
             refine AllReadyIn.cons rfl (fun K hK => ?_) AllReadyIn.nil
             go_simp
             refine hK _ _ ?_
             refine wpAnyIn_done (by kernel_rfl) ?_ _
             exact ⟨⟨rfl, rfl, rfl, rfl⟩, qh hps hc3 hg3 m3 m4⟩
           · refine jp 29 (.tmp 2) (.tmp 41) rfl w.heap.size zmC rfl rfl 29 zmC (show W.drew.heap[w.heap.size]? = _ from b2) (by kernel_rfl) rfl zm1 ?_
             intro W3 hc3 hg3
             refine hK _ _ ?_
             have m3 := hc3.boxed (show Boxed W.drew (w.heap.size + 1) 3 (.int .i64 0) from hps.b3) (by omega)
             have m4 := hc3.boxed (show Boxed W.drew (w.heap.size + 2) 32 (.int .i64 0) from hps.b4) (by omega)
             have m6 := hc3.boxed h6d (by omega)
             have e3 := m3.cell; have f3 := m3.frozen
             have e4 : W3.cell? ⟨w.heap.size + 1 + 1, 0, none⟩ = some (.int .i64 0) := m4.cell
             have f4 : W3.frozen? ⟨w.heap.size + 1 + 1, 0, none⟩ = false := m4.frozen
             have e6 : W3.cell? ⟨w.heap.size + 1 + 1 + 1 + 1 + 1, 0, none⟩ = some (.int .i64 (k : Int)) := m6.cell
             refine wpAnyIn_ready (rs := [1]) (by kernel_rfl) (by simp) ?_
             refine AllReadyIn.cons rfl (fun K hK => ?_) AllReadyIn.nil
             go_simp
             refine hK _ _ ?_
             refine wpAnyIn_take (i := 2) (v := .int .i64 ((k : Int) + 1)) rfl rfl (by kernel_rfl) (by kernel_rfl) (by kernel_rfl) (fun _ _ _ h => h) ⟨Or.inl ⟨by rfl, ?_⟩, fun _ => rfl⟩ ?_
             · intro w'; go_simp; rw [IntKind.wrap_i64]; omega
             refine wpAnyIn_ready (rs := [4]) (by kernel_rfl) (by simp) ?_
             refine AllReadyIn.cons rfl (fun K hK => ?_) AllReadyIn.nil
             go_simp
             refine hK _ _ ?_
             refine wpAnyIn_ready (rs := [5]) (by kernel_rfl) (by simp) ?_
             refine AllReadyIn.cons rfl (fun K hK => ?_) AllReadyIn.nil
             go_simp
             refine hK _ _ ?_
             refine wpAnyIn_done (by kernel_rfl) ?_ _
             exact ⟨⟨rfl, rfl, rfl, rfl⟩, qh hps hc3 hg3 m3 m4⟩
         · intro e a' W' h
           cases e with
           | normal =>
             obtain ⟨⟨hdf, t2, t3, t4⟩, ⟨z1, z2, z3, z4, z5⟩, g2, g3, g4⟩ := h
             obtain ⟨tm, df⟩ := a'
             simp only at hdf
             subst hdf
             have hsz := hps.sz
             have hpm : PM s = (eZ, (k : Int) + 1, 12) := by rw [hend]; unfold mm; rw [if_pos (by first | exact .inl hrd | exact .inr hlf)]
             have hbl : Below w.heap.size w W' := ⟨z2.trans hps.bl.os, z3.trans hps.bl.tape, z4.trans hps.bl.output, Nat.le_trans hps.bl.size z1, fun b hb => (z5 b (by omega) (by omega) (by omega) (by omega)).trans (hps.bl.block b hb)⟩
             have hD2 : W'.heap[w.heap.size + 7]? = some (.deferred (some [])) := (z5 _ (by omega) (by omega) (by omega) (by omega)).trans hD
             clear hend c6 c6d d0 d1 d2 d3 d4 d5 d6 d8 d9 hR b2
             gi_wp2
             refine kQ t2 t3 t4 hbl g2 g3 g4 hD2 (by rw [hpm]) ?_
             rw [hpm]
             exact fun W' _ _ C L σ _ => ⟨⟨rfl, rfl⟩, ⟨rfl, bU _⟩, ⟨rfl, bU _⟩, ⟨rfl, rfl⟩, ⟨rfl, rfl⟩, ⟨rfl, bU _⟩, ⟨rfl, bU _⟩, trivial⟩
           | ret => exact h.elim
           | exit id => exact h.elim
           | goto t => exact h.elim
           | panic c => exact h.elim
           | outgrown => exact h.elim)
    · have hrd : (5 : Int) ≤ ((bK s k).rd : Int) := by omega
      have hlf : (bK s k).lf ≤ 0 := by omega
      have hri := km (by omega : s.length ≤ 1048576) hi.2.2.2
      have htb := (hri.1.t4 (by omega)).1
      obtain ⟨a1, a2, a5, a6⟩ := hdat htb
      have hpm : PM s = (lQ (bK s k), 0, 0) := by rw [hend]; unfold mm; rw [if_neg (by omega)]
      clear hend
      gi_wp2_with (refine gQ rfl 29 (.tmp 2) (.tmp 47) rfl w.heap.size #[.string ⟨(bK s k).nm.toArray⟩, v1, v2, .int .i64 (bK s k).inp, .int .i64 (bK s k).st, v5, v6] rfl rfl 29 zmC b2 (by kernel_rfl) rfl (by simpa [Value.oneCell'] using ho) hps.b3 hps.b4 ?_; rintro W3 ⟨hc3, c3, f3, c4, f4⟩)
      obtain ⟨Wf, hWf, z1, z2, z3, z4, z5, z6, z7⟩ := uF (i := 0) (er := 0) hps hc3 hD
      rw [hWf]
      refine kQ rfl rfl rfl z1 z2 z3 z4 z5 (by rw [hpm]) ?_
      rw [hpm]
      intro W' y1 y2 C L σ hav
      have hk : ∀ {t : Ty} {d : t.den} {cs : List Value}, Dat (XP w.heap.size) W t d cs → Dat (avd C L σ) W' t d cs := fun h => h.keep (Nat.le_trans z6 y1) (fun b hb hx => (y2 b (Nat.lt_of_lt_of_le hb z6) hx).trans (z7 b hb hx)) fun b _ hb => ⟨by have := hav b hb; omega, by have := hav b hb; omega⟩
      exact ⟨⟨rfl, rfl⟩, ⟨ho.1, hk a1⟩, ⟨ho.2.1, hk a2⟩, ⟨rfl, rfl⟩, ⟨rfl, rfl⟩, ⟨ho.2.2.1, hk a5⟩, ⟨ho.2.2.2, hk a6⟩, trivial⟩
  case hstop =>
    rintro c k W hf ⟨rfl, hx⟩ hD
    rw [hz0] at hD ⊢
    gi_wp2
    have hpm := tQ hbig hx.ok hf hx.e0
    refine kQ rfl rfl rfl hx.bl hx.b2 hx.b3 hx.b4 hD (by rw [hpm]) ?_
    rw [hpm]
    exact fun W' _ _ C L σ _ => ⟨⟨rfl, rfl⟩, ⟨rfl, bU _⟩, ⟨rfl, bU _⟩, ⟨rfl, rfl⟩, ⟨rfl, rfl⟩, ⟨rfl, bU _⟩, ⟨rfl, bU _⟩, trivial⟩
theorem dI (s : Bs) (hs : s.length ≤ 900000) : bP Tryd.prog 11 [.one (.str s)] (.tup [(PM s).1.av, .one (.int .i64 (PM s).2.1), .one (.int .i64 (PM s).2.2)]) := by
  refine ⟨⟨Tryd.f11, Tryd.func11, by kernel_rfl, by kernel_rfl⟩, fun C L σ w vs hP hI ha => ?_⟩
  match vs, ha with
  | [v], ⟨h1, _⟩ =>
  obtain rfl : v = .string ⟨s.toArray⟩ := h1.2
  refine (callsIn_wide.1 (pj 6 (Nat.le_refl _) s hs w)).mono ?_
  rintro e w' ⟨us, h2, h3, h4⟩
  have hx : ∀ b, avd C L σ b → b < w.heap.size := by
    rintro b (hx | ⟨o, ho⟩)
    · exact Nat.lt_of_lt_of_le (hI.xlt b hx) hI.size
    · exact dT hI ho
  exact ⟨_, h2, ⟨h3.size, h3.os, h3.tape, h3.output, h3.block⟩, _, rfl, ⟨us, rfl, h4 C L σ hx⟩, ⟨rfl, rfl⟩, ⟨rfl, rfl⟩, trivial⟩
end
open Go.Shelf in
def Tryd.lays171_ren : Go.Shelf.Ren := ⟨fun | 171 => 27 | 243 => 42 | 246 => 54 | 283 => 74 | 284 => 75 | 285 => 76 | 286 => 77 | 129 => 67 | 317 => 89 | 318 => 90 | 319 => 91 | 320 => 92 | 337 => 99 | 338 => 100 | n => n, fun | 3 => 3 | 9 => 9 | 2 => 2 | 4 => 4 | 171 => 114 | 0 => 0 | 53 => 109 | 37 => 64 | 5 => 5 | 173 => 116 | 212 => 131 | 51 => 107 | 20 => 20 | 213 => 132 | 46 => 88 | 232 => 147 | 233 => 148 | n => n, fun | 17 => 1 | 18 => 4 | 19 => 5 | n => n⟩
theorem Tryd.lays171 : Go.Proofs.Lays.n171 Tryd.prog Tryd.lays171_ren := {
  mixed := by kernel_rfl,
  f129 := Tryd.func67.trans (congrArg some (by kernel_rfl)),
  f171 := Tryd.func27.trans (congrArg some (by kernel_rfl)),
  f243 := Tryd.func42.trans (congrArg some (by kernel_rfl)),
  f246 := Tryd.func54.trans (congrArg some (by kernel_rfl)),
  f283 := Tryd.func74.trans (congrArg some (by kernel_rfl)),
  f284 := Tryd.func75.trans (congrArg some (by kernel_rfl)),
  f285 := Tryd.func76.trans (congrArg some (by kernel_rfl)),
  f286 := Tryd.func77.trans (congrArg some (by kernel_rfl)),
  f317 := Tryd.func89.trans (congrArg some (by kernel_rfl)),
  f318 := Tryd.func90.trans (congrArg some (by kernel_rfl)),
  f319 := Tryd.func91.trans (congrArg some (by kernel_rfl)),
  f320 := Tryd.func92.trans (congrArg some (by kernel_rfl)),
  f337 := Tryd.func99.trans (congrArg some (by kernel_rfl)),
  f338 := Tryd.func100.trans (congrArg some (by kernel_rfl)),
  t0 := Tryd.underlying0,
  a0 := Tryd.isAgg0,
  z0 := Tryd.sizeOf0,
  v0 := Tryd.zeroValue0,
  t2 := Tryd.underlying2,
  a2 := Tryd.isAgg2,
  z2 := Tryd.sizeOf2,
  v2 := Tryd.zeroValue2,
  t3 := Tryd.underlying3,
  a3 := Tryd.isAgg3,
  z3 := Tryd.sizeOf3,
  v3 := Tryd.zeroValue3,
  t4 := Tryd.underlying4,
  a4 := Tryd.isAgg4,
  z4 := Tryd.sizeOf4,
  v4 := Tryd.zeroValue4,
  t5 := Tryd.underlying5,
  a5 := Tryd.isAgg5,
  z5 := Tryd.sizeOf5,
  v5 := Tryd.zeroValue5,
  t9 := Tryd.underlying9,
  a9 := Tryd.isAgg9,
  z9 := Tryd.sizeOf9,
  v9 := Tryd.zeroValue9,
  t20 := Tryd.underlying20,
  a20 := Tryd.isAgg20,
  z20 := Tryd.sizeOf20,
  v20 := Tryd.zeroValue20,
  t37 := Tryd.underlying64,
  a37 := Tryd.isAgg64,
  z37 := Tryd.sizeOf64,
  v37 := Tryd.zeroValue64,
  t46 := Tryd.underlying88,
  a46 := Tryd.isAgg88,
  z46 := Tryd.sizeOf88,
  v46 := Tryd.zeroValue88,
  t51 := Tryd.underlying107,
  a51 := Tryd.isAgg107,
  z51 := Tryd.sizeOf107,
  v51 := Tryd.zeroValue107,
  t53 := Tryd.underlying109,
  a53 := Tryd.isAgg109,
  z53 := Tryd.sizeOf109,
  v53 := Tryd.zeroValue109,
  t171 := Tryd.underlying114,
  a171 := Tryd.isAgg114,
  z171 := Tryd.sizeOf114,
  v171 := Tryd.zeroValue114,
  t173 := Tryd.underlying116,
  a173 := Tryd.isAgg116,
  z173 := Tryd.sizeOf116,
  v173 := Tryd.zeroValue116,
  t212 := Tryd.underlying131,
  a212 := Tryd.isAgg131,
  z212 := Tryd.sizeOf131,
  v212 := Tryd.zeroValue131,
  t213 := Tryd.underlying132,
  a213 := Tryd.isAgg132,
  z213 := Tryd.sizeOf132,
  t232 := Tryd.underlying147,
  a232 := Tryd.isAgg147,
  z232 := Tryd.sizeOf147,
  v232 := Tryd.zeroValue147,
  t233 := Tryd.underlying148,
  a233 := Tryd.isAgg148,
  z233 := Tryd.sizeOf148,
  v233 := Tryd.zeroValue148,
  g17 := by kernel_rfl,
  g18 := by kernel_rfl,
  g19 := by kernel_rfl }
theorem tR (n : Int) (h0 : 0 ≤ n) (h1 : n < 100) : bP Tryd.prog 27 [.one (.int .i64 n)] (.one (.str (Lib.decDigits n.toNat))) := by
  refine ⟨⟨Tryd.f27, Tryd.func27, by kernel_rfl, by kernel_rfl⟩, fun C L σ w vs hP hi ha => ?_⟩
  cases vs with
  | nil => exact ha.elim
  | cons v vs =>
  cases vs with
  | cons _ _ => exact ha.2.elim
  | nil =>
  have e1 : v = .int .i64 n := ha.1.2
  subst e1
  have h := Any.strconv_Itoa_small Tryd.lays171 n.toNat (by omega) w
  have e : ((n.toNat : Nat) : Int) = n := Int.toNat_of_nonneg h0
  rw [e] at h
  refine Calls.mono h fun e w' hh => ?_
  obtain ⟨e1, e2⟩ := hh
  subst e2
  exact ⟨_, e1, MORE.refl _, rfl, rfl⟩
theorem kt (n : Int) (h0 : 0 ≤ n) (h1 : n < 100) : bP Tryd.prog 16 [.one (.int .i64 n)] (.one (.str (qn n.toNat))) := by
 have hl := kL n.toNat (by omega)
 refine aT Tryd.func16 rfl (by kernel_rfl) (Nat.le_of_ble_eq_true rfl) rfl fun C hP hN hB => ?_
 replace hN : C.N = 6 := hN
 simp only [aV, M]
 refine ad fun _ k1 => ?_
 refine ag hP hN rfl ?_
 (refine ab rfl fun _ k0 => ?_; simp only [zO, zT, acs, reduceCtorEq, O, M, V, aa, Z, Y]; (repeat refine an ?_); (try refine .inl ?_); apply k0; clear k0; simp only [zP, M])
 refine af ?_
 apply k1; clear k1; refine kp [0, 2] ?_
 refine ad fun _ k2 => ?_
 refine ag hP hN rfl ?_
 (refine ab rfl fun _ k0 => ?_; simp only [zO, zT, acs, reduceCtorEq, O, M, V, aa, Z, Y, aj, aq]; (repeat refine an ?_); (try refine .inl ?_); apply k0; clear k0; simp only [zP, M])
 refine ab rfl fun _ k0 => ?_
 refine aw (h := am (tR n h0 h1)) rfl rfl (by first | exact rfl | (simp only [ev, zP, O, M]; exact rfl)) (by simp only [zV, acs, reduceCtorEq, O, M, V, aa, Z, Y, aj, aq]) ?_
 apply k0; clear k0; simp only [zP, M]
 iterate 2 (refine ab rfl fun _ k0 => ?_; simp only [zO, zT, acs, reduceCtorEq, O, M, V, aa, Z, Y, aj, aq]; (repeat refine an ?_); (try refine .inl ?_); apply k0; clear k0; simp only [zP, M])
 refine af ?_
 apply k2; clear k2; refine kp [0, 2] ?_
 refine au ?_
 refine ⟨nr, _, rfl, ?_⟩; simp only [zF, zP, O, M]
 refine VLE.of_eq ?_
 rfl
theorem tD (xs : List Int) (h0 : 0 < xs.length) : bP Tryd.prog 22 [.one (.list (.int .i64) xs)] (.one (.int .i64 (mxL xs))) := by
 refine aT Tryd.func22 rfl (by kernel_rfl) (Nat.le_of_ble_eq_true rfl) rfl fun C hP hN hB => ?_
 replace hN : C.N = 25 := hN
 simp only [aV, M]
 refine gl 0 rfl fun hf0 => ?_; simp only [lkp, if_true, if_false, reduceCtorEq, O, eq_self, Nat.one_ne_zero, Nat.zero_ne_one, kV, jJ, jt, Fit, and_true, implies_true, true_and] at hf0
 refine ad fun _ k1 => ?_
 refine ag hP hN rfl ?_
 (refine ab rfl fun _ k0 => ?_; simp only [zO, zT, acs, reduceCtorEq, O, M, V, aa, Z, Y]; (repeat refine an ?_); (try refine .inl ?_); apply k0; clear k0; simp only [zP, M])
 refine af ?_
 apply k1; clear k1; refine kp [0, 2] ?_
 refine ad fun _ k2 => ?_
 refine ad fun _ k3 => ?_
 refine ag hP hN rfl ?_
 iterate 3 (refine ab rfl fun _ k0 => ?_; simp only [zO, zT, acs, reduceCtorEq, O, M, V, aa, Z, Y]; (repeat refine an ?_); (try refine .inl ?_); apply k0; clear k0; simp only [zP, M])
 refine af ?_
 apply k3; clear k3; refine kp [0, 2, 7] ?_
 refine cd (fun hc4 => ?_) (fun hc4 => ?_)
 · exfalso; (try simp only [zB, reduceCtorEq] at hc4); all_goals (first | (cases hc4; done) | omega | (simp at hc4; done) | (simp_all; done))
 (try simp only [zB, reduceCtorEq] at hc4)
 refine ax ?_
 apply k2; clear k2; refine kp [0, 2, 7] ?_
 refine ad fun _ k5 => ?_
 refine ag hP hN rfl ?_
 iterate 4 (refine ab rfl fun _ k0 => ?_; simp only [zO, zT, acs, reduceCtorEq, O, M, V, aa, Z, Y]; (repeat refine an ?_); (try refine .inl ?_); apply k0; clear k0; simp only [zP, M])
 refine af ?_
 apply k5; clear k5; refine kp [0, 2, 3, 7] ?_
 refine ad fun _ k6 => ?_
 refine ad fun _ k7 => ?_
 refine ag hP hN rfl ?_
 (refine ab rfl fun _ k0 => ?_; simp only [zO, zT, acs, reduceCtorEq, O, M, V, aa, Z, Y]; (repeat refine an ?_); (try refine .inl ?_); apply k0; clear k0; simp only [zP, M])
 refine af ?_
 apply k7; clear k7; refine kp [0, 2, 3, 4, 7] ?_
 refine aG ?_
 refine bD (fun n8 s8 => ∃ (k : Nat), (1 ≤ k) ∧ (k ≤ xs.length) ∧ n8 = xs.length - k ∧ s8 = { env := [(0, .one (.list (.int .i64) xs)), (3, .one (.int .i64 ((xs.take k).foldl max (xs.getD 0 0)))), (4, .one (.int .i64 (k : Int)))], L := [] }) ?_ ?_
 ·refine ⟨_, _, aL [0, 3, 4], 1, Nat.le_refl _, h0, rfl, ?_⟩
  rw [tE h0]; rfl
 rintro n8 s8 ⟨k, hk1, hk, rfl, rfl⟩
 refine ad fun _ k9 => ?_
 refine ad fun _ k10 => ?_
 refine ag hP hN rfl ?_
 iterate 4 (refine ab rfl fun _ k0 => ?_; simp only [zO, zT, acs, reduceCtorEq, O, M, V, aa, Z, Y]; (repeat refine an ?_); (try refine .inl ?_); apply k0; clear k0; simp only [zP, M])
 refine af ?_
 apply k10; clear k10; refine kp [0, 3, 4, 15] ?_
 refine cd (fun hc11 => ?_) (fun hc11 => ?_)
 ·(try simp only [zB, reduceCtorEq] at hc11)
  refine ax ?_
  apply k9; clear k9; refine kp [0, 3, 4, 15] ?_
  refine ad fun _ k12 => ?_
  refine aG ?_
  refine ag hP hN rfl ?_
  iterate 7 (refine ab rfl fun _ k0 => ?_; simp only [zO, zT, acs, reduceCtorEq, O, M, V, aa, Z, Y]; (repeat refine an ?_); (try refine .inl ?_); apply k0; clear k0; simp only [zP, M])
  refine af ?_
  apply k12; clear k12; refine kp [0, 3, 4, 15] ?_
  refine ag hP hN rfl ?_
  iterate 3 (refine ab rfl fun _ k0 => ?_; simp only [zO, zT, acs, reduceCtorEq, O, M, V, aa, Z, Y]; (repeat refine an ?_); (try refine .inl ?_); apply k0; clear k0; simp only [zP, M])
  refine af ?_
  refine ⟨_, _, ?_, aL [0, 3, 4], k + 1, by omega, by omega, rfl, ?_⟩
  · omega
  · rw [nz (by omega), List.foldl_append]; rfl
 (try simp only [zB, reduceCtorEq] at hc11)
 refine bC ?_
 apply k6; clear k6; refine kp [0, 3, 4, 15] ?_
 refine ad fun _ k13 => ?_
 refine ag hP hN rfl ?_
 iterate 2 (refine ab rfl fun _ k0 => ?_; simp only [zO, zT, acs, reduceCtorEq, O, M, V, aa, Z, Y]; (repeat refine an ?_); (try refine .inl ?_); apply k0; clear k0; simp only [zP, M])
 refine af ?_
 apply k13; clear k13; refine kp [0, 2, 3, 4, 15] ?_
 refine au ?_
 refine ⟨nr, _, rfl, ?_⟩; simp only [zF, zP, O, M]
 refine VLE.of_eq ?_
 refine congrArg (fun n => AV.one (AC.int IntKind.i64 n)) ?_
 rw [show k = xs.length by omega, aF]; rfl
open Go.Shelf in
def Tryd.laysNm220_ren : Go.Shelf.Ren := ⟨fun | 20 => 33 | n => n, fun | 22 => 44 | 3 => 3 | 4 => 4 | 0 => 0 | n => n, fun | n => n⟩
theorem Tryd.laysNm220 : Go.Proofs.Lays2.n20 Tryd.prog Tryd.laysNm220_ren := {
  mixed := by kernel_rfl,
  f20 := Tryd.func33.trans (congrArg some (by kernel_rfl)),
  t0 := Tryd.underlying0,
  a0 := Tryd.isAgg0,
  z0 := Tryd.sizeOf0,
  v0 := Tryd.zeroValue0,
  t3 := Tryd.underlying3,
  a3 := Tryd.isAgg3,
  z3 := Tryd.sizeOf3,
  v3 := Tryd.zeroValue3,
  t4 := Tryd.underlying4,
  a4 := Tryd.isAgg4,
  z4 := Tryd.sizeOf4,
  v4 := Tryd.zeroValue4,
  t22 := Tryd.underlying44,
  a22 := Tryd.isAgg44,
  z22 := Tryd.sizeOf44,
  v22 := Tryd.zeroValue44,
  i3 := by kernel_rfl }
theorem oz : mU Tryd.prog 33 := ⟨⟨Tryd.f33, Tryd.func33, by kernel_rfl, by kernel_rfl⟩, fun blk off cap zs w hH hb hz => Any.slices_Compact_int Tryd.laysNm220 blk off cap zs w hH hb hz⟩
open Go.Shelf in
def Tryd.lays189_ren : Go.Shelf.Ren := ⟨fun | 189 => 32 | 125 => 47 | 257 => 46 | 128 => 66 | 129 => 67 | 294 => 57 | 295 => 58 | 296 => 59 | 297 => 60 | 298 => 61 | 299 => 62 | 216 => 63 | 300 => 64 | 301 => 65 | 328 => 78 | 329 => 79 | 330 => 80 | 331 => 81 | 332 => 82 | 215 => 83 | 343 => 93 | n => n, fun | 28 => 44 | 3 => 3 | 46 => 88 | 0 => 0 | 51 => 107 | 53 => 109 | 4 => 4 | 183 => 100 | 182 => 99 | 131 => 91 | 5 => 5 | 9 => 9 | 218 => 118 | 222 => 122 | 228 => 133 | 229 => 134 | n => n, fun | n => n⟩
theorem Tryd.lays189 : Go.Proofs.Lays.n189 Tryd.prog Tryd.lays189_ren := {
  mixed := by kernel_rfl,
  f125 := Tryd.func47.trans (congrArg some (by kernel_rfl)),
  f128 := Tryd.func66.trans (congrArg some (by kernel_rfl)),
  f129 := Tryd.func67.trans (congrArg some (by kernel_rfl)),
  f189 := Tryd.func32.trans (congrArg some (by kernel_rfl)),
  f215 := Tryd.func83.trans (congrArg some (by kernel_rfl)),
  f216 := Tryd.func63.trans (congrArg some (by kernel_rfl)),
  f257 := Tryd.func46.trans (congrArg some (by kernel_rfl)),
  f294 := Tryd.func57.trans (congrArg some (by kernel_rfl)),
  f295 := Tryd.func58.trans (congrArg some (by kernel_rfl)),
  f296 := Tryd.func59.trans (congrArg some (by kernel_rfl)),
  f297 := Tryd.func60.trans (congrArg some (by kernel_rfl)),
  f298 := Tryd.func61.trans (congrArg some (by kernel_rfl)),
  f299 := Tryd.func62.trans (congrArg some (by kernel_rfl)),
  f300 := Tryd.func64.trans (congrArg some (by kernel_rfl)),
  f301 := Tryd.func65.trans (congrArg some (by kernel_rfl)),
  f328 := Tryd.func78.trans (congrArg some (by kernel_rfl)),
  f329 := Tryd.func79.trans (congrArg some (by kernel_rfl)),
  f330 := Tryd.func80.trans (congrArg some (by kernel_rfl)),
  f331 := Tryd.func81.trans (congrArg some (by kernel_rfl)),
  f332 := Tryd.func82.trans (congrArg some (by kernel_rfl)),
  f343 := Tryd.func93.trans (congrArg some (by kernel_rfl)),
  t0 := Tryd.underlying0,
  a0 := Tryd.isAgg0,
  z0 := Tryd.sizeOf0,
  v0 := Tryd.zeroValue0,
  t3 := Tryd.underlying3,
  a3 := Tryd.isAgg3,
  z3 := Tryd.sizeOf3,
  v3 := Tryd.zeroValue3,
  t4 := Tryd.underlying4,
  a4 := Tryd.isAgg4,
  z4 := Tryd.sizeOf4,
  v4 := Tryd.zeroValue4,
  t5 := Tryd.underlying5,
  a5 := Tryd.isAgg5,
  z5 := Tryd.sizeOf5,
  v5 := Tryd.zeroValue5,
  t9 := Tryd.underlying9,
  a9 := Tryd.isAgg9,
  z9 := Tryd.sizeOf9,
  v9 := Tryd.zeroValue9,
  t28 := Tryd.underlying44,
  a28 := Tryd.isAgg44,
  z28 := Tryd.sizeOf44,
  v28 := Tryd.zeroValue44,
  t46 := Tryd.underlying88,
  a46 := Tryd.isAgg88,
  z46 := Tryd.sizeOf88,
  v46 := Tryd.zeroValue88,
  t51 := Tryd.underlying107,
  a51 := Tryd.isAgg107,
  z51 := Tryd.sizeOf107,
  v51 := Tryd.zeroValue107,
  t53 := Tryd.underlying109,
  a53 := Tryd.isAgg109,
  z53 := Tryd.sizeOf109,
  v53 := Tryd.zeroValue109,
  t131 := Tryd.underlying91,
  a131 := Tryd.isAgg91,
  z131 := Tryd.sizeOf91,
  v131 := Tryd.zeroValue91,
  t182 := Tryd.underlying99,
  a182 := Tryd.isAgg99,
  z182 := Tryd.sizeOf99,
  v182 := Tryd.zeroValue99,
  t183 := Tryd.underlying100,
  a183 := Tryd.isAgg100,
  z183 := Tryd.sizeOf100,
  v183 := Tryd.zeroValue100,
  t218 := Tryd.underlying118,
  a218 := Tryd.isAgg118,
  z218 := Tryd.sizeOf118,
  v218 := Tryd.zeroValue118,
  t222 := Tryd.underlying122,
  a222 := Tryd.isAgg122,
  z222 := Tryd.sizeOf122,
  v222 := Tryd.zeroValue122,
  t228 := Tryd.underlying133,
  a228 := Tryd.isAgg133,
  z228 := Tryd.sizeOf133,
  v228 := Tryd.zeroValue133,
  t229 := Tryd.underlying134,
  a229 := Tryd.isAgg134,
  z229 := Tryd.sizeOf134,
  v229 := Tryd.zeroValue134 }
theorem rN : sa Tryd.prog 32 := ⟨⟨Tryd.f32, Tryd.func32, by kernel_rfl, by kernel_rfl⟩, fun blk off cap zs w hH hb hz => Any.slices_Sort_int Tryd.lays189 blk off cap zs w hH hb hz⟩
theorem o9 (m : Mly) : bP Tryd.prog 20 [m.av] (.one (.int .i64 (bn m))) := by
 refine aT Tryd.func20 rfl (by kernel_rfl) (Nat.le_of_ble_eq_true rfl) rfl fun C hP hN hB => ?_
 replace hN : C.N = 104 := hN
 simp only [aV, M]
 refine ad fun _ k1 => ?_
 refine ag hP hN rfl ?_
 iterate 2 (refine ab rfl fun _ k0 => ?_; simp only [zO, zT, acs, reduceCtorEq, O, M, V, aa, Z, Y, Mly.av]; (repeat refine an ?_); (try refine .inl ?_); apply k0; clear k0; simp only [zP, M])
 refine af ?_
 apply k1; clear k1; refine kp [0, 1, 2] ?_
 refine ad fun _ k2 => ?_
 refine ag hP hN rfl ?_
 iterate 4 (refine ab rfl fun _ k0 => ?_; simp only [zO, zT, acs, reduceCtorEq, O, M, V, aa, Z, Y, Mly.av]; (repeat refine an ?_); (try refine .inl ?_); apply k0; clear k0; simp only [zP, M])
 refine af ?_
 apply k2; clear k2; refine kp [0, 1, 2, 3] ?_
 refine ad fun _ k3 => ?_
 refine aG ?_
 refine ad fun _ k4 => ?_
 refine ag hP hN rfl ?_
 iterate 4 (refine ab rfl fun _ k0 => ?_; simp only [zO, zT, acs, reduceCtorEq, O, M, V, aa, Z, Y, Mly.av]; (repeat refine an ?_); (try refine .inl ?_); apply k0; clear k0; simp only [zP, M])
 refine' ay (want := false) 3 rfl (m := 15) (by simp only [zP, O, M]; exact rfl) (by kernel_rfl) rfl rfl rfl rfl rfl (fun hg5 => ?a5) ?b5 ?c5
 case a5 =>
  have hq5 := hg5; (try simp only [zB, reduceCtorEq] at hg5); simp only [zE]
  iterate 3 (refine aO rfl fun _ k0 => ?_; simp only [zO, zT, acs, reduceCtorEq, O, M, V, aa, Z, Y, Mly.av]; (repeat refine an ?_); (try refine .inl ?_); apply k0; clear k0; simp only [zP, M])
  (refine ab rfl fun _ k0 => ?_; simp only [zO, zT, acs, reduceCtorEq, O, M, V, aa, Z, Y, Mly.av]; (repeat refine an ?_); (try refine .inl ?_); apply k0; clear k0; simp only [zP, M])
  refine af ?_
  refine ⟨by simp only [zP, O, M]; exact rfl, rfl, ?_, rfl⟩; (repeat refine az rfl ?_); exact aP (by exact rfl) hq5
 case b5 => exact bq
 simp only [aK, aH]
 (refine ab rfl fun _ k0 => ?_; simp only [zO, zT, acs, reduceCtorEq, O, M, V, aa, Z, Y, Mly.av]; (repeat refine an ?_); (try refine .inl ?_); apply k0; clear k0; simp only [zP, M])
 refine af ?_
 apply k4; clear k4; refine kp [0, 1, 2, 3, 11] ?_
 refine cd (fun hc6 => ?_) (fun hc6 => ?_)
 ·(try simp only [zB, reduceCtorEq] at hc6)
  refine ad fun _ k7 => ?_
  refine ag hP hN rfl ?_
  (refine ab rfl fun _ k0 => ?_; simp only [zO, zT, acs, reduceCtorEq, O, M, V, aa, Z, Y, Mly.av]; (repeat refine an ?_); (try refine .inl ?_); apply k0; clear k0; simp only [zP, M])
  refine af ?_
  apply k7; clear k7; refine kp [0, 1, 2, 3, 11] ?_
  refine au ?_
  refine ⟨nr, _, rfl, ?_⟩; simp only [zF, zP, O, M, Mly.av]
  refine VLE.of_eq ?_
  refine congrArg (fun n => AV.one (AC.int IntKind.i64 n)) ?_
  symm
  unfold bn
  first
  | (rw [if_pos (by omega)]; done)
  | (rw [if_neg (by omega), if_pos (by omega)]; done)
  | (rw [if_neg (by omega), if_neg (by omega), if_pos (by omega)]; done)
  | (rw [if_neg (by omega), if_neg (by omega), if_neg (by omega), if_pos (by omega)]; done)
  | (rw [if_neg (by omega), if_neg (by omega), if_neg (by omega), if_neg (by omega), if_pos (by omega)]; done)
  | (rw [if_neg (by omega), if_neg (by omega), if_neg (by omega), if_neg (by omega), if_neg (by omega)]
     first
     | exact (bh hrows (by omega) (by rw [bH hc32.1 hc32.2 (j := j) (by omega) (by unfold bc; omega)]; decide)).trans (bH hc32.1 hc32.2 (by omega) (by unfold bc; omega))
     | exact (bh hrows (by omega) (by rw [bG hc32]; decide)).trans (bG hc32)
     | exact bB fun i hi => hrows i (by omega))
 (try simp only [zB, reduceCtorEq] at hc6)
 refine ad fun _ k8 => ?_
 refine ag hP hN rfl ?_
 iterate 3 (refine ab rfl fun _ k0 => ?_; simp only [zO, zT, acs, reduceCtorEq, O, M, V, aa, Z, Y, Mly.av]; (repeat refine an ?_); (try refine .inl ?_); apply k0; clear k0; simp only [zP, M])
 refine af ?_
 apply k8; clear k8; refine kp [0, 1, 2, 3, 11, 20] ?_
 refine cd (fun hc9 => ?_) (fun hc9 => ?_)
 ·(try simp only [zB, reduceCtorEq] at hc9)
  refine ad fun _ k10 => ?_
  refine ag hP hN rfl ?_
  (refine ab rfl fun _ k0 => ?_; simp only [zO, zT, acs, reduceCtorEq, O, M, V, aa, Z, Y, Mly.av]; (repeat refine an ?_); (try refine .inl ?_); apply k0; clear k0; simp only [zP, M])
  refine af ?_
  apply k10; clear k10; refine kp [0, 1, 2, 3, 11, 20] ?_
  refine au ?_
  refine ⟨nr, _, rfl, ?_⟩; simp only [zF, zP, O, M, Mly.av]
  refine VLE.of_eq ?_
  refine congrArg (fun n => AV.one (AC.int IntKind.i64 n)) ?_
  symm
  unfold bn
  first
  | (rw [if_pos (by omega)]; done)
  | (rw [if_neg (by omega), if_pos (by omega)]; done)
  | (rw [if_neg (by omega), if_neg (by omega), if_pos (by omega)]; done)
  | (rw [if_neg (by omega), if_neg (by omega), if_neg (by omega), if_pos (by omega)]; done)
  | (rw [if_neg (by omega), if_neg (by omega), if_neg (by omega), if_neg (by omega), if_pos (by omega)]; done)
  | (rw [if_neg (by omega), if_neg (by omega), if_neg (by omega), if_neg (by omega), if_neg (by omega)]
     first
     | exact (bh hrows (by omega) (by rw [bH hc32.1 hc32.2 (j := j) (by omega) (by unfold bc; omega)]; decide)).trans (bH hc32.1 hc32.2 (by omega) (by unfold bc; omega))
     | exact (bh hrows (by omega) (by rw [bG hc32]; decide)).trans (bG hc32)
     | exact bB fun i hi => hrows i (by omega))
 (try simp only [zB, reduceCtorEq] at hc9)
 refine ad fun _ k11 => ?_
 refine ag hP hN rfl ?_
 iterate 3 (refine ab rfl fun _ k0 => ?_; simp only [zO, zT, acs, reduceCtorEq, O, M, V, aa, Z, Y, Mly.av]; (repeat refine an ?_); (try refine .inl ?_); apply k0; clear k0; simp only [zP, M])
 refine af ?_
 apply k11; clear k11; refine kp [0, 1, 2, 3, 11, 20, 23] ?_
 refine cd (fun hc12 => ?_) (fun hc12 => ?_)
 ·(try simp only [zB, reduceCtorEq] at hc12)
  refine ad fun _ k13 => ?_
  refine ag hP hN rfl ?_
  (refine ab rfl fun _ k0 => ?_; simp only [zO, zT, acs, reduceCtorEq, O, M, V, aa, Z, Y, Mly.av]; (repeat refine an ?_); (try refine .inl ?_); apply k0; clear k0; simp only [zP, M])
  refine af ?_
  apply k13; clear k13; refine kp [0, 1, 2, 3, 11, 20, 23] ?_
  refine au ?_
  refine ⟨nr, _, rfl, ?_⟩; simp only [zF, zP, O, M, Mly.av]
  refine VLE.of_eq ?_
  refine congrArg (fun n => AV.one (AC.int IntKind.i64 n)) ?_
  symm
  unfold bn
  first
  | (rw [if_pos (by omega)]; done)
  | (rw [if_neg (by omega), if_pos (by omega)]; done)
  | (rw [if_neg (by omega), if_neg (by omega), if_pos (by omega)]; done)
  | (rw [if_neg (by omega), if_neg (by omega), if_neg (by omega), if_pos (by omega)]; done)
  | (rw [if_neg (by omega), if_neg (by omega), if_neg (by omega), if_neg (by omega), if_pos (by omega)]; done)
  | (rw [if_neg (by omega), if_neg (by omega), if_neg (by omega), if_neg (by omega), if_neg (by omega)]
     first
     | exact (bh hrows (by omega) (by rw [bH hc32.1 hc32.2 (j := j) (by omega) (by unfold bc; omega)]; decide)).trans (bH hc32.1 hc32.2 (by omega) (by unfold bc; omega))
     | exact (bh hrows (by omega) (by rw [bG hc32]; decide)).trans (bG hc32)
     | exact bB fun i hi => hrows i (by omega))
 (try simp only [zB, reduceCtorEq] at hc12)
 refine ad fun _ k14 => ?_
 refine ag hP hN rfl ?_
 iterate 4 (refine ab rfl fun _ k0 => ?_; simp only [zO, zT, acs, reduceCtorEq, O, M, V, aa, Z, Y, Mly.av]; (repeat refine an ?_); (try refine .inl ?_); apply k0; clear k0; simp only [zP, M])
 refine' ay (want := false) 4 rfl (m := 30) (by simp only [zP, O, M]; exact rfl) (by kernel_rfl) rfl rfl rfl rfl rfl (fun hg15 => ?a15) ?b15 ?c15
 case a15 =>
  have hq15 := hg15; (try simp only [zB, reduceCtorEq] at hg15); simp only [zE]
  iterate 4 (refine aO rfl fun _ k0 => ?_; simp only [zO, zT, acs, reduceCtorEq, O, M, V, aa, Z, Y, Mly.av]; (repeat refine an ?_); (try refine .inl ?_); apply k0; clear k0; simp only [zP, M])
  (refine ab rfl fun _ k0 => ?_; simp only [zO, zT, acs, reduceCtorEq, O, M, V, aa, Z, Y, Mly.av]; (repeat refine an ?_); (try refine .inl ?_); apply k0; clear k0; simp only [zP, M])
  refine af ?_
  refine ⟨by simp only [zP, O, M]; exact rfl, rfl, ?_, rfl⟩; (repeat refine az rfl ?_); exact aP (by exact rfl) hq15
 case b15 => exact bq
 simp only [aK, aH]
 (refine ab rfl fun _ k0 => ?_; simp only [zO, zT, acs, reduceCtorEq, O, M, V, aa, Z, Y, Mly.av]; (repeat refine an ?_); (try refine .inl ?_); apply k0; clear k0; simp only [zP, M])
 refine af ?_
 apply k14; clear k14; refine kp [0, 1, 2, 3, 11, 20, 23, 26] ?_
 refine cd (fun hc16 => ?_) (fun hc16 => ?_)
 ·(try simp only [zB, reduceCtorEq] at hc16)
  refine ad fun _ k17 => ?_
  refine ag hP hN rfl ?_
  (refine ab rfl fun _ k0 => ?_; simp only [zO, zT, acs, reduceCtorEq, O, M, V, aa, Z, Y, Mly.av]; (repeat refine an ?_); (try refine .inl ?_); apply k0; clear k0; simp only [zP, M])
  refine af ?_
  apply k17; clear k17; refine kp [0, 1, 2, 3, 11, 20, 23, 26] ?_
  refine au ?_
  refine ⟨nr, _, rfl, ?_⟩; simp only [zF, zP, O, M, Mly.av]
  refine VLE.of_eq ?_
  refine congrArg (fun n => AV.one (AC.int IntKind.i64 n)) ?_
  symm
  unfold bn
  first
  | (rw [if_pos (by omega)]; done)
  | (rw [if_neg (by omega), if_pos (by omega)]; done)
  | (rw [if_neg (by omega), if_neg (by omega), if_pos (by omega)]; done)
  | (rw [if_neg (by omega), if_neg (by omega), if_neg (by omega), if_pos (by omega)]; done)
  | (rw [if_neg (by omega), if_neg (by omega), if_neg (by omega), if_neg (by omega), if_pos (by omega)]; done)
  | (rw [if_neg (by omega), if_neg (by omega), if_neg (by omega), if_neg (by omega), if_neg (by omega)]
     first
     | exact (bh hrows (by omega) (by rw [bH hc32.1 hc32.2 (j := j) (by omega) (by unfold bc; omega)]; decide)).trans (bH hc32.1 hc32.2 (by omega) (by unfold bc; omega))
     | exact (bh hrows (by omega) (by rw [bG hc32]; decide)).trans (bG hc32)
     | exact bB fun i hi => hrows i (by omega))
 (try simp only [zB, reduceCtorEq] at hc16)
 refine ad fun _ k18 => ?_
 refine ag hP hN rfl ?_
 iterate 6 (refine ab rfl fun _ k0 => ?_; simp only [zO, zT, acs, reduceCtorEq, O, M, V, aa, Z, Y, Mly.av]; (repeat refine an ?_); (try refine .inl ?_); apply k0; clear k0; simp only [zP, M])
 refine af ?_
 apply k18; clear k18; refine kp [0, 1, 2, 3, 11, 20, 23, 26, 36] ?_
 refine cd (fun hc19 => ?_) (fun hc19 => ?_)
 ·(try simp only [zB, reduceCtorEq] at hc19)
  refine ad fun _ k20 => ?_
  refine ag hP hN rfl ?_
  (refine ab rfl fun _ k0 => ?_; simp only [zO, zT, acs, reduceCtorEq, O, M, V, aa, Z, Y, Mly.av]; (repeat refine an ?_); (try refine .inl ?_); apply k0; clear k0; simp only [zP, M])
  refine af ?_
  apply k20; clear k20; refine kp [0, 1, 2, 3, 11, 20, 23, 26, 36] ?_
  refine au ?_
  refine ⟨nr, _, rfl, ?_⟩; simp only [zF, zP, O, M, Mly.av]
  refine VLE.of_eq ?_
  refine congrArg (fun n => AV.one (AC.int IntKind.i64 n)) ?_
  symm
  unfold bn
  first
  | (rw [if_pos (by omega)]; done)
  | (rw [if_neg (by omega), if_pos (by omega)]; done)
  | (rw [if_neg (by omega), if_neg (by omega), if_pos (by omega)]; done)
  | (rw [if_neg (by omega), if_neg (by omega), if_neg (by omega), if_pos (by omega)]; done)
  | (rw [if_neg (by omega), if_neg (by omega), if_neg (by omega), if_neg (by omega), if_pos (by omega)]; done)
  | (rw [if_neg (by omega), if_neg (by omega), if_neg (by omega), if_neg (by omega), if_neg (by omega)]
     first
     | exact (bh hrows (by omega) (by rw [bH hc32.1 hc32.2 (j := j) (by omega) (by unfold bc; omega)]; decide)).trans (bH hc32.1 hc32.2 (by omega) (by unfold bc; omega))
     | exact (bh hrows (by omega) (by rw [bG hc32]; decide)).trans (bG hc32)
     | exact bB fun i hi => hrows i (by omega))
 (try simp only [zB, reduceCtorEq] at hc19)
 refine ax ?_
 apply k3; clear k3; refine kp [0, 1, 2, 3, 11, 20, 23, 26, 36] ?_
 refine ad fun _ k21 => ?_
 refine ad fun _ k22 => ?_
 refine ag hP hN rfl ?_
 iterate 2 (refine ab rfl fun _ k0 => ?_; simp only [zO, zT, acs, reduceCtorEq, O, M, V, aa, Z, Y, Mly.av]; (repeat refine an ?_); (try refine .inl ?_); apply k0; clear k0; simp only [zP, M])
 refine af ?_
 apply k22; clear k22; refine kp [0, 1, 2, 3, 11, 20, 23, 26, 36, 42, 43] ?_
 refine aG ?_
 refine bD (fun n23 s23 => ∃ (k : Nat), (k ≤ m.nx.length) ∧ (∀ i, i < k → gk m i = 0) ∧ n23 = m.nx.length - k ∧ s23 = { env := [(1, .one (.ptr 0 0 0 0)), (3, .one (.int .i64 (m.nx.length : Int))), (42, .one (.int .i64 (m.nx.length : Int))), (43, .one (.int .i64 (k : Int)))], L := [.vars 27 [.int .i64 m.inp, .int .i64 m.st, .list (.list (.int .i64)) m.nx, .list (.list (.int .i64)) m.ot]] }) ?_ ?_
 ·exact ⟨_, _, aL [1, 3, 42, 43], 0, Nat.zero_le _, fun i hi => by omega, rfl, rfl⟩
 rintro n23 s23 ⟨k, hk, hrows, rfl, rfl⟩
 refine ad fun _ k24 => ?_
 refine ag hP hN rfl ?_
 (refine ab rfl fun _ k0 => ?_; simp only [zO, zT, acs, reduceCtorEq, O, M, V, aa, Z, Y, Mly.av]; (repeat refine an ?_); (try refine .inl ?_); apply k0; clear k0; simp only [zP, M])
 refine af ?_
 apply k24; clear k24; refine kp [1, 3, 42, 43, 44] ?_
 refine ad fun _ k25 => ?_
 refine cd (fun hc26 => ?_) (fun hc26 => ?_)
 ·(try simp only [zB, reduceCtorEq] at hc26)
  refine ax ?_
  apply k25; clear k25; refine kp [1, 3, 42, 43, 44] ?_
  refine ad fun _ k27 => ?_
  refine aG ?_
  refine ad fun _ k28 => ?_
  refine ag hP hN rfl ?_
  iterate 2 (refine ab rfl fun _ k0 => ?_; simp only [zO, zT, acs, reduceCtorEq, O, M, V, aa, Z, Y, Mly.av]; (repeat refine an ?_); (try refine .inl ?_); apply k0; clear k0; simp only [zP, M])
  refine af ?_
  apply k28; clear k28; refine kp [1, 3, 4, 42, 43, 44] ?_
  refine ad fun _ k29 => ?_
  refine ad fun _ k30 => ?_
  refine cm hP hN Tryd.mixed rfl ?_
  iterate 10 (refine ab rfl fun _ k0 => ?_; simp only [zO, zT, acs, reduceCtorEq, O, M, V, aa, Z, Y, Mly.av]; (repeat refine an ?_); (try refine .inl ?_); apply k0; clear k0; simp only [zP, M])
  refine' ay (want := false) 9 rfl (m := 55) (by simp only [zP, O, M]; exact rfl) (by kernel_rfl) rfl rfl rfl rfl rfl (fun hg31 => ?a31) ?b31 ?c31
  case a31 =>
   have hq31 := hg31; (try simp only [zB, reduceCtorEq] at hg31); simp only [zE]
   iterate 9 (refine aO rfl fun _ k0 => ?_; simp only [zO, zT, acs, reduceCtorEq, O, M, V, aa, Z, Y, Mly.av]; (repeat refine an ?_); (try refine .inl ?_); apply k0; clear k0; simp only [zP, M])
   (refine ab rfl fun _ k0 => ?_; simp only [zO, zT, acs, reduceCtorEq, O, M, V, aa, Z, Y, Mly.av]; (repeat refine an ?_); (try refine .inl ?_); apply k0; clear k0; simp only [zP, M])
   refine af ?_
   refine ⟨by simp only [zP, O, M]; exact rfl, rfl, ?_, rfl⟩; (repeat refine az rfl ?_); exact aP (by exact rfl) hq31
  case b31 => exact bq
  simp only [aK, aH]
  refine af ?_
  refine ⟨by kernel_rfl, ?_⟩
  apply k30; clear k30; refine kp [1, 3, 4, 42, 43, 44, 65] ?_
  refine cd (fun hc32 => ?_) (fun hc32 => ?_)
  ·(try simp only [zB, reduceCtorEq] at hc32)
   refine ad fun _ k33 => ?_
   refine ag hP hN rfl ?_
   (refine ab rfl fun _ k0 => ?_; simp only [zO, zT, acs, reduceCtorEq, O, M, V, aa, Z, Y, Mly.av]; (repeat refine an ?_); (try refine .inl ?_); apply k0; clear k0; simp only [zP, M])
   refine af ?_
   apply k33; clear k33; refine kp [1, 2, 3, 4, 42, 43, 44, 65] ?_
   refine au ?_
   refine ⟨nr, _, rfl, ?_⟩; simp only [zF, zP, O, M, Mly.av]
   refine VLE.of_eq ?_
   refine congrArg (fun n => AV.one (AC.int IntKind.i64 n)) ?_
   symm
   unfold bn
   first
   | (rw [if_pos (by omega)]; done)
   | (rw [if_neg (by omega), if_pos (by omega)]; done)
   | (rw [if_neg (by omega), if_neg (by omega), if_pos (by omega)]; done)
   | (rw [if_neg (by omega), if_neg (by omega), if_neg (by omega), if_pos (by omega)]; done)
   | (rw [if_neg (by omega), if_neg (by omega), if_neg (by omega), if_neg (by omega), if_pos (by omega)]; done)
   | (rw [if_neg (by omega), if_neg (by omega), if_neg (by omega), if_neg (by omega), if_neg (by omega)]
      first
      | exact (bh hrows (by omega) (by rw [bH hc32.1 hc32.2 (j := j) (by omega) (by unfold bc; omega)]; decide)).trans (bH hc32.1 hc32.2 (by omega) (by unfold bc; omega))
      | exact (bh hrows (by omega) (by rw [bG hc32]; decide)).trans (bG hc32)
      | exact bB fun i hi => hrows i (by omega))
  (try simp only [zB, reduceCtorEq] at hc32)
  refine ax ?_
  apply k29; clear k29; refine kp [1, 3, 4, 42, 43, 44, 65] ?_
  refine ad fun _ k34 => ?_
  refine ag hP hN rfl ?_
  iterate 3 (refine ab rfl fun _ k0 => ?_; simp only [zO, zT, acs, reduceCtorEq, O, M, V, aa, Z, Y, Mly.av]; (repeat refine an ?_); (try refine .inl ?_); apply k0; clear k0; simp only [zP, M])
  refine af ?_
  apply k34; clear k34; refine kp [1, 3, 4, 42, 43, 44, 65, 67, 68] ?_
  refine aG ?_
  refine bD (fun n35 s35 => ∃ (j : Nat), ((j : Int) ≤ m.inp) ∧ (∀ a, a < j → ¬ bc m k a) ∧ n35 = m.inp.toNat - j ∧ s35 = { env := [(1, .one (.ptr 0 0 0 0)), (3, .one (.int .i64 (m.nx.length : Int))), (4, .one (.int .i64 (k : Int))), (42, .one (.int .i64 (m.nx.length : Int))), (43, .one (.int .i64 (k : Int))), (67, .one (.int .i64 m.inp)), (68, .one (.int .i64 (j : Int)))], L := [.vars 27 [.int .i64 m.inp, .int .i64 m.st, .list (.list (.int .i64)) m.nx, .list (.list (.int .i64)) m.ot]] }) ?_ ?_
  ·refine ⟨_, _, aL [1, 3, 4, 42, 43, 67, 68], 0, ?_, fun i hi => by omega, rfl, rfl⟩; omega
  rintro n35 s35 ⟨j, hj, hcells, rfl, rfl⟩
  refine ad fun _ k36 => ?_
  refine ag hP hN rfl ?_
  (refine ab rfl fun _ k0 => ?_; simp only [zO, zT, acs, reduceCtorEq, O, M, V, aa, Z, Y, Mly.av]; (repeat refine an ?_); (try refine .inl ?_); apply k0; clear k0; simp only [zP, M])
  refine af ?_
  apply k36; clear k36; refine kp [1, 3, 4, 42, 43, 67, 68, 69] ?_
  refine ad fun _ k37 => ?_
  refine cd (fun hc38 => ?_) (fun hc38 => ?_)
  ·(try simp only [zB, reduceCtorEq] at hc38)
   refine ax ?_
   apply k37; clear k37; refine kp [1, 3, 4, 42, 43, 67, 68, 69] ?_
   refine ad fun _ k39 => ?_
   refine aG ?_
   refine ad fun _ k40 => ?_
   refine ag hP hN rfl ?_
   iterate 2 (refine ab rfl fun _ k0 => ?_; simp only [zO, zT, acs, reduceCtorEq, O, M, V, aa, Z, Y, Mly.av]; (repeat refine an ?_); (try refine .inl ?_); apply k0; clear k0; simp only [zP, M])
   refine af ?_
   apply k40; clear k40; refine kp [1, 3, 4, 5, 42, 43, 67, 68, 69] ?_
   refine ad fun _ k41 => ?_
   refine cm hP hN Tryd.mixed rfl ?_
   iterate 18 (refine ab rfl fun _ k0 => ?_; simp only [zO, zT, acs, reduceCtorEq, O, M, V, aa, Z, Y, Mly.av]; (repeat refine an ?_); (try refine .inl ?_); apply k0; clear k0; simp only [zP, M])
   refine af ?_
   refine ⟨by kernel_rfl, ?_⟩
   apply k41; clear k41; refine kp [1, 3, 4, 5, 6, 7, 42, 43, 67, 68, 69] ?_
   refine ad fun _ k42 => ?_
   refine ag hP hN rfl ?_
   iterate 3 (refine ab rfl fun _ k0 => ?_; simp only [zO, zT, acs, reduceCtorEq, O, M, V, aa, Z, Y, Mly.av]; (repeat refine an ?_); (try refine .inl ?_); apply k0; clear k0; simp only [zP, M])
   refine' ay (want := false) 3 rfl (m := 89) (by simp only [zP, O, M]; exact rfl) (by kernel_rfl) rfl rfl rfl rfl rfl (fun hg43 => ?a43) ?b43 ?c43
   case a43 =>
    have hq43 := hg43; (try simp only [zB, reduceCtorEq] at hg43); simp only [zE]
    iterate 3 (refine aO rfl fun _ k0 => ?_; simp only [zO, zT, acs, reduceCtorEq, O, M, V, aa, Z, Y, Mly.av]; (repeat refine an ?_); (try refine .inl ?_); apply k0; clear k0; simp only [zP, M])
    (refine ab rfl fun _ k0 => ?_; simp only [zO, zT, acs, reduceCtorEq, O, M, V, aa, Z, Y, Mly.av]; (repeat refine an ?_); (try refine .inl ?_); apply k0; clear k0; simp only [zP, M])
    refine af ?_
    refine ⟨by simp only [zP, O, M]; exact rfl, rfl, ?_, rfl⟩; (repeat refine az rfl ?_); exact aP (by exact rfl) hq43
   case b43 => exact bq
   simp only [aK, aH]
   (refine ab rfl fun _ k0 => ?_; simp only [zO, zT, acs, reduceCtorEq, O, M, V, aa, Z, Y, Mly.av]; (repeat refine an ?_); (try refine .inl ?_); apply k0; clear k0; simp only [zP, M])
   refine' ay (want := false) 2 rfl (m := 94) (by simp only [zP, O, M]; exact rfl) (by kernel_rfl) rfl rfl rfl rfl rfl (fun hg44 => ?a44) ?b44 ?c44
   case a44 =>
    have hq44 := hg44; (try simp only [zB, reduceCtorEq] at hg44); simp only [zE]
    iterate 2 (refine aO rfl fun _ k0 => ?_; simp only [zO, zT, acs, reduceCtorEq, O, M, V, aa, Z, Y, Mly.av]; (repeat refine an ?_); (try refine .inl ?_); apply k0; clear k0; simp only [zP, M])
    (refine ab rfl fun _ k0 => ?_; simp only [zO, zT, acs, reduceCtorEq, O, M, V, aa, Z, Y, Mly.av]; (repeat refine an ?_); (try refine .inl ?_); apply k0; clear k0; simp only [zP, M])
    refine af ?_
    refine ⟨by simp only [zP, O, M]; exact rfl, rfl, ?_, rfl⟩; (repeat refine az rfl ?_); exact aP (by exact rfl) hq44
   case b44 => exact bq
   simp only [aK, aH]
   (refine ab rfl fun _ k0 => ?_; simp only [zO, zT, acs, reduceCtorEq, O, M, V, aa, Z, Y, Mly.av]; (repeat refine an ?_); (try refine .inl ?_); apply k0; clear k0; simp only [zP, M])
   refine' ay (want := false) 2 rfl (m := 98) (by simp only [zP, O, M]; exact rfl) (by kernel_rfl) rfl rfl rfl rfl rfl (fun hg45 => ?a45) ?b45 ?c45
   case a45 =>
    have hq45 := hg45; (try simp only [zB, reduceCtorEq] at hg45); simp only [zE]
    iterate 2 (refine aO rfl fun _ k0 => ?_; simp only [zO, zT, acs, reduceCtorEq, O, M, V, aa, Z, Y, Mly.av]; (repeat refine an ?_); (try refine .inl ?_); apply k0; clear k0; simp only [zP, M])
    (refine ab rfl fun _ k0 => ?_; simp only [zO, zT, acs, reduceCtorEq, O, M, V, aa, Z, Y, Mly.av]; (repeat refine an ?_); (try refine .inl ?_); apply k0; clear k0; simp only [zP, M])
    refine af ?_
    refine ⟨by simp only [zP, O, M]; exact rfl, rfl, ?_, rfl⟩; (repeat refine az rfl ?_); exact aP (by exact rfl) hq45
   case b45 => exact bq
   simp only [aK, aH]
   refine af ?_
   apply k42; clear k42; refine kp [1, 3, 4, 5, 6, 7, 42, 43, 67, 68, 69, 101] ?_
   refine cd (fun hc46 => ?_) (fun hc46 => ?_)
   ·(try simp only [zB, reduceCtorEq] at hc46)
    refine ad fun _ k47 => ?_
    refine ag hP hN rfl ?_
    (refine ab rfl fun _ k0 => ?_; simp only [zO, zT, acs, reduceCtorEq, O, M, V, aa, Z, Y, Mly.av]; (repeat refine an ?_); (try refine .inl ?_); apply k0; clear k0; simp only [zP, M])
    refine af ?_
    apply k47; clear k47; refine kp [1, 2, 3, 4, 5, 6, 7, 42, 43, 67, 68, 69, 101] ?_
    refine au ?_
    refine ⟨nr, _, rfl, ?_⟩; simp only [zF, zP, O, M, Mly.av]
    refine VLE.of_eq ?_
    refine congrArg (fun n => AV.one (AC.int IntKind.i64 n)) ?_
    symm
    unfold bn
    first
    | (rw [if_pos (by omega)]; done)
    | (rw [if_neg (by omega), if_pos (by omega)]; done)
    | (rw [if_neg (by omega), if_neg (by omega), if_pos (by omega)]; done)
    | (rw [if_neg (by omega), if_neg (by omega), if_neg (by omega), if_pos (by omega)]; done)
    | (rw [if_neg (by omega), if_neg (by omega), if_neg (by omega), if_neg (by omega), if_pos (by omega)]; done)
    | (rw [if_neg (by omega), if_neg (by omega), if_neg (by omega), if_neg (by omega), if_neg (by omega)]
       first
       | exact (bh hrows (by omega) (by rw [bH hc32.1 hc32.2 (j := j) (by omega) (by unfold bc; omega)]; decide)).trans (bH hc32.1 hc32.2 (by omega) (by unfold bc; omega))
       | exact (bh hrows (by omega) (by rw [bG hc32]; decide)).trans (bG hc32)
       | exact bB fun i hi => hrows i (by omega))
   (try simp only [zB, reduceCtorEq] at hc46)
   refine ax ?_
   apply k39; clear k39; refine kp [1, 3, 4, 5, 6, 7, 42, 43, 67, 68, 69, 101] ?_
   refine ag hP hN rfl ?_
   iterate 2 (refine ab rfl fun _ k0 => ?_; simp only [zO, zT, acs, reduceCtorEq, O, M, V, aa, Z, Y, Mly.av]; (repeat refine an ?_); (try refine .inl ?_); apply k0; clear k0; simp only [zP, M])
   refine af ?_
   refine ⟨_, _, ?_, aL [1, 3, 4, 42, 43, 67, 68], j + 1, ?_, fun a ha => ?_, rfl, rfl⟩
   · omega
   · omega
   · by_cases e : a = j
     · rw [e]; unfold bc; omega
     · exact hcells a (by omega)
  (try simp only [zB, reduceCtorEq] at hc38)
  refine bC ?_
  apply k27; clear k27; refine kp [1, 3, 4, 42, 43, 67, 68, 69] ?_
  refine ag hP hN rfl ?_
  iterate 2 (refine ab rfl fun _ k0 => ?_; simp only [zO, zT, acs, reduceCtorEq, O, M, V, aa, Z, Y, Mly.av]; (repeat refine an ?_); (try refine .inl ?_); apply k0; clear k0; simp only [zP, M])
  refine af ?_
  refine ⟨_, _, ?_, aL [1, 3, 42, 43], k + 1, by omega, fun i hi => ?_, rfl, rfl⟩
  · omega
  · by_cases e : i = k
    · rw [e]; exact sL hc32.1 hc32.2 fun a ha => hcells a (by omega)
    · exact hrows i (by omega)
 (try simp only [zB, reduceCtorEq] at hc26)
 refine bC ?_
 apply k21; clear k21; refine kp [1, 3, 42, 43, 44] ?_
 refine ad fun _ k48 => ?_
 refine ag hP hN rfl ?_
 (refine ab rfl fun _ k0 => ?_; simp only [zO, zT, acs, reduceCtorEq, O, M, V, aa, Z, Y, Mly.av]; (repeat refine an ?_); (try refine .inl ?_); apply k0; clear k0; simp only [zP, M])
 refine af ?_
 apply k48; clear k48; refine kp [1, 2, 3, 42, 43, 44] ?_
 refine au ?_
 refine ⟨nr, _, rfl, ?_⟩; simp only [zF, zP, O, M, Mly.av]
 refine VLE.of_eq ?_
 refine congrArg (fun n => AV.one (AC.int IntKind.i64 n)) ?_
 symm
 unfold bn
 first
 | (rw [if_pos (by omega)]; done)
 | (rw [if_neg (by omega), if_pos (by omega)]; done)
 | (rw [if_neg (by omega), if_neg (by omega), if_pos (by omega)]; done)
 | (rw [if_neg (by omega), if_neg (by omega), if_neg (by omega), if_pos (by omega)]; done)
 | (rw [if_neg (by omega), if_neg (by omega), if_neg (by omega), if_neg (by omega), if_pos (by omega)]; done)
 | (rw [if_neg (by omega), if_neg (by omega), if_neg (by omega), if_neg (by omega), if_neg (by omega)]
    first
    | exact (bh hrows (by omega) (by rw [bH hc32.1 hc32.2 (j := j) (by omega) (by unfold bc; omega)]; decide)).trans (bH hc32.1 hc32.2 (by omega) (by unfold bc; omega))
    | exact (bh hrows (by omega) (by rw [bG hc32]; decide)).trans (bG hc32)
    | exact bB fun i hi => hrows i (by omega))
theorem sR (m : Mly) : bP Tryd.prog 21 [m.av] (.one (.list (.int .i64) (cV m))) := by
 refine aT Tryd.func21 rfl (by kernel_rfl) (Nat.le_of_ble_eq_true rfl) rfl fun C hP hN hB => ?_
 replace hN : C.N = 24 := hN
 simp only [aV, M]
 refine ad fun _ k1 => ?_
 refine ag hP hN rfl ?_
 iterate 2 (refine ab rfl fun _ k0 => ?_; simp only [zO, zT, acs, reduceCtorEq, O, M, V, aa, Z, Y, Mly.av]; (repeat refine an ?_); (try refine .inl ?_); apply k0; clear k0; simp only [zP, M])
 refine af ?_
 apply k1; clear k1; refine kp [0, 1, 2] ?_
 refine ad fun _ k2 => ?_
 refine ad fun _ k3 => ?_
 refine ag hP hN rfl ?_
 (refine ab rfl fun _ k0 => ?_; simp only [zO, zT, acs, reduceCtorEq, O, M, V, aa, Z, Y, Mly.av]; (repeat refine an ?_); (try refine .inl ?_); apply k0; clear k0; simp only [zP, M])
 refine ab rfl fun _ k0 => ?_
 refine aw (h := am (o9 m)) rfl rfl (by first | exact rfl | (simp only [ev, zP, O, M]; exact rfl)) (by simp only [zV, acs, reduceCtorEq, O, M, V, aa, Z, Y, Mly.av]) ?_
 apply k0; clear k0; simp only [zP, M]
 (refine ab rfl fun _ k0 => ?_; simp only [zO, zT, acs, reduceCtorEq, O, M, V, aa, Z, Y, Mly.av]; (repeat refine an ?_); (try refine .inl ?_); apply k0; clear k0; simp only [zP, M])
 refine af ?_
 apply k3; clear k3; refine kp [0, 1, 2, 8] ?_
 refine cd (fun hc4 => ?_) (fun hc4 => ?_)
 ·(try simp only [zB, reduceCtorEq] at hc4)
  refine ad fun _ k5 => ?_
  refine ag hP hN rfl ?_
  (refine ab rfl fun _ k0 => ?_; simp only [zO, zT, acs, reduceCtorEq, O, M, V, aa, Z, Y, Mly.av]; (repeat refine an ?_); (try refine .inl ?_); apply k0; clear k0; simp only [zP, M])
  refine af ?_
  apply k5; clear k5; refine kp [0, 1, 2, 8] ?_
  refine au ?_
  refine ⟨nr, _, rfl, ?_⟩; simp only [zF, zP, O, M, Mly.av]
  first
  | (rw [mg ‹¬bn m = 0›]; exact oB (ey rfl))
  | (rw [ga hv]; exact VLE.of_eq rfl)
 (try simp only [zB, reduceCtorEq] at hc4)
 have hv : bn m = 0 := by omega
 have hm := kc hv; have hol := hm.ol; have hi1 := hm.i1; have hi2 := hm.i2; have hn1 := hm.n1; have hn2 := hm.n2
 refine ax ?_
 apply k2; clear k2; refine kp [0, 1, 2, 8] ?_
 refine ad fun _ k6 => ?_
 refine ag hP hN rfl ?_
 (refine ab rfl fun _ k0 => ?_; simp only [zO, zT, acs, reduceCtorEq, O, M, V, aa, Z, Y, Mly.av]; (repeat refine an ?_); (try refine .inl ?_); apply k0; clear k0; simp only [zP, M])
 refine af ?_
 apply k6; clear k6; refine kp [0, 1, 2, 3, 8] ?_
 refine ad fun _ k7 => ?_
 refine ad fun _ k8 => ?_
 refine ag hP hN rfl ?_
 iterate 4 (refine ab rfl fun _ k0 => ?_; simp only [zO, zT, acs, reduceCtorEq, O, M, V, aa, Z, Y, Mly.av]; (repeat refine an ?_); (try refine .inl ?_); apply k0; clear k0; simp only [zP, M])
 refine af ?_
 apply k8; clear k8; refine kp [0, 1, 2, 3, 8, 10, 11, 12] ?_
 refine aG ?_
 refine lH 3 (.int .i64) 3 (by decide) rfl ?_; simp only [aj, aq, ak, ar, Nat.zero_add, M]
 refine bD (fun n9 s9 => ∃ (s : Nat) (v : Nat), (s ≤ m.ot.length) ∧ n9 = m.ot.length - s ∧ s9 = { env := [(3, .one (.row 1 v)), (10, .one (.list (.list (.int .i64)) m.ot)), (11, .one (.int .i64 (m.ot.length : Int))), (12, .one (.int .i64 (s : Int)))], L := [.vars 27 [.int .i64 m.inp, .int .i64 m.st, .list (.list (.int .i64)) m.nx, .list (.list (.int .i64)) m.ot], .row (.int .i64) 3 v (m.ot.take s).flatten] }) ?_ ?_
 ·exact ⟨_, _, aL [3, 10, 11, 12], 0, 0, Nat.zero_le _, rfl, rfl⟩
 rintro n9 s9 ⟨s, v, hs, rfl, rfl⟩
 refine ad fun _ k10 => ?_
 refine ag hP hN rfl ?_
 (refine ab rfl fun _ k0 => ?_; simp only [zO, zT, acs, reduceCtorEq, O, M, V, aa, Z, Y, Mly.av]; (repeat refine an ?_); (try refine .inl ?_); apply k0; clear k0; simp only [zP, M])
 refine af ?_
 apply k10; clear k10; refine kp [3, 10, 11, 12, 13] ?_
 refine ad fun _ k11 => ?_
 refine cd (fun hc12 => ?_) (fun hc12 => ?_)
 ·(try simp only [zB, reduceCtorEq] at hc12)
  refine ax ?_
  apply k11; clear k11; refine kp [3, 10, 11, 12, 13] ?_
  refine ad fun _ k13 => ?_
  refine aG ?_
  refine ad fun _ k14 => ?_
  refine ag hP hN rfl ?_
  iterate 3 (refine ab rfl fun _ k0 => ?_; simp only [zO, zT, acs, reduceCtorEq, O, M, V, aa, Z, Y, Mly.av]; (repeat refine an ?_); (try refine .inl ?_); apply k0; clear k0; simp only [zP, M])
  refine af ?_
  apply k14; clear k14; refine kp [3, 5, 10, 11, 12, 13] ?_
  have hf2 := fT hm (k := s + 1) (by omega); have hf3 := fT hm (k := s) (by omega); rw [dZ _ (by omega), ah] at hf2
  refine ag hP hN rfl ?_
  iterate 4 (refine ab rfl fun _ k0 => ?_; simp only [zO, zT, acs, reduceCtorEq, O, M, V, aa, Z, Y, Mly.av]; (repeat refine an ?_); (try refine .inl ?_); apply k0; clear k0; simp only [zP, M])
  refine af ?_
  apply k13; clear k13; refine kp [3, 5, 10, 11, 12, 13] ?_
  refine ag hP hN rfl ?_
  iterate 2 (refine ab rfl fun _ k0 => ?_; simp only [zO, zT, acs, reduceCtorEq, O, M, V, aa, Z, Y, Mly.av]; (repeat refine an ?_); (try refine .inl ?_); apply k0; clear k0; simp only [zP, M])
  refine af ?_
  refine ⟨_, _, ?_, aL [3, 10, 11, 12], s + 1, v + 1, by omega, rfl, ?_⟩
  · omega
  · rw [dZ _ (by omega)]; rfl
 (try simp only [zB, reduceCtorEq] at hc12)
 refine bC ?_
 apply k7; clear k7; refine kp [3, 10, 11, 12, 13] ?_
 refine ad fun _ k15 => ?_
 have hsl : s = m.ot.length := by omega
 subst hsl
 rw [aF]
 have hf2 := fT hm (k := m.ot.length) (Nat.le_refl _); have hf3 := kn hm m.ot.length (Nat.le_refl _); rw [aF] at hf2 hf3
 have hp9 : (1 : Int) * 1 ≤ m.ot.length * m.inp := Int.mul_le_mul (by omega) (by omega) (by omega) (by omega)
 have hpos : 0 < m.ot.flatten.length := by omega
 refine ag hP hN rfl ?_
 (refine ab rfl fun _ k0 => ?_; simp only [zO, zT, acs, reduceCtorEq, O, M, V, aa, Z, Y, Mly.av]; (repeat refine an ?_); (try refine .inl ?_); apply k0; clear k0; simp only [zP, M])
 refine ab rfl fun _ k0 => ?_
 refine aw (h := pz (k := 1) (ver := v) (xs := m.ot.flatten) rN rfl (by omega) (by omega)) rfl rfl (by first | exact rfl | (simp only [ev, zP, O, M]; exact rfl)) (by simp only [zV, acs, reduceCtorEq, O, M, V, aa, Z, Y, Mly.av]) ?_
 apply k0; clear k0; simp only [zP, M]
 refine af ?_
 apply k15; clear k15; refine kp [3, 10, 11, 12, 13] ?_
 refine ad fun _ k16 => ?_
 refine ag hP hN rfl ?_
 (refine ab rfl fun _ k0 => ?_; simp only [zO, zT, acs, reduceCtorEq, O, M, V, aa, Z, Y, Mly.av]; (repeat refine an ?_); (try refine .inl ?_); apply k0; clear k0; simp only [zP, M])
 refine ab rfl fun _ k0 => ?_
 refine aw (h := lW (k := 1) (ver := v) (xs := f0 m.ot.flatten) oz rfl (by rw [lp]; omega) (by rw [lp]; omega) nh) rfl rfl (by first | exact rfl | (simp only [ev, zP, O, M]; exact rfl)) (by simp only [zV, acs, reduceCtorEq, O, M, V, aa, Z, Y, Mly.av]) ?_
 apply k0; clear k0; simp only [zP, M]
 (refine ab rfl fun _ k0 => ?_; simp only [zO, zT, acs, reduceCtorEq, O, M, V, aa, Z, Y, Mly.av]; (repeat refine an ?_); (try refine .inl ?_); apply k0; clear k0; simp only [zP, M])
 refine af ?_
 apply k16; clear k16; refine kp [2, 3, 10, 11, 12, 13] ?_
 refine au ?_
 refine ⟨nr, _, rfl, ?_⟩; simp only [zF, zP, O, M, Mly.av]
 first
 | (rw [mg ‹¬bn m = 0›]; exact oB (ey rfl))
 | (rw [ga hv]; exact VLE.of_eq rfl)
theorem i9 (x : Mdl) : bP Tryd.prog 10 [x.av] (.one (.int .i64 (mvE x))) := by
 refine aT Tryd.func10 rfl (by kernel_rfl) (Nat.le_of_ble_eq_true rfl) rfl fun C hP hN hB => ?_
 replace hN : C.N = 52 := hN
 simp only [aV, M]
 refine ad fun _ k1 => ?_
 refine ag hP hN rfl ?_
 iterate 2 (refine ab rfl fun _ k0 => ?_; simp only [zO, zT, acs, reduceCtorEq, O, M, V, aa, Z, Y, Mdl.av, Mdl.cs]; (repeat refine an ?_); (try refine .inl ?_); apply k0; clear k0; simp only [zP, M])
 refine af ?_
 apply k1; clear k1; refine kp [0, 1, 2] ?_
 refine ad fun _ k2 => ?_
 refine ad fun _ k3 => ?_
 refine ag hP hN rfl ?_
 iterate 2 (refine ab rfl fun _ k0 => ?_; simp only [zO, zT, acs, reduceCtorEq, O, M, V, aa, Z, Y, Mdl.av, Mdl.cs]; (repeat refine an ?_); (try refine .inl ?_); apply k0; clear k0; simp only [zP, M])
 refine ab rfl fun _ k0 => ?_
 refine aw (h := am (kh x.nm)) rfl rfl (by first | exact rfl | (simp only [ev, zP, O, M]; exact rfl)) (by simp only [zV, acs, reduceCtorEq, O, M, V, aa, Z, Y, Mdl.av, Mdl.cs]) ?_
 apply k0; clear k0; simp only [zP, M]
 (refine ab rfl fun _ k0 => ?_; simp only [zO, zT, acs, reduceCtorEq, O, M, V, aa, Z, Y, Mdl.av, Mdl.cs]; (repeat refine an ?_); (try refine .inl ?_); apply k0; clear k0; simp only [zP, M])
 refine af ?_
 apply k3; clear k3; refine kp [0, 1, 2, 11] ?_
 refine cd (fun hc4 => ?_) (fun hc4 => ?_)
 ·(try simp only [zB, reduceCtorEq] at hc4)
  refine ad fun _ k5 => ?_
  refine ag hP hN rfl ?_
  (refine ab rfl fun _ k0 => ?_; simp only [zO, zT, acs, reduceCtorEq, O, M, V, aa, Z, Y, Mdl.av, Mdl.cs]; (repeat refine an ?_); (try refine .inl ?_); apply k0; clear k0; simp only [zP, M])
  refine af ?_
  apply k5; clear k5; refine kp [0, 1, 2, 11] ?_
  refine au ?_
  refine ⟨nr, _, rfl, ?_⟩; simp only [zF, zP, O, M, Mdl.av, Mdl.cs]
  refine VLE.of_eq ?_
  refine congrArg (fun n => AV.one (AC.int IntKind.i64 n)) ?_
  symm
  first
  | exact od (by assumption)
  | exact p6 (by assumption) (by omega) hq (by assumption)
  | (have hi0 : alE x.ins = 0 := hq 0 (by omega)
     have hi1 : alE x.outs = 0 := hq 1 (by omega)
     first
     | exact nT (by assumption) hi0 hi1 (by assumption)
     | exact oJ (by assumption) hi0 hi1 (by assumption) (by omega)
     | exact kI (by assumption) hi0 hi1 (by assumption) (by assumption))
 (try simp only [zB, reduceCtorEq] at hc4)
 refine ax ?_
 apply k2; clear k2; refine kp [0, 1, 2, 11] ?_
 refine ad fun _ k6 => ?_
 refine ad fun _ k7 => ?_
 refine ag hP hN rfl ?_
 iterate 6 (refine ab rfl fun _ k0 => ?_; simp only [zO, zT, acs, reduceCtorEq, O, M, V, aa, Z, Y, Mdl.av, Mdl.cs]; (repeat refine an ?_); (try refine .inl ?_); apply k0; clear k0; simp only [zP, M])
 refine af ?_
 apply k7; clear k7; refine kp [0, 1, 2, 11, 16, 17] ?_
 refine aG ?_
 refine bD (fun n8 s8 => ∃ (k : Nat), (k ≤ 2) ∧ (∀ q, q < k → alE ([x.ins, x.outs].getD q []) = 0) ∧ n8 = 2 - k ∧ s8 = { env := [(1, .one (.ptr 0 0 0 0)), (2, .one (.int .i64 0)), (16, .agg [.list .str x.ins, .list .str x.outs]), (17, .one (.int .i64 (k : Int)))], L := [.vars 29 [.str x.nm, .list .str x.ins, .list .str x.outs, .int .i64 x.m.inp, .int .i64 x.m.st, .list (.list (.int .i64)) x.m.nx, .list (.list (.int .i64)) x.m.ot]] }) ?_ ?_
 ·exact ⟨_, _, aL [1, 2, 16, 17], 0, Nat.zero_le _, fun q hq => by omega, rfl, rfl⟩
 rintro n8 s8 ⟨k, hk, hq, rfl, rfl⟩
 refine ad fun _ k9 => ?_
 refine ag hP hN rfl ?_
 (refine ab rfl fun _ k0 => ?_; simp only [zO, zT, acs, reduceCtorEq, O, M, V, aa, Z, Y, Mdl.av, Mdl.cs]; (repeat refine an ?_); (try refine .inl ?_); apply k0; clear k0; simp only [zP, M])
 refine af ?_
 apply k9; clear k9; refine kp [1, 2, 16, 17, 18] ?_
 refine ad fun _ k10 => ?_
 refine cd (fun hc11 => ?_) (fun hc11 => ?_)
 ·(try simp only [zB, reduceCtorEq] at hc11)
  refine ax ?_
  apply k10; clear k10; refine kp [1, 2, 16, 17, 18] ?_
  refine ad fun _ k12 => ?_
  refine aG ?_
  refine ad fun _ k13 => ?_
  have hk1 : k ≤ 1 := by omega
  have htk : List.take 1 (List.drop k [AC.list Ty.str x.ins, AC.list Ty.str x.outs]) = [AC.list Ty.str ([x.ins, x.outs].getD k [])] := by rcases (show k = 0 ∨ k = 1 by omega) with rfl | rfl <;> rfl
  refine ag hP hN rfl ?_
  iterate 3 (refine ab rfl fun _ k0 => ?_; simp only [zO, zT, acs, reduceCtorEq, O, M, V, aa, Z, Y, Mdl.av, Mdl.cs, hk1, if_true, htk]; (repeat refine an ?_); (try refine .inl ?_); apply k0; clear k0; simp only [zP, M])
  refine af ?_
  apply k13; clear k13; refine kp [1, 2, 4, 16, 17, 18] ?_
  refine ad fun _ k14 => ?_
  refine ag hP hN rfl ?_
  (refine ab rfl fun _ k0 => ?_; simp only [zO, zT, acs, reduceCtorEq, O, M, V, aa, Z, Y, Mdl.av, Mdl.cs]; (repeat refine an ?_); (try refine .inl ?_); apply k0; clear k0; simp only [zP, M])
  refine ab rfl fun _ k0 => ?_
  refine aw (h := am (i6 ([x.ins, x.outs].getD k []))) rfl rfl (by first | exact rfl | (simp only [ev, zP, O, M]; exact rfl)) (by simp only [zV, acs, reduceCtorEq, O, M, V, aa, Z, Y, Mdl.av, Mdl.cs]) ?_
  apply k0; clear k0; simp only [zP, M]
  (refine ab rfl fun _ k0 => ?_; simp only [zO, zT, acs, reduceCtorEq, O, M, V, aa, Z, Y, Mdl.av, Mdl.cs]; (repeat refine an ?_); (try refine .inl ?_); apply k0; clear k0; simp only [zP, M])
  refine af ?_
  apply k14; clear k14; refine kp [1, 2, 4, 5, 16, 17, 18] ?_
  refine ad fun _ k15 => ?_
  refine ag hP hN rfl ?_
  iterate 2 (refine ab rfl fun _ k0 => ?_; simp only [zO, zT, acs, reduceCtorEq, O, M, V, aa, Z, Y, Mdl.av, Mdl.cs]; (repeat refine an ?_); (try refine .inl ?_); apply k0; clear k0; simp only [zP, M])
  refine af ?_
  apply k15; clear k15; refine kp [1, 2, 4, 5, 16, 17, 18, 23] ?_
  refine cd (fun hc16 => ?_) (fun hc16 => ?_)
  ·(try simp only [zB, reduceCtorEq] at hc16)
   refine ad fun _ k17 => ?_
   refine ag hP hN rfl ?_
   iterate 2 (refine ab rfl fun _ k0 => ?_; simp only [zO, zT, acs, reduceCtorEq, O, M, V, aa, Z, Y, Mdl.av, Mdl.cs]; (repeat refine an ?_); (try refine .inl ?_); apply k0; clear k0; simp only [zP, M])
   refine af ?_
   apply k17; clear k17; refine kp [1, 2, 4, 5, 16, 17, 18, 23] ?_
   refine au ?_
   refine ⟨nr, _, rfl, ?_⟩; simp only [zF, zP, O, M, Mdl.av, Mdl.cs]
   refine VLE.of_eq ?_
   refine congrArg (fun n => AV.one (AC.int IntKind.i64 n)) ?_
   symm
   first
   | exact od (by assumption)
   | exact p6 (by assumption) (by omega) hq (by assumption)
   | (have hi0 : alE x.ins = 0 := hq 0 (by omega)
      have hi1 : alE x.outs = 0 := hq 1 (by omega)
      first
      | exact nT (by assumption) hi0 hi1 (by assumption)
      | exact oJ (by assumption) hi0 hi1 (by assumption) (by omega)
      | exact kI (by assumption) hi0 hi1 (by assumption) (by assumption))
  (try simp only [zB, reduceCtorEq] at hc16)
  refine ax ?_
  apply k12; clear k12; refine kp [1, 2, 4, 5, 16, 17, 18, 23] ?_
  refine kp [1, 2, 16, 17] ?_
  refine bJ (L1 := [_]) rfl (by rw [hB]; exact Nat.zero_le _) rfl rfl ?_
  refine ag hP hN rfl ?_
  iterate 2 (refine ab rfl fun _ k0 => ?_; simp only [zO, zT, acs, reduceCtorEq, O, M, V, aa, Z, Y, Mdl.av, Mdl.cs]; (repeat refine an ?_); (try refine .inl ?_); apply k0; clear k0; simp only [zP, M])
  refine af ?_
  refine ⟨_, _, ?_, aL [1, 2, 16, 17], k + 1, by omega, fun q hq2 => ?_, rfl, rfl⟩
  · omega
  · by_cases e : q = k
    · rw [e]; omega
    · exact hq q (by omega)
 (try simp only [zB, reduceCtorEq] at hc11)
 refine bC ?_
 apply k6; clear k6; refine kp [1, 2, 16, 17, 18] ?_
 refine ad fun _ k18 => ?_
 refine ad fun _ k19 => ?_
 refine ag hP hN rfl ?_
 iterate 2 (refine ab rfl fun _ k0 => ?_; simp only [zO, zT, acs, reduceCtorEq, O, M, V, aa, Z, Y, Mdl.av, Mdl.cs]; (repeat refine an ?_); (try refine .inl ?_); apply k0; clear k0; simp only [zP, M])
 refine ab rfl fun _ k0 => ?_
 refine aw (h := am (o9 x.m)) rfl rfl (by first | exact rfl | (simp only [ev, zP, O, M]; exact rfl)) (by simp only [zV, acs, reduceCtorEq, O, M, V, aa, Z, Y, Mdl.av, Mdl.cs]) ?_
 apply k0; clear k0; simp only [zP, M]
 (refine ab rfl fun _ k0 => ?_; simp only [zO, zT, acs, reduceCtorEq, O, M, V, aa, Z, Y, Mdl.av, Mdl.cs]; (repeat refine an ?_); (try refine .inl ?_); apply k0; clear k0; simp only [zP, M])
 refine af ?_
 apply k19; clear k19; refine kp [1, 2, 6, 16, 17, 18] ?_
 refine ad fun _ k20 => ?_
 refine ag hP hN rfl ?_
 iterate 2 (refine ab rfl fun _ k0 => ?_; simp only [zO, zT, acs, reduceCtorEq, O, M, V, aa, Z, Y, Mdl.av, Mdl.cs]; (repeat refine an ?_); (try refine .inl ?_); apply k0; clear k0; simp only [zP, M])
 refine af ?_
 apply k20; clear k20; refine kp [1, 2, 6, 16, 17, 18, 30] ?_
 refine cd (fun hc21 => ?_) (fun hc21 => ?_)
 ·(try simp only [zB, reduceCtorEq] at hc21)
  refine ad fun _ k22 => ?_
  refine ag hP hN rfl ?_
  iterate 2 (refine ab rfl fun _ k0 => ?_; simp only [zO, zT, acs, reduceCtorEq, O, M, V, aa, Z, Y, Mdl.av, Mdl.cs]; (repeat refine an ?_); (try refine .inl ?_); apply k0; clear k0; simp only [zP, M])
  refine af ?_
  apply k22; clear k22; refine kp [1, 2, 6, 16, 17, 18, 30] ?_
  refine au ?_
  refine ⟨nr, _, rfl, ?_⟩; simp only [zF, zP, O, M, Mdl.av, Mdl.cs]
  refine VLE.of_eq ?_
  refine congrArg (fun n => AV.one (AC.int IntKind.i64 n)) ?_
  symm
  first
  | exact od (by assumption)
  | exact p6 (by assumption) (by omega) hq (by assumption)
  | (have hi0 : alE x.ins = 0 := hq 0 (by omega)
     have hi1 : alE x.outs = 0 := hq 1 (by omega)
     first
     | exact nT (by assumption) hi0 hi1 (by assumption)
     | exact oJ (by assumption) hi0 hi1 (by assumption) (by omega)
     | exact kI (by assumption) hi0 hi1 (by assumption) (by assumption))
 (try simp only [zB, reduceCtorEq] at hc21)
 refine ax ?_
 apply k18; clear k18; refine kp [1, 2, 6, 16, 17, 18, 30] ?_
 refine ad fun _ k23 => ?_
 refine ag hP hN rfl ?_
 iterate 2 (refine ab rfl fun _ k0 => ?_; simp only [zO, zT, acs, reduceCtorEq, O, M, V, aa, Z, Y, Mdl.av, Mdl.cs]; (repeat refine an ?_); (try refine .inl ?_); apply k0; clear k0; simp only [zP, M])
 refine ab rfl fun _ k0 => ?_
 refine aw (h := am (sR x.m)) rfl rfl (by first | exact rfl | (simp only [ev, zP, O, M]; exact rfl)) (by simp only [zV, acs, reduceCtorEq, O, M, V, aa, Z, Y, Mdl.av, Mdl.cs]) ?_
 apply k0; clear k0; simp only [zP, M]
 (refine ab rfl fun _ k0 => ?_; simp only [zO, zT, acs, reduceCtorEq, O, M, V, aa, Z, Y, Mdl.av, Mdl.cs]; (repeat refine an ?_); (try refine .inl ?_); apply k0; clear k0; simp only [zP, M])
 refine af ?_
 apply k23; clear k23; refine kp [1, 2, 6, 7, 16, 17, 18, 30] ?_
 refine ad fun _ k24 => ?_
 refine ad fun _ k25 => ?_
 refine cm hP hN Tryd.mixed rfl ?_
 iterate 9 (refine ab rfl fun _ k0 => ?_; simp only [zO, zT, acs, reduceCtorEq, O, M, V, aa, Z, Y, Mdl.av, Mdl.cs]; (repeat refine an ?_); (try refine .inl ?_); apply k0; clear k0; simp only [zP, M])
 refine' ay (want := false) 7 rfl (m := 43) (by simp only [zP, O, M]; exact rfl) (by kernel_rfl) rfl rfl rfl rfl rfl (fun hg26 => ?a26) ?b26 ?c26
 case a26 =>
  have hq26 := hg26; (try simp only [zB, reduceCtorEq] at hg26); simp only [zE]
  (refine aO rfl fun _ k0 => ?_; simp only [zO, zT, acs, reduceCtorEq, O, M, V, aa, Z, Y, Mdl.av, Mdl.cs]; (repeat refine an ?_); (try refine .inl ?_); apply k0; clear k0; simp only [zP, M])
  refine aO rfl fun _ k0 => ?_
  refine aw (h := am (tD (cV x.m) (pP (by omega)))) rfl rfl (by first | exact rfl | (simp only [ev, zP, O, M]; exact rfl)) (by simp only [zV, acs, reduceCtorEq, O, M, V, aa, Z, Y, Mdl.av, Mdl.cs]) ?_
  apply k0; clear k0; simp only [zP, M]
  iterate 5 (refine aO rfl fun _ k0 => ?_; simp only [zO, zT, acs, reduceCtorEq, O, M, V, aa, Z, Y, Mdl.av, Mdl.cs]; (repeat refine an ?_); (try refine .inl ?_); apply k0; clear k0; simp only [zP, M])
  (refine ab rfl fun _ k0 => ?_; simp only [zO, zT, acs, reduceCtorEq, O, M, V, aa, Z, Y, Mdl.av, Mdl.cs]; (repeat refine an ?_); (try refine .inl ?_); apply k0; clear k0; simp only [zP, M])
  refine af ?_
  refine ⟨by simp only [zP, O, M]; exact rfl, rfl, ?_, rfl⟩; (repeat refine az rfl ?_); exact aP (by exact rfl) hq26
 case b26 => exact bq
 simp only [aK, aH]
 refine af ?_
 refine ⟨by kernel_rfl, ?_⟩
 apply k25; clear k25; refine kp [1, 2, 6, 7, 16, 17, 18, 30, 51] ?_
 refine cd (fun hc27 => ?_) (fun hc27 => ?_)
 ·(try simp only [zB, reduceCtorEq] at hc27)
  refine ad fun _ k28 => ?_
  refine ag hP hN rfl ?_
  (refine ab rfl fun _ k0 => ?_; simp only [zO, zT, acs, reduceCtorEq, O, M, V, aa, Z, Y, Mdl.av, Mdl.cs]; (repeat refine an ?_); (try refine .inl ?_); apply k0; clear k0; simp only [zP, M])
  refine af ?_
  apply k28; clear k28; refine kp [1, 2, 6, 7, 16, 17, 18, 30, 51] ?_
  refine au ?_
  refine ⟨nr, _, rfl, ?_⟩; simp only [zF, zP, O, M, Mdl.av, Mdl.cs]
  refine VLE.of_eq ?_
  refine congrArg (fun n => AV.one (AC.int IntKind.i64 n)) ?_
  symm
  first
  | exact od (by assumption)
  | exact p6 (by assumption) (by omega) hq (by assumption)
  | (have hi0 : alE x.ins = 0 := hq 0 (by omega)
     have hi1 : alE x.outs = 0 := hq 1 (by omega)
     first
     | exact nT (by assumption) hi0 hi1 (by assumption)
     | exact oJ (by assumption) hi0 hi1 (by assumption) (by omega)
     | exact kI (by assumption) hi0 hi1 (by assumption) (by assumption))
 (try simp only [zB, reduceCtorEq] at hc27)
 refine ax ?_
 apply k24; clear k24; refine kp [1, 2, 6, 7, 16, 17, 18, 30, 51] ?_
 refine ad fun _ k29 => ?_
 refine ag hP hN rfl ?_
 (refine ab rfl fun _ k0 => ?_; simp only [zO, zT, acs, reduceCtorEq, O, M, V, aa, Z, Y, Mdl.av, Mdl.cs]; (repeat refine an ?_); (try refine .inl ?_); apply k0; clear k0; simp only [zP, M])
 refine af ?_
 apply k29; clear k29; refine kp [1, 2, 6, 7, 16, 17, 18, 30, 51] ?_
 refine au ?_
 refine ⟨nr, _, rfl, ?_⟩; simp only [zF, zP, O, M, Mdl.av, Mdl.cs]
 refine VLE.of_eq ?_
 refine congrArg (fun n => AV.one (AC.int IntKind.i64 n)) ?_
 symm
 first
 | exact od (by assumption)
 | exact p6 (by assumption) (by omega) hq (by assumption)
 | (have hi0 : alE x.ins = 0 := hq 0 (by omega)
    have hi1 : alE x.outs = 0 := hq 1 (by omega)
    first
    | exact nT (by assumption) hi0 hi1 (by assumption)
    | exact oJ (by assumption) hi0 hi1 (by assumption) (by omega)
    | exact kI (by assumption) hi0 hi1 (by assumption) (by assumption))
open Go.Shelf in
def Tryd.lays156_ren : Go.Shelf.Ren := ⟨fun | 156 => 17 | 165 => 28 | 166 => 29 | 169 => 30 | 240 => 43 | 241 => 44 | 276 => 55 | 277 => 56 | n => n, fun | 31 => 22 | 9 => 9 | 3 => 3 | 4 => 4 | 0 => 0 | 20 => 20 | 72 => 66 | 76 => 70 | 70 => 63 | 37 => 64 | 75 => 69 | 127 => 84 | 164 => 95 | 5 => 5 | 80 => 72 | n => n, fun | n => n⟩
theorem Tryd.lays156 : Go.Proofs.Lays.n156 Tryd.prog Tryd.lays156_ren := {
  mixed := by kernel_rfl,
  f156 := Tryd.func17.trans (congrArg some (by kernel_rfl)),
  f165 := Tryd.func28.trans (congrArg some (by kernel_rfl)),
  f166 := Tryd.func29.trans (congrArg some (by kernel_rfl)),
  f169 := Tryd.func30.trans (congrArg some (by kernel_rfl)),
  f240 := Tryd.func43.trans (congrArg some (by kernel_rfl)),
  f241 := Tryd.func44.trans (congrArg some (by kernel_rfl)),
  f276 := Tryd.func55.trans (congrArg some (by kernel_rfl)),
  f277 := Tryd.func56.trans (congrArg some (by kernel_rfl)),
  t0 := Tryd.underlying0,
  a0 := Tryd.isAgg0,
  z0 := Tryd.sizeOf0,
  v0 := Tryd.zeroValue0,
  t3 := Tryd.underlying3,
  a3 := Tryd.isAgg3,
  z3 := Tryd.sizeOf3,
  v3 := Tryd.zeroValue3,
  t4 := Tryd.underlying4,
  a4 := Tryd.isAgg4,
  z4 := Tryd.sizeOf4,
  v4 := Tryd.zeroValue4,
  t9 := Tryd.underlying9,
  a9 := Tryd.isAgg9,
  z9 := Tryd.sizeOf9,
  v9 := Tryd.zeroValue9,
  t20 := Tryd.underlying20,
  a20 := Tryd.isAgg20,
  z20 := Tryd.sizeOf20,
  v20 := Tryd.zeroValue20,
  t31 := Tryd.underlying22,
  a31 := Tryd.isAgg22,
  z31 := Tryd.sizeOf22,
  v31 := Tryd.zeroValue22,
  t37 := Tryd.underlying64,
  a37 := Tryd.isAgg64,
  z37 := Tryd.sizeOf64,
  v37 := Tryd.zeroValue64,
  t70 := Tryd.underlying63,
  a70 := Tryd.isAgg63,
  z70 := Tryd.sizeOf63,
  v70 := Tryd.zeroValue63,
  t72 := Tryd.underlying66,
  a72 := Tryd.isAgg66,
  z72 := Tryd.sizeOf66,
  v72 := Tryd.zeroValue66,
  t75 := Tryd.underlying69,
  a75 := Tryd.isAgg69,
  z75 := Tryd.sizeOf69,
  v75 := Tryd.zeroValue69,
  t76 := Tryd.underlying70,
  a76 := Tryd.isAgg70,
  z76 := Tryd.sizeOf70,
  v76 := Tryd.zeroValue70,
  t127 := Tryd.underlying84,
  a127 := Tryd.isAgg84,
  z127 := Tryd.sizeOf84,
  v127 := Tryd.zeroValue84,
  t164 := Tryd.underlying95,
  a164 := Tryd.isAgg95,
  z164 := Tryd.sizeOf95,
  v164 := Tryd.zeroValue95 }
theorem nZ : Builder.Extra Tryd.prog Tryd.lays156_ren where
  sizeBuilder := by kernel_rfl
  liesBuilder := by kernel_rfl
  t5 := Tryd.underlying5
  a5 := Tryd.isAgg5
  z5 := Tryd.sizeOf5
  v5 := Tryd.zeroValue5
  infoByte := by kernel_rfl
  cellsByte := by kernel_rfl
  sizeByte := by kernel_rfl
  neB5 := by decide
theorem cW (xs : List (List UInt8)) (sep : List UInt8) (h1 : xs.length ≤ 140737488355328) (h2 : (Lib.join xs sep).length ≤ 140737488355328) : bP Tryd.prog 17 [.one (.list .str xs), .one (.str sep)] (.one (.str (Lib.join xs sep))) := by
  refine ⟨⟨Tryd.f17, Tryd.func17, by kernel_rfl, by kernel_rfl⟩, fun C L σ w vs hP hi ha => ?_⟩
  cases vs with
  | nil => exact ha.elim
  | cons v vs =>
  cases vs with
  | nil => exact ha.2.elim
  | cons v2 vs =>
  cases vs with
  | cons _ _ => exact ha.2.2.elim
  | nil =>
  obtain ⟨hv, hv2, _⟩ := ha
  have e2 : v2 = .string ⟨sep.toArray⟩ := hv2.2
  subst e2
  have hd : Dat (avd C L σ) w (.list .str) xs [v] := hv.2
  obtain ⟨A, c, e1, hc, _, hel⟩ := hd
  obtain ⟨rfl, _⟩ := List.cons.inj e1
  cases xs with
  | nil => 
    refine Calls.mono (Any.strings_Join_none Tryd.lays156 nZ A c ⟨sep.toArray⟩ w) fun e w' hh => ?_
    obtain ⟨e3, rfl⟩ := hh
    exact ⟨_, e3, MORE.refl _, rfl, by rw [Lib.join_nil]; rfl⟩
  | cons x xs =>
    obtain ⟨b, o, rfl, _, hb, hcl⟩ := hel (Nat.succ_pos _)
    have hm : ∀ l : List (List UInt8), (l.map fun x => (⟨x.toArray⟩ : ByteArray)).map (·.data.toList) = l := fun l => by
      rw [List.map_map]
      exact (List.map_congr_left fun a _ => rfl).trans (List.map_id l)
    have h := Any.strings_Join Tryd.lays156 nZ b o c ((x :: xs).map fun x => (⟨x.toArray⟩ : ByteArray)) ⟨sep.toArray⟩ w (fun j y hj => by
      rw [List.getElem?_map] at hj
      obtain ⟨z, hz, rfl⟩ := Option.map_eq_some_iff.1 hj
      have hlt := (List.getElem?_eq_some_iff.1 hz).1
      obtain ⟨cs', l1, l2, l3⟩ := hcl j hlt
      have l4 := l2 0 (by decide)
      have e5 : cs' = [.string ⟨(List.getD (x :: xs) j []).toArray⟩] := l3
      rw [e5] at l4
      have e6 : List.getD (x :: xs) j [] = z := by simp [List.getD, hz]
      rw [e6] at l4
      have e7 : o + j * Ty.str.size + 0 = o + j := by show o + j * 1 + 0 = o + j; omega
      rw [e7] at l4
      exact l4) hb (by rw [bY]; exact h1) (by rw [bY]; exact hc) (by rw [hm]; exact h2)
    rw [hm, bY] at h
    refine Calls.mono h fun e w' hh => ?_
    obtain ⟨e3, hw⟩ := hh
    exact ⟨_, e3, ⟨hw.size, hw.os, hw.tape, hw.output, hw.block⟩, rfl, rfl⟩
set_option maxHeartbeats 2000000 in
theorem rh (x : Mdl) (hb : mvE x = 0 → x.m.nx.length ≤ 100) : bP Tryd.prog 9 [x.av] (.tup [.one (.str (SM x)), .one (.int .i64 (mvE x))]) := by
 refine aT Tryd.func9 rfl (by kernel_rfl) (Nat.le_of_ble_eq_true rfl) rfl fun C hP hN hB => ?_
 replace hN : C.N = 110 := hN
 simp only [aV, M]
 refine ad fun _ k1 => ?_
 refine ag hP hN rfl ?_
 iterate 3 (refine ab rfl fun _ k0 => ?_; simp only [zO, zT, acs, reduceCtorEq, O, M, V, aa, Z, Y, Mdl.av, Mdl.cs]; (repeat refine an ?_); (try refine .inl ?_); apply k0; clear k0; simp only [zP, M])
 refine af ?_
 apply k1; clear k1; refine kp [0, 1, 2, 3] ?_
 refine ad fun _ k2 => ?_
 refine ad fun _ k3 => ?_
 refine ag hP hN rfl ?_
 (refine ab rfl fun _ k0 => ?_; simp only [zO, zT, acs, reduceCtorEq, O, M, V, aa, Z, Y, Mdl.av, Mdl.cs]; (repeat refine an ?_); (try refine .inl ?_); apply k0; clear k0; simp only [zP, M])
 refine ab rfl fun _ k0 => ?_
 refine aw (h := am (i9 x)) rfl rfl (by first | exact rfl | (simp only [ev, zP, O, M]; exact rfl)) (by simp only [zV, acs, reduceCtorEq, O, M, V, aa, Z, Y, Mdl.av, Mdl.cs]) ?_
 apply k0; clear k0; simp only [zP, M]
 (refine ab rfl fun _ k0 => ?_; simp only [zO, zT, acs, reduceCtorEq, O, M, V, aa, Z, Y, Mdl.av, Mdl.cs]; (repeat refine an ?_); (try refine .inl ?_); apply k0; clear k0; simp only [zP, M])
 refine af ?_
 apply k3; clear k3; refine kp [0, 1, 2, 3, 4] ?_
 refine ad fun _ k4 => ?_
 refine ag hP hN rfl ?_
 iterate 2 (refine ab rfl fun _ k0 => ?_; simp only [zO, zT, acs, reduceCtorEq, O, M, V, aa, Z, Y, Mdl.av, Mdl.cs]; (repeat refine an ?_); (try refine .inl ?_); apply k0; clear k0; simp only [zP, M])
 refine af ?_
 apply k4; clear k4; refine kp [0, 1, 2, 3, 4, 15] ?_
 refine cd (fun hc5 => ?_) (fun hc5 => ?_)
 ·(try simp only [zB, reduceCtorEq] at hc5)
  refine ad fun _ k6 => ?_
  refine ag hP hN rfl ?_
  iterate 3 (refine ab rfl fun _ k0 => ?_; simp only [zO, zT, acs, reduceCtorEq, O, M, V, aa, Z, Y, Mdl.av, Mdl.cs]; (repeat refine an ?_); (try refine .inl ?_); apply k0; clear k0; simp only [zP, M])
  refine af ?_
  apply k6; clear k6; refine kp [0, 1, 2, 3, 4, 15] ?_
  refine au ?_
  refine ⟨nr, _, rfl, ?_⟩; simp only [zF, zP, O, M, Mdl.av, Mdl.cs]
  refine VLE.of_eq ?_
  first | (rw [ke (by assumption)]; done) | (rw [i3 (by assumption), ‹mvE x = 0›]; done)
 (try simp only [zB, reduceCtorEq] at hc5)
 have hv0 : mvE x = 0 := by omega
 have hv := iS hv0; have hm := hv.mo; have hb := hb hv0
 have hol := hm.ol; have hi1 := hm.i1; have hi2 := hm.i2; have hn1 := hm.n1; have hn2 := hm.n2; have hs1 := hm.s1; have hs2 := hm.s2; have hil := hv.il; have hon := hv.ao.n1
 refine ax ?_
 apply k2; clear k2; refine kp [0, 1, 2, 3, 4, 15] ?_
 refine ad fun _ k7 => ?_
 refine ag hP hN rfl ?_
 (refine ab rfl fun _ k0 => ?_; simp only [zO, zT, acs, reduceCtorEq, O, M, V, aa, Z, Y, Mdl.av, Mdl.cs]; (repeat refine an ?_); (try refine .inl ?_); apply k0; clear k0; simp only [zP, M])
 refine af ?_
 apply k7; clear k7; refine kp [0, 1, 2, 3, 4, 5, 15] ?_
 refine ad fun _ k8 => ?_
 refine ad fun _ k9 => ?_
 refine ag hP hN rfl ?_
 iterate 5 (refine ab rfl fun _ k0 => ?_; simp only [zO, zT, acs, reduceCtorEq, O, M, V, aa, Z, Y, Mdl.av, Mdl.cs]; (repeat refine an ?_); (try refine .inl ?_); apply k0; clear k0; simp only [zP, M])
 refine af ?_
 apply k9; clear k9; refine kp [0, 1, 2, 3, 4, 5, 15, 20, 21] ?_
 refine aG ?_
 refine lH 5 .str 9 (by decide) rfl ?_; simp only [aj, aq, ak, ar, Nat.zero_add, M]
 refine bD (fun n10 s10 => ∃ (k : Nat) (u : Nat), (k ≤ x.m.nx.length) ∧ n10 = x.m.nx.length - k ∧ s10 = { env := [(1, .one (.ptr 0 0 0 0)), (2, .one (.str [])), (3, .one (.int .i64 0)), (5, .one (.row 1 u)), (20, .one (.int .i64 (x.m.nx.length : Int))), (21, .one (.int .i64 (k : Int)))], L := [.vars 29 [.str x.nm, .list .str x.ins, .list .str x.outs, .int .i64 x.m.inp, .int .i64 x.m.st, .list (.list (.int .i64)) x.m.nx, .list (.list (.int .i64)) x.m.ot], .row .str 9 u (qs k)] }) ?_ ?_
 ·exact ⟨_, _, aL [1, 2, 3, 5, 20, 21], 0, 0, Nat.zero_le _, rfl, rfl⟩
 rintro n10 s10 ⟨k, u, hk, rfl, rfl⟩
 refine ad fun _ k11 => ?_
 refine ag hP hN rfl ?_
 (refine ab rfl fun _ k0 => ?_; simp only [zO, zT, acs, reduceCtorEq, O, M, V, aa, Z, Y, Mdl.av, Mdl.cs]; (repeat refine an ?_); (try refine .inl ?_); apply k0; clear k0; simp only [zP, M])
 refine af ?_
 apply k11; clear k11; refine kp [1, 2, 3, 5, 20, 21, 22] ?_
 refine ad fun _ k12 => ?_
 refine cd (fun hc13 => ?_) (fun hc13 => ?_)
 ·(try simp only [zB, reduceCtorEq] at hc13)
  refine ax ?_
  apply k12; clear k12; refine kp [1, 2, 3, 5, 20, 21, 22] ?_
  refine ad fun _ k14 => ?_
  refine aG ?_
  refine ad fun _ k15 => ?_
  refine ag hP hN rfl ?_
  iterate 2 (refine ab rfl fun _ k0 => ?_; simp only [zO, zT, acs, reduceCtorEq, O, M, V, aa, Z, Y, Mdl.av, Mdl.cs]; (repeat refine an ?_); (try refine .inl ?_); apply k0; clear k0; simp only [zP, M])
  refine af ?_
  apply k15; clear k15; refine kp [1, 2, 3, 5, 6, 20, 21, 22] ?_
  refine ag hP hN rfl ?_
  iterate 2 (refine ab rfl fun _ k0 => ?_; simp only [zO, zT, acs, reduceCtorEq, O, M, V, aa, Z, Y, Mdl.av, Mdl.cs, ca]; (repeat refine an ?_); (try refine .inl ?_); apply k0; clear k0; simp only [zP, M])
  refine ab rfl fun _ k0 => ?_
  refine aw (h := am (kt (k : Int) (by omega) (by omega))) rfl rfl (by first | exact rfl | (simp only [ev, zP, O, M]; exact rfl)) (by simp only [zV, acs, reduceCtorEq, O, M, V, aa, Z, Y, Mdl.av, Mdl.cs, ca]) ?_
  apply k0; clear k0; simp only [zP, M]
  iterate 3 (refine ab rfl fun _ k0 => ?_; simp only [zO, zT, acs, reduceCtorEq, O, M, V, aa, Z, Y, Mdl.av, Mdl.cs, ca]; (repeat refine an ?_); (try refine .inl ?_); apply k0; clear k0; simp only [zP, M])
  refine af ?_
  apply k14; clear k14; refine kp [1, 2, 3, 5, 6, 20, 21, 22] ?_
  refine ag hP hN rfl ?_
  iterate 2 (refine ab rfl fun _ k0 => ?_; simp only [zO, zT, acs, reduceCtorEq, O, M, V, aa, Z, Y, Mdl.av, Mdl.cs]; (repeat refine an ?_); (try refine .inl ?_); apply k0; clear k0; simp only [zP, M])
  refine af ?_
  refine ⟨_, _, ?_, aL [1, 2, 3, 5, 20, 21], k + 1, u + 1, by omega, rfl, by rw [oI]; rfl⟩
  omega
 (try simp only [zB, reduceCtorEq] at hc13)
 refine bC ?_
 apply k8; clear k8; refine kp [1, 2, 3, 5, 20, 21, 22] ?_
 refine ad fun _ k16 => ?_
 obtain rfl : k = x.m.nx.length := by omega
 refine eY 1 rfl ?_; simp only [aS, bo, zS, O, and_self, and_true, true_and, and_false, false_and, if_true, if_false, eq_self, reduceCtorEq, Nat.one_ne_zero, Nat.zero_ne_one]
 refine mP ?_; simp only [ak, List.append_assoc, ar]
 have hj1 := dz hv ([105, 110, 112, 117, 116, 115, 32] ++ Lib.join x.ins [32]) (by simp [hdT])
 have hj2 := dz hv ([111, 117, 116, 112, 117, 116, 115, 32] ++ Lib.join x.outs [32]) (by simp [hdT])
 have hj3 := dz hv ([115, 116, 97, 116, 101, 115, 32] ++ Lib.join (qs x.m.nx.length) [32]) (by simp [hdT])
 have hj4 := dz hv ([115, 116, 97, 114, 116, 32] ++ qn x.m.st.toNat) (by simp [hdT])
 have hj5 := (cT hv.nm).2.2
 have hj6 := ca x.m.nx.length
 simp only [ah, aj, aq] at hj1 hj2 hj3 hj4
 refine cm hP hN Tryd.mixed rfl ?_
 iterate 6 (refine ab rfl fun _ k0 => ?_; simp only [zO, zT, acs, reduceCtorEq, O, M, V, aa, Z, Y, Mdl.av, Mdl.cs, ah, aj, aq]; (repeat refine an ?_); (try refine .inl ?_); apply k0; clear k0; simp only [zP, M])
 refine ab rfl fun _ k0 => ?_
 refine aw (h := am (cW x.ins [32] (by omega) (by omega))) rfl rfl (by first | exact rfl | (simp only [ev, zP, O, M]; exact rfl)) (by simp only [zV, acs, reduceCtorEq, O, M, V, aa, Z, Y, Mdl.av, Mdl.cs, ah, aj, aq]) ?_
 apply k0; clear k0; simp only [zP, M]
 iterate 4 (refine ab rfl fun _ k0 => ?_; simp only [zO, zT, acs, reduceCtorEq, O, M, V, aa, Z, Y, Mdl.av, Mdl.cs, ah, aj, aq]; (repeat refine an ?_); (try refine .inl ?_); apply k0; clear k0; simp only [zP, M])
 refine ab rfl fun _ k0 => ?_
 refine aw (h := am (cW x.outs [32] (by omega) (by omega))) rfl rfl (by first | exact rfl | (simp only [ev, zP, O, M]; exact rfl)) (by simp only [zV, acs, reduceCtorEq, O, M, V, aa, Z, Y, Mdl.av, Mdl.cs, ah, aj, aq]) ?_
 apply k0; clear k0; simp only [zP, M]
 iterate 2 (refine ab rfl fun _ k0 => ?_; simp only [zO, zT, acs, reduceCtorEq, O, M, V, aa, Z, Y, Mdl.av, Mdl.cs, ah, aj, aq]; (repeat refine an ?_); (try refine .inl ?_); apply k0; clear k0; simp only [zP, M])
 refine ab rfl fun _ k0 => ?_
 refine aw (h := am (cW (qs x.m.nx.length) [32] (by omega) (by omega))) rfl rfl (by first | exact rfl | (simp only [ev, zP, O, M]; exact rfl)) (by simp only [zV, acs, reduceCtorEq, O, M, V, aa, Z, Y, Mdl.av, Mdl.cs, ah, aj, aq]) ?_
 apply k0; clear k0; simp only [zP, M]
 iterate 4 (refine ab rfl fun _ k0 => ?_; simp only [zO, zT, acs, reduceCtorEq, O, M, V, aa, Z, Y, Mdl.av, Mdl.cs, ah, aj, aq]; (repeat refine an ?_); (try refine .inl ?_); apply k0; clear k0; simp only [zP, M])
 refine ab rfl fun _ k0 => ?_
 refine aw (h := am (kt x.m.st (by omega) (by omega))) rfl rfl (by first | exact rfl | (simp only [ev, zP, O, M]; exact rfl)) (by simp only [zV, acs, reduceCtorEq, O, M, V, aa, Z, Y, Mdl.av, Mdl.cs, ah, aj, aq]) ?_
 apply k0; clear k0; simp only [zP, M]
 (refine ab rfl fun _ k0 => ?_; simp only [zO, zT, acs, reduceCtorEq, O, M, V, aa, Z, Y, Mdl.av, Mdl.cs, ah, aj, aq]; (repeat refine an ?_); (try refine .inl ?_); apply k0; clear k0; simp only [zP, M])
 (refine ab rfl fun _ k0 => ?_; simp only [zO, zT, acs, reduceCtorEq, O, M, V, aa, Z, Y, Mdl.av, Mdl.cs, ah, aj, aq]; (repeat refine an ?_); refine Or.inr (Or.inr (Or.inl ⟨2, by exact rfl, ?_⟩)); refine k0 _ ?_; clear k0; simp only [zP, M])
 (refine ab rfl fun _ k0 => ?_; simp only [zO, zT, acs, reduceCtorEq, O, M, V, aa, Z, Y, Mdl.av, Mdl.cs, ah, aj, aq]; (repeat refine an ?_); (try refine .inl ?_); apply k0; clear k0; simp only [zP, M])
 refine af ?_
 refine ⟨by kernel_rfl, ?_⟩
 apply k16; clear k16; refine kp [1, 2, 3, 5, 7, 20, 21, 22] ?_
 refine ad fun _ k17 => ?_
 refine ad fun _ k18 => ?_
 refine ag hP hN rfl ?_
 iterate 5 (refine ab rfl fun _ k0 => ?_; simp only [zO, zT, acs, reduceCtorEq, O, M, V, aa, Z, Y, Mdl.av, Mdl.cs]; (repeat refine an ?_); (try refine .inl ?_); apply k0; clear k0; simp only [zP, M])
 refine af ?_
 apply k18; clear k18; refine kp [1, 2, 3, 5, 7, 20, 21, 22, 54, 55, 56] ?_
 refine aG ?_
 refine bD (fun n19 s19 => ∃ (s : Nat) (v : Nat), (s ≤ x.m.nx.length) ∧ n19 = x.m.nx.length - s ∧ s19 = { env := [(1, .one (.ptr 0 0 0 0)), (2, .one (.str [])), (3, .one (.int .i64 0)), (5, .one (.list .str (qs x.m.nx.length))), (7, .one (.row 2 v)), (54, .one (.list (.list (.int .i64)) x.m.nx)), (55, .one (.int .i64 (x.m.nx.length : Int))), (56, .one (.int .i64 (s : Int)))], L := [.vars 29 [.str x.nm, .list .str x.ins, .list .str x.outs, .int .i64 x.m.inp, .int .i64 x.m.st, .list (.list (.int .i64)) x.m.nx, .list (.list (.int .i64)) x.m.ot], .dead u, .row .str 9 v (hdT x ++ dh x s)] }) ?_ ?_
 ·exact ⟨_, _, aL [1, 2, 3, 5, 7, 54, 55, 56], 0, 1, Nat.zero_le _, rfl, by simp only [dh, List.range_zero, bo, List.flatten_nil, List.append_nil]; rfl⟩
 rintro n19 s19 ⟨s, v, hs, rfl, rfl⟩
 refine ad fun _ k20 => ?_
 refine ag hP hN rfl ?_
 (refine ab rfl fun _ k0 => ?_; simp only [zO, zT, acs, reduceCtorEq, O, M, V, aa, Z, Y, Mdl.av, Mdl.cs]; (repeat refine an ?_); (try refine .inl ?_); apply k0; clear k0; simp only [zP, M])
 refine af ?_
 apply k20; clear k20; refine kp [1, 2, 3, 5, 7, 54, 55, 56, 57] ?_
 refine ad fun _ k21 => ?_
 refine cd (fun hc22 => ?_) (fun hc22 => ?_)
 ·(try simp only [zB, reduceCtorEq] at hc22)
  refine ax ?_
  apply k21; clear k21; refine kp [1, 2, 3, 5, 7, 54, 55, 56, 57] ?_
  refine ad fun _ k23 => ?_
  refine aG ?_
  refine ad fun _ k24 => ?_
  have hrl := hm.rl s (by omega)
  refine ag hP hN rfl ?_
  iterate 5 (refine ab rfl fun _ k0 => ?_; simp only [zO, zT, acs, reduceCtorEq, O, M, V, aa, Z, Y, Mdl.av, Mdl.cs]; (repeat refine an ?_); (try refine .inl ?_); apply k0; clear k0; simp only [zP, M])
  refine af ?_
  apply k24; clear k24; refine kp [1, 2, 3, 5, 7, 8, 9, 54, 55, 56, 57] ?_
  refine ad fun _ k25 => ?_
  refine ag hP hN rfl ?_
  iterate 3 (refine ab rfl fun _ k0 => ?_; simp only [zO, zT, acs, reduceCtorEq, O, M, V, aa, Z, Y, Mdl.av, Mdl.cs]; (repeat refine an ?_); (try refine .inl ?_); apply k0; clear k0; simp only [zP, M])
  refine af ?_
  apply k25; clear k25; refine kp [1, 2, 3, 5, 7, 8, 9, 54, 55, 56, 57, 61, 62, 63] ?_
  refine aG ?_
  refine bD (fun n26 s26 => ∃ (j : Nat) (v : Nat), (j ≤ (x.m.nx.getD s []).length) ∧ n26 = (x.m.nx.getD s []).length - j ∧ s26 = { env := [(1, .one (.ptr 0 0 0 0)), (2, .one (.str [])), (3, .one (.int .i64 0)), (5, .one (.list .str (qs x.m.nx.length))), (7, .one (.row 2 v)), (8, .one (.int .i64 (s : Int))), (9, .one (.list (.int .i64) (x.m.nx.getD s []))), (54, .one (.list (.list (.int .i64)) x.m.nx)), (55, .one (.int .i64 (x.m.nx.length : Int))), (56, .one (.int .i64 (s : Int))), (57, .one (.bool (decide ((s : Int) < x.m.nx.length)))), (61, .one (.list (.int .i64) (x.m.nx.getD s []))), (62, .one (.int .i64 ((x.m.nx.getD s []).length : Int))), (63, .one (.int .i64 (j : Int)))], L := [.vars 29 [.str x.nm, .list .str x.ins, .list .str x.outs, .int .i64 x.m.inp, .int .i64 x.m.st, .list (.list (.int .i64)) x.m.nx, .list (.list (.int .i64)) x.m.ot], .dead u, .row .str 9 v (hdT x ++ dh x s ++ dN x s j)] }) ?_ ?_
  ·exact ⟨_, _, aL [1, 2, 3, 5, 7, 8, 9, 54, 55, 56, 57, 61, 62, 63], 0, v, Nat.zero_le _, rfl, by simp only [dN, List.range_zero, bo, List.append_nil]; rfl⟩
  rintro n26 s26 ⟨j, v, hj, rfl, rfl⟩
  refine ad fun _ k27 => ?_
  refine ag hP hN rfl ?_
  (refine ab rfl fun _ k0 => ?_; simp only [zO, zT, acs, reduceCtorEq, O, M, V, aa, Z, Y, Mdl.av, Mdl.cs]; (repeat refine an ?_); (try refine .inl ?_); apply k0; clear k0; simp only [zP, M])
  refine af ?_
  apply k27; clear k27; refine kp [1, 2, 3, 5, 7, 8, 9, 54, 55, 56, 57, 61, 62, 63, 64] ?_
  refine ad fun _ k28 => ?_
  refine cd (fun hc29 => ?_) (fun hc29 => ?_)
  ·(try simp only [zB, reduceCtorEq] at hc29)
   refine ax ?_
   apply k28; clear k28; refine kp [1, 2, 3, 5, 7, 8, 9, 54, 55, 56, 57, 61, 62, 63, 64] ?_
   refine ad fun _ k30 => ?_
   refine aG ?_
   refine ad fun _ k31 => ?_
   refine ag hP hN rfl ?_
   iterate 5 (refine ab rfl fun _ k0 => ?_; simp only [zO, zT, acs, reduceCtorEq, O, M, V, aa, Z, Y, Mdl.av, Mdl.cs]; (repeat refine an ?_); (try refine .inl ?_); apply k0; clear k0; simp only [zP, M])
   refine af ?_
   apply k31; clear k31; refine kp [1, 2, 3, 5, 7, 8, 9, 10, 11, 54, 55, 56, 57, 61, 62, 63, 64] ?_
   have hrl := hm.rl s (by omega); have hql := hm.ql s (by omega)
   have hnr := hm.nr s j (by omega) (by omega); have hor := hm.or s j (by omega) (by omega); have hox := hv.ol s j (by omega) (by omega)
   have hq1 := cI (n := x.m.nx.length) (i := s) (by omega)
   have hq2 := cI (n := x.m.nx.length) (i := ((x.m.nx.getD s []).getD j 0).toNat) (by omega)
   have hl1 := eV (n := s) (by omega); have hl2 := eV (n := ((x.m.nx.getD s []).getD j 0).toNat) (by omega)
   have hl3 := eu hv.ai j; have hl4 := eu hv.ao ((x.m.ot.getD s []).getD j 0).toNat
   have hqn := ca x.m.nx.length
   have htl := eM hv (k := s) (by omega)
   have hrn := gX x s j; have hh5 : (hdT x).length = 5 := rfl
   refine cm hP hN Tryd.mixed rfl ?_
   iterate 38 (refine ab rfl fun _ k0 => ?_; simp only [zO, zT, acs, reduceCtorEq, O, M, V, aa, Z, Y, Mdl.av, Mdl.cs, hq1, hq2, ah, aj, aq, aE]; (repeat refine an ?_); (try refine .inl ?_); apply k0; clear k0; simp only [zP, M])
   refine af ?_
   refine ⟨by kernel_rfl, ?_⟩
   apply k30; clear k30; refine kp [1, 2, 3, 5, 7, 8, 9, 10, 11, 54, 55, 56, 57, 61, 62, 63, 64] ?_
   refine ag hP hN rfl ?_
   iterate 2 (refine ab rfl fun _ k0 => ?_; simp only [zO, zT, acs, reduceCtorEq, O, M, V, aa, Z, Y, Mdl.av, Mdl.cs]; (repeat refine an ?_); (try refine .inl ?_); apply k0; clear k0; simp only [zP, M])
   refine af ?_
   refine ⟨_, _, ?_, aL [1, 2, 3, 5, 7, 8, 9, 54, 55, 56, 57, 61, 62, 63], j + 1, v + 1, by omega, rfl, ?_⟩
   · omega
   · rw [jA, ← List.append_assoc]; rfl
  (try simp only [zB, reduceCtorEq] at hc29)
  refine bC ?_
  apply k23; clear k23; refine kp [1, 2, 3, 5, 7, 8, 9, 54, 55, 56, 57, 61, 62, 63, 64] ?_
  refine ag hP hN rfl ?_
  iterate 2 (refine ab rfl fun _ k0 => ?_; simp only [zO, zT, acs, reduceCtorEq, O, M, V, aa, Z, Y, Mdl.av, Mdl.cs]; (repeat refine an ?_); (try refine .inl ?_); apply k0; clear k0; simp only [zP, M])
  refine af ?_
  refine ⟨_, _, ?_, aL [1, 2, 3, 5, 7, 54, 55, 56], s + 1, v, by omega, rfl, ?_⟩
  · omega
  · rw [fq, ← List.append_assoc, show (x.m.nx.getD s []).length = j by omega]; rfl
 (try simp only [zB, reduceCtorEq] at hc22)
 refine bC ?_
 apply k17; clear k17; refine kp [1, 2, 3, 5, 7, 54, 55, 56, 57] ?_
 refine ad fun _ k32 => ?_
 obtain rfl : s = x.m.nx.length := by omega
 refine eY 2 rfl ?_; simp only [aS, bo, zS, O, and_self, and_true, true_and, and_false, false_and, if_true, if_false, eq_self, reduceCtorEq, Nat.one_ne_zero, Nat.zero_ne_one]
 have hsl := mV hv; have htl := eM hv (Nat.le_refl _); have hh5 : (hdT x).length = 5 := rfl
 refine ag hP hN rfl ?_
 (refine ab rfl fun _ k0 => ?_; simp only [zO, zT, acs, reduceCtorEq, O, M, V, aa, Z, Y, Mdl.av, Mdl.cs, ah, aj, aq]; (repeat refine an ?_); (try refine .inl ?_); apply k0; clear k0; simp only [zP, M])
 refine ab rfl fun _ k0 => ?_
 refine aw (h := am (cW (hdT x ++ dh x x.m.nx.length) [10] (by rw [ah]; omega) (by omega))) rfl rfl (by first | exact rfl | (simp only [ev, zP, O, M]; exact rfl)) (by simp only [zV, acs, reduceCtorEq, O, M, V, aa, Z, Y, Mdl.av, Mdl.cs, ah, aj, aq]) ?_
 apply k0; clear k0; simp only [zP, M]
 iterate 3 (refine ab rfl fun _ k0 => ?_; simp only [zO, zT, acs, reduceCtorEq, O, M, V, aa, Z, Y, Mdl.av, Mdl.cs, ah, aj, aq]; (repeat refine an ?_); (try refine .inl ?_); apply k0; clear k0; simp only [zP, M])
 refine af ?_
 apply k32; clear k32; refine kp [1, 2, 3, 5, 7, 54, 55, 56, 57] ?_
 refine au ?_
 refine ⟨nr, _, rfl, ?_⟩; simp only [zF, zP, O, M, Mdl.av, Mdl.cs]
 refine VLE.of_eq ?_
 first | (rw [ke (by assumption)]; done) | (rw [i3 (by assumption), ‹mvE x = 0›]; done)
theorem uw : bP Tryd.prog 11 [.one (.str gtA)] (.tup [eh.av, .one (.int .i64 0), .one (.int .i64 0)]) := by
  have h := dI gtA (by decide +kernel)
  rw [tT] at h
  exact h
theorem rU : bP Tryd.prog 9 [eh.av] (.tup [.one (.str gtA), .one (.int .i64 0)]) := by
  have h := rh eh (fun _ => by decide)
  rw [qq, nC] at h
  exact h
theorem ut : bP Tryd.prog 11 [.one (.str gtx)] (.tup [(PM gtx).1.av, .one (.int .i64 9), .one (.int .i64 12)]) := by
  have h := dI gtx (by decide +kernel)
  rw [congrArg Prod.fst pT, congrArg Prod.snd pT] at h
  exact h
theorem uq : bP Tryd.prog 11 [.one (.str gtB)] (.tup [(PM gtB).1.av, .one (.int .i64 9), .one (.int .i64 8)]) := by
  have h := dI gtB (by decide +kernel)
  rw [congrArg Prod.fst qf, congrArg Prod.snd qf] at h
  exact h
theorem uy : bP Tryd.prog 11 [.one (.str gtC)] (.tup [(PM gtC).1.av, .one (.int .i64 9), .one (.int .i64 7)]) := by
  have h := dI gtC (by decide +kernel)
  rw [congrArg Prod.fst qj, congrArg Prod.snd qj] at h
  exact h
theorem uB : bP Tryd.prog 11 [.one (.str [])] (.tup [(PM []).1.av, .one (.int .i64 1), .one (.int .i64 12)]) := by
  have h := dI [] (by decide +kernel)
  rw [congrArg Prod.fst qb, congrArg Prod.snd qb] at h
  exact h
theorem np (a b : List Bs) : bP Tryd.prog 40 [.one (.list .str a), .one (.list .str b)] (.one (.bool (decide (a = b)))) := by
 refine aT Tryd.func40 rfl (by kernel_rfl) (Nat.le_of_ble_eq_true rfl) rfl fun C hP hN hB => ?_
 replace hN : C.N = 26 := hN
 simp only [aV, M]
 refine gl 0 rfl fun hf0 => ?_; simp only [lkp, if_true, if_false, reduceCtorEq, O, eq_self, Nat.one_ne_zero, Nat.zero_ne_one, kV, jJ, jt, Fit, and_true, implies_true, true_and] at hf0
 refine ad fun _ k1 => ?_
 refine ag hP hN rfl ?_
 (refine ab rfl fun _ k0 => ?_; simp only [zO, zT, acs, reduceCtorEq, O, M, V, aa, Z, Y]; (repeat refine an ?_); (try refine .inl ?_); apply k0; clear k0; simp only [zP, M])
 refine af ?_
 apply k1; clear k1; refine kp [0, 1, 4] ?_
 refine ad fun _ k2 => ?_
 refine ad fun _ k3 => ?_
 refine ag hP hN rfl ?_
 iterate 5 (refine ab rfl fun _ k0 => ?_; simp only [zO, zT, acs, reduceCtorEq, O, M, V, aa, Z, Y]; (repeat refine an ?_); (try refine .inl ?_); apply k0; clear k0; simp only [zP, M])
 refine af ?_
 apply k3; clear k3; refine kp [0, 1, 4, 10] ?_
 refine cd (fun hc4 => ?_) (fun hc4 => ?_)
 ·(try simp only [zB, reduceCtorEq] at hc4)
  have hle : ¬ a.length = b.length := by omega
  refine ad fun _ k5 => ?_
  refine ag hP hN rfl ?_
  (refine ab rfl fun _ k0 => ?_; simp only [zO, zT, acs, reduceCtorEq, O, M, V, aa, Z, Y]; (repeat refine an ?_); (try refine .inl ?_); apply k0; clear k0; simp only [zP, M])
  refine af ?_
  apply k5; clear k5; refine kp [0, 1, 4, 10] ?_
  refine au ?_
  refine ⟨nr, _, rfl, ?_⟩; simp only [zF, zP, O, M]
  refine VLE.of_eq ?_
  refine congrArg (fun b => AV.one (AC.bool b)) ?_
  symm
  first
  | exact decide_eq_false fun e => hle (by rw [e])
  | exact decide_eq_false fun e => hne (by rw [e])
  | exact decide_eq_true (nk hle fun q hq2 => hq q (by omega))
 (try simp only [zB, reduceCtorEq] at hc4)
 have hle : a.length = b.length := by omega
 refine ax ?_
 apply k2; clear k2; refine kp [0, 1, 4, 10] ?_
 refine ad fun _ k6 => ?_
 refine ad fun _ k7 => ?_
 refine ag hP hN rfl ?_
 (refine ab rfl fun _ k0 => ?_; simp only [zO, zT, acs, reduceCtorEq, O, M, V, aa, Z, Y]; (repeat refine an ?_); (try refine .inl ?_); apply k0; clear k0; simp only [zP, M])
 refine af ?_
 apply k7; clear k7; refine kp [0, 1, 4, 5, 10] ?_
 refine aG ?_
 refine bD (fun n8 s8 => ∃ (k : Nat), (k ≤ a.length) ∧ (∀ q, q < k → a.getD q [] = b.getD q []) ∧ n8 = a.length - k ∧ s8 = { env := [(0, .one (.list .str a)), (1, .one (.list .str b)), (4, .one (.bool false)), (5, .one (.int .i64 (k : Int)))], L := [] }) ?_ ?_
 ·exact ⟨_, _, aL [0, 1, 4, 5], 0, Nat.zero_le _, fun q hq => by omega, rfl, rfl⟩
 rintro n8 s8 ⟨k, hk, hq, rfl, rfl⟩
 refine ad fun _ k9 => ?_
 refine ad fun _ k10 => ?_
 refine ag hP hN rfl ?_
 iterate 4 (refine ab rfl fun _ k0 => ?_; simp only [zO, zT, acs, reduceCtorEq, O, M, V, aa, Z, Y]; (repeat refine an ?_); (try refine .inl ?_); apply k0; clear k0; simp only [zP, M])
 refine af ?_
 apply k10; clear k10; refine kp [0, 1, 4, 5, 14] ?_
 refine cd (fun hc11 => ?_) (fun hc11 => ?_)
 ·(try simp only [zB, reduceCtorEq] at hc11)
  refine ax ?_
  apply k9; clear k9; refine kp [0, 1, 4, 5, 14] ?_
  refine ad fun _ k12 => ?_
  refine aG ?_
  refine ad fun _ k13 => ?_
  refine cm hP hN Tryd.mixed rfl ?_
  iterate 9 (refine ab rfl fun _ k0 => ?_; simp only [zO, zT, acs, reduceCtorEq, O, M, V, aa, Z, Y]; (repeat refine an ?_); (try refine .inl ?_); apply k0; clear k0; simp only [zP, M])
  refine af ?_
  refine ⟨by kernel_rfl, ?_⟩
  apply k13; clear k13; refine kp [0, 1, 4, 5, 14, 25] ?_
  refine cd (fun hc14 => ?_) (fun hc14 => ?_)
  ·(try simp only [zB, reduceCtorEq] at hc14)
   have hne : a.getD k [] ≠ b.getD k [] := by simpa using hc14
   refine ad fun _ k15 => ?_
   refine ag hP hN rfl ?_
   (refine ab rfl fun _ k0 => ?_; simp only [zO, zT, acs, reduceCtorEq, O, M, V, aa, Z, Y]; (repeat refine an ?_); (try refine .inl ?_); apply k0; clear k0; simp only [zP, M])
   refine af ?_
   apply k15; clear k15; refine kp [0, 1, 4, 5, 14, 25] ?_
   refine au ?_
   refine ⟨nr, _, rfl, ?_⟩; simp only [zF, zP, O, M]
   refine VLE.of_eq ?_
   refine congrArg (fun b => AV.one (AC.bool b)) ?_
   symm
   first
   | exact decide_eq_false fun e => hle (by rw [e])
   | exact decide_eq_false fun e => hne (by rw [e])
   | exact decide_eq_true (nk hle fun q hq2 => hq q (by omega))
  (try simp only [zB, reduceCtorEq] at hc14)
  have heq : a.getD k [] = b.getD k [] := by simpa using hc14
  refine ax ?_
  apply k12; clear k12; refine kp [0, 1, 4, 5, 14, 25] ?_
  refine ag hP hN rfl ?_
  iterate 3 (refine ab rfl fun _ k0 => ?_; simp only [zO, zT, acs, reduceCtorEq, O, M, V, aa, Z, Y]; (repeat refine an ?_); (try refine .inl ?_); apply k0; clear k0; simp only [zP, M])
  refine af ?_
  refine ⟨_, _, ?_, aL [0, 1, 4, 5], k + 1, by omega, fun q hq2 => ?_, rfl, rfl⟩
  · omega
  · by_cases e : q = k
    · rw [e]; exact heq
    · exact hq q (by omega)
 (try simp only [zB, reduceCtorEq] at hc11)
 refine bC ?_
 apply k6; clear k6; refine kp [0, 1, 4, 5, 14] ?_
 refine ad fun _ k16 => ?_
 refine ag hP hN rfl ?_
 (refine ab rfl fun _ k0 => ?_; simp only [zO, zT, acs, reduceCtorEq, O, M, V, aa, Z, Y]; (repeat refine an ?_); (try refine .inl ?_); apply k0; clear k0; simp only [zP, M])
 refine af ?_
 apply k16; clear k16; refine kp [0, 1, 4, 5, 14] ?_
 refine au ?_
 refine ⟨nr, _, rfl, ?_⟩; simp only [zF, zP, O, M]
 refine VLE.of_eq ?_
 refine congrArg (fun b => AV.one (AC.bool b)) ?_
 symm
 first
 | exact decide_eq_false fun e => hle (by rw [e])
 | exact decide_eq_false fun e => hne (by rw [e])
 | exact decide_eq_true (nk hle fun q hq2 => hq q (by omega))
theorem mO (a b : List Bs) : bP Tryd.prog 25 [.agg [.list .str a], .agg [.list .str b]] (.one (.bool (decide (a = b)))) := by
 refine aT Tryd.func25 rfl (by kernel_rfl) (Nat.le_of_ble_eq_true rfl) rfl fun C hP hN hB => ?_
 replace hN : C.N = 10 := hN
 simp only [aV, M]
 refine ad fun _ k1 => ?_
 refine ag hP hN rfl ?_
 iterate 3 (refine ab rfl fun _ k0 => ?_; simp only [zO, zT, acs, reduceCtorEq, O, M, V, aa, Z, Y]; (repeat refine an ?_); (try refine .inl ?_); apply k0; clear k0; simp only [zP, M])
 refine af ?_
 apply k1; clear k1; refine kp [0, 1, 2, 3, 4] ?_
 refine ad fun _ k2 => ?_
 refine ag hP hN rfl ?_
 iterate 4 (refine ab rfl fun _ k0 => ?_; simp only [zO, zT, acs, reduceCtorEq, O, M, V, aa, Z, Y]; (repeat refine an ?_); (try refine .inl ?_); apply k0; clear k0; simp only [zP, M])
 refine ab rfl fun _ k0 => ?_
 refine aw (h := am (np a b)) rfl rfl (by first | exact rfl | (simp only [ev, zP, O, M]; exact rfl)) (by simp only [zV, acs, reduceCtorEq, O, M, V, aa, Z, Y]) ?_
 apply k0; clear k0; simp only [zP, M]
 (refine ab rfl fun _ k0 => ?_; simp only [zO, zT, acs, reduceCtorEq, O, M, V, aa, Z, Y]; (repeat refine an ?_); (try refine .inl ?_); apply k0; clear k0; simp only [zP, M])
 refine af ?_
 apply k2; clear k2; refine kp [0, 1, 2, 3, 4] ?_
 refine au ?_
 refine ⟨nr, _, rfl, ?_⟩; simp only [zF, zP, O, M]
 refine VLE.of_eq ?_
 rfl
theorem tp (xs ys : List Int) : bP Tryd.prog 53 [.one (.list (.int .i64) xs), .one (.list (.int .i64) ys)] (.one (.bool (decide (xs = ys)))) := by
 refine aT Tryd.func53 rfl (by kernel_rfl) (Nat.le_of_ble_eq_true rfl) rfl fun C hP hN hB => ?_
 replace hN : C.N = 26 := hN
 simp only [aV, M]
 refine gl 0 rfl fun hf0 => ?_; simp only [lkp, if_true, if_false, reduceCtorEq, O, eq_self, Nat.one_ne_zero, Nat.zero_ne_one, kV, jJ, jt, Fit, and_true, implies_true, true_and] at hf0
 refine ad fun _ k1 => ?_
 refine ag hP hN rfl ?_
 (refine ab rfl fun _ k0 => ?_; simp only [zO, zT, acs, reduceCtorEq, O, M, V, aa, Z, Y]; (repeat refine an ?_); (try refine .inl ?_); apply k0; clear k0; simp only [zP, M])
 refine af ?_
 apply k1; clear k1; refine kp [0, 1, 4] ?_
 refine ad fun _ k2 => ?_
 refine ad fun _ k3 => ?_
 refine ag hP hN rfl ?_
 iterate 5 (refine ab rfl fun _ k0 => ?_; simp only [zO, zT, acs, reduceCtorEq, O, M, V, aa, Z, Y]; (repeat refine an ?_); (try refine .inl ?_); apply k0; clear k0; simp only [zP, M])
 refine af ?_
 apply k3; clear k3; refine kp [0, 1, 4, 10] ?_
 refine cd (fun hc4 => ?_) (fun hc4 => ?_)
 ·(try simp only [zB, reduceCtorEq] at hc4)
  refine ad fun _ k5 => ?_
  refine ag hP hN rfl ?_
  (refine ab rfl fun _ k0 => ?_; simp only [zO, zT, acs, reduceCtorEq, O, M, V, aa, Z, Y]; (repeat refine an ?_); (try refine .inl ?_); apply k0; clear k0; simp only [zP, M])
  refine af ?_
  apply k5; clear k5; refine kp [0, 1, 4, 10] ?_
  refine au ?_
  refine ⟨nr, _, rfl, ?_⟩; simp only [zF, zP, O, M]
  refine VLE.of_eq ?_
  first
  | (refine dq ?_; rintro rfl; first | exact absurd rfl ‹¬ _› | omega)
  | (refine dM ?_; have hk1 : k = xs.length := by omega
     have hk2 : k = ys.length := by omega
     rw [hk1, aF, ← hk1, hk2, aF] at hT; exact hT)
 (try simp only [zB, reduceCtorEq] at hc4)
 refine ax ?_
 apply k2; clear k2; refine kp [0, 1, 4, 10] ?_
 refine ad fun _ k6 => ?_
 refine ad fun _ k7 => ?_
 refine ag hP hN rfl ?_
 (refine ab rfl fun _ k0 => ?_; simp only [zO, zT, acs, reduceCtorEq, O, M, V, aa, Z, Y]; (repeat refine an ?_); (try refine .inl ?_); apply k0; clear k0; simp only [zP, M])
 refine af ?_
 apply k7; clear k7; refine kp [0, 1, 4, 5, 10] ?_
 refine aG ?_
 refine bD (fun n8 s8 => ∃ (k : Nat), (k ≤ xs.length) ∧ (xs.take k = ys.take k) ∧ n8 = xs.length - k ∧ s8 = { env := [(0, .one (.list (.int .i64) xs)), (1, .one (.list (.int .i64) ys)), (5, .one (.int .i64 (k : Int)))], L := [] }) ?_ ?_
 ·exact ⟨_, _, aL [0, 1, 5], 0, Nat.zero_le _, rfl, rfl, rfl⟩
 rintro n8 s8 ⟨k, hk, hT, rfl, rfl⟩
 refine ad fun _ k9 => ?_
 refine ad fun _ k10 => ?_
 refine ag hP hN rfl ?_
 iterate 4 (refine ab rfl fun _ k0 => ?_; simp only [zO, zT, acs, reduceCtorEq, O, M, V, aa, Z, Y]; (repeat refine an ?_); (try refine .inl ?_); apply k0; clear k0; simp only [zP, M])
 refine af ?_
 apply k10; clear k10; refine kp [0, 1, 5, 14] ?_
 refine cd (fun hc11 => ?_) (fun hc11 => ?_)
 ·(try simp only [zB, reduceCtorEq] at hc11)
  refine ax ?_
  apply k9; clear k9; refine kp [0, 1, 5, 14] ?_
  refine ad fun _ k12 => ?_
  refine aG ?_
  refine ad fun _ k13 => ?_
  refine cm hP hN Tryd.mixed rfl ?_
  iterate 9 (refine ab rfl fun _ k0 => ?_; simp only [zO, zT, acs, reduceCtorEq, O, M, V, aa, Z, Y]; (repeat refine an ?_); (try refine .inl ?_); apply k0; clear k0; simp only [zP, M])
  refine af ?_
  refine ⟨by kernel_rfl, ?_⟩
  apply k13; clear k13; refine kp [0, 1, 5, 14, 25] ?_
  refine cd (fun hc14 => ?_) (fun hc14 => ?_)
  ·(try simp only [zB, reduceCtorEq] at hc14)
   refine ad fun _ k15 => ?_
   refine ag hP hN rfl ?_
   (refine ab rfl fun _ k0 => ?_; simp only [zO, zT, acs, reduceCtorEq, O, M, V, aa, Z, Y]; (repeat refine an ?_); (try refine .inl ?_); apply k0; clear k0; simp only [zP, M])
   refine af ?_
   apply k15; clear k15; refine kp [0, 1, 4, 5, 14, 25] ?_
   refine au ?_
   refine ⟨nr, _, rfl, ?_⟩; simp only [zF, zP, O, M]
   refine VLE.of_eq ?_
   first
   | (refine dq ?_; rintro rfl; first | exact absurd rfl ‹¬ _› | omega)
   | (refine dM ?_; have hk1 : k = xs.length := by omega
      have hk2 : k = ys.length := by omega
      rw [hk1, aF, ← hk1, hk2, aF] at hT; exact hT)
  (try simp only [zB, reduceCtorEq] at hc14)
  refine ax ?_
  apply k12; clear k12; refine kp [0, 1, 5, 14, 25] ?_
  refine ag hP hN rfl ?_
  iterate 3 (refine ab rfl fun _ k0 => ?_; simp only [zO, zT, acs, reduceCtorEq, O, M, V, aa, Z, Y]; (repeat refine an ?_); (try refine .inl ?_); apply k0; clear k0; simp only [zP, M])
  refine af ?_
  refine ⟨_, _, ?_, aL [0, 1, 5], k + 1, by omega, gU (d := 0) hT (by omega) (by omega) ?_, rfl, rfl⟩
  · omega
  · first | assumption | omega
 (try simp only [zB, reduceCtorEq] at hc11)
 refine bC ?_
 apply k6; clear k6; refine kp [0, 1, 5, 14] ?_
 refine ad fun _ k16 => ?_
 refine ag hP hN rfl ?_
 (refine ab rfl fun _ k0 => ?_; simp only [zO, zT, acs, reduceCtorEq, O, M, V, aa, Z, Y]; (repeat refine an ?_); (try refine .inl ?_); apply k0; clear k0; simp only [zP, M])
 refine af ?_
 apply k16; clear k16; refine kp [0, 1, 4, 5, 14] ?_
 refine au ?_
 refine ⟨nr, _, rfl, ?_⟩; simp only [zF, zP, O, M]
 refine VLE.of_eq ?_
 first
 | (refine dq ?_; rintro rfl; first | exact absurd rfl ‹¬ _› | omega)
 | (refine dM ?_; have hk1 : k = xs.length := by omega
    have hk2 : k = ys.length := by omega
    rw [hk1, aF, ← hk1, hk2, aF] at hT; exact hT)
theorem oh (xs ys : List (List Int)) : bP Tryd.prog 41 [.one (.list (.list (.int .i64)) xs), .one (.list (.list (.int .i64)) ys)] (.one (.bool (decide (xs = ys)))) := by
 refine aT Tryd.func41 rfl (by kernel_rfl) (Nat.le_of_ble_eq_true rfl) rfl fun C hP hN hB => ?_
 replace hN : C.N = 27 := hN
 simp only [aV, M]
 refine gl 0 rfl fun hf0 => ?_; simp only [lkp, if_true, if_false, reduceCtorEq, O, eq_self, Nat.one_ne_zero, Nat.zero_ne_one, kV, jJ, jt, Fit, and_true, implies_true, true_and] at hf0
 refine ad fun _ k1 => ?_
 refine ag hP hN rfl ?_
 (refine ab rfl fun _ k0 => ?_; simp only [zO, zT, acs, reduceCtorEq, O, M, V, aa, Z, Y]; (repeat refine an ?_); (try refine .inl ?_); apply k0; clear k0; simp only [zP, M])
 refine af ?_
 apply k1; clear k1; refine kp [0, 1, 4] ?_
 refine ad fun _ k2 => ?_
 refine ad fun _ k3 => ?_
 refine ag hP hN rfl ?_
 iterate 5 (refine ab rfl fun _ k0 => ?_; simp only [zO, zT, acs, reduceCtorEq, O, M, V, aa, Z, Y]; (repeat refine an ?_); (try refine .inl ?_); apply k0; clear k0; simp only [zP, M])
 refine af ?_
 apply k3; clear k3; refine kp [0, 1, 4, 10] ?_
 refine cd (fun hc4 => ?_) (fun hc4 => ?_)
 ·(try simp only [zB, reduceCtorEq] at hc4)
  refine ad fun _ k5 => ?_
  refine ag hP hN rfl ?_
  (refine ab rfl fun _ k0 => ?_; simp only [zO, zT, acs, reduceCtorEq, O, M, V, aa, Z, Y]; (repeat refine an ?_); (try refine .inl ?_); apply k0; clear k0; simp only [zP, M])
  refine af ?_
  apply k5; clear k5; refine kp [0, 1, 4, 10] ?_
  refine au ?_
  refine ⟨nr, _, rfl, ?_⟩; simp only [zF, zP, O, M]
  refine VLE.of_eq ?_
  first
  | (refine dq ?_; rintro rfl; first | exact absurd rfl ‹¬ _› | omega)
  | (refine dM ?_; have hk1 : k = xs.length := by omega
     have hk2 : k = ys.length := by omega
     rw [hk1, aF, ← hk1, hk2, aF] at hT; exact hT)
 (try simp only [zB, reduceCtorEq] at hc4)
 refine ax ?_
 apply k2; clear k2; refine kp [0, 1, 4, 10] ?_
 refine ad fun _ k6 => ?_
 refine ad fun _ k7 => ?_
 refine ag hP hN rfl ?_
 (refine ab rfl fun _ k0 => ?_; simp only [zO, zT, acs, reduceCtorEq, O, M, V, aa, Z, Y]; (repeat refine an ?_); (try refine .inl ?_); apply k0; clear k0; simp only [zP, M])
 refine af ?_
 apply k7; clear k7; refine kp [0, 1, 4, 5, 10] ?_
 refine aG ?_
 refine bD (fun n8 s8 => ∃ (k : Nat), (k ≤ xs.length) ∧ (xs.take k = ys.take k) ∧ n8 = xs.length - k ∧ s8 = { env := [(0, .one (.list (.list (.int .i64)) xs)), (1, .one (.list (.list (.int .i64)) ys)), (5, .one (.int .i64 (k : Int)))], L := [] }) ?_ ?_
 ·exact ⟨_, _, aL [0, 1, 5], 0, Nat.zero_le _, rfl, rfl, rfl⟩
 rintro n8 s8 ⟨k, hk, hT, rfl, rfl⟩
 refine ad fun _ k9 => ?_
 refine ad fun _ k10 => ?_
 refine ag hP hN rfl ?_
 iterate 4 (refine ab rfl fun _ k0 => ?_; simp only [zO, zT, acs, reduceCtorEq, O, M, V, aa, Z, Y]; (repeat refine an ?_); (try refine .inl ?_); apply k0; clear k0; simp only [zP, M])
 refine af ?_
 apply k10; clear k10; refine kp [0, 1, 5, 14] ?_
 refine cd (fun hc11 => ?_) (fun hc11 => ?_)
 ·(try simp only [zB, reduceCtorEq] at hc11)
  refine ax ?_
  apply k9; clear k9; refine kp [0, 1, 5, 14] ?_
  refine ad fun _ k12 => ?_
  refine aG ?_
  refine ad fun _ k13 => ?_
  refine cm hP hN Tryd.mixed rfl ?_
  iterate 8 (refine ab rfl fun _ k0 => ?_; simp only [zO, zT, acs, reduceCtorEq, O, M, V, aa, Z, Y]; (repeat refine an ?_); (try refine .inl ?_); apply k0; clear k0; simp only [zP, M])
  refine ab rfl fun _ k0 => ?_
  refine aw (h := am (tp (xs.getD k []) (ys.getD k []))) rfl rfl (by first | exact rfl | (simp only [ev, zP, O, M]; exact rfl)) (by simp only [zV, acs, reduceCtorEq, O, M, V, aa, Z, Y]) ?_
  apply k0; clear k0; simp only [zP, M]
  (refine ab rfl fun _ k0 => ?_; simp only [zO, zT, acs, reduceCtorEq, O, M, V, aa, Z, Y]; (repeat refine an ?_); (try refine .inl ?_); apply k0; clear k0; simp only [zP, M])
  refine af ?_
  refine ⟨by kernel_rfl, ?_⟩
  apply k13; clear k13; refine kp [0, 1, 5, 14, 26] ?_
  refine cd (fun hc14 => ?_) (fun hc14 => ?_)
  ·(try simp only [zB, reduceCtorEq] at hc14)
   refine ad fun _ k15 => ?_
   refine ag hP hN rfl ?_
   (refine ab rfl fun _ k0 => ?_; simp only [zO, zT, acs, reduceCtorEq, O, M, V, aa, Z, Y]; (repeat refine an ?_); (try refine .inl ?_); apply k0; clear k0; simp only [zP, M])
   refine af ?_
   apply k15; clear k15; refine kp [0, 1, 4, 5, 14, 26] ?_
   refine au ?_
   refine ⟨nr, _, rfl, ?_⟩; simp only [zF, zP, O, M]
   refine VLE.of_eq ?_
   first
   | (refine dq ?_; rintro rfl; first | exact absurd rfl ‹¬ _› | omega)
   | (refine dM ?_; have hk1 : k = xs.length := by omega
      have hk2 : k = ys.length := by omega
      rw [hk1, aF, ← hk1, hk2, aF] at hT; exact hT)
  (try simp only [zB, reduceCtorEq] at hc14)
  refine ax ?_
  apply k12; clear k12; refine kp [0, 1, 5, 14, 26] ?_
  refine ag hP hN rfl ?_
  iterate 3 (refine ab rfl fun _ k0 => ?_; simp only [zO, zT, acs, reduceCtorEq, O, M, V, aa, Z, Y]; (repeat refine an ?_); (try refine .inl ?_); apply k0; clear k0; simp only [zP, M])
  refine af ?_
  refine ⟨_, _, ?_, aL [0, 1, 5], k + 1, by omega, gU (d := []) hT (by omega) (by omega) ?_, rfl, rfl⟩
  · omega
  · first | assumption | omega
 (try simp only [zB, reduceCtorEq] at hc11)
 refine bC ?_
 apply k6; clear k6; refine kp [0, 1, 5, 14] ?_
 refine ad fun _ k16 => ?_
 refine ag hP hN rfl ?_
 (refine ab rfl fun _ k0 => ?_; simp only [zO, zT, acs, reduceCtorEq, O, M, V, aa, Z, Y]; (repeat refine an ?_); (try refine .inl ?_); apply k0; clear k0; simp only [zP, M])
 refine af ?_
 apply k16; clear k16; refine kp [0, 1, 4, 5, 14] ?_
 refine au ?_
 refine ⟨nr, _, rfl, ?_⟩; simp only [zF, zP, O, M]
 refine VLE.of_eq ?_
 first
 | (refine dq ?_; rintro rfl; first | exact absurd rfl ‹¬ _› | omega)
 | (refine dM ?_; have hk1 : k = xs.length := by omega
    have hk2 : k = ys.length := by omega
    rw [hk1, aF, ← hk1, hk2, aF] at hT; exact hT)
theorem sW (m n : Mly) : bP Tryd.prog 26 [m.av, n.av] (.one (.bool (iB m n))) := by
 refine aT Tryd.func26 rfl (by kernel_rfl) (Nat.le_of_ble_eq_true rfl) rfl fun C hP hN hB => ?_
 replace hN : C.N = 31 := hN
 simp only [aV, M]
 refine ad fun _ k1 => ?_
 refine ag hP hN rfl ?_
 iterate 3 (refine ab rfl fun _ k0 => ?_; simp only [zO, zT, acs, reduceCtorEq, O, M, V, aa, Z, Y, Mly.av]; (repeat refine an ?_); (try refine .inl ?_); apply k0; clear k0; simp only [zP, M])
 refine af ?_
 apply k1; clear k1; refine kp [0, 1, 2, 3, 4] ?_
 refine ad fun _ k2 => ?_
 refine ag hP hN rfl ?_
 iterate 6 (refine ab rfl fun _ k0 => ?_; simp only [zO, zT, acs, reduceCtorEq, O, M, V, aa, Z, Y, Mly.av]; (repeat refine an ?_); (try refine .inl ?_); apply k0; clear k0; simp only [zP, M])
 refine' ay (want := true) 5 rfl (m := 10) (by simp only [zP, O, M]; exact rfl) (by kernel_rfl) rfl rfl rfl rfl rfl (fun hg3 => ?a3) ?b3 ?c3
 case a3 =>
  have hq3 := hg3; (try simp only [zB, reduceCtorEq] at hg3); simp only [zE]
  iterate 5 (refine aO rfl fun _ k0 => ?_; simp only [zO, zT, acs, reduceCtorEq, O, M, V, aa, Z, Y, Mly.av]; (repeat refine an ?_); (try refine .inl ?_); apply k0; clear k0; simp only [zP, M])
  (refine ab rfl fun _ k0 => ?_; simp only [zO, zT, acs, reduceCtorEq, O, M, V, aa, Z, Y, Mly.av]; (repeat refine an ?_); (try refine .inl ?_); apply k0; clear k0; simp only [zP, M])
  refine af ?_
  refine ⟨by simp only [zP, O, M]; exact rfl, rfl, ?_, rfl⟩; (repeat refine az rfl ?_); exact aP (by exact rfl) hq3
 case b3 => exact bq
 simp only [aK, aH]
 (refine ab rfl fun _ k0 => ?_; simp only [zO, zT, acs, reduceCtorEq, O, M, V, aa, Z, Y, Mly.av]; (repeat refine an ?_); (try refine .inl ?_); apply k0; clear k0; simp only [zP, M])
 refine' ay (want := true) 5 rfl (m := 17) (by simp only [zP, O, M]; exact rfl) (by kernel_rfl) rfl rfl rfl rfl rfl (fun hg4 => ?a4) ?b4 ?c4
 case a4 =>
  have hq4 := hg4; (try simp only [zB, reduceCtorEq] at hg4); simp only [zE]
  iterate 4 (refine aO rfl fun _ k0 => ?_; simp only [zO, zT, acs, reduceCtorEq, O, M, V, aa, Z, Y, Mly.av]; (repeat refine an ?_); (try refine .inl ?_); apply k0; clear k0; simp only [zP, M])
  refine aO rfl fun _ k0 => ?_
  refine aw (h := am (oh m.nx n.nx)) rfl rfl (by first | exact rfl | (simp only [ev, zP, O, M]; exact rfl)) (by simp only [zV, acs, reduceCtorEq, O, M, V, aa, Z, Y, Mly.av]) ?_
  apply k0; clear k0; simp only [zP, M]
  (refine ab rfl fun _ k0 => ?_; simp only [zO, zT, acs, reduceCtorEq, O, M, V, aa, Z, Y, Mly.av]; (repeat refine an ?_); (try refine .inl ?_); apply k0; clear k0; simp only [zP, M])
  refine af ?_
  refine ⟨by simp only [zP, O, M]; exact rfl, rfl, ?_, rfl⟩; (repeat refine az rfl ?_); exact aP (by exact rfl) hq4
 case b4 => exact bq
 simp only [aK, aH]
 (refine ab rfl fun _ k0 => ?_; simp only [zO, zT, acs, reduceCtorEq, O, M, V, aa, Z, Y, Mly.av]; (repeat refine an ?_); (try refine .inl ?_); apply k0; clear k0; simp only [zP, M])
 refine' ay (want := true) 5 rfl (m := 24) (by simp only [zP, O, M]; exact rfl) (by kernel_rfl) rfl rfl rfl rfl rfl (fun hg5 => ?a5) ?b5 ?c5
 case a5 =>
  have hq5 := hg5; (try simp only [zB, reduceCtorEq] at hg5); simp only [zE]
  iterate 4 (refine aO rfl fun _ k0 => ?_; simp only [zO, zT, acs, reduceCtorEq, O, M, V, aa, Z, Y, Mly.av]; (repeat refine an ?_); (try refine .inl ?_); apply k0; clear k0; simp only [zP, M])
  refine aO rfl fun _ k0 => ?_
  refine aw (h := am (oh m.ot n.ot)) rfl rfl (by first | exact rfl | (simp only [ev, zP, O, M]; exact rfl)) (by simp only [zV, acs, reduceCtorEq, O, M, V, aa, Z, Y, Mly.av]) ?_
  apply k0; clear k0; simp only [zP, M]
  (refine ab rfl fun _ k0 => ?_; simp only [zO, zT, acs, reduceCtorEq, O, M, V, aa, Z, Y, Mly.av]; (repeat refine an ?_); (try refine .inl ?_); apply k0; clear k0; simp only [zP, M])
  refine af ?_
  refine ⟨by simp only [zP, O, M]; exact rfl, rfl, ?_, rfl⟩; (repeat refine az rfl ?_); exact aP (by exact rfl) hq5
 case b5 => exact bq
 simp only [aK, aH]
 (refine ab rfl fun _ k0 => ?_; simp only [zO, zT, acs, reduceCtorEq, O, M, V, aa, Z, Y, Mly.av]; (repeat refine an ?_); (try refine .inl ?_); apply k0; clear k0; simp only [zP, M])
 refine af ?_
 apply k2; clear k2; refine kp [0, 1, 2, 3, 4] ?_
 refine au ?_
 refine ⟨nr, _, rfl, ?_⟩; simp only [zF, zP, O, M, Mly.av]
 refine VLE.of_eq ?_
 rfl
theorem pH (x y : Mdl) : bP Tryd.prog 12 [x.av, y.av] (.one (.bool (decide (x.nm = y.nm) && decide (x.ins = y.ins) && decide (x.outs = y.outs) && iB x.m y.m))) := by
 refine aT Tryd.func12 rfl (by kernel_rfl) (Nat.le_of_ble_eq_true rfl) rfl fun C hP hN hB => ?_
 replace hN : C.N = 31 := hN
 simp only [aV, M]
 refine ad fun _ k1 => ?_
 refine ag hP hN rfl ?_
 iterate 3 (refine ab rfl fun _ k0 => ?_; simp only [zO, zT, acs, reduceCtorEq, O, M, V, aa, Z, Y, Mdl.av, Mdl.cs]; (repeat refine an ?_); (try refine .inl ?_); apply k0; clear k0; simp only [zP, M])
 refine af ?_
 apply k1; clear k1; refine kp [0, 1, 2, 3, 4] ?_
 refine ad fun _ k2 => ?_
 refine ag hP hN rfl ?_
 iterate 6 (refine ab rfl fun _ k0 => ?_; simp only [zO, zT, acs, reduceCtorEq, O, M, V, aa, Z, Y, Mdl.av, Mdl.cs]; (repeat refine an ?_); (try refine .inl ?_); apply k0; clear k0; simp only [zP, M])
 refine' ay (want := true) 5 rfl (m := 10) (by simp only [zP, O, M]; exact rfl) (by kernel_rfl) rfl rfl rfl rfl rfl (fun hg3 => ?a3) ?b3 ?c3
 case a3 =>
  have hq3 := hg3; (try simp only [zB, reduceCtorEq] at hg3); simp only [zE]
  iterate 4 (refine aO rfl fun _ k0 => ?_; simp only [zO, zT, acs, reduceCtorEq, O, M, V, aa, Z, Y, Mdl.av, Mdl.cs]; (repeat refine an ?_); (try refine .inl ?_); apply k0; clear k0; simp only [zP, M])
  refine aO rfl fun _ k0 => ?_
  refine aw (h := am (mO x.ins y.ins)) rfl rfl (by first | exact rfl | (simp only [ev, zP, O, M]; exact rfl)) (by simp only [zV, acs, reduceCtorEq, O, M, V, aa, Z, Y, Mdl.av, Mdl.cs]) ?_
  apply k0; clear k0; simp only [zP, M]
  (refine ab rfl fun _ k0 => ?_; simp only [zO, zT, acs, reduceCtorEq, O, M, V, aa, Z, Y, Mdl.av, Mdl.cs]; (repeat refine an ?_); (try refine .inl ?_); apply k0; clear k0; simp only [zP, M])
  refine af ?_
  refine ⟨by simp only [zP, O, M]; exact rfl, rfl, ?_, rfl⟩; (repeat refine az rfl ?_); exact aP (by exact rfl) hq3
 case b3 => exact bq
 simp only [aK, aH]
 (refine ab rfl fun _ k0 => ?_; simp only [zO, zT, acs, reduceCtorEq, O, M, V, aa, Z, Y, Mdl.av, Mdl.cs]; (repeat refine an ?_); (try refine .inl ?_); apply k0; clear k0; simp only [zP, M])
 refine' ay (want := true) 5 rfl (m := 17) (by simp only [zP, O, M]; exact rfl) (by kernel_rfl) rfl rfl rfl rfl rfl (fun hg4 => ?a4) ?b4 ?c4
 case a4 =>
  have hq4 := hg4; (try simp only [zB, reduceCtorEq] at hg4); simp only [zE]
  iterate 4 (refine aO rfl fun _ k0 => ?_; simp only [zO, zT, acs, reduceCtorEq, O, M, V, aa, Z, Y, Mdl.av, Mdl.cs]; (repeat refine an ?_); (try refine .inl ?_); apply k0; clear k0; simp only [zP, M])
  refine aO rfl fun _ k0 => ?_
  refine aw (h := am (mO x.outs y.outs)) rfl rfl (by first | exact rfl | (simp only [ev, zP, O, M]; exact rfl)) (by simp only [zV, acs, reduceCtorEq, O, M, V, aa, Z, Y, Mdl.av, Mdl.cs]) ?_
  apply k0; clear k0; simp only [zP, M]
  (refine ab rfl fun _ k0 => ?_; simp only [zO, zT, acs, reduceCtorEq, O, M, V, aa, Z, Y, Mdl.av, Mdl.cs]; (repeat refine an ?_); (try refine .inl ?_); apply k0; clear k0; simp only [zP, M])
  refine af ?_
  refine ⟨by simp only [zP, O, M]; exact rfl, rfl, ?_, rfl⟩; (repeat refine az rfl ?_); exact aP (by exact rfl) hq4
 case b4 => exact bq
 simp only [aK, aH]
 (refine ab rfl fun _ k0 => ?_; simp only [zO, zT, acs, reduceCtorEq, O, M, V, aa, Z, Y, Mdl.av, Mdl.cs]; (repeat refine an ?_); (try refine .inl ?_); apply k0; clear k0; simp only [zP, M])
 refine' ay (want := true) 5 rfl (m := 24) (by simp only [zP, O, M]; exact rfl) (by kernel_rfl) rfl rfl rfl rfl rfl (fun hg5 => ?a5) ?b5 ?c5
 case a5 =>
  have hq5 := hg5; (try simp only [zB, reduceCtorEq] at hg5); simp only [zE]
  iterate 4 (refine aO rfl fun _ k0 => ?_; simp only [zO, zT, acs, reduceCtorEq, O, M, V, aa, Z, Y, Mdl.av, Mdl.cs]; (repeat refine an ?_); (try refine .inl ?_); apply k0; clear k0; simp only [zP, M])
  refine aO rfl fun _ k0 => ?_
  refine aw (h := am (sW x.m y.m)) rfl rfl (by first | exact rfl | (simp only [ev, zP, O, M]; exact rfl)) (by simp only [zV, acs, reduceCtorEq, O, M, V, aa, Z, Y, Mdl.av, Mdl.cs]) ?_
  apply k0; clear k0; simp only [zP, M]
  (refine ab rfl fun _ k0 => ?_; simp only [zO, zT, acs, reduceCtorEq, O, M, V, aa, Z, Y, Mdl.av, Mdl.cs]; (repeat refine an ?_); (try refine .inl ?_); apply k0; clear k0; simp only [zP, M])
  refine af ?_
  refine ⟨by simp only [zP, O, M]; exact rfl, rfl, ?_, rfl⟩; (repeat refine az rfl ?_); exact aP (by exact rfl) hq5
 case b5 => exact bq
 simp only [aK, aH]
 (refine ab rfl fun _ k0 => ?_; simp only [zO, zT, acs, reduceCtorEq, O, M, V, aa, Z, Y, Mdl.av, Mdl.cs]; (repeat refine an ?_); (try refine .inl ?_); apply k0; clear k0; simp only [zP, M])
 refine af ?_
 apply k2; clear k2; refine kp [0, 1, 2, 3, 4] ?_
 refine au ?_
 refine ⟨nr, _, rfl, ?_⟩; simp only [zF, zP, O, M, Mdl.av, Mdl.cs]
 refine VLE.of_eq ?_
 rfl
theorem lM (x y : Mdl) : bP Tryd.prog 12 [x.av, y.av] (.one (.bool (lS x y))) := pH x y
set_option maxHeartbeats 2000000 in
theorem i8  : bP Tryd.prog 8 [] (.one (.bool true)) := by
 refine aT Tryd.func8 rfl (by kernel_rfl) (Nat.le_of_ble_eq_true rfl) rfl fun C hP hN hB => ?_
 replace hN : C.N = 99 := hN
 simp only [aV, M]
 refine ad fun _ k1 => ?_
 refine ag hP hN rfl ?_
 (refine ab rfl fun _ k0 => ?_; simp only [zO, zT, acs, reduceCtorEq, O, M, V, aa, Z, Y, Mdl.av, Mdl.cs]; (repeat refine an ?_); (try refine .inl ?_); apply k0; clear k0; simp only [zP, M])
 refine af ?_
 apply k1; clear k1; refine kp [0] ?_
 refine ad fun _ k2 => ?_
 refine ag hP hN rfl ?_
 refine ab rfl fun _ k0 => ?_
 refine aw (h := am mT) rfl rfl (by first | exact rfl | (simp only [ev, zP, O, M]; exact rfl)) (by simp only [zV, acs, reduceCtorEq, O, M, V, aa, Z, Y, Mdl.av, Mdl.cs]) ?_
 apply k0; clear k0; simp only [zP, M]
 refine ab rfl fun _ k0 => ?_
 refine aw (h := am rU) rfl rfl (by first | exact rfl | (simp only [ev, zP, O, M]; exact rfl)) (by simp only [zV, acs, reduceCtorEq, O, M, V, aa, Z, Y, Mdl.av, Mdl.cs]) ?_
 apply k0; clear k0; simp only [zP, M]
 iterate 5 (refine ab rfl fun _ k0 => ?_; simp only [zO, zT, acs, reduceCtorEq, O, M, V, aa, Z, Y, Mdl.av, Mdl.cs]; (repeat refine an ?_); (try refine .inl ?_); apply k0; clear k0; simp only [zP, M])
 refine af ?_
 apply k2; clear k2; refine kp [0, 1, 2] ?_
 refine ad fun _ k3 => ?_
 refine ag hP hN rfl ?_
 refine ab rfl fun _ k0 => ?_
 refine aw (h := am uw) rfl rfl (by first | exact rfl | (simp only [ev, zP, O, M]; exact rfl)) (by simp only [zV, acs, reduceCtorEq, O, M, V, aa, Z, Y, Mdl.av, Mdl.cs, List.append_eq, ak, ar, gtx, gtA, gtB, gtC]) ?_
 apply k0; clear k0; simp only [zP, M]
 iterate 8 (refine ab rfl fun _ k0 => ?_; simp only [zO, zT, acs, reduceCtorEq, O, M, V, aa, Z, Y, Mdl.av, Mdl.cs, List.append_eq, ak, ar, gtx, gtA, gtB, gtC]; (repeat refine an ?_); (try refine .inl ?_); apply k0; clear k0; simp only [zP, M])
 refine af ?_
 apply k3; clear k3; refine kp [0, 1, 2, 3, 4, 5] ?_
 refine ad fun _ k4 => ?_
 refine ag hP hN rfl ?_
 refine ab rfl fun _ k0 => ?_
 refine aw (h := am ut) rfl rfl (by first | exact rfl | (simp only [ev, zP, O, M]; exact rfl)) (by simp only [zV, acs, reduceCtorEq, O, M, V, aa, Z, Y, Mdl.av, Mdl.cs, List.append_eq, ak, ar, gtx, gtA, gtB, gtC]) ?_
 apply k0; clear k0; simp only [zP, M]
 iterate 8 (refine ab rfl fun _ k0 => ?_; simp only [zO, zT, acs, reduceCtorEq, O, M, V, aa, Z, Y, Mdl.av, Mdl.cs, List.append_eq, ak, ar, gtx, gtA, gtB, gtC]; (repeat refine an ?_); (try refine .inl ?_); apply k0; clear k0; simp only [zP, M])
 refine af ?_
 apply k4; clear k4; refine kp [0, 1, 2, 3, 4, 5, 7, 8] ?_
 refine ad fun _ k5 => ?_
 refine ag hP hN rfl ?_
 refine ab rfl fun _ k0 => ?_
 refine aw (h := am uq) rfl rfl (by first | exact rfl | (simp only [ev, zP, O, M]; exact rfl)) (by simp only [zV, acs, reduceCtorEq, O, M, V, aa, Z, Y, Mdl.av, Mdl.cs, List.append_eq, ak, ar, gtx, gtA, gtB, gtC]) ?_
 apply k0; clear k0; simp only [zP, M]
 iterate 8 (refine ab rfl fun _ k0 => ?_; simp only [zO, zT, acs, reduceCtorEq, O, M, V, aa, Z, Y, Mdl.av, Mdl.cs, List.append_eq, ak, ar, gtx, gtA, gtB, gtC]; (repeat refine an ?_); (try refine .inl ?_); apply k0; clear k0; simp only [zP, M])
 refine af ?_
 apply k5; clear k5; refine kp [0, 1, 2, 3, 4, 5, 7, 8, 10, 11] ?_
 refine ad fun _ k6 => ?_
 refine ag hP hN rfl ?_
 refine ab rfl fun _ k0 => ?_
 refine aw (h := am uy) rfl rfl (by first | exact rfl | (simp only [ev, zP, O, M]; exact rfl)) (by simp only [zV, acs, reduceCtorEq, O, M, V, aa, Z, Y, Mdl.av, Mdl.cs, List.append_eq, ak, ar, gtx, gtA, gtB, gtC]) ?_
 apply k0; clear k0; simp only [zP, M]
 iterate 8 (refine ab rfl fun _ k0 => ?_; simp only [zO, zT, acs, reduceCtorEq, O, M, V, aa, Z, Y, Mdl.av, Mdl.cs, List.append_eq, ak, ar, gtx, gtA, gtB, gtC]; (repeat refine an ?_); (try refine .inl ?_); apply k0; clear k0; simp only [zP, M])
 refine af ?_
 apply k6; clear k6; refine kp [0, 1, 2, 3, 4, 5, 7, 8, 10, 11, 13, 14] ?_
 refine ad fun _ k7 => ?_
 refine ag hP hN rfl ?_
 refine ab rfl fun _ k0 => ?_
 refine aw (h := am uB) rfl rfl (by first | exact rfl | (simp only [ev, zP, O, M]; exact rfl)) (by simp only [zV, acs, reduceCtorEq, O, M, V, aa, Z, Y, Mdl.av, Mdl.cs]) ?_
 apply k0; clear k0; simp only [zP, M]
 iterate 8 (refine ab rfl fun _ k0 => ?_; simp only [zO, zT, acs, reduceCtorEq, O, M, V, aa, Z, Y, Mdl.av, Mdl.cs]; (repeat refine an ?_); (try refine .inl ?_); apply k0; clear k0; simp only [zP, M])
 refine af ?_
 apply k7; clear k7; refine kp [0, 1, 2, 3, 4, 5, 7, 8, 10, 11, 13, 14, 16, 17] ?_
 refine ad fun _ k8 => ?_
 refine cm hP hN Tryd.mixed rfl ?_
 iterate 3 (refine ab rfl fun _ k0 => ?_; simp only [zO, zT, acs, reduceCtorEq, O, M, V, aa, Z, Y, Mdl.av, Mdl.cs, List.append_eq, ak, ar, gtx, gtA, gtB, gtC]; (repeat refine an ?_); (try refine .inl ?_); apply k0; clear k0; simp only [zP, M])
 refine' ay (want := true) 2 rfl (m := 50) (by simp only [zP, O, M]; exact rfl) (by kernel_rfl) rfl rfl rfl rfl rfl (fun hg9 => ?a9) ?b9 ?c9
 case a9 =>
  have hq9 := hg9; (try simp only [zB, reduceCtorEq] at hg9); simp only [zE]
  iterate 2 (refine aO rfl fun _ k0 => ?_; simp only [zO, zT, acs, reduceCtorEq, O, M, V, aa, Z, Y, Mdl.av, Mdl.cs, List.append_eq, ak, ar, gtx, gtA, gtB, gtC]; (repeat refine an ?_); (try refine .inl ?_); apply k0; clear k0; simp only [zP, M])
  (refine ab rfl fun _ k0 => ?_; simp only [zO, zT, acs, reduceCtorEq, O, M, V, aa, Z, Y, Mdl.av, Mdl.cs, List.append_eq, ak, ar, gtx, gtA, gtB, gtC]; (repeat refine an ?_); (try refine .inl ?_); apply k0; clear k0; simp only [zP, M])
  refine af ?_
  refine ⟨by simp only [zP, O, M]; exact rfl, rfl, ?_, rfl⟩; (repeat refine az rfl ?_); exact aP (by exact rfl) hq9
 case b9 => exact bq
 simp only [aK, aH]
 (refine ab rfl fun _ k0 => ?_; simp only [zO, zT, acs, reduceCtorEq, O, M, V, aa, Z, Y, Mdl.av, Mdl.cs, List.append_eq, ak, ar, gtx, gtA, gtB, gtC]; (repeat refine an ?_); (try refine .inl ?_); apply k0; clear k0; simp only [zP, M])
 refine' ay (want := true) 3 rfl (m := 54) (by simp only [zP, O, M]; exact rfl) (by kernel_rfl) rfl rfl rfl rfl rfl (fun hg10 => ?a10) ?b10 ?c10
 case a10 =>
  have hq10 := hg10; (try simp only [zB, reduceCtorEq] at hg10); simp only [zE]
  (refine aO rfl fun _ k0 => ?_; simp only [zO, zT, acs, reduceCtorEq, O, M, V, aa, Z, Y, Mdl.av, Mdl.cs, List.append_eq, ak, ar, gtx, gtA, gtB, gtC]; (repeat refine an ?_); (try refine .inl ?_); apply k0; clear k0; simp only [zP, M])
  refine aO rfl fun _ k0 => ?_
  refine aw (h := am mT) rfl rfl (by first | exact rfl | (simp only [ev, zP, O, M]; exact rfl)) (by simp only [zV, acs, reduceCtorEq, O, M, V, aa, Z, Y, Mdl.av, Mdl.cs, List.append_eq, ak, ar, gtx, gtA, gtB, gtC]) ?_
  apply k0; clear k0; simp only [zP, M]
  refine aO rfl fun _ k0 => ?_
  refine aw (h := am (lM eh eh)) rfl rfl (by first | exact rfl | (simp only [ev, zP, O, M]; exact rfl)) (by simp only [zV, acs, reduceCtorEq, O, M, V, aa, Z, Y, Mdl.av, Mdl.cs, List.append_eq, ak, ar, gtx, gtA, gtB, gtC]) ?_
  apply k0; clear k0; simp only [zP, M]
  (refine ab rfl fun _ k0 => ?_; simp only [zO, zT, acs, reduceCtorEq, O, M, V, aa, Z, Y, Mdl.av, Mdl.cs, List.append_eq, ak, ar, gtx, gtA, gtB, gtC]; (repeat refine an ?_); (try refine .inl ?_); apply k0; clear k0; simp only [zP, M])
  refine af ?_
  refine ⟨by simp only [zP, O, M]; exact rfl, rfl, ?_, rfl⟩; (repeat refine az rfl ?_); exact aP (by exact rfl) hq10
 case b10 => exact bq
 simp only [aK, aH]
 (refine ab rfl fun _ k0 => ?_; simp only [zO, zT, acs, reduceCtorEq, O, M, V, aa, Z, Y, Mdl.av, Mdl.cs, List.append_eq, ak, ar, gtx, gtA, gtB, gtC]; (repeat refine an ?_); (try refine .inl ?_); apply k0; clear k0; simp only [zP, M])
 refine' ay (want := true) 2 rfl (m := 59) (by simp only [zP, O, M]; exact rfl) (by kernel_rfl) rfl rfl rfl rfl rfl (fun hg11 => ?a11) ?b11 ?c11
 case a11 =>
  have hq11 := hg11; (try simp only [zB, reduceCtorEq] at hg11); simp only [zE]
  iterate 2 (refine aO rfl fun _ k0 => ?_; simp only [zO, zT, acs, reduceCtorEq, O, M, V, aa, Z, Y, Mdl.av, Mdl.cs, List.append_eq, ak, ar, gtx, gtA, gtB, gtC]; (repeat refine an ?_); (try refine .inl ?_); apply k0; clear k0; simp only [zP, M])
  (refine ab rfl fun _ k0 => ?_; simp only [zO, zT, acs, reduceCtorEq, O, M, V, aa, Z, Y, Mdl.av, Mdl.cs, List.append_eq, ak, ar, gtx, gtA, gtB, gtC]; (repeat refine an ?_); (try refine .inl ?_); apply k0; clear k0; simp only [zP, M])
  refine af ?_
  refine ⟨by simp only [zP, O, M]; exact rfl, rfl, ?_, rfl⟩; (repeat refine az rfl ?_); exact aP (by exact rfl) hq11
 case b11 => exact bq
 simp only [aK, aH]
 (refine ab rfl fun _ k0 => ?_; simp only [zO, zT, acs, reduceCtorEq, O, M, V, aa, Z, Y, Mdl.av, Mdl.cs, List.append_eq, ak, ar, gtx, gtA, gtB, gtC]; (repeat refine an ?_); (try refine .inl ?_); apply k0; clear k0; simp only [zP, M])
 refine' ay (want := true) 2 rfl (m := 63) (by simp only [zP, O, M]; exact rfl) (by kernel_rfl) rfl rfl rfl rfl rfl (fun hg12 => ?a12) ?b12 ?c12
 case a12 =>
  have hq12 := hg12; (try simp only [zB, reduceCtorEq] at hg12); simp only [zE]
  iterate 2 (refine aO rfl fun _ k0 => ?_; simp only [zO, zT, acs, reduceCtorEq, O, M, V, aa, Z, Y, Mdl.av, Mdl.cs, List.append_eq, ak, ar, gtx, gtA, gtB, gtC]; (repeat refine an ?_); (try refine .inl ?_); apply k0; clear k0; simp only [zP, M])
  (refine ab rfl fun _ k0 => ?_; simp only [zO, zT, acs, reduceCtorEq, O, M, V, aa, Z, Y, Mdl.av, Mdl.cs, List.append_eq, ak, ar, gtx, gtA, gtB, gtC]; (repeat refine an ?_); (try refine .inl ?_); apply k0; clear k0; simp only [zP, M])
  refine af ?_
  refine ⟨by simp only [zP, O, M]; exact rfl, rfl, ?_, rfl⟩; (repeat refine az rfl ?_); exact aP (by exact rfl) hq12
 case b12 => exact bq
 simp only [aK, aH]
 (refine ab rfl fun _ k0 => ?_; simp only [zO, zT, acs, reduceCtorEq, O, M, V, aa, Z, Y, Mdl.av, Mdl.cs, List.append_eq, ak, ar, gtx, gtA, gtB, gtC]; (repeat refine an ?_); (try refine .inl ?_); apply k0; clear k0; simp only [zP, M])
 refine' ay (want := true) 2 rfl (m := 67) (by simp only [zP, O, M]; exact rfl) (by kernel_rfl) rfl rfl rfl rfl rfl (fun hg13 => ?a13) ?b13 ?c13
 case a13 =>
  have hq13 := hg13; (try simp only [zB, reduceCtorEq] at hg13); simp only [zE]
  iterate 2 (refine aO rfl fun _ k0 => ?_; simp only [zO, zT, acs, reduceCtorEq, O, M, V, aa, Z, Y, Mdl.av, Mdl.cs, List.append_eq, ak, ar, gtx, gtA, gtB, gtC]; (repeat refine an ?_); (try refine .inl ?_); apply k0; clear k0; simp only [zP, M])
  (refine ab rfl fun _ k0 => ?_; simp only [zO, zT, acs, reduceCtorEq, O, M, V, aa, Z, Y, Mdl.av, Mdl.cs, List.append_eq, ak, ar, gtx, gtA, gtB, gtC]; (repeat refine an ?_); (try refine .inl ?_); apply k0; clear k0; simp only [zP, M])
  refine af ?_
  refine ⟨by simp only [zP, O, M]; exact rfl, rfl, ?_, rfl⟩; (repeat refine az rfl ?_); exact aP (by exact rfl) hq13
 case b13 => exact bq
 simp only [aK, aH]
 (refine ab rfl fun _ k0 => ?_; simp only [zO, zT, acs, reduceCtorEq, O, M, V, aa, Z, Y, Mdl.av, Mdl.cs, List.append_eq, ak, ar, gtx, gtA, gtB, gtC]; (repeat refine an ?_); (try refine .inl ?_); apply k0; clear k0; simp only [zP, M])
 refine' ay (want := true) 2 rfl (m := 71) (by simp only [zP, O, M]; exact rfl) (by kernel_rfl) rfl rfl rfl rfl rfl (fun hg14 => ?a14) ?b14 ?c14
 case a14 =>
  have hq14 := hg14; (try simp only [zB, reduceCtorEq] at hg14); simp only [zE]
  iterate 2 (refine aO rfl fun _ k0 => ?_; simp only [zO, zT, acs, reduceCtorEq, O, M, V, aa, Z, Y, Mdl.av, Mdl.cs, List.append_eq, ak, ar, gtx, gtA, gtB, gtC]; (repeat refine an ?_); (try refine .inl ?_); apply k0; clear k0; simp only [zP, M])
  (refine ab rfl fun _ k0 => ?_; simp only [zO, zT, acs, reduceCtorEq, O, M, V, aa, Z, Y, Mdl.av, Mdl.cs, List.append_eq, ak, ar, gtx, gtA, gtB, gtC]; (repeat refine an ?_); (try refine .inl ?_); apply k0; clear k0; simp only [zP, M])
  refine af ?_
  refine ⟨by simp only [zP, O, M]; exact rfl, rfl, ?_, rfl⟩; (repeat refine az rfl ?_); exact aP (by exact rfl) hq14
 case b14 => exact bq
 simp only [aK, aH]
 (refine ab rfl fun _ k0 => ?_; simp only [zO, zT, acs, reduceCtorEq, O, M, V, aa, Z, Y, Mdl.av, Mdl.cs, List.append_eq, ak, ar, gtx, gtA, gtB, gtC]; (repeat refine an ?_); (try refine .inl ?_); apply k0; clear k0; simp only [zP, M])
 refine' ay (want := true) 2 rfl (m := 75) (by simp only [zP, O, M]; exact rfl) (by kernel_rfl) rfl rfl rfl rfl rfl (fun hg15 => ?a15) ?b15 ?c15
 case a15 =>
  have hq15 := hg15; (try simp only [zB, reduceCtorEq] at hg15); simp only [zE]
  iterate 2 (refine aO rfl fun _ k0 => ?_; simp only [zO, zT, acs, reduceCtorEq, O, M, V, aa, Z, Y, Mdl.av, Mdl.cs, List.append_eq, ak, ar, gtx, gtA, gtB, gtC]; (repeat refine an ?_); (try refine .inl ?_); apply k0; clear k0; simp only [zP, M])
  (refine ab rfl fun _ k0 => ?_; simp only [zO, zT, acs, reduceCtorEq, O, M, V, aa, Z, Y, Mdl.av, Mdl.cs, List.append_eq, ak, ar, gtx, gtA, gtB, gtC]; (repeat refine an ?_); (try refine .inl ?_); apply k0; clear k0; simp only [zP, M])
  refine af ?_
  refine ⟨by simp only [zP, O, M]; exact rfl, rfl, ?_, rfl⟩; (repeat refine az rfl ?_); exact aP (by exact rfl) hq15
 case b15 => exact bq
 simp only [aK, aH]
 (refine ab rfl fun _ k0 => ?_; simp only [zO, zT, acs, reduceCtorEq, O, M, V, aa, Z, Y, Mdl.av, Mdl.cs, List.append_eq, ak, ar, gtx, gtA, gtB, gtC]; (repeat refine an ?_); (try refine .inl ?_); apply k0; clear k0; simp only [zP, M])
 refine' ay (want := true) 2 rfl (m := 79) (by simp only [zP, O, M]; exact rfl) (by kernel_rfl) rfl rfl rfl rfl rfl (fun hg16 => ?a16) ?b16 ?c16
 case a16 =>
  have hq16 := hg16; (try simp only [zB, reduceCtorEq] at hg16); simp only [zE]
  iterate 2 (refine aO rfl fun _ k0 => ?_; simp only [zO, zT, acs, reduceCtorEq, O, M, V, aa, Z, Y, Mdl.av, Mdl.cs, List.append_eq, ak, ar, gtx, gtA, gtB, gtC]; (repeat refine an ?_); (try refine .inl ?_); apply k0; clear k0; simp only [zP, M])
  (refine ab rfl fun _ k0 => ?_; simp only [zO, zT, acs, reduceCtorEq, O, M, V, aa, Z, Y, Mdl.av, Mdl.cs, List.append_eq, ak, ar, gtx, gtA, gtB, gtC]; (repeat refine an ?_); (try refine .inl ?_); apply k0; clear k0; simp only [zP, M])
  refine af ?_
  refine ⟨by simp only [zP, O, M]; exact rfl, rfl, ?_, rfl⟩; (repeat refine az rfl ?_); exact aP (by exact rfl) hq16
 case b16 => exact bq
 simp only [aK, aH]
 (refine ab rfl fun _ k0 => ?_; simp only [zO, zT, acs, reduceCtorEq, O, M, V, aa, Z, Y, Mdl.av, Mdl.cs, List.append_eq, ak, ar, gtx, gtA, gtB, gtC]; (repeat refine an ?_); (try refine .inl ?_); apply k0; clear k0; simp only [zP, M])
 refine' ay (want := true) 2 rfl (m := 83) (by simp only [zP, O, M]; exact rfl) (by kernel_rfl) rfl rfl rfl rfl rfl (fun hg17 => ?a17) ?b17 ?c17
 case a17 =>
  have hq17 := hg17; (try simp only [zB, reduceCtorEq] at hg17); simp only [zE]
  iterate 2 (refine aO rfl fun _ k0 => ?_; simp only [zO, zT, acs, reduceCtorEq, O, M, V, aa, Z, Y, Mdl.av, Mdl.cs, List.append_eq, ak, ar, gtx, gtA, gtB, gtC]; (repeat refine an ?_); (try refine .inl ?_); apply k0; clear k0; simp only [zP, M])
  (refine ab rfl fun _ k0 => ?_; simp only [zO, zT, acs, reduceCtorEq, O, M, V, aa, Z, Y, Mdl.av, Mdl.cs, List.append_eq, ak, ar, gtx, gtA, gtB, gtC]; (repeat refine an ?_); (try refine .inl ?_); apply k0; clear k0; simp only [zP, M])
  refine af ?_
  refine ⟨by simp only [zP, O, M]; exact rfl, rfl, ?_, rfl⟩; (repeat refine az rfl ?_); exact aP (by exact rfl) hq17
 case b17 => exact bq
 simp only [aK, aH]
 (refine ab rfl fun _ k0 => ?_; simp only [zO, zT, acs, reduceCtorEq, O, M, V, aa, Z, Y, Mdl.av, Mdl.cs, List.append_eq, ak, ar, gtx, gtA, gtB, gtC]; (repeat refine an ?_); (try refine .inl ?_); apply k0; clear k0; simp only [zP, M])
 refine' ay (want := true) 2 rfl (m := 87) (by simp only [zP, O, M]; exact rfl) (by kernel_rfl) rfl rfl rfl rfl rfl (fun hg18 => ?a18) ?b18 ?c18
 case a18 =>
  have hq18 := hg18; (try simp only [zB, reduceCtorEq] at hg18); simp only [zE]
  iterate 2 (refine aO rfl fun _ k0 => ?_; simp only [zO, zT, acs, reduceCtorEq, O, M, V, aa, Z, Y, Mdl.av, Mdl.cs, List.append_eq, ak, ar, gtx, gtA, gtB, gtC]; (repeat refine an ?_); (try refine .inl ?_); apply k0; clear k0; simp only [zP, M])
  (refine ab rfl fun _ k0 => ?_; simp only [zO, zT, acs, reduceCtorEq, O, M, V, aa, Z, Y, Mdl.av, Mdl.cs, List.append_eq, ak, ar, gtx, gtA, gtB, gtC]; (repeat refine an ?_); (try refine .inl ?_); apply k0; clear k0; simp only [zP, M])
  refine af ?_
  refine ⟨by simp only [zP, O, M]; exact rfl, rfl, ?_, rfl⟩; (repeat refine az rfl ?_); exact aP (by exact rfl) hq18
 case b18 => exact bq
 simp only [aK, aH]
 (refine ab rfl fun _ k0 => ?_; simp only [zO, zT, acs, reduceCtorEq, O, M, V, aa, Z, Y, Mdl.av, Mdl.cs, List.append_eq, ak, ar, gtx, gtA, gtB, gtC]; (repeat refine an ?_); (try refine .inl ?_); apply k0; clear k0; simp only [zP, M])
 refine' ay (want := true) 2 rfl (m := 91) (by simp only [zP, O, M]; exact rfl) (by kernel_rfl) rfl rfl rfl rfl rfl (fun hg19 => ?a19) ?b19 ?c19
 case a19 =>
  have hq19 := hg19; (try simp only [zB, reduceCtorEq] at hg19); simp only [zE]
  iterate 2 (refine aO rfl fun _ k0 => ?_; simp only [zO, zT, acs, reduceCtorEq, O, M, V, aa, Z, Y, Mdl.av, Mdl.cs, List.append_eq, ak, ar, gtx, gtA, gtB, gtC]; (repeat refine an ?_); (try refine .inl ?_); apply k0; clear k0; simp only [zP, M])
  (refine ab rfl fun _ k0 => ?_; simp only [zO, zT, acs, reduceCtorEq, O, M, V, aa, Z, Y, Mdl.av, Mdl.cs, List.append_eq, ak, ar, gtx, gtA, gtB, gtC]; (repeat refine an ?_); (try refine .inl ?_); apply k0; clear k0; simp only [zP, M])
  refine af ?_
  refine ⟨by simp only [zP, O, M]; exact rfl, rfl, ?_, rfl⟩; (repeat refine az rfl ?_); exact aP (by exact rfl) hq19
 case b19 => exact bq
 simp only [aK, aH]
 (refine ab rfl fun _ k0 => ?_; simp only [zO, zT, acs, reduceCtorEq, O, M, V, aa, Z, Y, Mdl.av, Mdl.cs, List.append_eq, ak, ar, gtx, gtA, gtB, gtC]; (repeat refine an ?_); (try refine .inl ?_); apply k0; clear k0; simp only [zP, M])
 refine' ay (want := true) 2 rfl (m := 95) (by simp only [zP, O, M]; exact rfl) (by kernel_rfl) rfl rfl rfl rfl rfl (fun hg20 => ?a20) ?b20 ?c20
 case a20 =>
  have hq20 := hg20; (try simp only [zB, reduceCtorEq] at hg20); simp only [zE]
  iterate 2 (refine aO rfl fun _ k0 => ?_; simp only [zO, zT, acs, reduceCtorEq, O, M, V, aa, Z, Y, Mdl.av, Mdl.cs, List.append_eq, ak, ar, gtx, gtA, gtB, gtC]; (repeat refine an ?_); (try refine .inl ?_); apply k0; clear k0; simp only [zP, M])
  (refine ab rfl fun _ k0 => ?_; simp only [zO, zT, acs, reduceCtorEq, O, M, V, aa, Z, Y, Mdl.av, Mdl.cs, List.append_eq, ak, ar, gtx, gtA, gtB, gtC]; (repeat refine an ?_); (try refine .inl ?_); apply k0; clear k0; simp only [zP, M])
  refine af ?_
  refine ⟨by simp only [zP, O, M]; exact rfl, rfl, ?_, rfl⟩; (repeat refine az rfl ?_); exact aP (by exact rfl) hq20
 case b20 => exact bq
 simp only [aK, aH]
 (refine ab rfl fun _ k0 => ?_; simp only [zO, zT, acs, reduceCtorEq, O, M, V, aa, Z, Y, Mdl.av, Mdl.cs, List.append_eq, ak, ar, gtx, gtA, gtB, gtC]; (repeat refine an ?_); (try refine .inl ?_); apply k0; clear k0; simp only [zP, M])
 refine af ?_
 refine ⟨by kernel_rfl, ?_⟩
 apply k8; clear k8; refine kp [0, 1, 2, 3, 4, 5, 7, 8, 10, 11, 13, 14, 16, 17] ?_
 refine au ?_
 refine ⟨nr, _, rfl, ?_⟩; simp only [zF, zP, O, M, Mdl.av, Mdl.cs]
 refine VLE.of_eq ?_
 rw [bQ]; rfl
theorem sw {P : Program} {f : FuncId} {args args' : List AV} {r : AV} (h : bP P f args' r) (hl : aM VLE args args') : bP P f args r :=
  ⟨h.1, fun C L σ w vs hP hi ha => h.2 C L σ w vs hP hi (hl.map2 (fun _ _ _ hab hac => hab C L σ w _ hac) ha)⟩
def mdz : AV := .agg [.str [], .nils, .nils, .int .i64 0, .int .i64 0, .nils, .nils]
theorem tJ : VLE mdz eZ.av := sO ⟨.refl _, ey rfl, ey rfl, .refl _, .refl _, ey rfl, ey rfl, trivial⟩
theorem qX (x : Mdl) : bP Tryd.prog 12 [x.av, mdz] (.one (.bool (lS x eZ))) := sw (lM x eZ) ⟨.of_eq rfl, tJ, trivial⟩
theorem jM {g : Nat} {o : Obj} (hpw : POW Tryd.prog g o) (n : Int) (h0 : 0 ≤ n) (h1 : n < 128) : cH Tryd.prog [.fact g o] 16 [.one (.int .i64 n)] { av := .one (.str (qn n.toNat)), fp := [0] } := by
 have hl := kL n.toNat (by omega)
 refine dn _ _ Tryd.func16 rfl (by kernel_rfl) (Nat.le_of_ble_eq_true rfl) (by intro k hk; simp only [aj, aq, Nat.zero_add, M] at hk; simp only [List.mem_cons, List.not_mem_nil, or_false]; omega) (fun C hP hN hB => ?_)
 replace hB : C.bL.length = 1 := by rw [hB]; rfl
 replace hN : C.N = 6 := hN
 simp only [aV, M]
 refine ad fun _ k1 => ?_
 refine ag hP hN rfl ?_
 (refine ab rfl fun _ k0 => ?_; simp only [zO, zT, acs, reduceCtorEq, O, M, V, aa, Z, Y]; (repeat refine an ?_); (try refine .inl ?_); apply k0; clear k0; simp only [zP, M])
 refine af ?_
 apply k1; clear k1; refine kp [0, 2] ?_
 refine ad fun _ k2 => ?_
 refine ag hP hN rfl ?_
 (refine ab rfl fun _ k0 => ?_; simp only [zO, zT, acs, reduceCtorEq, O, M, V, aa, Z, Y, aj, aq]; (repeat refine an ?_); (try refine .inl ?_); apply k0; clear k0; simp only [zP, M])
 refine ab rfl fun _ k0 => ?_
 refine aw (h := eG (sJ hpw n h0 h1) rfl) rfl rfl (by first | exact rfl | (simp only [ev, zP, O, M]; exact rfl)) (by simp only [zV, acs, reduceCtorEq, O, M, V, aa, Z, Y, aj, aq]) ?_
 apply k0; clear k0; simp only [zP, M]
 iterate 2 (refine ab rfl fun _ k0 => ?_; simp only [zO, zT, acs, reduceCtorEq, O, M, V, aa, Z, Y, aj, aq]; (repeat refine an ?_); (try refine .inl ?_); apply k0; clear k0; simp only [zP, M])
 refine af ?_
 apply k2; clear k2; refine kp [0, 2] ?_
 refine au ?_
 refine ⟨by first | exact .inl rfl | exact .inr rfl, _, rfl, ?_⟩; simp only [zP, O, M]
 first | exact ⟨rfl, rfl⟩ | rfl
end Go.Proofs.YtmfkpljjhiglpaaDoor
