/- Contracts of functions of this seat, each out of a walk through its code, and plain facts on what they compute. Conditions: those that each theorem names. -/
import Derived.Test.YtoahhklogohehaaW04
set_option linter.unusedSimpArgs false
set_option linter.unusedVariables false
set_option maxRecDepth 100000
namespace Go.Proofs.Ytoahhklogohehaa
open Go Go.AV
open Nat renaming reduceEqDiff → aa, reduceAdd → V, reduceLeDiff → ad, reduceLT → ag, reduceMul → af, reduceSub → ae
open List renaming set_cons_zero → cD, set_cons_succ → cm, getD_cons_zero → ar, length_append → aq, map_cons → aH, cons_append → aM, map_nil → bh, length_cons → au, nil_append → b6, take_succ_cons → dz, length_nil → aG, length_map → aD, length_replicate → bj, take_length → aI, mem_cons_self → aQ, mem_cons_of_mem → aJ
open Int renaming toNat_natCast → ah
theorem A5 (T : List b7) (hT : T.length ≤ 4096) (hK : ∀ x ∈ T, x.2.2.1.length ≤ 1000000) : bP Try.prog 20 [.agg [.list ndT T]] (.one (.int .i64 (dpT T))) := by
 refine aS Try.func20 rfl (by kernel_rfl) (Nat.le_of_ble_eq_true rfl) rfl fun C hP hN hB => ?_
 replace hN : C.N = 61 := hN
 simp only [bf, V]
 refine ai fun _ k1 => ?_
 refine ak hP hN rfl ?_
 iterate 2 (refine aj rfl fun _ k0 => ?_; simp only [zO, zT, acs, reduceCtorEq, aa, V, ad, ag, af, ae, ah, aw, aB, az, dg]; (repeat refine an ?_); (try refine .inl ?_); apply k0; clear k0; simp only [zP, V])
 refine am ?_
 apply k1; clear k1; refine kp [0, 1, 2] ?_
 refine ai fun _ k2 => ?_
 refine ak hP hN rfl ?_
 iterate 4 (refine aj rfl fun _ k0 => ?_; simp only [zO, zT, acs, reduceCtorEq, aa, V, ad, ag, af, ae, ah, aw, aB, az, dg]; (repeat refine an ?_); (try refine .inl ?_); apply k0; clear k0; simp only [zP, V])
 (refine aj rfl fun _ k0 => ?_; simp only [zE, op1, ev, lkp, cY, bK, bM, d7, Nat.mul_one, bS, cL, acs, Ty.dflt, zG, bZ, cj, eW, dW, cE, cW, eh, Nat.div_one, cH, d5, Ty.size, br, dite_true, jf, cT, fG, gX, eU, gD, cQ, reduceCtorEq, aa, V, ad, ag, af, ae, Try.el27, Try.el41, Try.st29, Try.td27, Try.td29, Try.td3, Try.td41, ah, aw, aB, az, dg]; (repeat refine an ?_); (try refine .inl ?_); apply k0; clear k0; simp only [zP, V])
 (refine aj rfl fun _ k0 => ?_; simp only [zO, zT, acs, reduceCtorEq, aa, V, ad, ag, af, ae, ah, aw, aB, az, dg]; (repeat refine an ?_); (try refine .inl ?_); apply k0; clear k0; simp only [zP, V])
 refine am ?_
 apply k2; clear k2; refine kp [0, 1, 2, 3] ?_
 refine ai fun _ k3 => ?_
 refine ai fun _ k4 => ?_
 refine ak hP hN rfl ?_
 iterate 5 (refine aj rfl fun _ k0 => ?_; simp only [zO, zT, acs, reduceCtorEq, aa, V, ad, ag, af, ae, ah, aw, aB, az, dg]; (repeat refine an ?_); (try refine .inl ?_); apply k0; clear k0; simp only [zP, V])
 refine am ?_
 apply k4; clear k4; refine kp [0, 1, 2, 3, 4] ?_
 refine aA ?_
 refine aY (fun n5 s5 => ∃ (k : Nat), (k ≤ T.length) ∧ n5 = k + 1 ∧ s5 = { env := [(1, .one (.ptr 0 0 0 0)), (2, .one (.int .i64 0)), (3, .one (.row 1 0)), (4, .one (.int .i64 ((k : Int) - 1)))], L := [.vars 29 [.list ndT T], .row (.int .i64) 3 0 (dpL T k (if k = T.length then 0 else dpA T k))] }) ?_ ?_
 ·refine ⟨_, _, ax [1, 2, 3, 4], T.length, Nat.le_refl _, rfl, ?_⟩
  rw [if_pos rfl, z7]; rfl
 rintro n5 s5 ⟨k, hk, rfl, rfl⟩
 refine ai fun _ k6 => ?_
 refine ai fun _ k7 => ?_
 refine ak hP hN rfl ?_
 iterate 2 (refine aj rfl fun _ k0 => ?_; simp only [zO, zT, acs, reduceCtorEq, aa, V, ad, ag, af, ae, ah, aw, aB, az, dg]; (repeat refine an ?_); (try refine .inl ?_); apply k0; clear k0; simp only [zP, V])
 refine am ?_
 apply k7; clear k7; refine kp [1, 2, 3, 4, 17] ?_
 refine cd (fun hc8 => ?_) (fun hc8 => ?_)
 ·(try simp only [zB, reduceCtorEq] at hc8)
  refine ay ?_
  apply k6; clear k6; refine kp [1, 2, 3, 4, 17] ?_
  refine ai fun _ k9 => ?_
  refine aA ?_
  refine ai fun _ k10 => ?_
  obtain ⟨p, rfl⟩ : ∃ p, k = p + 1 := ⟨k - 1, by omega⟩
  rw [show (((p + 1 : Nat) : Int) - 1) = (p : Int) by omega, x0 hk]
  have hp : p < T.length := by omega
  have hkm : (T.getD p nd0) ∈ T := by simp [List.getD, hp]
  have hkl := hK _ hkm
  refine ak hP hN rfl ?_
  iterate 8 (refine aj rfl fun _ k0 => ?_; simp only [zO, zT, acs, reduceCtorEq, aa, V, ad, ag, af, ae, ah, aw, aB, az, dg]; (repeat refine an ?_); (try refine .inl ?_); apply k0; clear k0; simp only [zP, V])
  refine am ?_
  apply k10; clear k10; refine kp [1, 2, 3, 4, 17, 25, 26, 27] ?_
  refine aA ?_
  refine aY (fun n11 s11 => ∃ (i : Nat), (i ≤ (T.getD p nd0).2.2.1.length) ∧ n11 = (T.getD p nd0).2.2.1.length - i ∧ s11 = { env := [(1, .one (.ptr 0 0 0 0)), (2, .one (.int .i64 0)), (3, .one (.row 1 0)), (4, .one (.int .i64 (p : Int))), (17, .one (.bool true)), (25, .one (.list kdT (T.getD p nd0).2.2.1)), (26, .one (.int .i64 ((T.getD p nd0).2.2.1.length : Int))), (27, .one (.int .i64 (i : Int)))], L := [.vars 29 [.list ndT T], .row (.int .i64) 3 0 (dpL T p (((T.getD p nd0).2.2.1.take i).foldl (eX T (dpA T) p) 0))] }) ?_ ?_
  ·refine ⟨_, _, ax [1, 2, 3, 4, 17, 25, 26, 27], 0, Nat.zero_le _, rfl, ?_⟩
   rw [decide_eq_true (show (0 : Int) ≤ (p : Int) by omega)]; rfl
  rintro n11 s11 ⟨i, hi, rfl, rfl⟩
  refine ai fun _ k12 => ?_
  refine ak hP hN rfl ?_
  (refine aj rfl fun _ k0 => ?_; simp only [zO, zT, acs, reduceCtorEq, aa, V, ad, ag, af, ae, ah, aw, aB, az, dg]; (repeat refine an ?_); (try refine .inl ?_); apply k0; clear k0; simp only [zP, V])
  refine am ?_
  apply k12; clear k12; refine kp [1, 2, 3, 4, 17, 25, 26, 27, 28] ?_
  refine ai fun _ k13 => ?_
  refine cd (fun hc14 => ?_) (fun hc14 => ?_)
  ·(try simp only [zB, reduceCtorEq] at hc14)
   have hil9 : i < (T.getD p nd0).2.2.1.length := by have h9 : (i : Int) < ((T.getD p nd0).2.2.1.length : Int) := hc14; omega
   refine ay ?_
   apply k13; clear k13; refine kp [1, 2, 3, 4, 17, 25, 26, 27, 28] ?_
   refine ai fun _ k15 => ?_
   refine aA ?_
   refine ai fun _ k16 => ?_
   have hil : i < (T.getD p nd0).2.2.1.length := hil9
   refine ak hP hN rfl ?_
   iterate 4 (refine aj rfl fun _ k0 => ?_; simp only [zO, zT, acs, reduceCtorEq, aa, V, ad, ag, af, ae, ah, aw, aB, az, dg]; (repeat refine an ?_); (try refine .inl ?_); apply k0; clear k0; simp only [zP, V])
   refine am ?_
   apply k16; clear k16; refine kp [1, 2, 3, 4, 6, 17, 25, 26, 27, 28] ?_
   refine ai fun _ k17 => ?_
   have hdt := zy (T := T) (r := dpA T) (p := p) hil
   have hr9 := mP (r := dpA T) hp (fun k hk hl => th hl) ((T.getD p nd0).2.2.1.take i) 0 ⟨Int.le_refl _, by omega⟩
   refine ak hP hN rfl ?_
   iterate 5 (refine aj rfl fun _ k0 => ?_; simp only [zO, zT, acs, reduceCtorEq, aa, V, ad, ag, af, ae, ah, aw, aB, az, dg]; (repeat refine an ?_); (try refine .inl ?_); apply k0; clear k0; simp only [zP, V])
   refine' aO (want := true) 6 rfl (m := 35) (by simp only [zP, aa, V]; exact rfl) (by kernel_rfl) rfl rfl rfl rfl rfl (fun hg18 => ?a18) ?b18 ?c18
   case a18 =>
    have hq18 := hg18; (try simp only [zB, reduceCtorEq] at hg18); simp only [zE]
    iterate 6 (refine bg rfl fun _ k0 => ?_; simp only [zO, zT, acs, reduceCtorEq, aa, V, ad, ag, af, ae, ah, aw, aB, az, dg]; (repeat refine an ?_); (try refine .inl ?_); apply k0; clear k0; simp only [zP, V])
    (refine aj rfl fun _ k0 => ?_; simp only [zO, zT, acs, reduceCtorEq, aa, V, ad, ag, af, ae, ah, aw, aB, az, dg]; (repeat refine an ?_); (try refine .inl ?_); apply k0; clear k0; simp only [zP, V])
    refine am ?_
    refine ⟨by simp only [zP, aa, V]; exact rfl, rfl, ?_, rfl⟩; (repeat refine aP rfl ?_); exact bo (by exact rfl) hq18
   case b18 => exact cr
   simp only [bb, aT]
   refine am ?_
   apply k17; clear k17; refine kp [1, 2, 3, 4, 6, 17, 25, 26, 27, 28, 42] ?_
   refine cd (fun hc19 => ?_) (fun hc19 => ?_)
   ·(try simp only [zB, reduceCtorEq] at hc19)
    have hkc := hc19
    have hkr : (p : Int) < ((T.getD p nd0).2.2.1.getD i kd0).2.1 ∧ ((T.getD p nd0).2.2.1.getD i kd0).2.1 < (T.length : Int) := hkc
    have hg0 : (dpL T p (((T.getD p nd0).2.2.1.take i).foldl (eX T (dpA T) p) 0)).getD p 0 = (((T.getD p nd0).2.2.1.take i).foldl (eX T (dpA T) p) 0) := oT (by omega) _
    have hg1 : (dpL T p (((T.getD p nd0).2.2.1.take i).foldl (eX T (dpA T) p) 0)).getD ((T.getD p nd0).2.2.1.getD i kd0).2.1.toNat 0 = dpA T ((T.getD p nd0).2.2.1.getD i kd0).2.1.toNat := zY (by omega) (by omega) _
    have hr8 := th (T := T) (p := ((T.getD p nd0).2.2.1.getD i kd0).2.1.toNat) (by omega)
    have hst := zh (T := T) (p := p) (by omega) (((T.getD p nd0).2.2.1.take i).foldl (eX T (dpA T) p) 0) (max (((T.getD p nd0).2.2.1.take i).foldl (eX T (dpA T) p) 0) (1 + dpA T ((T.getD p nd0).2.2.1.getD i kd0).2.1.toNat))
    refine bn hP hN Try.mixed rfl ?_
    iterate 15 (refine aj rfl fun _ k0 => ?_; simp only [zO, zT, acs, reduceCtorEq, aa, V, ad, ag, af, ae, ah, aw, aB, az, dg, hg0, hg1]; (repeat refine an ?_); (try refine .inl ?_); apply k0; clear k0; simp only [zP, V, hst])
    refine am ?_
    refine ⟨by kernel_rfl, ?_⟩
    apply k15; clear k15; refine kp [1, 2, 3, 4, 6, 17, 25, 26, 27, 28, 42] ?_
    refine dh [1, 2, 3, 4, 17, 25, 26, 27] ?_; simp only [cF, lkp, zE, reduceCtorEq, aa]
    refine m7 (L1 := [_, _]) rfl hB rfl rfl ?_
    refine ak hP hN rfl ?_
    iterate 2 (refine aj rfl fun _ k0 => ?_; simp only [zO, zT, acs, reduceCtorEq, aa, V, ad, ag, af, ae, ah, aw, aB, az, dg]; (repeat refine an ?_); (try refine .inl ?_); apply k0; clear k0; simp only [zP, V])
    refine am ?_
    first
    | (refine ⟨_, _, ?_, ax [1, 2, 3, 4, 17, 25, 26, 27], i + 1, by omega, rfl, ?_⟩
       · omega
       · rw [hdt]; unfold eX; rw [if_pos hkr]; all_goals rfl)
    | (refine ⟨_, _, ?_, ax [1, 2, 3, 4, 17, 25, 26, 27], i + 1, by omega, rfl, ?_⟩
       · omega
       · rw [hdt]; unfold eX; rw [if_neg hkc]; all_goals rfl)
   (try simp only [zB, reduceCtorEq] at hc19)
   have hkc : ¬ ((p : Int) < ((T.getD p nd0).2.2.1.getD i kd0).2.1 ∧ ((T.getD p nd0).2.2.1.getD i kd0).2.1 < (T.length : Int)) := by
     have h8 : ((T.getD p nd0).2.2.1.getD i kd0).2.1 ≤ (p : Int) ∨ (T.length : Int) ≤ ((T.getD p nd0).2.2.1.getD i kd0).2.1 := hc19
     omega
   refine ay ?_
   apply k15; clear k15; refine kp [1, 2, 3, 4, 6, 17, 25, 26, 27, 28, 42] ?_
   refine dh [1, 2, 3, 4, 17, 25, 26, 27] ?_; simp only [cF, lkp, zE, reduceCtorEq, aa]
   refine m7 (L1 := [_, _]) rfl hB rfl rfl ?_
   refine ak hP hN rfl ?_
   iterate 2 (refine aj rfl fun _ k0 => ?_; simp only [zO, zT, acs, reduceCtorEq, aa, V, ad, ag, af, ae, ah, aw, aB, az, dg]; (repeat refine an ?_); (try refine .inl ?_); apply k0; clear k0; simp only [zP, V])
   refine am ?_
   first
   | (refine ⟨_, _, ?_, ax [1, 2, 3, 4, 17, 25, 26, 27], i + 1, by omega, rfl, ?_⟩
      · omega
      · rw [hdt]; unfold eX; rw [if_pos hkr]; all_goals rfl)
   | (refine ⟨_, _, ?_, ax [1, 2, 3, 4, 17, 25, 26, 27], i + 1, by omega, rfl, ?_⟩
      · omega
      · rw [hdt]; unfold eX; rw [if_neg hkc]; all_goals rfl)
  (try simp only [zB, reduceCtorEq] at hc14)
  have hie : (T.getD p nd0).2.2.1.length ≤ i := by have h9 : ((T.getD p nd0).2.2.1.length : Int) ≤ (i : Int) := hc14; omega
  refine aV ?_
  apply k9; clear k9; refine kp [1, 2, 3, 4, 17, 25, 26, 27, 28] ?_
  refine ak hP hN rfl ?_
  iterate 3 (refine aj rfl fun _ k0 => ?_; simp only [zO, zT, acs, reduceCtorEq, aa, V, ad, ag, af, ae, ah, aw, aB, az, dg]; (repeat refine an ?_); (try refine .inl ?_); apply k0; clear k0; simp only [zP, V])
  refine am ?_
  refine ⟨_, _, ?_, ax [1, 2, 3, 4], p, by omega, rfl, ?_⟩
  · omega
  · rw [if_neg (by omega), zQ hp, List.take_of_length_le hie]; all_goals rfl
 (try simp only [zB, reduceCtorEq] at hc8)
 refine aV ?_
 apply k3; clear k3; refine kp [1, 2, 3, 4, 17] ?_
 refine ai fun _ k20 => ?_
 refine ak hP hN rfl ?_
 iterate 4 (refine aj rfl fun _ k0 => ?_; simp only [zO, zT, acs, reduceCtorEq, aa, V, ad, ag, af, ae, ah, aw, aB, az, dg]; (repeat refine an ?_); (try refine .inl ?_); apply k0; clear k0; simp only [zP, V])
 refine am ?_
 apply k20; clear k20; refine kp [1, 2, 3, 4, 17] ?_
 refine aF ?_
 refine ⟨nr, _, rfl, ?_⟩; simp only [zF, zP, aa, V, ah, aw, aB, az, dg]
 refine VLE.of_eq ?_
 refine congrArg (fun n => AV.one (AC.int IntKind.i64 n)) ?_
 have hk0 : k = 0 := by omega
 subst hk0
 unfold dpT
 symm
 by_cases e : T.length = 0
 · rw [if_pos e, if_pos (by omega)]; exact (oT (by omega) 0).symm
 · rw [if_neg e, if_neg (by omega)]; exact (oT (by omega) _).symm
theorem sS (xs ys : List Int) : bP Try.prog 24 [.one (.list (.int .i64) xs), .one (.list (.int .i64) ys)] (.one (.bool (decide (xs = ys)))) := by
 refine aS Try.func24 rfl (by kernel_rfl) (Nat.le_of_ble_eq_true rfl) rfl fun C hP hN hB => ?_
 replace hN : C.N = 26 := hN
 simp only [bf, V]
 refine ox 0 rfl fun hf0 => ?_; simp only [lkp, if_true, if_false, reduceCtorEq, aa, eq_self, Nat.one_ne_zero, Nat.zero_ne_one, tX, qP, qQ, Fit, and_true, implies_true, true_and] at hf0
 refine ai fun _ k1 => ?_
 refine ak hP hN rfl ?_
 (refine aj rfl fun _ k0 => ?_; simp only [zO, zT, acs, reduceCtorEq, aa, V, ad, ag, af, ae]; (repeat refine an ?_); (try refine .inl ?_); apply k0; clear k0; simp only [zP, V])
 refine am ?_
 apply k1; clear k1; refine kp [0, 1, 4] ?_
 refine ai fun _ k2 => ?_
 refine ai fun _ k3 => ?_
 refine ak hP hN rfl ?_
 iterate 5 (refine aj rfl fun _ k0 => ?_; simp only [zO, zT, acs, reduceCtorEq, aa, V, ad, ag, af, ae]; (repeat refine an ?_); (try refine .inl ?_); apply k0; clear k0; simp only [zP, V])
 refine am ?_
 apply k3; clear k3; refine kp [0, 1, 4, 10] ?_
 refine cd (fun hc4 => ?_) (fun hc4 => ?_)
 ·(try simp only [zB, reduceCtorEq] at hc4)
  refine ai fun _ k5 => ?_
  refine ak hP hN rfl ?_
  (refine aj rfl fun _ k0 => ?_; simp only [zO, zT, acs, reduceCtorEq, aa, V, ad, ag, af, ae]; (repeat refine an ?_); (try refine .inl ?_); apply k0; clear k0; simp only [zP, V])
  refine am ?_
  apply k5; clear k5; refine kp [0, 1, 4, 10] ?_
  refine aF ?_
  refine ⟨nr, _, rfl, ?_⟩; simp only [zF, zP, aa, V]
  refine VLE.of_eq ?_
  first
  | (refine dT ?_; rintro rfl; first | exact absurd rfl ‹¬ _› | omega)
  | (refine ez ?_; have hk1 : k = xs.length := by omega
     have hk2 : k = ys.length := by omega
     rw [hk1, aI, ← hk1, hk2, aI] at hT; exact hT)
 (try simp only [zB, reduceCtorEq] at hc4)
 refine ay ?_
 apply k2; clear k2; refine kp [0, 1, 4, 10] ?_
 refine ai fun _ k6 => ?_
 refine ai fun _ k7 => ?_
 refine ak hP hN rfl ?_
 (refine aj rfl fun _ k0 => ?_; simp only [zO, zT, acs, reduceCtorEq, aa, V, ad, ag, af, ae]; (repeat refine an ?_); (try refine .inl ?_); apply k0; clear k0; simp only [zP, V])
 refine am ?_
 apply k7; clear k7; refine kp [0, 1, 4, 5, 10] ?_
 refine aA ?_
 refine aY (fun n8 s8 => ∃ (k : Nat), (k ≤ xs.length) ∧ (xs.take k = ys.take k) ∧ n8 = xs.length - k ∧ s8 = { env := [(0, .one (.list (.int .i64) xs)), (1, .one (.list (.int .i64) ys)), (5, .one (.int .i64 (k : Int)))], L := [] }) ?_ ?_
 ·exact ⟨_, _, ax [0, 1, 5], 0, Nat.zero_le _, rfl, rfl, rfl⟩
 rintro n8 s8 ⟨k, hk, hT, rfl, rfl⟩
 refine ai fun _ k9 => ?_
 refine ai fun _ k10 => ?_
 refine ak hP hN rfl ?_
 iterate 4 (refine aj rfl fun _ k0 => ?_; simp only [zO, zT, acs, reduceCtorEq, aa, V, ad, ag, af, ae]; (repeat refine an ?_); (try refine .inl ?_); apply k0; clear k0; simp only [zP, V])
 refine am ?_
 apply k10; clear k10; refine kp [0, 1, 5, 14] ?_
 refine cd (fun hc11 => ?_) (fun hc11 => ?_)
 ·(try simp only [zB, reduceCtorEq] at hc11)
  refine ay ?_
  apply k9; clear k9; refine kp [0, 1, 5, 14] ?_
  refine ai fun _ k12 => ?_
  refine aA ?_
  refine ai fun _ k13 => ?_
  refine bn hP hN Try.mixed rfl ?_
  iterate 9 (refine aj rfl fun _ k0 => ?_; simp only [zO, zT, acs, reduceCtorEq, aa, V, ad, ag, af, ae]; (repeat refine an ?_); (try refine .inl ?_); apply k0; clear k0; simp only [zP, V])
  refine am ?_
  refine ⟨by kernel_rfl, ?_⟩
  apply k13; clear k13; refine kp [0, 1, 5, 14, 25] ?_
  refine cd (fun hc14 => ?_) (fun hc14 => ?_)
  ·(try simp only [zB, reduceCtorEq] at hc14)
   refine ai fun _ k15 => ?_
   refine ak hP hN rfl ?_
   (refine aj rfl fun _ k0 => ?_; simp only [zO, zT, acs, reduceCtorEq, aa, V, ad, ag, af, ae]; (repeat refine an ?_); (try refine .inl ?_); apply k0; clear k0; simp only [zP, V])
   refine am ?_
   apply k15; clear k15; refine kp [0, 1, 4, 5, 14, 25] ?_
   refine aF ?_
   refine ⟨nr, _, rfl, ?_⟩; simp only [zF, zP, aa, V]
   refine VLE.of_eq ?_
   first
   | (refine dT ?_; rintro rfl; first | exact absurd rfl ‹¬ _› | omega)
   | (refine ez ?_; have hk1 : k = xs.length := by omega
      have hk2 : k = ys.length := by omega
      rw [hk1, aI, ← hk1, hk2, aI] at hT; exact hT)
  (try simp only [zB, reduceCtorEq] at hc14)
  refine ay ?_
  apply k12; clear k12; refine kp [0, 1, 5, 14, 25] ?_
  refine ak hP hN rfl ?_
  iterate 3 (refine aj rfl fun _ k0 => ?_; simp only [zO, zT, acs, reduceCtorEq, aa, V, ad, ag, af, ae]; (repeat refine an ?_); (try refine .inl ?_); apply k0; clear k0; simp only [zP, V])
  refine am ?_
  refine ⟨_, _, ?_, ax [0, 1, 5], k + 1, by omega, iy (d := 0) hT (by omega) (by omega) ?_, rfl, rfl⟩
  · omega
  · first | assumption | omega
 (try simp only [zB, reduceCtorEq] at hc11)
 refine aV ?_
 apply k6; clear k6; refine kp [0, 1, 5, 14] ?_
 refine ai fun _ k16 => ?_
 refine ak hP hN rfl ?_
 (refine aj rfl fun _ k0 => ?_; simp only [zO, zT, acs, reduceCtorEq, aa, V, ad, ag, af, ae]; (repeat refine an ?_); (try refine .inl ?_); apply k0; clear k0; simp only [zP, V])
 refine am ?_
 apply k16; clear k16; refine kp [0, 1, 4, 5, 14] ?_
 refine aF ?_
 refine ⟨nr, _, rfl, ?_⟩; simp only [zF, zP, aa, V]
 refine VLE.of_eq ?_
 first
 | (refine dT ?_; rintro rfl; first | exact absurd rfl ‹¬ _› | omega)
 | (refine ez ?_; have hk1 : k = xs.length := by omega
    have hk2 : k = ys.length := by omega
    rw [hk1, aI, ← hk1, hk2, aI] at hT; exact hT)
theorem At (xs ys : List Int) : bP Try.prog 29 [.one (.list (.int .i64) xs), .one (.list (.int .i64) ys)] (.one (.bool (decide (xs = ys)))) := by
 refine aS Try.func29 rfl (by kernel_rfl) (Nat.le_of_ble_eq_true rfl) rfl fun C hP hN hB => ?_
 replace hN : C.N = 26 := hN
 simp only [bf, V]
 refine ox 0 rfl fun hf0 => ?_; simp only [lkp, if_true, if_false, reduceCtorEq, aa, eq_self, Nat.one_ne_zero, Nat.zero_ne_one, tX, qP, qQ, Fit, and_true, implies_true, true_and] at hf0
 refine ai fun _ k1 => ?_
 refine ak hP hN rfl ?_
 (refine aj rfl fun _ k0 => ?_; simp only [zO, zT, acs, reduceCtorEq, aa, V, ad, ag, af, ae]; (repeat refine an ?_); (try refine .inl ?_); apply k0; clear k0; simp only [zP, V])
 refine am ?_
 apply k1; clear k1; refine kp [0, 1, 4] ?_
 refine ai fun _ k2 => ?_
 refine ai fun _ k3 => ?_
 refine ak hP hN rfl ?_
 iterate 5 (refine aj rfl fun _ k0 => ?_; simp only [zO, zT, acs, reduceCtorEq, aa, V, ad, ag, af, ae]; (repeat refine an ?_); (try refine .inl ?_); apply k0; clear k0; simp only [zP, V])
 refine am ?_
 apply k3; clear k3; refine kp [0, 1, 4, 10] ?_
 refine cd (fun hc4 => ?_) (fun hc4 => ?_)
 ·(try simp only [zB, reduceCtorEq] at hc4)
  refine ai fun _ k5 => ?_
  refine ak hP hN rfl ?_
  (refine aj rfl fun _ k0 => ?_; simp only [zO, zT, acs, reduceCtorEq, aa, V, ad, ag, af, ae]; (repeat refine an ?_); (try refine .inl ?_); apply k0; clear k0; simp only [zP, V])
  refine am ?_
  apply k5; clear k5; refine kp [0, 1, 4, 10] ?_
  refine aF ?_
  refine ⟨nr, _, rfl, ?_⟩; simp only [zF, zP, aa, V]
  refine VLE.of_eq ?_
  first
  | (refine dT ?_; rintro rfl; first | exact absurd rfl ‹¬ _› | omega)
  | (refine ez ?_; have hk1 : k = xs.length := by omega
     have hk2 : k = ys.length := by omega
     rw [hk1, aI, ← hk1, hk2, aI] at hT; exact hT)
 (try simp only [zB, reduceCtorEq] at hc4)
 refine ay ?_
 apply k2; clear k2; refine kp [0, 1, 4, 10] ?_
 refine ai fun _ k6 => ?_
 refine ai fun _ k7 => ?_
 refine ak hP hN rfl ?_
 (refine aj rfl fun _ k0 => ?_; simp only [zO, zT, acs, reduceCtorEq, aa, V, ad, ag, af, ae]; (repeat refine an ?_); (try refine .inl ?_); apply k0; clear k0; simp only [zP, V])
 refine am ?_
 apply k7; clear k7; refine kp [0, 1, 4, 5, 10] ?_
 refine aA ?_
 refine aY (fun n8 s8 => ∃ (k : Nat), (k ≤ xs.length) ∧ (xs.take k = ys.take k) ∧ n8 = xs.length - k ∧ s8 = { env := [(0, .one (.list (.int .i64) xs)), (1, .one (.list (.int .i64) ys)), (5, .one (.int .i64 (k : Int)))], L := [] }) ?_ ?_
 ·exact ⟨_, _, ax [0, 1, 5], 0, Nat.zero_le _, rfl, rfl, rfl⟩
 rintro n8 s8 ⟨k, hk, hT, rfl, rfl⟩
 refine ai fun _ k9 => ?_
 refine ai fun _ k10 => ?_
 refine ak hP hN rfl ?_
 iterate 4 (refine aj rfl fun _ k0 => ?_; simp only [zO, zT, acs, reduceCtorEq, aa, V, ad, ag, af, ae]; (repeat refine an ?_); (try refine .inl ?_); apply k0; clear k0; simp only [zP, V])
 refine am ?_
 apply k10; clear k10; refine kp [0, 1, 5, 14] ?_
 refine cd (fun hc11 => ?_) (fun hc11 => ?_)
 ·(try simp only [zB, reduceCtorEq] at hc11)
  refine ay ?_
  apply k9; clear k9; refine kp [0, 1, 5, 14] ?_
  refine ai fun _ k12 => ?_
  refine aA ?_
  refine ai fun _ k13 => ?_
  refine bn hP hN Try.mixed rfl ?_
  iterate 9 (refine aj rfl fun _ k0 => ?_; simp only [zO, zT, acs, reduceCtorEq, aa, V, ad, ag, af, ae]; (repeat refine an ?_); (try refine .inl ?_); apply k0; clear k0; simp only [zP, V])
  refine am ?_
  refine ⟨by kernel_rfl, ?_⟩
  apply k13; clear k13; refine kp [0, 1, 5, 14, 25] ?_
  refine cd (fun hc14 => ?_) (fun hc14 => ?_)
  ·(try simp only [zB, reduceCtorEq] at hc14)
   refine ai fun _ k15 => ?_
   refine ak hP hN rfl ?_
   (refine aj rfl fun _ k0 => ?_; simp only [zO, zT, acs, reduceCtorEq, aa, V, ad, ag, af, ae]; (repeat refine an ?_); (try refine .inl ?_); apply k0; clear k0; simp only [zP, V])
   refine am ?_
   apply k15; clear k15; refine kp [0, 1, 4, 5, 14, 25] ?_
   refine aF ?_
   refine ⟨nr, _, rfl, ?_⟩; simp only [zF, zP, aa, V]
   refine VLE.of_eq ?_
   first
   | (refine dT ?_; rintro rfl; first | exact absurd rfl ‹¬ _› | omega)
   | (refine ez ?_; have hk1 : k = xs.length := by omega
      have hk2 : k = ys.length := by omega
      rw [hk1, aI, ← hk1, hk2, aI] at hT; exact hT)
  (try simp only [zB, reduceCtorEq] at hc14)
  refine ay ?_
  apply k12; clear k12; refine kp [0, 1, 5, 14, 25] ?_
  refine ak hP hN rfl ?_
  iterate 3 (refine aj rfl fun _ k0 => ?_; simp only [zO, zT, acs, reduceCtorEq, aa, V, ad, ag, af, ae]; (repeat refine an ?_); (try refine .inl ?_); apply k0; clear k0; simp only [zP, V])
  refine am ?_
  refine ⟨_, _, ?_, ax [0, 1, 5], k + 1, by omega, iy (d := 0) hT (by omega) (by omega) ?_, rfl, rfl⟩
  · omega
  · first | assumption | omega
 (try simp only [zB, reduceCtorEq] at hc11)
 refine aV ?_
 apply k6; clear k6; refine kp [0, 1, 5, 14] ?_
 refine ai fun _ k16 => ?_
 refine ak hP hN rfl ?_
 (refine aj rfl fun _ k0 => ?_; simp only [zO, zT, acs, reduceCtorEq, aa, V, ad, ag, af, ae]; (repeat refine an ?_); (try refine .inl ?_); apply k0; clear k0; simp only [zP, V])
 refine am ?_
 apply k16; clear k16; refine kp [0, 1, 4, 5, 14] ?_
 refine aF ?_
 refine ⟨nr, _, rfl, ?_⟩; simp only [zF, zP, aa, V]
 refine VLE.of_eq ?_
 first
 | (refine dT ?_; rintro rfl; first | exact absurd rfl ‹¬ _› | omega)
 | (refine ez ?_; have hk1 : k = xs.length := by omega
    have hk2 : k = ys.length := by omega
    rw [hk1, aI, ← hk1, hk2, aI] at hT; exact hT)
set_option maxHeartbeats 1500000 in
theorem vy (T U : List b7) (hT : T.length ≤ 100000) (hK : ∀ x ∈ T, x.2.2.1.length ≤ 1000000) : bP Try.prog 13 [.agg [.list ndT T], .agg [.list ndT U]] (.one (.bool (decide (T = U)))) := by
 refine aS Try.func13 rfl (by kernel_rfl) (Nat.le_of_ble_eq_true rfl) rfl fun C hP hN hB => ?_
 replace hN : C.N = 73 := hN
 simp only [bf, V]
 refine ai fun _ k1 => ?_
 refine ak hP hN rfl ?_
 iterate 3 (refine aj rfl fun _ k0 => ?_; simp only [zO, zT, acs, reduceCtorEq, aa, V, ad, ag, af, ae, ah, aw, aB, az, ar]; (repeat refine And.intro (by first | omega | assumption | exact rfl | exact hkX | exact hkY) ?_); (try refine .inl ?_); apply k0; clear k0; simp only [zP, V])
 refine am ?_
 apply k1; clear k1; refine kp [0, 1, 2, 3, 4] ?_
 refine ai fun _ k2 => ?_
 refine ai fun _ k3 => ?_
 refine ak hP hN rfl ?_
 iterate 7 (refine aj rfl fun _ k0 => ?_; simp only [zO, zT, acs, reduceCtorEq, aa, V, ad, ag, af, ae, ah, aw, aB, az, ar]; (repeat refine And.intro (by first | omega | assumption | exact rfl | exact hkX | exact hkY) ?_); (try refine .inl ?_); apply k0; clear k0; simp only [zP, V])
 refine am ?_
 apply k3; clear k3; refine kp [0, 1, 2, 3, 4, 15] ?_
 refine cd (fun hc4 => ?_) (fun hc4 => ?_)
 ·(try simp only [zB, reduceCtorEq] at hc4)
  have hno : ¬ T = U := fun e => hc4 (by rw [e])
  refine ai fun _ k5 => ?_
  refine ak hP hN rfl ?_
  (refine aj rfl fun _ k0 => ?_; simp only [zO, zT, acs, reduceCtorEq, aa, V, ad, ag, af, ae, ah, aw, aB, az, ar]; (repeat refine And.intro (by first | omega | assumption | exact rfl | exact hkX | exact hkY) ?_); (try refine .inl ?_); apply k0; clear k0; simp only [zP, V])
  refine am ?_
  apply k5; clear k5; refine kp [0, 1, 2, 3, 4, 15] ?_
  refine aF ?_
  refine ⟨nr, _, rfl, ?_⟩; simp only [zF, zP, aa, V, ah, aw, aB, az, ar]
  refine VLE.of_eq ?_
  refine congrArg (fun b => AV.one (AC.bool b)) ?_
  symm
  first
  | exact decide_eq_false hno
  | exact decide_eq_true (mc hll (fun q hq => hu q (by omega)))
 (try simp only [zB, reduceCtorEq] at hc4)
 have hll : T.length = U.length := by omega
 refine ay ?_
 apply k2; clear k2; refine kp [0, 1, 2, 3, 4, 15] ?_
 refine ai fun _ k6 => ?_
 refine ai fun _ k7 => ?_
 refine ak hP hN rfl ?_
 (refine aj rfl fun _ k0 => ?_; simp only [zO, zT, acs, reduceCtorEq, aa, V, ad, ag, af, ae, ah, aw, aB, az, ar]; (repeat refine And.intro (by first | omega | assumption | exact rfl | exact hkX | exact hkY) ?_); (try refine .inl ?_); apply k0; clear k0; simp only [zP, V])
 refine am ?_
 apply k7; clear k7; refine kp [0, 1, 2, 3, 4, 5, 15] ?_
 refine aA ?_
 refine aY (fun n8 s8 => ∃ (i : Nat), (i ≤ T.length) ∧ (∀ q, q < i → T.getD q nd0 = U.getD q nd0) ∧ n8 = T.length - i ∧ s8 = { env := [(2, .one (.ptr 0 0 0 0)), (3, .one (.ptr 1 0 0 0)), (4, .one (.bool false)), (5, .one (.int .i64 (i : Int)))], L := [.vars 29 [.list ndT T], .vars 29 [.list ndT U]] }) ?_ ?_
 ·exact ⟨_, _, ax [2, 3, 4, 5], 0, Nat.zero_le _, fun q h => by omega, rfl, rfl⟩
 rintro n8 s8 ⟨i, hi, hu, rfl, rfl⟩
 refine ai fun _ k9 => ?_
 refine ai fun _ k10 => ?_
 refine ak hP hN rfl ?_
 iterate 5 (refine aj rfl fun _ k0 => ?_; simp only [zO, zT, acs, reduceCtorEq, aa, V, ad, ag, af, ae, ah, aw, aB, az, ar]; (repeat refine And.intro (by first | omega | assumption | exact rfl | exact hkX | exact hkY) ?_); (try refine .inl ?_); apply k0; clear k0; simp only [zP, V])
 refine am ?_
 apply k10; clear k10; refine kp [2, 3, 4, 5, 20] ?_
 refine cd (fun hc11 => ?_) (fun hc11 => ?_)
 ·(try simp only [zB, reduceCtorEq] at hc11)
  refine ay ?_
  apply k9; clear k9; refine kp [2, 3, 4, 5, 20] ?_
  refine ai fun _ k12 => ?_
  refine aA ?_
  refine ai fun _ k13 => ?_
  refine jX ?_; simp only [aM, List.append_assoc, b6]
  refine jX ?_; simp only [aM, List.append_assoc, b6]
  refine bn hP hN Try.mixed rfl ?_
  iterate 10 (refine aj rfl fun _ k0 => ?_; simp only [zO, zT, acs, reduceCtorEq, aa, V, ad, ag, af, ae, ah, aw, aB, az, ar]; (repeat refine And.intro (by first | omega | assumption | exact rfl | exact hkX | exact hkY) ?_); (try refine .inl ?_); apply k0; clear k0; simp only [zP, V])
  (refine aj rfl fun _ k0 => ?_; simp only [zO, zT, acs, reduceCtorEq, aa, V, ad, ag, af, ae, ah, aw, aB, az, ar]; refine Or.inr (Or.inl ⟨2, ?_, ndT, nd0, ?_⟩); (exact rfl); (repeat refine And.intro (by first | rfl | decide) ?_); refine k0 _ ?_; clear k0; simp only [zP, V])
  (refine aj rfl fun _ k0 => ?_; simp only [zO, zT, acs, reduceCtorEq, aa, V, ad, ag, af, ae, ah, aw, aB, az, ar]; refine Or.inr (Or.inl ⟨3, ?_, ndT, nd0, ?_⟩); (exact rfl); (repeat refine And.intro (by first | rfl | decide) ?_); refine k0 _ ?_; clear k0; simp only [zP, V])
  iterate 2 (refine aj rfl fun _ k0 => ?_; simp only [zO, zT, acs, reduceCtorEq, aa, V, ad, ag, af, ae, ah, aw, aB, az, ar]; (repeat refine And.intro (by first | omega | assumption | exact rfl | exact hkX | exact hkY) ?_); (try refine .inl ?_); apply k0; clear k0; simp only [zP, V])
  refine am ?_
  refine ⟨by kernel_rfl, ?_⟩
  apply k13; clear k13; refine kp [2, 3, 4, 5, 6, 7, 20] ?_
  refine ai fun _ k14 => ?_
  refine ai fun _ k15 => ?_
  have hil : i < T.length := by omega
  have hkm : (T.getD i nd0) ∈ T := by simp [List.getD, hil]
  have hkl := hK _ hkm
  refine ak hP hN rfl ?_
  iterate 6 (refine aj rfl fun _ k0 => ?_; simp only [zO, zT, acs, reduceCtorEq, aa, V, ad, ag, af, ae, ah, aw, aB, az, ar]; (repeat refine And.intro (by first | omega | assumption | exact rfl | exact hkX | exact hkY) ?_); (try refine .inl ?_); apply k0; clear k0; simp only [zP, V])
  refine' aO (want := false) 6 rfl (m := 38) (by simp only [zP, aa, V]; exact rfl) (by kernel_rfl) rfl rfl rfl rfl rfl (fun hg16 => ?a16) ?b16 ?c16
  case a16 =>
   have hq16 := hg16; (try simp only [zB, reduceCtorEq] at hg16); simp only [zE]
   iterate 4 (refine bg rfl fun _ k0 => ?_; simp only [zO, zT, acs, reduceCtorEq, aa, V, ad, ag, af, ae, ah, aw, aB, az, ar]; (repeat refine And.intro (by first | omega | assumption | exact rfl | exact hkX | exact hkY) ?_); (try refine .inl ?_); apply k0; clear k0; simp only [zP, V])
   refine bg rfl fun _ k0 => ?_
   refine aK (h := aE (At (T.getD i nd0).1 (U.getD i nd0).1)) rfl rfl (by first | exact rfl | (simp only [ev, zP, aa, V]; exact rfl)) (by simp only [zV, acs, reduceCtorEq, aa, V, ad, ag, af, ae, ah, aw, aB, az, ar]) ?_
   apply k0; clear k0; simp only [zP, V]
   (refine bg rfl fun _ k0 => ?_; simp only [zO, zT, acs, reduceCtorEq, aa, V, ad, ag, af, ae, ah, aw, aB, az, ar]; (repeat refine And.intro (by first | omega | assumption | exact rfl | exact hkX | exact hkY) ?_); (try refine .inl ?_); apply k0; clear k0; simp only [zP, V])
   (refine aj rfl fun _ k0 => ?_; simp only [zO, zT, acs, reduceCtorEq, aa, V, ad, ag, af, ae, ah, aw, aB, az, ar]; (repeat refine And.intro (by first | omega | assumption | exact rfl | exact hkX | exact hkY) ?_); (try refine .inl ?_); apply k0; clear k0; simp only [zP, V])
   refine am ?_
   refine ⟨by simp only [zP, aa, V]; exact rfl, rfl, ?_, rfl⟩; (repeat refine aP rfl ?_); exact bo (by exact rfl) hq16
  case b16 => exact cr
  simp only [bb, aT]
  (refine aj rfl fun _ k0 => ?_; simp only [zO, zT, acs, reduceCtorEq, aa, V, ad, ag, af, ae, ah, aw, aB, az, ar]; (repeat refine And.intro (by first | omega | assumption | exact rfl | exact hkX | exact hkY) ?_); (try refine .inl ?_); apply k0; clear k0; simp only [zP, V])
  refine' aO (want := false) 7 rfl (m := 46) (by simp only [zP, aa, V]; exact rfl) (by kernel_rfl) rfl rfl rfl rfl rfl (fun hg17 => ?a17) ?b17 ?c17
  case a17 =>
   have hq17 := hg17; (try simp only [zB, reduceCtorEq] at hg17); simp only [zE]
   iterate 7 (refine bg rfl fun _ k0 => ?_; simp only [zO, zT, acs, reduceCtorEq, aa, V, ad, ag, af, ae, ah, aw, aB, az, ar]; (repeat refine And.intro (by first | omega | assumption | exact rfl | exact hkX | exact hkY) ?_); (try refine .inl ?_); apply k0; clear k0; simp only [zP, V])
   (refine aj rfl fun _ k0 => ?_; simp only [zO, zT, acs, reduceCtorEq, aa, V, ad, ag, af, ae, ah, aw, aB, az, ar]; (repeat refine And.intro (by first | omega | assumption | exact rfl | exact hkX | exact hkY) ?_); (try refine .inl ?_); apply k0; clear k0; simp only [zP, V])
   refine am ?_
   refine ⟨by simp only [zP, aa, V]; exact rfl, rfl, ?_, rfl⟩; (repeat refine aP rfl ?_); exact bo (by exact rfl) hq17
  case b17 => exact cr
  simp only [bb, aT]
  refine am ?_
  apply k15; clear k15; refine kp [2, 3, 4, 5, 6, 7, 20, 54] ?_
  refine cd (fun hc18 => ?_) (fun hc18 => ?_)
  ·(try simp only [zB, reduceCtorEq] at hc18)
   have hno : ¬ T = U := wk (i := i) (fun e => Or.elim hc18 (fun h9 => Or.elim h9 (fun h8 => h8 (by show (T.getD i nd0).2.1 = (U.getD i nd0).2.1; rw [e])) (fun h8 => h8 (by show (T.getD i nd0).1 = (U.getD i nd0).1; rw [e]))) (fun h9 => h9 (by show ((T.getD i nd0).2.2.1.length : Int) = ((U.getD i nd0).2.2.1.length : Int); rw [e])))
   refine ai fun _ k19 => ?_
   refine ak hP hN rfl ?_
   (refine aj rfl fun _ k0 => ?_; simp only [zO, zT, acs, reduceCtorEq, aa, V, ad, ag, af, ae, ah, aw, aB, az, ar]; (repeat refine And.intro (by first | omega | assumption | exact rfl | exact hkX | exact hkY) ?_); (try refine .inl ?_); apply k0; clear k0; simp only [zP, V])
   refine am ?_
   apply k19; clear k19; refine kp [2, 3, 4, 5, 6, 7, 20, 54] ?_
   refine aF ?_
   refine ⟨nr, _, rfl, ?_⟩; simp only [zF, zP, aa, V, ah, aw, aB, az, ar]
   refine VLE.of_eq ?_
   refine congrArg (fun b => AV.one (AC.bool b)) ?_
   symm
   first
   | exact decide_eq_false hno
   | exact decide_eq_true (mc hll (fun q hq => hu q (by omega)))
  (try simp only [zB, reduceCtorEq] at hc18)
  have hx1 : (T.getD i nd0).2.1 = (U.getD i nd0).2.1 := hc18.1.1
  have hx2 : (T.getD i nd0).1 = (U.getD i nd0).1 := hc18.1.2
  have hx3 : (T.getD i nd0).2.2.1.length = (U.getD i nd0).2.2.1.length := by have h9 : ((T.getD i nd0).2.2.1.length : Int) = ((U.getD i nd0).2.2.1.length : Int) := hc18.2; omega
  refine ay ?_
  apply k14; clear k14; refine kp [2, 3, 4, 5, 6, 7, 20, 54] ?_
  refine ai fun _ k20 => ?_
  refine ak hP hN rfl ?_
  (refine aj rfl fun _ k0 => ?_; simp only [zO, zT, acs, reduceCtorEq, aa, V, ad, ag, af, ae, ah, aw, aB, az, ar]; (repeat refine And.intro (by first | omega | assumption | exact rfl | exact hkX | exact hkY) ?_); (try refine .inl ?_); apply k0; clear k0; simp only [zP, V])
  refine am ?_
  apply k20; clear k20; refine kp [2, 3, 4, 5, 6, 7, 8, 20, 54] ?_
  refine aA ?_
  refine aY (fun n21 s21 => ∃ (j : Nat), (j ≤ (T.getD i nd0).2.2.1.length) ∧ (∀ q, q < j → (T.getD i nd0).2.2.1.getD q kd0 = (U.getD i nd0).2.2.1.getD q kd0) ∧ n21 = (T.getD i nd0).2.2.1.length - j ∧ s21 = { env := [(2, .one (.ptr 0 0 0 0)), (3, .one (.ptr 1 0 0 0)), (4, .one (.bool false)), (5, .one (.int .i64 (i : Int))), (6, .one (.ptr 2 1 0 0)), (7, .one (.ptr 3 1 0 0)), (8, .one (.int .i64 (j : Int))), (20, .one (.bool true))], L := [.vars 29 [.list ndT T], .vars 29 [.list ndT U], .row ndT 52 1 [(T.getD i nd0)], .row ndT 52 1 [(U.getD i nd0)]] }) ?_ ?_
  ·exact ⟨_, _, ax [2, 3, 4, 5, 6, 7, 8, 20], 0, Nat.zero_le _, fun q h => by omega, rfl, by rw [decide_eq_true (show (i : Int) < (T.length : Int) by omega)]; rfl⟩
  rintro n21 s21 ⟨j, hj, hqs, rfl, rfl⟩
  refine ai fun _ k22 => ?_
  refine ai fun _ k23 => ?_
  refine ak hP hN rfl ?_
  iterate 5 (refine aj rfl fun _ k0 => ?_; simp only [zO, zT, acs, reduceCtorEq, aa, V, ad, ag, af, ae, ah, aw, aB, az, ar]; (repeat refine And.intro (by first | omega | assumption | exact rfl | exact hkX | exact hkY) ?_); (try refine .inl ?_); apply k0; clear k0; simp only [zP, V])
  refine am ?_
  apply k23; clear k23; refine kp [2, 3, 4, 5, 6, 7, 8, 20, 59] ?_
  refine cd (fun hc24 => ?_) (fun hc24 => ?_)
  ·(try simp only [zB, reduceCtorEq] at hc24)
   have hjl9 : j < (T.getD i nd0).2.2.1.length := by have h9 : (j : Int) < ((T.getD i nd0).2.2.1.length : Int) := hc24; omega
   refine ay ?_
   apply k22; clear k22; refine kp [2, 3, 4, 5, 6, 7, 8, 20, 59] ?_
   refine ai fun _ k25 => ?_
   refine aA ?_
   refine ai fun _ k26 => ?_
   have hjl : j < (T.getD i nd0).2.2.1.length := hjl9
   have hkX : (0 : Int) ≤ (j : Int) ∧ (j : Int) < ((T.getD i nd0).2.2.1.length : Int) := by omega
   have hkY : (0 : Int) ≤ (j : Int) ∧ (j : Int) < ((U.getD i nd0).2.2.1.length : Int) := by omega
   refine bn hP hN Try.mixed rfl ?_
   iterate 11 (refine aj rfl fun _ k0 => ?_; simp only [zO, zT, acs, reduceCtorEq, aa, V, ad, ag, af, ae, ah, aw, aB, az, ar]; (repeat refine And.intro (by first | omega | assumption | exact rfl | exact hkX | exact hkY) ?_); (try refine .inl ?_); apply k0; clear k0; simp only [zP, V])
   refine am ?_
   refine ⟨by kernel_rfl, ?_⟩
   apply k26; clear k26; refine kp [2, 3, 4, 5, 6, 7, 8, 20, 59, 72] ?_
   refine cd (fun hc27 => ?_) (fun hc27 => ?_)
   ·(try simp only [zB, reduceCtorEq] at hc27)
    have hno : ¬ T = U := wk (i := i) (fun e => by
      have e3 : (T.getD i nd0).2.2.1.getD j kd0 = (U.getD i nd0).2.2.1.getD j kd0 := by rw [e]
      rcases hc27 with h9 | h9
      · exact h9 (by show ((T.getD i nd0).2.2.1.getD j kd0).1 = ((U.getD i nd0).2.2.1.getD j kd0).1; rw [e3])
      · rcases h9 with h9 | h9
        · exact h9 (by show ((T.getD i nd0).2.2.1.getD j kd0).2.1 = ((U.getD i nd0).2.2.1.getD j kd0).2.1; rw [e3])
        · exact h9)
    refine ai fun _ k28 => ?_
    refine ak hP hN rfl ?_
    (refine aj rfl fun _ k0 => ?_; simp only [zO, zT, acs, reduceCtorEq, aa, V, ad, ag, af, ae, ah, aw, aB, az, ar]; (repeat refine And.intro (by first | omega | assumption | exact rfl | exact hkX | exact hkY) ?_); (try refine .inl ?_); apply k0; clear k0; simp only [zP, V])
    refine am ?_
    apply k28; clear k28; refine kp [2, 3, 4, 5, 6, 7, 8, 20, 59, 72] ?_
    refine aF ?_
    refine ⟨nr, _, rfl, ?_⟩; simp only [zF, zP, aa, V, ah, aw, aB, az, ar]
    refine VLE.of_eq ?_
    refine congrArg (fun b => AV.one (AC.bool b)) ?_
    symm
    first
    | exact decide_eq_false hno
    | exact decide_eq_true (mc hll (fun q hq => hu q (by omega)))
   (try simp only [zB, reduceCtorEq] at hc27)
   have hkk : (T.getD i nd0).2.2.1.getD j kd0 = (U.getD i nd0).2.2.1.getD j kd0 := AU hc27.1 hc27.2.1
   refine ay ?_
   apply k25; clear k25; refine kp [2, 3, 4, 5, 6, 7, 8, 20, 59, 72] ?_
   refine ak hP hN rfl ?_
   iterate 3 (refine aj rfl fun _ k0 => ?_; simp only [zO, zT, acs, reduceCtorEq, aa, V, ad, ag, af, ae, ah, aw, aB, az, ar]; (repeat refine And.intro (by first | omega | assumption | exact rfl | exact hkX | exact hkY) ?_); (try refine .inl ?_); apply k0; clear k0; simp only [zP, V])
   refine am ?_
   refine ⟨_, _, ?_, ax [2, 3, 4, 5, 6, 7, 8, 20], j + 1, by omega, fun q h => ?_, rfl, rfl⟩
   · omega
   · by_cases e : q = j
     · rw [e]; exact hkk
     · exact hqs q (by omega)
  (try simp only [zB, reduceCtorEq] at hc24)
  have hje : (T.getD i nd0).2.2.1.length ≤ j := by have h9 : ((T.getD i nd0).2.2.1.length : Int) ≤ (j : Int) := hc24; omega
  have hxy : (T.getD i nd0) = (U.getD i nd0) := B5 hx1 hx2 (yr hx3 (fun q hq => hqs q (by omega)))
  refine aV ?_
  apply k12; clear k12; refine kp [2, 3, 4, 5, 6, 7, 8, 20, 59] ?_
  refine dh [2, 3, 4, 5] ?_; simp only [cF, lkp, zE, reduceCtorEq, aa]
  refine m7 (L1 := [_, _, _]) rfl hB rfl rfl ?_
  refine m7 (L1 := [_, _]) rfl hB rfl rfl ?_
  refine ak hP hN rfl ?_
  iterate 3 (refine aj rfl fun _ k0 => ?_; simp only [zO, zT, acs, reduceCtorEq, aa, V, ad, ag, af, ae, ah, aw, aB, az, ar]; (repeat refine And.intro (by first | omega | assumption | exact rfl | exact hkX | exact hkY) ?_); (try refine .inl ?_); apply k0; clear k0; simp only [zP, V])
  refine am ?_
  refine ⟨_, _, ?_, ax [2, 3, 4, 5], i + 1, by omega, fun q h => ?_, rfl, rfl⟩
  · omega
  · by_cases e : q = i
    · rw [e]; exact hxy
    · exact hu q (by omega)
 (try simp only [zB, reduceCtorEq] at hc11)
 have hie : ¬ i < T.length := by omega
 refine aV ?_
 apply k6; clear k6; refine kp [2, 3, 4, 5, 20] ?_
 refine ai fun _ k29 => ?_
 refine ak hP hN rfl ?_
 (refine aj rfl fun _ k0 => ?_; simp only [zO, zT, acs, reduceCtorEq, aa, V, ad, ag, af, ae, ah, aw, aB, az, ar]; (repeat refine And.intro (by first | omega | assumption | exact rfl | exact hkX | exact hkY) ?_); (try refine .inl ?_); apply k0; clear k0; simp only [zP, V])
 refine am ?_
 apply k29; clear k29; refine kp [2, 3, 4, 5, 20] ?_
 refine aF ?_
 refine ⟨nr, _, rfl, ?_⟩; simp only [zF, zP, aa, V, ah, aw, aB, az, ar]
 refine VLE.of_eq ?_
 refine congrArg (fun b => AV.one (AC.bool b)) ?_
 symm
 first
 | exact decide_eq_false hno
 | exact decide_eq_true (mc hll (fun q hq => hu q (by omega)))
set_option maxHeartbeats 2000000 in
theorem wI  : bP Try.prog 10 [] (.one (.bool true)) := by
 refine aS Try.func10 rfl (by kernel_rfl) (Nat.le_of_ble_eq_true rfl) rfl fun C hP hN hB => ?_
 replace hN : C.N = 100 := hN
 simp only [bf, V]
 refine ai fun _ k1 => ?_
 refine ak hP hN rfl ?_
 (refine aj rfl fun _ k0 => ?_; simp only [zO, zT, acs, reduceCtorEq, aa, V, ad, ag, af, ae, ca, c7]; (repeat refine an ?_); (try refine .inl ?_); apply k0; clear k0; simp only [zP, V])
 refine am ?_
 apply k1; clear k1; refine kp [0] ?_
 refine ai fun _ k2 => ?_
 refine ak hP hN rfl ?_
 iterate 11 (refine aj rfl fun _ k0 => ?_; simp only [zO, zT, acs, reduceCtorEq, aa, V, ad, ag, af, ae, ca, c7]; (repeat refine an ?_); (try refine .inl ?_); apply k0; clear k0; simp only [zP, V])
 refine am ?_
 apply k2; clear k2; refine kp [0, 1] ?_
 refine ai fun _ k3 => ?_
 refine ak hP hN rfl ?_
 (refine aj rfl fun _ k0 => ?_; simp only [zO, zT, acs, reduceCtorEq, aa, V, ad, ag, af, ae, ca, c7]; (repeat refine an ?_); (try refine .inl ?_); apply k0; clear k0; simp only [zP, V])
 refine aj rfl fun _ k0 => ?_
 refine aK (h := aE (rB dQ)) rfl rfl (by first | exact rfl | (simp only [ev, zP, aa, V]; exact rfl)) (by simp only [zV, acs, reduceCtorEq, aa, V, ad, ag, af, ae, ca, c7]) ?_
 apply k0; clear k0; simp only [zP, V]
 iterate 8 (refine aj rfl fun _ k0 => ?_; simp only [zO, zT, acs, reduceCtorEq, aa, V, ad, ag, af, ae, ca, c7]; (repeat refine an ?_); (try refine .inl ?_); apply k0; clear k0; simp only [zP, V])
 refine am ?_
 apply k3; clear k3; refine kp [0, 1, 2, 3, 4] ?_
 refine ai fun _ k4 => ?_
 refine ak hP hN rfl ?_
 iterate 20 (refine aj rfl fun _ k0 => ?_; simp only [zO, zT, acs, reduceCtorEq, aa, V, ad, ag, af, ae, ca, c7]; (repeat refine an ?_); (try refine .inl ?_); apply k0; clear k0; simp only [zP, V])
 refine am ?_
 apply k4; clear k4; refine kp [0, 1, 2, 3, 4, 5] ?_
 refine ai fun _ k5 => ?_
 refine ak hP hN rfl ?_
 iterate 2 (refine aj rfl fun _ k0 => ?_; simp only [zO, zT, acs, reduceCtorEq, aa, V, ad, ag, af, ae, ca, c7]; (repeat refine an ?_); (try refine .inl ?_); apply k0; clear k0; simp only [zP, V])
 refine aj rfl fun _ k0 => ?_
 refine aK (h := aE (tb dQ gU (by decide) 0)) rfl rfl (by first | exact rfl | (simp only [ev, zP, aa, V]; exact rfl)) (by simp only [zV, acs, reduceCtorEq, aa, V, ad, ag, af, ae, ca, c7]) ?_
 apply k0; clear k0; simp only [zP, V]
 iterate 7 (refine aj rfl fun _ k0 => ?_; simp only [zO, zT, acs, reduceCtorEq, aa, V, ad, ag, af, ae, ca, c7]; (repeat refine an ?_); (try refine .inl ?_); apply k0; clear k0; simp only [zP, V])
 refine am ?_
 apply k5; clear k5; refine kp [0, 1, 2, 3, 4, 5, 6, 7, 8] ?_
 refine ai fun _ k6 => ?_
 refine ak hP hN rfl ?_
 (refine aj rfl fun _ k0 => ?_; simp only [zO, zT, acs, reduceCtorEq, aa, V, ad, ag, af, ae, ca, c7]; (repeat refine an ?_); (try refine .inl ?_); apply k0; clear k0; simp only [zP, V])
 refine aj rfl fun _ k0 => ?_
 refine aK (h := aE vE) rfl rfl (by first | exact rfl | (simp only [ev, zP, aa, V]; exact rfl)) (by simp only [zV, acs, reduceCtorEq, aa, V, ad, ag, af, ae, ca, c7]) ?_
 apply k0; clear k0; simp only [zP, V]
 iterate 8 (refine aj rfl fun _ k0 => ?_; simp only [zO, zT, acs, reduceCtorEq, aa, V, ad, ag, af, ae, ca, c7]; (repeat refine an ?_); (try refine .inl ?_); apply k0; clear k0; simp only [zP, V])
 refine am ?_
 apply k6; clear k6; refine kp [0, 1, 2, 3, 4, 5, 6, 7, 8, 11] ?_
 refine ai fun _ k7 => ?_
 refine ak hP hN rfl ?_
 iterate 3 (refine aj rfl fun _ k0 => ?_; simp only [zO, zT, acs, reduceCtorEq, aa, V, ad, ag, af, ae, ca, c7]; (repeat refine an ?_); (try refine .inl ?_); apply k0; clear k0; simp only [zP, V])
 refine' aO (want := true) 2 rfl (m := 60) (by simp only [zP, aa, V]; exact rfl) (by kernel_rfl) rfl rfl rfl rfl rfl (fun hg8 => ?a8) ?b8 ?c8
 case a8 =>
  have hq8 := hg8; (try simp only [zB, reduceCtorEq] at hg8); simp only [zE]
  iterate 2 (refine bg rfl fun _ k0 => ?_; simp only [zO, zT, acs, reduceCtorEq, aa, V, ad, ag, af, ae, ca, c7]; (repeat refine an ?_); (try refine .inl ?_); apply k0; clear k0; simp only [zP, V])
  (refine aj rfl fun _ k0 => ?_; simp only [zO, zT, acs, reduceCtorEq, aa, V, ad, ag, af, ae, ca, c7]; (repeat refine an ?_); (try refine .inl ?_); apply k0; clear k0; simp only [zP, V])
  refine am ?_
  refine ⟨by simp only [zP, aa, V]; exact rfl, rfl, ?_, rfl⟩; (repeat refine aP rfl ?_); exact bo (by exact rfl) hq8
 case b8 => exact cr
 simp only [bb, aT]
 (refine aj rfl fun _ k0 => ?_; simp only [zO, zT, acs, reduceCtorEq, aa, V, ad, ag, af, ae, ca, c7]; (repeat refine an ?_); (try refine .inl ?_); apply k0; clear k0; simp only [zP, V])
 refine' aO (want := true) 2 rfl (m := 64) (by simp only [zP, aa, V]; exact rfl) (by kernel_rfl) rfl rfl rfl rfl rfl (fun hg9 => ?a9) ?b9 ?c9
 case a9 =>
  have hq9 := hg9; (try simp only [zB, reduceCtorEq] at hg9); simp only [zE]
  iterate 2 (refine bg rfl fun _ k0 => ?_; simp only [zO, zT, acs, reduceCtorEq, aa, V, ad, ag, af, ae, ca, c7]; (repeat refine an ?_); (try refine .inl ?_); apply k0; clear k0; simp only [zP, V])
  (refine aj rfl fun _ k0 => ?_; simp only [zO, zT, acs, reduceCtorEq, aa, V, ad, ag, af, ae, ca, c7]; (repeat refine an ?_); (try refine .inl ?_); apply k0; clear k0; simp only [zP, V])
  refine am ?_
  refine ⟨by simp only [zP, aa, V]; exact rfl, rfl, ?_, rfl⟩; (repeat refine aP rfl ?_); exact bo (by exact rfl) hq9
 case b9 => exact cr
 simp only [bb, aT]
 (refine aj rfl fun _ k0 => ?_; simp only [zO, zT, acs, reduceCtorEq, aa, V, ad, ag, af, ae, ca, c7]; (repeat refine an ?_); (try refine .inl ?_); apply k0; clear k0; simp only [zP, V])
 refine' aO (want := true) 1 rfl (m := 68) (by simp only [zP, aa, V]; exact rfl) (by kernel_rfl) rfl rfl rfl rfl rfl (fun hg10 => ?a10) ?b10 ?c10
 case a10 =>
  have hq10 := hg10; (try simp only [zB, reduceCtorEq] at hg10); simp only [zE]
  (refine bg rfl fun _ k0 => ?_; simp only [zO, zT, acs, reduceCtorEq, aa, V, ad, ag, af, ae, ca, c7]; (repeat refine an ?_); (try refine .inl ?_); apply k0; clear k0; simp only [zP, V])
  (refine aj rfl fun _ k0 => ?_; simp only [zO, zT, acs, reduceCtorEq, aa, V, ad, ag, af, ae, ca, c7]; (repeat refine an ?_); (try refine .inl ?_); apply k0; clear k0; simp only [zP, V])
  refine am ?_
  refine ⟨by simp only [zP, aa, V]; exact rfl, rfl, ?_, rfl⟩; (repeat refine aP rfl ?_); exact bo (by exact rfl) hq10
 case b10 => exact cr
 simp only [bb, aT]
 (refine aj rfl fun _ k0 => ?_; simp only [zO, zT, acs, reduceCtorEq, aa, V, ad, ag, af, ae, ca, c7]; (repeat refine an ?_); (try refine .inl ?_); apply k0; clear k0; simp only [zP, V])
 refine' aO (want := true) 3 rfl (m := 71) (by simp only [zP, aa, V]; exact rfl) (by kernel_rfl) rfl rfl rfl rfl rfl (fun hg11 => ?a11) ?b11 ?c11
 case a11 =>
  have hq11 := hg11; (try simp only [zB, reduceCtorEq] at hg11); simp only [zE]
  iterate 2 (refine bg rfl fun _ k0 => ?_; simp only [zO, zT, acs, reduceCtorEq, aa, V, ad, ag, af, ae, ca, c7]; (repeat refine an ?_); (try refine .inl ?_); apply k0; clear k0; simp only [zP, V])
  refine bg rfl fun _ k0 => ?_
  refine aK (h := aE (vy (iz dQ) gU (by rw [qY]; decide) (by rw [qY]; decide))) rfl rfl (by first | exact rfl | (simp only [ev, zP, aa, V]; exact rfl)) (by simp only [zV, acs, reduceCtorEq, aa, V, ad, ag, af, ae, ca, c7]) ?_
  apply k0; clear k0; simp only [zP, V]
  (refine aj rfl fun _ k0 => ?_; simp only [zO, zT, acs, reduceCtorEq, aa, V, ad, ag, af, ae, ca, c7]; (repeat refine an ?_); (try refine .inl ?_); apply k0; clear k0; simp only [zP, V])
  refine am ?_
  refine ⟨by simp only [zP, aa, V]; exact rfl, rfl, ?_, rfl⟩; (repeat refine aP rfl ?_); exact bo (by exact rfl) hq11
 case b11 => exact cr
 simp only [bb, aT]
 (refine aj rfl fun _ k0 => ?_; simp only [zO, zT, acs, reduceCtorEq, aa, V, ad, ag, af, ae, ca, c7]; (repeat refine an ?_); (try refine .inl ?_); apply k0; clear k0; simp only [zP, V])
 refine' aO (want := true) 3 rfl (m := 76) (by simp only [zP, aa, V]; exact rfl) (by kernel_rfl) rfl rfl rfl rfl rfl (fun hg12 => ?a12) ?b12 ?c12
 case a12 =>
  have hq12 := hg12; (try simp only [zB, reduceCtorEq] at hg12); simp only [zE]
  iterate 2 (refine bg rfl fun _ k0 => ?_; simp only [zO, zT, acs, reduceCtorEq, aa, V, ad, ag, af, ae, ca, c7]; (repeat refine an ?_); (try refine .inl ?_); apply k0; clear k0; simp only [zP, V])
  refine bg rfl fun _ k0 => ?_
  refine aK (h := aE (sS (if fm dQ gU 0 = 0 then (fo dQ gU 0).1 else []) [0, 0])) rfl rfl (by first | exact rfl | (simp only [ev, zP, aa, V]; exact rfl)) (by simp only [zV, acs, reduceCtorEq, aa, V, ad, ag, af, ae, ca, c7]) ?_
  apply k0; clear k0; simp only [zP, V]
  (refine aj rfl fun _ k0 => ?_; simp only [zO, zT, acs, reduceCtorEq, aa, V, ad, ag, af, ae, ca, c7]; (repeat refine an ?_); (try refine .inl ?_); apply k0; clear k0; simp only [zP, V])
  refine am ?_
  refine ⟨by simp only [zP, aa, V]; exact rfl, rfl, ?_, rfl⟩; (repeat refine aP rfl ?_); exact bo (by exact rfl) hq12
 case b12 => exact cr
 simp only [bb, aT]
 (refine aj rfl fun _ k0 => ?_; simp only [zO, zT, acs, reduceCtorEq, aa, V, ad, ag, af, ae, ca, c7]; (repeat refine an ?_); (try refine .inl ?_); apply k0; clear k0; simp only [zP, V])
 refine' aO (want := true) 2 rfl (m := 81) (by simp only [zP, aa, V]; exact rfl) (by kernel_rfl) rfl rfl rfl rfl rfl (fun hg13 => ?a13) ?b13 ?c13
 case a13 =>
  have hq13 := hg13; (try simp only [zB, reduceCtorEq] at hg13); simp only [zE]
  iterate 2 (refine bg rfl fun _ k0 => ?_; simp only [zO, zT, acs, reduceCtorEq, aa, V, ad, ag, af, ae, ca, c7]; (repeat refine an ?_); (try refine .inl ?_); apply k0; clear k0; simp only [zP, V])
  (refine aj rfl fun _ k0 => ?_; simp only [zO, zT, acs, reduceCtorEq, aa, V, ad, ag, af, ae, ca, c7]; (repeat refine an ?_); (try refine .inl ?_); apply k0; clear k0; simp only [zP, V])
  refine am ?_
  refine ⟨by simp only [zP, aa, V]; exact rfl, rfl, ?_, rfl⟩; (repeat refine aP rfl ?_); exact bo (by exact rfl) hq13
 case b13 => exact cr
 simp only [bb, aT]
 (refine aj rfl fun _ k0 => ?_; simp only [zO, zT, acs, reduceCtorEq, aa, V, ad, ag, af, ae, ca, c7]; (repeat refine an ?_); (try refine .inl ?_); apply k0; clear k0; simp only [zP, V])
 refine' aO (want := true) 3 rfl (m := 85) (by simp only [zP, aa, V]; exact rfl) (by kernel_rfl) rfl rfl rfl rfl rfl (fun hg14 => ?a14) ?b14 ?c14
 case a14 =>
  have hq14 := hg14; (try simp only [zB, reduceCtorEq] at hg14); simp only [zE]
  (refine bg rfl fun _ k0 => ?_; simp only [zO, zT, acs, reduceCtorEq, aa, V, ad, ag, af, ae, ca, c7]; (repeat refine an ?_); (try refine .inl ?_); apply k0; clear k0; simp only [zP, V])
  refine bg rfl fun _ k0 => ?_
  refine aK (h := aE (A5 (iz dQ) (by rw [qY]; decide) (by rw [qY]; decide))) rfl rfl (by first | exact rfl | (simp only [ev, zP, aa, V]; exact rfl)) (by simp only [zV, acs, reduceCtorEq, aa, V, ad, ag, af, ae, ca, c7]) ?_
  apply k0; clear k0; simp only [zP, V]
  (refine bg rfl fun _ k0 => ?_; simp only [zO, zT, acs, reduceCtorEq, aa, V, ad, ag, af, ae, ca, c7]; (repeat refine an ?_); (try refine .inl ?_); apply k0; clear k0; simp only [zP, V])
  (refine aj rfl fun _ k0 => ?_; simp only [zO, zT, acs, reduceCtorEq, aa, V, ad, ag, af, ae, ca, c7]; (repeat refine an ?_); (try refine .inl ?_); apply k0; clear k0; simp only [zP, V])
  refine am ?_
  refine ⟨by simp only [zP, aa, V]; exact rfl, rfl, ?_, rfl⟩; (repeat refine aP rfl ?_); exact bo (by exact rfl) hq14
 case b14 => exact cr
 simp only [bb, aT]
 (refine aj rfl fun _ k0 => ?_; simp only [zO, zT, acs, reduceCtorEq, aa, V, ad, ag, af, ae, ca, c7]; (repeat refine an ?_); (try refine .inl ?_); apply k0; clear k0; simp only [zP, V])
 refine' aO (want := true) 2 rfl (m := 90) (by simp only [zP, aa, V]; exact rfl) (by kernel_rfl) rfl rfl rfl rfl rfl (fun hg15 => ?a15) ?b15 ?c15
 case a15 =>
  have hq15 := hg15; (try simp only [zB, reduceCtorEq] at hg15); simp only [zE]
  (refine bg rfl fun _ k0 => ?_; simp only [zO, zT, acs, reduceCtorEq, aa, V, ad, ag, af, ae, ca, c7]; (repeat refine an ?_); (try refine .inl ?_); apply k0; clear k0; simp only [zP, V])
  refine bg rfl fun _ k0 => ?_
  refine aK (h := aE (w7 (iz dQ) (by rw [qY]; decide))) rfl rfl (by first | exact rfl | (simp only [ev, zP, aa, V]; exact rfl)) (by simp only [zV, acs, reduceCtorEq, aa, V, ad, ag, af, ae, ca, c7]) ?_
  apply k0; clear k0; simp only [zP, V]
  (refine aj rfl fun _ k0 => ?_; simp only [zO, zT, acs, reduceCtorEq, aa, V, ad, ag, af, ae, ca, c7]; (repeat refine an ?_); (try refine .inl ?_); apply k0; clear k0; simp only [zP, V])
  refine am ?_
  refine ⟨by simp only [zP, aa, V]; exact rfl, rfl, ?_, rfl⟩; (repeat refine aP rfl ?_); exact bo (by exact rfl) hq15
 case b15 => exact cr
 simp only [bb, aT]
 (refine aj rfl fun _ k0 => ?_; simp only [zO, zT, acs, reduceCtorEq, aa, V, ad, ag, af, ae, ca, c7]; (repeat refine an ?_); (try refine .inl ?_); apply k0; clear k0; simp only [zP, V])
 refine' aO (want := true) 4 rfl (m := 94) (by simp only [zP, aa, V]; exact rfl) (by kernel_rfl) rfl rfl rfl rfl rfl (fun hg16 => ?a16) ?b16 ?c16
 case a16 =>
  have hq16 := hg16; (try simp only [zB, reduceCtorEq] at hg16); simp only [zE]
  iterate 2 (refine bg rfl fun _ k0 => ?_; simp only [zO, zT, acs, reduceCtorEq, aa, V, ad, ag, af, ae, ca, c7]; (repeat refine an ?_); (try refine .inl ?_); apply k0; clear k0; simp only [zP, V])
  refine bg rfl fun _ k0 => ?_
  refine aK (h := aE ym) rfl rfl (by first | exact rfl | (simp only [ev, zP, aa, V]; exact rfl)) (by simp only [zV, acs, reduceCtorEq, aa, V, ad, ag, af, ae, ca, c7]) ?_
  apply k0; clear k0; simp only [zP, V]
  (refine bg rfl fun _ k0 => ?_; simp only [zO, zT, acs, reduceCtorEq, aa, V, ad, ag, af, ae, ca, c7]; (repeat refine an ?_); (try refine .inl ?_); apply k0; clear k0; simp only [zP, V])
  (refine aj rfl fun _ k0 => ?_; simp only [zO, zT, acs, reduceCtorEq, aa, V, ad, ag, af, ae, ca, c7]; (repeat refine an ?_); (try refine .inl ?_); apply k0; clear k0; simp only [zP, V])
  refine am ?_
  refine ⟨by simp only [zP, aa, V]; exact rfl, rfl, ?_, rfl⟩; (repeat refine aP rfl ?_); exact bo (by exact rfl) hq16
 case b16 => exact cr
 simp only [bb, aT]
 (refine aj rfl fun _ k0 => ?_; simp only [zO, zT, acs, reduceCtorEq, aa, V, ad, ag, af, ae, ca, c7]; (repeat refine an ?_); (try refine .inl ?_); apply k0; clear k0; simp only [zP, V])
 refine am ?_
 apply k7; clear k7; refine kp [0, 1, 2, 3, 4, 5, 6, 7, 8, 11] ?_
 refine aF ?_
 refine ⟨nr, _, rfl, ?_⟩; simp only [zF, zP, aa, V, ca, c7]
 refine VLE.of_eq ?_
 refine congrArg (fun b => AV.one (AC.bool b)) ?_
 rw [qY, yB, Bv, AP, if_pos rfl, if_pos rfl, Br, AT, AY, decide_eq_false Bb]
 decide
set_option maxHeartbeats 1000000 in
theorem B8 (T : List b7) : bP Try.prog 14 [.agg [.list ndT T]] (.one (.bool (ij T))) := by
 refine aS Try.func14 rfl (by kernel_rfl) (Nat.le_of_ble_eq_true rfl) rfl fun C hP hN hB => ?_
 replace hN : C.N = 33 := hN
 simp only [bf, V]
 refine ai fun _ k1 => ?_
 refine ak hP hN rfl ?_
 iterate 2 (refine aj rfl fun _ k0 => ?_; simp only [zO, zT, acs, reduceCtorEq, aa, V, ad, ag, af, ae, ah, aw, aB, az]; (repeat refine an ?_); (try refine .inl ?_); apply k0; clear k0; simp only [zP, V])
 refine am ?_
 apply k1; clear k1; refine kp [0, 1, 2] ?_
 refine ai fun _ k2 => ?_
 refine ai fun _ k3 => ?_
 refine ak hP hN rfl ?_
 iterate 4 (refine aj rfl fun _ k0 => ?_; simp only [zO, zT, acs, reduceCtorEq, aa, V, ad, ag, af, ae, ah, aw, aB, az]; (repeat refine an ?_); (try refine .inl ?_); apply k0; clear k0; simp only [zP, V])
 refine am ?_
 apply k3; clear k3; refine kp [0, 1, 2, 7] ?_
 refine cd (fun hc4 => ?_) (fun hc4 => ?_)
 ·(try simp only [zB, reduceCtorEq] at hc4)
  have h60 : ¬ T.length ≤ 60 := by have h9 : (60 : Int) < (T.length : Int) := hc4; omega
  refine ai fun _ k5 => ?_
  refine ak hP hN rfl ?_
  (refine aj rfl fun _ k0 => ?_; simp only [zO, zT, acs, reduceCtorEq, aa, V, ad, ag, af, ae, ah, aw, aB, az]; (repeat refine an ?_); (try refine .inl ?_); apply k0; clear k0; simp only [zP, V])
  refine am ?_
  apply k5; clear k5; refine kp [0, 1, 2, 7] ?_
  refine aF ?_
  refine ⟨nr, _, rfl, ?_⟩; simp only [zF, zP, aa, V, ah, aw, aB, az]
  refine VLE.of_eq ?_
  refine congrArg (fun b => AV.one (AC.bool b)) ?_
  symm
  first
  | exact hno
  | (unfold ij; rw [decide_eq_false h60]; done)
  | (unfold ij; rw [decide_eq_false h60]; rfl)
  | exact vu h60 (fun j h => hu j (by omega))
 (try simp only [zB, reduceCtorEq] at hc4)
 have h60 : T.length ≤ 60 := by have h9 : (T.length : Int) ≤ 60 := hc4; omega
 refine ay ?_
 apply k2; clear k2; refine kp [0, 1, 2, 7] ?_
 refine ai fun _ k6 => ?_
 refine ai fun _ k7 => ?_
 refine ak hP hN rfl ?_
 iterate 4 (refine aj rfl fun _ k0 => ?_; simp only [zO, zT, acs, reduceCtorEq, aa, V, ad, ag, af, ae, ah, aw, aB, az]; (repeat refine an ?_); (try refine .inl ?_); apply k0; clear k0; simp only [zP, V])
 refine am ?_
 apply k7; clear k7; refine kp [0, 1, 2, 7, 10, 11] ?_
 refine aA ?_
 refine aY (fun n8 s8 => ∃ (i : Nat), (i ≤ T.length) ∧ (∀ j, j < i → (T.getD j nd0).1.length ≤ 20 ∧ (T.getD j nd0).2.2.1.length ≤ 20) ∧ n8 = T.length - i ∧ s8 = { env := [(1, .one (.ptr 0 0 0 0)), (2, .one (.bool false)), (10, .one (.int .i64 (T.length : Int))), (11, .one (.int .i64 (i : Int)))], L := [.vars 29 [.list ndT T]] }) ?_ ?_
 ·exact ⟨_, _, ax [1, 2, 10, 11], 0, Nat.zero_le _, fun j h => by omega, rfl, rfl⟩
 rintro n8 s8 ⟨i, hi, hu, rfl, rfl⟩
 refine ai fun _ k9 => ?_
 refine ak hP hN rfl ?_
 (refine aj rfl fun _ k0 => ?_; simp only [zO, zT, acs, reduceCtorEq, aa, V, ad, ag, af, ae, ah, aw, aB, az]; (repeat refine an ?_); (try refine .inl ?_); apply k0; clear k0; simp only [zP, V])
 refine am ?_
 apply k9; clear k9; refine kp [1, 2, 10, 11, 12] ?_
 refine ai fun _ k10 => ?_
 refine cd (fun hc11 => ?_) (fun hc11 => ?_)
 ·(try simp only [zB, reduceCtorEq] at hc11)
  refine ay ?_
  apply k10; clear k10; refine kp [1, 2, 10, 11, 12] ?_
  refine ai fun _ k12 => ?_
  refine aA ?_
  refine ai fun _ k13 => ?_
  refine ak hP hN rfl ?_
  iterate 2 (refine aj rfl fun _ k0 => ?_; simp only [zO, zT, acs, reduceCtorEq, aa, V, ad, ag, af, ae, ah, aw, aB, az]; (repeat refine an ?_); (try refine .inl ?_); apply k0; clear k0; simp only [zP, V])
  refine am ?_
  apply k13; clear k13; refine kp [1, 2, 3, 10, 11, 12] ?_
  refine ai fun _ k14 => ?_
  refine ak hP hN rfl ?_
  iterate 9 (refine aj rfl fun _ k0 => ?_; simp only [zO, zT, acs, reduceCtorEq, aa, V, ad, ag, af, ae, ah, aw, aB, az]; (repeat refine an ?_); (try refine .inl ?_); apply k0; clear k0; simp only [zP, V])
  refine' aO (want := false) 8 rfl (m := 22) (by simp only [zP, aa, V]; exact rfl) (by kernel_rfl) rfl rfl rfl rfl rfl (fun hg15 => ?a15) ?b15 ?c15
  case a15 =>
   have hq15 := hg15; (try simp only [zB, reduceCtorEq] at hg15); simp only [zE]
   iterate 8 (refine bg rfl fun _ k0 => ?_; simp only [zO, zT, acs, reduceCtorEq, aa, V, ad, ag, af, ae, ah, aw, aB, az]; (repeat refine an ?_); (try refine .inl ?_); apply k0; clear k0; simp only [zP, V])
   (refine aj rfl fun _ k0 => ?_; simp only [zO, zT, acs, reduceCtorEq, aa, V, ad, ag, af, ae, ah, aw, aB, az]; (repeat refine an ?_); (try refine .inl ?_); apply k0; clear k0; simp only [zP, V])
   refine am ?_
   refine ⟨by simp only [zP, aa, V]; exact rfl, rfl, ?_, rfl⟩; (repeat refine aP rfl ?_); exact bo (by exact rfl) hq15
  case b15 => exact cr
  simp only [bb, aT]
  refine am ?_
  apply k14; clear k14; refine kp [1, 2, 3, 10, 11, 12, 31] ?_
  refine cd (fun hc16 => ?_) (fun hc16 => ?_)
  ·(try simp only [zB, reduceCtorEq] at hc16)
   have hno : ij T = false := B4 (i := i) (by omega) (Or.elim hc16 (fun h9 => .inl (by have h8 : (20 : Int) < ((T.getD i nd0).1.length : Int) := h9; omega)) (fun h9 => .inr (by have h8 : (20 : Int) < ((T.getD i nd0).2.2.1.length : Int) := h9; omega)))
   refine ai fun _ k17 => ?_
   refine ak hP hN rfl ?_
   (refine aj rfl fun _ k0 => ?_; simp only [zO, zT, acs, reduceCtorEq, aa, V, ad, ag, af, ae, ah, aw, aB, az]; (repeat refine an ?_); (try refine .inl ?_); apply k0; clear k0; simp only [zP, V])
   refine am ?_
   apply k17; clear k17; refine kp [1, 2, 3, 10, 11, 12, 31] ?_
   refine aF ?_
   refine ⟨nr, _, rfl, ?_⟩; simp only [zF, zP, aa, V, ah, aw, aB, az]
   refine VLE.of_eq ?_
   refine congrArg (fun b => AV.one (AC.bool b)) ?_
   symm
   first
   | exact hno
   | (unfold ij; rw [decide_eq_false h60]; done)
   | (unfold ij; rw [decide_eq_false h60]; rfl)
   | exact vu h60 (fun j h => hu j (by omega))
  (try simp only [zB, reduceCtorEq] at hc16)
  have hyes : (T.getD i nd0).1.length ≤ 20 ∧ (T.getD i nd0).2.2.1.length ≤ 20 := ⟨by have h8 : ((T.getD i nd0).1.length : Int) ≤ 20 := hc16.1; omega, by have h8 : ((T.getD i nd0).2.2.1.length : Int) ≤ 20 := hc16.2; omega⟩
  refine ay ?_
  apply k12; clear k12; refine kp [1, 2, 3, 10, 11, 12, 31] ?_
  refine ak hP hN rfl ?_
  iterate 2 (refine aj rfl fun _ k0 => ?_; simp only [zO, zT, acs, reduceCtorEq, aa, V, ad, ag, af, ae, ah, aw, aB, az]; (repeat refine an ?_); (try refine .inl ?_); apply k0; clear k0; simp only [zP, V])
  refine am ?_
  refine ⟨_, _, ?_, ax [1, 2, 10, 11], i + 1, by omega, fun j h => ?_, rfl, rfl⟩
  · omega
  · by_cases e : j = i
    · rw [e]; exact hyes
    · exact hu j (by omega)
 (try simp only [zB, reduceCtorEq] at hc11)
 refine aV ?_
 apply k6; clear k6; refine kp [1, 2, 10, 11, 12] ?_
 refine ai fun _ k18 => ?_
 refine ak hP hN rfl ?_
 (refine aj rfl fun _ k0 => ?_; simp only [zO, zT, acs, reduceCtorEq, aa, V, ad, ag, af, ae, ah, aw, aB, az]; (repeat refine an ?_); (try refine .inl ?_); apply k0; clear k0; simp only [zP, V])
 refine am ?_
 apply k18; clear k18; refine kp [1, 2, 10, 11, 12] ?_
 refine aF ?_
 refine ⟨nr, _, rfl, ?_⟩; simp only [zF, zP, aa, V, ah, aw, aB, az]
 refine VLE.of_eq ?_
 refine congrArg (fun b => AV.one (AC.bool b)) ?_
 symm
 first
 | exact hno
 | (unfold ij; rw [decide_eq_false h60]; done)
 | (unfold ij; rw [decide_eq_false h60]; rfl)
 | exact vu h60 (fun j h => hu j (by omega))
set_option maxHeartbeats 1500000 in
theorem yY (m : Mly) (i : Nat) (hm : MOK m) : bP Try.prog 101 [m.av, .one (.list (.int .i64) (m.cls i))] (.one (.list (.int .i64) (m.cls (i + 1)))) := by
 have ol := hm.ol; have hi1 := hm.i1; have hi2 := hm.i2; have hn2 := hm.n2
 have hcl := jI m i
 have hnl := oV m (m.cls i)
 refine aS Try.func101 rfl (by kernel_rfl) (Nat.le_of_ble_eq_true rfl) rfl fun C hP hN hB => ?_
 replace hN : C.N = 99 := hN
 simp only [bf, V]
 refine ai fun _ k1 => ?_
 refine ak hP hN rfl ?_
 iterate 2 (refine aj rfl fun _ k0 => ?_; simp only [zO, zT, acs, reduceCtorEq, aa, V, ad, ag, af, ae, Mly.av, ah]; (repeat refine an ?_); (try refine .inl ?_); apply k0; clear k0; simp only [zP, V])
 refine am ?_
 apply k1; clear k1; refine kp [0, 1, 2, 4] ?_
 refine ai fun _ k2 => ?_
 refine ak hP hN rfl ?_
 (refine aj rfl fun _ k0 => ?_; simp only [zO, zT, acs, reduceCtorEq, aa, V, ad, ag, af, ae, Mly.av, ah]; (repeat refine an ?_); (try refine .inl ?_); apply k0; clear k0; simp only [zP, V])
 refine am ?_
 apply k2; clear k2; refine kp [0, 1, 2, 4, 5] ?_
 refine ai fun _ k3 => ?_
 refine ak hP hN rfl ?_
 (refine aj rfl fun _ k0 => ?_; simp only [zO, zT, acs, reduceCtorEq, aa, V, ad, ag, af, ae, Mly.av, ah]; (repeat refine an ?_); (try refine .inl ?_); apply k0; clear k0; simp only [zP, V])
 refine am ?_
 apply k3; clear k3; refine kp [0, 1, 2, 4, 5, 6] ?_
 refine ai fun _ k4 => ?_
 refine ai fun _ k5 => ?_
 refine ak hP hN rfl ?_
 (refine aj rfl fun _ k0 => ?_; simp only [zO, zT, acs, reduceCtorEq, aa, V, ad, ag, af, ae, Mly.av, ah]; (repeat refine an ?_); (try refine .inl ?_); apply k0; clear k0; simp only [zP, V])
 refine am ?_
 apply k5; clear k5; refine kp [0, 1, 2, 4, 5, 6, 7] ?_
 refine aA ?_
 refine dZ 5 (.int .i64) 3 (by decide) rfl ?_; simp only [au, aG, aM, b6, Nat.zero_add, V]
 refine aY (fun n6 s6 => ∃ (s : Nat) (v : Nat), (s ≤ m.nx.length) ∧ n6 = m.nx.length - s ∧ s6 = { env := [(1, .one (.list (.int .i64) (m.cls i))), (2, .one (.ptr 0 0 0 0)), (4, .one .nils), (5, .one (.row 1 v)), (6, .one (.int .i64 ((cU (m.sig (m.cls i)) s).length : Int))), (7, .one (.int .i64 (s : Int)))], L := [.vars 24 [.int .i64 m.inp, .int .i64 m.st, .list (.list (.int .i64)) m.nx, .list (.list (.int .i64)) m.ot], .row (.int .i64) 3 v ((m.nextL (m.cls i)).take s)] }) ?_ ?_
 ·exact ⟨_, _, ax [1, 2, 4, 5, 6, 7], 0, 0, Nat.zero_le _, rfl, rfl⟩
 rintro n6 s6 ⟨s, v, hs, rfl, rfl⟩
 refine ai fun _ k7 => ?_
 refine ai fun _ k8 => ?_
 refine ak hP hN rfl ?_
 iterate 4 (refine aj rfl fun _ k0 => ?_; simp only [zO, zT, acs, reduceCtorEq, aa, V, ad, ag, af, ae, Mly.av, ah]; (repeat refine an ?_); (try refine .inl ?_); apply k0; clear k0; simp only [zP, V])
 refine am ?_
 apply k8; clear k8; refine kp [1, 2, 4, 5, 6, 7, 15] ?_
 refine cd (fun hc9 => ?_) (fun hc9 => ?_)
 ·(try simp only [zB, reduceCtorEq] at hc9)
  refine ay ?_
  apply k7; clear k7; refine kp [1, 2, 4, 5, 6, 7, 15] ?_
  refine ai fun _ k10 => ?_
  refine aA ?_
  refine ai fun _ k11 => ?_
  have hsn : s < m.nx.length := by omega
  have hdl := lT (m.sig (m.cls i)) s
  have htl : ((m.nextL (m.cls i)).take s).length = s := by rw [List.length_take]; omega
  refine ak hP hN rfl ?_
  (refine aj rfl fun _ k0 => ?_; simp only [zO, zT, acs, reduceCtorEq, aa, V, ad, ag, af, ae, Mly.av, ah]; (repeat refine an ?_); (try refine .inl ?_); apply k0; clear k0; simp only [zP, V])
  refine am ?_
  apply k11; clear k11; refine kp [1, 2, 4, 5, 6, 7, 8, 15] ?_
  refine ai fun _ k12 => ?_
  refine ai fun _ k13 => ?_
  refine ak hP hN rfl ?_
  iterate 3 (refine aj rfl fun _ k0 => ?_; simp only [zO, zT, acs, reduceCtorEq, aa, V, ad, ag, af, ae, Mly.av, ah]; (repeat refine an ?_); (try refine .inl ?_); apply k0; clear k0; simp only [zP, V])
  refine am ?_
  apply k13; clear k13; refine kp [1, 2, 4, 5, 6, 7, 8, 9, 15] ?_
  refine aA ?_
  refine aY (fun n14 s14 => ∃ (k : Nat) (fd : Int), (k ≤ s) ∧ (fnF m (m.cls i) s k fd) ∧ n14 = k + 1 ∧ s14 = { env := [(1, .one (.list (.int .i64) (m.cls i))), (2, .one (.ptr 0 0 0 0)), (4, .one .nils), (5, .one (.row 1 v)), (6, .one (.int .i64 ((cU (m.sig (m.cls i)) s).length : Int))), (7, .one (.int .i64 (s : Int))), (8, .one (.int .i64 fd)), (9, .one (.int .i64 ((k : Int) - 1))), (15, .one (.bool true))], L := [.vars 24 [.int .i64 m.inp, .int .i64 m.st, .list (.list (.int .i64)) m.nx, .list (.list (.int .i64)) m.ot], .row (.int .i64) 3 v ((m.nextL (m.cls i)).take s)] }) ?_ ?_
  ·refine ⟨_, _, ax [1, 2, 4, 5, 6, 7, 8, 9, 15], s, -1, Nat.le_refl _, .inl ⟨rfl, fun t h1 h2 => by omega⟩, rfl, ?_⟩
   rw [decide_eq_true (by omega)]; rfl
  rintro n14 s14 ⟨k, fd, hk, hfn, rfl, rfl⟩
  refine ai fun _ k15 => ?_
  refine ai fun _ k16 => ?_
  refine ak hP hN rfl ?_
  iterate 2 (refine aj rfl fun _ k0 => ?_; simp only [zO, zT, acs, reduceCtorEq, aa, V, ad, ag, af, ae, Mly.av, ah]; (repeat refine an ?_); (try refine .inl ?_); apply k0; clear k0; simp only [zP, V])
  refine am ?_
  apply k16; clear k16; refine kp [1, 2, 4, 5, 6, 7, 8, 9, 15, 21] ?_
  refine cd (fun hc17 => ?_) (fun hc17 => ?_)
  ·(try simp only [zB, reduceCtorEq] at hc17)
   refine ay ?_
   apply k15; clear k15; refine kp [1, 2, 4, 5, 6, 7, 8, 9, 15, 21] ?_
   refine ai fun _ k18 => ?_
   refine aA ?_
   refine ai fun _ k19 => ?_
   obtain ⟨t, rfl⟩ : ∃ t, k = t + 1 := ⟨k - 1, by omega⟩
   rw [show (((t + 1 : Nat) : Int) - 1) = (t : Int) by omega]
   have htn : t < m.nx.length := by omega
   refine bn hP hN Try.mixed rfl ?_
   iterate 10 (refine aj rfl fun _ k0 => ?_; simp only [zO, zT, acs, reduceCtorEq, aa, V, ad, ag, af, ae, Mly.av, ah]; (repeat refine an ?_); (try refine .inl ?_); apply k0; clear k0; simp only [zP, V])
   refine am ?_
   refine ⟨by kernel_rfl, ?_⟩
   apply k19; clear k19; refine kp [1, 2, 4, 5, 6, 7, 8, 9, 10, 15, 21] ?_
   refine ai fun _ k20 => ?_
   refine ai fun _ k21 => ?_
   refine ak hP hN rfl ?_
   (refine aj rfl fun _ k0 => ?_; simp only [zO, zT, acs, reduceCtorEq, aa, V, ad, ag, af, ae, Mly.av, ah]; (repeat refine an ?_); (try refine .inl ?_); apply k0; clear k0; simp only [zP, V])
   refine am ?_
   apply k21; clear k21; refine kp [1, 2, 4, 5, 6, 7, 8, 9, 10, 11, 15, 21] ?_
   refine aA ?_
   refine aY (fun n22 s22 => ∃ (a : Nat) (sm : Bool), ((a : Int) ≤ m.inp) ∧ (sm = true ↔ smB m (m.cls i) s t a) ∧ n22 = m.inp.toNat - a ∧ s22 = { env := [(1, .one (.list (.int .i64) (m.cls i))), (2, .one (.ptr 0 0 0 0)), (4, .one .nils), (5, .one (.row 1 v)), (6, .one (.int .i64 ((cU (m.sig (m.cls i)) s).length : Int))), (7, .one (.int .i64 (s : Int))), (8, .one (.int .i64 fd)), (9, .one (.int .i64 (t : Int))), (10, .one (.bool sm)), (11, .one (.int .i64 (a : Int))), (15, .one (.bool true)), (21, .one (.bool true))], L := [.vars 24 [.int .i64 m.inp, .int .i64 m.st, .list (.list (.int .i64)) m.nx, .list (.list (.int .i64)) m.ot], .row (.int .i64) 3 v ((m.nextL (m.cls i)).take s)] }) ?_ ?_
   ·refine ⟨_, _, ax [1, 2, 4, 5, 6, 7, 8, 9, 10, 11, 15, 21], 0, decide ((m.cls i).getD s 0 = (m.cls i).getD t 0), by omega, by rw [decide_eq_true_eq]; exact ⟨fun h => ⟨h, fun b hb => by omega⟩, fun h => h.1⟩, rfl, ?_⟩
    rw [decide_eq_true (show (0 : Int) ≤ (t : Int) by omega)]; rfl
   rintro n22 s22 ⟨a, sm, ha, hsb, rfl, rfl⟩
   refine ai fun _ k23 => ?_
   refine ai fun _ k24 => ?_
   refine ak hP hN rfl ?_
   iterate 5 (refine aj rfl fun _ k0 => ?_; simp only [zO, zT, acs, reduceCtorEq, aa, V, ad, ag, af, ae, Mly.av, ah]; (repeat refine an ?_); (try refine .inl ?_); apply k0; clear k0; simp only [zP, V])
   refine' aO (want := true) 1 rfl (m := 37) (by simp only [zP, aa, V]; exact rfl) (by kernel_rfl) rfl rfl rfl rfl rfl (fun hg25 => ?a25) ?b25 ?c25
   case a25 =>
    have hq25 := hg25; (try simp only [zB, reduceCtorEq] at hg25); simp only [zE]
    (refine bg rfl fun _ k0 => ?_; simp only [zO, zT, acs, reduceCtorEq, aa, V, ad, ag, af, ae, Mly.av, ah]; (repeat refine an ?_); (try refine .inl ?_); apply k0; clear k0; simp only [zP, V])
    (refine aj rfl fun _ k0 => ?_; simp only [zO, zT, acs, reduceCtorEq, aa, V, ad, ag, af, ae, Mly.av, ah]; (repeat refine an ?_); (try refine .inl ?_); apply k0; clear k0; simp only [zP, V])
    refine am ?_
    refine ⟨by simp only [zP, aa, V]; exact rfl, rfl, ?_, rfl⟩; (repeat refine aP rfl ?_); exact bo (by exact rfl) hq25
   case b25 => exact cr
   simp only [bb, aT]
   refine am ?_
   apply k24; clear k24; refine kp [1, 2, 4, 5, 6, 7, 8, 9, 10, 11, 15, 21, 39] ?_
   refine cd (fun hc26 => ?_) (fun hc26 => ?_)
   ·(try simp only [zB, reduceCtorEq] at hc26)
    have hy : (a : Int) < m.inp ∧ smB m (m.cls i) s t a := by
      have h9 : (a : Int) < m.inp ∧ sm = true := by simpa using hc26
      exact ⟨h9.1, hsb.1 h9.2⟩
    refine ay ?_
    apply k23; clear k23; refine kp [1, 2, 4, 5, 6, 7, 8, 9, 10, 11, 15, 21, 39] ?_
    refine ai fun _ k27 => ?_
    refine aA ?_
    have q1 := hm.rl s hsn; have q2 := hm.ql s hsn; have q3 := hm.rl t htn; have q4 := hm.ql t htn
    have n1 := hm.nr s a hsn (by omega)
    have n2 := hm.nr t a htn (by omega)
    refine bn hP hN Try.mixed rfl ?_
    iterate 18 (refine aj rfl fun _ k0 => ?_; simp only [zO, zT, acs, reduceCtorEq, aa, V, ad, ag, af, ae, Mly.av, ah]; (repeat refine an ?_); (try refine .inl ?_); apply k0; clear k0; simp only [zP, V])
    refine' aO (want := true) 23 rfl (m := 59) (by simp only [zP, aa, V]; exact rfl) (by kernel_rfl) rfl rfl rfl rfl rfl (fun hg28 => ?a28) ?b28 ?c28
    case a28 =>
     have hq28 := hg28; (try simp only [zB, reduceCtorEq] at hg28); simp only [zE]
     iterate 23 (refine bg rfl fun _ k0 => ?_; simp only [zO, zT, acs, reduceCtorEq, aa, V, ad, ag, af, ae, Mly.av, ah]; (repeat refine an ?_); (try refine .inl ?_); apply k0; clear k0; simp only [zP, V])
     (refine aj rfl fun _ k0 => ?_; simp only [zO, zT, acs, reduceCtorEq, aa, V, ad, ag, af, ae, Mly.av, ah]; (repeat refine an ?_); (try refine .inl ?_); apply k0; clear k0; simp only [zP, V])
     refine am ?_
     refine ⟨by simp only [zP, aa, V]; exact rfl, rfl, ?_, rfl⟩; (repeat refine aP rfl ?_); exact bo (by exact rfl) hq28
    case b28 => exact cr
    simp only [bb, aT]
    (refine aj rfl fun _ k0 => ?_; simp only [zO, zT, acs, reduceCtorEq, aa, V, ad, ag, af, ae, Mly.av, ah]; (repeat refine an ?_); (try refine .inl ?_); apply k0; clear k0; simp only [zP, V])
    refine am ?_
    refine ⟨by kernel_rfl, ?_⟩
    apply k27; clear k27; refine kp [1, 2, 4, 5, 6, 7, 8, 9, 10, 11, 15, 21, 39] ?_
    refine ak hP hN rfl ?_
    iterate 3 (refine aj rfl fun _ k0 => ?_; simp only [zO, zT, acs, reduceCtorEq, aa, V, ad, ag, af, ae, Mly.av, ah]; (repeat refine an ?_); (try refine .inl ?_); apply k0; clear k0; simp only [zP, V])
    refine am ?_
    refine ⟨_, _, ?_, ax [1, 2, 4, 5, 6, 7, 8, 9, 10, 11, 15, 21], a + 1, _, by omega, ?_, rfl, rfl⟩
    · omega
    · rw [xG hy.2]; simp
   (try simp only [zB, reduceCtorEq] at hc26)
   have hy : ¬ ((a : Int) < m.inp ∧ smB m (m.cls i) s t a) := by
     rintro ⟨h1, h2⟩
     have h3 := hsb.2 h2
     have h9 : m.inp ≤ (a : Int) ∨ sm = false := by simpa using hc26
     rcases h9 with h9 | h9
     · omega
     · rw [h3] at h9; cases h9
   refine aV ?_
   apply k20; clear k20; refine kp [1, 2, 4, 5, 6, 7, 8, 9, 10, 11, 15, 21, 39] ?_
   refine ai fun _ k29 => ?_
   have hsm : smB m (m.cls i) s t m.inp.toNat ↔ m.sig (m.cls i) s = m.sig (m.cls i) t := yW hm hsn htn
   refine ak hP hN rfl ?_
   (refine aj rfl fun _ k0 => ?_; simp only [zO, zT, acs, reduceCtorEq, aa, V, ad, ag, af, ae, Mly.av, ah]; (repeat refine an ?_); (try refine .inl ?_); apply k0; clear k0; simp only [zP, V])
   refine am ?_
   apply k29; clear k29; refine kp [1, 2, 4, 5, 6, 7, 8, 9, 10, 11, 15, 21, 39, 84] ?_
   refine cd (fun hc30 => ?_) (fun hc30 => ?_)
   ·(try simp only [zB, reduceCtorEq] at hc30)
    have hy9 : smB m (m.cls i) s t a := hsb.1 hc30
    have hya : a = m.inp.toNat := by
      by_cases e : (a : Int) < m.inp
      · exact absurd ⟨e, hy9⟩ hy
      · omega
    have hsg := hsm.1 (hya ▸ hy9)
    have hfn2 := Ai hsn (by omega) hsg
    have hgt : ((m.nextL (m.cls i)).take s).getD t 0 = (m.nextL (m.cls i)).getD t 0 := qi (by omega)
    refine ak hP hN rfl ?_
    iterate 5 (refine aj rfl fun _ k0 => ?_; simp only [zO, zT, acs, reduceCtorEq, aa, V, ad, ag, af, ae, Mly.av, ah, htl]; (repeat refine an ?_); (try refine .inl ?_); apply k0; clear k0; simp only [zP, V])
    refine am ?_
    apply k18; clear k18; refine kp [1, 2, 4, 5, 6, 7, 8, 9, 10, 11, 15, 21, 39, 84] ?_
    refine ak hP hN rfl ?_
    iterate 3 (refine aj rfl fun _ k0 => ?_; simp only [zO, zT, acs, reduceCtorEq, aa, V, ad, ag, af, ae, Mly.av, ah]; (repeat refine an ?_); (try refine .inl ?_); apply k0; clear k0; simp only [zP, V])
    refine am ?_
    first
    | (refine ⟨_, _, ?_, ax [1, 2, 4, 5, 6, 7, 8, 9, 15], t, _, by omega, hfn2, rfl, rfl⟩
       omega)
    | (refine ⟨_, _, ?_, ax [1, 2, 4, 5, 6, 7, 8, 9, 15], t, (m.nextL (m.cls i)).getD t 0, by omega, hfn2, rfl, ?_⟩
       · omega
       · rw [← hgt]; rfl)
   (try simp only [zB, reduceCtorEq] at hc30)
   have hy9 : ¬ smB m (m.cls i) s t a := fun h => by
     have h3 := hsb.2 h
     have h9 : sm = false := by simpa using hc30
     rw [h3] at h9; cases h9
   have hsg : ¬ m.sig (m.cls i) s = m.sig (m.cls i) t := fun h => xk (by omega) hy9 (hsm.2 h)
   have hfn2 := AW hfn hsg
   refine ay ?_
   apply k18; clear k18; refine kp [1, 2, 4, 5, 6, 7, 8, 9, 10, 11, 15, 21, 39, 84] ?_
   refine ak hP hN rfl ?_
   iterate 3 (refine aj rfl fun _ k0 => ?_; simp only [zO, zT, acs, reduceCtorEq, aa, V, ad, ag, af, ae, Mly.av, ah]; (repeat refine an ?_); (try refine .inl ?_); apply k0; clear k0; simp only [zP, V])
   refine am ?_
   first
   | (refine ⟨_, _, ?_, ax [1, 2, 4, 5, 6, 7, 8, 9, 15], t, _, by omega, hfn2, rfl, rfl⟩
      omega)
   | (refine ⟨_, _, ?_, ax [1, 2, 4, 5, 6, 7, 8, 9, 15], t, (m.nextL (m.cls i)).getD t 0, by omega, hfn2, rfl, ?_⟩
      · omega
      · rw [← hgt]; rfl)
  (try simp only [zB, reduceCtorEq] at hc17)
  refine aV ?_
  apply k12; clear k12; refine kp [1, 2, 4, 5, 6, 7, 8, 9, 15, 21] ?_
  refine ai fun _ k31 => ?_
  refine ai fun _ k32 => ?_
  have hk0 : k = 0 := by omega
  subst hk0
  refine ak hP hN rfl ?_
  iterate 2 (refine aj rfl fun _ k0 => ?_; simp only [zO, zT, acs, reduceCtorEq, aa, V, ad, ag, af, ae, Mly.av, ah]; (repeat refine an ?_); (try refine .inl ?_); apply k0; clear k0; simp only [zP, V])
  refine am ?_
  apply k32; clear k32; refine kp [1, 2, 4, 5, 6, 7, 8, 9, 15, 21, 90] ?_
  refine cd (fun hc33 => ?_) (fun hc33 => ?_)
  ·(try simp only [zB, reduceCtorEq] at hc33)
   have hnew := A9 hsn hfn (by omega)
   refine ai fun _ k34 => ?_
   refine ak hP hN rfl ?_
   iterate 2 (refine aj rfl fun _ k0 => ?_; simp only [zO, zT, acs, reduceCtorEq, aa, V, ad, ag, af, ae, Mly.av, ah]; (repeat refine an ?_); (try refine .inl ?_); apply k0; clear k0; simp only [zP, V])
   refine am ?_
   apply k34; clear k34; refine kp [1, 2, 4, 5, 6, 7, 8, 9, 15, 21, 90] ?_
   refine ak hP hN rfl ?_
   iterate 3 (refine aj rfl fun _ k0 => ?_; simp only [zO, zT, acs, reduceCtorEq, aa, V, ad, ag, af, ae, Mly.av, ah]; (repeat refine an ?_); (try refine .inl ?_); apply k0; clear k0; simp only [zP, V])
   refine am ?_
   apply k31; clear k31; refine kp [1, 2, 4, 5, 6, 7, 8, 9, 15, 21, 90] ?_
   have hnr := jc (m := m) (cl := (m.cls i)) hsn
   refine ak hP hN rfl ?_
   iterate 5 (refine aj rfl fun _ k0 => ?_; simp only [zO, zT, acs, reduceCtorEq, aa, V, ad, ag, af, ae, Mly.av, ah]; (repeat refine an ?_); (try refine .inl ?_); apply k0; clear k0; simp only [zP, V])
   refine am ?_
   apply k10; clear k10; refine kp [1, 2, 4, 5, 6, 7, 8, 9, 15, 21, 90] ?_
   refine ak hP hN rfl ?_
   iterate 3 (refine aj rfl fun _ k0 => ?_; simp only [zO, zT, acs, reduceCtorEq, aa, V, ad, ag, af, ae, Mly.av, ah]; (repeat refine an ?_); (try refine .inl ?_); apply k0; clear k0; simp only [zP, V])
   refine am ?_
   first
   | (refine ⟨_, _, ?_, ax [1, 2, 4, 5, 6, 7], s + 1, v + 1, by omega, rfl, ?_⟩
      · omega
      · rw [cR (by omega), hnew.1, hnew.2]; rfl)
   | (refine ⟨_, _, ?_, ax [1, 2, 4, 5, 6, 7], s + 1, v + 1, by omega, rfl, ?_⟩
      · omega
      · rw [cR (by omega), hold.1, hold.2]; rfl)
  (try simp only [zB, reduceCtorEq] at hc33)
  have hold := Aj hfn (by omega)
  refine ay ?_
  apply k31; clear k31; refine kp [1, 2, 4, 5, 6, 7, 8, 9, 15, 21, 90] ?_
  have hnr := jc (m := m) (cl := (m.cls i)) hsn
  refine ak hP hN rfl ?_
  iterate 5 (refine aj rfl fun _ k0 => ?_; simp only [zO, zT, acs, reduceCtorEq, aa, V, ad, ag, af, ae, Mly.av, ah]; (repeat refine an ?_); (try refine .inl ?_); apply k0; clear k0; simp only [zP, V])
  refine am ?_
  apply k10; clear k10; refine kp [1, 2, 4, 5, 6, 7, 8, 9, 15, 21, 90] ?_
  refine ak hP hN rfl ?_
  iterate 3 (refine aj rfl fun _ k0 => ?_; simp only [zO, zT, acs, reduceCtorEq, aa, V, ad, ag, af, ae, Mly.av, ah]; (repeat refine an ?_); (try refine .inl ?_); apply k0; clear k0; simp only [zP, V])
  refine am ?_
  first
  | (refine ⟨_, _, ?_, ax [1, 2, 4, 5, 6, 7], s + 1, v + 1, by omega, rfl, ?_⟩
     · omega
     · rw [cR (by omega), hnew.1, hnew.2]; rfl)
  | (refine ⟨_, _, ?_, ax [1, 2, 4, 5, 6, 7], s + 1, v + 1, by omega, rfl, ?_⟩
     · omega
     · rw [cR (by omega), hold.1, hold.2]; rfl)
 (try simp only [zB, reduceCtorEq] at hc9)
 refine aV ?_
 apply k4; clear k4; refine kp [1, 2, 4, 5, 6, 7, 15] ?_
 refine ai fun _ k35 => ?_
 refine cq 1 rfl ?_; simp only [aH, bh, zS, aa, and_self, and_true, true_and, and_false, false_and, if_true, if_false, eq_self, reduceCtorEq, Nat.one_ne_zero, Nat.zero_ne_one]
 have hse : s = m.nx.length := by omega
 rw [hse, ← hnl, aI]
 refine ak hP hN rfl ?_
 iterate 2 (refine aj rfl fun _ k0 => ?_; simp only [zO, zT, acs, reduceCtorEq, aa, V, ad, ag, af, ae, Mly.av, ah]; (repeat refine an ?_); (try refine .inl ?_); apply k0; clear k0; simp only [zP, V])
 refine am ?_
 apply k35; clear k35; refine kp [1, 2, 4, 5, 6, 7, 15] ?_
 refine aF ?_
 refine ⟨nr, _, rfl, ?_⟩; simp only [zF, zP, aa, V, Mly.av, ah]
 exact VLE.of_eq rfl
theorem zW (m : Mly) (s : Nat) (hi : m.inp ≤ 64) (hs : s < m.nx.length) (ho : m.ot.length = m.nx.length) : bP Try.prog 62 [m.av, .one (.int .i64 (s : Int))] (.one (.int .i64 (iK m s))) := by
 refine aS Try.func62 rfl (by kernel_rfl) (Nat.le_of_ble_eq_true rfl) rfl fun C hP hN hB => ?_
 replace hN : C.N = 77 := hN
 simp only [bf, V]
 refine ai fun _ k1 => ?_
 refine ak hP hN rfl ?_
 iterate 2 (refine aj rfl fun _ k0 => ?_; simp only [zO, zT, acs, reduceCtorEq, aa, V, ad, ag, af, ae, Mly.av]; (repeat refine an ?_); (try refine .inl ?_); apply k0; clear k0; simp only [zP, V])
 refine am ?_
 apply k1; clear k1; refine kp [0, 1, 2, 4] ?_
 refine ai fun _ k2 => ?_
 refine ai fun _ k3 => ?_
 refine bn hP hN Try.mixed rfl ?_
 iterate 10 (refine aj rfl fun _ k0 => ?_; simp only [zO, zT, acs, reduceCtorEq, aa, V, ad, ag, af, ae, Mly.av]; (repeat refine an ?_); (try refine .inl ?_); apply k0; clear k0; simp only [zP, V])
 refine' aO (want := false) 9 rfl (m := 15) (by simp only [zP, aa, V]; exact rfl) (by kernel_rfl) rfl rfl rfl rfl rfl (fun hg4 => ?a4) ?b4 ?c4
 case a4 =>
  have hq4 := hg4; (try simp only [zB, reduceCtorEq] at hg4); simp only [zE]
  iterate 9 (refine bg rfl fun _ k0 => ?_; simp only [zO, zT, acs, reduceCtorEq, aa, V, ad, ag, af, ae, Mly.av]; (repeat refine an ?_); (try refine .inl ?_); apply k0; clear k0; simp only [zP, V])
  (refine aj rfl fun _ k0 => ?_; simp only [zO, zT, acs, reduceCtorEq, aa, V, ad, ag, af, ae, Mly.av]; (repeat refine an ?_); (try refine .inl ?_); apply k0; clear k0; simp only [zP, V])
  refine am ?_
  refine ⟨by simp only [zP, aa, V]; exact rfl, rfl, ?_, rfl⟩; (repeat refine aP rfl ?_); exact bo (by exact rfl) hq4
 case b4 => exact cr
 simp only [bb, aT]
 refine am ?_
 refine ⟨by kernel_rfl, ?_⟩
 apply k3; clear k3; refine kp [0, 1, 2, 4, 25] ?_
 refine cd (fun hc5 => ?_) (fun hc5 => ?_)
 ·(try simp only [zB, reduceCtorEq] at hc5)
  refine ai fun _ k6 => ?_
  refine ak hP hN rfl ?_
  (refine aj rfl fun _ k0 => ?_; simp only [zO, zT, acs, reduceCtorEq, aa, V, ad, ag, af, ae, Mly.av]; (repeat refine an ?_); (try refine .inl ?_); apply k0; clear k0; simp only [zP, V])
  refine am ?_
  apply k6; clear k6; refine kp [0, 1, 2, 4, 25] ?_
  refine aF ?_
  refine ⟨nr, _, rfl, ?_⟩; simp only [zF, zP, aa, V, Mly.av]
  refine VLE.of_eq ?_
  refine congrArg (fun n => AV.one (AC.int IntKind.i64 n)) ?_
  symm
  first
  | exact cI hc5
  | exact cJ hc5.1 hc5.2 (j := j) (by omega) (by unfold bQ; omega)
  | exact mb hc5.1 hc5.2 fun a ha => hcells a (by omega)
 (try simp only [zB, reduceCtorEq] at hc5)
 refine ay ?_
 apply k2; clear k2; refine kp [0, 1, 2, 4, 25] ?_
 refine ai fun _ k7 => ?_
 refine ai fun _ k8 => ?_
 refine ak hP hN rfl ?_
 (refine aj rfl fun _ k0 => ?_; simp only [zO, zT, acs, reduceCtorEq, aa, V, ad, ag, af, ae, Mly.av]; (repeat refine an ?_); (try refine .inl ?_); apply k0; clear k0; simp only [zP, V])
 refine am ?_
 apply k8; clear k8; refine kp [0, 1, 2, 4, 5, 25] ?_
 refine aA ?_
 refine aY (fun n9 s9 => ∃ (j : Nat), (∀ a, a < j → ¬ bQ m s a) ∧ (j ≤ m.inp.toNat) ∧ n9 = m.inp.toNat - j ∧ s9 = { env := [(1, .one (.int .i64 (s : Int))), (2, .one (.ptr 0 0 0 0)), (5, .one (.int .i64 (j : Int)))], L := [.vars 24 [.int .i64 m.inp, .int .i64 m.st, .list (.list (.int .i64)) m.nx, .list (.list (.int .i64)) m.ot]] }) ?_ ?_
 ·exact ⟨_, _, ax [1, 2, 5], 0, fun i hi => by omega, Nat.zero_le _, rfl, rfl⟩
 rintro n9 s9 ⟨j, hcells, hj, rfl, rfl⟩
 refine ai fun _ k10 => ?_
 refine ai fun _ k11 => ?_
 refine ak hP hN rfl ?_
 iterate 4 (refine aj rfl fun _ k0 => ?_; simp only [zO, zT, acs, reduceCtorEq, aa, V, ad, ag, af, ae, Mly.av]; (repeat refine an ?_); (try refine .inl ?_); apply k0; clear k0; simp only [zP, V])
 refine am ?_
 apply k11; clear k11; refine kp [1, 2, 5, 29] ?_
 refine cd (fun hc12 => ?_) (fun hc12 => ?_)
 ·(try simp only [zB, reduceCtorEq] at hc12)
  refine ay ?_
  apply k10; clear k10; refine kp [1, 2, 5, 29] ?_
  refine ai fun _ k13 => ?_
  refine aA ?_
  refine ai fun _ k14 => ?_
  refine bn hP hN Try.mixed rfl ?_
  iterate 10 (refine aj rfl fun _ k0 => ?_; simp only [zO, zT, acs, reduceCtorEq, aa, V, ad, ag, af, ae, Mly.av]; (repeat refine an ?_); (try refine .inl ?_); apply k0; clear k0; simp only [zP, V])
  refine' aO (want := false) 12 rfl (m := 41) (by simp only [zP, aa, V]; exact rfl) (by kernel_rfl) rfl rfl rfl rfl rfl (fun hg15 => ?a15) ?b15 ?c15
  case a15 =>
   have hq15 := hg15; (try simp only [zB, reduceCtorEq] at hg15); simp only [zE]
   iterate 12 (refine bg rfl fun _ k0 => ?_; simp only [zO, zT, acs, reduceCtorEq, aa, V, ad, ag, af, ae, Mly.av]; (repeat refine an ?_); (try refine .inl ?_); apply k0; clear k0; simp only [zP, V])
   (refine aj rfl fun _ k0 => ?_; simp only [zO, zT, acs, reduceCtorEq, aa, V, ad, ag, af, ae, Mly.av]; (repeat refine an ?_); (try refine .inl ?_); apply k0; clear k0; simp only [zP, V])
   refine am ?_
   refine ⟨by simp only [zP, aa, V]; exact rfl, rfl, ?_, rfl⟩; (repeat refine aP rfl ?_); exact bo (by exact rfl) hq15
  case b15 => exact cr
  simp only [bb, aT]
  (refine aj rfl fun _ k0 => ?_; simp only [zO, zT, acs, reduceCtorEq, aa, V, ad, ag, af, ae, Mly.av]; (repeat refine an ?_); (try refine .inl ?_); apply k0; clear k0; simp only [zP, V])
  refine' aO (want := false) 9 rfl (m := 55) (by simp only [zP, aa, V]; exact rfl) (by kernel_rfl) rfl rfl rfl rfl rfl (fun hg16 => ?a16) ?b16 ?c16
  case a16 =>
   have hq16 := hg16; (try simp only [zB, reduceCtorEq] at hg16); simp only [zE]
   iterate 9 (refine bg rfl fun _ k0 => ?_; simp only [zO, zT, acs, reduceCtorEq, aa, V, ad, ag, af, ae, Mly.av]; (repeat refine an ?_); (try refine .inl ?_); apply k0; clear k0; simp only [zP, V])
   (refine aj rfl fun _ k0 => ?_; simp only [zO, zT, acs, reduceCtorEq, aa, V, ad, ag, af, ae, Mly.av]; (repeat refine an ?_); (try refine .inl ?_); apply k0; clear k0; simp only [zP, V])
   refine am ?_
   refine ⟨by simp only [zP, aa, V]; exact rfl, rfl, ?_, rfl⟩; (repeat refine aP rfl ?_); exact bo (by exact rfl) hq16
  case b16 => exact cr
  simp only [bb, aT]
  (refine aj rfl fun _ k0 => ?_; simp only [zO, zT, acs, reduceCtorEq, aa, V, ad, ag, af, ae, Mly.av]; (repeat refine an ?_); (try refine .inl ?_); apply k0; clear k0; simp only [zP, V])
  refine' aO (want := false) 9 rfl (m := 66) (by simp only [zP, aa, V]; exact rfl) (by kernel_rfl) rfl rfl rfl rfl rfl (fun hg17 => ?a17) ?b17 ?c17
  case a17 =>
   have hq17 := hg17; (try simp only [zB, reduceCtorEq] at hg17); simp only [zE]
   iterate 9 (refine bg rfl fun _ k0 => ?_; simp only [zO, zT, acs, reduceCtorEq, aa, V, ad, ag, af, ae, Mly.av]; (repeat refine an ?_); (try refine .inl ?_); apply k0; clear k0; simp only [zP, V])
   (refine aj rfl fun _ k0 => ?_; simp only [zO, zT, acs, reduceCtorEq, aa, V, ad, ag, af, ae, Mly.av]; (repeat refine an ?_); (try refine .inl ?_); apply k0; clear k0; simp only [zP, V])
   refine am ?_
   refine ⟨by simp only [zP, aa, V]; exact rfl, rfl, ?_, rfl⟩; (repeat refine aP rfl ?_); exact bo (by exact rfl) hq17
  case b17 => exact cr
  simp only [bb, aT]
  refine am ?_
  refine ⟨by kernel_rfl, ?_⟩
  apply k14; clear k14; refine kp [1, 2, 5, 29, 76] ?_
  refine cd (fun hc18 => ?_) (fun hc18 => ?_)
  ·(try simp only [zB, reduceCtorEq] at hc18)
   refine ai fun _ k19 => ?_
   refine ak hP hN rfl ?_
   (refine aj rfl fun _ k0 => ?_; simp only [zO, zT, acs, reduceCtorEq, aa, V, ad, ag, af, ae, Mly.av]; (repeat refine an ?_); (try refine .inl ?_); apply k0; clear k0; simp only [zP, V])
   refine am ?_
   apply k19; clear k19; refine kp [1, 2, 4, 5, 29, 76] ?_
   refine aF ?_
   refine ⟨nr, _, rfl, ?_⟩; simp only [zF, zP, aa, V, Mly.av]
   refine VLE.of_eq ?_
   refine congrArg (fun n => AV.one (AC.int IntKind.i64 n)) ?_
   symm
   first
   | exact cI hc5
   | exact cJ hc5.1 hc5.2 (j := j) (by omega) (by unfold bQ; omega)
   | exact mb hc5.1 hc5.2 fun a ha => hcells a (by omega)
  (try simp only [zB, reduceCtorEq] at hc18)
  refine ay ?_
  apply k13; clear k13; refine kp [1, 2, 5, 29, 76] ?_
  refine ak hP hN rfl ?_
  iterate 3 (refine aj rfl fun _ k0 => ?_; simp only [zO, zT, acs, reduceCtorEq, aa, V, ad, ag, af, ae, Mly.av]; (repeat refine an ?_); (try refine .inl ?_); apply k0; clear k0; simp only [zP, V])
  refine am ?_
  refine ⟨_, _, ?_, ax [1, 2, 5], j + 1, fun a ha => ?_, ?_, rfl, rfl⟩
  · omega
  · by_cases e : a = j
    · rw [e]; unfold bQ; omega
    · exact hcells a (by omega)
  · omega
 (try simp only [zB, reduceCtorEq] at hc12)
 refine aV ?_
 apply k7; clear k7; refine kp [1, 2, 5, 29] ?_
 refine ai fun _ k20 => ?_
 refine ak hP hN rfl ?_
 (refine aj rfl fun _ k0 => ?_; simp only [zO, zT, acs, reduceCtorEq, aa, V, ad, ag, af, ae, Mly.av]; (repeat refine an ?_); (try refine .inl ?_); apply k0; clear k0; simp only [zP, V])
 refine am ?_
 apply k20; clear k20; refine kp [1, 2, 4, 5, 29] ?_
 refine aF ?_
 refine ⟨nr, _, rfl, ?_⟩; simp only [zF, zP, aa, V, Mly.av]
 refine VLE.of_eq ?_
 refine congrArg (fun n => AV.one (AC.int IntKind.i64 n)) ?_
 symm
 first
 | exact cI hc5
 | exact cJ hc5.1 hc5.2 (j := j) (by omega) (by unfold bQ; omega)
 | exact mb hc5.1 hc5.2 fun a ha => hcells a (by omega)
theorem qA (m : Mly) : bP Try.prog 43 [m.av] (.one (.int .i64 (aR m))) := by
 refine aS Try.func43 rfl (by kernel_rfl) (Nat.le_of_ble_eq_true rfl) rfl fun C hP hN hB => ?_
 replace hN : C.N = 52 := hN
 simp only [bf, V]
 refine ai fun _ k1 => ?_
 refine ak hP hN rfl ?_
 iterate 2 (refine aj rfl fun _ k0 => ?_; simp only [zO, zT, acs, reduceCtorEq, aa, V, ad, ag, af, ae, Mly.av]; (repeat refine an ?_); (try refine .inl ?_); apply k0; clear k0; simp only [zP, V])
 refine am ?_
 apply k1; clear k1; refine kp [0, 1, 2] ?_
 refine ai fun _ k2 => ?_
 refine ai fun _ k3 => ?_
 refine ak hP hN rfl ?_
 iterate 4 (refine aj rfl fun _ k0 => ?_; simp only [zO, zT, acs, reduceCtorEq, aa, V, ad, ag, af, ae, Mly.av]; (repeat refine an ?_); (try refine .inl ?_); apply k0; clear k0; simp only [zP, V])
 refine' aO (want := false) 3 rfl (m := 8) (by simp only [zP, aa, V]; exact rfl) (by kernel_rfl) rfl rfl rfl rfl rfl (fun hg4 => ?a4) ?b4 ?c4
 case a4 =>
  have hq4 := hg4; (try simp only [zB, reduceCtorEq] at hg4); simp only [zE]
  iterate 3 (refine bg rfl fun _ k0 => ?_; simp only [zO, zT, acs, reduceCtorEq, aa, V, ad, ag, af, ae, Mly.av]; (repeat refine an ?_); (try refine .inl ?_); apply k0; clear k0; simp only [zP, V])
  (refine aj rfl fun _ k0 => ?_; simp only [zO, zT, acs, reduceCtorEq, aa, V, ad, ag, af, ae, Mly.av]; (repeat refine an ?_); (try refine .inl ?_); apply k0; clear k0; simp only [zP, V])
  refine am ?_
  refine ⟨by simp only [zP, aa, V]; exact rfl, rfl, ?_, rfl⟩; (repeat refine aP rfl ?_); exact bo (by exact rfl) hq4
 case b4 => exact cr
 simp only [bb, aT]
 refine am ?_
 apply k3; clear k3; refine kp [0, 1, 2, 12] ?_
 refine cd (fun hc5 => ?_) (fun hc5 => ?_)
 ·(try simp only [zB, reduceCtorEq] at hc5)
  refine ai fun _ k6 => ?_
  refine ak hP hN rfl ?_
  (refine aj rfl fun _ k0 => ?_; simp only [zO, zT, acs, reduceCtorEq, aa, V, ad, ag, af, ae, Mly.av]; (repeat refine an ?_); (try refine .inl ?_); apply k0; clear k0; simp only [zP, V])
  refine am ?_
  apply k6; clear k6; refine kp [0, 1, 2, 12] ?_
  refine aF ?_
  refine ⟨nr, _, rfl, ?_⟩; simp only [zF, zP, aa, V, Mly.av]
  refine VLE.of_eq ?_
  refine congrArg (fun n => AV.one (AC.int IntKind.i64 n)) ?_
  symm
  unfold aR
  first
  | (rw [if_pos (by omega)]; done)
  | (rw [if_neg (by omega), if_pos (by omega)]; done)
  | (rw [if_neg (by omega), if_neg (by omega), if_pos (by omega)]; done)
  | (rw [if_neg (by omega), if_neg (by omega), if_neg (by omega), if_pos (by omega)]; done)
  | (rw [if_neg (by omega), if_neg (by omega), if_neg (by omega), if_neg (by omega), if_pos (by omega)]; done)
  | (rw [if_neg (by omega), if_neg (by omega), if_neg (by omega), if_neg (by omega), if_neg (by omega)]
     first
     | exact cf hrows (by omega) (by assumption)
     | exact cp fun i hi => hrows i (by omega))
 (try simp only [zB, reduceCtorEq] at hc5)
 refine ay ?_
 apply k2; clear k2; refine kp [0, 1, 2, 12] ?_
 refine ai fun _ k7 => ?_
 refine ai fun _ k8 => ?_
 refine ak hP hN rfl ?_
 iterate 4 (refine aj rfl fun _ k0 => ?_; simp only [zO, zT, acs, reduceCtorEq, aa, V, ad, ag, af, ae, Mly.av]; (repeat refine an ?_); (try refine .inl ?_); apply k0; clear k0; simp only [zP, V])
 refine am ?_
 apply k8; clear k8; refine kp [0, 1, 2, 12, 16] ?_
 refine cd (fun hc9 => ?_) (fun hc9 => ?_)
 ·(try simp only [zB, reduceCtorEq] at hc9)
  refine ai fun _ k10 => ?_
  refine ak hP hN rfl ?_
  (refine aj rfl fun _ k0 => ?_; simp only [zO, zT, acs, reduceCtorEq, aa, V, ad, ag, af, ae, Mly.av]; (repeat refine an ?_); (try refine .inl ?_); apply k0; clear k0; simp only [zP, V])
  refine am ?_
  apply k10; clear k10; refine kp [0, 1, 2, 12, 16] ?_
  refine aF ?_
  refine ⟨nr, _, rfl, ?_⟩; simp only [zF, zP, aa, V, Mly.av]
  refine VLE.of_eq ?_
  refine congrArg (fun n => AV.one (AC.int IntKind.i64 n)) ?_
  symm
  unfold aR
  first
  | (rw [if_pos (by omega)]; done)
  | (rw [if_neg (by omega), if_pos (by omega)]; done)
  | (rw [if_neg (by omega), if_neg (by omega), if_pos (by omega)]; done)
  | (rw [if_neg (by omega), if_neg (by omega), if_neg (by omega), if_pos (by omega)]; done)
  | (rw [if_neg (by omega), if_neg (by omega), if_neg (by omega), if_neg (by omega), if_pos (by omega)]; done)
  | (rw [if_neg (by omega), if_neg (by omega), if_neg (by omega), if_neg (by omega), if_neg (by omega)]
     first
     | exact cf hrows (by omega) (by assumption)
     | exact cp fun i hi => hrows i (by omega))
 (try simp only [zB, reduceCtorEq] at hc9)
 refine ay ?_
 apply k7; clear k7; refine kp [0, 1, 2, 12, 16] ?_
 refine ai fun _ k11 => ?_
 refine ai fun _ k12 => ?_
 refine ak hP hN rfl ?_
 iterate 4 (refine aj rfl fun _ k0 => ?_; simp only [zO, zT, acs, reduceCtorEq, aa, V, ad, ag, af, ae, Mly.av]; (repeat refine an ?_); (try refine .inl ?_); apply k0; clear k0; simp only [zP, V])
 refine am ?_
 apply k12; clear k12; refine kp [0, 1, 2, 12, 16, 20] ?_
 refine cd (fun hc13 => ?_) (fun hc13 => ?_)
 ·(try simp only [zB, reduceCtorEq] at hc13)
  refine ai fun _ k14 => ?_
  refine ak hP hN rfl ?_
  (refine aj rfl fun _ k0 => ?_; simp only [zO, zT, acs, reduceCtorEq, aa, V, ad, ag, af, ae, Mly.av]; (repeat refine an ?_); (try refine .inl ?_); apply k0; clear k0; simp only [zP, V])
  refine am ?_
  apply k14; clear k14; refine kp [0, 1, 2, 12, 16, 20] ?_
  refine aF ?_
  refine ⟨nr, _, rfl, ?_⟩; simp only [zF, zP, aa, V, Mly.av]
  refine VLE.of_eq ?_
  refine congrArg (fun n => AV.one (AC.int IntKind.i64 n)) ?_
  symm
  unfold aR
  first
  | (rw [if_pos (by omega)]; done)
  | (rw [if_neg (by omega), if_pos (by omega)]; done)
  | (rw [if_neg (by omega), if_neg (by omega), if_pos (by omega)]; done)
  | (rw [if_neg (by omega), if_neg (by omega), if_neg (by omega), if_pos (by omega)]; done)
  | (rw [if_neg (by omega), if_neg (by omega), if_neg (by omega), if_neg (by omega), if_pos (by omega)]; done)
  | (rw [if_neg (by omega), if_neg (by omega), if_neg (by omega), if_neg (by omega), if_neg (by omega)]
     first
     | exact cf hrows (by omega) (by assumption)
     | exact cp fun i hi => hrows i (by omega))
 (try simp only [zB, reduceCtorEq] at hc13)
 refine ay ?_
 apply k11; clear k11; refine kp [0, 1, 2, 12, 16, 20] ?_
 refine ai fun _ k15 => ?_
 refine ai fun _ k16 => ?_
 refine ak hP hN rfl ?_
 iterate 4 (refine aj rfl fun _ k0 => ?_; simp only [zO, zT, acs, reduceCtorEq, aa, V, ad, ag, af, ae, Mly.av]; (repeat refine an ?_); (try refine .inl ?_); apply k0; clear k0; simp only [zP, V])
 refine' aO (want := false) 6 rfl (m := 24) (by simp only [zP, aa, V]; exact rfl) (by kernel_rfl) rfl rfl rfl rfl rfl (fun hg17 => ?a17) ?b17 ?c17
 case a17 =>
  have hq17 := hg17; (try simp only [zB, reduceCtorEq] at hg17); simp only [zE]
  iterate 6 (refine bg rfl fun _ k0 => ?_; simp only [zO, zT, acs, reduceCtorEq, aa, V, ad, ag, af, ae, Mly.av]; (repeat refine an ?_); (try refine .inl ?_); apply k0; clear k0; simp only [zP, V])
  (refine aj rfl fun _ k0 => ?_; simp only [zO, zT, acs, reduceCtorEq, aa, V, ad, ag, af, ae, Mly.av]; (repeat refine an ?_); (try refine .inl ?_); apply k0; clear k0; simp only [zP, V])
  refine am ?_
  refine ⟨by simp only [zP, aa, V]; exact rfl, rfl, ?_, rfl⟩; (repeat refine aP rfl ?_); exact bo (by exact rfl) hq17
 case b17 => exact cr
 simp only [bb, aT]
 refine am ?_
 apply k16; clear k16; refine kp [0, 1, 2, 12, 16, 20, 31] ?_
 refine cd (fun hc18 => ?_) (fun hc18 => ?_)
 ·(try simp only [zB, reduceCtorEq] at hc18)
  refine ai fun _ k19 => ?_
  refine ak hP hN rfl ?_
  (refine aj rfl fun _ k0 => ?_; simp only [zO, zT, acs, reduceCtorEq, aa, V, ad, ag, af, ae, Mly.av]; (repeat refine an ?_); (try refine .inl ?_); apply k0; clear k0; simp only [zP, V])
  refine am ?_
  apply k19; clear k19; refine kp [0, 1, 2, 12, 16, 20, 31] ?_
  refine aF ?_
  refine ⟨nr, _, rfl, ?_⟩; simp only [zF, zP, aa, V, Mly.av]
  refine VLE.of_eq ?_
  refine congrArg (fun n => AV.one (AC.int IntKind.i64 n)) ?_
  symm
  unfold aR
  first
  | (rw [if_pos (by omega)]; done)
  | (rw [if_neg (by omega), if_pos (by omega)]; done)
  | (rw [if_neg (by omega), if_neg (by omega), if_pos (by omega)]; done)
  | (rw [if_neg (by omega), if_neg (by omega), if_neg (by omega), if_pos (by omega)]; done)
  | (rw [if_neg (by omega), if_neg (by omega), if_neg (by omega), if_neg (by omega), if_pos (by omega)]; done)
  | (rw [if_neg (by omega), if_neg (by omega), if_neg (by omega), if_neg (by omega), if_neg (by omega)]
     first
     | exact cf hrows (by omega) (by assumption)
     | exact cp fun i hi => hrows i (by omega))
 (try simp only [zB, reduceCtorEq] at hc18)
 refine ay ?_
 apply k15; clear k15; refine kp [0, 1, 2, 12, 16, 20, 31] ?_
 refine ai fun _ k20 => ?_
 refine ai fun _ k21 => ?_
 refine ak hP hN rfl ?_
 iterate 7 (refine aj rfl fun _ k0 => ?_; simp only [zO, zT, acs, reduceCtorEq, aa, V, ad, ag, af, ae, Mly.av]; (repeat refine an ?_); (try refine .inl ?_); apply k0; clear k0; simp only [zP, V])
 refine am ?_
 apply k21; clear k21; refine kp [0, 1, 2, 12, 16, 20, 31, 38] ?_
 refine cd (fun hc22 => ?_) (fun hc22 => ?_)
 ·(try simp only [zB, reduceCtorEq] at hc22)
  refine ai fun _ k23 => ?_
  refine ak hP hN rfl ?_
  (refine aj rfl fun _ k0 => ?_; simp only [zO, zT, acs, reduceCtorEq, aa, V, ad, ag, af, ae, Mly.av]; (repeat refine an ?_); (try refine .inl ?_); apply k0; clear k0; simp only [zP, V])
  refine am ?_
  apply k23; clear k23; refine kp [0, 1, 2, 12, 16, 20, 31, 38] ?_
  refine aF ?_
  refine ⟨nr, _, rfl, ?_⟩; simp only [zF, zP, aa, V, Mly.av]
  refine VLE.of_eq ?_
  refine congrArg (fun n => AV.one (AC.int IntKind.i64 n)) ?_
  symm
  unfold aR
  first
  | (rw [if_pos (by omega)]; done)
  | (rw [if_neg (by omega), if_pos (by omega)]; done)
  | (rw [if_neg (by omega), if_neg (by omega), if_pos (by omega)]; done)
  | (rw [if_neg (by omega), if_neg (by omega), if_neg (by omega), if_pos (by omega)]; done)
  | (rw [if_neg (by omega), if_neg (by omega), if_neg (by omega), if_neg (by omega), if_pos (by omega)]; done)
  | (rw [if_neg (by omega), if_neg (by omega), if_neg (by omega), if_neg (by omega), if_neg (by omega)]
     first
     | exact cf hrows (by omega) (by assumption)
     | exact cp fun i hi => hrows i (by omega))
 (try simp only [zB, reduceCtorEq] at hc22)
 refine ay ?_
 apply k20; clear k20; refine kp [0, 1, 2, 12, 16, 20, 31, 38] ?_
 refine ai fun _ k24 => ?_
 refine ai fun _ k25 => ?_
 refine ak hP hN rfl ?_
 (refine aj rfl fun _ k0 => ?_; simp only [zO, zT, acs, reduceCtorEq, aa, V, ad, ag, af, ae, Mly.av]; (repeat refine an ?_); (try refine .inl ?_); apply k0; clear k0; simp only [zP, V])
 refine am ?_
 apply k25; clear k25; refine kp [0, 1, 2, 3, 12, 16, 20, 31, 38] ?_
 refine aA ?_
 refine aY (fun n26 s26 => ∃ (k : Nat), (k ≤ m.nx.length) ∧ (∀ i, i < k → iK m i = 0) ∧ n26 = m.nx.length - k ∧ s26 = { env := [(1, .one (.ptr 0 0 0 0)), (3, .one (.int .i64 (k : Int)))], L := [.vars 24 [.int .i64 m.inp, .int .i64 m.st, .list (.list (.int .i64)) m.nx, .list (.list (.int .i64)) m.ot]] }) ?_ ?_
 ·exact ⟨_, _, ax [1, 3], 0, Nat.zero_le _, fun i hi => by omega, rfl, rfl⟩
 rintro n26 s26 ⟨k, hk, hrows, rfl, rfl⟩
 refine ai fun _ k27 => ?_
 refine ai fun _ k28 => ?_
 refine ak hP hN rfl ?_
 iterate 5 (refine aj rfl fun _ k0 => ?_; simp only [zO, zT, acs, reduceCtorEq, aa, V, ad, ag, af, ae, Mly.av]; (repeat refine an ?_); (try refine .inl ?_); apply k0; clear k0; simp only [zP, V])
 refine am ?_
 apply k28; clear k28; refine kp [1, 3, 43] ?_
 refine cd (fun hc29 => ?_) (fun hc29 => ?_)
 ·(try simp only [zB, reduceCtorEq] at hc29)
  refine ay ?_
  apply k27; clear k27; refine kp [1, 3, 43] ?_
  refine ai fun _ k30 => ?_
  refine aA ?_
  refine ai fun _ k31 => ?_
  refine ak hP hN rfl ?_
  iterate 2 (refine aj rfl fun _ k0 => ?_; simp only [zO, zT, acs, reduceCtorEq, aa, V, ad, ag, af, ae, Mly.av]; (repeat refine an ?_); (try refine .inl ?_); apply k0; clear k0; simp only [zP, V])
  refine aj rfl fun _ k0 => ?_
  refine aK (h := aE (zW m k (by omega) (by omega) (by omega))) rfl rfl (by first | exact rfl | (simp only [ev, zP, aa, V]; exact rfl)) (by simp only [zV, acs, reduceCtorEq, aa, V, ad, ag, af, ae, Mly.av]) ?_
  apply k0; clear k0; simp only [zP, V]
  (refine aj rfl fun _ k0 => ?_; simp only [zO, zT, acs, reduceCtorEq, aa, V, ad, ag, af, ae, Mly.av]; (repeat refine an ?_); (try refine .inl ?_); apply k0; clear k0; simp only [zP, V])
  refine am ?_
  apply k31; clear k31; refine kp [1, 3, 4, 43] ?_
  refine ai fun _ k32 => ?_
  refine ak hP hN rfl ?_
  iterate 2 (refine aj rfl fun _ k0 => ?_; simp only [zO, zT, acs, reduceCtorEq, aa, V, ad, ag, af, ae, Mly.av]; (repeat refine an ?_); (try refine .inl ?_); apply k0; clear k0; simp only [zP, V])
  refine am ?_
  apply k32; clear k32; refine kp [1, 3, 4, 43, 50] ?_
  refine cd (fun hc33 => ?_) (fun hc33 => ?_)
  ·(try simp only [zB, reduceCtorEq] at hc33)
   refine ai fun _ k34 => ?_
   refine ak hP hN rfl ?_
   iterate 2 (refine aj rfl fun _ k0 => ?_; simp only [zO, zT, acs, reduceCtorEq, aa, V, ad, ag, af, ae, Mly.av]; (repeat refine an ?_); (try refine .inl ?_); apply k0; clear k0; simp only [zP, V])
   refine am ?_
   apply k34; clear k34; refine kp [1, 2, 3, 4, 43, 50] ?_
   refine aF ?_
   refine ⟨nr, _, rfl, ?_⟩; simp only [zF, zP, aa, V, Mly.av]
   refine VLE.of_eq ?_
   refine congrArg (fun n => AV.one (AC.int IntKind.i64 n)) ?_
   symm
   unfold aR
   first
   | (rw [if_pos (by omega)]; done)
   | (rw [if_neg (by omega), if_pos (by omega)]; done)
   | (rw [if_neg (by omega), if_neg (by omega), if_pos (by omega)]; done)
   | (rw [if_neg (by omega), if_neg (by omega), if_neg (by omega), if_pos (by omega)]; done)
   | (rw [if_neg (by omega), if_neg (by omega), if_neg (by omega), if_neg (by omega), if_pos (by omega)]; done)
   | (rw [if_neg (by omega), if_neg (by omega), if_neg (by omega), if_neg (by omega), if_neg (by omega)]
      first
      | exact cf hrows (by omega) (by assumption)
      | exact cp fun i hi => hrows i (by omega))
  (try simp only [zB, reduceCtorEq] at hc33)
  refine ay ?_
  apply k30; clear k30; refine kp [1, 3, 4, 43, 50] ?_
  refine ak hP hN rfl ?_
  iterate 3 (refine aj rfl fun _ k0 => ?_; simp only [zO, zT, acs, reduceCtorEq, aa, V, ad, ag, af, ae, Mly.av]; (repeat refine an ?_); (try refine .inl ?_); apply k0; clear k0; simp only [zP, V])
  refine am ?_
  refine ⟨_, _, ?_, ax [1, 3], k + 1, by omega, fun i hi => ?_, rfl, rfl⟩
  · omega
  · by_cases e : i = k
    · rw [e]; first | assumption | omega
    · exact hrows i (by omega)
 (try simp only [zB, reduceCtorEq] at hc29)
 refine aV ?_
 apply k24; clear k24; refine kp [1, 3, 43] ?_
 refine ai fun _ k35 => ?_
 refine ak hP hN rfl ?_
 (refine aj rfl fun _ k0 => ?_; simp only [zO, zT, acs, reduceCtorEq, aa, V, ad, ag, af, ae, Mly.av]; (repeat refine an ?_); (try refine .inl ?_); apply k0; clear k0; simp only [zP, V])
 refine am ?_
 apply k35; clear k35; refine kp [1, 2, 3, 43] ?_
 refine aF ?_
 refine ⟨nr, _, rfl, ?_⟩; simp only [zF, zP, aa, V, Mly.av]
 refine VLE.of_eq ?_
 refine congrArg (fun n => AV.one (AC.int IntKind.i64 n)) ?_
 symm
 unfold aR
 first
 | (rw [if_pos (by omega)]; done)
 | (rw [if_neg (by omega), if_pos (by omega)]; done)
 | (rw [if_neg (by omega), if_neg (by omega), if_pos (by omega)]; done)
 | (rw [if_neg (by omega), if_neg (by omega), if_neg (by omega), if_pos (by omega)]; done)
 | (rw [if_neg (by omega), if_neg (by omega), if_neg (by omega), if_neg (by omega), if_pos (by omega)]; done)
 | (rw [if_neg (by omega), if_neg (by omega), if_neg (by omega), if_neg (by omega), if_neg (by omega)]
    first
    | exact cf hrows (by omega) (by assumption)
    | exact cp fun i hi => hrows i (by omega))
theorem xg (m : Mly) : bP Try.prog 87 [m.av, .one (.int .i64 (m.nx.length : Int))] (.tup [.one (.list (.int .i64) (if aR m = 0 then m.cls m.nx.length else [])), .one (.int .i64 (aR m))]) := by
 refine aS Try.func87 rfl (by kernel_rfl) (Nat.le_of_ble_eq_true rfl) rfl fun C hP hN hB => ?_
 replace hN : C.N = 34 := hN
 simp only [bf, V]
 refine ai fun _ k1 => ?_
 refine ak hP hN rfl ?_
 iterate 3 (refine aj rfl fun _ k0 => ?_; simp only [zO, zT, acs, reduceCtorEq, aa, V, ad, ag, af, ae, Mly.av, ah]; (repeat refine an ?_); (try refine .inl ?_); apply k0; clear k0; simp only [zP, V])
 refine am ?_
 apply k1; clear k1; refine kp [0, 1, 2, 4, 5] ?_
 refine ai fun _ k2 => ?_
 refine ai fun _ k3 => ?_
 refine ak hP hN rfl ?_
 (refine aj rfl fun _ k0 => ?_; simp only [zO, zT, acs, reduceCtorEq, aa, V, ad, ag, af, ae, Mly.av, ah]; (repeat refine an ?_); (try refine .inl ?_); apply k0; clear k0; simp only [zP, V])
 refine aj rfl fun _ k0 => ?_
 refine aK (h := aE (qA m)) rfl rfl (by first | exact rfl | (simp only [ev, zP, aa, V]; exact rfl)) (by simp only [zV, acs, reduceCtorEq, aa, V, ad, ag, af, ae, Mly.av, ah]) ?_
 apply k0; clear k0; simp only [zP, V]
 (refine aj rfl fun _ k0 => ?_; simp only [zO, zT, acs, reduceCtorEq, aa, V, ad, ag, af, ae, Mly.av, ah]; (repeat refine an ?_); (try refine .inl ?_); apply k0; clear k0; simp only [zP, V])
 refine am ?_
 apply k3; clear k3; refine kp [0, 1, 2, 4, 5, 6] ?_
 refine ai fun _ k4 => ?_
 refine ak hP hN rfl ?_
 iterate 2 (refine aj rfl fun _ k0 => ?_; simp only [zO, zT, acs, reduceCtorEq, aa, V, ad, ag, af, ae, Mly.av, ah]; (repeat refine an ?_); (try refine .inl ?_); apply k0; clear k0; simp only [zP, V])
 refine am ?_
 apply k4; clear k4; refine kp [0, 1, 2, 4, 5, 6, 12] ?_
 refine cd (fun hc5 => ?_) (fun hc5 => ?_)
 ·(try simp only [zB, reduceCtorEq] at hc5)
  have hv : ¬ aR m = 0 := hc5
  refine ai fun _ k6 => ?_
  refine ak hP hN rfl ?_
  iterate 3 (refine aj rfl fun _ k0 => ?_; simp only [zO, zT, acs, reduceCtorEq, aa, V, ad, ag, af, ae, Mly.av, ah]; (repeat refine an ?_); (try refine .inl ?_); apply k0; clear k0; simp only [zP, V])
  refine am ?_
  apply k6; clear k6; refine kp [0, 1, 2, 4, 5, 6, 12] ?_
  refine aF ?_
  refine ⟨nr, _, rfl, ?_⟩; simp only [zF, zP, aa, V, Mly.av, ah]
  first
  | (rw [if_neg hv]; exact cg ⟨aU (bq rfl), aU (.refl _), trivial⟩)
  | (rw [if_pos hv, hv, hke]; exact VLE.of_eq rfl)
 (try simp only [zB, reduceCtorEq] at hc5)
 have hv : aR m = 0 := by simpa using hc5
 have hm := eO hv
 have hn2 := hm.n2
 refine ay ?_
 apply k2; clear k2; refine kp [0, 1, 2, 4, 5, 6, 12] ?_
 refine ai fun _ k7 => ?_
 refine ak hP hN rfl ?_
 iterate 3 (refine aj rfl fun _ k0 => ?_; simp only [zO, zT, acs, reduceCtorEq, aa, V, ad, ag, af, ae, Mly.av, ah]; (repeat refine an ?_); (try refine .inl ?_); apply k0; clear k0; simp only [zP, V])
 (refine aj rfl fun _ k0 => ?_; simp only [zE, op1, ev, lkp, cY, bK, cQ, br, Ty.size, Ty.dflt, reduceCtorEq, aa, V, ad, ag, af, ae, Try.el41, Try.td41, Mly.av, ah]; (repeat refine an ?_); refine Or.inr (Or.inr (k0 _ ?_)); clear k0; simp only [zP, V])
 (refine aj rfl fun _ k0 => ?_; simp only [zO, zT, acs, reduceCtorEq, aa, V, ad, ag, af, ae, Mly.av, ah]; (repeat refine an ?_); (try refine .inl ?_); apply k0; clear k0; simp only [zP, V])
 refine am ?_
 apply k7; clear k7; refine kp [0, 1, 2, 4, 5, 6, 7, 12] ?_
 refine ai fun _ k8 => ?_
 refine ai fun _ k9 => ?_
 refine ak hP hN rfl ?_
 (refine aj rfl fun _ k0 => ?_; simp only [zO, zT, acs, reduceCtorEq, aa, V, ad, ag, af, ae, Mly.av, ah]; (repeat refine an ?_); (try refine .inl ?_); apply k0; clear k0; simp only [zP, V])
 refine am ?_
 apply k9; clear k9; refine kp [0, 1, 2, 4, 5, 6, 7, 8, 12] ?_
 refine aA ?_
 refine aY (fun n10 s10 => ∃ (k : Nat), (k ≤ m.nx.length) ∧ n10 = m.nx.length - k ∧ s10 = { env := [(1, .one (.int .i64 (m.nx.length : Int))), (2, .one (.ptr 0 0 0 0)), (4, .one .nils), (5, .one (.int .i64 0)), (7, .one (.list (.int .i64) (m.cls k))), (8, .one (.int .i64 (k : Int)))], L := [.vars 24 [.int .i64 m.inp, .int .i64 m.st, .list (.list (.int .i64)) m.nx, .list (.list (.int .i64)) m.ot]] }) ?_ ?_
 ·exact ⟨_, _, ax [1, 2, 4, 5, 7, 8], 0, Nat.zero_le _, rfl, rfl⟩
 rintro n10 s10 ⟨k, hk, rfl, rfl⟩
 refine ai fun _ k11 => ?_
 refine ai fun _ k12 => ?_
 refine ak hP hN rfl ?_
 iterate 4 (refine aj rfl fun _ k0 => ?_; simp only [zO, zT, acs, reduceCtorEq, aa, V, ad, ag, af, ae, Mly.av, ah]; (repeat refine an ?_); (try refine .inl ?_); apply k0; clear k0; simp only [zP, V])
 refine' aO (want := true) 5 rfl (m := 21) (by simp only [zP, aa, V]; exact rfl) (by kernel_rfl) rfl rfl rfl rfl rfl (fun hg13 => ?a13) ?b13 ?c13
 case a13 =>
  have hq13 := hg13; (try simp only [zB, reduceCtorEq] at hg13); simp only [zE]
  iterate 5 (refine bg rfl fun _ k0 => ?_; simp only [zO, zT, acs, reduceCtorEq, aa, V, ad, ag, af, ae, Mly.av, ah]; (repeat refine an ?_); (try refine .inl ?_); apply k0; clear k0; simp only [zP, V])
  (refine aj rfl fun _ k0 => ?_; simp only [zO, zT, acs, reduceCtorEq, aa, V, ad, ag, af, ae, Mly.av, ah]; (repeat refine an ?_); (try refine .inl ?_); apply k0; clear k0; simp only [zP, V])
  refine am ?_
  refine ⟨by simp only [zP, aa, V]; exact rfl, rfl, ?_, rfl⟩; (repeat refine aP rfl ?_); exact bo (by exact rfl) hq13
 case b13 => exact cr
 simp only [bb, aT]
 refine am ?_
 apply k12; clear k12; refine kp [1, 2, 4, 5, 7, 8, 27] ?_
 refine cd (fun hc14 => ?_) (fun hc14 => ?_)
 ·(try simp only [zB, reduceCtorEq] at hc14)
  refine ay ?_
  apply k11; clear k11; refine kp [1, 2, 4, 5, 7, 8, 27] ?_
  refine ai fun _ k15 => ?_
  refine aA ?_
  refine ak hP hN rfl ?_
  iterate 2 (refine aj rfl fun _ k0 => ?_; simp only [zO, zT, acs, reduceCtorEq, aa, V, ad, ag, af, ae, Mly.av, ah]; (repeat refine an ?_); (try refine .inl ?_); apply k0; clear k0; simp only [zP, V])
  refine aj rfl fun _ k0 => ?_
  refine aK (h := aE (yY m k hm)) rfl rfl (by first | exact rfl | (simp only [ev, zP, aa, V]; exact rfl)) (by simp only [zV, acs, reduceCtorEq, aa, V, ad, ag, af, ae, Mly.av, ah]) ?_
  apply k0; clear k0; simp only [zP, V]
  (refine aj rfl fun _ k0 => ?_; simp only [zO, zT, acs, reduceCtorEq, aa, V, ad, ag, af, ae, Mly.av, ah]; (repeat refine an ?_); (try refine .inl ?_); apply k0; clear k0; simp only [zP, V])
  refine am ?_
  apply k15; clear k15; refine kp [1, 2, 4, 5, 7, 8, 27] ?_
  refine ak hP hN rfl ?_
  iterate 3 (refine aj rfl fun _ k0 => ?_; simp only [zO, zT, acs, reduceCtorEq, aa, V, ad, ag, af, ae, Mly.av, ah]; (repeat refine an ?_); (try refine .inl ?_); apply k0; clear k0; simp only [zP, V])
  refine am ?_
  refine ⟨_, _, ?_, ax [1, 2, 4, 5, 7, 8], k + 1, by omega, rfl, rfl⟩
  omega
 (try simp only [zB, reduceCtorEq] at hc14)
 have hke : k = m.nx.length := by omega
 refine aV ?_
 apply k8; clear k8; refine kp [1, 2, 4, 5, 7, 8, 27] ?_
 refine ai fun _ k16 => ?_
 refine ak hP hN rfl ?_
 iterate 3 (refine aj rfl fun _ k0 => ?_; simp only [zO, zT, acs, reduceCtorEq, aa, V, ad, ag, af, ae, Mly.av, ah]; (repeat refine an ?_); (try refine .inl ?_); apply k0; clear k0; simp only [zP, V])
 refine am ?_
 apply k16; clear k16; refine kp [1, 2, 4, 5, 7, 8, 27] ?_
 refine aF ?_
 refine ⟨nr, _, rfl, ?_⟩; simp only [zF, zP, aa, V, Mly.av, ah]
 first
 | (rw [if_neg hv]; exact cg ⟨aU (bq rfl), aU (.refl _), trivial⟩)
 | (rw [if_pos hv, hv, hke]; exact VLE.of_eq rfl)
theorem yh (m : Mly) : bP Try.prog 78 [m.av] (.tup [.one (.list (.int .i64) (if aR m = 0 then m.cls m.nx.length else [])), .one (.int .i64 (aR m))]) := by
 refine aS Try.func78 rfl (by kernel_rfl) (Nat.le_of_ble_eq_true rfl) rfl fun C hP hN hB => ?_
 replace hN : C.N = 11 := hN
 simp only [bf, V]
 refine ai fun _ k1 => ?_
 refine ak hP hN rfl ?_
 iterate 3 (refine aj rfl fun _ k0 => ?_; simp only [zO, zT, acs, reduceCtorEq, aa, V, ad, ag, af, ae, Mly.av]; (repeat refine an ?_); (try refine .inl ?_); apply k0; clear k0; simp only [zP, V])
 refine am ?_
 apply k1; clear k1; refine kp [0, 1, 2, 3] ?_
 refine ai fun _ k2 => ?_
 refine ak hP hN rfl ?_
 iterate 4 (refine aj rfl fun _ k0 => ?_; simp only [zO, zT, acs, reduceCtorEq, aa, V, ad, ag, af, ae, Mly.av]; (repeat refine an ?_); (try refine .inl ?_); apply k0; clear k0; simp only [zP, V])
 refine aj rfl fun _ k0 => ?_
 refine aK (h := aE (xg m)) rfl rfl (by first | exact rfl | (simp only [ev, zP, aa, V]; exact rfl)) (by simp only [zV, acs, reduceCtorEq, aa, V, ad, ag, af, ae, Mly.av]) ?_
 apply k0; clear k0; simp only [zP, V]
 iterate 4 (refine aj rfl fun _ k0 => ?_; simp only [zO, zT, acs, reduceCtorEq, aa, V, ad, ag, af, ae, Mly.av]; (repeat refine an ?_); (try refine .inl ?_); apply k0; clear k0; simp only [zP, V])
 refine am ?_
 apply k2; clear k2; refine kp [0, 1, 2, 3] ?_
 refine aF ?_
 refine ⟨nr, _, rfl, ?_⟩; simp only [zF, zP, aa, V, Mly.av]
 refine VLE.of_eq ?_
 rfl
set_option maxHeartbeats 2500000 in
theorem tg (m : Mly) : bP Try.prog 63 [m.av] (.tup [if aR m = 0 then .agg [.int .i64 m.inp, .int .i64 0, .list (.list (.int .i64)) (mmF m).2, .junk] else Mly.av ⟨0, 0, [], []⟩, .one (.int .i64 (aR m))]) := by
 refine aS Try.func63 rfl (by kernel_rfl) (Nat.le_of_ble_eq_true rfl) rfl fun C hP hN hB => ?_
 replace hN : C.N = 130 := hN
 simp only [bf, V]
 refine ai fun _ k1 => ?_
 refine ak hP hN rfl ?_
 iterate 3 (refine aj rfl fun _ k0 => ?_; simp only [zO, zT, acs, reduceCtorEq, aa, V, ad, ag, af, ae, Mly.av, ah, bt]; (repeat refine an ?_); (try refine .inl ?_); apply k0; clear k0; simp only [zP, V])
 refine am ?_
 apply k1; clear k1; refine kp [0, 1, 2, 3] ?_
 refine ai fun _ k2 => ?_
 refine ak hP hN rfl ?_
 (refine aj rfl fun _ k0 => ?_; simp only [zO, zT, acs, reduceCtorEq, aa, V, ad, ag, af, ae, Mly.av, ah, bt]; (repeat refine an ?_); (try refine .inl ?_); apply k0; clear k0; simp only [zP, V])
 refine aj rfl fun _ k0 => ?_
 refine aK (h := aE (yh m)) rfl rfl (by first | exact rfl | (simp only [ev, zP, aa, V]; exact rfl)) (by simp only [zV, acs, reduceCtorEq, aa, V, ad, ag, af, ae, Mly.av, ah, bt]) ?_
 apply k0; clear k0; simp only [zP, V]
 iterate 5 (refine aj rfl fun _ k0 => ?_; simp only [zO, zT, acs, reduceCtorEq, aa, V, ad, ag, af, ae, Mly.av, ah, bt]; (repeat refine an ?_); (try refine .inl ?_); apply k0; clear k0; simp only [zP, V])
 refine am ?_
 apply k2; clear k2; refine kp [0, 1, 2, 3, 4, 5] ?_
 refine ai fun _ k3 => ?_
 refine ai fun _ k4 => ?_
 refine ak hP hN rfl ?_
 iterate 2 (refine aj rfl fun _ k0 => ?_; simp only [zO, zT, acs, reduceCtorEq, aa, V, ad, ag, af, ae, Mly.av, ah, bt]; (repeat refine an ?_); (try refine .inl ?_); apply k0; clear k0; simp only [zP, V])
 refine am ?_
 apply k4; clear k4; refine kp [0, 1, 2, 3, 4, 5, 21] ?_
 refine cd (fun hc5 => ?_) (fun hc5 => ?_)
 ·(try simp only [zB, reduceCtorEq] at hc5)
  have hv : ¬ aR m = 0 := hc5
  refine ai fun _ k6 => ?_
  refine ak hP hN rfl ?_
  iterate 4 (refine aj rfl fun _ k0 => ?_; simp only [zO, zT, acs, reduceCtorEq, aa, V, ad, ag, af, ae, Mly.av, ah, bt]; (repeat refine an ?_); (try refine .inl ?_); apply k0; clear k0; simp only [zP, V])
  refine am ?_
  apply k6; clear k6; refine kp [0, 1, 2, 3, 4, 5, 21] ?_
  refine aF ?_
  refine ⟨nr, _, rfl, ?_⟩; simp only [zF, zP, aa, V, Mly.av, ah, bt]
  first
  | (rw [if_neg hv]; exact cg ⟨dq ⟨.refl _, .refl _, bq rfl, bq rfl, trivial⟩, aU (.refl _), trivial⟩)
  | (rw [if_pos hv, hv, ← hRX]; exact cg ⟨dq ⟨.refl _, .refl _, .refl _, fun C L σ w u hu => ⟨hu.1, trivial⟩, trivial⟩, aU (.refl _), trivial⟩)
 (try simp only [zB, reduceCtorEq] at hc5)
 have hv : aR m = 0 := by simpa using hc5
 have hm := eO hv
 have hi1 := hm.i1; have hi2 := hm.i2; have hn1 := hm.n1; have hn2 := hm.n2; have hs1 := hm.s1; have hs2 := hm.s2; have ol := hm.ol
 have hcl := jI m m.nx.length
 refine o0 4 (v' := .one (.list (.int .i64) (m.cls m.nx.length))) rfl (VLE.of_eq (by show AV.one (.list (.int .i64) (if aR m = 0 then m.cls m.nx.length else [])) = _; rw [if_pos hv])) ?_
 refine ay ?_
 apply k3; clear k3; refine kp [0, 1, 2, 3, 4, 5, 21] ?_
 refine ai fun _ k7 => ?_
 refine ak hP hN rfl ?_
 iterate 2 (refine aj rfl fun _ k0 => ?_; simp only [zO, zT, acs, reduceCtorEq, aa, V, ad, ag, af, ae, Mly.av, ah, bt]; (repeat refine an ?_); (try refine .inl ?_); apply k0; clear k0; simp only [zP, V])
 (refine aj rfl fun _ k0 => ?_; simp only [zO, zT, acs, reduceCtorEq, aa, V, ad, ag, af, ae, Mly.av, ah, bt]; (repeat refine an ?_); refine Or.inr (Or.inl (k0 _ ?_)); clear k0; simp only [zP, V])
 (refine aj rfl fun _ k0 => ?_; simp only [zO, zT, acs, reduceCtorEq, aa, V, ad, ag, af, ae, Mly.av, ah, bt]; (repeat refine an ?_); (try refine .inl ?_); apply k0; clear k0; simp only [zP, V])
 refine am ?_
 apply k7; clear k7; refine kp [0, 1, 2, 3, 4, 5, 6, 21] ?_
 refine ai fun _ k8 => ?_
 refine ak hP hN rfl ?_
 iterate 3 (refine aj rfl fun _ k0 => ?_; simp only [zO, zT, acs, reduceCtorEq, aa, V, ad, ag, af, ae, Mly.av, ah, bt]; (repeat refine an ?_); (try refine .inl ?_); apply k0; clear k0; simp only [zP, V])
 (refine aj rfl fun _ k0 => ?_; simp only [zE, op1, ev, lkp, cY, bK, bM, d7, Nat.mul_one, bS, cL, acs, Ty.dflt, zG, bZ, cj, eW, dW, cE, cW, eh, Nat.div_one, cH, d5, Ty.size, br, dite_true, cQ, reduceCtorEq, aa, V, ad, ag, af, ae, Try.el22, Try.el41, Try.st24, Try.td2, Try.td22, Try.td24, Try.td3, Try.td41, Mly.av, ah, bt]; (repeat refine an ?_); (try refine .inl ?_); apply k0; clear k0; simp only [zP, V])
 (refine aj rfl fun _ k0 => ?_; simp only [zO, zT, acs, reduceCtorEq, aa, V, ad, ag, af, ae, Mly.av, ah, bt]; (repeat refine an ?_); (try refine .inl ?_); apply k0; clear k0; simp only [zP, V])
 refine am ?_
 apply k8; clear k8; refine kp [0, 1, 2, 3, 4, 5, 6, 7, 21] ?_
 refine ai fun _ k9 => ?_
 refine ai fun _ k10 => ?_
 refine ak hP hN rfl ?_
 (refine aj rfl fun _ k0 => ?_; simp only [zO, zT, acs, reduceCtorEq, aa, V, ad, ag, af, ae, Mly.av, ah, bt]; (repeat refine an ?_); (try refine .inl ?_); apply k0; clear k0; simp only [zP, V])
 refine am ?_
 apply k10; clear k10; refine kp [0, 1, 2, 3, 4, 5, 6, 7, 8, 21] ?_
 refine aA ?_
 refine aY (fun n11 s11 => ∃ (k : Nat), (k ≤ m.nx.length) ∧ n11 = m.nx.length - k ∧ s11 = { env := [(1, .one (.ptr 0 0 0 0)), (2, .one (.ptr 1 0 0 0)), (3, .one (.int .i64 0)), (4, .one (.list (.int .i64) (m.cls m.nx.length))), (6, .one (.row 2 0)), (7, .one (.row 3 0)), (8, .one (.int .i64 (k : Int)))], L := [.vars 24 [.int .i64 m.inp, .int .i64 m.st, .list (.list (.int .i64)) m.nx, .list (.list (.int .i64)) m.ot], .vars 24 [.int .i64 0, .int .i64 0, .nils, .nils], .row (.int .i64) 3 0 [m.st], .row (.int .i64) 3 0 (prL (fun _ => -1) m.nx.length k 0)] }) ?_ ?_
 ·refine ⟨_, _, ax [1, 2, 3, 4, 6, 7, 8], 0, Nat.zero_le _, rfl, ?_⟩
  rw [z9]; rfl
 rintro n11 s11 ⟨k, hk, rfl, rfl⟩
 refine ai fun _ k12 => ?_
 refine ai fun _ k13 => ?_
 refine ak hP hN rfl ?_
 iterate 4 (refine aj rfl fun _ k0 => ?_; simp only [zO, zT, acs, reduceCtorEq, aa, V, ad, ag, af, ae, Mly.av, ah, bt, oN]; (repeat refine an ?_); (try refine .inl ?_); apply k0; clear k0; simp only [zP, V])
 refine am ?_
 apply k13; clear k13; refine kp [1, 2, 3, 4, 6, 7, 8, 34] ?_
 refine cd (fun hc14 => ?_) (fun hc14 => ?_)
 ·(try simp only [zB, reduceCtorEq] at hc14)
  refine ay ?_
  apply k12; clear k12; refine kp [1, 2, 3, 4, 6, 7, 8, 34] ?_
  refine ai fun _ k15 => ?_
  refine aA ?_
  have hp9 := uo (f := fun _ => (-1 : Int)) (n := m.nx.length) (s := k) (by omega)
  refine ak hP hN rfl ?_
  iterate 4 (refine aj rfl fun _ k0 => ?_; simp only [zO, zT, acs, reduceCtorEq, aa, V, ad, ag, af, ae, Mly.av, ah, bt, oN]; (repeat refine an ?_); (try refine .inl ?_); apply k0; clear k0; simp only [zP, V])
  refine am ?_
  apply k15; clear k15; refine kp [1, 2, 3, 4, 6, 7, 8, 34] ?_
  refine ak hP hN rfl ?_
  iterate 3 (refine aj rfl fun _ k0 => ?_; simp only [zO, zT, acs, reduceCtorEq, aa, V, ad, ag, af, ae, Mly.av, ah, bt]; (repeat refine an ?_); (try refine .inl ?_); apply k0; clear k0; simp only [zP, V])
  refine am ?_
  refine ⟨_, _, ?_, ax [1, 2, 3, 4, 6, 7, 8], k + 1, by omega, rfl, ?_⟩
  · omega
  · rw [hp9, ← qR]; rfl
 (try simp only [zB, reduceCtorEq] at hc14)
 refine aV ?_
 apply k9; clear k9; refine kp [1, 2, 3, 4, 6, 7, 8, 34] ?_
 refine ai fun _ k16 => ?_
 have hc0 : 0 ≤ (m.cls m.nx.length).getD m.st.toNat 0 ∧ (m.cls m.nx.length).getD m.st.toNat 0 < m.nx.length := tK hm ⟨hs1, hs2⟩
 have hke : k = m.nx.length := by omega
 have hset0 : (g0 m []).set ((m.cls m.nx.length).getD m.st.toNat 0).toNat 0 = g0 m [m.st] := rE (m := m) (O := []) (t := m.st) (c := ((m.cls m.nx.length).getD m.st.toNat 0).toNat) (by omega) (by show (m.cls m.nx.length).getD m.st.toNat 0 = _; omega) (by show (-1 : Int) < 0; omega)
 rw [hke, tN, show (List.range m.nx.length).map (fun _ => (-1 : Int)) = g0 m [] by rw [xQ]; simp [List.map_const']]
 refine ak hP hN rfl ?_
 iterate 8 (refine aj rfl fun _ k0 => ?_; simp only [zO, zT, acs, reduceCtorEq, aa, V, ad, ag, af, ae, Mly.av, ah, bt]; (repeat refine an ?_); (try refine .inl ?_); apply k0; clear k0; simp only [zP, V, hset0])
 refine am ?_
 apply k16; clear k16; refine kp [1, 2, 3, 4, 6, 7, 8, 34] ?_
 refine ai fun _ k17 => ?_
 refine ak hP hN rfl ?_
 iterate 5 (refine aj rfl fun _ k0 => ?_; simp only [zO, zT, acs, reduceCtorEq, aa, V, ad, ag, af, ae, Mly.av, ah, bt]; (repeat refine an ?_); (try refine .inl ?_); apply k0; clear k0; simp only [zP, V])
 refine am ?_
 apply k17; clear k17; refine kp [1, 2, 3, 4, 6, 7, 8, 9, 34] ?_
 refine ai fun _ k18 => ?_
 refine ai fun _ k19 => ?_
 refine ak hP hN rfl ?_
 (refine aj rfl fun _ k0 => ?_; simp only [zO, zT, acs, reduceCtorEq, aa, V, ad, ag, af, ae, Mly.av, ah, bt]; (repeat refine an ?_); (try refine .inl ?_); apply k0; clear k0; simp only [zP, V])
 refine am ?_
 apply k19; clear k19; refine kp [1, 2, 3, 4, 6, 7, 8, 9, 10, 34] ?_
 refine aA ?_
 refine eE 4 2 (.list (.int .i64)) 41 (by decide) rfl rfl ?_; simp only [zS, au, aG, aM, b6, Nat.zero_add, V]
 refine eE 4 3 (.list (.int .i64)) 41 (by decide) rfl rfl ?_; simp only [zS, au, aG, aM, b6, Nat.zero_add, V]
 refine aY (fun n20 s20 => ∃ (i v y z : Nat) (O : List Int) (RX RY : Bi), (i ≤ O.length) ∧ (MO m O) ∧ (RX.length = i ∧ RY.length = i) ∧ (nJ m (m.nx.length + 1 - i) i (O, RX) = mmF m) ∧ n20 = m.nx.length + 1 - i ∧ s20 = { env := [(1, .one (.ptr 0 0 0 0)), (2, .one (.ptr 1 0 0 0)), (3, .one (.int .i64 0)), (4, .one (.list (.int .i64) (m.cls m.nx.length))), (6, .one (.row 2 v)), (7, .one (.row 3 0)), (9, .one (.ptr 4 0 0 0)), (10, .one (.int .i64 (i : Int)))], L := [.vars 24 [.int .i64 m.inp, .int .i64 m.st, .list (.list (.int .i64)) m.nx, .list (.list (.int .i64)) m.ot], .vars 24 [.int .i64 0, .int .i64 0, .nils, .nils], .row (.int .i64) 3 v O, .row (.int .i64) 3 0 (g0 m O), .vars 24 [.int .i64 m.inp, .int .i64 0, .row 5 y, .row 6 z], .row (.list (.int .i64)) 41 y RX, .row (.list (.int .i64)) 41 z RY] }) ?_ ?_
 ·exact ⟨_, _, ax [1, 2, 3, 4, 6, 7, 9, 10], 0, 0, 0, 0, [m.st], [], [], Nat.zero_le _, ⟨fun o ho => by rw [List.mem_singleton] at ho; rw [ho]; exact ⟨hs1, hs2⟩, List.pairwise_singleton _ _⟩, ⟨rfl, rfl⟩, rfl, rfl, rfl⟩
 rintro n20 s20 ⟨i, v, y, z, O, RX, RY, hi, hO, hRl0, hgo, rfl, rfl⟩
 refine ai fun _ k21 => ?_
 refine ai fun _ k22 => ?_
 refine ak hP hN rfl ?_
 iterate 4 (refine aj rfl fun _ k0 => ?_; simp only [zO, zT, acs, reduceCtorEq, aa, V, ad, ag, af, ae, Mly.av, ah, bt]; (repeat refine an ?_); (try refine .inl ?_); apply k0; clear k0; simp only [zP, V])
 refine am ?_
 apply k22; clear k22; refine kp [1, 2, 3, 4, 6, 7, 9, 10, 53] ?_
 refine cd (fun hc23 => ?_) (fun hc23 => ?_)
 ·(try simp only [zB, reduceCtorEq] at hc23)
  refine ay ?_
  apply k21; clear k21; refine kp [1, 2, 3, 4, 6, 7, 9, 10, 53] ?_
  refine ai fun _ k24 => ?_
  refine aA ?_
  refine ai fun _ k25 => ?_
  have hil : i < O.length := by omega
  have hxr := hO.rng _ (bl hil)
  have hOl := hO.len
  refine ak hP hN rfl ?_
  iterate 2 (refine aj rfl fun _ k0 => ?_; simp only [zO, zT, acs, reduceCtorEq, aa, V, ad, ag, af, ae, Mly.av, ah, bt]; (repeat refine an ?_); (try refine .inl ?_); apply k0; clear k0; simp only [zP, V])
  refine am ?_
  apply k25; clear k25; refine kp [1, 2, 3, 4, 6, 7, 9, 10, 11, 12, 53] ?_
  refine ai fun _ k26 => ?_
  refine ai fun _ k27 => ?_
  refine ak hP hN rfl ?_
  (refine aj rfl fun _ k0 => ?_; simp only [zO, zT, acs, reduceCtorEq, aa, V, ad, ag, af, ae, Mly.av, ah, bt]; (repeat refine an ?_); (try refine .inl ?_); apply k0; clear k0; simp only [zP, V])
  refine am ?_
  apply k27; clear k27; refine kp [1, 2, 3, 4, 6, 7, 9, 10, 11, 12, 13, 53] ?_
  refine aA ?_
  refine dZ 11 (.int .i64) 3 (by decide) rfl ?_; simp only [au, aG, aM, b6, Nat.zero_add, V]
  refine dZ 12 (.int .i64) 3 (by decide) rfl ?_; simp only [au, aG, aM, b6, Nat.zero_add, V]
  refine aY (fun n28 s28 => ∃ (a v2 w1 w2 : Nat) (RO : List Int), ((a : Int) ≤ m.inp) ∧ (RO.length = a) ∧ n28 = m.inp.toNat - a ∧ s28 = { env := [(1, .one (.ptr 0 0 0 0)), (2, .one (.ptr 1 0 0 0)), (3, .one (.int .i64 0)), (4, .one (.list (.int .i64) (m.cls m.nx.length))), (6, .one (.row 2 v2)), (7, .one (.row 3 0)), (9, .one (.ptr 4 0 0 0)), (10, .one (.int .i64 (i : Int))), (11, .one (.row 7 w1)), (12, .one (.row 8 w2)), (13, .one (.int .i64 (a : Int))), (53, .one (.bool true))], L := [.vars 24 [.int .i64 m.inp, .int .i64 m.st, .list (.list (.int .i64)) m.nx, .list (.list (.int .i64)) m.ot], .vars 24 [.int .i64 0, .int .i64 0, .nils, .nils], .row (.int .i64) 3 v2 (cO m (O.getD i 0) O a).1, .row (.int .i64) 3 0 (g0 m (cO m (O.getD i 0) O a).1), .vars 24 [.int .i64 m.inp, .int .i64 0, .row 5 y, .row 6 z], .row (.list (.int .i64)) 41 y RX, .row (.list (.int .i64)) 41 z RY, .row (.int .i64) 3 w1 (cO m (O.getD i 0) O a).2, .row (.int .i64) 3 w2 RO] }) ?_ ?_
  ·refine ⟨_, _, ax [1, 2, 3, 4, 6, 7, 9, 10, 11, 12, 13, 53], 0, v, 0, 0, [], by omega, rfl, rfl, ?_⟩
   rw [decide_eq_true (show (i : Int) < (O.length : Int) by omega)]; rfl
  rintro n28 s28 ⟨a, v2, w1, w2, RO, ha, hRO, rfl, rfl⟩
  refine ai fun _ k29 => ?_
  refine ai fun _ k30 => ?_
  refine ak hP hN rfl ?_
  iterate 4 (refine aj rfl fun _ k0 => ?_; simp only [zO, zT, acs, reduceCtorEq, aa, V, ad, ag, af, ae, Mly.av, ah, bt]; (repeat refine an ?_); (try refine .inl ?_); apply k0; clear k0; simp only [zP, V])
  refine am ?_
  apply k30; clear k30; refine kp [1, 2, 3, 4, 6, 7, 9, 10, 11, 12, 13, 53, 59] ?_
  refine cd (fun hc31 => ?_) (fun hc31 => ?_)
  ·(try simp only [zB, reduceCtorEq] at hc31)
   refine ay ?_
   apply k29; clear k29; refine kp [1, 2, 3, 4, 6, 7, 9, 10, 11, 12, 13, 53, 59] ?_
   refine ai fun _ k32 => ?_
   refine aA ?_
   refine ai fun _ k33 => ?_
   obtain ⟨hR1, hR2, rr, hR3⟩ := km hm hxr hO a (by omega)
   have hRl := hR1.len
   have hgx : (cO m (O.getD i 0) O a).1.getD i 0 = (O.getD i 0) := by rw [hR3]; simp [List.getD, List.getElem?_append_left hil]
   have hil2 : i < (cO m (O.getD i 0) O a).1.length := by rw [hR3, aq]; omega
   have q1 := hm.rl (O.getD i 0).toNat (by omega)
   have hnr := hm.nr (O.getD i 0).toNat a (by omega) (by omega)
   have hct : 0 ≤ (m.cls m.nx.length).getD ((m.nx.getD (O.getD i 0).toNat []).getD a 0).toNat 0 ∧ (m.cls m.nx.length).getD ((m.nx.getD (O.getD i 0).toNat []).getD a 0).toNat 0 < m.nx.length := tK hm (t := (m.nxt (O.getD i 0) (a : Int))) hnr
   have hgn : ∀ Z, (g0 m Z).getD ((m.cls m.nx.length).getD ((m.nx.getD (O.getD i 0).toNat []).getD a 0).toNat 0).toNat 0 = nmO m Z (cAt m (m.nxt (O.getD i 0) (a : Int))) := fun Z => (xO (by omega)).trans (congrArg (nmO m Z) (by show _ = (m.cls m.nx.length).getD ((m.nx.getD (O.getD i 0).toNat []).getD a 0).toNat 0; omega))
   refine bn hP hN Try.mixed rfl ?_
   iterate 12 (refine aj rfl fun _ k0 => ?_; simp only [zO, zT, acs, reduceCtorEq, aa, V, ad, ag, af, ae, Mly.av, ah, bt, hgx]; (repeat refine an ?_); (try refine .inl ?_); apply k0; clear k0; simp only [zP, V])
   refine am ?_
   refine ⟨by kernel_rfl, ?_⟩
   apply k33; clear k33; refine kp [1, 2, 3, 4, 6, 7, 9, 10, 11, 12, 13, 14, 53, 59] ?_
   refine ai fun _ k34 => ?_
   refine ai fun _ k35 => ?_
   refine ak hP hN rfl ?_
   iterate 8 (refine aj rfl fun _ k0 => ?_; simp only [zO, zT, acs, reduceCtorEq, aa, V, ad, ag, af, ae, Mly.av, ah, bt, hgn]; (repeat refine an ?_); (try refine .inl ?_); apply k0; clear k0; simp only [zP, V])
   refine am ?_
   apply k35; clear k35; refine kp [1, 2, 3, 4, 6, 7, 9, 10, 11, 12, 13, 14, 53, 59, 80] ?_
   refine cd (fun hc36 => ?_) (fun hc36 => ?_)
   ·(try simp only [zB, reduceCtorEq] at hc36)
    have hnm : nmO m (cO m (O.getD i 0) O a).1 (cAt m (m.nxt (O.getD i 0) (a : Int))) < 0 := hc36
    have hA : mmA m (cO m (O.getD i 0) O a).1 (m.nxt (O.getD i 0) (a : Int)) = (cO m (O.getD i 0) O a).1 ++ [(m.nxt (O.getD i 0) (a : Int))] := if_pos hnm
    refine ai fun _ k37 => ?_
    have hset1 : (g0 m (cO m (O.getD i 0) O a).1).set ((m.cls m.nx.length).getD ((m.nx.getD (O.getD i 0).toNat []).getD a 0).toNat 0).toNat ((cO m (O.getD i 0) O a).1.length : Int) = g0 m ((cO m (O.getD i 0) O a).1 ++ [(m.nxt (O.getD i 0) (a : Int))]) := rE (by omega) (by show (m.cls m.nx.length).getD ((m.nx.getD (O.getD i 0).toNat []).getD a 0).toNat 0 = _; omega) (by rw [show ((((m.cls m.nx.length).getD ((m.nx.getD (O.getD i 0).toNat []).getD a 0).toNat 0).toNat : Nat) : Int) = cAt m (m.nxt (O.getD i 0) (a : Int)) by show _ = (m.cls m.nx.length).getD ((m.nx.getD (O.getD i 0).toNat []).getD a 0).toNat 0; omega]; exact hnm)
    refine ak hP hN rfl ?_
    iterate 9 (refine aj rfl fun _ k0 => ?_; simp only [zO, zT, acs, reduceCtorEq, aa, V, ad, ag, af, ae, Mly.av, ah, bt, hgn]; (repeat refine an ?_); (try refine .inl ?_); apply k0; clear k0; simp only [zP, V, hset1])
    refine am ?_
    apply k37; clear k37; refine kp [1, 2, 3, 4, 6, 7, 9, 10, 11, 12, 13, 14, 53, 59, 80] ?_
    refine ak hP hN rfl ?_
    iterate 5 (refine aj rfl fun _ k0 => ?_; simp only [zO, zT, acs, reduceCtorEq, aa, V, ad, ag, af, ae, Mly.av, ah, bt]; (repeat refine an ?_); (try refine .inl ?_); apply k0; clear k0; simp only [zP, V])
    refine am ?_
    apply k34; clear k34; refine kp [1, 2, 3, 4, 6, 7, 9, 10, 11, 12, 13, 14, 53, 59, 80] ?_
    refine ai fun _ k38 => ?_
    refine ak hP hN rfl ?_
    iterate 11 (refine aj rfl fun _ k0 => ?_; simp only [zO, zT, acs, reduceCtorEq, aa, V, ad, ag, af, ae, Mly.av, ah, bt, hgn]; (repeat refine an ?_); (try refine .inl ?_); apply k0; clear k0; simp only [zP, V])
    refine am ?_
    apply k38; clear k38; refine kp [1, 2, 3, 4, 6, 7, 9, 10, 11, 12, 13, 14, 53, 59, 80] ?_
    have q2 := hm.ql (O.getD i 0).toNat (by omega)
    have hgx2 : ((cO m (O.getD i 0) O a).1 ++ [((m.nx.getD (O.getD i 0).toNat []).getD a 0)]).getD i 0 = (O.getD i 0) := (l6 hil2).trans hgx
    refine bn hP hN Try.mixed rfl ?_
    iterate 15 (refine aj rfl fun _ k0 => ?_; simp only [zO, zT, acs, reduceCtorEq, aa, V, ad, ag, af, ae, Mly.av, ah, bt, hgx, hgx2, aq]; (repeat refine an ?_); (try refine .inl ?_); apply k0; clear k0; simp only [zP, V])
    refine am ?_
    refine ⟨by kernel_rfl, ?_⟩
    apply k32; clear k32; refine kp [1, 2, 3, 4, 6, 7, 9, 10, 11, 12, 13, 14, 53, 59, 80] ?_
    refine ak hP hN rfl ?_
    iterate 3 (refine aj rfl fun _ k0 => ?_; simp only [zO, zT, acs, reduceCtorEq, aa, V, ad, ag, af, ae, Mly.av, ah, bt]; (repeat refine an ?_); (try refine .inl ?_); apply k0; clear k0; simp only [zP, V])
    refine am ?_
    first
    | (refine ⟨_, _, ?_, ax [1, 2, 3, 4, 6, 7, 9, 10, 11, 12, 13, 53], a + 1, v2 + 1, w1 + 1, w2 + 1, RO ++ [(m.ot.getD (O.getD i 0).toNat []).getD a 0], by omega, by rw [aq, hRO]; rfl, rfl, ?_⟩
       · omega
       · rw [fJ]; unfold qr; rw [hA]; rfl)
    | (refine ⟨_, _, ?_, ax [1, 2, 3, 4, 6, 7, 9, 10, 11, 12, 13, 53], a + 1, v2, w1 + 1, w2 + 1, RO ++ [(m.ot.getD (O.getD i 0).toNat []).getD a 0], by omega, by rw [aq, hRO]; rfl, rfl, ?_⟩
       · omega
       · rw [fJ]; unfold qr; rw [hA]; rfl)
   (try simp only [zB, reduceCtorEq] at hc36)
   have hnm : ¬ nmO m (cO m (O.getD i 0) O a).1 (cAt m (m.nxt (O.getD i 0) (a : Int))) < 0 := by have h9 : 0 ≤ nmO m (cO m (O.getD i 0) O a).1 (cAt m (m.nxt (O.getD i 0) (a : Int))) := hc36; omega
   have hA : mmA m (cO m (O.getD i 0) O a).1 (m.nxt (O.getD i 0) (a : Int)) = (cO m (O.getD i 0) O a).1 := if_neg hnm
   refine ay ?_
   apply k34; clear k34; refine kp [1, 2, 3, 4, 6, 7, 9, 10, 11, 12, 13, 14, 53, 59, 80] ?_
   refine ai fun _ k39 => ?_
   refine ak hP hN rfl ?_
   iterate 11 (refine aj rfl fun _ k0 => ?_; simp only [zO, zT, acs, reduceCtorEq, aa, V, ad, ag, af, ae, Mly.av, ah, bt, hgn]; (repeat refine an ?_); (try refine .inl ?_); apply k0; clear k0; simp only [zP, V])
   refine am ?_
   apply k39; clear k39; refine kp [1, 2, 3, 4, 6, 7, 9, 10, 11, 12, 13, 14, 53, 59, 80] ?_
   have q2 := hm.ql (O.getD i 0).toNat (by omega)
   have hgx2 : ((cO m (O.getD i 0) O a).1 ++ [((m.nx.getD (O.getD i 0).toNat []).getD a 0)]).getD i 0 = (O.getD i 0) := (l6 hil2).trans hgx
   refine bn hP hN Try.mixed rfl ?_
   iterate 15 (refine aj rfl fun _ k0 => ?_; simp only [zO, zT, acs, reduceCtorEq, aa, V, ad, ag, af, ae, Mly.av, ah, bt, hgx, hgx2, aq]; (repeat refine an ?_); (try refine .inl ?_); apply k0; clear k0; simp only [zP, V])
   refine am ?_
   refine ⟨by kernel_rfl, ?_⟩
   apply k32; clear k32; refine kp [1, 2, 3, 4, 6, 7, 9, 10, 11, 12, 13, 14, 53, 59, 80] ?_
   refine ak hP hN rfl ?_
   iterate 3 (refine aj rfl fun _ k0 => ?_; simp only [zO, zT, acs, reduceCtorEq, aa, V, ad, ag, af, ae, Mly.av, ah, bt]; (repeat refine an ?_); (try refine .inl ?_); apply k0; clear k0; simp only [zP, V])
   refine am ?_
   first
   | (refine ⟨_, _, ?_, ax [1, 2, 3, 4, 6, 7, 9, 10, 11, 12, 13, 53], a + 1, v2 + 1, w1 + 1, w2 + 1, RO ++ [(m.ot.getD (O.getD i 0).toNat []).getD a 0], by omega, by rw [aq, hRO]; rfl, rfl, ?_⟩
      · omega
      · rw [fJ]; unfold qr; rw [hA]; rfl)
   | (refine ⟨_, _, ?_, ax [1, 2, 3, 4, 6, 7, 9, 10, 11, 12, 13, 53], a + 1, v2, w1 + 1, w2 + 1, RO ++ [(m.ot.getD (O.getD i 0).toNat []).getD a 0], by omega, by rw [aq, hRO]; rfl, rfl, ?_⟩
      · omega
      · rw [fJ]; unfold qr; rw [hA]; rfl)
  (try simp only [zB, reduceCtorEq] at hc31)
  have hae : m.inp.toNat = a := by omega
  refine aV ?_
  apply k26; clear k26; refine kp [1, 2, 3, 4, 6, 7, 9, 10, 11, 12, 13, 53, 59] ?_
  refine ai fun _ k40 => ?_
  refine cq 7 rfl ?_; simp only [aH, bh, zS, aa, and_self, and_true, true_and, and_false, false_and, if_true, if_false, eq_self, reduceCtorEq, Nat.one_ne_zero, Nat.zero_ne_one]
  refine ak hP hN rfl ?_
  iterate 7 (refine aj rfl fun _ k0 => ?_; simp only [zO, zT, acs, reduceCtorEq, aa, V, ad, ag, af, ae, Mly.av, ah, bt]; (repeat refine an ?_); (try refine .inl ?_); apply k0; clear k0; simp only [zP, V])
  refine am ?_
  apply k40; clear k40; refine kp [1, 2, 3, 4, 6, 7, 9, 10, 11, 12, 13, 53, 59] ?_
  refine cq 8 rfl ?_; simp only [aH, bh, zS, aa, and_self, and_true, true_and, and_false, false_and, if_true, if_false, eq_self, reduceCtorEq, Nat.one_ne_zero, Nat.zero_ne_one]
  refine ak hP hN rfl ?_
  iterate 7 (refine aj rfl fun _ k0 => ?_; simp only [zO, zT, acs, reduceCtorEq, aa, V, ad, ag, af, ae, Mly.av, ah, bt]; (repeat refine an ?_); (try refine .inl ?_); apply k0; clear k0; simp only [zP, V])
  refine am ?_
  apply k24; clear k24; refine kp [1, 2, 3, 4, 6, 7, 9, 10, 11, 12, 13, 53, 59] ?_
  refine dh [1, 2, 3, 4, 6, 7, 9, 10] ?_
  simp only [cF, lkp, zE, reduceCtorEq, aa]
  refine cP (n := 8) (L1 := [_, _, _, _, _, _, _, _]) rfl rfl (by rw [hB]; decide) rfl rfl ?_
  refine cP (n := 7) (L1 := [_, _, _, _, _, _, _]) rfl rfl (by rw [hB]; decide) rfl rfl ?_
  obtain ⟨hR1, hR2, rr, hR3⟩ := km hm hxr hO a (by omega)
  have hRl := hR1.len
  have hil2 : i < (cO m (O.getD i 0) O a).1.length := by rw [hR3, aq]; omega
  refine ak hP hN rfl ?_
  iterate 3 (refine aj rfl fun _ k0 => ?_; simp only [zO, zT, acs, reduceCtorEq, aa, V, ad, ag, af, ae, Mly.av, ah, bt]; (repeat refine an ?_); (try refine .inl ?_); apply k0; clear k0; simp only [zP, V])
  refine am ?_
  refine ⟨_, _, ?_, ax [1, 2, 3, 4, 6, 7, 9, 10], i + 1, v2, y + 1, z + 1, (cO m (O.getD i 0) O a).1, RX ++ [(cO m (O.getD i 0) O a).2], RY ++ [RO], by omega, hR1, ⟨by rw [aq, hRl0.1]; rfl, by rw [aq, hRl0.2]; rfl⟩, ?_, rfl, rfl⟩
  · omega
  · rw [← hgo, show m.nx.length + 1 - i = (m.nx.length + 1 - (i + 1)) + 1 by omega, pZ hil, hae]
 (try simp only [zB, reduceCtorEq] at hc23)
 have hie : i = O.length := by omega
 have hfin := qZ (m := m) (f := m.nx.length + 1 - i) (i := i) (p := (O, RX)) (by show ¬ i < O.length; omega)
 have hRX : RX = (mmF m).2 := by rw [← hgo, hfin]
 refine aV ?_
 apply k18; clear k18; refine kp [1, 2, 3, 4, 6, 7, 9, 10, 53] ?_
 refine ai fun _ k41 => ?_
 refine jp 5 4 rfl rfl ?_; simp only [aH, bh, frC, zS, aa, and_self, and_true, true_and, and_false, false_and, if_true, if_false, eq_self, reduceCtorEq, Nat.one_ne_zero, Nat.zero_ne_one]
 refine jp 6 4 rfl rfl ?_; simp only [aH, bh, frC, zS, aa, and_self, and_true, true_and, and_false, false_and, if_true, if_false, eq_self, reduceCtorEq, Nat.one_ne_zero, Nat.zero_ne_one]
 refine ak hP hN rfl ?_
 iterate 3 (refine aj rfl fun _ k0 => ?_; simp only [zO, zT, acs, reduceCtorEq, aa, V, ad, ag, af, ae, Mly.av, ah, bt]; (repeat refine an ?_); (try refine .inl ?_); apply k0; clear k0; simp only [zP, V])
 refine am ?_
 apply k41; clear k41; refine kp [1, 2, 3, 4, 6, 7, 9, 10, 53] ?_
 refine aF ?_
 refine ⟨nr, _, rfl, ?_⟩; simp only [zF, zP, aa, V, Mly.av, ah, bt]
 first
 | (rw [if_neg hv]; exact cg ⟨dq ⟨.refl _, .refl _, bq rfl, bq rfl, trivial⟩, aU (.refl _), trivial⟩)
 | (rw [if_pos hv, hv, ← hRX]; exact cg ⟨dq ⟨.refl _, .refl _, .refl _, fun C L σ w u hu => ⟨hu.1, trivial⟩, trivial⟩, aU (.refl _), trivial⟩)
theorem Ae (m : Mly) (hv : aR m = 0) : bP Try.prog 63 [m.av] (.tup [.agg [.int .i64 m.inp, .int .i64 0, .list (.list (.int .i64)) (mmF m).2, .junk], .one (.int .i64 0)]) := by
  have h := tg m
  rw [if_pos hv, hv] at h; exact h
theorem Av (m : Mly) (hv : ¬ aR m = 0) : bP Try.prog 63 [m.av] (.tup [Mly.av ⟨0, 0, [], []⟩, .one (.int .i64 (aR m))]) := by
  have h := tg m
  rw [if_neg hv] at h; exact h
theorem vQ (m : Mly) (hv : aR m = 0) : bP Try.prog 44 [m.av] (.one (.bool (mmB m))) := by
 refine aS Try.func44 rfl (by kernel_rfl) (Nat.le_of_ble_eq_true rfl) rfl fun C hP hN hB => ?_
 replace hN : C.N = 21 := hN
 simp only [bf, V]
 refine ai fun _ k1 => ?_
 refine ak hP hN rfl ?_
 iterate 2 (refine aj rfl fun _ k0 => ?_; simp only [zO, zT, acs, reduceCtorEq, aa, V, ad, ag, af, ae, Mly.av, ah]; (repeat refine an ?_); (try refine .inl ?_); apply k0; clear k0; simp only [zP, V])
 refine am ?_
 apply k1; clear k1; refine kp [0, 1, 2] ?_
 refine ai fun _ k2 => ?_
 refine ak hP hN rfl ?_
 (refine aj rfl fun _ k0 => ?_; simp only [zO, zT, acs, reduceCtorEq, aa, V, ad, ag, af, ae, Mly.av, ah]; (repeat refine an ?_); (try refine .inl ?_); apply k0; clear k0; simp only [zP, V])
 refine aj rfl fun _ k0 => ?_
 refine aK (h := aE (Ae m hv)) rfl rfl (by first | exact rfl | (simp only [ev, zP, aa, V]; exact rfl)) (by simp only [zV, acs, reduceCtorEq, aa, V, ad, ag, af, ae, Mly.av, ah]) ?_
 apply k0; clear k0; simp only [zP, V]
 iterate 6 (refine aj rfl fun _ k0 => ?_; simp only [zO, zT, acs, reduceCtorEq, aa, V, ad, ag, af, ae, Mly.av, ah]; (repeat refine an ?_); (try refine .inl ?_); apply k0; clear k0; simp only [zP, V])
 refine am ?_
 apply k2; clear k2; refine kp [0, 1, 2, 3, 4] ?_
 refine ai fun _ k3 => ?_
 refine ak hP hN rfl ?_
 iterate 3 (refine aj rfl fun _ k0 => ?_; simp only [zO, zT, acs, reduceCtorEq, aa, V, ad, ag, af, ae, Mly.av, ah]; (repeat refine an ?_); (try refine .inl ?_); apply k0; clear k0; simp only [zP, V])
 refine' aO (want := true) 7 rfl (m := 12) (by simp only [zP, aa, V]; exact rfl) (by kernel_rfl) rfl rfl rfl rfl rfl (fun hg4 => ?a4) ?b4 ?c4
 case a4 =>
  have hq4 := hg4; (try simp only [zB, reduceCtorEq] at hg4); simp only [zE]
  iterate 7 (refine bg rfl fun _ k0 => ?_; simp only [zO, zT, acs, reduceCtorEq, aa, V, ad, ag, af, ae, Mly.av, ah]; (repeat refine an ?_); (try refine .inl ?_); apply k0; clear k0; simp only [zP, V])
  (refine aj rfl fun _ k0 => ?_; simp only [zO, zT, acs, reduceCtorEq, aa, V, ad, ag, af, ae, Mly.av, ah]; (repeat refine an ?_); (try refine .inl ?_); apply k0; clear k0; simp only [zP, V])
  refine am ?_
  refine ⟨by simp only [zP, aa, V]; exact rfl, rfl, ?_, rfl⟩; (repeat refine aP rfl ?_); exact bo (by exact rfl) hq4
 case b4 => exact cr
 simp only [bb, aT]
 (refine aj rfl fun _ k0 => ?_; simp only [zO, zT, acs, reduceCtorEq, aa, V, ad, ag, af, ae, Mly.av, ah]; (repeat refine an ?_); (try refine .inl ?_); apply k0; clear k0; simp only [zP, V])
 refine am ?_
 apply k3; clear k3; refine kp [0, 1, 2, 3, 4] ?_
 refine aF ?_
 refine ⟨nr, _, rfl, ?_⟩; simp only [zF, zP, aa, V, Mly.av, ah]
 refine VLE.of_eq ?_
 refine congrArg (fun b => AV.one (AC.bool b)) ?_
 unfold mmB
 rw [decide_eq_true hv]
 simp
 try omega
theorem uW (m : Mly) (hv : ¬ aR m = 0) : bP Try.prog 44 [m.av] (.one (.bool (mmB m))) := by
 refine aS Try.func44 rfl (by kernel_rfl) (Nat.le_of_ble_eq_true rfl) rfl fun C hP hN hB => ?_
 replace hN : C.N = 21 := hN
 simp only [bf, V]
 refine ai fun _ k1 => ?_
 refine ak hP hN rfl ?_
 iterate 2 (refine aj rfl fun _ k0 => ?_; simp only [zO, zT, acs, reduceCtorEq, aa, V, ad, ag, af, ae, Mly.av, ah]; (repeat refine an ?_); (try refine .inl ?_); apply k0; clear k0; simp only [zP, V])
 refine am ?_
 apply k1; clear k1; refine kp [0, 1, 2] ?_
 refine ai fun _ k2 => ?_
 refine ak hP hN rfl ?_
 (refine aj rfl fun _ k0 => ?_; simp only [zO, zT, acs, reduceCtorEq, aa, V, ad, ag, af, ae, Mly.av, ah]; (repeat refine an ?_); (try refine .inl ?_); apply k0; clear k0; simp only [zP, V])
 refine aj rfl fun _ k0 => ?_
 refine aK (h := aE (Av m hv)) rfl rfl (by first | exact rfl | (simp only [ev, zP, aa, V]; exact rfl)) (by simp only [zV, acs, reduceCtorEq, aa, V, ad, ag, af, ae, Mly.av, ah]) ?_
 apply k0; clear k0; simp only [zP, V]
 iterate 6 (refine aj rfl fun _ k0 => ?_; simp only [zO, zT, acs, reduceCtorEq, aa, V, ad, ag, af, ae, Mly.av, ah]; (repeat refine an ?_); (try refine .inl ?_); apply k0; clear k0; simp only [zP, V])
 refine am ?_
 apply k2; clear k2; refine kp [0, 1, 2, 3, 4] ?_
 refine ai fun _ k3 => ?_
 refine ak hP hN rfl ?_
 iterate 3 (refine aj rfl fun _ k0 => ?_; simp only [zO, zT, acs, reduceCtorEq, aa, V, ad, ag, af, ae, Mly.av, ah]; (repeat refine an ?_); (try refine .inl ?_); apply k0; clear k0; simp only [zP, V])
 refine' aO (want := true) 7 rfl (m := 12) (by simp only [zP, aa, V]; exact rfl) (by kernel_rfl) rfl rfl rfl rfl rfl (fun hg4 => ?a4) ?b4 ?c4
 case a4 =>
  have hq4 := hg4; (try simp only [zB, reduceCtorEq] at hg4); simp only [zE]
  iterate 7 (refine bg rfl fun _ k0 => ?_; simp only [zO, zT, acs, reduceCtorEq, aa, V, ad, ag, af, ae, Mly.av, ah]; (repeat refine an ?_); (try refine .inl ?_); apply k0; clear k0; simp only [zP, V])
  (refine aj rfl fun _ k0 => ?_; simp only [zO, zT, acs, reduceCtorEq, aa, V, ad, ag, af, ae, Mly.av, ah]; (repeat refine an ?_); (try refine .inl ?_); apply k0; clear k0; simp only [zP, V])
  refine am ?_
  refine ⟨by simp only [zP, aa, V]; exact rfl, rfl, ?_, rfl⟩; (repeat refine aP rfl ?_); exact bo (by exact rfl) hq4
 case b4 => exact cr
 simp only [bb, aT]
 (refine aj rfl fun _ k0 => ?_; simp only [zO, zT, acs, reduceCtorEq, aa, V, ad, ag, af, ae, Mly.av, ah]; (repeat refine an ?_); (try refine .inl ?_); apply k0; clear k0; simp only [zP, V])
 refine am ?_
 apply k3; clear k3; refine kp [0, 1, 2, 3, 4] ?_
 refine aF ?_
 refine ⟨nr, _, rfl, ?_⟩; simp only [zF, zP, aa, V, Mly.av, ah]
 refine VLE.of_eq ?_
 refine congrArg (fun b => AV.one (AC.bool b)) ?_
 unfold mmB
 rw [decide_eq_false hv]
 simp [hv]
theorem x8 (m : Mly) : bP Try.prog 44 [m.av] (.one (.bool (mmB m))) := by
  by_cases hv : aR m = 0
  · exact vQ m hv
  · exact uW m hv
theorem xC (m : Mly) : bP Try.prog 25 [m.av] (.one (.int .i64 (fb m))) := by
 refine aS Try.func25 rfl (by kernel_rfl) (Nat.le_of_ble_eq_true rfl) rfl fun C hP hN hB => ?_
 replace hN : C.N = 12 := hN
 simp only [bf, V]
 refine ai fun _ k1 => ?_
 refine ak hP hN rfl ?_
 iterate 2 (refine aj rfl fun _ k0 => ?_; simp only [zO, zT, acs, reduceCtorEq, aa, V, ad, ag, af, ae, Mly.av]; (repeat refine an ?_); (try refine .inl ?_); apply k0; clear k0; simp only [zP, V])
 refine am ?_
 apply k1; clear k1; refine kp [0, 1, 2] ?_
 refine ai fun _ k2 => ?_
 refine ai fun _ k3 => ?_
 refine ak hP hN rfl ?_
 (refine aj rfl fun _ k0 => ?_; simp only [zO, zT, acs, reduceCtorEq, aa, V, ad, ag, af, ae, Mly.av]; (repeat refine an ?_); (try refine .inl ?_); apply k0; clear k0; simp only [zP, V])
 refine aj rfl fun _ k0 => ?_
 refine aK (h := aE (qA m)) rfl rfl (by first | exact rfl | (simp only [ev, zP, aa, V]; exact rfl)) (by simp only [zV, acs, reduceCtorEq, aa, V, ad, ag, af, ae, Mly.av]) ?_
 apply k0; clear k0; simp only [zP, V]
 (refine aj rfl fun _ k0 => ?_; simp only [zO, zT, acs, reduceCtorEq, aa, V, ad, ag, af, ae, Mly.av]; (repeat refine an ?_); (try refine .inl ?_); apply k0; clear k0; simp only [zP, V])
 refine am ?_
 apply k3; clear k3; refine kp [0, 1, 2, 3] ?_
 refine ai fun _ k4 => ?_
 refine ak hP hN rfl ?_
 iterate 2 (refine aj rfl fun _ k0 => ?_; simp only [zO, zT, acs, reduceCtorEq, aa, V, ad, ag, af, ae, Mly.av]; (repeat refine an ?_); (try refine .inl ?_); apply k0; clear k0; simp only [zP, V])
 refine am ?_
 apply k4; clear k4; refine kp [0, 1, 2, 3, 7] ?_
 refine cd (fun hc5 => ?_) (fun hc5 => ?_)
 ·(try simp only [zB, reduceCtorEq] at hc5)
  refine ai fun _ k6 => ?_
  refine ak hP hN rfl ?_
  iterate 2 (refine aj rfl fun _ k0 => ?_; simp only [zO, zT, acs, reduceCtorEq, aa, V, ad, ag, af, ae, Mly.av]; (repeat refine an ?_); (try refine .inl ?_); apply k0; clear k0; simp only [zP, V])
  refine am ?_
  apply k6; clear k6; refine kp [0, 1, 2, 3, 7] ?_
  refine aF ?_
  refine ⟨nr, _, rfl, ?_⟩; simp only [zF, zP, aa, V, Mly.av]
  refine VLE.of_eq ?_
  refine congrArg (fun n => AV.one (AC.int IntKind.i64 n)) ?_
  unfold fb
  symm
  first
  | (rw [if_pos (by omega)]; done)
  | (rw [if_neg (by omega), if_neg (by simp_all)]; done)
  | (rw [if_neg (by omega), if_pos (by simp_all)]; done)
 (try simp only [zB, reduceCtorEq] at hc5)
 refine ay ?_
 apply k2; clear k2; refine kp [0, 1, 2, 3, 7] ?_
 refine ai fun _ k7 => ?_
 refine ai fun _ k8 => ?_
 refine ak hP hN rfl ?_
 (refine aj rfl fun _ k0 => ?_; simp only [zO, zT, acs, reduceCtorEq, aa, V, ad, ag, af, ae, Mly.av]; (repeat refine an ?_); (try refine .inl ?_); apply k0; clear k0; simp only [zP, V])
 refine aj rfl fun _ k0 => ?_
 refine aK (h := aE (x8 m)) rfl rfl (by first | exact rfl | (simp only [ev, zP, aa, V]; exact rfl)) (by simp only [zV, acs, reduceCtorEq, aa, V, ad, ag, af, ae, Mly.av]) ?_
 apply k0; clear k0; simp only [zP, V]
 (refine aj rfl fun _ k0 => ?_; simp only [zO, zT, acs, reduceCtorEq, aa, V, ad, ag, af, ae, Mly.av]; (repeat refine an ?_); (try refine .inl ?_); apply k0; clear k0; simp only [zP, V])
 refine am ?_
 apply k8; clear k8; refine kp [0, 1, 2, 3, 7, 11] ?_
 refine cd (fun hc9 => ?_) (fun hc9 => ?_)
 ·(try simp only [zB, reduceCtorEq] at hc9)
  refine ai fun _ k10 => ?_
  refine ak hP hN rfl ?_
  (refine aj rfl fun _ k0 => ?_; simp only [zO, zT, acs, reduceCtorEq, aa, V, ad, ag, af, ae, Mly.av]; (repeat refine an ?_); (try refine .inl ?_); apply k0; clear k0; simp only [zP, V])
  refine am ?_
  apply k10; clear k10; refine kp [0, 1, 2, 3, 7, 11] ?_
  refine aF ?_
  refine ⟨nr, _, rfl, ?_⟩; simp only [zF, zP, aa, V, Mly.av]
  refine VLE.of_eq ?_
  refine congrArg (fun n => AV.one (AC.int IntKind.i64 n)) ?_
  unfold fb
  symm
  first
  | (rw [if_pos (by omega)]; done)
  | (rw [if_neg (by omega), if_neg (by simp_all)]; done)
  | (rw [if_neg (by omega), if_pos (by simp_all)]; done)
 (try simp only [zB, reduceCtorEq] at hc9)
 refine ay ?_
 apply k7; clear k7; refine kp [0, 1, 2, 3, 7, 11] ?_
 refine ai fun _ k11 => ?_
 refine ak hP hN rfl ?_
 (refine aj rfl fun _ k0 => ?_; simp only [zO, zT, acs, reduceCtorEq, aa, V, ad, ag, af, ae, Mly.av]; (repeat refine an ?_); (try refine .inl ?_); apply k0; clear k0; simp only [zP, V])
 refine am ?_
 apply k11; clear k11; refine kp [0, 1, 2, 3, 7, 11] ?_
 refine aF ?_
 refine ⟨nr, _, rfl, ?_⟩; simp only [zF, zP, aa, V, Mly.av]
 refine VLE.of_eq ?_
 refine congrArg (fun n => AV.one (AC.int IntKind.i64 n)) ?_
 unfold fb
 symm
 first
 | (rw [if_pos (by omega)]; done)
 | (rw [if_neg (by omega), if_neg (by simp_all)]; done)
 | (rw [if_neg (by omega), if_pos (by simp_all)]; done)
theorem xx (n : Nat) (hn : n ≤ 1000) : bP Try.prog 35 [.one (.int .i64 (n : Int))] (.one (.list (.int .i64) ((List.range n).map fun (i : Nat) => (i : Int)))) := by
 refine aS Try.func35 rfl (by kernel_rfl) (Nat.le_of_ble_eq_true rfl) rfl fun C hP hN hB => ?_
 replace hN : C.N = 15 := hN
 simp only [bf, V]
 refine ai fun _ k1 => ?_
 refine ak hP hN rfl ?_
 (refine aj rfl fun _ k0 => ?_; simp only [zO, zT, acs, reduceCtorEq, aa, V, ad, ag, af, ae]; (repeat refine an ?_); (try refine .inl ?_); apply k0; clear k0; simp only [zP, V])
 refine am ?_
 apply k1; clear k1; refine kp [0, 2] ?_
 refine ai fun _ k2 => ?_
 refine ak hP hN rfl ?_
 (refine aj rfl fun _ k0 => ?_; simp only [zO, zT, acs, reduceCtorEq, aa, V, ad, ag, af, ae]; (repeat refine an ?_); (try refine .inl ?_); apply k0; clear k0; simp only [zP, V])
 refine am ?_
 apply k2; clear k2; refine kp [0, 2, 3] ?_
 refine ai fun _ k3 => ?_
 refine ai fun _ k4 => ?_
 refine ak hP hN rfl ?_
 (refine aj rfl fun _ k0 => ?_; simp only [zO, zT, acs, reduceCtorEq, aa, V, ad, ag, af, ae]; (repeat refine an ?_); (try refine .inl ?_); apply k0; clear k0; simp only [zP, V])
 refine am ?_
 apply k4; clear k4; refine kp [0, 2, 3, 4] ?_
 refine aA ?_
 refine dZ 3 (.int .i64) 3 (by decide) rfl ?_; simp only [au, aG, aM, b6, Nat.zero_add, V]
 refine aY (fun n5 s5 => ∃ (k : Nat) (v : Nat), (k ≤ n) ∧ n5 = n - k ∧ s5 = { env := [(0, .one (.int .i64 (n : Int))), (2, .one .nils), (3, .one (.row 0 v)), (4, .one (.int .i64 (k : Int)))], L := [.row (.int .i64) 3 v ((List.range k).map fun (i : Nat) => (i : Int))] }) ?_ ?_
 ·exact ⟨_, _, ax [0, 2, 3, 4], 0, 0, Nat.zero_le _, rfl, rfl⟩
 rintro n5 s5 ⟨k, v, hk, rfl, rfl⟩
 refine ai fun _ k6 => ?_
 refine ai fun _ k7 => ?_
 refine ak hP hN rfl ?_
 iterate 3 (refine aj rfl fun _ k0 => ?_; simp only [zO, zT, acs, reduceCtorEq, aa, V, ad, ag, af, ae]; (repeat refine an ?_); (try refine .inl ?_); apply k0; clear k0; simp only [zP, V])
 refine am ?_
 apply k7; clear k7; refine kp [0, 2, 3, 4, 7] ?_
 refine cd (fun hc8 => ?_) (fun hc8 => ?_)
 ·(try simp only [zB, reduceCtorEq] at hc8)
  refine ay ?_
  apply k6; clear k6; refine kp [0, 2, 3, 4, 7] ?_
  refine ai fun _ k9 => ?_
  refine aA ?_
  have hrl : ((List.range k).map fun (i : Nat) => (i : Int)).length = k := by simp
  refine ak hP hN rfl ?_
  iterate 5 (refine aj rfl fun _ k0 => ?_; simp only [zO, zT, acs, reduceCtorEq, aa, V, ad, ag, af, ae]; (repeat refine an ?_); (try refine .inl ?_); apply k0; clear k0; simp only [zP, V])
  refine am ?_
  apply k9; clear k9; refine kp [0, 2, 3, 4, 7] ?_
  refine ak hP hN rfl ?_
  iterate 3 (refine aj rfl fun _ k0 => ?_; simp only [zO, zT, acs, reduceCtorEq, aa, V, ad, ag, af, ae]; (repeat refine an ?_); (try refine .inl ?_); apply k0; clear k0; simp only [zP, V])
  refine am ?_
  refine ⟨_, _, ?_, ax [0, 2, 3, 4], k + 1, v + 1, by omega, rfl, ?_⟩
  · omega
  · rw [List.range_succ, List.map_append]; rfl
 (try simp only [zB, reduceCtorEq] at hc8)
 refine aV ?_
 apply k3; clear k3; refine kp [0, 2, 3, 4, 7] ?_
 refine ai fun _ k10 => ?_
 refine cq 0 rfl ?_; simp only [aH, bh, zS, aa, and_self, and_true, true_and, and_false, false_and, if_true, if_false, eq_self, reduceCtorEq, Nat.one_ne_zero, Nat.zero_ne_one]
 have hkn : k = n := by omega
 rw [hkn]
 refine ak hP hN rfl ?_
 iterate 2 (refine aj rfl fun _ k0 => ?_; simp only [zO, zT, acs, reduceCtorEq, aa, V, ad, ag, af, ae]; (repeat refine an ?_); (try refine .inl ?_); apply k0; clear k0; simp only [zP, V])
 refine am ?_
 apply k10; clear k10; refine kp [0, 2, 3, 4, 7] ?_
 refine aF ?_
 refine ⟨nr, _, rfl, ?_⟩; simp only [zF, zP, aa, V]
 exact VLE.of_eq rfl
theorem vO (m : Mly) (l : List Int) (a : Int) (hm : MOK m) (hs : cK m l) (ha : 0 ≤ a ∧ a < m.inp) (hl : l.length ≤ 1000) : bP Try.prog 58 [m.av, .one (.list (.int .i64) l), .one (.int .i64 a)] (.one (.list (.int .i64) (cu m l a))) := by
 refine aS Try.func58 rfl (by kernel_rfl) (Nat.le_of_ble_eq_true rfl) rfl fun C hP hN hB => ?_
 replace hN : C.N = 30 := hN
 simp only [bf, V]
 refine ai fun _ k1 => ?_
 refine ak hP hN rfl ?_
 iterate 2 (refine aj rfl fun _ k0 => ?_; simp only [zO, zT, acs, reduceCtorEq, aa, V, ad, ag, af, ae, Mly.av, ah]; (repeat refine an ?_); (try refine .inl ?_); apply k0; clear k0; simp only [zP, V])
 refine am ?_
 apply k1; clear k1; refine kp [0, 1, 2, 3, 6] ?_
 refine ai fun _ k2 => ?_
 refine ak hP hN rfl ?_
 (refine aj rfl fun _ k0 => ?_; simp only [zO, zT, acs, reduceCtorEq, aa, V, ad, ag, af, ae, Mly.av, ah]; (repeat refine an ?_); (try refine .inl ?_); apply k0; clear k0; simp only [zP, V])
 refine am ?_
 apply k2; clear k2; refine kp [0, 1, 2, 3, 6, 7] ?_
 refine ai fun _ k3 => ?_
 refine ai fun _ k4 => ?_
 refine ak hP hN rfl ?_
 (refine aj rfl fun _ k0 => ?_; simp only [zO, zT, acs, reduceCtorEq, aa, V, ad, ag, af, ae, Mly.av, ah]; (repeat refine an ?_); (try refine .inl ?_); apply k0; clear k0; simp only [zP, V])
 refine am ?_
 apply k4; clear k4; refine kp [0, 1, 2, 3, 6, 7, 8] ?_
 refine aA ?_
 refine dZ 7 (.int .i64) 3 (by decide) rfl ?_; simp only [au, aG, aM, b6, Nat.zero_add, V]
 refine aY (fun n5 s5 => ∃ (k : Nat) (v : Nat), (k ≤ l.length) ∧ n5 = l.length - k ∧ s5 = { env := [(1, .one (.list (.int .i64) l)), (2, .one (.int .i64 a)), (3, .one (.ptr 0 0 0 0)), (6, .one .nils), (7, .one (.row 1 v)), (8, .one (.int .i64 (k : Int)))], L := [.vars 24 [.int .i64 m.inp, .int .i64 m.st, .list (.list (.int .i64)) m.nx, .list (.list (.int .i64)) m.ot], .row (.int .i64) 3 v (cu m (l.take k) a)] }) ?_ ?_
 ·exact ⟨_, _, ax [1, 2, 3, 6, 7, 8], 0, 0, Nat.zero_le _, rfl, rfl⟩
 rintro n5 s5 ⟨k, v, hk, rfl, rfl⟩
 refine ai fun _ k6 => ?_
 refine ai fun _ k7 => ?_
 refine ak hP hN rfl ?_
 iterate 4 (refine aj rfl fun _ k0 => ?_; simp only [zO, zT, acs, reduceCtorEq, aa, V, ad, ag, af, ae, Mly.av, ah]; (repeat refine an ?_); (try refine .inl ?_); apply k0; clear k0; simp only [zP, V])
 refine am ?_
 apply k7; clear k7; refine kp [1, 2, 3, 6, 7, 8, 12] ?_
 refine cd (fun hc8 => ?_) (fun hc8 => ?_)
 ·(try simp only [zB, reduceCtorEq] at hc8)
  refine ay ?_
  apply k6; clear k6; refine kp [1, 2, 3, 6, 7, 8, 12] ?_
  refine ai fun _ k9 => ?_
  refine aA ?_
  have hkl : k < l.length := by omega
  have hsk := hs _ (bl hkl)
  have q1 := hm.rl (l.getD k 0).toNat (by omega)
  have hnl : (cu m (l.take k) a).length = k := by unfold cu; rw [aD, List.length_take]; omega
  refine bn hP hN Try.mixed rfl ?_
  iterate 15 (refine aj rfl fun _ k0 => ?_; simp only [zO, zT, acs, reduceCtorEq, aa, V, ad, ag, af, ae, Mly.av, ah]; (repeat refine an ?_); (try refine .inl ?_); apply k0; clear k0; simp only [zP, V])
  refine am ?_
  refine ⟨by kernel_rfl, ?_⟩
  apply k9; clear k9; refine kp [1, 2, 3, 6, 7, 8, 12] ?_
  refine ak hP hN rfl ?_
  iterate 3 (refine aj rfl fun _ k0 => ?_; simp only [zO, zT, acs, reduceCtorEq, aa, V, ad, ag, af, ae, Mly.av, ah]; (repeat refine an ?_); (try refine .inl ?_); apply k0; clear k0; simp only [zP, V])
  refine am ?_
  refine ⟨_, _, ?_, ax [1, 2, 3, 6, 7, 8], k + 1, v + 1, by omega, rfl, ?_⟩
  · omega
  · rw [nj hkl]; rfl
 (try simp only [zB, reduceCtorEq] at hc8)
 refine aV ?_
 apply k3; clear k3; refine kp [1, 2, 3, 6, 7, 8, 12] ?_
 refine ai fun _ k10 => ?_
 refine cq 1 rfl ?_; simp only [aH, bh, zS, aa, and_self, and_true, true_and, and_false, false_and, if_true, if_false, eq_self, reduceCtorEq, Nat.one_ne_zero, Nat.zero_ne_one]
 have hkw : k = l.length := by omega
 rw [hkw, aI]
 refine ak hP hN rfl ?_
 iterate 2 (refine aj rfl fun _ k0 => ?_; simp only [zO, zT, acs, reduceCtorEq, aa, V, ad, ag, af, ae, Mly.av, ah]; (repeat refine an ?_); (try refine .inl ?_); apply k0; clear k0; simp only [zP, V])
 refine am ?_
 apply k10; clear k10; refine kp [1, 2, 3, 6, 7, 8, 12] ?_
 refine aF ?_
 refine ⟨nr, _, rfl, ?_⟩; simp only [zF, zP, aa, V, Mly.av, ah]
 exact VLE.of_eq rfl
set_option maxHeartbeats 1000000 in
theorem vK (m : Mly) (l : List Int) (a : Int) (hm : MOK m) (hs : cK m l) (ha : 0 ≤ a ∧ a < m.inp) (hl : l.length ≤ 1000) : bP Try.prog 55 [m.av, .one (.list (.int .i64) l), .one (.int .i64 a)] (.one (.list (.int .i64) (aC (ouL m l a)))) := by
 have ol := hm.ol
 refine aS Try.func55 rfl (by kernel_rfl) (Nat.le_of_ble_eq_true rfl) rfl fun C hP hN hB => ?_
 replace hN : C.N = 71 := hN
 simp only [bf, V]
 refine ai fun _ k1 => ?_
 refine ak hP hN rfl ?_
 iterate 2 (refine aj rfl fun _ k0 => ?_; simp only [zO, zT, acs, reduceCtorEq, aa, V, ad, ag, af, ae, Mly.av, ah]; (repeat refine an ?_); (try refine .inl ?_); apply k0; clear k0; simp only [zP, V])
 refine am ?_
 apply k1; clear k1; refine kp [0, 1, 2, 3, 6] ?_
 refine ai fun _ k2 => ?_
 refine ak hP hN rfl ?_
 (refine aj rfl fun _ k0 => ?_; simp only [zO, zT, acs, reduceCtorEq, aa, V, ad, ag, af, ae, Mly.av, ah]; (repeat refine an ?_); (try refine .inl ?_); apply k0; clear k0; simp only [zP, V])
 refine am ?_
 apply k2; clear k2; refine kp [0, 1, 2, 3, 6, 7] ?_
 refine ai fun _ k3 => ?_
 refine ai fun _ k4 => ?_
 refine ak hP hN rfl ?_
 (refine aj rfl fun _ k0 => ?_; simp only [zO, zT, acs, reduceCtorEq, aa, V, ad, ag, af, ae, Mly.av, ah]; (repeat refine an ?_); (try refine .inl ?_); apply k0; clear k0; simp only [zP, V])
 refine am ?_
 apply k4; clear k4; refine kp [0, 1, 2, 3, 6, 7, 8] ?_
 refine aA ?_
 refine o0 7 (v' := .one (.list (.int .i64) [])) rfl (jS (bq rfl)) ?_
 refine aY (fun n5 s5 => ∃ (k : Nat), (k ≤ l.length) ∧ n5 = l.length - k ∧ s5 = { env := [(1, .one (.list (.int .i64) l)), (2, .one (.int .i64 a)), (3, .one (.ptr 0 0 0 0)), (6, .one .nils), (7, .one (.list (.int .i64) (aC (ouL m (l.take k) a)))), (8, .one (.int .i64 (k : Int)))], L := [.vars 24 [.int .i64 m.inp, .int .i64 m.st, .list (.list (.int .i64)) m.nx, .list (.list (.int .i64)) m.ot]] }) ?_ ?_
 ·refine ⟨_, _, ax [1, 2, 3, 6, 7, 8], 0, Nat.zero_le _, rfl, ?_⟩
  rw [show ouL m (l.take 0) a = [] from rfl, wW]; rfl
 rintro n5 s5 ⟨k, hk, rfl, rfl⟩
 refine ai fun _ k6 => ?_
 refine ai fun _ k7 => ?_
 refine ak hP hN rfl ?_
 iterate 4 (refine aj rfl fun _ k0 => ?_; simp only [zO, zT, acs, reduceCtorEq, aa, V, ad, ag, af, ae, Mly.av, ah]; (repeat refine an ?_); (try refine .inl ?_); apply k0; clear k0; simp only [zP, V])
 refine am ?_
 apply k7; clear k7; refine kp [1, 2, 3, 6, 7, 8, 15] ?_
 refine cd (fun hc8 => ?_) (fun hc8 => ?_)
 ·(try simp only [zB, reduceCtorEq] at hc8)
  refine ay ?_
  apply k6; clear k6; refine kp [1, 2, 3, 6, 7, 8, 15] ?_
  refine ai fun _ k9 => ?_
  refine aA ?_
  refine ai fun _ k10 => ?_
  have hkl : k < l.length := by omega
  have hsk := hs _ (bl hkl)
  have q2 := hm.ql (l.getD k 0).toNat (by omega)
  have hul := fP (ouL m (l.take k) a)
  have hol : (ouL m (l.take k) a).length = k := by unfold ouL; rw [aD, List.length_take]; omega
  have hor := (dn (ouL m (l.take k) a)).1
  refine bn hP hN Try.mixed rfl ?_
  iterate 12 (refine aj rfl fun _ k0 => ?_; simp only [zO, zT, acs, reduceCtorEq, aa, V, ad, ag, af, ae, Mly.av, ah]; (repeat refine an ?_); (try refine .inl ?_); apply k0; clear k0; simp only [zP, V])
  refine am ?_
  refine ⟨by kernel_rfl, ?_⟩
  apply k10; clear k10; refine kp [1, 2, 3, 6, 7, 8, 9, 15] ?_
  refine ai fun _ k11 => ?_
  refine ak hP hN rfl ?_
  (refine aj rfl fun _ k0 => ?_; simp only [zO, zT, acs, reduceCtorEq, aa, V, ad, ag, af, ae, Mly.av, ah]; (repeat refine an ?_); (try refine .inl ?_); apply k0; clear k0; simp only [zP, V])
  refine am ?_
  apply k11; clear k11; refine kp [1, 2, 3, 6, 7, 8, 9, 10, 15] ?_
  refine ai fun _ k12 => ?_
  refine aA ?_
  refine aY (fun n13 s13 => ∃ (j : Nat), (j ≤ (aC (ouL m (l.take k) a)).length) ∧ (∀ q, q < j → (aC (ouL m (l.take k) a)).getD q 0 < (m.out (l.getD k 0) a)) ∧ n13 = (aC (ouL m (l.take k) a)).length - j ∧ s13 = { env := [(1, .one (.list (.int .i64) l)), (2, .one (.int .i64 a)), (3, .one (.ptr 0 0 0 0)), (6, .one .nils), (7, .one (.list (.int .i64) (aC (ouL m (l.take k) a)))), (8, .one (.int .i64 (k : Int))), (9, .one (.int .i64 (m.out (l.getD k 0) a))), (10, .one (.int .i64 (j : Int)))], L := [.vars 24 [.int .i64 m.inp, .int .i64 m.st, .list (.list (.int .i64)) m.nx, .list (.list (.int .i64)) m.ot]] }) ?_ ?_
  ·exact ⟨_, _, ax [1, 2, 3, 6, 7, 8, 9, 10], 0, Nat.zero_le _, fun q h => by omega, rfl, rfl⟩
  rintro n13 s13 ⟨j, hj, hq, rfl, rfl⟩
  refine ai fun _ k14 => ?_
  refine ai fun _ k15 => ?_
  refine ak hP hN rfl ?_
  iterate 5 (refine aj rfl fun _ k0 => ?_; simp only [zO, zT, acs, reduceCtorEq, aa, V, ad, ag, af, ae, Mly.av, ah]; (repeat refine an ?_); (try refine .inl ?_); apply k0; clear k0; simp only [zP, V])
  refine' aO (want := true) 6 rfl (m := 33) (by simp only [zP, aa, V]; exact rfl) (by kernel_rfl) rfl rfl rfl rfl rfl (fun hg16 => ?a16) ?b16 ?c16
  case a16 =>
   have hq16 := hg16; (try simp only [zB, reduceCtorEq] at hg16); simp only [zE]
   iterate 6 (refine bg rfl fun _ k0 => ?_; simp only [zO, zT, acs, reduceCtorEq, aa, V, ad, ag, af, ae, Mly.av, ah]; (repeat refine an ?_); (try refine .inl ?_); apply k0; clear k0; simp only [zP, V])
   (refine aj rfl fun _ k0 => ?_; simp only [zO, zT, acs, reduceCtorEq, aa, V, ad, ag, af, ae, Mly.av, ah]; (repeat refine an ?_); (try refine .inl ?_); apply k0; clear k0; simp only [zP, V])
   refine am ?_
   refine ⟨by simp only [zP, aa, V]; exact rfl, rfl, ?_, rfl⟩; (repeat refine aP rfl ?_); exact bo (by exact rfl) hq16
  case b16 => exact cr
  simp only [bb, aT]
  refine am ?_
  apply k15; clear k15; refine kp [1, 2, 3, 6, 7, 8, 9, 10, 40] ?_
  refine cd (fun hc17 => ?_) (fun hc17 => ?_)
  ·(try simp only [zB, reduceCtorEq] at hc17)
   have hlt : j < (aC (ouL m (l.take k) a)).length ∧ (aC (ouL m (l.take k) a)).getD j 0 < (m.out (l.getD k 0) a) := by have h9 := hc17; simpa using h9
   refine ay ?_
   apply k14; clear k14; refine kp [1, 2, 3, 6, 7, 8, 9, 10, 40] ?_
   refine aA ?_
   refine ak hP hN rfl ?_
   iterate 3 (refine aj rfl fun _ k0 => ?_; simp only [zO, zT, acs, reduceCtorEq, aa, V, ad, ag, af, ae, Mly.av, ah]; (repeat refine an ?_); (try refine .inl ?_); apply k0; clear k0; simp only [zP, V])
   refine am ?_
   refine ⟨_, _, ?_, ax [1, 2, 3, 6, 7, 8, 9, 10], j + 1, by omega, fun q h2 => ?_, rfl, rfl⟩
   · omega
   · by_cases e : q = j
     · rw [e]; exact hlt.2
     · exact hq q (by omega)
  (try simp only [zB, reduceCtorEq] at hc17)
  have hge : j < (aC (ouL m (l.take k) a)).length → ¬ (aC (ouL m (l.take k) a)).getD j 0 < (m.out (l.getD k 0) a) := by have h9 := hc17; intro h8; rcases h9 with h9 | h9 <;> omega
  refine aV ?_
  apply k12; clear k12; refine kp [1, 2, 3, 6, 7, 8, 9, 10, 40] ?_
  refine ai fun _ k18 => ?_
  refine ai fun _ k19 => ?_
  refine ak hP hN rfl ?_
  iterate 5 (refine aj rfl fun _ k0 => ?_; simp only [zO, zT, acs, reduceCtorEq, aa, V, ad, ag, af, ae, Mly.av, ah]; (repeat refine an ?_); (try refine .inl ?_); apply k0; clear k0; simp only [zP, V])
  refine' aO (want := true) 6 rfl (m := 47) (by simp only [zP, aa, V]; exact rfl) (by kernel_rfl) rfl rfl rfl rfl rfl (fun hg20 => ?a20) ?b20 ?c20
  case a20 =>
   have hq20 := hg20; (try simp only [zB, reduceCtorEq] at hg20); simp only [zE]
   iterate 6 (refine bg rfl fun _ k0 => ?_; simp only [zO, zT, acs, reduceCtorEq, aa, V, ad, ag, af, ae, Mly.av, ah]; (repeat refine an ?_); (try refine .inl ?_); apply k0; clear k0; simp only [zP, V])
   (refine aj rfl fun _ k0 => ?_; simp only [zO, zT, acs, reduceCtorEq, aa, V, ad, ag, af, ae, Mly.av, ah]; (repeat refine an ?_); (try refine .inl ?_); apply k0; clear k0; simp only [zP, V])
   refine am ?_
   refine ⟨by simp only [zP, aa, V]; exact rfl, rfl, ?_, rfl⟩; (repeat refine aP rfl ?_); exact bo (by exact rfl) hq20
  case b20 => exact cr
  simp only [bb, aT]
  refine am ?_
  apply k19; clear k19; refine kp [1, 2, 3, 6, 7, 8, 9, 10, 40, 54] ?_
  refine cd (fun hc21 => ?_) (fun hc21 => ?_)
  ·(try simp only [zB, reduceCtorEq] at hc21)
   have hin : (m.out (l.getD k 0) a) ∈ (aC (ouL m (l.take k) a)) := by have h9 := hc21; rw [← h9.2]; exact bl (by omega)
   refine aV ?_
   apply k9; clear k9; refine kp [1, 2, 3, 6, 7, 8, 9, 10, 40, 54] ?_
   refine ak hP hN rfl ?_
   iterate 3 (refine aj rfl fun _ k0 => ?_; simp only [zO, zT, acs, reduceCtorEq, aa, V, ad, ag, af, ae, Mly.av, ah]; (repeat refine an ?_); (try refine .inl ?_); apply k0; clear k0; simp only [zP, V])
   refine am ?_
   first
   | (refine ⟨_, _, ?_, ax [1, 2, 3, 6, 7, 8], k + 1, by omega, rfl, ?_⟩
      · omega
      · rw [gR hkl, jj, qC hin]; rfl)
   | (refine ⟨_, _, ?_, ax [1, 2, 3, 6, 7, 8], k + 1, by omega, rfl, ?_⟩
      · omega
      · rw [gR hkl, jj, hsp]; rfl)
  (try simp only [zB, reduceCtorEq] at hc21)
  have hgt : j < (aC (ouL m (l.take k) a)).length → (m.out (l.getD k 0) a) < (aC (ouL m (l.take k) a)).getD j 0 := by have h9 := hc21; have h7 := hge; intro h8; have h6 := h7 h8; rcases h9 with h9 | h9 <;> omega
  refine ay ?_
  apply k18; clear k18; refine kp [1, 2, 3, 6, 7, 8, 9, 10, 40, 54] ?_
  refine ai fun _ k22 => ?_
  refine ak hP hN rfl ?_
  (refine aj rfl fun _ k0 => ?_; simp only [zO, zT, acs, reduceCtorEq, aa, V, ad, ag, af, ae, Mly.av, ah]; (repeat refine an ?_); (try refine .inl ?_); apply k0; clear k0; simp only [zP, V])
  refine am ?_
  apply k22; clear k22; refine kp [1, 2, 3, 6, 7, 8, 9, 10, 11, 40, 54] ?_
  refine ai fun _ k23 => ?_
  refine dZ 11 (.int .i64) 3 (by decide) rfl ?_; simp only [au, aG, aM, b6, Nat.zero_add, V]
  have hsp := ve (o := (m.out (l.getD k 0) a)) hor hj hq hgt
  have ht1 : ((aC (ouL m (l.take k) a)).take j).length = j := by rw [List.length_take]; omega
  have ht2 : ((aC (ouL m (l.take k) a)).drop j).length = (aC (ouL m (l.take k) a)).length - j := List.length_drop
  refine ak hP hN rfl ?_
  iterate 3 (refine aj rfl fun _ k0 => ?_; simp only [zO, zT, acs, reduceCtorEq, aa, V, ad, ag, af, ae, Mly.av, ah]; (repeat refine an ?_); (try refine .inl ?_); apply k0; clear k0; simp only [zP, V])
  (refine aj rfl fun _ k0 => ?_; simp only [zE, op1, ev, lkp, cY, bK, gz, bnd, Ty.size, cj, eW, dW, cE, cW, eh, Nat.div_one, cH, d5, br, dite_true, reduceCtorEq, aa, V, ad, ag, af, ae, Try.el41, Try.td3, Try.td41, Mly.av, ah]; (repeat refine an ?_); (try refine .inl ?_); apply k0; clear k0; simp only [zP, V])
  iterate 2 (refine aj rfl fun _ k0 => ?_; simp only [zO, zT, acs, reduceCtorEq, aa, V, ad, ag, af, ae, Mly.av, ah]; (repeat refine an ?_); (try refine .inl ?_); apply k0; clear k0; simp only [zP, V])
  refine am ?_
  apply k23; clear k23; refine kp [1, 2, 3, 6, 7, 8, 9, 10, 11, 40, 54] ?_
  refine ai fun _ k24 => ?_
  refine ak hP hN rfl ?_
  iterate 5 (refine aj rfl fun _ k0 => ?_; simp only [zO, zT, acs, reduceCtorEq, aa, V, ad, ag, af, ae, Mly.av, ah, aq, ht1]; (repeat refine an ?_); (try refine .inl ?_); apply k0; clear k0; simp only [zP, V])
  refine am ?_
  apply k24; clear k24; refine kp [1, 2, 3, 6, 7, 8, 9, 10, 11, 40, 54] ?_
  refine ai fun _ k25 => ?_
  refine ak hP hN rfl ?_
  iterate 3 (refine aj rfl fun _ k0 => ?_; simp only [zO, zT, acs, reduceCtorEq, aa, V, ad, ag, af, ae, Mly.av, ah, aI, aq, ht1, ht2, au, aG]; (repeat refine an ?_); (try refine .inl ?_); apply k0; clear k0; simp only [zP, V, aI])
  (refine aj rfl fun _ k0 => ?_; simp only [zE, op1, ev, lkp, cY, bK, gz, bnd, Ty.size, cj, eW, dW, cE, cW, eh, Nat.div_one, cH, d5, br, dite_true, reduceCtorEq, aa, V, ad, ag, af, ae, Try.el41, Try.td3, Try.td41, Mly.av, ah, aI, aq, ht1, ht2, au, aG]; (repeat refine an ?_); (try refine .inl ?_); apply k0; clear k0; simp only [zP, V, aI])
  iterate 2 (refine aj rfl fun _ k0 => ?_; simp only [zO, zT, acs, reduceCtorEq, aa, V, ad, ag, af, ae, Mly.av, ah, aI, aq, ht1, ht2, au, aG]; (repeat refine an ?_); (try refine .inl ?_); apply k0; clear k0; simp only [zP, V, aI])
  refine am ?_
  apply k25; clear k25; refine kp [1, 2, 3, 6, 7, 8, 9, 10, 11, 40, 54] ?_
  refine cq 1 rfl ?_; simp only [aH, bh, zS, aa, and_self, and_true, true_and, and_false, false_and, if_true, if_false, eq_self, reduceCtorEq, Nat.one_ne_zero, Nat.zero_ne_one]
  refine cP (n := 1) (L1 := [_]) rfl rfl (by rw [hB]; decide) rfl rfl ?_
  refine ak hP hN rfl ?_
  iterate 2 (refine aj rfl fun _ k0 => ?_; simp only [zO, zT, acs, reduceCtorEq, aa, V, ad, ag, af, ae, Mly.av, ah]; (repeat refine an ?_); (try refine .inl ?_); apply k0; clear k0; simp only [zP, V])
  refine am ?_
  apply k9; clear k9; refine kp [1, 2, 3, 6, 7, 8, 9, 10, 11, 40, 54] ?_
  refine ak hP hN rfl ?_
  iterate 3 (refine aj rfl fun _ k0 => ?_; simp only [zO, zT, acs, reduceCtorEq, aa, V, ad, ag, af, ae, Mly.av, ah]; (repeat refine an ?_); (try refine .inl ?_); apply k0; clear k0; simp only [zP, V])
  refine am ?_
  first
  | (refine ⟨_, _, ?_, ax [1, 2, 3, 6, 7, 8], k + 1, by omega, rfl, ?_⟩
     · omega
     · rw [gR hkl, jj, qC hin]; rfl)
  | (refine ⟨_, _, ?_, ax [1, 2, 3, 6, 7, 8], k + 1, by omega, rfl, ?_⟩
     · omega
     · rw [gR hkl, jj, hsp]; rfl)
 (try simp only [zB, reduceCtorEq] at hc8)
 refine aV ?_
 apply k3; clear k3; refine kp [1, 2, 3, 6, 7, 8, 15] ?_
 refine ai fun _ k26 => ?_
 have hkw : k = l.length := by omega
 rw [hkw, aI]
 refine ak hP hN rfl ?_
 iterate 2 (refine aj rfl fun _ k0 => ?_; simp only [zO, zT, acs, reduceCtorEq, aa, V, ad, ag, af, ae, Mly.av, ah]; (repeat refine an ?_); (try refine .inl ?_); apply k0; clear k0; simp only [zP, V])
 refine am ?_
 apply k26; clear k26; refine kp [1, 2, 3, 6, 7, 8, 15] ?_
 refine aF ?_
 refine ⟨nr, _, rfl, ?_⟩; simp only [zF, zP, aa, V, Mly.av, ah]
 exact VLE.of_eq rfl
theorem vf (m : Mly) (l : List Int) (a o : Int) (hm : MOK m) (hs : cK m l) (ha : 0 ≤ a ∧ a < m.inp) (hl : l.length ≤ 1000) : bP Try.prog 56 [m.av, .one (.list (.int .i64) l), .one (.int .i64 a), .one (.int .i64 o)] (.one (.list (.int .i64) (ptL m l a o l.length))) := by
 have ol := hm.ol
 refine aS Try.func56 rfl (by kernel_rfl) (Nat.le_of_ble_eq_true rfl) rfl fun C hP hN hB => ?_
 replace hN : C.N = 35 := hN
 simp only [bf, V]
 refine ai fun _ k1 => ?_
 refine ak hP hN rfl ?_
 iterate 2 (refine aj rfl fun _ k0 => ?_; simp only [zO, zT, acs, reduceCtorEq, aa, V, ad, ag, af, ae, Mly.av, ah]; (repeat refine an ?_); (try refine .inl ?_); apply k0; clear k0; simp only [zP, V])
 refine am ?_
 apply k1; clear k1; refine kp [0, 1, 2, 3, 4, 8] ?_
 refine ai fun _ k2 => ?_
 refine ak hP hN rfl ?_
 (refine aj rfl fun _ k0 => ?_; simp only [zO, zT, acs, reduceCtorEq, aa, V, ad, ag, af, ae, Mly.av, ah]; (repeat refine an ?_); (try refine .inl ?_); apply k0; clear k0; simp only [zP, V])
 refine am ?_
 apply k2; clear k2; refine kp [0, 1, 2, 3, 4, 8, 9] ?_
 refine ai fun _ k3 => ?_
 refine ai fun _ k4 => ?_
 refine ak hP hN rfl ?_
 (refine aj rfl fun _ k0 => ?_; simp only [zO, zT, acs, reduceCtorEq, aa, V, ad, ag, af, ae, Mly.av, ah]; (repeat refine an ?_); (try refine .inl ?_); apply k0; clear k0; simp only [zP, V])
 refine am ?_
 apply k4; clear k4; refine kp [0, 1, 2, 3, 4, 8, 9, 10] ?_
 refine aA ?_
 refine dZ 9 (.int .i64) 3 (by decide) rfl ?_; simp only [au, aG, aM, b6, Nat.zero_add, V]
 refine aY (fun n5 s5 => ∃ (k : Nat) (v : Nat), (k ≤ l.length) ∧ n5 = l.length - k ∧ s5 = { env := [(1, .one (.list (.int .i64) l)), (2, .one (.int .i64 a)), (3, .one (.int .i64 o)), (4, .one (.ptr 0 0 0 0)), (8, .one .nils), (9, .one (.row 1 v)), (10, .one (.int .i64 (k : Int)))], L := [.vars 24 [.int .i64 m.inp, .int .i64 m.st, .list (.list (.int .i64)) m.nx, .list (.list (.int .i64)) m.ot], .row (.int .i64) 3 v (ptL m l a o k)] }) ?_ ?_
 ·exact ⟨_, _, ax [1, 2, 3, 4, 8, 9, 10], 0, 0, Nat.zero_le _, rfl, rfl⟩
 rintro n5 s5 ⟨k, v, hk, rfl, rfl⟩
 refine ai fun _ k6 => ?_
 refine ai fun _ k7 => ?_
 refine ak hP hN rfl ?_
 iterate 4 (refine aj rfl fun _ k0 => ?_; simp only [zO, zT, acs, reduceCtorEq, aa, V, ad, ag, af, ae, Mly.av, ah]; (repeat refine an ?_); (try refine .inl ?_); apply k0; clear k0; simp only [zP, V])
 refine am ?_
 apply k7; clear k7; refine kp [1, 2, 3, 4, 8, 9, 10, 14] ?_
 refine cd (fun hc8 => ?_) (fun hc8 => ?_)
 ·(try simp only [zB, reduceCtorEq] at hc8)
  refine ay ?_
  apply k6; clear k6; refine kp [1, 2, 3, 4, 8, 9, 10, 14] ?_
  refine ai fun _ k9 => ?_
  refine aA ?_
  refine ai fun _ k10 => ?_
  have hkl : k < l.length := by omega
  have hsk := hs _ (bl hkl)
  have q2 := hm.ql (l.getD k 0).toNat (by omega)
  have hnl := lD m l a o k
  refine bn hP hN Try.mixed rfl ?_
  iterate 13 (refine aj rfl fun _ k0 => ?_; simp only [zO, zT, acs, reduceCtorEq, aa, V, ad, ag, af, ae, Mly.av, ah]; (repeat refine an ?_); (try refine .inl ?_); apply k0; clear k0; simp only [zP, V])
  refine am ?_
  refine ⟨by kernel_rfl, ?_⟩
  apply k10; clear k10; refine kp [1, 2, 3, 4, 8, 9, 10, 14, 29] ?_
  refine cd (fun hc11 => ?_) (fun hc11 => ?_)
  ·(try simp only [zB, reduceCtorEq] at hc11)
   have hy : m.out (l.getD k 0) a = o := by have h9 := hc11; unfold Mly.out; simpa using h9
   refine ak hP hN rfl ?_
   iterate 5 (refine aj rfl fun _ k0 => ?_; simp only [zO, zT, acs, reduceCtorEq, aa, V, ad, ag, af, ae, Mly.av, ah]; (repeat refine an ?_); (try refine .inl ?_); apply k0; clear k0; simp only [zP, V])
   refine am ?_
   apply k9; clear k9; refine kp [1, 2, 3, 4, 8, 9, 10, 14, 29] ?_
   refine ak hP hN rfl ?_
   iterate 3 (refine aj rfl fun _ k0 => ?_; simp only [zO, zT, acs, reduceCtorEq, aa, V, ad, ag, af, ae, Mly.av, ah]; (repeat refine an ?_); (try refine .inl ?_); apply k0; clear k0; simp only [zP, V])
   refine am ?_
   first
   | (refine ⟨_, _, ?_, ax [1, 2, 3, 4, 8, 9, 10], k + 1, v + 1, by omega, rfl, ?_⟩
      · omega
      · rw [lU hy]; rfl)
   | (refine ⟨_, _, ?_, ax [1, 2, 3, 4, 8, 9, 10], k + 1, v, by omega, rfl, ?_⟩
      · omega
      · rw [om hy]; rfl)
  (try simp only [zB, reduceCtorEq] at hc11)
  have hy : ¬ m.out (l.getD k 0) a = o := by have h9 := hc11; unfold Mly.out; simpa using h9
  refine ay ?_
  apply k9; clear k9; refine kp [1, 2, 3, 4, 8, 9, 10, 14, 29] ?_
  refine ak hP hN rfl ?_
  iterate 3 (refine aj rfl fun _ k0 => ?_; simp only [zO, zT, acs, reduceCtorEq, aa, V, ad, ag, af, ae, Mly.av, ah]; (repeat refine an ?_); (try refine .inl ?_); apply k0; clear k0; simp only [zP, V])
  refine am ?_
  first
  | (refine ⟨_, _, ?_, ax [1, 2, 3, 4, 8, 9, 10], k + 1, v + 1, by omega, rfl, ?_⟩
     · omega
     · rw [lU hy]; rfl)
  | (refine ⟨_, _, ?_, ax [1, 2, 3, 4, 8, 9, 10], k + 1, v, by omega, rfl, ?_⟩
     · omega
     · rw [om hy]; rfl)
 (try simp only [zB, reduceCtorEq] at hc8)
 refine aV ?_
 apply k3; clear k3; refine kp [1, 2, 3, 4, 8, 9, 10, 14] ?_
 refine ai fun _ k12 => ?_
 refine cq 1 rfl ?_; simp only [aH, bh, zS, aa, and_self, and_true, true_and, and_false, false_and, if_true, if_false, eq_self, reduceCtorEq, Nat.one_ne_zero, Nat.zero_ne_one]
 have hkw : k = l.length := by omega
 rw [hkw]
 refine ak hP hN rfl ?_
 iterate 2 (refine aj rfl fun _ k0 => ?_; simp only [zO, zT, acs, reduceCtorEq, aa, V, ad, ag, af, ae, Mly.av, ah]; (repeat refine an ?_); (try refine .inl ?_); apply k0; clear k0; simp only [zP, V])
 refine am ?_
 apply k12; clear k12; refine kp [1, 2, 3, 4, 8, 9, 10, 14] ?_
 refine aF ?_
 refine ⟨nr, _, rfl, ?_⟩; simp only [zF, zP, aa, V, Mly.av, ah]
 exact VLE.of_eq rfl
theorem oO (l w : List Int) (hw : ∀ x ∈ w, 0 ≤ x ∧ x < l.length) (hl : w.length ≤ 100000) : bP Try.prog 57 [.one (.list (.int .i64) l), .one (.list (.int .i64) w)] (.one (.list (.int .i64) (pkL l w))) := by
 refine aS Try.func57 rfl (by kernel_rfl) (Nat.le_of_ble_eq_true rfl) rfl fun C hP hN hB => ?_
 replace hN : C.N = 24 := hN
 simp only [bf, V]
 refine ai fun _ k1 => ?_
 refine ak hP hN rfl ?_
 (refine aj rfl fun _ k0 => ?_; simp only [zO, zT, acs, reduceCtorEq, aa, V, ad, ag, af, ae]; (repeat refine an ?_); (try refine .inl ?_); apply k0; clear k0; simp only [zP, V])
 refine am ?_
 apply k1; clear k1; refine kp [0, 1, 4] ?_
 refine ai fun _ k2 => ?_
 refine ak hP hN rfl ?_
 (refine aj rfl fun _ k0 => ?_; simp only [zO, zT, acs, reduceCtorEq, aa, V, ad, ag, af, ae]; (repeat refine an ?_); (try refine .inl ?_); apply k0; clear k0; simp only [zP, V])
 refine am ?_
 apply k2; clear k2; refine kp [0, 1, 4, 5] ?_
 refine ai fun _ k3 => ?_
 refine ai fun _ k4 => ?_
 refine ak hP hN rfl ?_
 (refine aj rfl fun _ k0 => ?_; simp only [zO, zT, acs, reduceCtorEq, aa, V, ad, ag, af, ae]; (repeat refine an ?_); (try refine .inl ?_); apply k0; clear k0; simp only [zP, V])
 refine am ?_
 apply k4; clear k4; refine kp [0, 1, 4, 5, 6] ?_
 refine aA ?_
 refine dZ 5 (.int .i64) 3 (by decide) rfl ?_; simp only [au, aG, aM, b6, Nat.zero_add, V]
 refine aY (fun n5 s5 => ∃ (k : Nat) (v : Nat), (k ≤ w.length) ∧ n5 = w.length - k ∧ s5 = { env := [(0, .one (.list (.int .i64) l)), (1, .one (.list (.int .i64) w)), (4, .one .nils), (5, .one (.row 0 v)), (6, .one (.int .i64 (k : Int)))], L := [.row (.int .i64) 3 v (pkL l (w.take k))] }) ?_ ?_
 ·exact ⟨_, _, ax [0, 1, 4, 5, 6], 0, 0, Nat.zero_le _, rfl, rfl⟩
 rintro n5 s5 ⟨k, v, hk, rfl, rfl⟩
 refine ai fun _ k6 => ?_
 refine ai fun _ k7 => ?_
 refine ak hP hN rfl ?_
 iterate 4 (refine aj rfl fun _ k0 => ?_; simp only [zO, zT, acs, reduceCtorEq, aa, V, ad, ag, af, ae]; (repeat refine an ?_); (try refine .inl ?_); apply k0; clear k0; simp only [zP, V])
 refine am ?_
 apply k7; clear k7; refine kp [0, 1, 4, 5, 6, 10] ?_
 refine cd (fun hc8 => ?_) (fun hc8 => ?_)
 ·(try simp only [zB, reduceCtorEq] at hc8)
  refine ay ?_
  apply k6; clear k6; refine kp [0, 1, 4, 5, 6, 10] ?_
  refine ai fun _ k9 => ?_
  refine aA ?_
  have hkl : k < w.length := by omega
  have hwk := hw _ (bl hkl)
  have hnl : (pkL l (w.take k)).length = k := by unfold pkL; rw [aD, List.length_take]; omega
  refine ak hP hN rfl ?_
  iterate 11 (refine aj rfl fun _ k0 => ?_; simp only [zO, zT, acs, reduceCtorEq, aa, V, ad, ag, af, ae]; (repeat refine an ?_); (try refine .inl ?_); apply k0; clear k0; simp only [zP, V])
  refine am ?_
  apply k9; clear k9; refine kp [0, 1, 4, 5, 6, 10] ?_
  refine ak hP hN rfl ?_
  iterate 3 (refine aj rfl fun _ k0 => ?_; simp only [zO, zT, acs, reduceCtorEq, aa, V, ad, ag, af, ae]; (repeat refine an ?_); (try refine .inl ?_); apply k0; clear k0; simp only [zP, V])
  refine am ?_
  refine ⟨_, _, ?_, ax [0, 1, 4, 5, 6], k + 1, v + 1, by omega, rfl, ?_⟩
  · omega
  · rw [xr hkl]; rfl
 (try simp only [zB, reduceCtorEq] at hc8)
 refine aV ?_
 apply k3; clear k3; refine kp [0, 1, 4, 5, 6, 10] ?_
 refine ai fun _ k10 => ?_
 refine cq 0 rfl ?_; simp only [aH, bh, zS, aa, and_self, and_true, true_and, and_false, false_and, if_true, if_false, eq_self, reduceCtorEq, Nat.one_ne_zero, Nat.zero_ne_one]
 have hkw : k = w.length := by omega
 rw [hkw, aI]
 refine ak hP hN rfl ?_
 iterate 2 (refine aj rfl fun _ k0 => ?_; simp only [zO, zT, acs, reduceCtorEq, aa, V, ad, ag, af, ae]; (repeat refine an ?_); (try refine .inl ?_); apply k0; clear k0; simp only [zP, V])
 refine am ?_
 apply k10; clear k10; refine kp [0, 1, 4, 5, 6, 10] ?_
 refine aF ?_
 refine ⟨nr, _, rfl, ?_⟩; simp only [zF, zP, aa, V]
 exact VLE.of_eq rfl
end Go.Proofs.Ytoahhklogohehaa
