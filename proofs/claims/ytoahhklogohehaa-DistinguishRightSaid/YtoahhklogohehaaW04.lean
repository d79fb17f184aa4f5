/- Contracts of functions of this seat, each out of a walk through its code, and plain facts on what they compute. Conditions: those that each theorem names. -/
import Derived.Test.YtoahhklogohehaaW03
set_option linter.unusedSimpArgs false
set_option linter.unusedVariables false
set_option maxRecDepth 100000
namespace Go.Proofs.Ytoahhklogohehaa
open Go Go.AV
open Nat renaming reduceEqDiff → aa, reduceAdd → V, reduceLeDiff → ad, reduceLT → ag, reduceMul → af, reduceSub → ae
open List renaming set_cons_zero → cv, set_cons_succ → cq, getD_cons_zero → au, length_append → ar, map_cons → aH, cons_append → aT, map_nil → bm, length_cons → aw, nil_append → bg, take_succ_cons → cQ, length_nil → aG, length_map → aD, length_replicate → bj, take_length → aL, mem_cons_self → aR, mem_cons_of_mem → aJ
open Int renaming toNat_natCast → ah
set_option maxHeartbeats 1500000 in
theorem yt (m : Mly) (l : List Int) (hm : MOK m) (hs : d7 m l) (hl : l.length ≤ 1000) : bJ Try.prog 52 [m.av, .one (.list (.int .i64) l)] (.tup [.one (.list (.int .i64) ((fdW m l).getD [])), .one (.bool (fdW m l).isSome)]) := by
 refine aU Try.func52 rfl (by kernel_rfl) (Nat.le_of_ble_eq_true rfl) rfl fun C hP hN hB => ?_
 replace hN : C.N = 75 := hN
 simp only [bc, V]
 have hi1 := hm.i1; have hi2 := hm.i2
 have hks0 : (gn l).length ≤ 9223372036854775807 := by unfold gn; rw [aD]; omega
 refine ai fun _ k1 => ?_
 refine am hP hN rfl ?_
 iterate 3 (refine aj rfl fun _ k0 => ?_; simp only [zO, zT, acs, reduceCtorEq, aa, V, ad, ag, af, ae, Mly.av, ah, aD, bD, Option.map_some, AV.valOf]; (repeat refine And.intro (by first | omega | assumption | exact hks | exact hks0 | exact rfl) ?_); (try refine .inl ?_); apply k0; clear k0; simp only [zP, V])
 refine ao ?_
 apply k1; clear k1; refine kp [0, 1, 2, 4, 5] ?_
 refine ai fun _ k2 => ?_
 refine am hP hN rfl ?_
 (refine aj rfl fun _ k0 => ?_; simp only [zE, op1, ev, lkp, d4, bK, jk, reduceCtorEq, aa, V, ad, ag, af, ae, Try.el41, Try.mk115, Try.td41, Mly.av, ah, aD, bD, Option.map_some, AV.valOf]; (repeat refine And.intro (by first | omega | assumption | exact hks | exact hks0 | exact rfl) ?_); (try refine .inl ?_); apply k0; clear k0; simp only [zP, V])
 (refine aj rfl fun _ k0 => ?_; simp only [zO, zT, acs, reduceCtorEq, aa, V, ad, ag, af, ae, Mly.av, ah, aD, bD, Option.map_some, AV.valOf]; (repeat refine And.intro (by first | omega | assumption | exact hks | exact hks0 | exact rfl) ?_); (try refine .inl ?_); apply k0; clear k0; simp only [zP, V])
 refine aj rfl fun _ k0 => ?_
 refine aI (h := aA (pD l (fg hm hs) (by omega))) rfl rfl (by first | exact rfl | (simp only [ev, zP, aa, V]; exact rfl)) (by simp only [zV, acs, reduceCtorEq, aa, V, ad, ag, af, ae, Mly.av, ah, aD, bD, Option.map_some, AV.valOf]) ?_
 apply k0; clear k0; simp only [zP, V]
 (refine aj rfl fun _ k0 => ?_; simp only [zE, op1, ev, lkp, d4, bK, eJ, bD, valOf, reduceCtorEq, aa, V, ad, ag, af, ae, Try.mk115, Mly.av, ah, aD, bD, Option.map_some, AV.valOf]; (repeat refine And.intro (by first | omega | assumption | exact hks | exact hks0 | exact rfl) ?_); (try refine .inl ?_); apply k0; clear k0; simp only [zP, V])
 iterate 2 (refine aj rfl fun _ k0 => ?_; simp only [zO, zT, acs, reduceCtorEq, aa, V, ad, ag, af, ae, Mly.av, ah, aD, bD, Option.map_some, AV.valOf]; (repeat refine And.intro (by first | omega | assumption | exact hks | exact hks0 | exact rfl) ?_); (try refine .inl ?_); apply k0; clear k0; simp only [zP, V])
 refine ao ?_
 apply k2; clear k2; refine kp [0, 1, 2, 4, 5, 6] ?_
 refine ai fun _ k3 => ?_
 refine am hP hN rfl ?_
 iterate 2 (refine aj rfl fun _ k0 => ?_; simp only [zO, zT, acs, reduceCtorEq, aa, V, ad, ag, af, ae, Mly.av, ah, aD, bD, Option.map_some, AV.valOf]; (repeat refine And.intro (by first | omega | assumption | exact hks | exact hks0 | exact rfl) ?_); (try refine .inl ?_); apply k0; clear k0; simp only [zP, V])
 (refine aj rfl fun _ k0 => ?_; simp only [zO, zT, acs, reduceCtorEq, aa, V, ad, ag, af, ae, Mly.av, ah, aD, bD, Option.map_some, AV.valOf]; (repeat refine And.intro (by first | omega | assumption | exact hks | exact hks0 | exact rfl) ?_); refine Or.inr (Or.inl (k0 _ ?_)); clear k0; simp only [zP, V])
 (refine aj rfl fun _ k0 => ?_; simp only [zO, zT, acs, reduceCtorEq, aa, V, ad, ag, af, ae, Mly.av, ah, aD, bD, Option.map_some, AV.valOf]; (repeat refine And.intro (by first | omega | assumption | exact hks | exact hks0 | exact rfl) ?_); (try refine .inl ?_); apply k0; clear k0; simp only [zP, V])
 refine ao ?_
 apply k3; clear k3; refine kp [0, 1, 2, 4, 5, 6, 7] ?_
 refine ai fun _ k4 => ?_
 refine ai fun _ k5 => ?_
 refine am hP hN rfl ?_
 (refine aj rfl fun _ k0 => ?_; simp only [zO, zT, acs, reduceCtorEq, aa, V, ad, ag, af, ae, Mly.av, ah, aD, bD, Option.map_some, AV.valOf]; (repeat refine And.intro (by first | omega | assumption | exact hks | exact hks0 | exact rfl) ?_); (try refine .inl ?_); apply k0; clear k0; simp only [zP, V])
 refine ao ?_
 apply k5; clear k5; refine kp [0, 1, 2, 4, 5, 6, 7, 8] ?_
 refine aC ?_
 refine bf (fun n6 s6 => ∃ (k : Nat) (v : Nat) (Q : List SS), (FQ m l.length Q) ∧ ((gd m (4097 - k) k ⟨Q, none⟩).res = lI m l) ∧ n6 = 4097 - k ∧ s6 = { env := [(2, .one (.ptr 0 0 0 0)), (4, .one .nils), (5, .one (.bool false)), (6, .one (.mpv 1)), (7, .one (.row 2 v)), (8, .one (.int .i64 (k : Int)))], L := [.vars 24 [.int .i64 m.inp, .int .i64 m.st, .list (.list (.int .i64)) m.nx, .list (.list (.int .i64)) m.ot], .mp 115 .bool (esB Q), .row (.pair (.list (.int .i64)) (.pair (.list (.int .i64)) .unit)) 117 v (List.map pB Q)] }) ?_ ?_
 ·exact ⟨_, _, az [2, 4, 5, 6, 7, 8], 0, 0, [(l, [])], FQ.one hs, rfl, rfl, rfl⟩
 rintro n6 s6 ⟨k, v, Q, hQ, hrun, rfl, rfl⟩
 refine ai fun _ k7 => ?_
 refine ai fun _ k8 => ?_
 refine am hP hN rfl ?_
 iterate 4 (refine aj rfl fun _ k0 => ?_; simp only [zO, zT, acs, reduceCtorEq, aa, V, ad, ag, af, ae, Mly.av, ah, aD, bD, Option.map_some, AV.valOf]; (repeat refine And.intro (by first | omega | assumption | exact hks | exact hks0 | exact rfl) ?_); (try refine .inl ?_); apply k0; clear k0; simp only [zP, V])
 refine ao ?_
 apply k8; clear k8; refine kp [2, 4, 5, 6, 7, 8, 24] ?_
 refine cd (fun hc9 => ?_) (fun hc9 => ?_)
 ·(try simp only [zB, reduceCtorEq] at hc9)
  refine ay ?_
  apply k7; clear k7; refine kp [2, 4, 5, 6, 7, 8, 24] ?_
  refine ai fun _ k10 => ?_
  refine aC ?_
  refine ai fun _ k11 => ?_
  refine am hP hN rfl ?_
  iterate 3 (refine aj rfl fun _ k0 => ?_; simp only [zO, zT, acs, reduceCtorEq, aa, V, ad, ag, af, ae, Mly.av, ah, aD, bD, Option.map_some, AV.valOf]; (repeat refine And.intro (by first | omega | assumption | exact hks | exact hks0 | exact rfl) ?_); (try refine .inl ?_); apply k0; clear k0; simp only [zP, V])
  refine ao ?_
  apply k11; clear k11; refine kp [2, 4, 5, 6, 7, 8, 24, 28, 29] ?_
  refine aC ?_
  have hkl : k < Q.length := by omega
  have hql := hQ.le
  refine bf (fun n12 s12 => ∃ (a : Nat) (v2 : Nat) (Q2 : List SS), ((a : Int) ≤ m.inp) ∧ (FQ m l.length Q2) ∧ (k < Q2.length) ∧ ((List.range a).foldl (dc m k) ⟨Q, none⟩ = ⟨Q2, none⟩) ∧ n12 = m.inp.toNat - a ∧ s12 = { env := [(2, .one (.ptr 0 0 0 0)), (4, .one .nils), (5, .one (.bool false)), (6, .one (.mpv 1)), (7, .one (.row 2 v2)), (8, .one (.int .i64 (k : Int))), (28, .one (.int .i64 m.inp)), (29, .one (.int .i64 (a : Int)))], L := [.vars 24 [.int .i64 m.inp, .int .i64 m.st, .list (.list (.int .i64)) m.nx, .list (.list (.int .i64)) m.ot], .mp 115 .bool (esB Q2), .row (.pair (.list (.int .i64)) (.pair (.list (.int .i64)) .unit)) 117 v2 (List.map pB Q2)] }) ?_ ?_
  ·have hi9 := hm.i1
   exact ⟨_, _, az [2, 4, 5, 6, 7, 8, 28, 29], 0, v, Q, by omega, hQ, hkl, rfl, rfl, rfl⟩
  rintro n12 s12 ⟨a, v2, Q2, ha, hQ2, hk2, hf, rfl, rfl⟩
  refine ai fun _ k13 => ?_
  refine am hP hN rfl ?_
  (refine aj rfl fun _ k0 => ?_; simp only [zO, zT, acs, reduceCtorEq, aa, V, ad, ag, af, ae, Mly.av, ah, aD, bD, Option.map_some, AV.valOf]; (repeat refine And.intro (by first | omega | assumption | exact hks | exact hks0 | exact rfl) ?_); (try refine .inl ?_); apply k0; clear k0; simp only [zP, V])
  refine ao ?_
  apply k13; clear k13; refine kp [2, 4, 5, 6, 7, 8, 28, 29, 30] ?_
  refine ai fun _ k14 => ?_
  refine cd (fun hc15 => ?_) (fun hc15 => ?_)
  ·(try simp only [zB, reduceCtorEq] at hc15)
   refine ay ?_
   apply k14; clear k14; refine kp [2, 4, 5, 6, 7, 8, 28, 29, 30] ?_
   refine ai fun _ k16 => ?_
   refine aC ?_
   refine ai fun _ k17 => ?_
   refine am hP hN rfl ?_
   iterate 2 (refine aj rfl fun _ k0 => ?_; simp only [zO, zT, acs, reduceCtorEq, aa, V, ad, ag, af, ae, Mly.av, ah, aD, bD, Option.map_some, AV.valOf]; (repeat refine And.intro (by first | omega | assumption | exact hks | exact hks0 | exact rfl) ?_); (try refine .inl ?_); apply k0; clear k0; simp only [zP, V])
   refine ao ?_
   apply k17; clear k17; refine kp [2, 4, 5, 6, 7, 8, 9, 28, 29, 30] ?_
   refine ai fun _ k18 => ?_
   obtain ⟨hsb, hln, hwl⟩ := hQ2.at_ (i := k) (by omega)
   have hgi : ∀ d, (List.map pB Q2).getD k d = ((Q2.getD k ss0).1, ((Q2.getD k ss0).2, ())) := fun d => AP (by omega) d
   have hkL : k < Q2.length := by omega
   have hnx := sL hm (a := (a : Int)) ⟨by omega, by omega⟩ hsb
   have hq2l := hQ2.le
   have hks : (gn (cA m (Q2.getD k ss0).1 (a : Int))).length ≤ 9223372036854775807 := by unfold gn; rw [aD]; omega
   have hlk := xD (Q := Q2) (fg hm hnx.1) (fun s h => fg hm (hQ2.st s h))
   refine bo hP hN Try.mixed rfl ?_
   iterate 7 (refine aj rfl fun _ k0 => ?_; simp only [zO, zT, acs, reduceCtorEq, aa, V, ad, ag, af, ae, Mly.av, ah, aD, bD, Option.map_some, AV.valOf, hgi]; (repeat refine And.intro (by first | omega | assumption | exact hks | exact hks0 | exact rfl) ?_); (try refine .inl ?_); apply k0; clear k0; simp only [zP, V])
   refine aj rfl fun _ k0 => ?_
   refine aI (h := aA (xl m (Q2.getD k ss0).1 (a : Int) hm hsb (by omega) (by omega))) rfl rfl (by first | exact rfl | (simp only [ev, zP, aa, V]; exact rfl)) (by simp only [zV, acs, reduceCtorEq, aa, V, ad, ag, af, ae, Mly.av, ah, aD, bD, Option.map_some, AV.valOf, hgi]) ?_
   apply k0; clear k0; simp only [zP, V]
   iterate 7 (refine aj rfl fun _ k0 => ?_; simp only [zO, zT, acs, reduceCtorEq, aa, V, ad, ag, af, ae, Mly.av, ah, aD, bD, Option.map_some, AV.valOf, hgi]; (repeat refine And.intro (by first | omega | assumption | exact hks | exact hks0 | exact rfl) ?_); (try refine .inl ?_); apply k0; clear k0; simp only [zP, V])
   refine ao ?_
   refine ⟨by kernel_rfl, ?_⟩
   apply k18; clear k18; refine kp [2, 4, 5, 6, 7, 8, 9, 10, 11, 12, 28, 29, 30] ?_
   refine ai fun _ k19 => ?_
   refine ai fun _ k20 => ?_
   refine am hP hN rfl ?_
   iterate 2 (refine aj rfl fun _ k0 => ?_; simp only [zO, zT, acs, reduceCtorEq, aa, V, ad, ag, af, ae, Mly.av, ah, aD, bD, Option.map_some, AV.valOf]; (repeat refine And.intro (by first | omega | assumption | exact hks | exact hks0 | exact rfl) ?_); (try refine .inl ?_); apply k0; clear k0; simp only [zP, V])
   refine ao ?_
   apply k20; clear k20; refine kp [2, 4, 5, 6, 7, 8, 9, 10, 11, 12, 28, 29, 30, 45] ?_
   refine cd (fun hc21 => ?_) (fun hc21 => ?_)
   ·(try simp only [zB, reduceCtorEq] at hc21)
    have hun : unS m (Q2.getD k ss0).1 a (Q2.getD k ss0).1.length = true := by simpa using hc21
    have hst := zQ hun
    refine b6 ?_
    apply k16; clear k16; refine kp [2, 4, 5, 6, 7, 8, 9, 10, 11, 12, 28, 29, 30, 45] ?_
    refine am hP hN rfl ?_
    iterate 2 (refine aj rfl fun _ k0 => ?_; simp only [zO, zT, acs, reduceCtorEq, aa, V, ad, ag, af, ae, Mly.av, ah, aD, bD, Option.map_some, AV.valOf]; (repeat refine And.intro (by first | omega | assumption | exact hks | exact hks0 | exact rfl) ?_); (try refine .inl ?_); apply k0; clear k0; simp only [zP, V])
    refine ao ?_
    first
    | (refine ⟨_, _, ?_, az [2, 4, 5, 6, 7, 8, 28, 29], a + 1, v2, Q2, by omega, hQ2, hk2, (iL hf).trans hst, rfl, rfl⟩
       omega)
    | (refine ⟨_, _, ?_, az [2, 4, 5, 6, 7, 8, 28, 29], a + 1, v2 + 1, Q2 ++ [(fz m Q2 k a, ep Q2 k a)], by omega, hQ2.snoc hnx.1 (hnx.2.trans hln) (by unfold ep; rw [ar]; simp only [aw, aG]; omega) (by omega), by rw [ar]; omega, (iL hf).trans hst, rfl, ?_⟩
       · omega
       · rw [show esB (Q2 ++ [(fz m Q2 k a, ep Q2 k a)]) = _ from (oP (x := fz m Q2 k a) (w := ep Q2 k a) (fg hm hnx.1) (fun s h => fg hm (hQ2.st s h)) hps).symm, List.map_append]; rfl)
   (try simp only [zB, reduceCtorEq] at hc21)
   have hun : unS m (Q2.getD k ss0).1 a (Q2.getD k ss0).1.length = false := by simpa using hc21
   have hun2 : ¬ unS m (Q2.getD k ss0).1 a (Q2.getD k ss0).1.length = true := by rw [hun]; decide
   refine ay ?_
   apply k19; clear k19; refine kp [2, 4, 5, 6, 7, 8, 9, 10, 11, 12, 28, 29, 30, 45] ?_
   refine ai fun _ k22 => ?_
   rw [if_neg hun2]
   refine am hP hN rfl ?_
   iterate 5 (refine aj rfl fun _ k0 => ?_; simp only [zO, zT, acs, reduceCtorEq, aa, V, ad, ag, af, ae, Mly.av, ah, aD, bD, Option.map_some, AV.valOf, hgi]; (repeat refine And.intro (by first | omega | assumption | exact hks | exact hks0 | exact rfl) ?_); (try refine .inl ?_); apply k0; clear k0; simp only [zP, V])
   refine aj rfl fun _ k0 => ?_
   refine aI (h := lp (xB (Q2.getD k ss0).2 (by omega))) rfl rfl (by first | exact rfl | (simp only [ev, zP, aa, V]; exact rfl)) (by simp only [zV, acs, reduceCtorEq, aa, V, ad, ag, af, ae, Mly.av, ah, aD, bD, Option.map_some, AV.valOf, hgi]) ?_
   apply k0; clear k0; simp only [zP, V]
   iterate 4 (refine aj rfl fun _ k0 => ?_; simp only [zO, zT, acs, reduceCtorEq, aa, V, ad, ag, af, ae, Mly.av, ah, aD, bD, Option.map_some, AV.valOf, hgi]; (repeat refine And.intro (by first | omega | assumption | exact hks | exact hks0 | exact rfl) ?_); (try refine .inl ?_); apply k0; clear k0; simp only [zP, V])
   refine ao ?_
   apply k22; clear k22; refine kp [2, 4, 5, 6, 7, 8, 9, 10, 11, 12, 13, 28, 29, 30, 45] ?_
   refine ai fun _ k23 => ?_
   refine ai fun _ k24 => ?_
   refine d8 3 rfl ?_; simp only [aH, bm, zS, aa, and_self, and_true, true_and, and_false, false_and, if_true, if_false, eq_self, reduceCtorEq, Nat.one_ne_zero, Nat.zero_ne_one]
   refine cU (n := 3) (L1 := [_, _, _]) rfl rfl (by rw [hB]; decide) rfl rfl ?_
   refine am hP hN rfl ?_
   iterate 2 (refine aj rfl fun _ k0 => ?_; simp only [zO, zT, acs, reduceCtorEq, aa, V, ad, ag, af, ae, Mly.av, ah, aD, bD, Option.map_some, AV.valOf]; (repeat refine And.intro (by first | omega | assumption | exact hks | exact hks0 | exact rfl) ?_); (try refine .inl ?_); apply k0; clear k0; simp only [zP, V])
   refine ao ?_
   apply k24; clear k24; refine kp [2, 4, 5, 6, 7, 8, 9, 10, 11, 12, 13, 28, 29, 30, 45, 56] ?_
   refine cd (fun hc25 => ?_) (fun hc25 => ?_)
   ·(try simp only [zB, reduceCtorEq] at hc25)
    have hsm : smO m (Q2.getD k ss0).1 a (Q2.getD k ss0).1.length = false := by have h9 := hc25; rw [hun] at h9; simpa using h9
    have hfd := wg hrun hkl hQ.le (by omega) hf (by rw [wH hun hsm])
    refine ai fun _ k26 => ?_
    refine am hP hN rfl ?_
    iterate 3 (refine aj rfl fun _ k0 => ?_; simp only [zO, zT, acs, reduceCtorEq, aa, V, ad, ag, af, ae, Mly.av, ah, aD, bD, Option.map_some, AV.valOf]; (repeat refine And.intro (by first | omega | assumption | exact hks | exact hks0 | exact rfl) ?_); (try refine .inl ?_); apply k0; clear k0; simp only [zP, V])
    refine ao ?_
    apply k26; clear k26; refine kp [2, 4, 5, 6, 7, 8, 9, 10, 11, 12, 13, 28, 29, 30, 45, 56] ?_
    refine aE ?_
    refine ⟨nr, _, rfl, ?_⟩; simp only [zF, zP, aa, V, Mly.av, ah, aD, bD, Option.map_some, AV.valOf]
    rw [hfd]
    first
    | exact VLE.of_eq rfl
    | exact bI ⟨aK (bp rfl), aK (.refl _), trivial⟩
   (try simp only [zB, reduceCtorEq] at hc25)
   have hsm : smO m (Q2.getD k ss0).1 a (Q2.getD k ss0).1.length = true := by have h9 := hc25; rw [hun] at h9; simpa using h9
   refine ay ?_
   apply k23; clear k23; refine kp [2, 4, 5, 6, 7, 8, 9, 10, 11, 12, 13, 28, 29, 30, 45, 56] ?_
   refine ai fun _ k27 => ?_
   refine ai fun _ k28 => ?_
   refine am hP hN rfl ?_
   iterate 2 (refine aj rfl fun _ k0 => ?_; simp only [zO, zT, acs, reduceCtorEq, aa, V, ad, ag, af, ae, Mly.av, ah, aD, bD, Option.map_some, AV.valOf, hlk]; (repeat refine And.intro (by first | omega | assumption | exact hks | exact hks0 | exact rfl) ?_); (try refine .inl ?_); apply k0; clear k0; simp only [zP, V])
   refine aj rfl fun _ k0 => ?_
   refine aI (h := aA (pD (cA m (Q2.getD k ss0).1 (a : Int)) (fg hm hnx.1) (by omega))) rfl rfl (by first | exact rfl | (simp only [ev, zP, aa, V]; exact rfl)) (by simp only [zV, acs, reduceCtorEq, aa, V, ad, ag, af, ae, Mly.av, ah, aD, bD, Option.map_some, AV.valOf, hlk]) ?_
   apply k0; clear k0; simp only [zP, V]
   (refine aj rfl fun _ k0 => ?_; simp only [zE, op1, ev, lkp, d4, bK, kg, bD, VK.ac, reduceCtorEq, aa, V, ad, ag, af, ae, Try.mk115, Try.td4, Mly.av, ah, aD, bD, Option.map_some, AV.valOf, hlk]; (repeat refine And.intro (by first | omega | assumption | exact hks | exact hks0 | exact rfl) ?_); (try refine .inl ?_); apply k0; clear k0; simp only [zP, V])
   refine ao ?_
   apply k28; clear k28; refine kp [2, 4, 5, 6, 7, 8, 9, 10, 11, 12, 13, 28, 29, 30, 45, 56, 61] ?_
   refine cd (fun hc29 => ?_) (fun hc29 => ?_)
   ·(try simp only [zB, reduceCtorEq] at hc29)
    have hps : dX Q2 (fz m Q2 k a) < Q2.length := by have h9 := hc29; unfold fz; simpa using h9
    have hst := wM hun hsm hps
    refine b6 ?_
    apply k16; clear k16; refine kp [2, 4, 5, 6, 7, 8, 9, 10, 11, 12, 13, 28, 29, 30, 45, 56, 61] ?_
    refine am hP hN rfl ?_
    iterate 2 (refine aj rfl fun _ k0 => ?_; simp only [zO, zT, acs, reduceCtorEq, aa, V, ad, ag, af, ae, Mly.av, ah, aD, bD, Option.map_some, AV.valOf]; (repeat refine And.intro (by first | omega | assumption | exact hks | exact hks0 | exact rfl) ?_); (try refine .inl ?_); apply k0; clear k0; simp only [zP, V])
    refine ao ?_
    first
    | (refine ⟨_, _, ?_, az [2, 4, 5, 6, 7, 8, 28, 29], a + 1, v2, Q2, by omega, hQ2, hk2, (iL hf).trans hst, rfl, rfl⟩
       omega)
    | (refine ⟨_, _, ?_, az [2, 4, 5, 6, 7, 8, 28, 29], a + 1, v2 + 1, Q2 ++ [(fz m Q2 k a, ep Q2 k a)], by omega, hQ2.snoc hnx.1 (hnx.2.trans hln) (by unfold ep; rw [ar]; simp only [aw, aG]; omega) (by omega), by rw [ar]; omega, (iL hf).trans hst, rfl, ?_⟩
       · omega
       · rw [show esB (Q2 ++ [(fz m Q2 k a, ep Q2 k a)]) = _ from (oP (x := fz m Q2 k a) (w := ep Q2 k a) (fg hm hnx.1) (fun s h => fg hm (hQ2.st s h)) hps).symm, List.map_append]; rfl)
   (try simp only [zB, reduceCtorEq] at hc29)
   have hps : ¬ dX Q2 (fz m Q2 k a) < Q2.length := by have h9 := hc29; unfold fz; simpa using h9
   refine ay ?_
   apply k27; clear k27; refine kp [2, 4, 5, 6, 7, 8, 9, 10, 11, 12, 13, 28, 29, 30, 45, 56, 61] ?_
   refine ai fun _ k30 => ?_
   refine ai fun _ k31 => ?_
   refine am hP hN rfl ?_
   iterate 3 (refine aj rfl fun _ k0 => ?_; simp only [zO, zT, acs, reduceCtorEq, aa, V, ad, ag, af, ae, Mly.av, ah, aD, bD, Option.map_some, AV.valOf]; (repeat refine And.intro (by first | omega | assumption | exact hks | exact hks0 | exact rfl) ?_); (try refine .inl ?_); apply k0; clear k0; simp only [zP, V])
   refine ao ?_
   apply k31; clear k31; refine kp [2, 4, 5, 6, 7, 8, 9, 10, 11, 12, 13, 28, 29, 30, 45, 56, 61, 64] ?_
   refine cd (fun hc32 => ?_) (fun hc32 => ?_)
   ·(try simp only [zB, reduceCtorEq] at hc32)
    have hfd := wg hrun hkl hQ.le (by omega) hf (by rw [wL hun hsm hps (by omega)])
    refine ai fun _ k33 => ?_
    refine am hP hN rfl ?_
    iterate 2 (refine aj rfl fun _ k0 => ?_; simp only [zO, zT, acs, reduceCtorEq, aa, V, ad, ag, af, ae, Mly.av, ah, aD, bD, Option.map_some, AV.valOf]; (repeat refine And.intro (by first | omega | assumption | exact hks | exact hks0 | exact rfl) ?_); (try refine .inl ?_); apply k0; clear k0; simp only [zP, V])
    refine ao ?_
    apply k33; clear k33; refine kp [2, 4, 5, 6, 7, 8, 9, 10, 11, 12, 13, 28, 29, 30, 45, 56, 61, 64] ?_
    refine aE ?_
    refine ⟨nr, _, rfl, ?_⟩; simp only [zF, zP, aa, V, Mly.av, ah, aD, bD, Option.map_some, AV.valOf]
    rw [hfd]
    first
    | exact VLE.of_eq rfl
    | exact bI ⟨aK (bp rfl), aK (.refl _), trivial⟩
   (try simp only [zB, reduceCtorEq] at hc32)
   have hst := ww hun hsm hps (by omega)
   refine ay ?_
   apply k30; clear k30; refine kp [2, 4, 5, 6, 7, 8, 9, 10, 11, 12, 13, 28, 29, 30, 45, 56, 61, 64] ?_
   refine ai fun _ k34 => ?_
   refine am hP hN rfl ?_
   iterate 2 (refine aj rfl fun _ k0 => ?_; simp only [zO, zT, acs, reduceCtorEq, aa, V, ad, ag, af, ae, Mly.av, ah, aD, bD, Option.map_some, AV.valOf]; (repeat refine And.intro (by first | omega | assumption | exact hks | exact hks0 | exact rfl) ?_); (try refine .inl ?_); apply k0; clear k0; simp only [zP, V])
   refine aj rfl fun _ k0 => ?_
   refine aI (h := aA (pD (cA m (Q2.getD k ss0).1 (a : Int)) (fg hm hnx.1) (by omega))) rfl rfl (by first | exact rfl | (simp only [ev, zP, aa, V]; exact rfl)) (by simp only [zV, acs, reduceCtorEq, aa, V, ad, ag, af, ae, Mly.av, ah, aD, bD, Option.map_some, AV.valOf]) ?_
   apply k0; clear k0; simp only [zP, V]
   (refine aj rfl fun _ k0 => ?_; simp only [zE, op1, ev, lkp, d4, bK, eJ, bD, valOf, reduceCtorEq, aa, V, ad, ag, af, ae, Try.mk115, Mly.av, ah, aD, bD, Option.map_some, AV.valOf]; (repeat refine And.intro (by first | omega | assumption | exact hks | exact hks0 | exact rfl) ?_); (try refine .inl ?_); apply k0; clear k0; simp only [zP, V])
   refine ao ?_
   apply k34; clear k34; refine kp [2, 4, 5, 6, 7, 8, 9, 10, 11, 12, 13, 28, 29, 30, 45, 56, 61, 64] ?_
   refine am hP hN rfl ?_
   iterate 7 (refine aj rfl fun _ k0 => ?_; simp only [zO, zT, acs, reduceCtorEq, aa, V, ad, ag, af, ae, Mly.av, ah, aD, bD, Option.map_some, AV.valOf]; (repeat refine And.intro (by first | omega | assumption | exact hks | exact hks0 | exact rfl) ?_); (try refine .inl ?_); apply k0; clear k0; simp only [zP, V])
   refine ao ?_
   apply k16; clear k16; refine kp [2, 4, 5, 6, 7, 8, 9, 10, 11, 12, 13, 28, 29, 30, 45, 56, 61, 64] ?_
   refine am hP hN rfl ?_
   iterate 2 (refine aj rfl fun _ k0 => ?_; simp only [zO, zT, acs, reduceCtorEq, aa, V, ad, ag, af, ae, Mly.av, ah, aD, bD, Option.map_some, AV.valOf]; (repeat refine And.intro (by first | omega | assumption | exact hks | exact hks0 | exact rfl) ?_); (try refine .inl ?_); apply k0; clear k0; simp only [zP, V])
   refine ao ?_
   first
   | (refine ⟨_, _, ?_, az [2, 4, 5, 6, 7, 8, 28, 29], a + 1, v2, Q2, by omega, hQ2, hk2, (iL hf).trans hst, rfl, rfl⟩
      omega)
   | (refine ⟨_, _, ?_, az [2, 4, 5, 6, 7, 8, 28, 29], a + 1, v2 + 1, Q2 ++ [(fz m Q2 k a, ep Q2 k a)], by omega, hQ2.snoc hnx.1 (hnx.2.trans hln) (by unfold ep; rw [ar]; simp only [aw, aG]; omega) (by omega), by rw [ar]; omega, (iL hf).trans hst, rfl, ?_⟩
      · omega
      · rw [show esB (Q2 ++ [(fz m Q2 k a, ep Q2 k a)]) = _ from (oP (x := fz m Q2 k a) (w := ep Q2 k a) (fg hm hnx.1) (fun s h => fg hm (hQ2.st s h)) hps).symm, List.map_append]; rfl)
  (try simp only [zB, reduceCtorEq] at hc15)
  refine b6 ?_
  apply k10; clear k10; refine kp [2, 4, 5, 6, 7, 8, 28, 29, 30] ?_
  refine am hP hN rfl ?_
  iterate 3 (refine aj rfl fun _ k0 => ?_; simp only [zO, zT, acs, reduceCtorEq, aa, V, ad, ag, af, ae, Mly.av, ah, aD, bD, Option.map_some, AV.valOf]; (repeat refine And.intro (by first | omega | assumption | exact hks | exact hks0 | exact rfl) ?_); (try refine .inl ?_); apply k0; clear k0; simp only [zP, V])
  refine ao ?_
  refine ⟨_, _, ?_, az [2, 4, 5, 6, 7, 8], k + 1, v2, Q2, hQ2, AL hrun hkl hQ.le (by rw [show m.inp.toNat = a by omega]; exact hf), rfl, rfl⟩
  have := hQ.le
  omega
 (try simp only [zB, reduceCtorEq] at hc9)
 refine b6 ?_
 apply k4; clear k4; refine kp [2, 4, 5, 6, 7, 8, 24] ?_
 refine ai fun _ k35 => ?_
 have hfd := Bi hrun (by omega)
 refine am hP hN rfl ?_
 iterate 2 (refine aj rfl fun _ k0 => ?_; simp only [zO, zT, acs, reduceCtorEq, aa, V, ad, ag, af, ae, Mly.av, ah, aD, bD, Option.map_some, AV.valOf]; (repeat refine And.intro (by first | omega | assumption | exact hks | exact hks0 | exact rfl) ?_); (try refine .inl ?_); apply k0; clear k0; simp only [zP, V])
 refine ao ?_
 apply k35; clear k35; refine kp [2, 4, 5, 6, 7, 8, 24] ?_
 refine aE ?_
 refine ⟨nr, _, rfl, ?_⟩; simp only [zF, zP, aa, V, Mly.av, ah, aD, bD, Option.map_some, AV.valOf]
 rw [hfd]
 first
 | exact VLE.of_eq rfl
 | exact bI ⟨aK (bp rfl), aK (.refl _), trivial⟩
theorem wO (x : Int) : bJ Try.prog 100 [.one (.int .i64 x)] (.one (.bool (wX x))) := by
 refine aU Try.func100 rfl (by kernel_rfl) (Nat.le_of_ble_eq_true rfl) rfl fun C hP hN hB => ?_
 replace hN : C.N = 6 := hN
 simp only [bc, V]
 refine ai fun _ k1 => ?_
 refine am hP hN rfl ?_
 (refine aj rfl fun _ k0 => ?_; simp only [zO, zT, acs, reduceCtorEq, aa, V, ad, ag, af, ae]; (repeat refine an ?_); (try refine .inl ?_); apply k0; clear k0; simp only [zP, V])
 refine ao ?_
 apply k1; clear k1; refine kp [0, 2] ?_
 refine ai fun _ k2 => ?_
 refine am hP hN rfl ?_
 iterate 4 (refine aj rfl fun _ k0 => ?_; simp only [zO, zT, acs, reduceCtorEq, aa, V, ad, ag, af, ae]; (repeat refine an ?_); (try refine .inl ?_); apply k0; clear k0; simp only [zP, V])
 refine ao ?_
 apply k2; clear k2; refine kp [0, 2] ?_
 refine aE ?_
 refine ⟨nr, _, rfl, ?_⟩; simp only [zF, zP, aa, V]
 refine VLE.of_eq ?_
 rw [ox]
theorem B4 (x y : Int) : bJ Try.prog 85 [.one (.int .i64 x), .one (.int .i64 y)] (.one (.bool (decide (x < y)))) := by
 refine aU Try.func85 rfl (by kernel_rfl) (Nat.le_of_ble_eq_true rfl) rfl fun C hP hN hB => ?_
 replace hN : C.N = 17 := hN
 simp only [bc, V]
 refine ai fun _ k1 => ?_
 refine am hP hN rfl ?_
 (refine aj rfl fun _ k0 => ?_; simp only [zO, zT, acs, reduceCtorEq, aa, V, ad, ag, af, ae]; (repeat refine an ?_); (try refine .inl ?_); apply k0; clear k0; simp only [zP, V])
 refine ao ?_
 apply k1; clear k1; refine kp [0, 1, 4] ?_
 refine ai fun _ k2 => ?_
 refine am hP hN rfl ?_
 (refine aj rfl fun _ k0 => ?_; simp only [zO, zT, acs, reduceCtorEq, aa, V, ad, ag, af, ae]; (repeat refine an ?_); (try refine .inl ?_); apply k0; clear k0; simp only [zP, V])
 refine aj rfl fun _ k0 => ?_
 refine aI (h := aA (wO x)) rfl rfl (by first | exact rfl | (simp only [ev, zP, aa, V]; exact rfl)) (by simp only [zV, acs, reduceCtorEq, aa, V, ad, ag, af, ae]) ?_
 apply k0; clear k0; simp only [zP, V]
 (refine aj rfl fun _ k0 => ?_; simp only [zO, zT, acs, reduceCtorEq, aa, V, ad, ag, af, ae]; (repeat refine an ?_); (try refine .inl ?_); apply k0; clear k0; simp only [zP, V])
 refine' aO (want := true) 3 rfl (m := 7) (by simp only [zP, aa, V]; exact rfl) (by kernel_rfl) rfl rfl rfl rfl rfl (fun hg3 => ?a3) ?b3 ?c3
 case a3 =>
  have hq3 := hg3; (try simp only [zB, reduceCtorEq] at hg3); simp only [zE]
  (refine aZ rfl fun _ k0 => ?_; simp only [zO, zT, acs, reduceCtorEq, aa, V, ad, ag, af, ae]; (repeat refine an ?_); (try refine .inl ?_); apply k0; clear k0; simp only [zP, V])
  refine aZ rfl fun _ k0 => ?_
  refine aI (h := aA (wO y)) rfl rfl (by first | exact rfl | (simp only [ev, zP, aa, V]; exact rfl)) (by simp only [zV, acs, reduceCtorEq, aa, V, ad, ag, af, ae]) ?_
  apply k0; clear k0; simp only [zP, V]
  (refine aZ rfl fun _ k0 => ?_; simp only [zO, zT, acs, reduceCtorEq, aa, V, ad, ag, af, ae]; (repeat refine an ?_); (try refine .inl ?_); apply k0; clear k0; simp only [zP, V])
  (refine aj rfl fun _ k0 => ?_; simp only [zO, zT, acs, reduceCtorEq, aa, V, ad, ag, af, ae]; (repeat refine an ?_); (try refine .inl ?_); apply k0; clear k0; simp only [zP, V])
  refine ao ?_
  refine ⟨by simp only [zP, aa, V]; exact rfl, rfl, ?_, rfl⟩; (repeat refine aP rfl ?_); exact bn (by exact rfl) hq3
 case b3 => exact cp
 simp only [b7, aV]
 (refine aj rfl fun _ k0 => ?_; simp only [zO, zT, acs, reduceCtorEq, aa, V, ad, ag, af, ae]; (repeat refine an ?_); (try refine .inl ?_); apply k0; clear k0; simp only [zP, V])
 refine' aO (want := false) 3 rfl (m := 12) (by simp only [zP, aa, V]; exact rfl) (by kernel_rfl) rfl rfl rfl rfl rfl (fun hg4 => ?a4) ?b4 ?c4
 case a4 =>
  have hq4 := hg4; (try simp only [zB, reduceCtorEq] at hg4); simp only [zE]
  iterate 3 (refine aZ rfl fun _ k0 => ?_; simp only [zO, zT, acs, reduceCtorEq, aa, V, ad, ag, af, ae]; (repeat refine an ?_); (try refine .inl ?_); apply k0; clear k0; simp only [zP, V])
  (refine aj rfl fun _ k0 => ?_; simp only [zO, zT, acs, reduceCtorEq, aa, V, ad, ag, af, ae]; (repeat refine an ?_); (try refine .inl ?_); apply k0; clear k0; simp only [zP, V])
  refine ao ?_
  refine ⟨by simp only [zP, aa, V]; exact rfl, rfl, ?_, rfl⟩; (repeat refine aP rfl ?_); exact bn (by exact rfl) hq4
 case b4 => exact cp
 simp only [b7, aV]
 (refine aj rfl fun _ k0 => ?_; simp only [zO, zT, acs, reduceCtorEq, aa, V, ad, ag, af, ae]; (repeat refine an ?_); (try refine .inl ?_); apply k0; clear k0; simp only [zP, V])
 refine ao ?_
 apply k2; clear k2; refine kp [0, 1, 4] ?_
 refine aE ?_
 refine ⟨nr, _, rfl, ?_⟩; simp only [zF, zP, aa, V]
 refine VLE.of_eq ?_
 refine congrArg (fun b => AV.one (AC.bool b)) ?_
 simp [ox]
theorem wJ (x : Int) : bJ Try.prog 86 [.one (.int .i64 x)] (.one (.bool (wX x))) := by
 refine aU Try.func86 rfl (by kernel_rfl) (Nat.le_of_ble_eq_true rfl) rfl fun C hP hN hB => ?_
 replace hN : C.N = 6 := hN
 simp only [bc, V]
 refine ai fun _ k1 => ?_
 refine am hP hN rfl ?_
 (refine aj rfl fun _ k0 => ?_; simp only [zO, zT, acs, reduceCtorEq, aa, V, ad, ag, af, ae]; (repeat refine an ?_); (try refine .inl ?_); apply k0; clear k0; simp only [zP, V])
 refine ao ?_
 apply k1; clear k1; refine kp [0, 2] ?_
 refine ai fun _ k2 => ?_
 refine am hP hN rfl ?_
 iterate 4 (refine aj rfl fun _ k0 => ?_; simp only [zO, zT, acs, reduceCtorEq, aa, V, ad, ag, af, ae]; (repeat refine an ?_); (try refine .inl ?_); apply k0; clear k0; simp only [zP, V])
 refine ao ?_
 apply k2; clear k2; refine kp [0, 2] ?_
 refine aE ?_
 refine ⟨nr, _, rfl, ?_⟩; simp only [zF, zP, aa, V]
 refine VLE.of_eq ?_
 rw [ox]
theorem vy (xs : List Int) (o : Int) (hx : xs.Pairwise (· < ·)) (ho : o ∈ xs) (hl : xs.length ≤ 1000000) : bJ Try.prog 75 [.one (.list (.int .i64) xs), .one (.int .i64 o)] (.tup [.one (.int .i64 (pos xs o : Int)), .one (.bool true)]) := by
 refine aU Try.func75 rfl (by kernel_rfl) (Nat.le_of_ble_eq_true rfl) rfl fun C hP hN hB => ?_
 replace hN : C.N = 54 := hN
 simp only [bc, V]
 refine ai fun _ k1 => ?_
 refine am hP hN rfl ?_
 iterate 2 (refine aj rfl fun _ k0 => ?_; simp only [zO, zT, acs, reduceCtorEq, aa, V, ad, ag, af, ae, cO, Int.toNat_one, Int.reducePow, Int.reduceToNat]; (repeat refine an ?_); (try refine .inl ?_); apply k0; clear k0; simp only [zP, V])
 refine ao ?_
 apply k1; clear k1; refine kp [0, 1, 4, 5] ?_
 refine ai fun _ k2 => ?_
 refine am hP hN rfl ?_
 iterate 3 (refine aj rfl fun _ k0 => ?_; simp only [zO, zT, acs, reduceCtorEq, aa, V, ad, ag, af, ae, cO, Int.toNat_one, Int.reducePow, Int.reduceToNat]; (repeat refine an ?_); (try refine .inl ?_); apply k0; clear k0; simp only [zP, V])
 refine ao ?_
 apply k2; clear k2; refine kp [0, 1, 4, 5, 6] ?_
 refine ai fun _ k3 => ?_
 refine am hP hN rfl ?_
 iterate 3 (refine aj rfl fun _ k0 => ?_; simp only [zO, zT, acs, reduceCtorEq, aa, V, ad, ag, af, ae, cO, Int.toNat_one, Int.reducePow, Int.reduceToNat]; (repeat refine an ?_); (try refine .inl ?_); apply k0; clear k0; simp only [zP, V])
 refine ao ?_
 apply k3; clear k3; refine kp [0, 1, 4, 5, 6, 7, 8] ?_
 refine ai fun _ k4 => ?_
 refine aC ?_
 refine bf (fun n5 s5 => ∃ (lo hi : Nat), (lo ≤ hi ∧ hi ≤ xs.length) ∧ (∀ q, q < lo → xs.getD q 0 < o) ∧ (∀ q, hi ≤ q → q < xs.length → o ≤ xs.getD q 0) ∧ n5 = hi - lo ∧ s5 = { env := [(0, .one (.list (.int .i64) xs)), (1, .one (.int .i64 o)), (4, .one (.int .i64 0)), (5, .one (.bool false)), (6, .one (.int .i64 (xs.length : Int))), (7, .one (.int .i64 (lo : Int))), (8, .one (.int .i64 (hi : Int)))], L := [] }) ?_ ?_
 ·exact ⟨_, _, az [0, 1, 4, 5, 6, 7, 8], 0, xs.length, ⟨Nat.zero_le _, Nat.le_refl _⟩, fun q h => by omega, fun q h h2 => by omega, rfl, rfl⟩
 rintro n5 s5 ⟨lo, hi, hlo, h1, h2, rfl, rfl⟩
 refine ai fun _ k6 => ?_
 refine ai fun _ k7 => ?_
 refine am hP hN rfl ?_
 iterate 3 (refine aj rfl fun _ k0 => ?_; simp only [zO, zT, acs, reduceCtorEq, aa, V, ad, ag, af, ae, cO, Int.toNat_one, Int.reducePow, Int.reduceToNat]; (repeat refine an ?_); (try refine .inl ?_); apply k0; clear k0; simp only [zP, V])
 refine ao ?_
 apply k7; clear k7; refine kp [0, 1, 4, 5, 6, 7, 8, 15] ?_
 refine cd (fun hc8 => ?_) (fun hc8 => ?_)
 ·(try simp only [zB, reduceCtorEq] at hc8)
  refine ay ?_
  apply k6; clear k6; refine kp [0, 1, 4, 5, 6, 7, 8, 15] ?_
  refine aC ?_
  refine ai fun _ k9 => ?_
  refine am hP hN rfl ?_
  iterate 3 (refine aj rfl fun _ k0 => ?_; simp only [zO, zT, acs, reduceCtorEq, aa, V, ad, ag, af, ae, cO, Int.toNat_one, Int.reducePow, Int.reduceToNat]; (repeat refine an ?_); (try refine .inl ?_); apply k0; clear k0; simp only [zP, V])
  (refine aj rfl fun _ k0 => ?_; simp only [zE, op1, ev, lkp, d4, bK, j8, cY, fJ, hU, fe, gN, gy, reduceCtorEq, aa, V, ad, ag, af, ae, Try.td132, Try.td3, cO, Int.toNat_one, Int.reducePow, Int.reduceToNat]; (repeat refine an ?_); (try refine .inl ?_); apply k0; clear k0; simp only [zP, V])
  (refine aj rfl fun _ k0 => ?_; simp only [zO, zT, acs, reduceCtorEq, aa, V, ad, ag, af, ae, cO, Int.toNat_one, Int.reducePow, Int.reduceToNat]; (repeat refine an ?_); (try refine .inl ?_); apply k0; clear k0; simp only [zP, V])
  (refine aj rfl fun _ k0 => ?_; simp only [zE, op1, ev, lkp, d4, bK, j8, cY, fJ, hU, fe, gN, gy, reduceCtorEq, aa, V, ad, ag, af, ae, Try.td132, Try.td3, cO, Int.toNat_one, Int.reducePow, Int.reduceToNat]; (repeat refine an ?_); (try refine .inl ?_); apply k0; clear k0; simp only [zP, V])
  (refine aj rfl fun _ k0 => ?_; simp only [zO, zT, acs, reduceCtorEq, aa, V, ad, ag, af, ae, cO, Int.toNat_one, Int.reducePow, Int.reduceToNat]; (repeat refine an ?_); (try refine .inl ?_); apply k0; clear k0; simp only [zP, V])
  refine ao ?_
  apply k9; clear k9; refine kp [0, 1, 4, 5, 6, 7, 8, 9, 15] ?_
  refine ai fun _ k10 => ?_
  have hmid : ((lo : Int) + (hi : Int)) / 2 = (((lo + hi) / 2) : Nat) := by omega
  rw [hmid]
  have hml : ((lo + hi) / 2) < xs.length := by omega
  refine am hP hN rfl ?_
  iterate 5 (refine aj rfl fun _ k0 => ?_; simp only [zO, zT, acs, reduceCtorEq, aa, V, ad, ag, af, ae, cO, Int.toNat_one, Int.reducePow, Int.reduceToNat]; (repeat refine an ?_); (try refine .inl ?_); apply k0; clear k0; simp only [zP, V])
  refine aj rfl fun _ k0 => ?_
  refine aI (h := aA (B4 (xs.getD ((lo + hi) / 2) 0) o)) rfl rfl (by first | exact rfl | (simp only [ev, zP, aa, V]; exact rfl)) (by simp only [zV, acs, reduceCtorEq, aa, V, ad, ag, af, ae, cO, Int.toNat_one, Int.reducePow, Int.reduceToNat]) ?_
  apply k0; clear k0; simp only [zP, V]
  refine ao ?_
  apply k10; clear k10; refine kp [0, 1, 4, 5, 6, 7, 8, 9, 15, 27] ?_
  refine cd (fun hc11 => ?_) (fun hc11 => ?_)
  ·(try simp only [zB, reduceCtorEq] at hc11)
   have hv : xs.getD ((lo + hi) / 2) 0 < o := by simpa using hc11
   refine am hP hN rfl ?_
   iterate 3 (refine aj rfl fun _ k0 => ?_; simp only [zO, zT, acs, reduceCtorEq, aa, V, ad, ag, af, ae, cO, Int.toNat_one, Int.reducePow, Int.reduceToNat]; (repeat refine an ?_); (try refine .inl ?_); apply k0; clear k0; simp only [zP, V])
   refine ao ?_
   first
   | (refine ⟨_, _, ?_, az [0, 1, 4, 5, 6, 7, 8], ((lo + hi) / 2) + 1, hi, ⟨by omega, hlo.2⟩, pW hx hml hv, h2, rfl, rfl⟩
      omega)
   | (refine ⟨_, _, ?_, az [0, 1, 4, 5, 6, 7, 8], lo, ((lo + hi) / 2), ⟨by omega, by omega⟩, h1, qs hx hml hv, rfl, rfl⟩
      omega)
  (try simp only [zB, reduceCtorEq] at hc11)
  have hv : ¬ xs.getD ((lo + hi) / 2) 0 < o := by simpa using hc11
  refine am hP hN rfl ?_
  iterate 2 (refine aj rfl fun _ k0 => ?_; simp only [zO, zT, acs, reduceCtorEq, aa, V, ad, ag, af, ae, cO, Int.toNat_one, Int.reducePow, Int.reduceToNat]; (repeat refine an ?_); (try refine .inl ?_); apply k0; clear k0; simp only [zP, V])
  refine ao ?_
  first
  | (refine ⟨_, _, ?_, az [0, 1, 4, 5, 6, 7, 8], ((lo + hi) / 2) + 1, hi, ⟨by omega, hlo.2⟩, pW hx hml hv, h2, rfl, rfl⟩
     omega)
  | (refine ⟨_, _, ?_, az [0, 1, 4, 5, 6, 7, 8], lo, ((lo + hi) / 2), ⟨by omega, by omega⟩, h1, qs hx hml hv, rfl, rfl⟩
     omega)
 (try simp only [zB, reduceCtorEq] at hc8)
 refine b6 ?_
 apply k4; clear k4; refine kp [0, 1, 4, 5, 6, 7, 8, 15] ?_
 refine ai fun _ k12 => ?_
 have hlh : lo = hi := by omega
 obtain ⟨hpz, hgz, hlz⟩ := AS hx ho h1 (by rw [hlh]; exact h2)
 refine am hP hN rfl ?_
 iterate 5 (refine aj rfl fun _ k0 => ?_; simp only [zO, zT, acs, reduceCtorEq, aa, V, ad, ag, af, ae, cO, Int.toNat_one, Int.reducePow, Int.reduceToNat]; (repeat refine an ?_); (try refine .inl ?_); apply k0; clear k0; simp only [zP, V])
 refine' aO (want := true) 17 rfl (m := 35) (by simp only [zP, aa, V]; exact rfl) (by kernel_rfl) rfl rfl rfl rfl rfl (fun hg13 => ?a13) ?b13 ?c13
 case a13 =>
  have hq13 := hg13; (try simp only [zB, reduceCtorEq] at hg13); simp only [zE]
  iterate 7 (refine aZ rfl fun _ k0 => ?_; simp only [zO, zT, acs, reduceCtorEq, aa, V, ad, ag, af, ae, cO, Int.toNat_one, Int.reducePow, Int.reduceToNat]; (repeat refine an ?_); (try refine .inl ?_); apply k0; clear k0; simp only [zP, V])
  refine' aO (want := false) 9 rfl (m := 42) (by simp only [zP, aa, V]; exact rfl) (by kernel_rfl) rfl rfl rfl rfl rfl (fun hg14 => ?a14) ?b14 ?c14
  case a14 =>
   have hq14 := hg14; (try simp only [zB, reduceCtorEq] at hg14); simp only [zE]
   iterate 4 (refine aZ rfl fun _ k0 => ?_; simp only [zO, zT, acs, reduceCtorEq, aa, V, ad, ag, af, ae, cO, Int.toNat_one, Int.reducePow, Int.reduceToNat]; (repeat refine an ?_); (try refine .inl ?_); apply k0; clear k0; simp only [zP, V])
   refine aZ rfl fun _ k0 => ?_
   refine aI (h := aA (wJ (xs.getD lo 0))) rfl rfl (by first | exact rfl | (simp only [ev, zP, aa, V]; exact rfl)) (by simp only [zV, acs, reduceCtorEq, aa, V, ad, ag, af, ae, cO, Int.toNat_one, Int.reducePow, Int.reduceToNat]) ?_
   apply k0; clear k0; simp only [zP, V]
   (refine aZ rfl fun _ k0 => ?_; simp only [zO, zT, acs, reduceCtorEq, aa, V, ad, ag, af, ae, cO, Int.toNat_one, Int.reducePow, Int.reduceToNat]; (repeat refine an ?_); (try refine .inl ?_); apply k0; clear k0; simp only [zP, V])
   refine' aO (want := true) 2 rfl (m := 48) (by simp only [zP, aa, V]; exact rfl) (by kernel_rfl) rfl rfl rfl rfl rfl (fun hg15 => ?a15) ?b15 ?c15
   case a15 =>
    have hq15 := hg15; (try simp only [zB, reduceCtorEq] at hg15); simp only [zE]
    (refine aZ rfl fun _ k0 => ?_; simp only [zO, zT, acs, reduceCtorEq, aa, V, ad, ag, af, ae, cO, Int.toNat_one, Int.reducePow, Int.reduceToNat]; (repeat refine an ?_); (try refine .inl ?_); apply k0; clear k0; simp only [zP, V])
    refine aZ rfl fun _ k0 => ?_
    refine aI (h := aA (wJ o)) rfl rfl (by first | exact rfl | (simp only [ev, zP, aa, V]; exact rfl)) (by simp only [zV, acs, reduceCtorEq, aa, V, ad, ag, af, ae, cO, Int.toNat_one, Int.reducePow, Int.reduceToNat]) ?_
    apply k0; clear k0; simp only [zP, V]
    (refine aZ rfl fun _ k0 => ?_; simp only [zO, zT, acs, reduceCtorEq, aa, V, ad, ag, af, ae, cO, Int.toNat_one, Int.reducePow, Int.reduceToNat]; (repeat refine an ?_); (try refine .inl ?_); apply k0; clear k0; simp only [zP, V])
    refine ao ?_
    refine ⟨by simp only [zP, aa, V]; exact rfl, rfl, ?_, rfl⟩; (repeat refine aP rfl ?_); exact bn (by exact rfl) hq15
   case b15 => exact cp
   simp only [b7, aV]
   (refine aZ rfl fun _ k0 => ?_; simp only [zO, zT, acs, reduceCtorEq, aa, V, ad, ag, af, ae, cO, Int.toNat_one, Int.reducePow, Int.reduceToNat]; (repeat refine an ?_); (try refine .inl ?_); apply k0; clear k0; simp only [zP, V])
   refine ao ?_
   refine ⟨by simp only [zP, aa, V]; exact rfl, rfl, ?_, rfl⟩; (repeat refine aP rfl ?_); exact bn (by exact rfl) hq14
  case b14 => exact cp
  simp only [b7, aV]
  (refine aj rfl fun _ k0 => ?_; simp only [zO, zT, acs, reduceCtorEq, aa, V, ad, ag, af, ae, cO, Int.toNat_one, Int.reducePow, Int.reduceToNat]; (repeat refine an ?_); (try refine .inl ?_); apply k0; clear k0; simp only [zP, V])
  refine ao ?_
  refine ⟨by simp only [zP, aa, V]; exact rfl, rfl, ?_, rfl⟩; (repeat refine aP rfl ?_); exact bn (by exact rfl) hq13
 case b13 => exact cp
 simp only [b7, aV]
 iterate 2 (refine aj rfl fun _ k0 => ?_; simp only [zO, zT, acs, reduceCtorEq, aa, V, ad, ag, af, ae, cO, Int.toNat_one, Int.reducePow, Int.reduceToNat]; (repeat refine an ?_); (try refine .inl ?_); apply k0; clear k0; simp only [zP, V])
 refine ao ?_
 apply k12; clear k12; refine kp [0, 1, 4, 5, 6, 7, 8, 15] ?_
 refine aE ?_
 refine ⟨nr, _, rfl, ?_⟩; simp only [zF, zP, aa, V, cO, Int.toNat_one, Int.reducePow, Int.reduceToNat]
 refine VLE.of_eq ?_
 simp only [hgz]
 simp [hlz, ← hpz, ox]
open Go.Shelf in
def Try.laysNm220_ren : Go.Shelf.Ren := ⟨fun | 20 => 74 | n => n, fun | 22 => 41 | 3 => 3 | 4 => 4 | 0 => 0 | n => n, fun | n => n⟩
theorem Try.laysNm220 : Go.Proofs.Lays2.n20 Try.prog Try.laysNm220_ren := {
  mixed := by kernel_rfl,
  f20 := Try.func74.trans (congrArg some (by kernel_rfl)),
  t0 := Try.underlying0,
  a0 := Try.isAgg0,
  z0 := Try.sizeOf0,
  v0 := Try.zeroValue0,
  t3 := Try.underlying3,
  a3 := Try.isAgg3,
  z3 := Try.sizeOf3,
  v3 := Try.zeroValue3,
  t4 := Try.underlying4,
  a4 := Try.isAgg4,
  z4 := Try.sizeOf4,
  v4 := Try.zeroValue4,
  t22 := Try.underlying41,
  a22 := Try.isAgg41,
  z22 := Try.sizeOf41,
  v22 := Try.zeroValue41,
  i3 := by kernel_rfl }
theorem nF : sB Try.prog 74 := ⟨⟨Try.f74, Try.func74, by kernel_rfl, by kernel_rfl⟩, fun blk off cap zs w hH hb hz => Any.slices_Compact_int Try.laysNm220 blk off cap zs w hH hb hz⟩
open Go.Shelf in
def Try.lays189_ren : Go.Shelf.Ren := ⟨fun | 189 => 73 | 125 => 84 | 257 => 83 | 128 => 98 | 129 => 99 | 294 => 90 | 295 => 91 | 296 => 92 | 297 => 93 | 298 => 94 | 299 => 95 | 216 => 85 | 300 => 96 | 301 => 97 | 328 => 103 | 329 => 104 | 330 => 105 | 331 => 106 | 332 => 107 | 215 => 100 | 343 => 109 | n => n, fun | 28 => 41 | 3 => 3 | 46 => 132 | 0 => 0 | 51 => 144 | 53 => 146 | 4 => 4 | 183 => 138 | 182 => 137 | 131 => 69 | 5 => 5 | 9 => 9 | 218 => 148 | 222 => 152 | 228 => 155 | 229 => 104 | n => n, fun | n => n⟩
theorem Try.lays189 : Go.Proofs.Lays.n189 Try.prog Try.lays189_ren := {
  mixed := by kernel_rfl,
  f125 := Try.func84.trans (congrArg some (by kernel_rfl)),
  f128 := Try.func98.trans (congrArg some (by kernel_rfl)),
  f129 := Try.func99.trans (congrArg some (by kernel_rfl)),
  f189 := Try.func73.trans (congrArg some (by kernel_rfl)),
  f215 := Try.func100.trans (congrArg some (by kernel_rfl)),
  f216 := Try.func85.trans (congrArg some (by kernel_rfl)),
  f257 := Try.func83.trans (congrArg some (by kernel_rfl)),
  f294 := Try.func90.trans (congrArg some (by kernel_rfl)),
  f295 := Try.func91.trans (congrArg some (by kernel_rfl)),
  f296 := Try.func92.trans (congrArg some (by kernel_rfl)),
  f297 := Try.func93.trans (congrArg some (by kernel_rfl)),
  f298 := Try.func94.trans (congrArg some (by kernel_rfl)),
  f299 := Try.func95.trans (congrArg some (by kernel_rfl)),
  f300 := Try.func96.trans (congrArg some (by kernel_rfl)),
  f301 := Try.func97.trans (congrArg some (by kernel_rfl)),
  f328 := Try.func103.trans (congrArg some (by kernel_rfl)),
  f329 := Try.func104.trans (congrArg some (by kernel_rfl)),
  f330 := Try.func105.trans (congrArg some (by kernel_rfl)),
  f331 := Try.func106.trans (congrArg some (by kernel_rfl)),
  f332 := Try.func107.trans (congrArg some (by kernel_rfl)),
  f343 := Try.func109.trans (congrArg some (by kernel_rfl)),
  t0 := Try.underlying0,
  a0 := Try.isAgg0,
  z0 := Try.sizeOf0,
  v0 := Try.zeroValue0,
  t3 := Try.underlying3,
  a3 := Try.isAgg3,
  z3 := Try.sizeOf3,
  v3 := Try.zeroValue3,
  t4 := Try.underlying4,
  a4 := Try.isAgg4,
  z4 := Try.sizeOf4,
  v4 := Try.zeroValue4,
  t5 := Try.underlying5,
  a5 := Try.isAgg5,
  z5 := Try.sizeOf5,
  v5 := Try.zeroValue5,
  t9 := Try.underlying9,
  a9 := Try.isAgg9,
  z9 := Try.sizeOf9,
  v9 := Try.zeroValue9,
  t28 := Try.underlying41,
  a28 := Try.isAgg41,
  z28 := Try.sizeOf41,
  v28 := Try.zeroValue41,
  t46 := Try.underlying132,
  a46 := Try.isAgg132,
  z46 := Try.sizeOf132,
  v46 := Try.zeroValue132,
  t51 := Try.underlying144,
  a51 := Try.isAgg144,
  z51 := Try.sizeOf144,
  v51 := Try.zeroValue144,
  t53 := Try.underlying146,
  a53 := Try.isAgg146,
  z53 := Try.sizeOf146,
  v53 := Try.zeroValue146,
  t131 := Try.underlying69,
  a131 := Try.isAgg69,
  z131 := Try.sizeOf69,
  v131 := Try.zeroValue69,
  t182 := Try.underlying137,
  a182 := Try.isAgg137,
  z182 := Try.sizeOf137,
  v182 := Try.zeroValue137,
  t183 := Try.underlying138,
  a183 := Try.isAgg138,
  z183 := Try.sizeOf138,
  v183 := Try.zeroValue138,
  t218 := Try.underlying148,
  a218 := Try.isAgg148,
  z218 := Try.sizeOf148,
  v218 := Try.zeroValue148,
  t222 := Try.underlying152,
  a222 := Try.isAgg152,
  z222 := Try.sizeOf152,
  v222 := Try.zeroValue152,
  t228 := Try.underlying155,
  a228 := Try.isAgg155,
  z228 := Try.sizeOf155,
  v228 := Try.zeroValue155,
  t229 := Try.underlying104,
  a229 := Try.isAgg104,
  z229 := Try.sizeOf104,
  v229 := Try.zeroValue104 }
theorem uH : yH Try.prog 73 := ⟨⟨Try.f73, Try.func73, by kernel_rfl, by kernel_rfl⟩, fun blk off cap zs w hH hb hz => Any.slices_Sort_int Try.lays189 blk off cap zs w hH hb hz⟩
set_option maxHeartbeats 2500000 in
theorem oN (m : Mly) (x : Value) (ini cur : List Int) (a : Int) (hm : MOK m) (hs : d7 m cur) (ha : 0 ≤ a ∧ a < m.inp) (h0 : 0 < cur.length) (hl : cur.length ≤ 1000) (hil : ini.length = cur.length) (L0 : List AO) (m0 : Nat) (hm0 : L0[m0]? = some (.vars 62 [.int .i64 m.inp, .int .i64 m.st, .list (.list (.int .i64)) m.nx, .list (.list (.int .i64)) m.ot, .exact x])) : eG Try.prog L0 53 (List.map (mv1 m0) [.one (.ptr 0 0 0 0), .agg [.list (.int .i64) ini, .list (.int .i64) cur], .one (.int .i64 a)]) { av := .tup [.one (.list (.int .i64) (aF (ouL m cur a))), .one (.list (.pair (.list (.int .i64)) (.pair (.list (.int .i64)) .unit)) (lS m ini cur a (aF (ouL m cur a))))], upd := [(m0, .vars 62 [.int .i64 m.inp, .int .i64 m.st, .list (.list (.int .i64)) m.nx, .list (.list (.int .i64)) m.ot, .exact x])], fp := [m0] } := by
 have ol := hm.ol
 have hkl := gX (ouL m cur a)
 have hol : (ouL m cur a).length = cur.length := aD ..
 have hor := (du (ouL m cur a)).1
 have hk0 := w5 (xs := ouL m cur a) (by omega)
 refine kY Try.func53 rfl (by kernel_rfl) (Nat.le_of_ble_eq_true rfl) rfl rfl (fun C hP hN hB => ?_) L0 m0 hm0
 replace hN : C.N = 106 := hN
 simp only [bc, V]
 refine ai fun _ k1 => ?_
 refine am hP hN rfl ?_
 iterate 3 (refine aj rfl fun _ k0 => ?_; simp only [zO, zT, acs, reduceCtorEq, aa, V, ad, ag, af, ae, ah]; (repeat refine an ?_); (try refine .inl ?_); apply k0; clear k0; simp only [zP, V])
 refine ao ?_
 apply k1; clear k1; refine kp [0, 1, 2, 4, 6, 7] ?_
 refine ai fun _ k2 => ?_
 refine am hP hN rfl ?_
 (refine aj rfl fun _ k0 => ?_; simp only [zO, zT, acs, reduceCtorEq, aa, V, ad, ag, af, ae, ah]; (repeat refine an ?_); (try refine .inl ?_); apply k0; clear k0; simp only [zP, V])
 refine ao ?_
 apply k2; clear k2; refine kp [0, 1, 2, 4, 6, 7, 8] ?_
 refine ai fun _ k3 => ?_
 refine ai fun _ k4 => ?_
 refine am hP hN rfl ?_
 iterate 4 (refine aj rfl fun _ k0 => ?_; simp only [zO, zT, acs, reduceCtorEq, aa, V, ad, ag, af, ae, ah]; (repeat refine an ?_); (try refine .inl ?_); apply k0; clear k0; simp only [zP, V])
 refine ao ?_
 apply k4; clear k4; refine kp [0, 1, 2, 4, 6, 7, 8, 18, 19, 20] ?_
 refine aC ?_
 refine gH 8 (.int .i64) 3 (by decide) rfl ?_; simp only [aw, aG, aT, bg, Nat.zero_add, V]
 refine bf (fun n5 s5 => ∃ (i : Nat) (v : Nat), (i ≤ cur.length) ∧ n5 = cur.length - i ∧ s5 = { env := [(0, .one (.ptr 0 0 0 0)), (2, .one (.int .i64 a)), (4, .one (.ptr 1 0 0 0)), (6, .one .nils), (7, .one .nils), (8, .one (.row 2 v)), (18, .one (.list (.int .i64) cur)), (19, .one (.int .i64 (cur.length : Int))), (20, .one (.int .i64 (i : Int)))], L := [.vars 62 [.int .i64 m.inp, .int .i64 m.st, .list (.list (.int .i64)) m.nx, .list (.list (.int .i64)) m.ot, .exact x], .vars 66 [.list (.int .i64) ini, .list (.int .i64) cur], .row (.int .i64) 3 v (ouL m (cur.take i) a)] }) ?_ ?_
 ·exact ⟨_, _, az [0, 2, 4, 6, 7, 8, 18, 19, 20], 0, 0, Nat.zero_le _, rfl, rfl⟩
 rintro n5 s5 ⟨i, v, hi, rfl, rfl⟩
 refine ai fun _ k6 => ?_
 refine am hP hN rfl ?_
 (refine aj rfl fun _ k0 => ?_; simp only [zO, zT, acs, reduceCtorEq, aa, V, ad, ag, af, ae, ah]; (repeat refine an ?_); (try refine .inl ?_); apply k0; clear k0; simp only [zP, V])
 refine ao ?_
 apply k6; clear k6; refine kp [0, 2, 4, 6, 7, 8, 18, 19, 20, 21] ?_
 refine ai fun _ k7 => ?_
 refine cd (fun hc8 => ?_) (fun hc8 => ?_)
 ·(try simp only [zB, reduceCtorEq] at hc8)
  refine ay ?_
  apply k7; clear k7; refine kp [0, 2, 4, 6, 7, 8, 18, 19, 20, 21] ?_
  refine ai fun _ k9 => ?_
  refine aC ?_
  refine ai fun _ k10 => ?_
  refine am hP hN rfl ?_
  iterate 3 (refine aj rfl fun _ k0 => ?_; simp only [zO, zT, acs, reduceCtorEq, aa, V, ad, ag, af, ae, ah]; (repeat refine an ?_); (try refine .inl ?_); apply k0; clear k0; simp only [zP, V])
  refine ao ?_
  apply k10; clear k10; refine kp [0, 2, 4, 6, 7, 8, 10, 18, 19, 20, 21] ?_
  have hsk := hs _ (bh (w := cur) (i := i) (by omega))
  have q2 := hm.ql (cur.getD i 0).toNat (by omega)
  have hnl : (ouL m (cur.take i) a).length = i := by unfold ouL; rw [aD, List.length_take]; omega
  refine am hP hN rfl ?_
  iterate 15 (refine aj rfl fun _ k0 => ?_; simp only [zO, zT, acs, reduceCtorEq, aa, V, ad, ag, af, ae, ah]; (repeat refine an ?_); (try refine .inl ?_); apply k0; clear k0; simp only [zP, V])
  refine ao ?_
  apply k9; clear k9; refine kp [0, 2, 4, 6, 7, 8, 10, 18, 19, 20, 21] ?_
  refine am hP hN rfl ?_
  iterate 2 (refine aj rfl fun _ k0 => ?_; simp only [zO, zT, acs, reduceCtorEq, aa, V, ad, ag, af, ae, ah]; (repeat refine an ?_); (try refine .inl ?_); apply k0; clear k0; simp only [zP, V])
  refine ao ?_
  refine ⟨_, _, ?_, az [0, 2, 4, 6, 7, 8, 18, 19, 20], i + 1, v + 1, by omega, rfl, ?_⟩
  · omega
  · rw [sw (by omega)]; rfl
 (try simp only [zB, reduceCtorEq] at hc8)
 refine b6 ?_
 apply k3; clear k3; refine kp [0, 2, 4, 6, 7, 8, 18, 19, 20, 21] ?_
 refine ai fun _ k11 => ?_
 refine d8 2 rfl ?_; simp only [aH, bm, zS, aa, and_self, and_true, true_and, and_false, false_and, if_true, if_false, eq_self, reduceCtorEq, Nat.one_ne_zero, Nat.zero_ne_one]
 have hkw : i = cur.length := by omega
 rw [hkw, aL]
 refine cU (n := 2) (L1 := [_, _]) rfl rfl (by rw [hB]; simp) rfl rfl ?_
 refine am hP hN rfl ?_
 (refine aj rfl fun _ k0 => ?_; simp only [zO, zT, acs, reduceCtorEq, aa, V, ad, ag, af, ae, ah]; (repeat refine an ?_); (try refine .inl ?_); apply k0; clear k0; simp only [zP, V])
 refine aj rfl fun _ k0 => ?_
 refine aI (h := lp (nb (ouL m cur a) (by omega) (by omega))) rfl rfl (by first | exact rfl | (simp only [ev, zP, aa, V]; exact rfl)) (by simp only [zV, acs, reduceCtorEq, aa, V, ad, ag, af, ae, ah]) ?_
 apply k0; clear k0; simp only [zP, V]
 (refine aj rfl fun _ k0 => ?_; simp only [zO, zT, acs, reduceCtorEq, aa, V, ad, ag, af, ae, ah]; (repeat refine an ?_); (try refine .inl ?_); apply k0; clear k0; simp only [zP, V])
 refine ao ?_
 apply k11; clear k11; refine kp [0, 2, 4, 6, 7, 8, 11, 18, 19, 20, 21] ?_
 refine ai fun _ k12 => ?_
 refine am hP hN rfl ?_
 (refine aj rfl fun _ k0 => ?_; simp only [zO, zT, acs, reduceCtorEq, aa, V, ad, ag, af, ae, ah]; (repeat refine an ?_); (try refine .inl ?_); apply k0; clear k0; simp only [zP, V])
 refine aj rfl fun _ k0 => ?_
 refine aI (h := oE (k := 2) (ver := 0) (xs := ouL m cur a) uH rfl (by omega) (by omega)) rfl rfl (by first | exact rfl | (simp only [ev, zP, aa, V]; exact rfl)) (by simp only [zV, acs, reduceCtorEq, aa, V, ad, ag, af, ae, ah]) ?_
 apply k0; clear k0; simp only [zP, V]
 refine ao ?_
 apply k12; clear k12; refine kp [0, 2, 4, 6, 7, 8, 11, 18, 19, 20, 21] ?_
 refine ai fun _ k13 => ?_
 refine am hP hN rfl ?_
 (refine aj rfl fun _ k0 => ?_; simp only [zO, zT, acs, reduceCtorEq, aa, V, ad, ag, af, ae, ah]; (repeat refine an ?_); (try refine .inl ?_); apply k0; clear k0; simp only [zP, V])
 refine aj rfl fun _ k0 => ?_
 refine aI (h := kT (k := 2) (ver := 0) (xs := gT (ouL m cur a)) nF rfl (by rw [ic]; omega) (by rw [ic]; omega) jr) rfl rfl (by first | exact rfl | (simp only [ev, zP, aa, V]; exact rfl)) (by simp only [zV, acs, reduceCtorEq, aa, V, ad, ag, af, ae, ah]) ?_
 apply k0; clear k0; simp only [zP, V]
 (refine aj rfl fun _ k0 => ?_; simp only [zO, zT, acs, reduceCtorEq, aa, V, ad, ag, af, ae, ah]; (repeat refine an ?_); (try refine .inl ?_); apply k0; clear k0; simp only [zP, V])
 refine ao ?_
 apply k13; clear k13; refine kp [0, 2, 4, 6, 7, 8, 11, 18, 19, 20, 21] ?_
 refine ai fun _ k14 => ?_
 refine d8 2 rfl ?_; simp only [aH, bm, zS, aa, and_self, and_true, true_and, and_false, false_and, if_true, if_false, eq_self, reduceCtorEq, Nat.one_ne_zero, Nat.zero_ne_one]
 rw [show Lib.compact (gT (ouL m cur a)) = (aF (ouL m cur a)) from rfl]
 refine am hP hN rfl ?_
 iterate 2 (refine aj rfl fun _ k0 => ?_; simp only [zO, zT, acs, reduceCtorEq, aa, V, ad, ag, af, ae, ah]; (repeat refine an ?_); (try refine .inl ?_); apply k0; clear k0; simp only [zP, V])
 (refine aj rfl fun _ k0 => ?_; simp only [zE, op1, ev, lkp, d4, bK, cT, bt, Ty.size, Ty.dflt, reduceCtorEq, aa, V, ad, ag, af, ae, Try.el91, Try.td91, ah]; (repeat refine an ?_); refine Or.inr (Or.inl (k0 _ ?_)); clear k0; simp only [zP, V])
 (refine aj rfl fun _ k0 => ?_; simp only [zO, zT, acs, reduceCtorEq, aa, V, ad, ag, af, ae, ah]; (repeat refine an ?_); (try refine .inl ?_); apply k0; clear k0; simp only [zP, V])
 refine ao ?_
 apply k14; clear k14; refine kp [0, 2, 4, 6, 7, 8, 11, 12, 18, 19, 20, 21] ?_
 refine ai fun _ k15 => ?_
 refine ai fun _ k16 => ?_
 refine am hP hN rfl ?_
 iterate 3 (refine aj rfl fun _ k0 => ?_; simp only [zO, zT, acs, reduceCtorEq, aa, V, ad, ag, af, ae, ah]; (repeat refine an ?_); (try refine .inl ?_); apply k0; clear k0; simp only [zP, V])
 refine ao ?_
 apply k16; clear k16; refine kp [0, 2, 4, 6, 7, 8, 11, 12, 18, 19, 20, 21, 48, 49, 50] ?_
 refine aC ?_
 refine jS 3 3 (T := 66) (sz := 2) (v := 0) (2 * (aF (ouL m cur a)).length) _ [] (by rw [← pr]; rfl) ?_
 rw [← wt m ini cur a (aF (ouL m cur a)), hol]
 simp only [cq, cv, aw, aG, Nat.zero_add, V, bg, aT]
 refine bf (fun n17 s17 => ∃ (i : Nat), (i ≤ cur.length) ∧ n17 = cur.length - i ∧ s17 = { env := [(0, .one (.ptr 0 0 0 0)), (2, .one (.int .i64 a)), (4, .one (.ptr 1 0 0 0)), (6, .one .nils), (7, .one .nils), (11, .one (.list (.int .i64) (aF (ouL m cur a)))), (12, .one (.rwc 3 0)), (48, .one (.list (.int .i64) (ouL m cur a))), (49, .one (.int .i64 (cur.length : Int))), (50, .one (.int .i64 (i : Int)))], L := .vars 62 [.int .i64 m.inp, .int .i64 m.st, .list (.list (.int .i64)) m.nx, .list (.list (.int .i64)) m.ot, .exact x] :: .vars 66 [.list (.int .i64) ini, .list (.int .i64) cur] :: .dead 1 :: .rowc 66 2 0 (ca 4 (dY m ini cur a i (aF (ouL m cur a)))) :: dU 3 (dY m ini cur a i (aF (ouL m cur a))) }) ?_ ?_
 ·refine ⟨_, _, az [0, 2, 4, 6, 7, 11, 12, 48, 49, 50], 0, Nat.zero_le _, rfl, ?_⟩
  rfl
 rintro n17 s17 ⟨i, hi, rfl, rfl⟩
 refine ai fun _ k18 => ?_
 refine am hP hN rfl ?_
 (refine aj rfl fun _ k0 => ?_; simp only [zO, zT, acs, reduceCtorEq, aa, V, ad, ag, af, ae, ah]; (repeat refine an ?_); (try refine .inl ?_); apply k0; clear k0; simp only [zP, V])
 refine ao ?_
 apply k18; clear k18; refine kp [0, 2, 4, 6, 7, 11, 12, 48, 49, 50, 51] ?_
 refine ai fun _ k19 => ?_
 refine cd (fun hc20 => ?_) (fun hc20 => ?_)
 ·(try simp only [zB, reduceCtorEq] at hc20)
  refine ay ?_
  apply k19; clear k19; refine kp [0, 2, 4, 6, 7, 11, 12, 48, 49, 50, 51] ?_
  refine ai fun _ k21 => ?_
  refine aC ?_
  refine ai fun _ k22 => ?_
  refine am hP hN rfl ?_
  iterate 5 (refine aj rfl fun _ k0 => ?_; simp only [zO, zT, acs, reduceCtorEq, aa, V, ad, ag, af, ae, ah]; (repeat refine an ?_); (try refine .inl ?_); apply k0; clear k0; simp only [zP, V])
  refine ao ?_
  apply k22; clear k22; refine kp [0, 2, 4, 6, 7, 11, 12, 13, 14, 48, 49, 50, 51] ?_
  refine ai fun _ k23 => ?_
  have hgo : (ouL m cur a).getD i 0 = m.out (cur.getD i 0) a := by unfold ouL; simp [List.getD, show i < cur.length by omega]
  have hin : m.out (cur.getD i 0) a ∈ (aF (ouL m cur a)) := by rw [← hgo]; exact ((du (ouL m cur a)).2 _).2 (bh (by omega))
  rw [hgo]
  refine am hP hN rfl ?_
  iterate 2 (refine aj rfl fun _ k0 => ?_; simp only [zO, zT, acs, reduceCtorEq, aa, V, ad, ag, af, ae, ah]; (repeat refine an ?_); (try refine .inl ?_); apply k0; clear k0; simp only [zP, V])
  refine aj rfl fun _ k0 => ?_
  refine aI (h := aA (vy (aF (ouL m cur a)) (m.out (cur.getD i 0) a) hor hin (by omega))) rfl rfl (by first | exact rfl | (simp only [ev, zP, aa, V]; exact rfl)) (by simp only [zV, acs, reduceCtorEq, aa, V, ad, ag, af, ae, ah]) ?_
  apply k0; clear k0; simp only [zP, V]
  iterate 5 (refine aj rfl fun _ k0 => ?_; simp only [zO, zT, acs, reduceCtorEq, aa, V, ad, ag, af, ae, ah]; (repeat refine an ?_); (try refine .inl ?_); apply k0; clear k0; simp only [zP, V])
  refine ao ?_
  apply k23; clear k23; refine kp [0, 2, 4, 6, 7, 11, 12, 13, 14, 15, 48, 49, 50, 51] ?_
  refine ai fun _ k24 => ?_
  obtain ⟨k, hkd⟩ : ∃ k, k = pos (aF (ouL m cur a)) (m.out (cur.getD i 0) a) := ⟨_, rfl⟩
  rw [← hkd]
  have hkl9 : k < (aF (ouL m cur a)).length := by rw [hkd]; exact gD hin
  have hko : m.out (cur.getD i 0) a = (aF (ouL m cur a)).getD k 0 := by rw [hkd]; exact (ju hin).symm
  have hFl : (dY m ini cur a i (aF (ouL m cur a))).length = 2 * (aF (ouL m cur a)).length := nc ..
  have hg0 : (dY m ini cur a i (aF (ouL m cur a))).getD (k * 2) [] = (cb m ini cur a i ((aF (ouL m cur a)).getD k 0)) := by rw [Nat.mul_comm]; exact oQ hkl9
  have hc0 : (ca 4 (dY m ini cur a i (aF (ouL m cur a)))).getD (k * 2) .junk = .row (k * 2 + 1 + 1 + 1 + 1) (cb m ini cur a i ((aF (ouL m cur a)).getD k 0)).length := by rw [qC4 (by omega), hg0]
  have hr0 : (dU 3 (dY m ini cur a i (aF (ouL m cur a))))[k * 2]? = some (.row (.int .i64) 3 (cb m ini cur a i ((aF (ouL m cur a)).getD k 0)).length (cb m ini cur a i ((aF (ouL m cur a)).getD k 0))) := by rw [oY (by omega), hg0]
  have hgl : ((cb m ini cur a i ((aF (ouL m cur a)).getD k 0)) ++ [ini.getD i 0]).length = (cb m ini cur a i ((aF (ouL m cur a)).getD k 0)).length + 1 := ar
  have hw0 : bP (ca 4 (dY m ini cur a i (aF (ouL m cur a)))) (k * 2) [.row (k * 2 + 1 + 1 + 1 + 1) ((cb m ini cur a i ((aF (ouL m cur a)).getD k 0)).length + 1)] = ca 4 ((dY m ini cur a i (aF (ouL m cur a))).set (k * 2) (cb m ini cur a i ((aF (ouL m cur a)).getD k 0) ++ [ini.getD i 0])) := by rw [← hgl]; exact qW4 (by omega)
  have hs0 : (dU 3 (dY m ini cur a i (aF (ouL m cur a)))).set (k * 2) (.row (.int .i64) 3 ((cb m ini cur a i ((aF (ouL m cur a)).getD k 0)).length + 1) ((cb m ini cur a i ((aF (ouL m cur a)).getD k 0)) ++ [ini.getD i 0])) = dU 3 ((dY m ini cur a i (aF (ouL m cur a))).set (k * 2) (cb m ini cur a i ((aF (ouL m cur a)).getD k 0) ++ [ini.getD i 0])) := by rw [← hgl]; exact ph
  have hgll : (cb m ini cur a i ((aF (ouL m cur a)).getD k 0)).length ≤ i := A8
  refine bo hP hN Try.mixed rfl ?_
  iterate 17 (refine aj rfl fun _ k0 => ?_; simp only [zE, op1, ev, lkp, d4, bK, cE, zG, Ty.dflt, Ty.size, Nat.mul_one, ne_eq, not_false_eq_true, Int.natCast_one, Int.mul_one, bU, cZ, bS, cD, acs, bW, dG, ci, dE, rep, bt, cm, cw, fA, eN, cM, df, eS, Nat.div_one, cV, dj, dite_true, eC, reduceCtorEq, aa, V, ad, ag, af, ae, Try.el41, Try.el91, Try.st66, Try.td1, Try.td3, Try.td41, Try.td66, Try.td91, ah, hc0, hr0, iw, hFl, Nat.add_zero]; (repeat refine an ?_); (try refine .inl ?_); apply k0; clear k0; simp only [zP, V, hw0, hs0, Nat.add_zero])
  refine ao ?_
  refine ⟨by exact pE (um (k * 2)) [([], [], 0), ([], [], 0), ([], [], 0), ([], [], 0), ([], [3], 0), ([], [3], 0), ([], [3], 0), ([], [1], 0), ([], [1], 0), ([], [], 0), ([], [], 0), ([], [], 0), ([], [], 0), ([4], [4], 0), ([], [3], 0), ([], [3], 0), ([3], [3], 0)] (by kernel_rfl), ?_⟩
  apply k24; clear k24; refine kp [0, 2, 4, 6, 7, 11, 12, 13, 14, 15, 48, 49, 50, 51] ?_
  have hsk := hs _ (bh (w := cur) (i := i) (by omega))
  have q1 := hm.rl (cur.getD i 0).toNat (by omega)
  have hF1l : ((dY m ini cur a i (aF (ouL m cur a))).set (k * 2) (cb m ini cur a i ((aF (ouL m cur a)).getD k 0) ++ [ini.getD i 0])).length = 2 * (aF (ouL m cur a)).length := by rw [List.length_set]; exact hFl
  have hg1 : ((dY m ini cur a i (aF (ouL m cur a))).set (k * 2) (cb m ini cur a i ((aF (ouL m cur a)).getD k 0) ++ [ini.getD i 0])).getD (k * 2 + 1) [] = (bE m cur a i ((aF (ouL m cur a)).getD k 0)) := by rw [vC (by omega), Nat.mul_comm]; exact p6 hkl9
  have hc1 : (ca 4 ((dY m ini cur a i (aF (ouL m cur a))).set (k * 2) (cb m ini cur a i ((aF (ouL m cur a)).getD k 0) ++ [ini.getD i 0]))).getD (k * 2 + 1) .junk = .row (k * 2 + 1 + 1 + 1 + 1 + 1) (bE m cur a i ((aF (ouL m cur a)).getD k 0)).length := by rw [qC4 (by omega), hg1]
  have hr1 : (dU 3 ((dY m ini cur a i (aF (ouL m cur a))).set (k * 2) (cb m ini cur a i ((aF (ouL m cur a)).getD k 0) ++ [ini.getD i 0])))[k * 2 + 1]? = some (.row (.int .i64) 3 (bE m cur a i ((aF (ouL m cur a)).getD k 0)).length (bE m cur a i ((aF (ouL m cur a)).getD k 0))) := by rw [oY (by omega), hg1]
  have hhl : ((bE m cur a i ((aF (ouL m cur a)).getD k 0)) ++ [m.nxt (cur.getD i 0) a]).length = (bE m cur a i ((aF (ouL m cur a)).getD k 0)).length + 1 := ar
  have hst9 : ((dY m ini cur a i (aF (ouL m cur a))).set (k * 2) (cb m ini cur a i ((aF (ouL m cur a)).getD k 0) ++ [ini.getD i 0])).set (k * 2 + 1) ((bE m cur a i ((aF (ouL m cur a)).getD k 0)) ++ [m.nxt (cur.getD i 0) a]) = dY m ini cur a (i + 1) (aF (ouL m cur a)) := by rw [Nat.mul_comm k 2]; exact (pR hor hkl9 hko).symm
  have hw1 : bP (ca 4 ((dY m ini cur a i (aF (ouL m cur a))).set (k * 2) (cb m ini cur a i ((aF (ouL m cur a)).getD k 0) ++ [ini.getD i 0]))) (k * 2 + 1) [.row (k * 2 + 1 + 1 + 1 + 1 + 1) ((bE m cur a i ((aF (ouL m cur a)).getD k 0)).length + 1)] = ca 4 (dY m ini cur a (i + 1) (aF (ouL m cur a))) := by rw [← hhl, ← hst9]; exact qW4 (by omega)
  have hs1 : (dU 3 ((dY m ini cur a i (aF (ouL m cur a))).set (k * 2) (cb m ini cur a i ((aF (ouL m cur a)).getD k 0) ++ [ini.getD i 0]))).set (k * 2 + 1) (.row (.int .i64) 3 ((bE m cur a i ((aF (ouL m cur a)).getD k 0)).length + 1) ((bE m cur a i ((aF (ouL m cur a)).getD k 0)) ++ [(m.nx.getD (cur.getD i 0).toNat []).getD a.toNat 0])) = dU 3 (dY m ini cur a (i + 1) (aF (ouL m cur a))) := by rw [← hhl, ← hst9]; exact ph
  have hcll : (bE m cur a i ((aF (ouL m cur a)).getD k 0)).length ≤ i := lT
  refine bo hP hN Try.mixed rfl ?_
  iterate 27 (refine aj rfl fun _ k0 => ?_; simp only [zE, op1, ev, lkp, d4, bK, cE, zG, Ty.dflt, Ty.size, Nat.mul_one, ne_eq, not_false_eq_true, Int.natCast_one, Int.mul_one, bU, cZ, bS, cD, acs, bW, iE, dG, ci, dE, rep, bt, cm, cw, fA, eN, cM, df, eS, Nat.div_one, cV, dj, dite_true, eC, reduceCtorEq, aa, V, ad, ag, af, ae, Try.el22, Try.el41, Try.el91, Try.st24, Try.st62, Try.st66, Try.td1, Try.td2, Try.td22, Try.td24, Try.td3, Try.td41, Try.td60, Try.td62, Try.td66, Try.td91, ah, hc1, hr1, iw, hF1l]; (repeat refine an ?_); (try refine .inl ?_); apply k0; clear k0; simp only [zP, V, hw1, hs1])
  refine ao ?_
  refine ⟨by exact pE (um (k * 2 + 1)) [([], [], 0), ([], [], 0), ([], [], 0), ([], [], 0), ([], [3], 0), ([], [3], 0), ([], [3], 0), ([], [], 0), ([], [0], 0), ([], [0], 0), ([], [0], 0), ([], [0], 0), ([], [1], 0), ([], [1], 0), ([], [], 0), ([], [], 0), ([], [], 0), ([], [], 0), ([], [], 0), ([], [], 0), ([], [], 0), ([], [], 0), ([], [], 0), ([4], [4], 0), ([], [3], 0), ([], [3], 0), ([3], [3], 0)] (by kernel_rfl), ?_⟩
  apply k21; clear k21; refine kp [0, 2, 4, 6, 7, 11, 12, 13, 14, 15, 48, 49, 50, 51] ?_
  refine am hP hN rfl ?_
  iterate 2 (refine aj rfl fun _ k0 => ?_; simp only [zO, zT, acs, reduceCtorEq, aa, V, ad, ag, af, ae, ah]; (repeat refine an ?_); (try refine .inl ?_); apply k0; clear k0; simp only [zP, V])
  refine ao ?_
  refine ⟨_, _, ?_, az [0, 2, 4, 6, 7, 11, 12, 48, 49, 50], i + 1, by omega, rfl, rfl⟩
  omega
 (try simp only [zB, reduceCtorEq] at hc20)
 refine b6 ?_
 apply k15; clear k15; refine kp [0, 2, 4, 6, 7, 11, 12, 48, 49, 50, 51] ?_
 refine ai fun _ k25 => ?_
 have hkw : i = cur.length := by omega
 rw [hkw]
 refine kV 3 (T := 66) (sz := 2) (v := 0) _ [_, _, _, _] [] rfl (fun c h => by cases h) rfl fun dd hdd => ?_
 simp only [cq, cv, bg, aT]
 have hgl2 : (lS m ini cur a (aF (ouL m cur a))).length = (aF (ouL m cur a)).length := aD ..
 refine qx 12 3 (.pair (.list (.int .i64)) (.pair (.list (.int .i64)) .unit)) (aF (ouL m cur a)).length rfl rfl (by rw [rH, ← hgl2]; exact lw _ _) (by rw [aD, nc]; show _ = _ * 2; omega) ?_
 simp only [cq, cv]
 refine d8 3 rfl ?_; simp only [aH, bm, zS, aa, and_self, and_true, true_and, and_false, false_and, if_true, if_false, eq_self, reduceCtorEq, Nat.one_ne_zero, Nat.zero_ne_one]
 refine am hP hN rfl ?_
 iterate 4 (refine aj rfl fun _ k0 => ?_; simp only [zO, zT, acs, reduceCtorEq, aa, V, ad, ag, af, ae, ah]; (repeat refine an ?_); (try refine .inl ?_); apply k0; clear k0; simp only [zP, V])
 refine ao ?_
 apply k25; clear k25; refine kp [0, 2, 4, 6, 7, 11, 12, 48, 49, 50, 51] ?_
 refine aE ?_
 refine ⟨by first | exact .inl rfl | exact .inr rfl, _, rfl, _, _, rfl, ?_, ?_⟩ <;> simp only [fzV, fz1, fzC, aH, bm, zP, aa, V, ah]
 all_goals rfl
set_option maxHeartbeats 4000000 in
theorem zI (f : Nat) (m : Mly) (hm : MOK m) (IH : ∀ (ini cur w : List Int) (n : Nat) (fl : List Value), 4098 ≤ f + n → n ≤ 4096 → fl.length = n * 3 → d7 m cur → ini.length = cur.length → 0 < cur.length → cur.length ≤ 1000 → dm m w → eG Try.prog [.vars 62 [.int .i64 m.inp, .int .i64 m.st, .list (.list (.int .i64)) m.nx, .list (.list (.int .i64)) m.ot, .rwc 1 n], .rowc 52 3 n (ez fl)] 33 [.one (.ptr 0 0 0 0), .agg [.list (.int .i64) ini, .list (.int .i64) cur], .one (.list (.int .i64) w)] { av := .one (.int .i64 (n : Int)), upd := [(0, .vars 62 [.int .i64 m.inp, .int .i64 m.st, .list (.list (.int .i64)) m.nx, .list (.list (.int .i64)) m.ot, .rwc 1 (n + (cu m f ini cur w n).length)]), (1, .rowc 52 3 (n + (cu m f ini cur w n).length) (ez fl ++ ndC (cu m f ini cur w n)))], fp := [0, 1] }) (ini cur w : List Int) (n : Nat) (fl : List Value) (hf : 4098 ≤ (f + 1) + n) (hn : n ≤ 4096) (hfl : fl.length = n * 3) (hs : d7 m cur) (hil : ini.length = cur.length) (h0 : 0 < cur.length) (hl : cur.length ≤ 1000) (hw : dm m w) : eG Try.prog [.vars 62 [.int .i64 m.inp, .int .i64 m.st, .list (.list (.int .i64)) m.nx, .list (.list (.int .i64)) m.ot, .rwc 1 n], .rowc 52 3 n (ez fl)] 33 [.one (.ptr 0 0 0 0), .agg [.list (.int .i64) ini, .list (.int .i64) cur], .one (.list (.int .i64) w)] { av := .one (.int .i64 (n : Int)), upd := [(0, .vars 62 [.int .i64 m.inp, .int .i64 m.st, .list (.list (.int .i64)) m.nx, .list (.list (.int .i64)) m.ot, .rwc 1 (n + (cu m (f + 1) ini cur w n).length)]), (1, .rowc 52 3 (n + (cu m (f + 1) ini cur w n).length) (ez fl ++ ndC (cu m (f + 1) ini cur w n)))], fp := [0, 1] } := by
 refine mH _ _ Try.func33 rfl (by kernel_rfl) (Nat.le_of_ble_eq_true rfl) (by intro k hk; simp only [aw, aG, Nat.zero_add, V] at hk; simp only [List.mem_cons, List.not_mem_nil, or_false]; omega) (fun C hP hN hB => ?_)
 replace hB : C.bL.length = 2 := by rw [hB]; rfl
 replace hN : C.N = 123 := hN
 simp only [bc, V]
 refine ai fun _ k1 => ?_
 refine am hP hN rfl ?_
 iterate 2 (refine aj rfl fun _ k0 => ?_; simp only [zO, zT, acs, reduceCtorEq, aa, V, ad, ag, af, ae, ah, aQ, bb, ar, aM, au]; (repeat refine And.intro (by first | omega | assumption | exact rfl | exact ⟨n, 1, ⟨rfl, rfl, by decide⟩, by omega, by omega⟩) ?_); (try refine .inl ?_); apply k0; clear k0; simp only [zP, V])
 refine ao ?_
 apply k1; clear k1; refine kp [0, 1, 2, 4, 6] ?_
 refine ai fun _ k2 => ?_
 have hdv : (ez fl).length / 3 = n := by rw [aQ, hfl]; omega
 have hdv2 : fl.length / 3 = n := by omega
 have hxl : (ez fl).length = n * 3 := by rw [aQ, hfl]
 refine am hP hN rfl ?_
 iterate 6 (refine aj rfl fun _ k0 => ?_; simp only [zO, zT, acs, reduceCtorEq, aa, V, ad, ag, af, ae, ah, aQ, bb, ar, aM, au, hdv, hdv2]; (repeat refine And.intro (by first | omega | assumption | exact rfl | exact ⟨n, 1, ⟨rfl, rfl, by decide⟩, by omega, by omega⟩) ?_); (try refine .inl ?_); apply k0; clear k0; simp only [zP, V])
 refine ao ?_
 apply k2; clear k2; refine kp [0, 1, 2, 4, 6, 7] ?_
 refine ai fun _ k3 => ?_
 refine kj ?_; simp only [aT, List.append_assoc, bg]
 refine bo hP hN Try.mixed rfl ?_
 iterate 7 (refine aj rfl fun _ k0 => ?_; simp only [zO, zT, acs, reduceCtorEq, aa, V, ad, ag, af, ae, ah, aQ, bb, ar, aM, au, hxl]; (repeat refine And.intro (by first | omega | assumption | exact rfl | exact ⟨n, 1, ⟨rfl, rfl, by decide⟩, by omega, by omega⟩) ?_); (try refine .inl ?_); apply k0; clear k0; simp only [zP, V])
 refine aj rfl fun _ k0 => ?_
 refine aI (h := aA (uq ini (by omega))) rfl rfl (by first | exact rfl | (simp only [ev, zP, aa, V]; exact rfl)) (by simp only [zV, acs, reduceCtorEq, aa, V, ad, ag, af, ae, ah, aQ, bb, ar, aM, au, hxl]) ?_
 apply k0; clear k0; simp only [zP, V]
 (refine aj rfl fun _ k0 => ?_; simp only [zO, zT, acs, reduceCtorEq, aa, V, ad, ag, af, ae, ah, aQ, bb, ar, aM, au, hxl]; (repeat refine And.intro (by first | omega | assumption | exact rfl | exact ⟨n, 1, ⟨rfl, rfl, by decide⟩, by omega, by omega⟩) ?_); (try refine .inl ?_); apply k0; clear k0; simp only [zP, V])
 (refine aj rfl fun _ k0 => ?_; simp only [zO, zT, acs, reduceCtorEq, aa, V, ad, ag, af, ae, ah, aQ, bb, ar, aM, au, hxl]; (repeat refine And.intro (by first | omega | assumption | exact rfl | exact ⟨n, 1, ⟨rfl, rfl, by decide⟩, by omega, by omega⟩) ?_); refine Or.inr (Or.inr (Or.inr (Or.inr ⟨3, by exact rfl, ?_⟩))); refine k0 _ ?_; clear k0; simp only [zP, V])
 iterate 4 (refine aj rfl fun _ k0 => ?_; simp only [zO, zT, acs, reduceCtorEq, aa, V, ad, ag, af, ae, ah, aQ, bb, ar, aM, au, hxl]; (repeat refine And.intro (by first | omega | assumption | exact rfl | exact ⟨n, 1, ⟨rfl, rfl, by decide⟩, by omega, by omega⟩) ?_); (try refine .inl ?_); apply k0; clear k0; simp only [zP, V])
 refine ao ?_
 refine ⟨by kernel_rfl, ?_⟩
 apply k3; clear k3; refine kp [0, 1, 2, 4, 6, 7] ?_
 refine ai fun _ k4 => ?_
 refine ai fun _ k5 => ?_
 refine ew (L1 := [_, _, _]) rfl (by rw [hB]; simp) rfl (by simp [eg, bM, cC]) ?_
 refine jH 1 (n * 3 + 2) kdT 58 (by decide) rfl (Be hxl) ?_
 simp only [zS, aw, aG, aT, bg, Nat.zero_add, V, Bm hxl]
 have e9 : ∀ a b c : AC, [a, b, c] = a :: b :: c :: ndC [] := fun _ _ _ => rfl
 rw [e9 (.list (.int .i64) ini)]
 have hdv1 : (n * 3 + 3) / 3 = n + 1 := by omega
 refine am hP hN rfl ?_
 iterate 6 (refine aj rfl fun _ k0 => ?_; simp only [zO, zT, acs, reduceCtorEq, aa, V, ad, ag, af, ae, ah, aQ, bb, ar, aM, au, hfl, hdv1]; (repeat refine And.intro (by first | omega | assumption | exact rfl | exact ⟨n, 1, ⟨rfl, rfl, by decide⟩, by omega, by omega⟩) ?_); (try refine .inl ?_); apply k0; clear k0; simp only [zP, V])
 refine ao ?_
 apply k5; clear k5; refine kp [0, 1, 2, 4, 6, 7, 36] ?_
 refine cd (fun hc6 => ?_) (fun hc6 => ?_)
 ·(try simp only [zB, reduceCtorEq] at hc6)
  refine ai fun _ k7 => ?_
  refine am hP hN rfl ?_
  iterate 2 (refine aj rfl fun _ k0 => ?_; simp only [zO, zT, acs, reduceCtorEq, aa, V, ad, ag, af, ae, ah, aQ, bb, ar, aM, au]; (repeat refine And.intro (by first | omega | assumption | exact rfl | exact ⟨n, 1, ⟨rfl, rfl, by decide⟩, by omega, by omega⟩) ?_); (try refine .inl ?_); apply k0; clear k0; simp only [zP, V])
  refine ao ?_
  apply k7; clear k7; refine kp [0, 1, 2, 4, 6, 7, 36] ?_
  refine dg 3 1 (t := kdT) rfl rfl ?_
  simp only [aH, bm, fr3, zS, aa, and_self, and_true, true_and, and_false, false_and, if_true, if_false, eq_self, reduceCtorEq, Nat.one_ne_zero, Nat.zero_ne_one]
  refine dv [6] ?_; simp only [cI, lkp, zE, reduceCtorEq, aa]
  refine cU (n := 3) (L1 := [_, _, _]) rfl rfl (by rw [hB]; simp) rfl (by simp [eg, bM, cC, dD]) ?_
  refine ew (L1 := [_, _]) rfl (by rw [hB]; exact Nat.le_refl _) rfl (by simp [eg, bM, cC, dD]) ?_
  refine aE ?_
  refine ⟨by first | exact .inl rfl | exact .inr rfl, _, rfl, ?_⟩; simp only [zP, aa, V, ah, aQ, bb, ar, aM, au]
  try refine ⟨?_, rfl⟩
  first
  | (rw [eQ (by omega)]; all_goals rfl)
  | (rw [eF (by omega) (hW.symm.trans hWn)]; all_goals rfl)
  | (rw [cW (by omega) hW.symm, fN hD hbrk, aw, show n + (D.length + 1) = n + 1 + D.length by omega]; all_goals rfl)
  | (rw [hie, aL] at hD
     rw [cW (by omega) hW.symm, hD, aw, show n + (D.length + 1) = n + 1 + D.length by omega]; all_goals rfl)
 (try simp only [zB, reduceCtorEq] at hc6)
 refine ay ?_
 apply k4; clear k4; refine kp [0, 1, 2, 4, 6, 7, 36] ?_
 refine ai fun _ k8 => ?_
 refine ai fun _ k9 => ?_
 refine am hP hN rfl ?_
 iterate 4 (refine aj rfl fun _ k0 => ?_; simp only [zO, zT, acs, reduceCtorEq, aa, V, ad, ag, af, ae, ah, aQ, bb, ar, aM, au]; (repeat refine And.intro (by first | omega | assumption | exact rfl | exact ⟨n, 1, ⟨rfl, rfl, by decide⟩, by omega, by omega⟩) ?_); (try refine .inl ?_); apply k0; clear k0; simp only [zP, V])
 refine' aO (want := true) 4 rfl (m := 41) (by simp only [zP, aa, V]; exact rfl) (by kernel_rfl) rfl rfl rfl rfl rfl (fun hg10 => ?a10) ?b10 ?c10
 case a10 =>
  have hq10 := hg10; (try simp only [zB, reduceCtorEq] at hg10); simp only [zE]
  iterate 4 (refine aZ rfl fun _ k0 => ?_; simp only [zO, zT, acs, reduceCtorEq, aa, V, ad, ag, af, ae, ah, aQ, bb, ar, aM, au]; (repeat refine And.intro (by first | omega | assumption | exact rfl | exact ⟨n, 1, ⟨rfl, rfl, by decide⟩, by omega, by omega⟩) ?_); (try refine .inl ?_); apply k0; clear k0; simp only [zP, V])
  (refine aj rfl fun _ k0 => ?_; simp only [zO, zT, acs, reduceCtorEq, aa, V, ad, ag, af, ae, ah, aQ, bb, ar, aM, au]; (repeat refine And.intro (by first | omega | assumption | exact rfl | exact ⟨n, 1, ⟨rfl, rfl, by decide⟩, by omega, by omega⟩) ?_); (try refine .inl ?_); apply k0; clear k0; simp only [zP, V])
  refine ao ?_
  refine ⟨by simp only [zP, aa, V]; exact rfl, rfl, ?_, rfl⟩; (repeat refine aP rfl ?_); exact bn (by exact rfl) hq10
 case b10 => exact cp
 simp only [b7, aV]
 refine ao ?_
 apply k9; clear k9; refine kp [0, 1, 2, 4, 6, 7, 36, 46] ?_
 refine cd (fun hc11 => ?_) (fun hc11 => ?_)
 ·(try simp only [zB, reduceCtorEq] at hc11)
  refine bo hP hN Try.mixed rfl ?_
  iterate 6 (refine aj rfl fun _ k0 => ?_; simp only [zO, zT, acs, reduceCtorEq, aa, V, ad, ag, af, ae, ah, aQ, bb, ar, aM, au]; (repeat refine And.intro (by first | omega | assumption | exact rfl | exact ⟨n, 1, ⟨rfl, rfl, by decide⟩, by omega, by omega⟩) ?_); (try refine .inl ?_); apply k0; clear k0; simp only [zP, V])
  refine aj rfl fun _ k0 => ?_
  refine aI (h := aA (yt m cur hm hs hl)) rfl rfl (by first | exact rfl | (simp only [ev, zP, aa, V]; exact rfl)) (by simp only [zV, acs, reduceCtorEq, aa, V, ad, ag, af, ae, ah, aQ, bb, ar, aM, au]) ?_
  apply k0; clear k0; simp only [zP, V]
  iterate 4 (refine aj rfl fun _ k0 => ?_; simp only [zO, zT, acs, reduceCtorEq, aa, V, ad, ag, af, ae, ah, aQ, bb, ar, aM, au]; (repeat refine And.intro (by first | omega | assumption | exact rfl | exact ⟨n, 1, ⟨rfl, rfl, by decide⟩, by omega, by omega⟩) ?_); (try refine .inl ?_); apply k0; clear k0; simp only [zP, V])
  refine ao ?_
  refine ⟨by kernel_rfl, ?_⟩
  apply k8; clear k8; refine kp [0, 1, 2, 4, 6, 7, 36, 46] ?_
  refine ai fun _ k12 => ?_
  refine ai fun _ k13 => ?_
  obtain ⟨W, hW⟩ : ∃ W, W = gm m ini cur w := ⟨_, rfl⟩
  have hWs : dm m W := by rw [hW]; exact wS hw
  refine sD 2 (v' := .one (.list (.int .i64) W)) rfl (VLE.of_eq (by first | (show AV.one (.list (.int .i64) ((fdW m cur).getD [])) = _; rw [hW]; unfold gm; rw [if_pos (by omega)]; done) | (show AV.one (.list (.int .i64) w) = _; rw [hW]; unfold gm; rw [if_neg (by omega)]; done))) ?_
  refine am hP hN rfl ?_
  iterate 3 (refine aj rfl fun _ k0 => ?_; simp only [zO, zT, acs, reduceCtorEq, aa, V, ad, ag, af, ae, ah, aQ, bb, ar, aM, au]; (repeat refine And.intro (by first | omega | assumption | exact rfl | exact ⟨n, 1, ⟨rfl, rfl, by decide⟩, by omega, by omega⟩) ?_); (try refine .inl ?_); apply k0; clear k0; simp only [zP, V])
  refine ao ?_
  apply k13; clear k13; refine kp [0, 1, 2, 4, 6, 7, 36, 46, 59] ?_
  refine cd (fun hc14 => ?_) (fun hc14 => ?_)
  ·(try simp only [zB, reduceCtorEq] at hc14)
   have hWn : W = [] := List.eq_nil_of_length_eq_zero (by omega)
   refine ai fun _ k15 => ?_
   refine am hP hN rfl ?_
   iterate 2 (refine aj rfl fun _ k0 => ?_; simp only [zO, zT, acs, reduceCtorEq, aa, V, ad, ag, af, ae, ah, aQ, bb, ar, aM, au]; (repeat refine And.intro (by first | omega | assumption | exact rfl | exact ⟨n, 1, ⟨rfl, rfl, by decide⟩, by omega, by omega⟩) ?_); (try refine .inl ?_); apply k0; clear k0; simp only [zP, V])
   refine ao ?_
   apply k15; clear k15; refine kp [0, 1, 2, 4, 6, 7, 36, 46, 59] ?_
   refine dg 3 1 (t := kdT) rfl rfl ?_
   simp only [aH, bm, fr3, zS, aa, and_self, and_true, true_and, and_false, false_and, if_true, if_false, eq_self, reduceCtorEq, Nat.one_ne_zero, Nat.zero_ne_one]
   refine dv [6] ?_; simp only [cI, lkp, zE, reduceCtorEq, aa]
   refine cU (n := 3) (L1 := [_, _, _]) rfl rfl (by rw [hB]; simp) rfl (by simp [eg, bM, cC, dD]) ?_
   refine ew (L1 := [_, _]) rfl (by rw [hB]; exact Nat.le_refl _) rfl (by simp [eg, bM, cC, dD]) ?_
   refine aE ?_
   refine ⟨by first | exact .inl rfl | exact .inr rfl, _, rfl, ?_⟩; simp only [zP, aa, V, ah, aQ, bb, ar, aM, au]
   try refine ⟨?_, rfl⟩
   first
   | (rw [eQ (by omega)]; all_goals rfl)
   | (rw [eF (by omega) (hW.symm.trans hWn)]; all_goals rfl)
   | (rw [cW (by omega) hW.symm, fN hD hbrk, aw, show n + (D.length + 1) = n + 1 + D.length by omega]; all_goals rfl)
   | (rw [hie, aL] at hD
      rw [cW (by omega) hW.symm, hD, aw, show n + (D.length + 1) = n + 1 + D.length by omega]; all_goals rfl)
  (try simp only [zB, reduceCtorEq] at hc14)
  obtain ⟨a0, w2, hWc⟩ : ∃ a0 w2, W = a0 :: w2 := by
    cases W with
    | nil => simp at hc14
    | cons a0 w2 => exact ⟨_, _, rfl⟩
  subst hWc
  refine ay ?_
  apply k12; clear k12; refine kp [0, 1, 2, 4, 6, 7, 36, 46, 59] ?_
  refine ai fun _ k16 => ?_
  have ha0 : 0 ≤ a0 ∧ a0 < m.inp := hWs a0 (aR ..)
  have hw2 : dm m w2 := fun x hx => hWs x (aJ _ hx)
  refine bo hP hN Try.mixed rfl ?_
  iterate 11 (refine aj rfl fun _ k0 => ?_; simp only [zE, op1, ev, lkp, d4, bK, iE, bU, cZ, Nat.mul_one, bS, cD, acs, Ty.dflt, zG, bW, cE, Ty.size, ne_eq, not_false_eq_true, Int.natCast_one, Int.mul_one, eC, cm, bt, reduceCtorEq, aa, V, ad, ag, af, ae, Try.el27, Try.el41, Try.st52, Try.st62, Try.td1, Try.td27, Try.td3, Try.td41, Try.td52, Try.td60, Try.td62, ah, aQ, bb, ar, aM, au, hfl]; (repeat refine And.intro (by first | omega | assumption | exact rfl | exact ⟨n, 1, ⟨rfl, rfl, by decide⟩, by omega, by omega⟩) ?_); (try refine .inl ?_); apply k0; clear k0; simp only [zP, V, zR hxl])
  refine ao ?_
  refine ⟨by kernel_rfl, ?_⟩
  apply k16; clear k16; refine kp [0, 1, 2, 4, 6, 7, 36, 46, 59] ?_
  refine ai fun _ k17 => ?_
  refine bo hP hN Try.mixed rfl ?_
  iterate 5 (refine aj rfl fun _ k0 => ?_; simp only [zO, zT, acs, reduceCtorEq, aa, V, ad, ag, af, ae, ah, aQ, bb, ar, aM, au]; (repeat refine And.intro (by first | omega | assumption | exact rfl | exact ⟨n, 1, ⟨rfl, rfl, by decide⟩, by omega, by omega⟩) ?_); (try refine .inl ?_); apply k0; clear k0; simp only [zP, V])
  refine aj rfl fun _ k0 => ?_
  refine aI (h := ja (k := 0) (T := 62) (cs := [.int .i64 m.inp, .int .i64 m.st, .list (.list (.int .i64)) m.nx, .list (.list (.int .i64)) m.ot]) (c := .rwc 1 (n + 1)) rfl (by simp) (fun x => oN m x ini cur a0 hm hs ha0 h0 hl hil _ 0 rfl)) rfl rfl (by first | exact rfl | (simp only [ev, zP, aa, V]; exact rfl)) (by simp only [zV, acs, reduceCtorEq, aa, V, ad, ag, af, ae, ah, aQ, bb, ar, aM, au]) ?_
  apply k0; clear k0; simp only [zP, V]
  iterate 5 (refine aj rfl fun _ k0 => ?_; simp only [zO, zT, acs, reduceCtorEq, aa, V, ad, ag, af, ae, ah, aQ, bb, ar, aM, au]; (repeat refine And.intro (by first | omega | assumption | exact rfl | exact ⟨n, 1, ⟨rfl, rfl, by decide⟩, by omega, by omega⟩) ?_); (try refine .inl ?_); apply k0; clear k0; simp only [zP, V])
  refine ao ?_
  refine ⟨by kernel_rfl, ?_⟩
  apply k17; clear k17; refine kp [0, 1, 2, 4, 6, 7, 8, 9, 36, 46, 59] ?_
  refine ai fun _ k18 => ?_
  refine ai fun _ k19 => ?_
  have hkl := gX (ouL m cur a0)
  have hol : (ouL m cur a0).length = cur.length := aD ..
  refine am hP hN rfl ?_
  iterate 3 (refine aj rfl fun _ k0 => ?_; simp only [zO, zT, acs, reduceCtorEq, aa, V, ad, ag, af, ae, ah, aQ, bb, ar, aM, au]; (repeat refine And.intro (by first | omega | assumption | exact rfl | exact ⟨n, 1, ⟨rfl, rfl, by decide⟩, by omega, by omega⟩) ?_); (try refine .inl ?_); apply k0; clear k0; simp only [zP, V])
  refine ao ?_
  apply k19; clear k19; refine kp [0, 1, 2, 4, 6, 7, 8, 9, 36, 46, 59, 80, 81, 82] ?_
  refine aC ?_
  refine bf (fun n20 s20 => ∃ (i : Nat) (D : List ba) (K : List dM), (i ≤ (aF (ouL m cur a0)).length) ∧ (((aF (ouL m cur a0)).take i).foldl (dB n (fun i c k => cu m f i c w2 k) m ini cur a0) ([], []) = (D, K)) ∧ (n + 1 + D.length ≤ 4097) ∧ (K.length ≤ i) ∧ n20 = (aF (ouL m cur a0)).length - i ∧ s20 = { env := [(0, .one (.ptr 0 0 0 0)), (2, .one (.list (.int .i64) (a0 :: w2))), (6, .one (.int .i64 0)), (7, .one (.int .i64 (n : Int))), (9, .one (.list (.pair (.list (.int .i64)) (.pair (.list (.int .i64)) .unit)) (lS m ini cur a0 (aF (ouL m cur a0))))), (80, .one (.list (.int .i64) (aF (ouL m cur a0)))), (81, .one (.int .i64 ((aF (ouL m cur a0)).length : Int))), (82, .one (.int .i64 (i : Int)))], L := [.vars 62 [.int .i64 m.inp, .int .i64 m.st, .list (.list (.int .i64)) m.nx, .list (.list (.int .i64)) m.ot, .rwc 1 (n + 1 + D.length)], .rowc 52 3 (n + 1 + D.length) (ez fl ++ .list (.int .i64) ini :: .int .i64 a0 :: .row 3 K.length :: ndC D), .vars 66 [.list (.int .i64) ini, .list (.int .i64) cur], .row kdT 58 K.length K] }) ?_ ?_
  ·exact ⟨_, _, az [0, 2, 6, 7, 9, 80, 81, 82], 0, [], [], Nat.zero_le _, rfl, by simp only [aG]; omega, Nat.zero_le _, rfl, rfl⟩
  rintro n20 s20 ⟨i, D, K, hi, hD, hDl, hKl, rfl, rfl⟩
  refine ai fun _ k21 => ?_
  refine am hP hN rfl ?_
  (refine aj rfl fun _ k0 => ?_; simp only [zO, zT, acs, reduceCtorEq, aa, V, ad, ag, af, ae, ah, aQ, bb, ar, aM, au]; (repeat refine And.intro (by first | omega | assumption | exact rfl | exact ⟨n, 1, ⟨rfl, rfl, by decide⟩, by omega, by omega⟩) ?_); (try refine .inl ?_); apply k0; clear k0; simp only [zP, V])
  refine ao ?_
  apply k21; clear k21; refine kp [0, 2, 6, 7, 9, 80, 81, 82, 83] ?_
  refine ai fun _ k22 => ?_
  refine cd (fun hc23 => ?_) (fun hc23 => ?_)
  ·(try simp only [zB, reduceCtorEq] at hc23)
   refine ay ?_
   apply k22; clear k22; refine kp [0, 2, 6, 7, 9, 80, 81, 82, 83] ?_
   refine ai fun _ k24 => ?_
   refine aC ?_
   refine ai fun _ k25 => ?_
   refine am hP hN rfl ?_
   iterate 5 (refine aj rfl fun _ k0 => ?_; simp only [zO, zT, acs, reduceCtorEq, aa, V, ad, ag, af, ae, ah, aQ, bb, ar, aM, au]; (repeat refine And.intro (by first | omega | assumption | exact rfl | exact ⟨n, 1, ⟨rfl, rfl, by decide⟩, by omega, by omega⟩) ?_); (try refine .inl ?_); apply k0; clear k0; simp only [zP, V])
   refine ao ?_
   apply k25; clear k25; refine kp [0, 2, 6, 7, 9, 10, 11, 80, 81, 82, 83] ?_
   refine ai fun _ k26 => ?_
   refine ai fun _ k27 => ?_
   have hdvD : (n * 3 + (D.length * 3 + 1 + 1 + 1)) / 3 = n + 1 + D.length := by omega
   refine am hP hN rfl ?_
   iterate 6 (refine aj rfl fun _ k0 => ?_; simp only [zO, zT, acs, reduceCtorEq, aa, V, ad, ag, af, ae, ah, aQ, bb, ar, aM, au, hfl, aw, hdvD]; (repeat refine And.intro (by first | omega | assumption | exact rfl | exact ⟨n, 1, ⟨rfl, rfl, by decide⟩, by omega, by omega⟩) ?_); (try refine .inl ?_); apply k0; clear k0; simp only [zP, V])
   refine ao ?_
   apply k27; clear k27; refine kp [0, 2, 6, 7, 9, 10, 11, 80, 81, 82, 83, 92] ?_
   refine cd (fun hc28 => ?_) (fun hc28 => ?_)
   ·(try simp only [zB, reduceCtorEq] at hc28)
    have hbrk : 4096 < n + 1 + D.length := by omega
    refine b6 ?_
    apply k18; clear k18; refine kp [0, 2, 6, 7, 9, 10, 11, 80, 81, 82, 83, 92] ?_
    refine ai fun _ k29 => ?_
    refine am hP hN rfl ?_
    iterate 2 (refine aj rfl fun _ k0 => ?_; simp only [zO, zT, acs, reduceCtorEq, aa, V, ad, ag, af, ae, ah, aQ, bb, ar, aM, au]; (repeat refine And.intro (by first | omega | assumption | exact rfl | exact ⟨n, 1, ⟨rfl, rfl, by decide⟩, by omega, by omega⟩) ?_); (try refine .inl ?_); apply k0; clear k0; simp only [zP, V])
    refine ao ?_
    apply k29; clear k29; refine kp [0, 2, 6, 7, 9, 10, 11, 80, 81, 82, 83, 92] ?_
    refine dg 3 1 (t := kdT) rfl rfl ?_
    simp only [aH, bm, fr3, zS, aa, and_self, and_true, true_and, and_false, false_and, if_true, if_false, eq_self, reduceCtorEq, Nat.one_ne_zero, Nat.zero_ne_one]
    refine dv [6] ?_; simp only [cI, lkp, zE, reduceCtorEq, aa]
    refine cU (n := 3) (L1 := [_, _, _]) rfl rfl (by rw [hB]; simp) rfl (by simp [eg, bM, cC, dD]) ?_
    refine ew (L1 := [_, _]) rfl (by rw [hB]; exact Nat.le_refl _) rfl (by simp [eg, bM, cC, dD]) ?_
    refine aE ?_
    refine ⟨by first | exact .inl rfl | exact .inr rfl, _, rfl, ?_⟩; simp only [zP, aa, V, ah, aQ, bb, ar, aM, au]
    try refine ⟨?_, rfl⟩
    first
    | (rw [eQ (by omega)]; all_goals rfl)
    | (rw [eF (by omega) (hW.symm.trans hWn)]; all_goals rfl)
    | (rw [cW (by omega) hW.symm, fN hD hbrk, aw, show n + (D.length + 1) = n + 1 + D.length by omega]; all_goals rfl)
    | (rw [hie, aL] at hD
       rw [cW (by omega) hW.symm, hD, aw, show n + (D.length + 1) = n + 1 + D.length by omega]; all_goals rfl)
   (try simp only [zB, reduceCtorEq] at hc28)
   refine ay ?_
   apply k26; clear k26; refine kp [0, 2, 6, 7, 9, 10, 11, 80, 81, 82, 83, 92] ?_
   refine ai fun _ k30 => ?_
   have hgi := tc (m := m) (ini := ini) (cur := cur) (a := a0) (ks := (aF (ouL m cur a0))) (i := i) (by omega)
   have hin : ((aF (ouL m cur a0)).getD i 0) ∈ (aF (ouL m cur a0)) := bh (by omega)
   have hq1 := jy hm (o := ((aF (ouL m cur a0)).getD i 0)) ha0 hs
   have hq2 := fk m ini cur a0 ((aF (ouL m cur a0)).getD i 0) cur.length
   have hq3 := me hin
   have hq4 : (bE m cur a0 cur.length ((aF (ouL m cur a0)).getD i 0)).length ≤ 1000 := Nat.le_trans lT hl
   have hNle := mm m f (cb m ini cur a0 cur.length ((aF (ouL m cur a0)).getD i 0)) (bE m cur a0 cur.length ((aF (ouL m cur a0)).getD i 0)) w2 (n + 1 + D.length) (by omega)
   have hst9 := mV (n := n) (rec := (fun i c k => cu m f i c w2 k)) (m := m) (ini := ini) (cur := cur) (a := a0) (i := i) (by omega) hD (by omega)
   refine bo hP hN Try.mixed rfl ?_
   iterate 6 (refine aj rfl fun _ k0 => ?_; simp only [zO, zT, acs, reduceCtorEq, aa, V, ad, ag, af, ae, ah, aQ, bb, ar, aM, au, ax, hgi, Int.toNat_one, aw, aL, List.drop_succ_cons, List.drop_zero]; (repeat refine And.intro (by first | omega | assumption | exact rfl | exact ⟨n, 1, ⟨rfl, rfl, by decide⟩, by omega, by omega⟩) ?_); (try refine .inl ?_); apply k0; clear k0; simp only [zP, V, List.append_assoc, aT, ← gL])
   (refine aj rfl fun _ k0 => ?_; simp only [zE, op1, ev, lkp, d4, bK, cE, zG, Ty.dflt, Ty.size, Nat.mul_one, ne_eq, not_false_eq_true, Int.natCast_one, Int.mul_one, cZ, bS, cD, acs, bW, gJ, bnd, reduceCtorEq, aa, V, ad, ag, af, ae, Try.el41, Try.el91, Try.st66, Try.td3, Try.td41, Try.td60, Try.td66, Try.td91, ah, aQ, bb, ar, aM, au, ax, hgi, Int.toNat_one, aw, aL, List.drop_succ_cons, List.drop_zero]; (repeat refine And.intro (by first | omega | assumption | exact rfl | exact ⟨n, 1, ⟨rfl, rfl, by decide⟩, by omega, by omega⟩) ?_); (try refine .inl ?_); apply k0; clear k0; simp only [zP, V, List.append_assoc, aT, ← gL])
   refine aj rfl fun _ k0 => ?_
   refine aI (h := lC (k := 1) (u := [(0, .vars 62 [.int .i64 m.inp, .int .i64 m.st, .list (.list (.int .i64)) m.nx, .list (.list (.int .i64)) m.ot, .rwc 1 ((n + 1 + D.length) + (cu m f (cb m ini cur a0 cur.length ((aF (ouL m cur a0)).getD i 0)) (bE m cur a0 cur.length ((aF (ouL m cur a0)).getD i 0)) w2 (n + 1 + D.length)).length)])]) rfl (by simp) (fun fl2 hfl2 => nq (A := [_, _]) (E := [_, _]) (IH (cb m ini cur a0 cur.length ((aF (ouL m cur a0)).getD i 0)) (bE m cur a0 cur.length ((aF (ouL m cur a0)).getD i 0)) w2 (n + 1 + D.length) fl2 (by omega) (by omega) (by rw [hfl2]; simp [aQ, bb]; omega) hq1 hq2 hq3 hq4 hw2) (by simp [eg, bM, cC]) rfl rfl (by simp) (by intro k hk; simp at hk ⊢; omega))) rfl rfl (by first | exact rfl | (simp only [ev, zP, aa, V]; exact rfl)) (by simp only [zV, acs, reduceCtorEq, aa, V, ad, ag, af, ae, ah, aQ, bb, ar, aM, au, ax, hgi, Int.toNat_one, aw, aL, List.drop_succ_cons, List.drop_zero]) ?_
   apply k0; clear k0; simp only [zP, V, List.append_assoc, aT, ← gL]
   (refine aj rfl fun _ k0 => ?_; simp only [zO, zT, acs, reduceCtorEq, aa, V, ad, ag, af, ae, ah, aQ, bb, ar, aM, au, ax, hgi, Int.toNat_one, aw, aL, List.drop_succ_cons, List.drop_zero]; (repeat refine And.intro (by first | omega | assumption | exact rfl | exact ⟨n, 1, ⟨rfl, rfl, by decide⟩, by omega, by omega⟩) ?_); (try refine .inl ?_); apply k0; clear k0; simp only [zP, V, List.append_assoc, aT, ← gL])
   refine ao ?_
   refine ⟨by kernel_rfl, ?_⟩
   apply k30; clear k30; refine kp [0, 2, 6, 7, 9, 10, 11, 12, 80, 81, 82, 83, 92] ?_
   refine bo hP hN Try.mixed rfl ?_
   iterate 21 (refine aj rfl fun _ k0 => ?_; simp only [zE, op1, ev, lkp, d4, bK, iE, bU, cZ, Nat.mul_one, bS, cD, acs, Ty.dflt, zG, bW, cE, Ty.size, ne_eq, not_false_eq_true, Int.natCast_one, Int.mul_one, iU, ci, cm, dG, dE, rep, bt, cw, fA, eN, cM, df, eS, Nat.div_one, cV, dj, dite_true, eC, reduceCtorEq, aa, V, ad, ag, af, ae, Try.el27, Try.el50, Try.fl58, Try.st52, Try.st58, Try.st62, Try.td1, Try.td2, Try.td27, Try.td3, Try.td50, Try.td52, Try.td58, Try.td60, Try.td62, ah, aQ, bb, ar, aM, au, zD hxl, hfl]; (repeat refine And.intro (by first | omega | assumption | exact rfl | exact ⟨n, 1, ⟨rfl, rfl, by decide⟩, by omega, by omega⟩) ?_); (try refine .inl ?_); apply k0; clear k0; simp only [zP, V, zZ hxl])
   refine ao ?_
   refine ⟨by kernel_rfl, ?_⟩
   apply k24; clear k24; refine kp [0, 2, 6, 7, 9, 10, 11, 12, 80, 81, 82, 83, 92] ?_
   refine am hP hN rfl ?_
   iterate 2 (refine aj rfl fun _ k0 => ?_; simp only [zO, zT, acs, reduceCtorEq, aa, V, ad, ag, af, ae, ah, aQ, bb, ar, aM, au]; (repeat refine And.intro (by first | omega | assumption | exact rfl | exact ⟨n, 1, ⟨rfl, rfl, by decide⟩, by omega, by omega⟩) ?_); (try refine .inl ?_); apply k0; clear k0; simp only [zP, V])
   refine ao ?_
   refine ⟨_, _, ?_, az [0, 2, 6, 7, 9, 80, 81, 82], i + 1, D ++ (cu m f (cb m ini cur a0 cur.length ((aF (ouL m cur a0)).getD i 0)) (bE m cur a0 cur.length ((aF (ouL m cur a0)).getD i 0)) w2 (n + 1 + D.length)), K ++ [(((aF (ouL m cur a0)).getD i 0), ((n + 1 + D.length : Nat) : Int), ())], by omega, hst9, by rw [ar]; omega, by rw [ar]; simp only [aw, aG]; omega, rfl, ?_⟩
   · omega
   · simp only [ar, ← Nat.add_assoc]; rfl
  (try simp only [zB, reduceCtorEq] at hc23)
  have hie : i = (aF (ouL m cur a0)).length := by omega
  refine b6 ?_
  apply k18; clear k18; refine kp [0, 2, 6, 7, 9, 80, 81, 82, 83] ?_
  refine ai fun _ k31 => ?_
  refine am hP hN rfl ?_
  iterate 2 (refine aj rfl fun _ k0 => ?_; simp only [zO, zT, acs, reduceCtorEq, aa, V, ad, ag, af, ae, ah, aQ, bb, ar, aM, au]; (repeat refine And.intro (by first | omega | assumption | exact rfl | exact ⟨n, 1, ⟨rfl, rfl, by decide⟩, by omega, by omega⟩) ?_); (try refine .inl ?_); apply k0; clear k0; simp only [zP, V])
  refine ao ?_
  apply k31; clear k31; refine kp [0, 2, 6, 7, 9, 80, 81, 82, 83] ?_
  refine dg 3 1 (t := kdT) rfl rfl ?_
  simp only [aH, bm, fr3, zS, aa, and_self, and_true, true_and, and_false, false_and, if_true, if_false, eq_self, reduceCtorEq, Nat.one_ne_zero, Nat.zero_ne_one]
  refine dv [6] ?_; simp only [cI, lkp, zE, reduceCtorEq, aa]
  refine cU (n := 3) (L1 := [_, _, _]) rfl rfl (by rw [hB]; simp) rfl (by simp [eg, bM, cC, dD]) ?_
  refine ew (L1 := [_, _]) rfl (by rw [hB]; exact Nat.le_refl _) rfl (by simp [eg, bM, cC, dD]) ?_
  refine aE ?_
  refine ⟨by first | exact .inl rfl | exact .inr rfl, _, rfl, ?_⟩; simp only [zP, aa, V, ah, aQ, bb, ar, aM, au]
  try refine ⟨?_, rfl⟩
  first
  | (rw [eQ (by omega)]; all_goals rfl)
  | (rw [eF (by omega) (hW.symm.trans hWn)]; all_goals rfl)
  | (rw [cW (by omega) hW.symm, fN hD hbrk, aw, show n + (D.length + 1) = n + 1 + D.length by omega]; all_goals rfl)
  | (rw [hie, aL] at hD
     rw [cW (by omega) hW.symm, hD, aw, show n + (D.length + 1) = n + 1 + D.length by omega]; all_goals rfl)
 (try simp only [zB, reduceCtorEq] at hc11)
 refine ay ?_
 apply k8; clear k8; refine kp [0, 1, 2, 4, 6, 7, 36, 46] ?_
 refine ai fun _ k32 => ?_
 refine ai fun _ k33 => ?_
 obtain ⟨W, hW⟩ : ∃ W, W = gm m ini cur w := ⟨_, rfl⟩
 have hWs : dm m W := by rw [hW]; exact wS hw
 refine sD 2 (v' := .one (.list (.int .i64) W)) rfl (VLE.of_eq (by first | (show AV.one (.list (.int .i64) ((fdW m cur).getD [])) = _; rw [hW]; unfold gm; rw [if_pos (by omega)]; done) | (show AV.one (.list (.int .i64) w) = _; rw [hW]; unfold gm; rw [if_neg (by omega)]; done))) ?_
 refine am hP hN rfl ?_
 iterate 3 (refine aj rfl fun _ k0 => ?_; simp only [zO, zT, acs, reduceCtorEq, aa, V, ad, ag, af, ae, ah, aQ, bb, ar, aM, au]; (repeat refine And.intro (by first | omega | assumption | exact rfl | exact ⟨n, 1, ⟨rfl, rfl, by decide⟩, by omega, by omega⟩) ?_); (try refine .inl ?_); apply k0; clear k0; simp only [zP, V])
 refine ao ?_
 apply k33; clear k33; refine kp [0, 1, 2, 4, 6, 7, 36, 46, 59] ?_
 refine cd (fun hc34 => ?_) (fun hc34 => ?_)
 ·(try simp only [zB, reduceCtorEq] at hc34)
  have hWn : W = [] := List.eq_nil_of_length_eq_zero (by omega)
  refine ai fun _ k35 => ?_
  refine am hP hN rfl ?_
  iterate 2 (refine aj rfl fun _ k0 => ?_; simp only [zO, zT, acs, reduceCtorEq, aa, V, ad, ag, af, ae, ah, aQ, bb, ar, aM, au]; (repeat refine And.intro (by first | omega | assumption | exact rfl | exact ⟨n, 1, ⟨rfl, rfl, by decide⟩, by omega, by omega⟩) ?_); (try refine .inl ?_); apply k0; clear k0; simp only [zP, V])
  refine ao ?_
  apply k35; clear k35; refine kp [0, 1, 2, 4, 6, 7, 36, 46, 59] ?_
  refine dg 3 1 (t := kdT) rfl rfl ?_
  simp only [aH, bm, fr3, zS, aa, and_self, and_true, true_and, and_false, false_and, if_true, if_false, eq_self, reduceCtorEq, Nat.one_ne_zero, Nat.zero_ne_one]
  refine dv [6] ?_; simp only [cI, lkp, zE, reduceCtorEq, aa]
  refine cU (n := 3) (L1 := [_, _, _]) rfl rfl (by rw [hB]; simp) rfl (by simp [eg, bM, cC, dD]) ?_
  refine ew (L1 := [_, _]) rfl (by rw [hB]; exact Nat.le_refl _) rfl (by simp [eg, bM, cC, dD]) ?_
  refine aE ?_
  refine ⟨by first | exact .inl rfl | exact .inr rfl, _, rfl, ?_⟩; simp only [zP, aa, V, ah, aQ, bb, ar, aM, au]
  try refine ⟨?_, rfl⟩
  first
  | (rw [eQ (by omega)]; all_goals rfl)
  | (rw [eF (by omega) (hW.symm.trans hWn)]; all_goals rfl)
  | (rw [cW (by omega) hW.symm, fN hD hbrk, aw, show n + (D.length + 1) = n + 1 + D.length by omega]; all_goals rfl)
  | (rw [hie, aL] at hD
     rw [cW (by omega) hW.symm, hD, aw, show n + (D.length + 1) = n + 1 + D.length by omega]; all_goals rfl)
 (try simp only [zB, reduceCtorEq] at hc34)
 obtain ⟨a0, w2, hWc⟩ : ∃ a0 w2, W = a0 :: w2 := by
   cases W with
   | nil => simp at hc34
   | cons a0 w2 => exact ⟨_, _, rfl⟩
 subst hWc
 refine ay ?_
 apply k32; clear k32; refine kp [0, 1, 2, 4, 6, 7, 36, 46, 59] ?_
 refine ai fun _ k36 => ?_
 have ha0 : 0 ≤ a0 ∧ a0 < m.inp := hWs a0 (aR ..)
 have hw2 : dm m w2 := fun x hx => hWs x (aJ _ hx)
 refine bo hP hN Try.mixed rfl ?_
 iterate 11 (refine aj rfl fun _ k0 => ?_; simp only [zE, op1, ev, lkp, d4, bK, iE, bU, cZ, Nat.mul_one, bS, cD, acs, Ty.dflt, zG, bW, cE, Ty.size, ne_eq, not_false_eq_true, Int.natCast_one, Int.mul_one, eC, cm, bt, reduceCtorEq, aa, V, ad, ag, af, ae, Try.el27, Try.el41, Try.st52, Try.st62, Try.td1, Try.td27, Try.td3, Try.td41, Try.td52, Try.td60, Try.td62, ah, aQ, bb, ar, aM, au, hfl]; (repeat refine And.intro (by first | omega | assumption | exact rfl | exact ⟨n, 1, ⟨rfl, rfl, by decide⟩, by omega, by omega⟩) ?_); (try refine .inl ?_); apply k0; clear k0; simp only [zP, V, zR hxl])
 refine ao ?_
 refine ⟨by kernel_rfl, ?_⟩
 apply k36; clear k36; refine kp [0, 1, 2, 4, 6, 7, 36, 46, 59] ?_
 refine ai fun _ k37 => ?_
 refine bo hP hN Try.mixed rfl ?_
 iterate 5 (refine aj rfl fun _ k0 => ?_; simp only [zO, zT, acs, reduceCtorEq, aa, V, ad, ag, af, ae, ah, aQ, bb, ar, aM, au]; (repeat refine And.intro (by first | omega | assumption | exact rfl | exact ⟨n, 1, ⟨rfl, rfl, by decide⟩, by omega, by omega⟩) ?_); (try refine .inl ?_); apply k0; clear k0; simp only [zP, V])
 refine aj rfl fun _ k0 => ?_
 refine aI (h := ja (k := 0) (T := 62) (cs := [.int .i64 m.inp, .int .i64 m.st, .list (.list (.int .i64)) m.nx, .list (.list (.int .i64)) m.ot]) (c := .rwc 1 (n + 1)) rfl (by simp) (fun x => oN m x ini cur a0 hm hs ha0 h0 hl hil _ 0 rfl)) rfl rfl (by first | exact rfl | (simp only [ev, zP, aa, V]; exact rfl)) (by simp only [zV, acs, reduceCtorEq, aa, V, ad, ag, af, ae, ah, aQ, bb, ar, aM, au]) ?_
 apply k0; clear k0; simp only [zP, V]
 iterate 5 (refine aj rfl fun _ k0 => ?_; simp only [zO, zT, acs, reduceCtorEq, aa, V, ad, ag, af, ae, ah, aQ, bb, ar, aM, au]; (repeat refine And.intro (by first | omega | assumption | exact rfl | exact ⟨n, 1, ⟨rfl, rfl, by decide⟩, by omega, by omega⟩) ?_); (try refine .inl ?_); apply k0; clear k0; simp only [zP, V])
 refine ao ?_
 refine ⟨by kernel_rfl, ?_⟩
 apply k37; clear k37; refine kp [0, 1, 2, 4, 6, 7, 8, 9, 36, 46, 59] ?_
 refine ai fun _ k38 => ?_
 refine ai fun _ k39 => ?_
 have hkl := gX (ouL m cur a0)
 have hol : (ouL m cur a0).length = cur.length := aD ..
 refine am hP hN rfl ?_
 iterate 3 (refine aj rfl fun _ k0 => ?_; simp only [zO, zT, acs, reduceCtorEq, aa, V, ad, ag, af, ae, ah, aQ, bb, ar, aM, au]; (repeat refine And.intro (by first | omega | assumption | exact rfl | exact ⟨n, 1, ⟨rfl, rfl, by decide⟩, by omega, by omega⟩) ?_); (try refine .inl ?_); apply k0; clear k0; simp only [zP, V])
 refine ao ?_
 apply k39; clear k39; refine kp [0, 1, 2, 4, 6, 7, 8, 9, 36, 46, 59, 80, 81, 82] ?_
 refine aC ?_
 refine bf (fun n40 s40 => ∃ (i : Nat) (D : List ba) (K : List dM), (i ≤ (aF (ouL m cur a0)).length) ∧ (((aF (ouL m cur a0)).take i).foldl (dB n (fun i c k => cu m f i c w2 k) m ini cur a0) ([], []) = (D, K)) ∧ (n + 1 + D.length ≤ 4097) ∧ (K.length ≤ i) ∧ n40 = (aF (ouL m cur a0)).length - i ∧ s40 = { env := [(0, .one (.ptr 0 0 0 0)), (2, .one (.list (.int .i64) (a0 :: w2))), (6, .one (.int .i64 0)), (7, .one (.int .i64 (n : Int))), (9, .one (.list (.pair (.list (.int .i64)) (.pair (.list (.int .i64)) .unit)) (lS m ini cur a0 (aF (ouL m cur a0))))), (80, .one (.list (.int .i64) (aF (ouL m cur a0)))), (81, .one (.int .i64 ((aF (ouL m cur a0)).length : Int))), (82, .one (.int .i64 (i : Int)))], L := [.vars 62 [.int .i64 m.inp, .int .i64 m.st, .list (.list (.int .i64)) m.nx, .list (.list (.int .i64)) m.ot, .rwc 1 (n + 1 + D.length)], .rowc 52 3 (n + 1 + D.length) (ez fl ++ .list (.int .i64) ini :: .int .i64 a0 :: .row 3 K.length :: ndC D), .vars 66 [.list (.int .i64) ini, .list (.int .i64) cur], .row kdT 58 K.length K] }) ?_ ?_
 ·exact ⟨_, _, az [0, 2, 6, 7, 9, 80, 81, 82], 0, [], [], Nat.zero_le _, rfl, by simp only [aG]; omega, Nat.zero_le _, rfl, rfl⟩
 rintro n40 s40 ⟨i, D, K, hi, hD, hDl, hKl, rfl, rfl⟩
 refine ai fun _ k41 => ?_
 refine am hP hN rfl ?_
 (refine aj rfl fun _ k0 => ?_; simp only [zO, zT, acs, reduceCtorEq, aa, V, ad, ag, af, ae, ah, aQ, bb, ar, aM, au]; (repeat refine And.intro (by first | omega | assumption | exact rfl | exact ⟨n, 1, ⟨rfl, rfl, by decide⟩, by omega, by omega⟩) ?_); (try refine .inl ?_); apply k0; clear k0; simp only [zP, V])
 refine ao ?_
 apply k41; clear k41; refine kp [0, 2, 6, 7, 9, 80, 81, 82, 83] ?_
 refine ai fun _ k42 => ?_
 refine cd (fun hc43 => ?_) (fun hc43 => ?_)
 ·(try simp only [zB, reduceCtorEq] at hc43)
  refine ay ?_
  apply k42; clear k42; refine kp [0, 2, 6, 7, 9, 80, 81, 82, 83] ?_
  refine ai fun _ k44 => ?_
  refine aC ?_
  refine ai fun _ k45 => ?_
  refine am hP hN rfl ?_
  iterate 5 (refine aj rfl fun _ k0 => ?_; simp only [zO, zT, acs, reduceCtorEq, aa, V, ad, ag, af, ae, ah, aQ, bb, ar, aM, au]; (repeat refine And.intro (by first | omega | assumption | exact rfl | exact ⟨n, 1, ⟨rfl, rfl, by decide⟩, by omega, by omega⟩) ?_); (try refine .inl ?_); apply k0; clear k0; simp only [zP, V])
  refine ao ?_
  apply k45; clear k45; refine kp [0, 2, 6, 7, 9, 10, 11, 80, 81, 82, 83] ?_
  refine ai fun _ k46 => ?_
  refine ai fun _ k47 => ?_
  have hdvD : (n * 3 + (D.length * 3 + 1 + 1 + 1)) / 3 = n + 1 + D.length := by omega
  refine am hP hN rfl ?_
  iterate 6 (refine aj rfl fun _ k0 => ?_; simp only [zO, zT, acs, reduceCtorEq, aa, V, ad, ag, af, ae, ah, aQ, bb, ar, aM, au, hfl, aw, hdvD]; (repeat refine And.intro (by first | omega | assumption | exact rfl | exact ⟨n, 1, ⟨rfl, rfl, by decide⟩, by omega, by omega⟩) ?_); (try refine .inl ?_); apply k0; clear k0; simp only [zP, V])
  refine ao ?_
  apply k47; clear k47; refine kp [0, 2, 6, 7, 9, 10, 11, 80, 81, 82, 83, 92] ?_
  refine cd (fun hc48 => ?_) (fun hc48 => ?_)
  ·(try simp only [zB, reduceCtorEq] at hc48)
   have hbrk : 4096 < n + 1 + D.length := by omega
   refine b6 ?_
   apply k38; clear k38; refine kp [0, 2, 6, 7, 9, 10, 11, 80, 81, 82, 83, 92] ?_
   refine ai fun _ k49 => ?_
   refine am hP hN rfl ?_
   iterate 2 (refine aj rfl fun _ k0 => ?_; simp only [zO, zT, acs, reduceCtorEq, aa, V, ad, ag, af, ae, ah, aQ, bb, ar, aM, au]; (repeat refine And.intro (by first | omega | assumption | exact rfl | exact ⟨n, 1, ⟨rfl, rfl, by decide⟩, by omega, by omega⟩) ?_); (try refine .inl ?_); apply k0; clear k0; simp only [zP, V])
   refine ao ?_
   apply k49; clear k49; refine kp [0, 2, 6, 7, 9, 10, 11, 80, 81, 82, 83, 92] ?_
   refine dg 3 1 (t := kdT) rfl rfl ?_
   simp only [aH, bm, fr3, zS, aa, and_self, and_true, true_and, and_false, false_and, if_true, if_false, eq_self, reduceCtorEq, Nat.one_ne_zero, Nat.zero_ne_one]
   refine dv [6] ?_; simp only [cI, lkp, zE, reduceCtorEq, aa]
   refine cU (n := 3) (L1 := [_, _, _]) rfl rfl (by rw [hB]; simp) rfl (by simp [eg, bM, cC, dD]) ?_
   refine ew (L1 := [_, _]) rfl (by rw [hB]; exact Nat.le_refl _) rfl (by simp [eg, bM, cC, dD]) ?_
   refine aE ?_
   refine ⟨by first | exact .inl rfl | exact .inr rfl, _, rfl, ?_⟩; simp only [zP, aa, V, ah, aQ, bb, ar, aM, au]
   try refine ⟨?_, rfl⟩
   first
   | (rw [eQ (by omega)]; all_goals rfl)
   | (rw [eF (by omega) (hW.symm.trans hWn)]; all_goals rfl)
   | (rw [cW (by omega) hW.symm, fN hD hbrk, aw, show n + (D.length + 1) = n + 1 + D.length by omega]; all_goals rfl)
   | (rw [hie, aL] at hD
      rw [cW (by omega) hW.symm, hD, aw, show n + (D.length + 1) = n + 1 + D.length by omega]; all_goals rfl)
  (try simp only [zB, reduceCtorEq] at hc48)
  refine ay ?_
  apply k46; clear k46; refine kp [0, 2, 6, 7, 9, 10, 11, 80, 81, 82, 83, 92] ?_
  refine ai fun _ k50 => ?_
  have hgi := tc (m := m) (ini := ini) (cur := cur) (a := a0) (ks := (aF (ouL m cur a0))) (i := i) (by omega)
  have hin : ((aF (ouL m cur a0)).getD i 0) ∈ (aF (ouL m cur a0)) := bh (by omega)
  have hq1 := jy hm (o := ((aF (ouL m cur a0)).getD i 0)) ha0 hs
  have hq2 := fk m ini cur a0 ((aF (ouL m cur a0)).getD i 0) cur.length
  have hq3 := me hin
  have hq4 : (bE m cur a0 cur.length ((aF (ouL m cur a0)).getD i 0)).length ≤ 1000 := Nat.le_trans lT hl
  have hNle := mm m f (cb m ini cur a0 cur.length ((aF (ouL m cur a0)).getD i 0)) (bE m cur a0 cur.length ((aF (ouL m cur a0)).getD i 0)) w2 (n + 1 + D.length) (by omega)
  have hst9 := mV (n := n) (rec := (fun i c k => cu m f i c w2 k)) (m := m) (ini := ini) (cur := cur) (a := a0) (i := i) (by omega) hD (by omega)
  refine bo hP hN Try.mixed rfl ?_
  iterate 6 (refine aj rfl fun _ k0 => ?_; simp only [zO, zT, acs, reduceCtorEq, aa, V, ad, ag, af, ae, ah, aQ, bb, ar, aM, au, ax, hgi, Int.toNat_one, aw, aL, List.drop_succ_cons, List.drop_zero]; (repeat refine And.intro (by first | omega | assumption | exact rfl | exact ⟨n, 1, ⟨rfl, rfl, by decide⟩, by omega, by omega⟩) ?_); (try refine .inl ?_); apply k0; clear k0; simp only [zP, V, List.append_assoc, aT, ← gL])
  (refine aj rfl fun _ k0 => ?_; simp only [zE, op1, ev, lkp, d4, bK, cE, zG, Ty.dflt, Ty.size, Nat.mul_one, ne_eq, not_false_eq_true, Int.natCast_one, Int.mul_one, cZ, bS, cD, acs, bW, gJ, bnd, reduceCtorEq, aa, V, ad, ag, af, ae, Try.el41, Try.el91, Try.st66, Try.td3, Try.td41, Try.td60, Try.td66, Try.td91, ah, aQ, bb, ar, aM, au, ax, hgi, Int.toNat_one, aw, aL, List.drop_succ_cons, List.drop_zero]; (repeat refine And.intro (by first | omega | assumption | exact rfl | exact ⟨n, 1, ⟨rfl, rfl, by decide⟩, by omega, by omega⟩) ?_); (try refine .inl ?_); apply k0; clear k0; simp only [zP, V, List.append_assoc, aT, ← gL])
  refine aj rfl fun _ k0 => ?_
  refine aI (h := lC (k := 1) (u := [(0, .vars 62 [.int .i64 m.inp, .int .i64 m.st, .list (.list (.int .i64)) m.nx, .list (.list (.int .i64)) m.ot, .rwc 1 ((n + 1 + D.length) + (cu m f (cb m ini cur a0 cur.length ((aF (ouL m cur a0)).getD i 0)) (bE m cur a0 cur.length ((aF (ouL m cur a0)).getD i 0)) w2 (n + 1 + D.length)).length)])]) rfl (by simp) (fun fl2 hfl2 => nq (A := [_, _]) (E := [_, _]) (IH (cb m ini cur a0 cur.length ((aF (ouL m cur a0)).getD i 0)) (bE m cur a0 cur.length ((aF (ouL m cur a0)).getD i 0)) w2 (n + 1 + D.length) fl2 (by omega) (by omega) (by rw [hfl2]; simp [aQ, bb]; omega) hq1 hq2 hq3 hq4 hw2) (by simp [eg, bM, cC]) rfl rfl (by simp) (by intro k hk; simp at hk ⊢; omega))) rfl rfl (by first | exact rfl | (simp only [ev, zP, aa, V]; exact rfl)) (by simp only [zV, acs, reduceCtorEq, aa, V, ad, ag, af, ae, ah, aQ, bb, ar, aM, au, ax, hgi, Int.toNat_one, aw, aL, List.drop_succ_cons, List.drop_zero]) ?_
  apply k0; clear k0; simp only [zP, V, List.append_assoc, aT, ← gL]
  (refine aj rfl fun _ k0 => ?_; simp only [zO, zT, acs, reduceCtorEq, aa, V, ad, ag, af, ae, ah, aQ, bb, ar, aM, au, ax, hgi, Int.toNat_one, aw, aL, List.drop_succ_cons, List.drop_zero]; (repeat refine And.intro (by first | omega | assumption | exact rfl | exact ⟨n, 1, ⟨rfl, rfl, by decide⟩, by omega, by omega⟩) ?_); (try refine .inl ?_); apply k0; clear k0; simp only [zP, V, List.append_assoc, aT, ← gL])
  refine ao ?_
  refine ⟨by kernel_rfl, ?_⟩
  apply k50; clear k50; refine kp [0, 2, 6, 7, 9, 10, 11, 12, 80, 81, 82, 83, 92] ?_
  refine bo hP hN Try.mixed rfl ?_
  iterate 21 (refine aj rfl fun _ k0 => ?_; simp only [zE, op1, ev, lkp, d4, bK, iE, bU, cZ, Nat.mul_one, bS, cD, acs, Ty.dflt, zG, bW, cE, Ty.size, ne_eq, not_false_eq_true, Int.natCast_one, Int.mul_one, iU, ci, cm, dG, dE, rep, bt, cw, fA, eN, cM, df, eS, Nat.div_one, cV, dj, dite_true, eC, reduceCtorEq, aa, V, ad, ag, af, ae, Try.el27, Try.el50, Try.fl58, Try.st52, Try.st58, Try.st62, Try.td1, Try.td2, Try.td27, Try.td3, Try.td50, Try.td52, Try.td58, Try.td60, Try.td62, ah, aQ, bb, ar, aM, au, zD hxl, hfl]; (repeat refine And.intro (by first | omega | assumption | exact rfl | exact ⟨n, 1, ⟨rfl, rfl, by decide⟩, by omega, by omega⟩) ?_); (try refine .inl ?_); apply k0; clear k0; simp only [zP, V, zZ hxl])
  refine ao ?_
  refine ⟨by kernel_rfl, ?_⟩
  apply k44; clear k44; refine kp [0, 2, 6, 7, 9, 10, 11, 12, 80, 81, 82, 83, 92] ?_
  refine am hP hN rfl ?_
  iterate 2 (refine aj rfl fun _ k0 => ?_; simp only [zO, zT, acs, reduceCtorEq, aa, V, ad, ag, af, ae, ah, aQ, bb, ar, aM, au]; (repeat refine And.intro (by first | omega | assumption | exact rfl | exact ⟨n, 1, ⟨rfl, rfl, by decide⟩, by omega, by omega⟩) ?_); (try refine .inl ?_); apply k0; clear k0; simp only [zP, V])
  refine ao ?_
  refine ⟨_, _, ?_, az [0, 2, 6, 7, 9, 80, 81, 82], i + 1, D ++ (cu m f (cb m ini cur a0 cur.length ((aF (ouL m cur a0)).getD i 0)) (bE m cur a0 cur.length ((aF (ouL m cur a0)).getD i 0)) w2 (n + 1 + D.length)), K ++ [(((aF (ouL m cur a0)).getD i 0), ((n + 1 + D.length : Nat) : Int), ())], by omega, hst9, by rw [ar]; omega, by rw [ar]; simp only [aw, aG]; omega, rfl, ?_⟩
  · omega
  · simp only [ar, ← Nat.add_assoc]; rfl
 (try simp only [zB, reduceCtorEq] at hc43)
 have hie : i = (aF (ouL m cur a0)).length := by omega
 refine b6 ?_
 apply k38; clear k38; refine kp [0, 2, 6, 7, 9, 80, 81, 82, 83] ?_
 refine ai fun _ k51 => ?_
 refine am hP hN rfl ?_
 iterate 2 (refine aj rfl fun _ k0 => ?_; simp only [zO, zT, acs, reduceCtorEq, aa, V, ad, ag, af, ae, ah, aQ, bb, ar, aM, au]; (repeat refine And.intro (by first | omega | assumption | exact rfl | exact ⟨n, 1, ⟨rfl, rfl, by decide⟩, by omega, by omega⟩) ?_); (try refine .inl ?_); apply k0; clear k0; simp only [zP, V])
 refine ao ?_
 apply k51; clear k51; refine kp [0, 2, 6, 7, 9, 80, 81, 82, 83] ?_
 refine dg 3 1 (t := kdT) rfl rfl ?_
 simp only [aH, bm, fr3, zS, aa, and_self, and_true, true_and, and_false, false_and, if_true, if_false, eq_self, reduceCtorEq, Nat.one_ne_zero, Nat.zero_ne_one]
 refine dv [6] ?_; simp only [cI, lkp, zE, reduceCtorEq, aa]
 refine cU (n := 3) (L1 := [_, _, _]) rfl rfl (by rw [hB]; simp) rfl (by simp [eg, bM, cC, dD]) ?_
 refine ew (L1 := [_, _]) rfl (by rw [hB]; exact Nat.le_refl _) rfl (by simp [eg, bM, cC, dD]) ?_
 refine aE ?_
 refine ⟨by first | exact .inl rfl | exact .inr rfl, _, rfl, ?_⟩; simp only [zP, aa, V, ah, aQ, bb, ar, aM, au]
 try refine ⟨?_, rfl⟩
 first
 | (rw [eQ (by omega)]; all_goals rfl)
 | (rw [eF (by omega) (hW.symm.trans hWn)]; all_goals rfl)
 | (rw [cW (by omega) hW.symm, fN hD hbrk, aw, show n + (D.length + 1) = n + 1 + D.length by omega]; all_goals rfl)
 | (rw [hie, aL] at hD
    rw [cW (by omega) hW.symm, hD, aw, show n + (D.length + 1) = n + 1 + D.length by omega]; all_goals rfl)
theorem v8 (m : Mly) (hm : MOK m) : ∀ (f : Nat) (ini cur w : List Int) (n : Nat) (fl : List Value), 4098 ≤ f + n → n ≤ 4096 → fl.length = n * 3 → d7 m cur → ini.length = cur.length → 0 < cur.length → cur.length ≤ 1000 → dm m w → eG Try.prog [.vars 62 [.int .i64 m.inp, .int .i64 m.st, .list (.list (.int .i64)) m.nx, .list (.list (.int .i64)) m.ot, .rwc 1 n], .rowc 52 3 n (ez fl)] 33 [.one (.ptr 0 0 0 0), .agg [.list (.int .i64) ini, .list (.int .i64) cur], .one (.list (.int .i64) w)] { av := .one (.int .i64 (n : Int)), upd := [(0, .vars 62 [.int .i64 m.inp, .int .i64 m.st, .list (.list (.int .i64)) m.nx, .list (.list (.int .i64)) m.ot, .rwc 1 (n + (cu m f ini cur w n).length)]), (1, .rowc 52 3 (n + (cu m f ini cur w n).length) (ez fl ++ ndC (cu m f ini cur w n)))], fp := [0, 1] }
  | 0, ini, cur, w, n, fl, hf, hn, _, _, _, _, _, _ => by omega
  | f + 1, ini, cur, w, n, fl, hf, hn, hfl, hs, hil, h0, hl, hw => zI f m hm (v8 m hm f) ini cur w n fl hf hn hfl hs hil h0 hl hw
theorem pb {C : Ctx} {L : List AO} {σ : Sig} {w : World} {k j sz : Nat} {e T : TypeId} {cs : List AC} (h : INV C L σ w) (ht : 0 < sz) (hk : L[k]? = some (.vars T cs)) (hj : cs[j]? = some .nils) :
    ∃ σ', INV C ((L ++ [AO.rowc e sz 0 []]).set k (AO.vars T (cs.set j (.rwc L.length 0)))) σ' w ∧ dI C L σ w ((L ++ [AO.rowc e sz 0 []]).set k (AO.vars T (cs.set j (.rwc L.length 0)))) σ' w := by
  have hlt : k < L.length := (List.getElem?_eq_some_iff.1 hk).1
  obtain ⟨σ1, d1, d2, d3⟩ := dT (C := C) (L := L) (σ := σ) (w := w) (w' := w) (v := .one (.rwc L.length 0)) (fp := []) (u := .slice none 0 0) (g := .slice none 0 0) (ob := .rowc e sz 0 []) h (Nat.le_refl _) rfl rfl rfl (fun _ _ => rfl) (fun b hb => by cases hb)
    (fun _ => ⟨[], 0, ⟨(Nat.zero_mul sz).symm, .inl ⟨by rw [aX], rfl⟩⟩, ht, (Nat.zero_mul sz).symm, trivial⟩) ⟨rfl, .rowc e sz 0 [], by simp, Nat.le_refl _, fun _ _ => ⟨⟨_, _, _, rfl⟩, by rw [aX]⟩⟩
  have e1 : app L { av := .one (.rwc L.length 0), new := [AO.rowc e sz 0 []], fp := [] } = L ++ [AO.rowc e sz 0 []] := rfl
  rw [e1] at d1 d2 d3
  have hk1 : (L ++ [AO.rowc e sz 0 []])[k]? = some (.vars T cs) := by rw [List.getElem?_append_left hlt]; exact hk
  obtain ⟨b, vs, q1, q2, q3⟩ := d1.ob k _ hk1
  have hlast : (L ++ [AO.rowc e sz 0 []])[L.length]? = some (.rowc e sz 0 []) := by simp
  have hnil : .slice none 0 0 = σ1 L.length := by
    obtain ⟨_, ob, p2, _, p4⟩ := d2
    rw [hlast] at p2; cases p2
    exact (p4 rfl rfl).2
  obtain ⟨b0, vs0, r1, r2, r3⟩ := h.ob k _ hk
  obtain ⟨u, hu0, hcu0⟩ := r3.at_ hj
  obtain ⟨u, hu, hcu⟩ : ∃ u, vs[j]? = some u ∧ RC C (L ++ [AO.rowc e sz 0 []]) σ1 w .nils u := q3.at_ hj
  have hvs : vs.set j u = vs := by
    apply List.ext_getElem?
    intro i
    rw [List.getElem?_set]
    split
    · rename_i e; subst e; split
      · exact hu.symm
      · rename_i hh; exact absurd (List.getElem?_eq_some_iff.1 hu).1 hh
    · rfl
  obtain ⟨j1, j2⟩ := jp d1 hk1 q1 q2 (cs' := cs.set j (.rwc L.length 0)) (by
    rw [← hvs]
    exact q3.set j ⟨hcu.1, _, hlast, Nat.le_refl _, fun _ _ => ⟨⟨_, _, _, rfl⟩, hcu.2.trans hnil⟩⟩)
  exact ⟨σ1, j1, d3.trans j2⟩
theorem yx (m : Mly) (hm : MOK m) (all : List Int) (hs : d7 m all) (h0 : 0 < all.length) (hl : all.length ≤ 1000) (L0 : List AO) (m0 : Nat) (hm0 : L0[m0]? = some (.vars 62 [.int .i64 m.inp, .int .i64 m.st, .list (.list (.int .i64)) m.nx, .list (.list (.int .i64)) m.ot, .nils])) :
    eG Try.prog L0 33 (List.map (mv1 m0) [.one (.ptr 0 0 0 0), .agg [.list (.int .i64) all, .list (.int .i64) all], .one .nils]) { av := .one (.int .i64 0), upd := [(m0, .vars 62 [.int .i64 m.inp, .int .i64 m.st, .list (.list (.int .i64)) m.nx, .list (.list (.int .i64)) m.ot, .list ndT (cu m 4098 all all [] 0)])], fp := [m0] } := by
  have hc := v8 m hm 4098 all all [] 0 [] (by omega) (by omega) rfl hs rfl h0 hl (fun x hx => by cases hx)
  refine qA (cs := [.int .i64 m.inp, .int .i64 m.st, .list (.list (.int .i64)) m.nx, .list (.list (.int .i64)) m.ot, .nils]) (cs' := [.int .i64 m.inp, .int .i64 m.st, .list (.list (.int .i64)) m.nx, .list (.list (.int .i64)) m.ot, .list ndT (cu m 4098 all all [] 0)]) hc.1 rfl rfl (fun C σ w vs hP hI ha => ?_) L0 m0 hm0
  match vs, ha with
  | [v0, v1, v2], ⟨a0, a1, a2, _⟩ =>
  obtain ⟨σ1, d1, d3⟩ := pb (k := 0) (j := 4) (sz := 3) (e := 52) hI (by decide) rfl rfl
  refine (hc.2 C _ σ1 w [v0, v1, v2] hP d1 ⟨d3.rv a0, d3.rv a1, lE (bp rfl) _ _ _ _ _ (d3.rv a2), trivial⟩ (fun _ _ => rfl) rfl).mono fun e w' ⟨v, he, σ', g1, g2, g3⟩ => ?_
  have hlen : (ez [] ++ ndC (cu m 4098 all all [] 0)).length = (cu m 4098 all all [] 0).length * ndT.size := bb _
  obtain ⟨i1, i2⟩ := kM (k := 1) (t := ndT) (n := (cu m 4098 all all [] 0).length) (e := 52) (v := 0 + (cu m 4098 all all [] 0).length) (cs := ez [] ++ ndC (cu m 4098 all all [] 0)) g1 rfl (lw ndT _) hlen
  obtain ⟨b, us, r1, r2, r3⟩ := g1.ob 0 _ rfl
  match us, r3 with
  | [u0, u1, u2, u3, u4], ⟨c0, c1, c2, c3, c4, _⟩ =>
  have hnew : RC C [.vars 62 [.int .i64 m.inp, .int .i64 m.st, .list (.list (.int .i64)) m.nx, .list (.list (.int .i64)) m.ot, .rwc 1 (0 + (cu m 4098 all all [] 0).length)], .row ndT 52 (0 + (cu m 4098 all all [] 0).length + 1) (cu m 4098 all all [] 0)] σ' w' (.row 1 (0 + (cu m 4098 all all [] 0).length + 1)) u4 := by
    obtain ⟨q1, ob, q2, q3, q4⟩ := c4
    cases q2
    exact ⟨q1, .row ndT 52 (0 + (cu m 4098 all all [] 0).length + 1) (cu m 4098 all all [] 0), rfl, Nat.le_refl _, fun _ _ => ⟨⟨_, _, _, rfl⟩, (q4 rfl rfl).2⟩⟩
  obtain ⟨j1, j2⟩ := jp (k := 0) (T := 62) (cs' := [.int .i64 m.inp, .int .i64 m.st, .list (.list (.int .i64)) m.nx, .list (.list (.int .i64)) m.ot, .row 1 (0 + (cu m 4098 all all [] 0).length + 1)]) i1 rfl r1 r2 ⟨i2 _ _ c0, i2 _ _ c1, i2 _ _ c2, i2 _ _ c3, hnew, trivial⟩
  refine ⟨_, σ', .one (.int .i64 0), v, he, ⟨[.int .i64 m.inp, .int .i64 m.st, .list (.list (.int .i64)) m.nx, .list (.list (.int .i64)) m.ot, .row 1 (0 + (cu m 4098 all all [] 0).length + 1)], [.row ndT 52 (0 + (cu m 4098 all all [] 0).length + 1) (cu m 4098 all all [] 0)], rfl, ?_, rfl⟩, j1, j2.rv (i2.rv g2), ((d3.trans g3).trans i2).trans j2⟩
  show [_, _, _, _, if _ then _ else _] = _
  rw [if_pos rfl]; rfl
theorem iZ (m : Mly) (hn : m.nx.length ≤ 1000) : bJ Try.prog 34 [m.av] (.one (.list (.int .i64) ((List.range m.nx.length).map fun (i : Nat) => (i : Int)))) := by
 refine aU Try.func34 rfl (by kernel_rfl) (Nat.le_of_ble_eq_true rfl) rfl fun C hP hN hB => ?_
 replace hN : C.N = 20 := hN
 simp only [bc, V]
 refine ai fun _ k1 => ?_
 refine am hP hN rfl ?_
 iterate 2 (refine aj rfl fun _ k0 => ?_; simp only [zO, zT, acs, reduceCtorEq, aa, V, ad, ag, af, ae, Mly.av, ah, bj]; (repeat refine an ?_); (try refine .inl ?_); apply k0; clear k0; simp only [zP, V])
 refine ao ?_
 apply k1; clear k1; refine kp [0, 1, 2] ?_
 refine ai fun _ k2 => ?_
 refine am hP hN rfl ?_
 iterate 3 (refine aj rfl fun _ k0 => ?_; simp only [zO, zT, acs, reduceCtorEq, aa, V, ad, ag, af, ae, Mly.av, ah, bj]; (repeat refine an ?_); (try refine .inl ?_); apply k0; clear k0; simp only [zP, V])
 (refine aj rfl fun _ k0 => ?_; simp only [zE, op1, ev, lkp, d4, bK, bU, cZ, Nat.mul_one, bS, cD, acs, Ty.dflt, zG, bW, cw, fA, eN, cM, df, eS, Nat.div_one, cV, dj, Ty.size, bt, dite_true, cT, reduceCtorEq, aa, V, ad, ag, af, ae, Try.el22, Try.el41, Try.st24, Try.td2, Try.td22, Try.td24, Try.td3, Try.td41, Mly.av, ah, bj]; (repeat refine an ?_); (try refine .inl ?_); apply k0; clear k0; simp only [zP, V])
 (refine aj rfl fun _ k0 => ?_; simp only [zO, zT, acs, reduceCtorEq, aa, V, ad, ag, af, ae, Mly.av, ah, bj]; (repeat refine an ?_); (try refine .inl ?_); apply k0; clear k0; simp only [zP, V])
 refine ao ?_
 apply k2; clear k2; refine kp [0, 1, 2, 3] ?_
 refine ai fun _ k3 => ?_
 refine ai fun _ k4 => ?_
 refine am hP hN rfl ?_
 iterate 3 (refine aj rfl fun _ k0 => ?_; simp only [zO, zT, acs, reduceCtorEq, aa, V, ad, ag, af, ae, Mly.av, ah, bj]; (repeat refine an ?_); (try refine .inl ?_); apply k0; clear k0; simp only [zP, V])
 refine ao ?_
 apply k4; clear k4; refine kp [0, 1, 2, 3, 10, 11] ?_
 refine aC ?_
 refine bf (fun n5 s5 => ∃ (k : Nat), (k ≤ m.nx.length) ∧ n5 = m.nx.length - k ∧ s5 = { env := [(2, .one .nils), (3, .one (.row 1 0)), (10, .one (.int .i64 (m.nx.length : Int))), (11, .one (.int .i64 (k : Int)))], L := [.vars 24 [.int .i64 m.inp, .int .i64 m.st, .list (.list (.int .i64)) m.nx, .list (.list (.int .i64)) m.ot], .row (.int .i64) 3 0 (prL (fun i => (i : Int)) m.nx.length k 0)] }) ?_ ?_
 ·refine ⟨_, _, az [2, 3, 10, 11], 0, Nat.zero_le _, rfl, ?_⟩
  rw [yz]; rfl
 rintro n5 s5 ⟨k, hk, rfl, rfl⟩
 refine ai fun _ k6 => ?_
 refine am hP hN rfl ?_
 (refine aj rfl fun _ k0 => ?_; simp only [zO, zT, acs, reduceCtorEq, aa, V, ad, ag, af, ae, Mly.av, ah, bj]; (repeat refine an ?_); (try refine .inl ?_); apply k0; clear k0; simp only [zP, V])
 refine ao ?_
 apply k6; clear k6; refine kp [2, 3, 10, 11, 12] ?_
 refine ai fun _ k7 => ?_
 refine cd (fun hc8 => ?_) (fun hc8 => ?_)
 ·(try simp only [zB, reduceCtorEq] at hc8)
  refine ay ?_
  apply k7; clear k7; refine kp [2, 3, 10, 11, 12] ?_
  refine ai fun _ k9 => ?_
  refine aC ?_
  refine ai fun _ k10 => ?_
  refine am hP hN rfl ?_
  iterate 2 (refine aj rfl fun _ k0 => ?_; simp only [zO, zT, acs, reduceCtorEq, aa, V, ad, ag, af, ae, Mly.av, ah, bj]; (repeat refine an ?_); (try refine .inl ?_); apply k0; clear k0; simp only [zP, V])
  refine ao ?_
  apply k10; clear k10; refine kp [2, 3, 4, 10, 11, 12] ?_
  have hp9 := tC (f := fun i => (i : Int)) (n := m.nx.length) (s := k) (by omega)
  refine am hP hN rfl ?_
  iterate 5 (refine aj rfl fun _ k0 => ?_; simp only [zO, zT, acs, reduceCtorEq, aa, V, ad, ag, af, ae, Mly.av, ah, bj, pK]; (repeat refine an ?_); (try refine .inl ?_); apply k0; clear k0; simp only [zP, V])
  refine ao ?_
  apply k9; clear k9; refine kp [2, 3, 4, 10, 11, 12] ?_
  refine am hP hN rfl ?_
  iterate 2 (refine aj rfl fun _ k0 => ?_; simp only [zO, zT, acs, reduceCtorEq, aa, V, ad, ag, af, ae, Mly.av, ah, bj]; (repeat refine an ?_); (try refine .inl ?_); apply k0; clear k0; simp only [zP, V])
  refine ao ?_
  refine ⟨_, _, ?_, az [2, 3, 10, 11], k + 1, by omega, rfl, ?_⟩
  · omega
  · rw [hp9, ← qW]; rfl
 (try simp only [zB, reduceCtorEq] at hc8)
 refine b6 ?_
 apply k3; clear k3; refine kp [2, 3, 10, 11, 12] ?_
 refine ai fun _ k11 => ?_
 refine d8 1 rfl ?_; simp only [aH, bm, zS, aa, and_self, and_true, true_and, and_false, false_and, if_true, if_false, eq_self, reduceCtorEq, Nat.one_ne_zero, Nat.zero_ne_one]
 have hk9 : k = m.nx.length := by omega
 rw [hk9, tX]
 refine am hP hN rfl ?_
 iterate 2 (refine aj rfl fun _ k0 => ?_; simp only [zO, zT, acs, reduceCtorEq, aa, V, ad, ag, af, ae, Mly.av, ah, bj]; (repeat refine an ?_); (try refine .inl ?_); apply k0; clear k0; simp only [zP, V])
 refine ao ?_
 apply k11; clear k11; refine kp [2, 3, 10, 11, 12] ?_
 refine aE ?_
 refine ⟨nr, _, rfl, ?_⟩; simp only [zF, zP, aa, V, Mly.av, ah, bj]
 refine VLE.of_eq ?_
 rfl
set_option maxHeartbeats 1000000 in
theorem nh (m : Mly) : bJ Try.prog 11 [m.av] (.tup [.agg [.list ndT (i7 m)], .one (.bool (l8 m)), .one (.int .i64 (dr m))]) := by
 have hbl := y3 m
 refine aU Try.func11 rfl (by kernel_rfl) (Nat.le_of_ble_eq_true rfl) rfl fun C hP hN hB => ?_
 replace hN : C.N = 39 := hN
 simp only [bc, V]
 refine ai fun _ k1 => ?_
 refine am hP hN rfl ?_
 iterate 4 (refine aj rfl fun _ k0 => ?_; simp only [zO, zT, acs, reduceCtorEq, aa, V, ad, ag, af, ae, Mly.av, br, dy]; (repeat refine an ?_); (try refine .inl ?_); apply k0; clear k0; simp only [zP, V])
 refine ao ?_
 apply k1; clear k1; refine kp [0, 1, 2, 3, 4] ?_
 refine ai fun _ k2 => ?_
 refine ai fun _ k3 => ?_
 refine am hP hN rfl ?_
 (refine aj rfl fun _ k0 => ?_; simp only [zO, zT, acs, reduceCtorEq, aa, V, ad, ag, af, ae, Mly.av, br, dy]; (repeat refine an ?_); (try refine .inl ?_); apply k0; clear k0; simp only [zP, V])
 refine aj rfl fun _ k0 => ?_
 refine aI (h := aA (sf m)) rfl rfl (by first | exact rfl | (simp only [ev, zP, aa, V]; exact rfl)) (by simp only [zV, acs, reduceCtorEq, aa, V, ad, ag, af, ae, Mly.av, br, dy]) ?_
 apply k0; clear k0; simp only [zP, V]
 (refine aj rfl fun _ k0 => ?_; simp only [zO, zT, acs, reduceCtorEq, aa, V, ad, ag, af, ae, Mly.av, br, dy]; (repeat refine an ?_); (try refine .inl ?_); apply k0; clear k0; simp only [zP, V])
 refine ao ?_
 apply k3; clear k3; refine kp [0, 1, 2, 3, 4, 5] ?_
 refine ai fun _ k4 => ?_
 refine am hP hN rfl ?_
 iterate 2 (refine aj rfl fun _ k0 => ?_; simp only [zO, zT, acs, reduceCtorEq, aa, V, ad, ag, af, ae, Mly.av, br, dy]; (repeat refine an ?_); (try refine .inl ?_); apply k0; clear k0; simp only [zP, V])
 refine ao ?_
 apply k4; clear k4; refine kp [0, 1, 2, 3, 4, 5, 11] ?_
 refine cd (fun hc5 => ?_) (fun hc5 => ?_)
 ·(try simp only [zB, reduceCtorEq] at hc5)
  have hE : ¬ dL m = 0 := hc5
  refine ai fun _ k6 => ?_
  refine am hP hN rfl ?_
  iterate 5 (refine aj rfl fun _ k0 => ?_; simp only [zO, zT, acs, reduceCtorEq, aa, V, ad, ag, af, ae, Mly.av, br, dy]; (repeat refine an ?_); (try refine .inl ?_); apply k0; clear k0; simp only [zP, V])
  refine ao ?_
  apply k6; clear k6; refine kp [0, 1, 2, 3, 4, 5, 11] ?_
  refine aE ?_
  refine ⟨nr, _, rfl, ?_⟩; simp only [zF, zP, aa, V, Mly.av, br, dy]
  first
  | (have hZ : dr m = dL m := if_pos hE
     have hZ0 : ¬ dr m = 0 := by rw [hZ]; exact hE
     rw [(fu hZ0).1, (fu hZ0).2, hZ]; exact bI ⟨dA ⟨bp rfl, trivial⟩, aK (.refl _), aK (.refl _), trivial⟩)
  | (have hZ : dr m = 11 := (if_neg (fun h => h hE)).trans (if_pos hL)
     have hZ0 : ¬ dr m = 0 := by rw [hZ]; decide
     rw [(fu hZ0).1, (fu hZ0).2, hZ]; exact bI ⟨dA ⟨bp rfl, trivial⟩, aK (.refl _), aK (.refl _), trivial⟩)
  | (have hZ : dr m = 0 := (if_neg (fun h => h hE)).trans (if_neg hL)
     rw [(eR hZ).1, (eR hZ).2, hZ]; exact VLE.of_eq rfl)
 (try simp only [zB, reduceCtorEq] at hc5)
 have hE : dL m = 0 := by simpa using hc5
 have hm := eI (qn hE)
 have hn1 := hm.n1
 have hn2 := hm.n2
 refine ay ?_
 apply k2; clear k2; refine kp [0, 1, 2, 3, 4, 5, 11] ?_
 refine ai fun _ k7 => ?_
 refine am hP hN rfl ?_
 iterate 4 (refine aj rfl fun _ k0 => ?_; simp only [zO, zT, acs, reduceCtorEq, aa, V, ad, ag, af, ae, Mly.av, br, dy]; (repeat refine an ?_); (try refine .inl ?_); apply k0; clear k0; simp only [zP, V])
 refine ao ?_
 apply k7; clear k7; refine kp [0, 1, 2, 3, 4, 5, 6, 11] ?_
 refine ai fun _ k8 => ?_
 refine bo hP hN Try.mixed rfl ?_
 iterate 2 (refine aj rfl fun _ k0 => ?_; simp only [zO, zT, acs, reduceCtorEq, aa, V, ad, ag, af, ae, Mly.av, br, dy]; (repeat refine an ?_); (try refine .inl ?_); apply k0; clear k0; simp only [zP, V])
 refine aj rfl fun _ k0 => ?_
 refine aI (h := aA (iZ m (by omega))) rfl rfl (by first | exact rfl | (simp only [ev, zP, aa, V]; exact rfl)) (by simp only [zV, acs, reduceCtorEq, aa, V, ad, ag, af, ae, Mly.av, br, dy]) ?_
 apply k0; clear k0; simp only [zP, V]
 (refine aj rfl fun _ k0 => ?_; simp only [zO, zT, acs, reduceCtorEq, aa, V, ad, ag, af, ae, Mly.av, br, dy]; (repeat refine an ?_); (try refine .inl ?_); apply k0; clear k0; simp only [zP, V])
 refine aj rfl fun _ k0 => ?_
 refine aI (h := aA (iZ m (by omega))) rfl rfl (by first | exact rfl | (simp only [ev, zP, aa, V]; exact rfl)) (by simp only [zV, acs, reduceCtorEq, aa, V, ad, ag, af, ae, Mly.av, br, dy]) ?_
 apply k0; clear k0; simp only [zP, V]
 (refine aj rfl fun _ k0 => ?_; simp only [zO, zT, acs, reduceCtorEq, aa, V, ad, ag, af, ae, Mly.av, br, dy]; (repeat refine an ?_); (try refine .inl ?_); apply k0; clear k0; simp only [zP, V])
 refine aj rfl fun _ k0 => ?_
 refine aI (h := yx m hm (rgI m.nx.length) (kA m) (by rw [d5]; omega) (by rw [d5]; omega) _ 2 rfl) rfl rfl (by first | exact rfl | (simp only [ev, zP, aa, V]; exact rfl)) (by simp only [zV, acs, reduceCtorEq, aa, V, ad, ag, af, ae, Mly.av, br, dy]) ?_
 apply k0; clear k0; simp only [zP, V]
 refine ao ?_
 refine ⟨by kernel_rfl, ?_⟩
 apply k8; clear k8; refine kp [0, 1, 2, 3, 4, 5, 6, 11] ?_
 refine ai fun _ k9 => ?_
 refine ai fun _ k10 => ?_
 refine am hP hN rfl ?_
 iterate 6 (refine aj rfl fun _ k0 => ?_; simp only [zO, zT, acs, reduceCtorEq, aa, V, ad, ag, af, ae, Mly.av, br, dy]; (repeat refine an ?_); (try refine .inl ?_); apply k0; clear k0; simp only [zP, V])
 refine ao ?_
 apply k10; clear k10; refine kp [0, 1, 2, 3, 4, 5, 6, 11, 29] ?_
 refine cd (fun hc11 => ?_) (fun hc11 => ?_)
 ·(try simp only [zB, reduceCtorEq] at hc11)
  have hL : 4096 < (cG m).length := by have h9 : (4096 : Int) < ((cG m).length : Int) := hc11; omega
  refine ai fun _ k12 => ?_
  refine am hP hN rfl ?_
  iterate 4 (refine aj rfl fun _ k0 => ?_; simp only [zO, zT, acs, reduceCtorEq, aa, V, ad, ag, af, ae, Mly.av, br, dy]; (repeat refine an ?_); (try refine .inl ?_); apply k0; clear k0; simp only [zP, V])
  refine ao ?_
  apply k12; clear k12; refine kp [0, 1, 2, 3, 4, 5, 6, 11, 29] ?_
  refine aE ?_
  refine ⟨nr, _, rfl, ?_⟩; simp only [zF, zP, aa, V, Mly.av, br, dy]
  first
  | (have hZ : dr m = dL m := if_pos hE
     have hZ0 : ¬ dr m = 0 := by rw [hZ]; exact hE
     rw [(fu hZ0).1, (fu hZ0).2, hZ]; exact bI ⟨dA ⟨bp rfl, trivial⟩, aK (.refl _), aK (.refl _), trivial⟩)
  | (have hZ : dr m = 11 := (if_neg (fun h => h hE)).trans (if_pos hL)
     have hZ0 : ¬ dr m = 0 := by rw [hZ]; decide
     rw [(fu hZ0).1, (fu hZ0).2, hZ]; exact bI ⟨dA ⟨bp rfl, trivial⟩, aK (.refl _), aK (.refl _), trivial⟩)
  | (have hZ : dr m = 0 := (if_neg (fun h => h hE)).trans (if_neg hL)
     rw [(eR hZ).1, (eR hZ).2, hZ]; exact VLE.of_eq rfl)
 (try simp only [zB, reduceCtorEq] at hc11)
 have hL : ¬ 4096 < (cG m).length := by have h9 : ((cG m).length : Int) ≤ 4096 := hc11; omega
 refine ay ?_
 apply k9; clear k9; refine kp [0, 1, 2, 3, 4, 5, 6, 11, 29] ?_
 refine ai fun _ k13 => ?_
 refine am hP hN rfl ?_
 iterate 7 (refine aj rfl fun _ k0 => ?_; simp only [zO, zT, acs, reduceCtorEq, aa, V, ad, ag, af, ae, Mly.av, br, dy]; (repeat refine an ?_); (try refine .inl ?_); apply k0; clear k0; simp only [zP, V])
 refine ao ?_
 apply k13; clear k13; refine kp [0, 1, 2, 3, 4, 5, 6, 7, 11, 29] ?_
 refine ai fun _ k14 => ?_
 refine bo hP hN Try.mixed rfl ?_
 iterate 2 (refine aj rfl fun _ k0 => ?_; simp only [zO, zT, acs, reduceCtorEq, aa, V, ad, ag, af, ae, Mly.av, br, dy]; (repeat refine an ?_); (try refine .inl ?_); apply k0; clear k0; simp only [zP, V])
 refine aj rfl fun _ k0 => ?_
 refine aI (h := aA (tq (cG m) (by omega))) rfl rfl (by first | exact rfl | (simp only [ev, zP, aa, V]; exact rfl)) (by simp only [zV, acs, reduceCtorEq, aa, V, ad, ag, af, ae, Mly.av, br, dy]) ?_
 apply k0; clear k0; simp only [zP, V]
 iterate 3 (refine aj rfl fun _ k0 => ?_; simp only [zO, zT, acs, reduceCtorEq, aa, V, ad, ag, af, ae, Mly.av, br, dy]; (repeat refine an ?_); (try refine .inl ?_); apply k0; clear k0; simp only [zP, V])
 refine ao ?_
 refine ⟨by kernel_rfl, ?_⟩
 apply k14; clear k14; refine kp [0, 1, 2, 3, 4, 5, 6, 7, 11, 29] ?_
 refine aE ?_
 refine ⟨nr, _, rfl, ?_⟩; simp only [zF, zP, aa, V, Mly.av, br, dy]
 first
 | (have hZ : dr m = dL m := if_pos hE
    have hZ0 : ¬ dr m = 0 := by rw [hZ]; exact hE
    rw [(fu hZ0).1, (fu hZ0).2, hZ]; exact bI ⟨dA ⟨bp rfl, trivial⟩, aK (.refl _), aK (.refl _), trivial⟩)
 | (have hZ : dr m = 11 := (if_neg (fun h => h hE)).trans (if_pos hL)
    have hZ0 : ¬ dr m = 0 := by rw [hZ]; decide
    rw [(fu hZ0).1, (fu hZ0).2, hZ]; exact bI ⟨dA ⟨bp rfl, trivial⟩, aK (.refl _), aK (.refl _), trivial⟩)
 | (have hZ : dr m = 0 := (if_neg (fun h => h hE)).trans (if_neg hL)
    rw [(eR hZ).1, (eR hZ).2, hZ]; exact VLE.of_eq rfl)
theorem vx (xs : List Int) (h0 : 0 < xs.length) (hl : xs.length ≤ 1000000) : bJ Try.prog 60 [.one (.list (.int .i64) xs)] (.one (.int .i64 ((aF xs).length : Int))) := by
 refine aU Try.func60 rfl (by kernel_rfl) (Nat.le_of_ble_eq_true rfl) rfl fun C hP hN hB => ?_
 replace hN : C.N = 11 := hN
 simp only [bc, V]
 refine ai fun _ k1 => ?_
 refine am hP hN rfl ?_
 (refine aj rfl fun _ k0 => ?_; simp only [zO, zT, acs, reduceCtorEq, aa, V, ad, ag, af, ae]; (repeat refine an ?_); (try refine .inl ?_); apply k0; clear k0; simp only [zP, V])
 refine ao ?_
 apply k1; clear k1; refine kp [0, 2] ?_
 refine ai fun _ k2 => ?_
 refine am hP hN rfl ?_
 (refine aj rfl fun _ k0 => ?_; simp only [zO, zT, acs, reduceCtorEq, aa, V, ad, ag, af, ae]; (repeat refine an ?_); (try refine .inl ?_); apply k0; clear k0; simp only [zP, V])
 refine aj rfl fun _ k0 => ?_
 refine aI (h := lp (nb xs h0 (by omega))) rfl rfl (by first | exact rfl | (simp only [ev, zP, aa, V]; exact rfl)) (by simp only [zV, acs, reduceCtorEq, aa, V, ad, ag, af, ae]) ?_
 apply k0; clear k0; simp only [zP, V]
 (refine aj rfl fun _ k0 => ?_; simp only [zO, zT, acs, reduceCtorEq, aa, V, ad, ag, af, ae]; (repeat refine an ?_); (try refine .inl ?_); apply k0; clear k0; simp only [zP, V])
 refine ao ?_
 apply k2; clear k2; refine kp [0, 2, 3] ?_
 refine ai fun _ k3 => ?_
 refine am hP hN rfl ?_
 (refine aj rfl fun _ k0 => ?_; simp only [zO, zT, acs, reduceCtorEq, aa, V, ad, ag, af, ae]; (repeat refine an ?_); (try refine .inl ?_); apply k0; clear k0; simp only [zP, V])
 refine aj rfl fun _ k0 => ?_
 refine aI (h := oE (k := 0) (ver := 0) (xs := xs) uH rfl (by omega) (by omega)) rfl rfl (by first | exact rfl | (simp only [ev, zP, aa, V]; exact rfl)) (by simp only [zV, acs, reduceCtorEq, aa, V, ad, ag, af, ae]) ?_
 apply k0; clear k0; simp only [zP, V]
 refine ao ?_
 apply k3; clear k3; refine kp [0, 2, 3] ?_
 refine ai fun _ k4 => ?_
 refine am hP hN rfl ?_
 (refine aj rfl fun _ k0 => ?_; simp only [zO, zT, acs, reduceCtorEq, aa, V, ad, ag, af, ae]; (repeat refine an ?_); (try refine .inl ?_); apply k0; clear k0; simp only [zP, V])
 refine aj rfl fun _ k0 => ?_
 refine aI (h := kT (k := 0) (ver := 0) (xs := gT xs) nF rfl (by rw [ic]; omega) (by rw [ic]; omega) jr) rfl rfl (by first | exact rfl | (simp only [ev, zP, aa, V]; exact rfl)) (by simp only [zV, acs, reduceCtorEq, aa, V, ad, ag, af, ae]) ?_
 apply k0; clear k0; simp only [zP, V]
 iterate 2 (refine aj rfl fun _ k0 => ?_; simp only [zO, zT, acs, reduceCtorEq, aa, V, ad, ag, af, ae]; (repeat refine an ?_); (try refine .inl ?_); apply k0; clear k0; simp only [zP, V])
 refine ao ?_
 apply k4; clear k4; refine kp [0, 2, 3] ?_
 refine aE ?_
 refine ⟨nr, _, rfl, ?_⟩; simp only [zF, zP, aa, V]
 refine VLE.of_eq ?_
 rfl
theorem Bw (xs ys : List Int) : bJ Try.prog 59 [.one (.list (.int .i64) xs), .one (.list (.int .i64) ys)] (.one (.bool (decide (xs = ys)))) := by
 refine aU Try.func59 rfl (by kernel_rfl) (Nat.le_of_ble_eq_true rfl) rfl fun C hP hN hB => ?_
 replace hN : C.N = 26 := hN
 simp only [bc, V]
 refine pO 0 rfl fun hf0 => ?_; simp only [lkp, if_true, if_false, reduceCtorEq, aa, eq_self, Nat.one_ne_zero, Nat.zero_ne_one, ve, qY, sh, Fit, and_true, implies_true, true_and] at hf0
 refine ai fun _ k1 => ?_
 refine am hP hN rfl ?_
 (refine aj rfl fun _ k0 => ?_; simp only [zO, zT, acs, reduceCtorEq, aa, V, ad, ag, af, ae]; (repeat refine an ?_); (try refine .inl ?_); apply k0; clear k0; simp only [zP, V])
 refine ao ?_
 apply k1; clear k1; refine kp [0, 1, 4] ?_
 refine ai fun _ k2 => ?_
 refine ai fun _ k3 => ?_
 refine am hP hN rfl ?_
 iterate 5 (refine aj rfl fun _ k0 => ?_; simp only [zO, zT, acs, reduceCtorEq, aa, V, ad, ag, af, ae]; (repeat refine an ?_); (try refine .inl ?_); apply k0; clear k0; simp only [zP, V])
 refine ao ?_
 apply k3; clear k3; refine kp [0, 1, 4, 10] ?_
 refine cd (fun hc4 => ?_) (fun hc4 => ?_)
 ·(try simp only [zB, reduceCtorEq] at hc4)
  refine ai fun _ k5 => ?_
  refine am hP hN rfl ?_
  (refine aj rfl fun _ k0 => ?_; simp only [zO, zT, acs, reduceCtorEq, aa, V, ad, ag, af, ae]; (repeat refine an ?_); (try refine .inl ?_); apply k0; clear k0; simp only [zP, V])
  refine ao ?_
  apply k5; clear k5; refine kp [0, 1, 4, 10] ?_
  refine aE ?_
  refine ⟨nr, _, rfl, ?_⟩; simp only [zF, zP, aa, V]
  refine VLE.of_eq ?_
  first
  | (refine er ?_; rintro rfl; first | exact absurd rfl ‹¬ _› | omega)
  | (refine eO ?_; have hk1 : k = xs.length := by omega
     have hk2 : k = ys.length := by omega
     rw [hk1, aL, ← hk1, hk2, aL] at hT; exact hT)
 (try simp only [zB, reduceCtorEq] at hc4)
 refine ay ?_
 apply k2; clear k2; refine kp [0, 1, 4, 10] ?_
 refine ai fun _ k6 => ?_
 refine ai fun _ k7 => ?_
 refine am hP hN rfl ?_
 iterate 3 (refine aj rfl fun _ k0 => ?_; simp only [zO, zT, acs, reduceCtorEq, aa, V, ad, ag, af, ae]; (repeat refine an ?_); (try refine .inl ?_); apply k0; clear k0; simp only [zP, V])
 refine ao ?_
 apply k7; clear k7; refine kp [0, 1, 4, 10, 12, 13] ?_
 refine aC ?_
 refine bf (fun n8 s8 => ∃ (k : Nat), (k ≤ xs.length) ∧ (xs.take k = ys.take k) ∧ n8 = xs.length - k ∧ s8 = { env := [(0, .one (.list (.int .i64) xs)), (1, .one (.list (.int .i64) ys)), (12, .one (.int .i64 (xs.length : Int))), (13, .one (.int .i64 (k : Int)))], L := [] }) ?_ ?_
 ·exact ⟨_, _, az [0, 1, 12, 13], 0, Nat.zero_le _, rfl, rfl, rfl⟩
 rintro n8 s8 ⟨k, hk, hT, rfl, rfl⟩
 refine ai fun _ k9 => ?_
 refine am hP hN rfl ?_
 (refine aj rfl fun _ k0 => ?_; simp only [zO, zT, acs, reduceCtorEq, aa, V, ad, ag, af, ae]; (repeat refine an ?_); (try refine .inl ?_); apply k0; clear k0; simp only [zP, V])
 refine ao ?_
 apply k9; clear k9; refine kp [0, 1, 12, 13, 14] ?_
 refine ai fun _ k10 => ?_
 refine cd (fun hc11 => ?_) (fun hc11 => ?_)
 ·(try simp only [zB, reduceCtorEq] at hc11)
  refine ay ?_
  apply k10; clear k10; refine kp [0, 1, 12, 13, 14] ?_
  refine ai fun _ k12 => ?_
  refine aC ?_
  refine ai fun _ k13 => ?_
  refine am hP hN rfl ?_
  iterate 2 (refine aj rfl fun _ k0 => ?_; simp only [zO, zT, acs, reduceCtorEq, aa, V, ad, ag, af, ae]; (repeat refine an ?_); (try refine .inl ?_); apply k0; clear k0; simp only [zP, V])
  refine ao ?_
  apply k13; clear k13; refine kp [0, 1, 5, 12, 13, 14] ?_
  refine ai fun _ k14 => ?_
  refine bo hP hN Try.mixed rfl ?_
  iterate 9 (refine aj rfl fun _ k0 => ?_; simp only [zO, zT, acs, reduceCtorEq, aa, V, ad, ag, af, ae]; (repeat refine an ?_); (try refine .inl ?_); apply k0; clear k0; simp only [zP, V])
  refine ao ?_
  refine ⟨by kernel_rfl, ?_⟩
  apply k14; clear k14; refine kp [0, 1, 5, 12, 13, 14, 24] ?_
  refine cd (fun hc15 => ?_) (fun hc15 => ?_)
  ·(try simp only [zB, reduceCtorEq] at hc15)
   refine ai fun _ k16 => ?_
   refine am hP hN rfl ?_
   (refine aj rfl fun _ k0 => ?_; simp only [zO, zT, acs, reduceCtorEq, aa, V, ad, ag, af, ae]; (repeat refine an ?_); (try refine .inl ?_); apply k0; clear k0; simp only [zP, V])
   refine ao ?_
   apply k16; clear k16; refine kp [0, 1, 4, 5, 12, 13, 14, 24] ?_
   refine aE ?_
   refine ⟨nr, _, rfl, ?_⟩; simp only [zF, zP, aa, V]
   refine VLE.of_eq ?_
   first
   | (refine er ?_; rintro rfl; first | exact absurd rfl ‹¬ _› | omega)
   | (refine eO ?_; have hk1 : k = xs.length := by omega
      have hk2 : k = ys.length := by omega
      rw [hk1, aL, ← hk1, hk2, aL] at hT; exact hT)
  (try simp only [zB, reduceCtorEq] at hc15)
  refine ay ?_
  apply k12; clear k12; refine kp [0, 1, 5, 12, 13, 14, 24] ?_
  refine am hP hN rfl ?_
  iterate 2 (refine aj rfl fun _ k0 => ?_; simp only [zO, zT, acs, reduceCtorEq, aa, V, ad, ag, af, ae]; (repeat refine an ?_); (try refine .inl ?_); apply k0; clear k0; simp only [zP, V])
  refine ao ?_
  refine ⟨_, _, ?_, az [0, 1, 12, 13], k + 1, by omega, iD (d := 0) hT (by omega) (by omega) ?_, rfl, rfl⟩
  · omega
  · first | assumption | omega
 (try simp only [zB, reduceCtorEq] at hc11)
 refine b6 ?_
 apply k6; clear k6; refine kp [0, 1, 12, 13, 14] ?_
 refine ai fun _ k17 => ?_
 refine am hP hN rfl ?_
 (refine aj rfl fun _ k0 => ?_; simp only [zO, zT, acs, reduceCtorEq, aa, V, ad, ag, af, ae]; (repeat refine an ?_); (try refine .inl ?_); apply k0; clear k0; simp only [zP, V])
 refine ao ?_
 apply k17; clear k17; refine kp [0, 1, 4, 12, 13, 14] ?_
 refine aE ?_
 refine ⟨nr, _, rfl, ?_⟩; simp only [zF, zP, aa, V]
 refine VLE.of_eq ?_
 first
 | (refine er ?_; rintro rfl; first | exact absurd rfl ‹¬ _› | omega)
 | (refine eO ?_; have hk1 : k = xs.length := by omega
    have hk2 : k = ys.length := by omega
    rw [hk1, aL, ← hk1, hk2, aL] at hT; exact hT)
set_option maxHeartbeats 4000000 in
theorem yA (f : Nat) (m : Mly) (hm : MOK m) (T : List ba) (hT : T.length ≤ 4096) (IH : ∀ (p : Nat) (ini cur : List Int) (x : Value), T.length + 1 ≤ f + p → p ≤ T.length → d7 m cur → ini.length = cur.length → 0 < cur.length → cur.length ≤ 1000 → ∀ (L0 : List AO) (m0 : Nat) (hm0 : L0[m0]? = some (.vars 62 [.int .i64 m.inp, .int .i64 m.st, .list (.list (.int .i64)) m.nx, .list (.list (.int .i64)) m.ot, .exact x])), eG Try.prog L0 37 (List.map (mv1 m0) [.one (.ptr 0 0 0 0), .agg [.list ndT T], .one (.int .i64 (p : Int)), .agg [.list (.int .i64) ini, .list (.int .i64) cur]]) { av := .tup [.one (.int .i64 (rtP m T f p ini cur)), .one (.bool (rtF m T f p ini cur).isSome)], upd := [(m0, .vars 62 [.int .i64 m.inp, .int .i64 m.st, .list (.list (.int .i64)) m.nx, .list (.list (.int .i64)) m.ot, .exact x])], fp := [m0] }) (p : Nat) (ini cur : List Int) (x : Value) (hf : T.length + 1 ≤ (f + 1) + p) (hp : p ≤ T.length) (hs : d7 m cur) (hil : ini.length = cur.length) (h0 : 0 < cur.length) (hl : cur.length ≤ 1000) (L0 : List AO) (m0 : Nat) (hm0 : L0[m0]? = some (.vars 62 [.int .i64 m.inp, .int .i64 m.st, .list (.list (.int .i64)) m.nx, .list (.list (.int .i64)) m.ot, .exact x])) : eG Try.prog L0 37 (List.map (mv1 m0) [.one (.ptr 0 0 0 0), .agg [.list ndT T], .one (.int .i64 (p : Int)), .agg [.list (.int .i64) ini, .list (.int .i64) cur]]) { av := .tup [.one (.int .i64 (rtP m T (f + 1) p ini cur)), .one (.bool (rtF m T (f + 1) p ini cur).isSome)], upd := [(m0, .vars 62 [.int .i64 m.inp, .int .i64 m.st, .list (.list (.int .i64)) m.nx, .list (.list (.int .i64)) m.ot, .exact x])], fp := [m0] } := by
 refine kY Try.func37 rfl (by kernel_rfl) (Nat.le_of_ble_eq_true rfl) rfl rfl (fun C hP hN hB => ?_) L0 m0 hm0
 replace hN : C.N = 124 := hN
 simp only [bc, V]
 refine ai fun _ k1 => ?_
 refine am hP hN rfl ?_
 iterate 4 (refine aj rfl fun _ k0 => ?_; simp only [zO, zT, acs, reduceCtorEq, aa, V, ad, ag, af, ae, ah, ax, aB, aN, aM]; (repeat refine an ?_); (try refine .inl ?_); apply k0; clear k0; simp only [zP, V])
 refine ao ?_
 apply k1; clear k1; refine kp [0, 1, 2, 3, 5, 7, 8, 9] ?_
 refine ai fun _ k2 => ?_
 refine ai fun _ k3 => ?_
 refine bo hP hN Try.mixed rfl ?_
 iterate 6 (refine aj rfl fun _ k0 => ?_; simp only [zO, zT, acs, reduceCtorEq, aa, V, ad, ag, af, ae, ah, ax, aB, aN, aM]; (repeat refine an ?_); (try refine .inl ?_); apply k0; clear k0; simp only [zP, V])
 refine' aO (want := false) 10 rfl (m := 23) (by simp only [zP, aa, V]; exact rfl) (by kernel_rfl) rfl rfl rfl rfl rfl (fun hg4 => ?a4) ?b4 ?c4
 case a4 =>
  have hq4 := hg4; (try simp only [zB, reduceCtorEq] at hg4); simp only [zE]
  iterate 8 (refine aZ rfl fun _ k0 => ?_; simp only [zO, zT, acs, reduceCtorEq, aa, V, ad, ag, af, ae, ah, ax, aB, aN, aM]; (repeat refine an ?_); (try refine .inl ?_); apply k0; clear k0; simp only [zP, V])
  refine aZ rfl fun _ k0 => ?_
  refine aI (h := aA (Bw (T.getD p nd0).1 ini)) rfl rfl (by first | exact rfl | (simp only [ev, zP, aa, V]; exact rfl)) (by simp only [zV, acs, reduceCtorEq, aa, V, ad, ag, af, ae, ah, ax, aB, aN, aM]) ?_
  apply k0; clear k0; simp only [zP, V]
  (refine aZ rfl fun _ k0 => ?_; simp only [zO, zT, acs, reduceCtorEq, aa, V, ad, ag, af, ae, ah, ax, aB, aN, aM]; (repeat refine an ?_); (try refine .inl ?_); apply k0; clear k0; simp only [zP, V])
  (refine aj rfl fun _ k0 => ?_; simp only [zO, zT, acs, reduceCtorEq, aa, V, ad, ag, af, ae, ah, ax, aB, aN, aM]; (repeat refine an ?_); (try refine .inl ?_); apply k0; clear k0; simp only [zP, V])
  refine ao ?_
  refine ⟨by simp only [zP, aa, V]; exact rfl, rfl, ?_, rfl⟩; (repeat refine aP rfl ?_); exact bn (by exact rfl) hq4
 case b4 => exact cp
 simp only [b7, aV]
 (refine aj rfl fun _ k0 => ?_; simp only [zO, zT, acs, reduceCtorEq, aa, V, ad, ag, af, ae, ah, ax, aB, aN, aM]; (repeat refine an ?_); (try refine .inl ?_); apply k0; clear k0; simp only [zP, V])
 refine' aO (want := false) 7 rfl (m := 35) (by simp only [zP, aa, V]; exact rfl) (by kernel_rfl) rfl rfl rfl rfl rfl (fun hg5 => ?a5) ?b5 ?c5
 case a5 =>
  have hq5 := hg5; (try simp only [zB, reduceCtorEq] at hg5); simp only [zE]
  iterate 2 (refine aZ rfl fun _ k0 => ?_; simp only [zO, zT, acs, reduceCtorEq, aa, V, ad, ag, af, ae, ah, ax, aB, aN, aM]; (repeat refine an ?_); (try refine .inl ?_); apply k0; clear k0; simp only [zP, V])
  refine aZ rfl fun _ k0 => ?_
  refine aI (h := aA (vx cur h0 (by omega))) rfl rfl (by first | exact rfl | (simp only [ev, zP, aa, V]; exact rfl)) (by simp only [zV, acs, reduceCtorEq, aa, V, ad, ag, af, ae, ah, ax, aB, aN, aM]) ?_
  apply k0; clear k0; simp only [zP, V]
  iterate 4 (refine aZ rfl fun _ k0 => ?_; simp only [zO, zT, acs, reduceCtorEq, aa, V, ad, ag, af, ae, ah, ax, aB, aN, aM]; (repeat refine an ?_); (try refine .inl ?_); apply k0; clear k0; simp only [zP, V])
  (refine aj rfl fun _ k0 => ?_; simp only [zO, zT, acs, reduceCtorEq, aa, V, ad, ag, af, ae, ah, ax, aB, aN, aM]; (repeat refine an ?_); (try refine .inl ?_); apply k0; clear k0; simp only [zP, V])
  refine ao ?_
  refine ⟨by simp only [zP, aa, V]; exact rfl, rfl, ?_, rfl⟩; (repeat refine aP rfl ?_); exact bn (by exact rfl) hq5
 case b5 => exact cp
 simp only [b7, aV]
 refine ao ?_
 refine ⟨by kernel_rfl, ?_⟩
 apply k3; clear k3; refine kp [0, 1, 2, 3, 5, 7, 8, 9, 43] ?_
 refine cd (fun hc6 => ?_) (fun hc6 => ?_)
 ·(try simp only [zB, reduceCtorEq] at hc6)
  have hno : ¬ (p < T.length ∧ (T.getD p nd0).1 = ini ∧ cur.Nodup) := by
    rintro ⟨h1, h2, h3⟩
    have h4 := nG.2 h3
    rcases hc6 with (h9 | h9) | h9
    · omega
    · exact h9 h2
    · omega
  have hNN := ou (m := m) (f := f) hno
  have hMM : ¬ ((p < T.length ∧ (T.getD p nd0).1 = ini ∧ cur.Nodup) ∧ (T.getD p nd0).2.1 = -1) := fun h => hno h.1
  refine ai fun _ k7 => ?_
  refine am hP hN rfl ?_
  iterate 2 (refine aj rfl fun _ k0 => ?_; simp only [zO, zT, acs, reduceCtorEq, aa, V, ad, ag, af, ae, ah, ax, aB, aN, aM]; (repeat refine an ?_); (try refine .inl ?_); apply k0; clear k0; simp only [zP, V])
  refine ao ?_
  apply k7; clear k7; refine kp [0, 1, 2, 3, 5, 7, 8, 9, 43] ?_
  refine aE ?_
  refine ⟨by first | exact .inl rfl | exact .inr rfl, _, rfl, _, _, rfl, ?_, ?_⟩ <;> simp only [fzV, fz1, fzC, aH, bm, zP, aa, V, ah, ax, aB, aN, aM]
  all_goals first
  | (rw [jf hNN hMM, hNN]; rfl)
  | (rw [dh hSS, hSS]; rfl)
  | (by_cases hz : (T.getD p nd0).2.2.1.length = 0
     · have hSS := (dx (m := m) (f := f) hyes hx1).trans (if_pos hz)
       rw [dh hSS, hSS]
       show AV.tup [.one (.int .i64 ((p : Int) + 1)), .one (.bool (decide (((T.getD p nd0).2.2.1.length : Int) = 0)))] = _
       rw [decide_eq_true (by omega)]; rfl
     · have hNN := (dx (m := m) (f := f) hyes hx1).trans (if_neg hz)
       rw [gC hNN ⟨hyes, hx1⟩, hNN]
       show AV.tup [.one (.int .i64 ((p : Int) + 1)), .one (.bool (decide (((T.getD p nd0).2.2.1.length : Int) = 0)))] = _
       rw [decide_eq_false (by omega)]; rfl)
 (try simp only [zB, reduceCtorEq] at hc6)
 have hyes : p < T.length ∧ (T.getD p nd0).1 = ini ∧ cur.Nodup := ⟨by omega, hc6.1.2, nG.1 (by omega)⟩
 refine ay ?_
 apply k2; clear k2; refine kp [0, 1, 2, 3, 5, 7, 8, 9, 43] ?_
 refine ai fun _ k8 => ?_
 refine am hP hN rfl ?_
 iterate 7 (refine aj rfl fun _ k0 => ?_; simp only [zO, zT, acs, reduceCtorEq, aa, V, ad, ag, af, ae, ah, ax, aB, aN, aM]; (repeat refine an ?_); (try refine .inl ?_); apply k0; clear k0; simp only [zP, V])
 refine ao ?_
 apply k8; clear k8; refine kp [0, 1, 2, 3, 5, 7, 8, 9, 10, 43] ?_
 refine ai fun _ k9 => ?_
 refine ai fun _ k10 => ?_
 refine am hP hN rfl ?_
 iterate 3 (refine aj rfl fun _ k0 => ?_; simp only [zO, zT, acs, reduceCtorEq, aa, V, ad, ag, af, ae, ah, ax, aB, aN, aM]; (repeat refine an ?_); (try refine .inl ?_); apply k0; clear k0; simp only [zP, V])
 refine ao ?_
 apply k10; clear k10; refine kp [0, 1, 2, 3, 5, 7, 8, 9, 10, 43, 51] ?_
 refine cd (fun hc11 => ?_) (fun hc11 => ?_)
 ·(try simp only [zB, reduceCtorEq] at hc11)
  have hx1 : (T.getD p nd0).2.1 = -1 := hc11
  refine ai fun _ k12 => ?_
  refine bo hP hN Try.mixed rfl ?_
  iterate 8 (refine aj rfl fun _ k0 => ?_; simp only [zO, zT, acs, reduceCtorEq, aa, V, ad, ag, af, ae, ah, ax, aB, aN, aM]; (repeat refine an ?_); (try refine .inl ?_); apply k0; clear k0; simp only [zP, V])
  refine ao ?_
  refine ⟨by kernel_rfl, ?_⟩
  apply k12; clear k12; refine kp [0, 1, 2, 3, 5, 7, 8, 9, 10, 43, 51] ?_
  refine aE ?_
  refine ⟨by first | exact .inl rfl | exact .inr rfl, _, rfl, _, _, rfl, ?_, ?_⟩ <;> simp only [fzV, fz1, fzC, aH, bm, zP, aa, V, ah, ax, aB, aN, aM]
  all_goals first
  | (rw [jf hNN hMM, hNN]; rfl)
  | (rw [dh hSS, hSS]; rfl)
  | (by_cases hz : (T.getD p nd0).2.2.1.length = 0
     · have hSS := (dx (m := m) (f := f) hyes hx1).trans (if_pos hz)
       rw [dh hSS, hSS]
       show AV.tup [.one (.int .i64 ((p : Int) + 1)), .one (.bool (decide (((T.getD p nd0).2.2.1.length : Int) = 0)))] = _
       rw [decide_eq_true (by omega)]; rfl
     · have hNN := (dx (m := m) (f := f) hyes hx1).trans (if_neg hz)
       rw [gC hNN ⟨hyes, hx1⟩, hNN]
       show AV.tup [.one (.int .i64 ((p : Int) + 1)), .one (.bool (decide (((T.getD p nd0).2.2.1.length : Int) = 0)))] = _
       rw [decide_eq_false (by omega)]; rfl)
 (try simp only [zB, reduceCtorEq] at hc11)
 have hx1 : ¬ (T.getD p nd0).2.1 = -1 := hc11
 have hMM : ¬ ((p < T.length ∧ (T.getD p nd0).1 = ini ∧ cur.Nodup) ∧ (T.getD p nd0).2.1 = -1) := fun h => hx1 h.2
 refine ay ?_
 apply k9; clear k9; refine kp [0, 1, 2, 3, 5, 7, 8, 9, 10, 43, 51] ?_
 refine ai fun _ k13 => ?_
 refine ai fun _ k14 => ?_
 refine bo hP hN Try.mixed rfl ?_
 iterate 4 (refine aj rfl fun _ k0 => ?_; simp only [zO, zT, acs, reduceCtorEq, aa, V, ad, ag, af, ae, ah, ax, aB, aN, aM]; (repeat refine an ?_); (try refine .inl ?_); apply k0; clear k0; simp only [zP, V])
 refine' aO (want := false) 8 rfl (m := 61) (by simp only [zP, aa, V]; exact rfl) (by kernel_rfl) rfl rfl rfl rfl rfl (fun hg15 => ?a15) ?b15 ?c15
 case a15 =>
  have hq15 := hg15; (try simp only [zB, reduceCtorEq] at hg15); simp only [zE]
  iterate 8 (refine aZ rfl fun _ k0 => ?_; simp only [zO, zT, acs, reduceCtorEq, aa, V, ad, ag, af, ae, ah, ax, aB, aN, aM]; (repeat refine an ?_); (try refine .inl ?_); apply k0; clear k0; simp only [zP, V])
  (refine aj rfl fun _ k0 => ?_; simp only [zO, zT, acs, reduceCtorEq, aa, V, ad, ag, af, ae, ah, ax, aB, aN, aM]; (repeat refine an ?_); (try refine .inl ?_); apply k0; clear k0; simp only [zP, V])
  refine ao ?_
  refine ⟨by simp only [zP, aa, V]; exact rfl, rfl, ?_, rfl⟩; (repeat refine aP rfl ?_); exact bn (by exact rfl) hq15
 case b15 => exact cp
 simp only [b7, aV]
 refine ao ?_
 refine ⟨by kernel_rfl, ?_⟩
 apply k14; clear k14; refine kp [0, 1, 2, 3, 5, 7, 8, 9, 10, 43, 51, 70] ?_
 refine cd (fun hc16 => ?_) (fun hc16 => ?_)
 ·(try simp only [zB, reduceCtorEq] at hc16)
  have hxb : ¬ (0 ≤ (T.getD p nd0).2.1 ∧ (T.getD p nd0).2.1 < m.inp ∧ (aF (ouL m cur (T.getD p nd0).2.1)).length = (T.getD p nd0).2.2.1.length) := by
    have h8 : (T.getD p nd0).2.1 < 0 ∨ m.inp ≤ (T.getD p nd0).2.1 := hc16
    omega
  have hNN := qq (f := f) (p := p) (ini := ini) hx1 hxb
  refine ai fun _ k17 => ?_
  refine am hP hN rfl ?_
  iterate 2 (refine aj rfl fun _ k0 => ?_; simp only [zO, zT, acs, reduceCtorEq, aa, V, ad, ag, af, ae, ah, ax, aB, aN, aM]; (repeat refine an ?_); (try refine .inl ?_); apply k0; clear k0; simp only [zP, V])
  refine ao ?_
  apply k17; clear k17; refine kp [0, 1, 2, 3, 5, 7, 8, 9, 10, 43, 51, 70] ?_
  refine aE ?_
  refine ⟨by first | exact .inl rfl | exact .inr rfl, _, rfl, _, _, rfl, ?_, ?_⟩ <;> simp only [fzV, fz1, fzC, aH, bm, zP, aa, V, ah, ax, aB, aN, aM]
  all_goals first
  | (rw [jf hNN hMM, hNN]; rfl)
  | (rw [dh hSS, hSS]; rfl)
  | (by_cases hz : (T.getD p nd0).2.2.1.length = 0
     · have hSS := (dx (m := m) (f := f) hyes hx1).trans (if_pos hz)
       rw [dh hSS, hSS]
       show AV.tup [.one (.int .i64 ((p : Int) + 1)), .one (.bool (decide (((T.getD p nd0).2.2.1.length : Int) = 0)))] = _
       rw [decide_eq_true (by omega)]; rfl
     · have hNN := (dx (m := m) (f := f) hyes hx1).trans (if_neg hz)
       rw [gC hNN ⟨hyes, hx1⟩, hNN]
       show AV.tup [.one (.int .i64 ((p : Int) + 1)), .one (.bool (decide (((T.getD p nd0).2.2.1.length : Int) = 0)))] = _
       rw [decide_eq_false (by omega)]; rfl)
 (try simp only [zB, reduceCtorEq] at hc16)
 have hxa : 0 ≤ (T.getD p nd0).2.1 ∧ (T.getD p nd0).2.1 < m.inp := hc16
 refine ay ?_
 apply k13; clear k13; refine kp [0, 1, 2, 3, 5, 7, 8, 9, 10, 43, 51, 70] ?_
 refine ai fun _ k18 => ?_
 refine am hP hN rfl ?_
 iterate 4 (refine aj rfl fun _ k0 => ?_; simp only [zO, zT, acs, reduceCtorEq, aa, V, ad, ag, af, ae, ah, ax, aB, aN, aM]; (repeat refine an ?_); (try refine .inl ?_); apply k0; clear k0; simp only [zP, V])
 refine aj rfl fun _ k0 => ?_
 refine aI (h := oN m x ini cur (T.getD p nd0).2.1 hm hs hxa h0 hl hil _ 0 rfl) rfl rfl (by first | exact rfl | (simp only [ev, zP, aa, V]; exact rfl)) (by simp only [zV, acs, reduceCtorEq, aa, V, ad, ag, af, ae, ah, ax, aB, aN, aM]) ?_
 apply k0; clear k0; simp only [zP, V]
 iterate 5 (refine aj rfl fun _ k0 => ?_; simp only [zO, zT, acs, reduceCtorEq, aa, V, ad, ag, af, ae, ah, ax, aB, aN, aM]; (repeat refine an ?_); (try refine .inl ?_); apply k0; clear k0; simp only [zP, V])
 refine ao ?_
 apply k18; clear k18; refine kp [0, 1, 2, 3, 5, 7, 8, 9, 10, 11, 12, 43, 51, 70] ?_
 refine ai fun _ k19 => ?_
 refine ai fun _ k20 => ?_
 refine am hP hN rfl ?_
 iterate 6 (refine aj rfl fun _ k0 => ?_; simp only [zO, zT, acs, reduceCtorEq, aa, V, ad, ag, af, ae, ah, ax, aB, aN, aM]; (repeat refine an ?_); (try refine .inl ?_); apply k0; clear k0; simp only [zP, V])
 refine ao ?_
 apply k20; clear k20; refine kp [0, 1, 2, 3, 5, 7, 8, 9, 10, 11, 12, 43, 51, 70, 84] ?_
 refine cd (fun hc21 => ?_) (fun hc21 => ?_)
 ·(try simp only [zB, reduceCtorEq] at hc21)
  have hxb : ¬ (0 ≤ (T.getD p nd0).2.1 ∧ (T.getD p nd0).2.1 < m.inp ∧ (aF (ouL m cur (T.getD p nd0).2.1)).length = (T.getD p nd0).2.2.1.length) := by
    have h8 : ¬ (((aF (ouL m cur (T.getD p nd0).2.1)).length : Int) = ((T.getD p nd0).2.2.1.length : Int)) := hc21
    omega
  have hNN := qq (f := f) (p := p) (ini := ini) hx1 hxb
  refine ai fun _ k22 => ?_
  refine am hP hN rfl ?_
  iterate 2 (refine aj rfl fun _ k0 => ?_; simp only [zO, zT, acs, reduceCtorEq, aa, V, ad, ag, af, ae, ah, ax, aB, aN, aM]; (repeat refine an ?_); (try refine .inl ?_); apply k0; clear k0; simp only [zP, V])
  refine ao ?_
  apply k22; clear k22; refine kp [0, 1, 2, 3, 5, 7, 8, 9, 10, 11, 12, 43, 51, 70, 84] ?_
  refine aE ?_
  refine ⟨by first | exact .inl rfl | exact .inr rfl, _, rfl, _, _, rfl, ?_, ?_⟩ <;> simp only [fzV, fz1, fzC, aH, bm, zP, aa, V, ah, ax, aB, aN, aM]
  all_goals first
  | (rw [jf hNN hMM, hNN]; rfl)
  | (rw [dh hSS, hSS]; rfl)
  | (by_cases hz : (T.getD p nd0).2.2.1.length = 0
     · have hSS := (dx (m := m) (f := f) hyes hx1).trans (if_pos hz)
       rw [dh hSS, hSS]
       show AV.tup [.one (.int .i64 ((p : Int) + 1)), .one (.bool (decide (((T.getD p nd0).2.2.1.length : Int) = 0)))] = _
       rw [decide_eq_true (by omega)]; rfl
     · have hNN := (dx (m := m) (f := f) hyes hx1).trans (if_neg hz)
       rw [gC hNN ⟨hyes, hx1⟩, hNN]
       show AV.tup [.one (.int .i64 ((p : Int) + 1)), .one (.bool (decide (((T.getD p nd0).2.2.1.length : Int) = 0)))] = _
       rw [decide_eq_false (by omega)]; rfl)
 (try simp only [zB, reduceCtorEq] at hc21)
 have hxl : (aF (ouL m cur (T.getD p nd0).2.1)).length = (T.getD p nd0).2.2.1.length := by
   have h8 : ((aF (ouL m cur (T.getD p nd0).2.1)).length : Int) = ((T.getD p nd0).2.2.1.length : Int) := hc21
   omega
 have hkl := gX (ouL m cur (T.getD p nd0).2.1)
 have hol : (ouL m cur (T.getD p nd0).2.1).length = cur.length := aD ..
 have hrf := mE (f := f) hyes hx1 ⟨hxa.1, hxa.2, hxl⟩
 refine ay ?_
 apply k19; clear k19; refine kp [0, 1, 2, 3, 5, 7, 8, 9, 10, 11, 12, 43, 51, 70, 84] ?_
 refine ai fun _ k23 => ?_
 refine am hP hN rfl ?_
 iterate 3 (refine aj rfl fun _ k0 => ?_; simp only [zO, zT, acs, reduceCtorEq, aa, V, ad, ag, af, ae, ah, ax, aB, aN, aM]; (repeat refine an ?_); (try refine .inl ?_); apply k0; clear k0; simp only [zP, V])
 refine ao ?_
 apply k23; clear k23; refine kp [0, 1, 2, 3, 5, 7, 8, 9, 10, 11, 12, 13, 43, 51, 70, 84] ?_
 refine ai fun _ k24 => ?_
 refine ai fun _ k25 => ?_
 refine am hP hN rfl ?_
 iterate 4 (refine aj rfl fun _ k0 => ?_; simp only [zO, zT, acs, reduceCtorEq, aa, V, ad, ag, af, ae, ah, ax, aB, aN, aM]; (repeat refine an ?_); (try refine .inl ?_); apply k0; clear k0; simp only [zP, V])
 refine ao ?_
 apply k25; clear k25; refine kp [0, 1, 2, 3, 5, 7, 8, 9, 10, 11, 12, 13, 43, 51, 70, 84, 88, 89, 90] ?_
 refine aC ?_
 refine bf (fun n26 s26 => ∃ (i e : Nat), (i ≤ (T.getD p nd0).2.2.1.length) ∧ ((List.range i).foldl (fc m (rtF m T f) ini cur (T.getD p nd0)) (some (p + 1)) = some e) ∧ (p + 1 ≤ e ∧ e ≤ T.length) ∧ n26 = (T.getD p nd0).2.2.1.length - i ∧ s26 = { env := [(0, .one (.ptr 0 0 0 0)), (5, .one (.ptr 1 0 0 0)), (8, .one (.int .i64 0)), (9, .one (.bool false)), (11, .one (.list (.int .i64) (aF (ouL m cur (T.getD p nd0).2.1)))), (12, .one (.list (.pair (.list (.int .i64)) (.pair (.list (.int .i64)) .unit)) (lS m ini cur (T.getD p nd0).2.1 (aF (ouL m cur (T.getD p nd0).2.1))))), (13, .one (.int .i64 (e : Int))), (88, .one (.list kdT (T.getD p nd0).2.2.1)), (89, .one (.int .i64 ((T.getD p nd0).2.2.1.length : Int))), (90, .one (.int .i64 (i : Int)))], L := [.vars 62 [.int .i64 m.inp, .int .i64 m.st, .list (.list (.int .i64)) m.nx, .list (.list (.int .i64)) m.ot, .exact x], .vars 29 [.list ndT T], .vars 66 [.list (.int .i64) ini, .list (.int .i64) cur], .vars 52 [.list (.int .i64) (T.getD p nd0).1, .int .i64 (T.getD p nd0).2.1, .list kdT (T.getD p nd0).2.2.1]] }) ?_ ?_
 ·exact ⟨_, _, az [0, 5, 8, 9, 11, 12, 13, 88, 89, 90], 0, p + 1, Nat.zero_le _, rfl, ⟨by omega, by omega⟩, rfl, rfl⟩
 rintro n26 s26 ⟨i, e, hi, hD, he, rfl, rfl⟩
 refine ai fun _ k27 => ?_
 refine am hP hN rfl ?_
 (refine aj rfl fun _ k0 => ?_; simp only [zO, zT, acs, reduceCtorEq, aa, V, ad, ag, af, ae, ah, ax, aB, aN, aM]; (repeat refine an ?_); (try refine .inl ?_); apply k0; clear k0; simp only [zP, V])
 refine ao ?_
 apply k27; clear k27; refine kp [0, 5, 8, 9, 11, 12, 13, 88, 89, 90, 91] ?_
 refine ai fun _ k28 => ?_
 refine cd (fun hc29 => ?_) (fun hc29 => ?_)
 ·(try simp only [zB, reduceCtorEq] at hc29)
  have hil9 : (i : Int) < ((T.getD p nd0).2.2.1.length : Int) := hc29
  refine ay ?_
  apply k28; clear k28; refine kp [0, 5, 8, 9, 11, 12, 13, 88, 89, 90, 91] ?_
  refine ai fun _ k30 => ?_
  refine aC ?_
  refine ai fun _ k31 => ?_
  refine am hP hN rfl ?_
  iterate 6 (refine aj rfl fun _ k0 => ?_; simp only [zO, zT, acs, reduceCtorEq, aa, V, ad, ag, af, ae, ah, ax, aB, aN, aM]; (repeat refine an ?_); (try refine .inl ?_); apply k0; clear k0; simp only [zP, V])
  refine ao ?_
  apply k31; clear k31; refine kp [0, 5, 8, 9, 11, 12, 13, 14, 15, 88, 89, 90, 91] ?_
  refine ai fun _ k32 => ?_
  refine ai fun _ k33 => ?_
  refine bo hP hN Try.mixed rfl ?_
  iterate 8 (refine aj rfl fun _ k0 => ?_; simp only [zO, zT, acs, reduceCtorEq, aa, V, ad, ag, af, ae, ah, ax, aB, aN, aM]; (repeat refine an ?_); (try refine .inl ?_); apply k0; clear k0; simp only [zP, V])
  refine' aO (want := false) 4 rfl (m := 102) (by simp only [zP, aa, V]; exact rfl) (by kernel_rfl) rfl rfl rfl rfl rfl (fun hg34 => ?a34) ?b34 ?c34
  case a34 =>
   have hq34 := hg34; (try simp only [zB, reduceCtorEq] at hg34); simp only [zE]
   iterate 4 (refine aZ rfl fun _ k0 => ?_; simp only [zO, zT, acs, reduceCtorEq, aa, V, ad, ag, af, ae, ah, ax, aB, aN, aM]; (repeat refine an ?_); (try refine .inl ?_); apply k0; clear k0; simp only [zP, V])
   (refine aj rfl fun _ k0 => ?_; simp only [zO, zT, acs, reduceCtorEq, aa, V, ad, ag, af, ae, ah, ax, aB, aN, aM]; (repeat refine an ?_); (try refine .inl ?_); apply k0; clear k0; simp only [zP, V])
   refine ao ?_
   refine ⟨by simp only [zP, aa, V]; exact rfl, rfl, ?_, rfl⟩; (repeat refine aP rfl ?_); exact bn (by exact rfl) hq34
  case b34 => exact cp
  simp only [b7, aV]
  refine ao ?_
  refine ⟨by kernel_rfl, ?_⟩
  apply k33; clear k33; refine kp [0, 5, 8, 9, 11, 12, 13, 14, 15, 88, 89, 90, 91, 107] ?_
  refine cd (fun hc35 => ?_) (fun hc35 => ?_)
  ·(try simp only [zB, reduceCtorEq] at hc35)
   have hNN : rtF m T (f + 1) p ini cur = none := hrf.trans (qL (by omega) hD (qr (fun h => Or.elim hc35 (fun h9 => h9 h.1) (fun h9 => h9 h.2))))
   refine ai fun _ k36 => ?_
   refine am hP hN rfl ?_
   iterate 2 (refine aj rfl fun _ k0 => ?_; simp only [zO, zT, acs, reduceCtorEq, aa, V, ad, ag, af, ae, ah, ax, aB, aN, aM]; (repeat refine an ?_); (try refine .inl ?_); apply k0; clear k0; simp only [zP, V])
   refine ao ?_
   apply k36; clear k36; refine kp [0, 5, 8, 9, 11, 12, 13, 14, 15, 88, 89, 90, 91, 107] ?_
   refine aE ?_
   refine ⟨by first | exact .inl rfl | exact .inr rfl, _, rfl, _, _, rfl, ?_, ?_⟩ <;> simp only [fzV, fz1, fzC, aH, bm, zP, aa, V, ah, ax, aB, aN, aM]
   all_goals first
   | (rw [jf hNN hMM, hNN]; rfl)
   | (rw [dh hSS, hSS]; rfl)
   | (by_cases hz : (T.getD p nd0).2.2.1.length = 0
      · have hSS := (dx (m := m) (f := f) hyes hx1).trans (if_pos hz)
        rw [dh hSS, hSS]
        show AV.tup [.one (.int .i64 ((p : Int) + 1)), .one (.bool (decide (((T.getD p nd0).2.2.1.length : Int) = 0)))] = _
        rw [decide_eq_true (by omega)]; rfl
      · have hNN := (dx (m := m) (f := f) hyes hx1).trans (if_neg hz)
        rw [gC hNN ⟨hyes, hx1⟩, hNN]
        show AV.tup [.one (.int .i64 ((p : Int) + 1)), .one (.bool (decide (((T.getD p nd0).2.2.1.length : Int) = 0)))] = _
        rw [decide_eq_false (by omega)]; rfl)
  (try simp only [zB, reduceCtorEq] at hc35)
  have hkk := kD (m := m) (rec := rtF m T f) (ini := ini) (cur := cur) hc35
  refine ay ?_
  apply k32; clear k32; refine kp [0, 5, 8, 9, 11, 12, 13, 14, 15, 88, 89, 90, 91, 107] ?_
  refine ai fun _ k37 => ?_
  have hgi := tc (m := m) (ini := ini) (cur := cur) (a := (T.getD p nd0).2.1) (ks := (aF (ouL m cur (T.getD p nd0).2.1))) (i := i) (by omega)
  have hin : ((aF (ouL m cur (T.getD p nd0).2.1)).getD i 0) ∈ (aF (ouL m cur (T.getD p nd0).2.1)) := bh (by omega)
  have hq1 := jy hm (o := ((aF (ouL m cur (T.getD p nd0).2.1)).getD i 0)) hxa hs
  have hq2 := fk m ini cur (T.getD p nd0).2.1 ((aF (ouL m cur (T.getD p nd0).2.1)).getD i 0) cur.length
  have hq3 := me hin
  have hq4 : (bE m cur (T.getD p nd0).2.1 cur.length ((aF (ouL m cur (T.getD p nd0).2.1)).getD i 0)).length ≤ 1000 := Nat.le_trans lT hl
  refine bo hP hN Try.mixed rfl ?_
  iterate 7 (refine aj rfl fun _ k0 => ?_; simp only [zO, zT, acs, reduceCtorEq, aa, V, ad, ag, af, ae, ah, ax, aB, aN, aM, hgi]; (repeat refine an ?_); (try refine .inl ?_); apply k0; clear k0; simp only [zP, V])
  refine aj rfl fun _ k0 => ?_
  refine aI (h := IH e (cb m ini cur (T.getD p nd0).2.1 cur.length ((aF (ouL m cur (T.getD p nd0).2.1)).getD i 0)) (bE m cur (T.getD p nd0).2.1 cur.length ((aF (ouL m cur (T.getD p nd0).2.1)).getD i 0)) x (by omega) (by omega) hq1 hq2 hq3 hq4 _ 0 rfl) rfl rfl (by first | exact rfl | (simp only [ev, zP, aa, V]; exact rfl)) (by simp only [zV, acs, reduceCtorEq, aa, V, ad, ag, af, ae, ah, ax, aB, aN, aM, hgi]) ?_
  apply k0; clear k0; simp only [zP, V]
  iterate 5 (refine aj rfl fun _ k0 => ?_; simp only [zO, zT, acs, reduceCtorEq, aa, V, ad, ag, af, ae, ah, ax, aB, aN, aM, hgi]; (repeat refine an ?_); (try refine .inl ?_); apply k0; clear k0; simp only [zP, V])
  refine ao ?_
  refine ⟨by kernel_rfl, ?_⟩
  apply k37; clear k37; refine kp [0, 5, 8, 9, 11, 12, 13, 14, 15, 16, 17, 88, 89, 90, 91, 107] ?_
  refine ai fun _ k38 => ?_
  refine ai fun _ k39 => ?_
  refine am hP hN rfl ?_
  iterate 2 (refine aj rfl fun _ k0 => ?_; simp only [zO, zT, acs, reduceCtorEq, aa, V, ad, ag, af, ae, ah, ax, aB, aN, aM]; (repeat refine an ?_); (try refine .inl ?_); apply k0; clear k0; simp only [zP, V])
  refine ao ?_
  apply k39; clear k39; refine kp [0, 5, 8, 9, 11, 12, 13, 14, 15, 16, 17, 88, 89, 90, 91, 107, 120] ?_
  refine cd (fun hc40 => ?_) (fun hc40 => ?_)
  ·(try simp only [zB, reduceCtorEq] at hc40)
   have hno9 : rtF m T f e (cb m ini cur (T.getD p nd0).2.1 cur.length ((aF (ouL m cur (T.getD p nd0).2.1)).getD i 0)) (bE m cur (T.getD p nd0).2.1 cur.length ((aF (ouL m cur (T.getD p nd0).2.1)).getD i 0)) = none := by
     cases hr : rtF m T f e (cb m ini cur (T.getD p nd0).2.1 cur.length ((aF (ouL m cur (T.getD p nd0).2.1)).getD i 0)) (bE m cur (T.getD p nd0).2.1 cur.length ((aF (ouL m cur (T.getD p nd0).2.1)).getD i 0)) with
     | none => rfl
     | some n => rw [hr] at hc40; cases hc40
   have hNN : rtF m T (f + 1) p ini cur = none := hrf.trans (qL (by omega) hD (hkk.trans hno9))
   refine ai fun _ k41 => ?_
   refine am hP hN rfl ?_
   iterate 2 (refine aj rfl fun _ k0 => ?_; simp only [zO, zT, acs, reduceCtorEq, aa, V, ad, ag, af, ae, ah, ax, aB, aN, aM]; (repeat refine an ?_); (try refine .inl ?_); apply k0; clear k0; simp only [zP, V])
   refine ao ?_
   apply k41; clear k41; refine kp [0, 5, 8, 9, 11, 12, 13, 14, 15, 16, 17, 88, 89, 90, 91, 107, 120] ?_
   refine aE ?_
   refine ⟨by first | exact .inl rfl | exact .inr rfl, _, rfl, _, _, rfl, ?_, ?_⟩ <;> simp only [fzV, fz1, fzC, aH, bm, zP, aa, V, ah, ax, aB, aN, aM]
   all_goals first
   | (rw [jf hNN hMM, hNN]; rfl)
   | (rw [dh hSS, hSS]; rfl)
   | (by_cases hz : (T.getD p nd0).2.2.1.length = 0
      · have hSS := (dx (m := m) (f := f) hyes hx1).trans (if_pos hz)
        rw [dh hSS, hSS]
        show AV.tup [.one (.int .i64 ((p : Int) + 1)), .one (.bool (decide (((T.getD p nd0).2.2.1.length : Int) = 0)))] = _
        rw [decide_eq_true (by omega)]; rfl
      · have hNN := (dx (m := m) (f := f) hyes hx1).trans (if_neg hz)
        rw [gC hNN ⟨hyes, hx1⟩, hNN]
        show AV.tup [.one (.int .i64 ((p : Int) + 1)), .one (.bool (decide (((T.getD p nd0).2.2.1.length : Int) = 0)))] = _
        rw [decide_eq_false (by omega)]; rfl)
  (try simp only [zB, reduceCtorEq] at hc40)
  obtain ⟨e2, he2⟩ : ∃ e2, rtF m T f e (cb m ini cur (T.getD p nd0).2.1 cur.length ((aF (ouL m cur (T.getD p nd0).2.1)).getD i 0)) (bE m cur (T.getD p nd0).2.1 cur.length ((aF (ouL m cur (T.getD p nd0).2.1)).getD i 0)) = some e2 := Option.isSome_iff_exists.1 hc40
  have he3 := eD he2
  refine ay ?_
  apply k38; clear k38; refine kp [0, 5, 8, 9, 11, 12, 13, 14, 15, 16, 17, 88, 89, 90, 91, 107, 120] ?_
  rw [dh he2]
  refine am hP hN rfl ?_
  iterate 2 (refine aj rfl fun _ k0 => ?_; simp only [zO, zT, acs, reduceCtorEq, aa, V, ad, ag, af, ae, ah, ax, aB, aN, aM]; (repeat refine an ?_); (try refine .inl ?_); apply k0; clear k0; simp only [zP, V])
  refine ao ?_
  apply k30; clear k30; refine kp [0, 5, 8, 9, 11, 12, 13, 14, 15, 16, 17, 88, 89, 90, 91, 107, 120] ?_
  refine dv [0, 5, 8, 9, 11, 12, 13, 88, 89, 90] ?_; simp only [cI, lkp, zE, reduceCtorEq, aa]
  refine ew (L1 := [_, _, _, _]) rfl (by rw [hB]; simp) rfl rfl ?_
  refine am hP hN rfl ?_
  iterate 2 (refine aj rfl fun _ k0 => ?_; simp only [zO, zT, acs, reduceCtorEq, aa, V, ad, ag, af, ae, ah, ax, aB, aN, aM]; (repeat refine an ?_); (try refine .inl ?_); apply k0; clear k0; simp only [zP, V])
  refine ao ?_
  refine ⟨_, _, ?_, az [0, 5, 8, 9, 11, 12, 13, 88, 89, 90], i + 1, e2, by omega, qo hD (hkk.trans he2), ⟨by omega, by omega⟩, rfl, rfl⟩
  omega
 (try simp only [zB, reduceCtorEq] at hc29)
 have hil9 : ((T.getD p nd0).2.2.1.length : Int) ≤ (i : Int) := hc29
 have hie : (T.getD p nd0).2.2.1.length = i := by omega
 have hSS : rtF m T (f + 1) p ini cur = some e := by rw [hrf, hie]; exact hD
 refine b6 ?_
 apply k24; clear k24; refine kp [0, 5, 8, 9, 11, 12, 13, 88, 89, 90, 91] ?_
 refine ai fun _ k42 => ?_
 refine am hP hN rfl ?_
 iterate 3 (refine aj rfl fun _ k0 => ?_; simp only [zO, zT, acs, reduceCtorEq, aa, V, ad, ag, af, ae, ah, ax, aB, aN, aM]; (repeat refine an ?_); (try refine .inl ?_); apply k0; clear k0; simp only [zP, V])
 refine ao ?_
 apply k42; clear k42; refine kp [0, 5, 8, 9, 11, 12, 13, 88, 89, 90, 91] ?_
 refine aE ?_
 refine ⟨by first | exact .inl rfl | exact .inr rfl, _, rfl, _, _, rfl, ?_, ?_⟩ <;> simp only [fzV, fz1, fzC, aH, bm, zP, aa, V, ah, ax, aB, aN, aM]
 all_goals first
 | (rw [jf hNN hMM, hNN]; rfl)
 | (rw [dh hSS, hSS]; rfl)
 | (by_cases hz : (T.getD p nd0).2.2.1.length = 0
    · have hSS := (dx (m := m) (f := f) hyes hx1).trans (if_pos hz)
      rw [dh hSS, hSS]
      show AV.tup [.one (.int .i64 ((p : Int) + 1)), .one (.bool (decide (((T.getD p nd0).2.2.1.length : Int) = 0)))] = _
      rw [decide_eq_true (by omega)]; rfl
    · have hNN := (dx (m := m) (f := f) hyes hx1).trans (if_neg hz)
      rw [gC hNN ⟨hyes, hx1⟩, hNN]
      show AV.tup [.one (.int .i64 ((p : Int) + 1)), .one (.bool (decide (((T.getD p nd0).2.2.1.length : Int) = 0)))] = _
      rw [decide_eq_false (by omega)]; rfl)
theorem tQ (m : Mly) (hm : MOK m) (T : List ba) (hT : T.length ≤ 4096) : ∀ (f p : Nat) (ini cur : List Int) (x : Value), T.length + 1 ≤ f + p → p ≤ T.length → d7 m cur → ini.length = cur.length → 0 < cur.length → cur.length ≤ 1000 → ∀ (L0 : List AO) (m0 : Nat) (hm0 : L0[m0]? = some (.vars 62 [.int .i64 m.inp, .int .i64 m.st, .list (.list (.int .i64)) m.nx, .list (.list (.int .i64)) m.ot, .exact x])), eG Try.prog L0 37 (List.map (mv1 m0) [.one (.ptr 0 0 0 0), .agg [.list ndT T], .one (.int .i64 (p : Int)), .agg [.list (.int .i64) ini, .list (.int .i64) cur]]) { av := .tup [.one (.int .i64 (rtP m T f p ini cur)), .one (.bool (rtF m T f p ini cur).isSome)], upd := [(m0, .vars 62 [.int .i64 m.inp, .int .i64 m.st, .list (.list (.int .i64)) m.nx, .list (.list (.int .i64)) m.ot, .exact x])], fp := [m0] }
  | 0, p, ini, cur, x, hf, hp, _, _, _, _ => by omega
  | f + 1, p, ini, cur, x, hf, hp, hs, hil, h0, hl => yA f m hm T hT (tQ m hm T hT f) p ini cur x hf hp hs hil h0 hl
theorem oG (m : Mly) (T : List ba) : bJ Try.prog 16 [m.av, .agg [.list ndT T]] (.one (.int .i64 (f0 m T))) := by
 refine aU Try.func16 rfl (by kernel_rfl) (Nat.le_of_ble_eq_true rfl) rfl fun C hP hN hB => ?_
 replace hN : C.N = 41 := hN
 simp only [bc, V]
 refine ai fun _ k1 => ?_
 refine am hP hN rfl ?_
 iterate 3 (refine aj rfl fun _ k0 => ?_; simp only [zO, zT, acs, reduceCtorEq, aa, V, ad, ag, af, ae, Mly.av, br]; (repeat refine an ?_); (try refine .inl ?_); apply k0; clear k0; simp only [zP, V])
 refine ao ?_
 apply k1; clear k1; refine kp [0, 1, 2, 3, 4] ?_
 refine ai fun _ k2 => ?_
 refine ai fun _ k3 => ?_
 refine am hP hN rfl ?_
 (refine aj rfl fun _ k0 => ?_; simp only [zO, zT, acs, reduceCtorEq, aa, V, ad, ag, af, ae, Mly.av, br]; (repeat refine an ?_); (try refine .inl ?_); apply k0; clear k0; simp only [zP, V])
 refine aj rfl fun _ k0 => ?_
 refine aI (h := aA (sf m)) rfl rfl (by first | exact rfl | (simp only [ev, zP, aa, V]; exact rfl)) (by simp only [zV, acs, reduceCtorEq, aa, V, ad, ag, af, ae, Mly.av, br]) ?_
 apply k0; clear k0; simp only [zP, V]
 (refine aj rfl fun _ k0 => ?_; simp only [zO, zT, acs, reduceCtorEq, aa, V, ad, ag, af, ae, Mly.av, br]; (repeat refine an ?_); (try refine .inl ?_); apply k0; clear k0; simp only [zP, V])
 refine ao ?_
 apply k3; clear k3; refine kp [0, 1, 2, 3, 4, 5] ?_
 refine ai fun _ k4 => ?_
 refine am hP hN rfl ?_
 iterate 2 (refine aj rfl fun _ k0 => ?_; simp only [zO, zT, acs, reduceCtorEq, aa, V, ad, ag, af, ae, Mly.av, br]; (repeat refine an ?_); (try refine .inl ?_); apply k0; clear k0; simp only [zP, V])
 refine ao ?_
 apply k4; clear k4; refine kp [0, 1, 2, 3, 4, 5, 12] ?_
 refine cd (fun hc5 => ?_) (fun hc5 => ?_)
 ·(try simp only [zB, reduceCtorEq] at hc5)
  have hE : ¬ dL m = 0 := hc5
  refine ai fun _ k6 => ?_
  refine am hP hN rfl ?_
  iterate 2 (refine aj rfl fun _ k0 => ?_; simp only [zO, zT, acs, reduceCtorEq, aa, V, ad, ag, af, ae, Mly.av, br]; (repeat refine an ?_); (try refine .inl ?_); apply k0; clear k0; simp only [zP, V])
  refine ao ?_
  apply k6; clear k6; refine kp [0, 1, 2, 3, 4, 5, 12] ?_
  refine aE ?_
  refine ⟨nr, _, rfl, ?_⟩; simp only [zF, zP, aa, V, Mly.av, br]
  refine VLE.of_eq ?_
  refine congrArg (fun n => AV.one (AC.int IntKind.i64 n)) ?_
  unfold f0
  symm
  first
  | (rw [if_pos hE]; done)
  | (rw [if_neg (fun h => h hE), if_pos hR]; done)
  | (rw [if_neg (fun h => h hE), if_neg hR]; done)
 (try simp only [zB, reduceCtorEq] at hc5)
 have hE : dL m = 0 := by simpa using hc5
 have hm := eI (qn hE)
 have hn1 := hm.n1
 have hn2 := hm.n2
 refine ay ?_
 apply k2; clear k2; refine kp [0, 1, 2, 3, 4, 5, 12] ?_
 refine ai fun _ k7 => ?_
 refine ai fun _ k8 => ?_
 refine am hP hN rfl ?_
 iterate 4 (refine aj rfl fun _ k0 => ?_; simp only [zO, zT, acs, reduceCtorEq, aa, V, ad, ag, af, ae, Mly.av, br]; (repeat refine an ?_); (try refine .inl ?_); apply k0; clear k0; simp only [zP, V])
 refine ao ?_
 apply k8; clear k8; refine kp [0, 1, 2, 3, 4, 5, 12, 17] ?_
 refine cd (fun hc9 => ?_) (fun hc9 => ?_)
 ·(try simp only [zB, reduceCtorEq] at hc9)
  have hR : 4096 < T.length ∨ ¬ rtF m T (T.length + 1) 0 (rgI m.nx.length) (rgI m.nx.length) = some T.length := .inl (by omega)
  refine ai fun _ k10 => ?_
  refine am hP hN rfl ?_
  (refine aj rfl fun _ k0 => ?_; simp only [zO, zT, acs, reduceCtorEq, aa, V, ad, ag, af, ae, Mly.av, br]; (repeat refine an ?_); (try refine .inl ?_); apply k0; clear k0; simp only [zP, V])
  refine ao ?_
  apply k10; clear k10; refine kp [0, 1, 2, 3, 4, 5, 12, 17] ?_
  refine aE ?_
  refine ⟨nr, _, rfl, ?_⟩; simp only [zF, zP, aa, V, Mly.av, br]
  refine VLE.of_eq ?_
  refine congrArg (fun n => AV.one (AC.int IntKind.i64 n)) ?_
  unfold f0
  symm
  first
  | (rw [if_pos hE]; done)
  | (rw [if_neg (fun h => h hE), if_pos hR]; done)
  | (rw [if_neg (fun h => h hE), if_neg hR]; done)
 (try simp only [zB, reduceCtorEq] at hc9)
 refine ay ?_
 apply k7; clear k7; refine kp [0, 1, 2, 3, 4, 5, 12, 17] ?_
 refine ai fun _ k11 => ?_
 refine am hP hN rfl ?_
 iterate 4 (refine aj rfl fun _ k0 => ?_; simp only [zO, zT, acs, reduceCtorEq, aa, V, ad, ag, af, ae, Mly.av, br]; (repeat refine an ?_); (try refine .inl ?_); apply k0; clear k0; simp only [zP, V])
 refine ao ?_
 apply k11; clear k11; refine kp [0, 1, 2, 3, 4, 5, 6, 12, 17] ?_
 refine ai fun _ k12 => ?_
 refine bo hP hN Try.mixed rfl ?_
 iterate 3 (refine aj rfl fun _ k0 => ?_; simp only [zO, zT, acs, reduceCtorEq, aa, V, ad, ag, af, ae, Mly.av, br]; (repeat refine an ?_); (try refine .inl ?_); apply k0; clear k0; simp only [zP, V])
 refine aj rfl fun _ k0 => ?_
 refine aI (h := aA (iZ m (by omega))) rfl rfl (by first | exact rfl | (simp only [ev, zP, aa, V]; exact rfl)) (by simp only [zV, acs, reduceCtorEq, aa, V, ad, ag, af, ae, Mly.av, br]) ?_
 apply k0; clear k0; simp only [zP, V]
 (refine aj rfl fun _ k0 => ?_; simp only [zO, zT, acs, reduceCtorEq, aa, V, ad, ag, af, ae, Mly.av, br]; (repeat refine an ?_); (try refine .inl ?_); apply k0; clear k0; simp only [zP, V])
 refine aj rfl fun _ k0 => ?_
 refine aI (h := aA (iZ m (by omega))) rfl rfl (by first | exact rfl | (simp only [ev, zP, aa, V]; exact rfl)) (by simp only [zV, acs, reduceCtorEq, aa, V, ad, ag, af, ae, Mly.av, br]) ?_
 apply k0; clear k0; simp only [zP, V]
 (refine aj rfl fun _ k0 => ?_; simp only [zO, zT, acs, reduceCtorEq, aa, V, ad, ag, af, ae, Mly.av, br]; (repeat refine an ?_); (try refine .inl ?_); apply k0; clear k0; simp only [zP, V])
 refine aj rfl fun _ k0 => ?_
 refine aI (h := ja (k := 2) (T := 62) (cs := [.int .i64 m.inp, .int .i64 m.st, .list (.list (.int .i64)) m.nx, .list (.list (.int .i64)) m.ot]) (c := .nils) rfl (by simp) (fun x => tQ m hm T (by omega) (T.length + 1) 0 (rgI m.nx.length) (rgI m.nx.length) x (by omega) (by omega) (kA m) rfl (by rw [d5]; omega) (by rw [d5]; omega) _ 2 rfl)) rfl rfl (by first | exact rfl | (simp only [ev, zP, aa, V]; exact rfl)) (by simp only [zV, acs, reduceCtorEq, aa, V, ad, ag, af, ae, Mly.av, br]) ?_
 apply k0; clear k0; simp only [zP, V]
 iterate 5 (refine aj rfl fun _ k0 => ?_; simp only [zO, zT, acs, reduceCtorEq, aa, V, ad, ag, af, ae, Mly.av, br]; (repeat refine an ?_); (try refine .inl ?_); apply k0; clear k0; simp only [zP, V])
 refine ao ?_
 refine ⟨by kernel_rfl, ?_⟩
 apply k12; clear k12; refine kp [0, 1, 2, 3, 4, 5, 6, 7, 8, 12, 17] ?_
 refine ai fun _ k13 => ?_
 refine ai fun _ k14 => ?_
 refine am hP hN rfl ?_
 iterate 3 (refine aj rfl fun _ k0 => ?_; simp only [zO, zT, acs, reduceCtorEq, aa, V, ad, ag, af, ae, Mly.av, br]; (repeat refine an ?_); (try refine .inl ?_); apply k0; clear k0; simp only [zP, V])
 refine' aO (want := false) 5 rfl (m := 34) (by simp only [zP, aa, V]; exact rfl) (by kernel_rfl) rfl rfl rfl rfl rfl (fun hg15 => ?a15) ?b15 ?c15
 case a15 =>
  have hq15 := hg15; (try simp only [zB, reduceCtorEq] at hg15); simp only [zE]
  iterate 5 (refine aZ rfl fun _ k0 => ?_; simp only [zO, zT, acs, reduceCtorEq, aa, V, ad, ag, af, ae, Mly.av, br]; (repeat refine an ?_); (try refine .inl ?_); apply k0; clear k0; simp only [zP, V])
  (refine aj rfl fun _ k0 => ?_; simp only [zO, zT, acs, reduceCtorEq, aa, V, ad, ag, af, ae, Mly.av, br]; (repeat refine an ?_); (try refine .inl ?_); apply k0; clear k0; simp only [zP, V])
  refine ao ?_
  refine ⟨by simp only [zP, aa, V]; exact rfl, rfl, ?_, rfl⟩; (repeat refine aP rfl ?_); exact bn (by exact rfl) hq15
 case b15 => exact cp
 simp only [b7, aV]
 refine ao ?_
 apply k14; clear k14; refine kp [0, 1, 2, 3, 4, 5, 6, 7, 8, 12, 17, 40] ?_
 refine cd (fun hc16 => ?_) (fun hc16 => ?_)
 ·(try simp only [zB, reduceCtorEq] at hc16)
  have hR : 4096 < T.length ∨ ¬ rtF m T (T.length + 1) 0 (rgI m.nx.length) (rgI m.nx.length) = some T.length := .inr (Ax hc16)
  refine ai fun _ k17 => ?_
  refine am hP hN rfl ?_
  (refine aj rfl fun _ k0 => ?_; simp only [zO, zT, acs, reduceCtorEq, aa, V, ad, ag, af, ae, Mly.av, br]; (repeat refine an ?_); (try refine .inl ?_); apply k0; clear k0; simp only [zP, V])
  refine ao ?_
  apply k17; clear k17; refine kp [0, 1, 2, 3, 4, 5, 6, 7, 8, 12, 17, 40] ?_
  refine aE ?_
  refine ⟨nr, _, rfl, ?_⟩; simp only [zF, zP, aa, V, Mly.av, br]
  refine VLE.of_eq ?_
  refine congrArg (fun n => AV.one (AC.int IntKind.i64 n)) ?_
  unfold f0
  symm
  first
  | (rw [if_pos hE]; done)
  | (rw [if_neg (fun h => h hE), if_pos hR]; done)
  | (rw [if_neg (fun h => h hE), if_neg hR]; done)
 (try simp only [zB, reduceCtorEq] at hc16)
 have hR : ¬ (4096 < T.length ∨ ¬ rtF m T (T.length + 1) 0 (rgI m.nx.length) (rgI m.nx.length) = some T.length) := fun h => Or.elim h (fun h9 => by omega) (fun h9 => h9 (yu hc16))
 refine ay ?_
 apply k13; clear k13; refine kp [0, 1, 2, 3, 4, 5, 6, 7, 8, 12, 17, 40] ?_
 refine ai fun _ k18 => ?_
 refine am hP hN rfl ?_
 (refine aj rfl fun _ k0 => ?_; simp only [zO, zT, acs, reduceCtorEq, aa, V, ad, ag, af, ae, Mly.av, br]; (repeat refine an ?_); (try refine .inl ?_); apply k0; clear k0; simp only [zP, V])
 refine ao ?_
 apply k18; clear k18; refine kp [0, 1, 2, 3, 4, 5, 6, 7, 8, 12, 17, 40] ?_
 refine aE ?_
 refine ⟨nr, _, rfl, ?_⟩; simp only [zF, zP, aa, V, Mly.av, br]
 refine VLE.of_eq ?_
 refine congrArg (fun n => AV.one (AC.int IntKind.i64 n)) ?_
 unfold f0
 symm
 first
 | (rw [if_pos hE]; done)
 | (rw [if_neg (fun h => h hE), if_pos hR]; done)
 | (rw [if_neg (fun h => h hE), if_neg hR]; done)
theorem vr : bJ Try.prog 11 [.agg [.int .i64 0, .int .i64 0, .nils, .nils]] (.tup [.agg [.list ndT (i7 z12)], .one (.bool (l8 z12)), .one (.int .i64 (dr z12))]) :=
  ml (nh z12) ⟨uS ⟨.refl _, .refl _, bp rfl, bp rfl, trivial⟩, trivial⟩
theorem zw : bJ Try.prog 16 [eh.av, .agg [.nils]] (.one (.int .i64 (f0 eh []))) :=
  ml (oG eh []) ⟨VLE.of_eq rfl, uS ⟨bp rfl, trivial⟩, trivial⟩
theorem xp (m : Mly) (T : List ba) (W : List Int) (v : Nat) (s a : Int) (hm : MOK m) (hs : 0 ≤ s ∧ s < m.nx.length) (ha : 0 ≤ a ∧ a < m.inp) (k : dM) : eG Try.prog [.vars 24 [.int .i64 m.inp, .int .i64 m.st, .list (.list (.int .i64)) m.nx, .list (.list (.int .i64)) m.ot], .vars 29 [.list ndT T], .vars 3 [.int .i64 s], .row (.int .i64) 3 v W, .vars 3 [.int .i64 a]] 42 [.agg [.int .i64 k.1, .int .i64 k.2.1], .one (.ptr 0 0 0 0), .one (.ptr 2 0 0 0), .one (.ptr 4 0 0 0)] { av := .one (.bool (decide (k.1 = m.out s a))), fp := [0, 1, 2, 3, 4] } := by
 have ol := hm.ol
 have q2 := hm.ql s.toNat (by omega)
 refine mH _ _ Try.func42 rfl (by kernel_rfl) (Nat.le_of_ble_eq_true rfl) (by intro k hk; simp only [aw, aG, Nat.zero_add, V] at hk; simp only [List.mem_cons, List.not_mem_nil, or_false]; omega) (fun C hP hN hB => ?_)
 replace hB : C.bL.length = 5 := by rw [hB]; rfl
 replace hN : C.N = 17 := hN
 simp only [bc, V]
 refine ai fun _ k1 => ?_
 refine am hP hN rfl ?_
 iterate 2 (refine aj rfl fun _ k0 => ?_; simp only [zO, zT, acs, reduceCtorEq, aa, V, ad, ag, af, ae, ah]; (repeat refine an ?_); (try refine .inl ?_); apply k0; clear k0; simp only [zP, V])
 refine ao ?_
 apply k1; clear k1; refine kp [0, 1, 2, 3, 4, 5] ?_
 refine ai fun _ k2 => ?_
 refine bo hP hN Try.mixed rfl ?_
 iterate 12 (refine aj rfl fun _ k0 => ?_; simp only [zO, zT, acs, reduceCtorEq, aa, V, ad, ag, af, ae, ah]; (repeat refine an ?_); (try refine .inl ?_); apply k0; clear k0; simp only [zP, V])
 refine ao ?_
 refine ⟨by kernel_rfl, ?_⟩
 apply k2; clear k2; refine kp [0, 1, 2, 3, 4, 5] ?_
 refine dv [5] ?_; simp only [cI, lkp, zE, reduceCtorEq, aa]
 refine ew (L1 := [_, _, _, _, _]) rfl (by rw [hB]; exact Nat.le_refl _) rfl rfl ?_
 refine aE ?_
 refine ⟨by first | exact .inl rfl | exact .inr rfl, _, rfl, ?_⟩; simp only [zP, aa, V, ah]
 first | exact ⟨rfl, rfl⟩ | rfl
theorem yo (m : Mly) (T : List ba) (W : List Int) (v : Nat) (s a : Int) (hm : MOK m) (hs : 0 ≤ s ∧ s < m.nx.length) (ha : 0 ≤ a ∧ a < m.inp) (K : List dM) (i0 : Nat) (hK : K.length ≤ 1000000) (hi0 : i0 < K.length) (hk0 : (K.getD i0 kd0).1 = m.out s a) (hku : ∀ j, j < K.length → (K.getD j kd0).1 = m.out s a → j = i0) : eG Try.prog [.vars 24 [.int .i64 m.inp, .int .i64 m.st, .list (.list (.int .i64)) m.nx, .list (.list (.int .i64)) m.ot], .vars 29 [.list ndT T], .vars 3 [.int .i64 s], .row (.int .i64) 3 v W, .vars 3 [.int .i64 a]] 41 [.one (.list kdT K), .one (.fn 42 [.ref 0, .ref 2, .ref 4])] { av := .one (.int .i64 (i0 : Int)), fp := [0, 1, 2, 3, 4] } := by
 refine mH _ _ Try.func41 rfl (by kernel_rfl) (Nat.le_of_ble_eq_true rfl) (by intro k hk; simp only [aw, aG, Nat.zero_add, V] at hk; simp only [List.mem_cons, List.not_mem_nil, or_false]; omega) (fun C hP hN hB => ?_)
 replace hB : C.bL.length = 5 := by rw [hB]; rfl
 replace hN : C.N = 19 := hN
 simp only [bc, V]
 refine ai fun _ k1 => ?_
 refine am hP hN rfl ?_
 (refine aj rfl fun _ k0 => ?_; simp only [zO, zT, acs, reduceCtorEq, aa, V, ad, ag, af, ae, ah, ax, aN]; (repeat refine an ?_); (try refine .inl ?_); apply k0; clear k0; simp only [zP, V])
 refine ao ?_
 apply k1; clear k1; refine kp [0, 1, 4] ?_
 refine ai fun _ k2 => ?_
 refine ai fun _ k3 => ?_
 refine am hP hN rfl ?_
 iterate 3 (refine aj rfl fun _ k0 => ?_; simp only [zO, zT, acs, reduceCtorEq, aa, V, ad, ag, af, ae, ah, ax, aN]; (repeat refine an ?_); (try refine .inl ?_); apply k0; clear k0; simp only [zP, V])
 refine ao ?_
 apply k3; clear k3; refine kp [0, 1, 4, 7, 8] ?_
 refine aC ?_
 refine bf (fun n4 s4 => ∃ (i : Nat), (i ≤ K.length) ∧ (∀ j, j < i → ¬ (K.getD j kd0).1 = m.out s a) ∧ n4 = K.length - i ∧ s4 = { env := [(0, .one (.list kdT K)), (1, .one (.fn 42 [.ref 0, .ref 2, .ref 4])), (4, .one (.int .i64 0)), (7, .one (.int .i64 (K.length : Int))), (8, .one (.int .i64 (i : Int)))], L := [.vars 24 [.int .i64 m.inp, .int .i64 m.st, .list (.list (.int .i64)) m.nx, .list (.list (.int .i64)) m.ot], .vars 29 [.list ndT T], .vars 3 [.int .i64 s], .row (.int .i64) 3 v W, .vars 3 [.int .i64 a]] }) ?_ ?_
 ·exact ⟨_, _, az [0, 1, 4, 7, 8], 0, Nat.zero_le _, fun j h => by omega, rfl, rfl⟩
 rintro n4 s4 ⟨i, hi, hnu, rfl, rfl⟩
 refine ai fun _ k5 => ?_
 refine am hP hN rfl ?_
 (refine aj rfl fun _ k0 => ?_; simp only [zO, zT, acs, reduceCtorEq, aa, V, ad, ag, af, ae, ah, ax, aN]; (repeat refine an ?_); (try refine .inl ?_); apply k0; clear k0; simp only [zP, V])
 refine ao ?_
 apply k5; clear k5; refine kp [0, 1, 4, 7, 8, 9] ?_
 refine ai fun _ k6 => ?_
 refine cd (fun hc7 => ?_) (fun hc7 => ?_)
 ·(try simp only [zB, reduceCtorEq] at hc7)
  refine ay ?_
  apply k6; clear k6; refine kp [0, 1, 4, 7, 8, 9] ?_
  refine ai fun _ k8 => ?_
  refine aC ?_
  refine ai fun _ k9 => ?_
  refine am hP hN rfl ?_
  iterate 2 (refine aj rfl fun _ k0 => ?_; simp only [zO, zT, acs, reduceCtorEq, aa, V, ad, ag, af, ae, ah, ax, aN]; (repeat refine an ?_); (try refine .inl ?_); apply k0; clear k0; simp only [zP, V])
  refine ao ?_
  apply k9; clear k9; refine kp [0, 1, 4, 5, 7, 8, 9] ?_
  refine ai fun _ k10 => ?_
  have hil : i < K.length := by omega
  refine am hP hN rfl ?_
  iterate 5 (refine aj rfl fun _ k0 => ?_; simp only [zO, zT, acs, reduceCtorEq, aa, V, ad, ag, af, ae, ah, ax, aN]; (repeat refine an ?_); (try refine .inl ?_); apply k0; clear k0; simp only [zP, V])
  refine aj rfl fun _ k0 => ?_
  refine aI (h := xp m T W v s a hm hs ha (K.getD i kd0)) rfl rfl (by first | exact rfl | (simp only [ev, zP, aa, V]; exact rfl)) (by simp only [zV, acs, reduceCtorEq, aa, V, ad, ag, af, ae, ah, ax, aN]) ?_
  apply k0; clear k0; simp only [zP, V]
  refine ao ?_
  apply k10; clear k10; refine kp [0, 1, 4, 5, 7, 8, 9, 16] ?_
  refine cd (fun hc11 => ?_) (fun hc11 => ?_)
  ·(try simp only [zB, reduceCtorEq] at hc11)
   have hii : i = i0 := hku i hil (by simpa using hc11)
   refine ai fun _ k12 => ?_
   refine am hP hN rfl ?_
   iterate 2 (refine aj rfl fun _ k0 => ?_; simp only [zO, zT, acs, reduceCtorEq, aa, V, ad, ag, af, ae, ah, ax, aN]; (repeat refine an ?_); (try refine .inl ?_); apply k0; clear k0; simp only [zP, V])
   refine ao ?_
   apply k12; clear k12; refine kp [0, 1, 4, 5, 7, 8, 9, 16] ?_
   refine aE ?_
   refine ⟨by first | exact .inl rfl | exact .inr rfl, _, rfl, ?_⟩; simp only [zP, aa, V, ah, ax, aN]
   rw [hii]; all_goals (first | exact ⟨rfl, rfl⟩ | rfl)
  (try simp only [zB, reduceCtorEq] at hc11)
  have hni : ¬ (K.getD i kd0).1 = m.out s a := by simpa using hc11
  refine ay ?_
  apply k8; clear k8; refine kp [0, 1, 4, 5, 7, 8, 9, 16] ?_
  refine am hP hN rfl ?_
  iterate 2 (refine aj rfl fun _ k0 => ?_; simp only [zO, zT, acs, reduceCtorEq, aa, V, ad, ag, af, ae, ah, ax, aN]; (repeat refine an ?_); (try refine .inl ?_); apply k0; clear k0; simp only [zP, V])
  refine ao ?_
  refine ⟨_, _, ?_, az [0, 1, 4, 7, 8], i + 1, by omega, fun j h => ?_, rfl, rfl⟩
  · omega
  · by_cases e : j = i
    · rw [e]; exact hni
    · exact hnu j (by omega)
 ·exfalso; (try simp only [zB, reduceCtorEq] at hc7)
  exact absurd hk0 (hnu i0 (by omega))
end Go.Proofs.Ytoahhklogohehaa
