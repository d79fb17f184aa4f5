/- Contracts of functions of this seat, each out of a walk through its code, and plain facts on what they compute. Conditions: those that each theorem names. -/
import Derived.Test.YtceafldjjedhcaaDoorW04
set_option linter.unusedSimpArgs false
set_option linter.unusedVariables false
namespace Go.Proofs.YtceafldjjedhcaaDoor
open Go Go.AV
open Nat renaming reduceEqDiff → J, reduceAdd → E, reduceLeDiff → U, reduceLT → Z, reduceMul → V, reduceSub → Y
open List renaming set_cons_zero → aw, set_cons_succ → au
set_option maxRecDepth 100000 in
theorem wc (cl : List Int) : cq Tryd.prog 7 [.one (.list (.int .i64) cl)] (.tup [(dG cl).av, .one (.int .i64 (df cl))]) := by
 refine bt Tryd.func7 rfl (by kernel_rfl) (Nat.le_of_ble_eq_true rfl) rfl fun C hP hN hB => ?_
 replace hN : C.N = 46 := hN
 simp only [ae, E]
 refine ah fun K1 hK1 => ?_
 refine ao hP hN rfl ?_
 iterate 2 (refine ag rfl fun K0 aa => ?_; simp only [zE, op1, ev, lkp, am, ak, cC, reduceCtorEq, J, E, U, Z, V, Y, Tryd.st32, Tryd.td28, Tryd.td32, Mpr.av]; (repeat refine And.intro (by first | omega | assumption | exact rfl) ?_); (first | refine aa _ ?_ | refine Or.inl (aa _ ?_)); clear aa K0; simp only [put, app, af, aj, zE, zS, E])
 refine aq ?_
 refine hK1 _ ?_; clear hK1; refine ai [0, 2, 3] ?_; simp only [ad, lkp, zE, reduceCtorEq, J, ae, E]
 refine ah fun K2 hK2 => ?_
 refine ah fun K3 hK3 => ?_
 refine ao hP hN rfl ?_
 iterate 3 (refine ag rfl fun K0 aa => ?_; simp only [zE, op1, ev, lkp, am, ak, aP, bT, bC, bu, bv, bP, Nat.div_one, aV, bz, Ty.size, aM, dite_true, aJ, aK, aI, ay, aH, aX, reduceCtorEq, J, E, U, Z, V, Y, Tryd.el25, Tryd.td25, Tryd.td3, Tryd.td4, Mpr.av]; (repeat refine And.intro (by first | omega | assumption | exact rfl) ?_); (first | refine aa _ ?_ | refine Or.inl (aa _ ?_)); clear aa K0; simp only [put, app, af, aj, zE, zS, E])
 (refine ag rfl fun K0 aa => ?_; simp only [zE, op1, ev, lkp, am, ak, ev, reduceCtorEq, J, E, U, Z, V, Y, Tryd.td4, Mpr.av]; refine aa _ ?_; clear aa K0; simp only [put, app, af, aj, zE, zS, E])
 refine' bn (want := false) 3 rfl (m := 10) (by simp only [ad, lkp, zE, reduceCtorEq, J, ae, E]; exact rfl) (by kernel_rfl) rfl rfl rfl rfl rfl (fun hg4 => ?a4) ?b4 ?c4
 case a4 =>
  have hq4 := hg4; (try simp only [zB, reduceCtorEq] at hg4); simp only [List.take_succ_cons, List.take_zero, List.cons_append, List.nil_append]
  (refine aG rfl fun K0 aa => ?_; simp only [zE, op1, ev, lkp, am, ak, ev, reduceCtorEq, J, E, U, Z, V, Y, Tryd.el25, Tryd.td25, Mpr.av]; refine aa _ ?_; clear aa K0; simp only [put, app, af, aj, zE, zS, E])
  (refine aG rfl fun K0 aa => ?_; simp only [zE, op1, ev, lkp, am, ak, aP, bT, bC, bu, bv, bP, Nat.div_one, aV, bz, Ty.size, aM, dite_true, reduceCtorEq, J, E, U, Z, V, Y, Tryd.el25, Tryd.td25, Tryd.td3, Mpr.av]; (repeat refine And.intro (by first | omega | assumption | exact rfl) ?_); (first | refine aa _ ?_ | refine Or.inl (aa _ ?_)); clear aa K0; simp only [put, app, af, aj, zE, zS, E])
  (refine aG rfl fun K0 aa => ?_; simp only [zE, op1, ev, lkp, am, ak, aJ, aK, aI, ay, aH, aX, reduceCtorEq, J, E, U, Z, V, Y, Tryd.td3, Tryd.td4, Mpr.av]; (repeat refine And.intro (by first | omega | assumption | exact rfl) ?_); refine aa _ ?_; clear aa K0; simp only [put, app, af, aj, zE, zS, E])
  (refine ag rfl fun K0 aa => ?_; simp only [zE, op1, ev, lkp, am, ak, bU, reduceCtorEq, J, E, U, Z, V, Y, Tryd.td4, Mpr.av]; refine aa _ ?_; clear aa K0; simp only [put, app, af, aj, zE, zS, E])
  refine aq ?_
  refine ⟨by simp only [ad, lkp, zE, reduceCtorEq, J, ae, E]; exact rfl, rfl, ?_, rfl⟩; (repeat refine bo rfl ?_); exact bY (by exact rfl) hq4
 case b4 => exact bV (by first | rfl | (simp [cD]; done) | decide)
 simp only [bM, bB]
 refine aq ?_
 refine hK3 _ ?_; clear hK3; refine ai [0, 2, 3, 14] ?_; simp only [ad, lkp, zE, reduceCtorEq, J, ae, E]
 refine aL (by simp only [ev, ad, lkp, zE, reduceCtorEq, J, ae, E]; exact rfl) (fun hc5 => ?_) (fun hc5 => ?_)
 ·(try simp only [zB, reduceCtorEq] at hc5)
  refine ah fun K6 hK6 => ?_
  refine ao hP hN rfl ?_
  iterate 3 (refine ag rfl fun K0 aa => ?_; simp only [zE, op1, ev, lkp, am, ak, cF, bl, aR, ax, bJ, Nat.mul_one, aM, acs, Ty.size, Ty.dflt, zG, reduceCtorEq, J, E, U, Z, V, Y, Tryd.st32, Tryd.td28, Tryd.td32, Mpr.av]; (repeat refine And.intro (by first | omega | assumption | exact rfl) ?_); (first | refine aa _ ?_ | refine Or.inl (aa _ ?_)); clear aa K0; simp only [put, app, af, aj, zE, zS, E])
  refine aq ?_
  refine hK6 _ ?_; clear hK6; refine ai [0, 2, 3, 14] ?_; simp only [ad, lkp, zE, reduceCtorEq, J, ae, E]
  refine aU ?_
  refine ⟨by first | exact .inl rfl | exact .inr rfl, _, rfl, ?_⟩; simp only [fzV, fz1, fzC, List.map_cons, List.map_nil, ad, lkp, zE, reduceCtorEq, J, ae, E, Mpr.av]
  first
  | (have e1 : df cl = 2 := eX (by omega)
     have e2 : dG cl = m5 := if_neg (by omega)
     rw [e1, e2]; exact br ⟨bq ⟨.refl _, .refl _, .refl _, aQ rfl, aQ rfl, trivial⟩, aB (.refl _), trivial⟩)
  | (have e1 : df cl = 1 := fD (by omega) (k := k) (by omega) hb9
     have e2 : dG cl = m5 := if_neg (by omega)
     rw [e1, e2]; exact br ⟨bq ⟨.refl _, .refl _, .refl _, aQ rfl, aQ rfl, trivial⟩, aB (.refl _), trivial⟩)
  | (have e1 : df cl = 0 := gn (by omega) fun q hq2 => hq q (by omega)
     have e2 : dG cl = ⟨cl.length, fV cl, 0, [List.replicate cl.length 0], [cl]⟩ := if_pos e1
     have e3 : fV cl = cN cl cl.length := if_pos e1
     rw [e1, e2, e3, show k = cl.length by omega]; exact VLE.of_eq rfl)
 ·(try simp only [zB, reduceCtorEq] at hc5)
  refine aT ?_
  refine hK2 _ ?_; clear hK2; refine ai [0, 2, 3, 14] ?_; simp only [ad, lkp, zE, reduceCtorEq, J, ae, E]
  refine ah fun K7 hK7 => ?_
  refine ao hP hN rfl ?_
  (refine ag rfl fun K0 aa => ?_; simp only [zE, op1, ev, lkp, am, ak, ev, reduceCtorEq, J, E, U, Z, V, Y, Tryd.td3, Mpr.av]; refine aa _ ?_; clear aa K0; simp only [put, app, af, aj, zE, zS, E])
  refine aq ?_
  refine hK7 _ ?_; clear hK7; refine ai [0, 2, 3, 4, 14] ?_; simp only [ad, lkp, zE, reduceCtorEq, J, ae, E]
  refine ah fun K8 hK8 => ?_
  refine ah fun K9 hK9 => ?_
  refine ao hP hN rfl ?_
  iterate 3 (refine ag rfl fun K0 aa => ?_; simp only [zE, op1, ev, lkp, am, ak, aP, bT, bC, bu, bv, bP, Nat.div_one, aV, bz, Ty.size, aM, dite_true, reduceCtorEq, J, E, U, Z, V, Y, Tryd.el25, Tryd.td25, Tryd.td3, Mpr.av]; (repeat refine And.intro (by first | omega | assumption | exact rfl) ?_); (first | refine aa _ ?_ | refine Or.inl (aa _ ?_)); clear aa K0; simp only [put, app, af, aj, zE, zS, E])
  refine aq ?_
  refine hK9 _ ?_; clear hK9; refine ai [0, 2, 3, 4, 14, 16, 17, 18] ?_; simp only [ad, lkp, zE, reduceCtorEq, J, ae, E]
  refine b8 ?_
  refine cj (fun n10 s10 => ∃ (k : Nat), (k ≤ cl.length) ∧ (∀ q, q < k → dz cl q = false) ∧ n10 = cl.length - k ∧ s10 = { env := [(0, .one (.list (.int .i64) cl)), (2, .one (.ptr 0 0 0 0)), (3, .one (.int .i64 0)), (4, .one (.int .i64 (cN cl k))), (16, .one (.list (.int .i64) cl)), (17, .one (.int .i64 (cl.length : Int))), (18, .one (.int .i64 (k : Int)))], L := [.vars 32 [.int .i64 0, .int .i64 0, .int .i64 0, .nils, .nils]] }) ?_ ?_
  ·exact ⟨_, _, aY [0, 2, 3, 4, 16, 17, 18], 0, Nat.zero_le _, fun q hq => by omega, rfl, rfl⟩
  ·rintro n10 s10 ⟨k, hk, hq, rfl, rfl⟩
   refine ah fun K11 hK11 => ?_
   refine ao hP hN rfl ?_
   (refine ag rfl fun K0 aa => ?_; simp only [zE, op1, ev, lkp, am, ak, aJ, aK, aI, ay, aH, aX, reduceCtorEq, J, E, U, Z, V, Y, Tryd.td3, Mpr.av]; (repeat refine And.intro (by first | omega | assumption | exact rfl) ?_); refine aa _ ?_; clear aa K0; simp only [put, app, af, aj, zE, zS, E])
   refine aq ?_
   refine hK11 _ ?_; clear hK11; refine ai [0, 2, 3, 4, 16, 17, 18, 19] ?_; simp only [ad, lkp, zE, reduceCtorEq, J, ae, E]
   refine ah fun K12 hK12 => ?_
   refine aL (by simp only [ev, ad, lkp, zE, reduceCtorEq, J, ae, E]; exact rfl) (fun hc13 => ?_) (fun hc13 => ?_)
   ·(try simp only [zB, reduceCtorEq] at hc13)
    refine aT ?_
    refine hK12 _ ?_; clear hK12; refine ai [0, 2, 3, 4, 16, 17, 18, 19] ?_; simp only [ad, lkp, zE, reduceCtorEq, J, ae, E]
    refine ah fun K14 hK14 => ?_
    refine b8 ?_
    refine ah fun K15 hK15 => ?_
    refine ao hP hN rfl ?_
    iterate 3 (refine ag rfl fun K0 aa => ?_; simp only [zE, op1, ev, lkp, am, ak, aS, zG, Ty.dflt, Ty.size, Nat.mul_one, ne_eq, not_false_eq_true, Int.natCast_one, Int.mul_one, aE, aC, aD, acs, az, reduceCtorEq, J, E, U, Z, V, Y, Tryd.el25, Tryd.td25, Tryd.td3, Mpr.av]; (repeat refine And.intro (by first | omega | assumption | exact rfl) ?_); refine aa _ ?_; clear aa K0; simp only [put, app, af, aj, zE, zS, E])
    refine aq ?_
    refine hK15 _ ?_; clear hK15; refine ai [0, 2, 3, 4, 6, 16, 17, 18, 19] ?_; simp only [ad, lkp, zE, reduceCtorEq, J, ae, E]
    refine ah fun K16 hK16 => ?_
    refine ah fun K17 hK17 => ?_
    refine ao hP hN rfl ?_
    iterate 2 (refine ag rfl fun K0 aa => ?_; simp only [zE, op1, ev, lkp, am, ak, aJ, aK, aI, ay, aH, aX, reduceCtorEq, J, E, U, Z, V, Y, Tryd.td3, Tryd.td4, Mpr.av]; (repeat refine And.intro (by first | omega | assumption | exact rfl) ?_); refine aa _ ?_; clear aa K0; simp only [put, app, af, aj, zE, zS, E])
    (refine ag rfl fun K0 aa => ?_; simp only [zE, op1, ev, lkp, am, ak, ev, reduceCtorEq, J, E, U, Z, V, Y, Tryd.td4, Mpr.av]; refine aa _ ?_; clear aa K0; simp only [put, app, af, aj, zE, zS, E])
    refine' bn (want := false) 3 rfl (m := 24) (by simp only [ad, lkp, zE, reduceCtorEq, J, ae, E]; exact rfl) (by kernel_rfl) rfl rfl rfl rfl rfl (fun hg18 => ?a18) ?b18 ?c18
    case a18 =>
     have hq18 := hg18; (try simp only [zB, reduceCtorEq] at hg18); simp only [List.take_succ_cons, List.take_zero, List.cons_append, List.nil_append]
     (refine aG rfl fun K0 aa => ?_; simp only [zE, op1, ev, lkp, am, ak, ev, reduceCtorEq, J, E, U, Z, V, Y, Tryd.td3, Mpr.av]; refine aa _ ?_; clear aa K0; simp only [put, app, af, aj, zE, zS, E])
     (refine aG rfl fun K0 aa => ?_; simp only [zE, op1, ev, lkp, am, ak, ev, reduceCtorEq, J, E, U, Z, V, Y, Tryd.td3, Mpr.av]; refine aa _ ?_; clear aa K0; simp only [put, app, af, aj, zE, zS, E])
     (refine aG rfl fun K0 aa => ?_; simp only [zE, op1, ev, lkp, am, ak, aJ, aK, aI, ay, aH, aX, reduceCtorEq, J, E, U, Z, V, Y, Tryd.td3, Tryd.td4, Mpr.av]; (repeat refine And.intro (by first | omega | assumption | exact rfl) ?_); refine aa _ ?_; clear aa K0; simp only [put, app, af, aj, zE, zS, E])
     (refine ag rfl fun K0 aa => ?_; simp only [zE, op1, ev, lkp, am, ak, bU, reduceCtorEq, J, E, U, Z, V, Y, Tryd.td4, Mpr.av]; refine aa _ ?_; clear aa K0; simp only [put, app, af, aj, zE, zS, E])
     refine aq ?_
     refine ⟨by simp only [ad, lkp, zE, reduceCtorEq, J, ae, E]; exact rfl, rfl, ?_, rfl⟩; (repeat refine bo rfl ?_); exact bY (by exact rfl) hq18
    case b18 => exact bV (by first | rfl | (simp [cD]; done) | decide)
    simp only [bM, bB]
    refine aq ?_
    refine hK17 _ ?_; clear hK17; refine ai [0, 2, 3, 4, 6, 16, 17, 18, 19, 28] ?_; simp only [ad, lkp, zE, reduceCtorEq, J, ae, E]
    refine aL (by simp only [ev, ad, lkp, zE, reduceCtorEq, J, ae, E]; exact rfl) (fun hc19 => ?_) (fun hc19 => ?_)
    ·(try simp only [zB, reduceCtorEq] at hc19)
     have hb9 : dz cl k = true := iU (by omega)
     refine ah fun K20 hK20 => ?_
     refine ao hP hN rfl ?_
     iterate 3 (refine ag rfl fun K0 aa => ?_; simp only [zE, op1, ev, lkp, am, ak, cF, bl, aR, ax, bJ, Nat.mul_one, aM, acs, Ty.size, Ty.dflt, zG, reduceCtorEq, J, E, U, Z, V, Y, Tryd.st32, Tryd.td28, Tryd.td32, Mpr.av]; (repeat refine And.intro (by first | omega | assumption | exact rfl) ?_); (first | refine aa _ ?_ | refine Or.inl (aa _ ?_)); clear aa K0; simp only [put, app, af, aj, zE, zS, E])
     refine aq ?_
     refine hK20 _ ?_; clear hK20; refine ai [0, 2, 3, 4, 6, 16, 17, 18, 19, 28] ?_; simp only [ad, lkp, zE, reduceCtorEq, J, ae, E]
     refine aU ?_
     refine ⟨by first | exact .inl rfl | exact .inr rfl, _, rfl, ?_⟩; simp only [fzV, fz1, fzC, List.map_cons, List.map_nil, ad, lkp, zE, reduceCtorEq, J, ae, E, Mpr.av]
     first
     | (have e1 : df cl = 2 := eX (by omega)
        have e2 : dG cl = m5 := if_neg (by omega)
        rw [e1, e2]; exact br ⟨bq ⟨.refl _, .refl _, .refl _, aQ rfl, aQ rfl, trivial⟩, aB (.refl _), trivial⟩)
     | (have e1 : df cl = 1 := fD (by omega) (k := k) (by omega) hb9
        have e2 : dG cl = m5 := if_neg (by omega)
        rw [e1, e2]; exact br ⟨bq ⟨.refl _, .refl _, .refl _, aQ rfl, aQ rfl, trivial⟩, aB (.refl _), trivial⟩)
     | (have e1 : df cl = 0 := gn (by omega) fun q hq2 => hq q (by omega)
        have e2 : dG cl = ⟨cl.length, fV cl, 0, [List.replicate cl.length 0], [cl]⟩ := if_pos e1
        have e3 : fV cl = cN cl cl.length := if_pos e1
        rw [e1, e2, e3, show k = cl.length by omega]; exact VLE.of_eq rfl)
    ·(try simp only [zB, reduceCtorEq] at hc19)
     have hb9 : dz cl k = false := iz (by omega) (by omega)
     refine aT ?_
     refine hK16 _ ?_; clear hK16; refine ai [0, 2, 3, 4, 6, 16, 17, 18, 19, 28] ?_; simp only [ad, lkp, zE, reduceCtorEq, J, ae, E]
     have hcn := pj hq
     refine ao hP hN rfl ?_
     iterate 5 (refine ag rfl fun K0 aa => ?_; simp only [zE, op1, ev, lkp, am, ak, aJ, aK, aI, ay, aH, aX, aP, bT, bC, bu, bv, bP, Nat.div_one, aV, bz, Ty.size, aM, dite_true, reduceCtorEq, J, E, U, Z, V, Y, Tryd.td3, Mpr.av]; (repeat refine And.intro (by first | omega | assumption | exact rfl) ?_); (first | refine aa _ ?_ | refine Or.inl (aa _ ?_)); clear aa K0; simp only [put, app, af, aj, zE, zS, E])
     refine aq ?_
     refine hK14 _ ?_; clear hK14; refine ai [0, 2, 3, 4, 6, 16, 17, 18, 19, 28] ?_; simp only [ad, lkp, zE, reduceCtorEq, J, ae, E]
     refine ao hP hN rfl ?_
     iterate 2 (refine ag rfl fun K0 aa => ?_; simp only [zE, op1, ev, lkp, am, ak, aJ, aK, aI, ay, aH, aX, reduceCtorEq, J, E, U, Z, V, Y, Tryd.td3, Mpr.av]; (repeat refine And.intro (by first | omega | assumption | exact rfl) ?_); refine aa _ ?_; clear aa K0; simp only [put, app, af, aj, zE, zS, E])
     refine aq ?_
     refine ⟨_, _, ?_, aY [0, 2, 3, 4, 16, 17, 18], k + 1, by omega, fun q hq2 => ?_, rfl, rfl⟩
     · omega
     · by_cases e : q = k
       · rw [e]; exact hb9
       · exact hq q (by omega)
   ·(try simp only [zB, reduceCtorEq] at hc13)
    refine cm ?_
    refine hK8 _ ?_; clear hK8; refine ai [0, 2, 3, 4, 16, 17, 18, 19] ?_; simp only [ad, lkp, zE, reduceCtorEq, J, ae, E]
    refine ah fun K21 hK21 => ?_
    refine cB hP hN Tryd.mixed rfl ?_
    iterate 5 (refine ag rfl fun K0 aa => ?_; simp only [zE, op1, ev, lkp, am, ak, aP, bT, bC, bu, bv, bP, Nat.div_one, aV, bz, Ty.size, aM, dite_true, reduceCtorEq, J, E, U, Z, V, Y, Tryd.el25, Tryd.td25, Tryd.td3, Mpr.av]; (repeat refine And.intro (by first | omega | assumption | exact rfl) ?_); (first | refine aa _ ?_ | refine Or.inl (aa _ ?_)); clear aa K0; simp only [put, app, af, aj, zE, zS, E])
    (refine ag rfl fun K0 aa => ?_; simp only [zE, op1, ev, lkp, am, ak, dr, aM, Ty.size, Ty.dflt, reduceCtorEq, J, E, U, Z, V, Y, Tryd.el25, Tryd.td25, Mpr.av]; (repeat refine And.intro (by first | omega | assumption | exact rfl) ?_); refine Or.inr (Or.inr (aa _ ?_)); clear aa K0; simp only [put, app, af, aj, zE, zS, E])
    iterate 2 (refine ag rfl fun K0 aa => ?_; simp only [zE, op1, ev, lkp, am, ak, b0, bl, c8, rep, aM, aR, ax, Ty.size, reduceCtorEq, J, E, U, Z, V, Y, Tryd.el22, Tryd.el25, Tryd.td1, Tryd.td22, Tryd.td25, Mpr.av]; (repeat refine And.intro (by first | omega | assumption | exact rfl) ?_); (first | refine aa _ ?_ | refine Or.inl (aa _ ?_)); clear aa K0; simp only [put, app, af, aj, zE, zS, E])
    refine ag rfl fun K0 aa => ?_
    refine aW (h := aF (n9 cl (by omega))) rfl rfl (by first | exact rfl | (simp only [ev, ad, lkp, zE, reduceCtorEq, J, ae, E]; exact rfl)) (by simp only [zE, zG, op1, ev, lkp, am, ak, ax, acs, bf, mv1, mvC, Ty.dflt, reduceCtorEq, J, E, U, Z, V, Y, Mpr.av]) ?_
    refine aa _ ?_; clear aa K0; simp only [put, app, af, aj, zE, zS, E]
    iterate 4 (refine ag rfl fun K0 aa => ?_; simp only [zE, op1, ev, lkp, am, ak, b0, bl, c8, rep, aM, aR, ax, Ty.size, cF, bJ, Nat.mul_one, acs, Ty.dflt, zG, reduceCtorEq, J, E, U, Z, V, Y, Tryd.el22, Tryd.st32, Tryd.td1, Tryd.td22, Tryd.td28, Tryd.td32, Mpr.av]; (repeat refine And.intro (by first | omega | assumption | exact rfl) ?_); (first | refine aa _ ?_ | refine Or.inl (aa _ ?_)); clear aa K0; simp only [put, app, af, aj, zE, zS, E])
    refine aq ?_
    refine ⟨by kernel_rfl, ?_⟩
    refine hK21 _ ?_; clear hK21; refine ai [0, 2, 3, 4, 16, 17, 18, 19] ?_; simp only [ad, lkp, zE, reduceCtorEq, J, ae, E]
    refine aU ?_
    refine ⟨by first | exact .inl rfl | exact .inr rfl, _, rfl, ?_⟩; simp only [fzV, fz1, fzC, List.map_cons, List.map_nil, ad, lkp, zE, reduceCtorEq, J, ae, E, Mpr.av]
    first
    | (have e1 : df cl = 2 := eX (by omega)
       have e2 : dG cl = m5 := if_neg (by omega)
       rw [e1, e2]; exact br ⟨bq ⟨.refl _, .refl _, .refl _, aQ rfl, aQ rfl, trivial⟩, aB (.refl _), trivial⟩)
    | (have e1 : df cl = 1 := fD (by omega) (k := k) (by omega) hb9
       have e2 : dG cl = m5 := if_neg (by omega)
       rw [e1, e2]; exact br ⟨bq ⟨.refl _, .refl _, .refl _, aQ rfl, aQ rfl, trivial⟩, aB (.refl _), trivial⟩)
    | (have e1 : df cl = 0 := gn (by omega) fun q hq2 => hq q (by omega)
       have e2 : dG cl = ⟨cl.length, fV cl, 0, [List.replicate cl.length 0], [cl]⟩ := if_pos e1
       have e3 : fV cl = cN cl cl.length := if_pos e1
       rw [e1, e2, e3, show k = cl.length by omega]; exact VLE.of_eq rfl)
end Go.Proofs.YtceafldjjedhcaaDoor
namespace Go.AV
open Nat renaming reduceEqDiff → J, reduceAdd → E, reduceLeDiff → U, reduceLT → Z, reduceMul → V, reduceSub → Y
open List renaming set_cons_zero → aw, set_cons_succ → au
/-plain-/
/-! The greatest output. -/
def gr (m : Mly) : Int := m.ot.flatten.foldl max 0
/-! The systems. -/
def IP (a b : Mly) (p : PP) : Prop := (0 ≤ p.1 ∧ p.1 < a.nx.length) ∧ 0 ≤ p.2 ∧ p.2 < b.nx.length
def IS (m : Mly) (p : PP) : Prop := (0 ≤ p.1 ∧ p.1 < m.nx.length) ∧ p.2 = 0
theorem IP.st {a b : Mly} (ha : MOK a) (hb : MOK b) : IP a b (a.st, b.st) := ⟨⟨ha.s1, ha.s2⟩, hb.s1, hb.s2⟩
theorem IS.st {m : Mly} (hm : MOK m) : IS m (m.st, 0) := ⟨⟨hm.s1, hm.s2⟩, rfl⟩
/-! What the functions return. -/
/-! Restrict and Map: the trimmed machine. -/
/-! The machine of pairs (s, 0) is the trimmed machine. -/
structure SNG (X : Mly) (F : SYS) : Prop where
  st : ∀ s x : Nat, s < X.nx.length → (x : Int) < X.inp → F ((s : Int), 0) x = ((X.nxt s x, 0), X.out s x)
theorem SNG.at_ {X : Mly} {F : SYS} (h : SNG X F) {q : PP} (hq : IS X q) {x : Nat} (hx : (x : Int) < X.inp) : F q x = ((X.nxt q.1 x, 0), X.out q.1 x) := by
  obtain ⟨q1, q2⟩ := q
  obtain ⟨h1, h2⟩ := hq
  simp only at h1 h2
  subst h2
  have := h.st q1.toNat x (by omega) hx
  rw [Int.toNat_of_nonneg h1.1] at this
  exact this
end Go.AV
namespace Go.AV
open Nat renaming reduceEqDiff → J, reduceAdd → E, reduceLeDiff → U, reduceLT → Z, reduceMul → V, reduceSub → Y
open List renaming set_cons_zero → aw, set_cons_succ → au
/-plain-/
abbrev Bs := List UInt8
def okI (c : Int) : Prop := (97 ≤ c ∧ c ≤ 122) ∨ (65 ≤ c ∧ c ≤ 90) ∨ (48 ≤ c ∧ c ≤ 57) ∨ c = 95 ∨ c = 45 ∨ c = 46
instance (c : Int) : Decidable (okI c) := by unfold okI; exact inferInstance
def x5 (s : Bs) : Bool := s.all (fun b => decide (okI (b.toNat : Int))) && decide (1 ≤ s.length) && decide (s.length ≤ 32)
/-! Alphabets. -/
structure AOK (xs : List Bs) : Prop where
  n0 : 1 ≤ xs.length
  n1 : xs.length ≤ 64
  nm : ∀ k, k < xs.length → x5 (xs.getD k []) = true
  nw : ∀ k, k < xs.length → xs.getD k [] ∉ xs.take k
theorem m0 {xs : List Bs} {k : Nat} (h : k < xs.length) : xs.getD k [] ∈ xs := by simp [List.getD, h]
theorem xj {xs : List Bs} {x : Bs} : x ∈ xs ↔ ∃ j, j < xs.length ∧ xs.getD j [] = x := by
  constructor
  · intro h
    obtain ⟨j, hj⟩ := List.getElem?_of_mem h
    exact ⟨j, (List.getElem?_eq_some_iff.1 hj).1, by simp [List.getD, hj]⟩
  · rintro ⟨j, hj, e⟩; rw [← e]; exact m0 hj
theorem sw {xs : List Bs} {i k : Nat} (hi : i < k) : (xs.take k).getD i [] = xs.getD i [] := by simp [List.getD, List.getElem?_take, hi]
theorem qK {q : Bs} : ∀ {l : List Bs} {k : Nat}, k < pos l q → l.getD k [] ≠ q
  | [], k, h => by simp [pos] at h
  | y :: l, k, h => by
    simp only [pos] at h
    split at h
    · omega
    · rename_i e
      cases k with
      | zero => simpa [List.getD] using e
      | succ k =>
        have := qK (q := q) (l := l) (k := k) (by omega)
        simpa [List.getD] using this
theorem vM {l : List Bs} {q : Bs} (h : q ∈ l) : l.getD (pos l q) [] = q := by rw [List.getD, jX h]; rfl
theorem xo {l : List Bs} {q : Bs} {k : Nat} (hq : ∀ j, j < k → l.getD j [] ≠ q) (hk : k < l.length) (h : l.getD k [] = q) : pos l q = k ∧ q ∈ l := by
  have hm : q ∈ l := by rw [← h]; exact m0 hk
  refine ⟨?_, hm⟩
  rcases Nat.lt_trichotomy k (pos l q) with h2 | h2 | h2
  · exact absurd h (qK h2)
  · exact h2.symm
  · exact absurd (vM hm) (hq _ h2)
theorem AOK.pos {xs : List Bs} (h : AOK xs) {k : Nat} (hk : k < xs.length) : pos xs (xs.getD k []) = k :=
  (xo (fun j hj e => h.nw k hk (by rw [xj]; exact ⟨j, by rw [List.length_take]; omega, by rw [sw hj, e]⟩)) hk rfl).1
/-! Cutting at spaces. -/
/-! .. as a fold. -/
/-! Words and texts. -/
/-! The laws without the reference. -/
/-! Numbered alphabets. -/
end Go.AV
namespace Go.AV
open Nat renaming reduceEqDiff → J, reduceAdd → E, reduceLeDiff → U, reduceLT → Z, reduceMul → V, reduceSub → Y
open List renaming set_cons_zero → aw, set_cons_succ → au
/-plain-/
end Go.AV
namespace Go.AV
open Nat renaming reduceEqDiff → J, reduceAdd → E, reduceLeDiff → U, reduceLT → Z, reduceMul → V, reduceSub → Y
open List renaming set_cons_zero → aw, set_cons_succ → au
/-plain-/
def wL (a b : Dfa) : Int := if dE a = 0 then (if dE b = 0 then (if a.inp = b.inp then 0 else 15) else dE b) else dE a
end Go.AV
namespace Go.AV
open Nat renaming reduceEqDiff → J, reduceAdd → E, reduceLeDiff → U, reduceLT → Z, reduceMul → V, reduceSub → Y
open List renaming set_cons_zero → aw, set_cons_succ → au
/-plain-/
def xf (d : Dfa) : STP := fun q x => (d.dl q.1 x, 0)
def xk (a b : Dfa) : STP := fun q x => (a.dl q.1 x, b.dl q.2 x)
def wT (d : Dfa) (q : PP) : Bool := d.ac q.1
def xy (a b : Dfa) (q : PP) : Bool := a.ac q.1 != b.ac q.2
end Go.AV
namespace Go.AV
open Nat renaming reduceEqDiff → J, reduceAdd → E, reduceLeDiff → U, reduceLT → Z, reduceMul → V, reduceSub → Y
open List renaming set_cons_zero → aw, set_cons_succ → au
/-plain-/
/-! Counting. -/
def MX1 : Int := 4611686018427387905
def bI1 (b : Bool) : Int := if b = true then 1 else 0
def xl (c row : List Int) (k : Nat) : Int := (row.take k).foldl (fun x t => min (x + c.getD t.toNat 0) MX1) 0
def xu (d : Dfa) (c : List Int) (s : Nat) : Int := xl c (d.nx.getD s []) (d.nx.getD s []).length
def wR (d : Dfa) (s : Nat) : Int := bI1 (d.acc.getD s false)
def sX (d : Dfa) : Nat → List Int
  | 0 => (List.range d.nx.length).map (wR d)
  | n + 1 => (List.range d.nx.length).map (xu d (sX d n))
def cuE (d : Dfa) (n : Int) : Int := if ¬ dE d = 0 then dE d else if n < 0 ∨ 1024 < n then 2 else if 4611686018427387904 < (sX d n.toNat).getD d.st.toNat 0 then 17 else 0
def cuV (d : Dfa) (n : Int) : Int := if cuE d n = 0 then (sX d n.toNat).getD d.st.toNat 0 else 0
end Go.AV
namespace Go.AV
open Nat renaming reduceEqDiff → J, reduceAdd → E, reduceLeDiff → U, reduceLT → Z, reduceMul → V, reduceSub → Y
open List renaming set_cons_zero → aw, set_cons_succ → au
/-plain-/
/-! Classes of states of an automaton. -/
def Dfa.sg (d : Dfa) (cl : List Int) (s : Nat) : List Int := cl.getD s 0 :: (d.nx.getD s []).map fun t => cl.getD t.toNat 0
def Dfa.nxL (d : Dfa) (cl : List Int) : List Int := (List.range d.nx.length).map fun s => (pos (cY (d.sg cl) d.nx.length) (d.sg cl s) : Int)
def Dfa.cl (d : Dfa) : Nat → List Int
  | 0 => (List.range d.nx.length).map (wR d)
  | i + 1 => d.nxL (d.cl i)
def Dfa.cn (d : Dfa) : Nat → Nat
  | 0 => 0
  | i + 1 => (cY (d.sg (d.cl i)) d.nx.length).length
/-! How many there are. -/
def ic (n : Int) (w : List Int) : Prop := ∀ x, x ∈ w → 0 ≤ x ∧ x < n
theorem gL {n x : Int} {w : List Int} : ic n (x :: w) ↔ (0 ≤ x ∧ x < n) ∧ ic n w := by unfold ic; simp
theorem vi {n : Int} {w : List Int} (h : ∀ i : Nat, i < w.length → 0 ≤ w.getD i 0 ∧ w.getD i 0 < n) : ic n w := fun x hx => by
  obtain ⟨i, hi, e⟩ := ky.1 hx
  rw [← e]; exact h i hi
theorem qf {n : Int} {w : List Int} (h : ic n w) : ∀ i : Nat, i < w.length → 0 ≤ w.getD i 0 ∧ w.getD i 0 < n := fun i hi => h _ (ky.2 ⟨i, hi, rfl⟩)
/-- Two states accept the same words. -/
def DEQ (a b : Dfa) (s t : Int) : Prop := ∀ w : List Int, ic a.inp w → a.ac (a.run s w) = b.ac (b.run t w)
theorem DEQ.step {a b : Dfa} {s t x : Int} (h : DEQ a b s t) (hx : 0 ≤ x ∧ x < a.inp) : DEQ a b (a.dl s x) (b.dl t x) := fun w hw => h (x :: w) (gL.2 ⟨hx, hw⟩)
theorem DEQ.acc {a b : Dfa} {s t : Int} (h : DEQ a b s t) : a.ac s = b.ac t := h [] (fun x hx => by cases hx)
theorem DEQ.symm {d : Dfa} {s t : Int} (h : DEQ d d s t) : DEQ d d t s := fun w hw => (h w hw).symm
theorem DEQ.trans {d : Dfa} {s t u : Int} (h : DEQ d d s t) (h2 : DEQ d d t u) : DEQ d d s u := fun w hw => (h w hw).trans (h2 w hw)
end Go.AV
namespace Go.AV
open Nat renaming reduceEqDiff → J, reduceAdd → E, reduceLeDiff → U, reduceLT → Z, reduceMul → V, reduceSub → Y
open List renaming set_cons_zero → aw, set_cons_succ → au
/-plain-/
def wN (d : Dfa) : List W3 := uK (xf d) d.inp.toNat (d.nx.length * 1) (d.st, 0)
def xe (a b : Dfa) : List W3 := uK (xk a b) a.inp.toNat (a.nx.length * b.nx.length) (a.st, b.st)
def laW (g : PP → Bool) (L : List W3) : List Int := if dB g L = true then ((dQ g L).getD ((dQ g L).length - 1) w30).2 else []
def ta (d : Dfa) : List Int := if dE d = 0 then laW (wT d) (wN d) else []
def ur (d : Dfa) : Bool := if dE d = 0 then dB (wT d) (wN d) else false
def xz (a b : Dfa) : Bool := if wL a b = 0 then dB (xy a b) (xe a b) else false
end Go.AV
namespace Go.AV
open Nat renaming reduceEqDiff → J, reduceAdd → E, reduceLeDiff → U, reduceLT → Z, reduceMul → V, reduceSub → Y
open List renaming set_cons_zero → aw, set_cons_succ → au
/-plain-/
/-! Two searches side by side. -/
structure SIM (A B : STP) (n : Nat) (R : PP → PP → Prop) : Prop where
  st : ∀ p q, R p q → ∀ x, x < n → R (A p x) (B q x)
  bi : ∀ p q p' q', R p q → R p' q' → (p = p' ↔ q = q')
def RL (R : PP → PP → Prop) (l l' : List W3) : Prop := l.length = l'.length ∧ ∀ i, i < l.length → R (l.getD i w30).1 (l'.getD i w30).1 ∧ (l.getD i w30).2 = (l'.getD i w30).2
theorem RL.mem {A B : STP} {n : Nat} {R : PP → PP → Prop} (hs : SIM A B n R) {l l' : List W3} (h : RL R l l') {p q : PP} (hr : R p q) : p ∈ l.map Prod.fst ↔ q ∈ l'.map Prod.fst := by
  constructor
  · intro hm
    obtain ⟨e, he, e1⟩ := List.mem_map.1 hm
    obtain ⟨i, hi⟩ := List.getElem?_of_mem he
    have hlt := (List.getElem?_eq_some_iff.1 hi).1
    have h2 := h.2 i hlt
    have h3 : l.getD i w30 = e := by rw [List.getD, hi]; rfl
    rw [h3, e1] at h2
    have := (hs.bi _ _ _ _ h2.1 hr).1 rfl
    rw [← this]
    exact List.mem_map.2 ⟨_, pg (by rw [← h.1]; exact hlt), rfl⟩
  · intro hm
    obtain ⟨e, he, e1⟩ := List.mem_map.1 hm
    obtain ⟨i, hi⟩ := List.getElem?_of_mem he
    have hlt := (List.getElem?_eq_some_iff.1 hi).1
    have h2 := h.2 i (by rw [h.1]; exact hlt)
    have h3 : l'.getD i w30 = e := by rw [List.getD, hi]; rfl
    rw [h3, e1] at h2
    have := (hs.bi _ _ _ _ h2.1 hr).2 rfl
    rw [← this]
    exact List.mem_map.2 ⟨_, pg (by rw [h.1]; exact hlt), rfl⟩
theorem RL.snoc {R : PP → PP → Prop} {l l' : List W3} (h : RL R l l') {e f : W3} (hr : R e.1 f.1) (hw : e.2 = f.2) : RL R (l ++ [e]) (l' ++ [f]) := by
  refine ⟨by simp [h.1], fun i hi => ?_⟩
  rw [List.length_append, List.length_singleton] at hi
  by_cases e1 : i < l.length
  · rw [db e1, db (by rw [← h.1]; exact e1)]; exact h.2 i e1
  · rw [f0 (by omega), f0 (by have := h.1; omega)]; exact ⟨hr, hw⟩
theorem RL.row {A B : STP} {n : Nat} {R : PP → PP → Prop} (hs : SIM A B n R) {l l' : List W3} (h : RL R l l') {e f : W3} (hr : R e.1 f.1) (hw : e.2 = f.2) : ∀ x, x ≤ n → RL R (gk A e l x) (gk B f l' x)
  | 0, _ => h
  | x + 1, hx => by
    have ih := h.row hs hr hw x (by omega)
    have h2 := hs.st _ _ hr x (by omega)
    rw [gR, gR]
    by_cases hm : A e.1 x ∈ (gk A e l x).map Prod.fst
    · rw [pD hm, pD ((ih.mem hs h2).1 hm)]; exact ih
    · rw [mY hm, mY (fun k => hm ((ih.mem hs h2).2 k))]
      exact ih.snoc h2 (by rw [hw])
theorem RL.one {R : PP → PP → Prop} {p q : PP} (h : R p q) : RL R [(p, [])] [(q, [])] := ⟨rfl, fun i hi => by
  have : i = 0 := by simpa using hi
  subst this; exact ⟨h, rfl⟩⟩
end Go.AV
namespace Go.AV
open Nat renaming reduceEqDiff → J, reduceAdd → E, reduceLeDiff → U, reduceLT → Z, reduceMul → V, reduceSub → Y
open List renaming set_cons_zero → aw, set_cons_succ → au
/-plain-/
end Go.AV
namespace Go.AV
open Nat renaming reduceEqDiff → J, reduceAdd → E, reduceLeDiff → U, reduceLT → Z, reduceMul → V, reduceSub → Y
open List renaming set_cons_zero → aw, set_cons_succ → au
/-plain-/
/-! Words in the order of their lengths and symbols. -/
def SLT (u v : List Int) : Prop := u.length < v.length ∨ (u.length = v.length ∧ ∃ m, m < u.length ∧ (∀ q, q < m → u.getD q 0 = v.getD q 0) ∧ u.getD m 0 < v.getD m 0)
def SLE (u v : List Int) : Prop := u = v ∨ SLT u v
theorem SLT.trans {u v w : List Int} (h : SLT u v) (h2 : SLT v w) : SLT u w := by
  rcases h with h | ⟨h, m, a1, a2, a3⟩
  · rcases h2 with h2 | ⟨h2, _⟩
    · exact .inl (by omega)
    · exact .inl (by omega)
  · rcases h2 with h2 | ⟨h2, k, b1, b2, b3⟩
    · exact .inl (by omega)
    · refine .inr ⟨by omega, ?_⟩
      rcases Nat.lt_trichotomy m k with e | e | e
      · exact ⟨m, a1, fun q hq => (a2 q hq).trans (b2 q (by omega)), by rw [← b2 m e]; exact a3⟩
      · subst e; exact ⟨m, a1, fun q hq => (a2 q hq).trans (b2 q hq), by omega⟩
      · exact ⟨k, by omega, fun q hq => (a2 q (by omega)).trans (b2 q hq), by rw [a2 k e]; exact b3⟩
theorem SLE.trans_lt {u v w : List Int} (h : SLE u v) (h2 : SLT v w) : SLT u w := by
  rcases h with rfl | h
  · exact h2
  · exact h.trans h2
theorem SLE.trans {u v w : List Int} (h : SLE u v) (h2 : SLE v w) : SLE u w := by
  rcases h2 with rfl | h2
  · exact h
  · exact .inr (h.trans_lt h2)
theorem SLT.app {u v : List Int} (h : SLT u v) (a b : Int) : SLT (u ++ [a]) (v ++ [b]) := by
  rcases h with h | ⟨h, m, a1, a2, a3⟩
  · exact .inl (by simp; omega)
  · refine .inr ⟨by simp; omega, m, by simp; omega, fun q hq => ?_, ?_⟩
    · rw [db (by omega), db (by omega)]; exact a2 q hq
    · rw [db a1, db (by omega)]; exact a3
theorem SLE.app {u v : List Int} (h : SLE u v) (a : Int) : SLE (u ++ [a]) (v ++ [a]) := by
  rcases h with rfl | h
  · exact .inl rfl
  · exact .inr (h.app a a)
theorem SLE.len {u v : List Int} (h : SLE u v) : u.length ≤ v.length := by
  rcases h with rfl | h | ⟨h, _⟩ <;> omega
structure BW (A : STP) (n i : Nat) (l : List W3) : Prop where
  so : ∀ j k, j < k → k < l.length → SLT (l.getD j w30).2 (l.getD k w30).2
  mi : ∀ j, j < i → j < l.length → ∀ x, x < n → ∃ k, k < l.length ∧ (l.getD k w30).1 = A (l.getD j w30).1 x ∧ SLE (l.getD k w30).2 ((l.getD j w30).2 ++ [(x : Int)])
  up : i < l.length → ∀ k, k < l.length → SLT (l.getD k w30).2 ((l.getD i w30).2 ++ [0])
structure BX (A : STP) (n i x : Nat) (l0 l : List W3) : Prop where
  so : ∀ j k, j < k → k < l.length → SLT (l.getD j w30).2 (l.getD k w30).2
  mi : ∀ y, y < x → ∃ k, k < l.length ∧ (l.getD k w30).1 = A (l0.getD i w30).1 y ∧ SLE (l.getD k w30).2 ((l0.getD i w30).2 ++ [(y : Int)])
  up : ∀ k, k < l.length → SLT (l.getD k w30).2 ((l0.getD i w30).2 ++ [(x : Int)])
end Go.AV
namespace Go.AV
open Nat renaming reduceEqDiff → J, reduceAdd → E, reduceLeDiff → U, reduceLT → Z, reduceMul → V, reduceSub → Y
open List renaming set_cons_zero → aw, set_cons_succ → au
/-plain-/
/-! The automaton that is built from a search. -/
structure LCL (A : STP) (n : Nat) (L : List W3) : Prop where
  nd : (L.map Prod.fst).Nodup
  cl : ∀ j, j < L.length → ∀ x, x < n → A (L.getD j w30).1 x ∈ L.map Prod.fst
variable {A : STP} {G : PP → Bool} {n : Nat} {L : List W3}
end Go.AV
namespace Go.AV
open Nat renaming reduceEqDiff → J, reduceAdd → E, reduceLeDiff → U, reduceLT → Z, reduceMul → V, reduceSub → Y
open List renaming set_cons_zero → aw, set_cons_succ → au
/-plain-/
/-! The least state of a class. -/
def Dfa.sto (d : Dfa) : Nat → Nat → Nat
  | 0, i => i
  | f + 1, i => if d.cn (i + 1) = d.cn i then i else d.sto f (i + 1)
def Dfa.cls (d : Dfa) : List Int := d.cl (d.sto (d.nx.length + 1) 0 + 1)
/-- The least state from s on of each class. -/
def fsV (cl : List Int) (n s c : Nat) : Int := match (List.range n).find? (fun q => decide (s ≤ q) && decide (cl.getD q 0 = (c : Int))) with | some q => (q : Int) | none => 0
def fsL (cl : List Int) (n s : Nat) : List Int := (List.range n).map fun c => fsV cl n s c
def Dfa.rep (d : Dfa) (s : Int) : Int := (fsL d.cls d.nx.length 0).getD (d.cls.getD s.toNat 0).toNat 0
structure RPR (d : Dfa) (s r : Int) : Prop where
  rg : 0 ≤ r ∧ r < d.nx.length
  le : r ≤ s
  cl : d.cls.getD r.toNat 0 = d.cls.getD s.toNat 0
  mi : ∀ q : Nat, (q : Int) < r → d.cls.getD q 0 ≠ d.cls.getD s.toNat 0
end Go.AV
namespace Go.AV
open Nat renaming reduceEqDiff → J, reduceAdd → E, reduceLeDiff → U, reduceLT → Z, reduceMul → V, reduceSub → Y
open List renaming set_cons_zero → aw, set_cons_succ → au
/-plain-/
/-! On drepTh. -/
structure M1OK (d : Dfa) (q : PP) (x : Nat) : Prop where
  r1 : 0 ≤ q.1 ∧ q.1 < d.nx.length
  rl : ((d.nx.getD q.1.toNat []).length : Int) = d.inp
  t1 : 0 ≤ (d.nx.getD q.1.toNat []).getD x 0 ∧ (d.nx.getD q.1.toNat []).getD x 0 < d.nx.length
  c1 : 0 ≤ d.cls.getD ((d.nx.getD q.1.toNat []).getD x 0).toNat 0 ∧ d.cls.getD ((d.nx.getD q.1.toNat []).getD x 0).toNat 0 < d.nx.length
  e : d.rep (d.dl q.1 x) = (fsL d.cls d.nx.length 0).getD (d.cls.getD ((d.nx.getD q.1.toNat []).getD x 0).toNat 0).toNat 0
end Go.AV
namespace Go.AV
open Nat renaming reduceEqDiff → J, reduceAdd → E, reduceLeDiff → U, reduceLT → Z, reduceMul → V, reduceSub → Y
open List renaming set_cons_zero → aw, set_cons_succ → au
/-plain-/
/-! On drepTh, dsimTh, minqTh. -/
structure SHP (d : Dfa) (P : List W3) (k : Nat) : Prop where
  rg : 0 ≤ (P.getD k w30).1.1 ∧ (P.getD k w30).1.1 < d.nx.length
end Go.AV
namespace Go.AV
open Nat renaming reduceEqDiff → J, reduceAdd → E, reduceLeDiff → U, reduceLT → Z, reduceMul → V, reduceSub → Y
open List renaming set_cons_zero → aw, set_cons_succ → au
/-plain-/
/-! On drcTh, compTh, shapesTh. -/
def wP (m : Mly) : STP := fun q x => (m.nxt q.1 x, m.out q.1 x)
def xc (q : PP) : Bool := decide (q.2 = 1)
def vo (m : Mly) : Bool := m.ot.flatten.any fun o => decide (1 < o)
def wS (m : Mly) (acc : Bool) : List W3 := uK (wP m) m.inp.toNat (m.nx.length * 2) (m.st, bI1 acc)
def fmE (m : Mly) (acc : Bool) : Int := if ¬ bj m = 0 then bj m else if vo m = true then 1 else dBE (wS m acc)
def fmD (m : Mly) (acc : Bool) : Dfa := if ¬ bj m = 0 then t7 else if vo m = true then t7 else dBD (wP m) xc m.inp.toNat (wS m acc)
end Go.AV
namespace Go.AV
open Nat renaming reduceEqDiff → J, reduceAdd → E, reduceLeDiff → U, reduceLT → Z, reduceMul → V, reduceSub → Y
open List renaming set_cons_zero → aw, set_cons_succ → au
/-plain-/
/-! On drepTh. -/
end Go.AV
namespace Go.AV
open Nat renaming reduceEqDiff → J, reduceAdd → E, reduceLeDiff → U, reduceLT → Z, reduceMul → V, reduceSub → Y
open List renaming set_cons_zero → aw, set_cons_succ → au
/-plain-/
/-! On drepTh, sigTh, dfmTh. -/
def lq (P : Nat → Bool) (s : Nat) : Nat := ((List.range s).find? P).getD s
def rc0 (t : Dfa) (s : Nat) : Int := (lq (fun q => decide (t.acc.getD q false = t.acc.getD s false)) s : Int)
def rcF (t : Dfa) (cl : List Int) (s : Nat) : Int := (lq (fun q => decide (t.sg cl q = t.sg cl s)) s : Int)
def rcl (t : Dfa) : Nat → List Int
  | 0 => (List.range t.nx.length).map (rc0 t)
  | r + 1 => (List.range t.nx.length).map (rcF t (rcl t r))
def rC (t : Dfa) : List Int := rcl t t.nx.length
structure RCK (t : Dfa) : Prop where
  rg : ∀ s, s < t.nx.length → 0 ≤ (rC t).getD s 0 ∧ (rC t).getD s 0 ≤ s
  eq : ∀ s u, s < t.nx.length → u < t.nx.length → ((rC t).getD s 0 = (rC t).getD u 0 ↔ DEQ t t s u)
  id : ∀ s, s < t.nx.length → (rC t).getD ((rC t).getD s 0).toNat 0 = (rC t).getD s 0
/-! The states that name a class, and their numbers. -/
end Go.AV
namespace Go.AV
open Nat renaming reduceEqDiff → J, reduceAdd → E, reduceLeDiff → U, reduceLT → Z, reduceMul → V, reduceSub → Y
open List renaming set_cons_zero → aw, set_cons_succ → au
/-plain-/
/-! On drmTh: the reference's Min is the program's. -/
def hM (d : Dfa) (p : PP) : PP := (d.rep p.1, 0)
/-! Two minimal automata. -/
end Go.AV
