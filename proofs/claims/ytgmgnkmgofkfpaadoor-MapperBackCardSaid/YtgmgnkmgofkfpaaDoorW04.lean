/- Contracts of functions of this seat, each out of a walk through its code, and plain facts on what they compute. Conditions: those that each theorem names. -/
import Derived.Test.YtgmgnkmgofkfpaaDoorW03
set_option linter.unusedSimpArgs false
set_option linter.unusedVariables false
namespace Go.Proofs.YtgmgnkmgofkfpaaDoor
open Go Go.AV
open Nat renaming reduceEqDiff → E, reduceAdd → D, reduceLeDiff → J, reduceLT → Y, reduceMul → U, reduceSub → V
open List renaming set_cons_zero → au, set_cons_succ → ar
set_option maxRecDepth 100000 in
theorem oh (w : List Int) (a b : Int) (w2 : List Int) (a2 b2 : Int) : cq Tryd.prog 25 [.agg [.list (.int .i64) w, .int .i64 a, .int .i64 b], .agg [.list (.int .i64) w2, .int .i64 a2, .int .i64 b2]] (.one (.bool ((decide (w = w2) && decide (a = a2)) && decide (b = b2)))) := by
 refine bB Tryd.func25 rfl (by kernel_rfl) (Nat.le_of_ble_eq_true rfl) rfl fun C hP hN hB => ?_
 replace hN : C.N = 24 := hN
 simp only [ad, D]
 refine ag fun K1 hK1 => ?_
 refine ao hP hN rfl ?_
 iterate 3 (refine af rfl fun K0 Z => ?_; simp only [zE, op1, ev, lkp, ak, aj, dc, ax, reduceCtorEq, E, D, J, Y, U, V, Tryd.st50, Tryd.td4, Tryd.td50]; (repeat refine And.intro (by first | omega | assumption | exact rfl) ?_); refine Z _ ?_; clear Z K0; simp only [put, app, ae, ai, zE, zS, D])
 refine am ?_
 refine hK1 _ ?_; clear hK1; refine ah [0, 1, 2, 3, 4] ?_; simp only [aa, lkp, zE, reduceCtorEq, E, ad, D]
 refine ag fun K2 hK2 => ?_
 refine ao hP hN rfl ?_
 iterate 4 (refine af rfl fun K0 Z => ?_; simp only [zE, op1, ev, lkp, ak, aj, az, aI, Nat.mul_one, aB, aG, acs, Ty.dflt, zG, aA, reduceCtorEq, E, D, J, Y, U, V, Tryd.el25, Tryd.st50, Tryd.td25, Tryd.td50]; (repeat refine And.intro (by first | omega | assumption | exact rfl) ?_); refine Z _ ?_; clear Z K0; simp only [put, app, ae, ai, zE, zS, D])
 refine af rfl fun K0 Z => ?_
 refine aZ (h := aP (gV w w2)) rfl rfl (by first | exact rfl | (simp only [ev, aa, lkp, zE, reduceCtorEq, E, ad, D]; exact rfl)) (by simp only [zE, zG, op1, ev, lkp, ak, aj, ax, acs, bp, mv1, mvC, Ty.dflt, reduceCtorEq, E, D, J, Y, U, V]) ?_
 refine Z _ ?_; clear Z K0; simp only [put, app, ae, ai, zE, zS, D]
 (refine af rfl fun K0 Z => ?_; simp only [zE, op1, ev, lkp, ak, aj, ev, reduceCtorEq, E, D, J, Y, U, V, Tryd.td4]; refine Z _ ?_; clear Z K0; simp only [put, app, ae, ai, zE, zS, D])
 refine' aY (want := true) 5 rfl (m := 10) (by simp only [aa, lkp, zE, reduceCtorEq, E, ad, D]; exact rfl) (by kernel_rfl) rfl rfl rfl rfl rfl (fun hg3 => ?a3) ?b3 ?c3
 case a3 =>
  have hq3 := hg3; (try simp only [zB, reduceCtorEq] at hg3); simp only [List.take_succ_cons, List.take_zero, List.cons_append, List.nil_append]
  (refine ay rfl fun K0 Z => ?_; simp only [zE, op1, ev, lkp, ak, aj, az, reduceCtorEq, E, D, J, Y, U, V, Tryd.st50, Tryd.td1, Tryd.td50]; (repeat refine And.intro (by first | omega | assumption | exact rfl) ?_); refine Z _ ?_; clear Z K0; simp only [put, app, ae, ai, zE, zS, D])
  (refine ay rfl fun K0 Z => ?_; simp only [zE, op1, ev, lkp, ak, aj, aI, Nat.mul_one, aB, aG, acs, Ty.dflt, zG, aA, reduceCtorEq, E, D, J, Y, U, V, Tryd.td3]; (repeat refine And.intro (by first | omega | assumption | exact rfl) ?_); refine Z _ ?_; clear Z K0; simp only [put, app, ae, ai, zE, zS, D])
  (refine ay rfl fun K0 Z => ?_; simp only [zE, op1, ev, lkp, ak, aj, az, reduceCtorEq, E, D, J, Y, U, V, Tryd.st50, Tryd.td1, Tryd.td50]; (repeat refine And.intro (by first | omega | assumption | exact rfl) ?_); refine Z _ ?_; clear Z K0; simp only [put, app, ae, ai, zE, zS, D])
  (refine ay rfl fun K0 Z => ?_; simp only [zE, op1, ev, lkp, ak, aj, aI, Nat.mul_one, aB, aG, acs, Ty.dflt, zG, aA, reduceCtorEq, E, D, J, Y, U, V, Tryd.td3]; (repeat refine And.intro (by first | omega | assumption | exact rfl) ?_); refine Z _ ?_; clear Z K0; simp only [put, app, ae, ai, zE, zS, D])
  (refine ay rfl fun K0 Z => ?_; simp only [zE, op1, ev, lkp, ak, aj, aF, aD, aE, aw, aC, aU, reduceCtorEq, E, D, J, Y, U, V, Tryd.td3, Tryd.td4]; (repeat refine And.intro (by first | omega | assumption | exact rfl) ?_); refine Z _ ?_; clear Z K0; simp only [put, app, ae, ai, zE, zS, D])
  (refine af rfl fun K0 Z => ?_; simp only [zE, op1, ev, lkp, ak, aj, bz, reduceCtorEq, E, D, J, Y, U, V, Tryd.td4]; refine Z _ ?_; clear Z K0; simp only [put, app, ae, ai, zE, zS, D])
  refine am ?_
  refine ⟨by simp only [aa, lkp, zE, reduceCtorEq, E, ad, D]; exact rfl, rfl, ?_, rfl⟩; (repeat refine aX rfl ?_); exact bE (by exact rfl) hq3
 case b3 => exact bD (by first | rfl | (simp [c0]; done) | decide)
 simp only [bq, bf]
 (refine af rfl fun K0 Z => ?_; simp only [zE, op1, ev, lkp, ak, aj, ev, reduceCtorEq, E, D, J, Y, U, V, Tryd.td4]; refine Z _ ?_; clear Z K0; simp only [put, app, ae, ai, zE, zS, D])
 refine' aY (want := true) 5 rfl (m := 17) (by simp only [aa, lkp, zE, reduceCtorEq, E, ad, D]; exact rfl) (by kernel_rfl) rfl rfl rfl rfl rfl (fun hg4 => ?a4) ?b4 ?c4
 case a4 =>
  have hq4 := hg4; (try simp only [zB, reduceCtorEq] at hg4); simp only [List.take_succ_cons, List.take_zero, List.cons_append, List.nil_append]
  (refine ay rfl fun K0 Z => ?_; simp only [zE, op1, ev, lkp, ak, aj, az, reduceCtorEq, E, D, J, Y, U, V, Tryd.st50, Tryd.td2, Tryd.td50]; (repeat refine And.intro (by first | omega | assumption | exact rfl) ?_); refine Z _ ?_; clear Z K0; simp only [put, app, ae, ai, zE, zS, D])
  (refine ay rfl fun K0 Z => ?_; simp only [zE, op1, ev, lkp, ak, aj, aI, Nat.mul_one, aB, aG, acs, Ty.dflt, zG, aA, reduceCtorEq, E, D, J, Y, U, V, Tryd.td3]; (repeat refine And.intro (by first | omega | assumption | exact rfl) ?_); refine Z _ ?_; clear Z K0; simp only [put, app, ae, ai, zE, zS, D])
  (refine ay rfl fun K0 Z => ?_; simp only [zE, op1, ev, lkp, ak, aj, az, reduceCtorEq, E, D, J, Y, U, V, Tryd.st50, Tryd.td2, Tryd.td50]; (repeat refine And.intro (by first | omega | assumption | exact rfl) ?_); refine Z _ ?_; clear Z K0; simp only [put, app, ae, ai, zE, zS, D])
  (refine ay rfl fun K0 Z => ?_; simp only [zE, op1, ev, lkp, ak, aj, aI, Nat.mul_one, aB, aG, acs, Ty.dflt, zG, aA, reduceCtorEq, E, D, J, Y, U, V, Tryd.td3]; (repeat refine And.intro (by first | omega | assumption | exact rfl) ?_); refine Z _ ?_; clear Z K0; simp only [put, app, ae, ai, zE, zS, D])
  (refine ay rfl fun K0 Z => ?_; simp only [zE, op1, ev, lkp, ak, aj, aF, aD, aE, aw, aC, aU, reduceCtorEq, E, D, J, Y, U, V, Tryd.td3, Tryd.td4]; (repeat refine And.intro (by first | omega | assumption | exact rfl) ?_); refine Z _ ?_; clear Z K0; simp only [put, app, ae, ai, zE, zS, D])
  (refine af rfl fun K0 Z => ?_; simp only [zE, op1, ev, lkp, ak, aj, bz, reduceCtorEq, E, D, J, Y, U, V, Tryd.td4]; refine Z _ ?_; clear Z K0; simp only [put, app, ae, ai, zE, zS, D])
  refine am ?_
  refine ⟨by simp only [aa, lkp, zE, reduceCtorEq, E, ad, D]; exact rfl, rfl, ?_, rfl⟩; (repeat refine aX rfl ?_); exact bE (by exact rfl) hq4
 case b4 => exact bD (by first | rfl | (simp [c0]; done) | decide)
 simp only [bq, bf]
 (refine af rfl fun K0 Z => ?_; simp only [zE, op1, ev, lkp, ak, aj, ev, reduceCtorEq, E, D, J, Y, U, V, Tryd.td4]; refine Z _ ?_; clear Z K0; simp only [put, app, ae, ai, zE, zS, D])
 refine am ?_
 refine hK2 _ ?_; clear hK2; refine ah [0, 1, 2, 3, 4] ?_; simp only [aa, lkp, zE, reduceCtorEq, E, ad, D]
 refine aM ?_
 refine ⟨by first | exact .inl rfl | exact .inr rfl, _, rfl, ?_⟩; simp only [fzV, fz1, fzC, List.map_cons, List.map_nil, aa, lkp, zE, reduceCtorEq, E, ad, D]
 refine VLE.of_eq ?_
 rfl
end Go.Proofs.YtgmgnkmgofkfpaaDoor
namespace Go.Proofs.YtgmgnkmgofkfpaaDoor
open Go Go.AV
open Nat renaming reduceEqDiff → E, reduceAdd → D, reduceLeDiff → J, reduceLT → Y, reduceMul → U, reduceSub → V
open List renaming set_cons_zero → au, set_cons_succ → ar
set_option maxRecDepth 100000 in
set_option maxHeartbeats 2000000 in
theorem gn  : cq Tryd.prog 14 [] (.one (.bool true)) := by
 refine bB Tryd.func14 rfl (by kernel_rfl) (Nat.le_of_ble_eq_true rfl) rfl fun C hP hN hB => ?_
 replace hN : C.N = 135 := hN
 simp only [ad, D]
 refine ag fun K1 hK1 => ?_
 refine ao hP hN rfl ?_
 (refine af rfl fun K0 Z => ?_; simp only [zE, op1, ev, lkp, ak, aj, ev, reduceCtorEq, E, D, J, Y, U, V, Tryd.td4, Mpr.av, Mly.av, bv, br, List.getD_cons_zero]; refine Z _ ?_; clear Z K0; simp only [put, app, ae, ai, zE, zS, D])
 refine am ?_
 refine hK1 _ ?_; clear hK1; refine ah [0] ?_; simp only [aa, lkp, zE, reduceCtorEq, E, ad, D]
 refine ag fun K2 hK2 => ?_
 refine ao hP hN rfl ?_
 (refine af rfl fun K0 Z => ?_; simp only [zE, op1, ev, lkp, ak, aj, bb, bn, bZ, rep, aK, aS, ax, Ty.size, reduceCtorEq, E, D, J, Y, U, V, Tryd.el25, Tryd.td25, Tryd.td3, Mpr.av, Mly.av, bv, br, List.getD_cons_zero]; (repeat refine And.intro (by first | omega | assumption | exact rfl) ?_); (first | refine Z _ ?_ | refine Or.inl (Z _ ?_)); clear Z K0; simp only [put, app, ae, ai, zE, zS, D])
 refine af rfl fun K0 Z => ?_
 refine aZ (h := aP (li [0, 1, 0])) rfl rfl (by first | exact rfl | (simp only [ev, aa, lkp, zE, reduceCtorEq, E, ad, D]; exact rfl)) (by simp only [zE, zG, op1, ev, lkp, ak, aj, ax, acs, bp, mv1, mvC, Ty.dflt, reduceCtorEq, E, D, J, Y, U, V, Mpr.av, Mly.av, bv, br, List.getD_cons_zero]) ?_
 refine Z _ ?_; clear Z K0; simp only [put, app, ae, ai, zE, zS, D]
 iterate 6 (refine af rfl fun K0 Z => ?_; simp only [zE, op1, ev, lkp, ak, aj, bU, cz, bS, Nat.mul_one, ax, aS, aK, acs, Ty.size, Ty.dflt, zG, reduceCtorEq, E, D, J, Y, U, V, Tryd.st24, Tryd.td1, Tryd.td24, Tryd.td26, Mpr.av, Mly.av, bv, br, List.getD_cons_zero]; (repeat refine And.intro (by first | omega | assumption | exact rfl) ?_); (first | refine Z _ ?_ | refine Or.inl (Z _ ?_)); clear Z K0; simp only [put, app, ae, ai, zE, zS, D])
 refine am ?_
 refine hK2 _ ?_; clear hK2; refine ah [0, 1, 2] ?_; simp only [aa, lkp, zE, reduceCtorEq, E, ad, D]
 refine ag fun K3 hK3 => ?_
 refine ao hP hN rfl ?_
 (refine af rfl fun K0 Z => ?_; simp only [zE, op1, ev, lkp, ak, aj, bb, bn, bZ, rep, aK, aS, ax, Ty.size, reduceCtorEq, E, D, J, Y, U, V, Tryd.el25, Tryd.td2, Tryd.td25, Mpr.av, Mly.av, bv, br, List.getD_cons_zero]; (repeat refine And.intro (by first | omega | assumption | exact rfl) ?_); (first | refine Z _ ?_ | refine Or.inl (Z _ ?_)); clear Z K0; simp only [put, app, ae, ai, zE, zS, D])
 refine af rfl fun K0 Z => ?_
 refine aZ (h := aP (li [1, 0])) rfl rfl (by first | exact rfl | (simp only [ev, aa, lkp, zE, reduceCtorEq, E, ad, D]; exact rfl)) (by simp only [zE, zG, op1, ev, lkp, ak, aj, ax, acs, bp, mv1, mvC, Ty.dflt, reduceCtorEq, E, D, J, Y, U, V, Mpr.av, Mly.av, bv, br, List.getD_cons_zero]) ?_
 refine Z _ ?_; clear Z K0; simp only [put, app, ae, ai, zE, zS, D]
 iterate 6 (refine af rfl fun K0 Z => ?_; simp only [zE, op1, ev, lkp, ak, aj, bU, cz, bS, Nat.mul_one, ax, aS, aK, acs, Ty.size, Ty.dflt, zG, reduceCtorEq, E, D, J, Y, U, V, Tryd.st24, Tryd.td1, Tryd.td24, Tryd.td26, Mpr.av, Mly.av, bv, br, List.getD_cons_zero]; (repeat refine And.intro (by first | omega | assumption | exact rfl) ?_); (first | refine Z _ ?_ | refine Or.inl (Z _ ?_)); clear Z K0; simp only [put, app, ae, ai, zE, zS, D])
 refine am ?_
 refine hK3 _ ?_; clear hK3; refine ah [0, 1, 2, 4] ?_; simp only [aa, lkp, zE, reduceCtorEq, E, ad, D]
 refine ag fun K4 hK4 => ?_
 refine ao hP hN rfl ?_
 iterate 2 (refine af rfl fun K0 Z => ?_; simp only [zE, op1, ev, lkp, ak, aj, aI, Nat.mul_one, aB, aG, acs, Ty.dflt, zG, aA, bb, bn, bZ, rep, aK, aS, ax, Ty.size, reduceCtorEq, E, D, J, Y, U, V, Tryd.el25, Tryd.st24, Tryd.td24, Tryd.td25, Tryd.td3, Mpr.av, Mly.av, bv, br, List.getD_cons_zero]; (repeat refine And.intro (by first | omega | assumption | exact rfl) ?_); (first | refine Z _ ?_ | refine Or.inl (Z _ ?_)); clear Z K0; simp only [put, app, ae, ai, zE, zS, D])
 refine af rfl fun K0 Z => ?_
 refine aZ (h := aP (lp (dy [0, 1, 0]) [2, 1, 0])) rfl rfl (by first | exact rfl | (simp only [ev, aa, lkp, zE, reduceCtorEq, E, ad, D]; exact rfl)) (by simp only [zE, zG, op1, ev, lkp, ak, aj, ax, acs, bp, mv1, mvC, Ty.dflt, reduceCtorEq, E, D, J, Y, U, V, Mpr.av, Mly.av, bv, br, List.getD_cons_zero]) ?_
 refine Z _ ?_; clear Z K0; simp only [put, app, ae, ai, zE, zS, D]
 iterate 5 (refine af rfl fun K0 Z => ?_; simp only [zE, op1, ev, lkp, ak, aj, bU, reduceCtorEq, E, D, J, Y, U, V, Tryd.el25, Tryd.td1, Tryd.td25, Tryd.td26, Mpr.av, Mly.av, bv, br, List.getD_cons_zero]; refine Z _ ?_; clear Z K0; simp only [put, app, ae, ai, zE, zS, D])
 refine am ?_
 refine hK4 _ ?_; clear hK4; refine ah [0, 1, 2, 4, 5, 6] ?_; simp only [aa, lkp, zE, reduceCtorEq, E, ad, D]
 refine ag fun K5 hK5 => ?_
 refine ao hP hN rfl ?_
 iterate 2 (refine af rfl fun K0 Z => ?_; simp only [zE, op1, ev, lkp, ak, aj, aI, Nat.mul_one, aB, aG, acs, Ty.dflt, zG, aA, bb, bn, bZ, rep, aK, aS, ax, Ty.size, reduceCtorEq, E, D, J, Y, U, V, Tryd.el25, Tryd.st24, Tryd.td24, Tryd.td25, Tryd.td3, Mpr.av, Mly.av, bv, br, List.getD_cons_zero]; (repeat refine And.intro (by first | omega | assumption | exact rfl) ?_); (first | refine Z _ ?_ | refine Or.inl (Z _ ?_)); clear Z K0; simp only [put, app, ae, ai, zE, zS, D])
 refine af rfl fun K0 Z => ?_
 refine aZ (h := aP (nT (dy [0, 1, 0]) [0, 1, 0])) rfl rfl (by first | exact rfl | (simp only [ev, aa, lkp, zE, reduceCtorEq, E, ad, D]; exact rfl)) (by simp only [zE, zG, op1, ev, lkp, ak, aj, ax, acs, bp, mv1, mvC, Ty.dflt, reduceCtorEq, E, D, J, Y, U, V, Mpr.av, Mly.av, bv, br, List.getD_cons_zero]) ?_
 refine Z _ ?_; clear Z K0; simp only [put, app, ae, ai, zE, zS, D]
 iterate 7 (refine af rfl fun K0 Z => ?_; simp only [zE, op1, ev, lkp, ak, aj, bU, reduceCtorEq, E, D, J, Y, U, V, Tryd.el25, Tryd.td1, Tryd.td2, Tryd.td25, Tryd.td26, Tryd.td4, Mpr.av, Mly.av, bv, br, List.getD_cons_zero]; refine Z _ ?_; clear Z K0; simp only [put, app, ae, ai, zE, zS, D])
 refine am ?_
 refine hK5 _ ?_; clear hK5; refine ah [0, 1, 2, 4, 5, 6, 7, 8, 9] ?_; simp only [aa, lkp, zE, reduceCtorEq, E, ad, D]
 refine ag fun K6 hK6 => ?_
 refine ao hP hN rfl ?_
 (refine af rfl fun K0 Z => ?_; simp only [zE, op1, ev, lkp, ak, aj, bb, bn, bZ, rep, aK, aS, ax, Ty.size, reduceCtorEq, E, D, J, Y, U, V, Tryd.el25, Tryd.td2, Tryd.td25, Mpr.av, Mly.av, bv, br, List.getD_cons_zero]; (repeat refine And.intro (by first | omega | assumption | exact rfl) ?_); (first | refine Z _ ?_ | refine Or.inl (Z _ ?_)); clear Z K0; simp only [put, app, ae, ai, zE, zS, D])
 refine af rfl fun K0 Z => ?_
 refine aZ (h := aP (li [0, 0])) rfl rfl (by first | exact rfl | (simp only [ev, aa, lkp, zE, reduceCtorEq, E, ad, D]; exact rfl)) (by simp only [zE, zG, op1, ev, lkp, ak, aj, ax, acs, bp, mv1, mvC, Ty.dflt, reduceCtorEq, E, D, J, Y, U, V, Mpr.av, Mly.av, bv, br, List.getD_cons_zero]) ?_
 refine Z _ ?_; clear Z K0; simp only [put, app, ae, ai, zE, zS, D]
 iterate 6 (refine af rfl fun K0 Z => ?_; simp only [zE, op1, ev, lkp, ak, aj, bU, cz, bS, Nat.mul_one, ax, aS, aK, acs, Ty.size, Ty.dflt, zG, reduceCtorEq, E, D, J, Y, U, V, Tryd.st24, Tryd.td1, Tryd.td24, Tryd.td26, Mpr.av, Mly.av, bv, br, List.getD_cons_zero]; (repeat refine And.intro (by first | omega | assumption | exact rfl) ?_); (first | refine Z _ ?_ | refine Or.inl (Z _ ?_)); clear Z K0; simp only [put, app, ae, ai, zE, zS, D])
 refine am ?_
 refine hK6 _ ?_; clear hK6; refine ah [0, 1, 2, 4, 5, 6, 7, 8, 9, 10] ?_; simp only [aa, lkp, zE, reduceCtorEq, E, ad, D]
 refine ag fun K7 hK7 => ?_
 refine fF ?_; simp only [List.cons_append, List.append_assoc, List.nil_append]
 refine fF ?_; simp only [List.cons_append, List.append_assoc, List.nil_append]
 refine ch hP hN Tryd.mixed rfl ?_
 refine af rfl fun K0 Z => ?_
 refine aZ (h := aP kl) rfl rfl (by first | exact rfl | (simp only [ev, aa, lkp, zE, reduceCtorEq, E, ad, D]; exact rfl)) (by simp only [zE, zG, op1, ev, lkp, ak, aj, ax, acs, bp, mv1, mvC, Ty.dflt, reduceCtorEq, E, D, J, Y, U, V, Mpr.av, Mly.av, bv, br, List.getD_cons_zero]) ?_
 refine Z _ ?_; clear Z K0; simp only [put, app, ae, ai, zE, zS, D]
 (refine af rfl fun K0 Z => ?_; simp only [zE, op1, ev, lkp, ak, aj, aI, Nat.mul_one, aB, aG, acs, Ty.dflt, zG, aA, reduceCtorEq, E, D, J, Y, U, V, Tryd.st24, Tryd.td24, Mpr.av, Mly.av, bv, br, List.getD_cons_zero]; (repeat refine And.intro (by first | omega | assumption | exact rfl) ?_); refine Z _ ?_; clear Z K0; simp only [put, app, ae, ai, zE, zS, D])
 refine af rfl fun K0 Z => ?_
 refine aZ (h := aP rI) rfl rfl (by first | exact rfl | (simp only [ev, aa, lkp, zE, reduceCtorEq, E, ad, D]; exact rfl)) (by simp only [zE, zG, op1, ev, lkp, ak, aj, ax, acs, bp, mv1, mvC, Ty.dflt, reduceCtorEq, E, D, J, Y, U, V, Mpr.av, Mly.av, bv, br, List.getD_cons_zero]) ?_
 refine Z _ ?_; clear Z K0; simp only [put, app, ae, ai, zE, zS, D]
 iterate 5 (refine af rfl fun K0 Z => ?_; simp only [zE, op1, ev, lkp, ak, aj, bU, reduceCtorEq, E, D, J, Y, U, V, Tryd.st47, Tryd.st50, Tryd.td1, Tryd.td2, Tryd.td26, Tryd.td3, Tryd.td4, Tryd.td47, Tryd.td50, Mpr.av, Mly.av, bv, br, List.getD_cons_zero]; refine Z _ ?_; clear Z K0; simp only [put, app, ae, ai, zE, zS, D])
 (refine af rfl fun K0 Z => ?_; simp only [zE, op1, ev, lkp, ak, aj, cz, reduceCtorEq, E, D, J, Y, U, V, Tryd.st47, Tryd.td47, Mpr.av, Mly.av, bv, br, List.getD_cons_zero]; refine Or.inr (Or.inl ⟨3, ?_, (.pair (.int .i64) (.pair (.int .i64) (.pair (.list (.list (.int .i64))) (.pair (.list (.list (.int .i64))) .unit)))), (0, (0, ([], ([], ())))), ?_⟩); (exact rfl); (repeat refine And.intro (by first | rfl | decide) ?_); refine Z _ ?_; clear Z K0; simp only [put, app, ae, ai, zE, zS, D])
 (refine af rfl fun K0 Z => ?_; simp only [zE, op1, ev, lkp, ak, aj, cz, reduceCtorEq, E, D, J, Y, U, V, Tryd.st50, Tryd.td50, Mpr.av, Mly.av, bv, br, List.getD_cons_zero]; refine Or.inr (Or.inl ⟨4, ?_, (.pair (.list (.int .i64)) (.pair (.int .i64) (.pair (.int .i64) .unit))), ([], (0, (0, ()))), ?_⟩); (exact rfl); (repeat refine And.intro (by first | rfl | decide) ?_); refine Z _ ?_; clear Z K0; simp only [put, app, ae, ai, zE, zS, D])
 iterate 4 (refine af rfl fun K0 Z => ?_; simp only [zE, op1, ev, lkp, ak, aj, bS, Nat.mul_one, ax, aS, aK, acs, Ty.size, Ty.dflt, zG, reduceCtorEq, E, D, J, Y, U, V, Tryd.st47, Tryd.st50, Tryd.td26, Tryd.td4, Tryd.td47, Tryd.td50, Mpr.av, Mly.av, bv, br, List.getD_cons_zero]; (repeat refine And.intro (by first | omega | assumption | exact rfl) ?_); refine Z _ ?_; clear Z K0; simp only [put, app, ae, ai, zE, zS, D])
 refine am ?_
 refine ⟨by kernel_rfl, ?_⟩
 refine hK7 _ ?_; clear hK7; refine ah [0, 1, 2, 4, 5, 6, 7, 8, 9, 10, 13, 14, 15] ?_; simp only [aa, lkp, zE, reduceCtorEq, E, ad, D]
 refine ag fun K8 hK8 => ?_
 refine ao hP hN rfl ?_
 iterate 9 (refine af rfl fun K0 Z => ?_; simp only [zE, op1, ev, lkp, ak, aj, bb, bn, bZ, rep, aK, aS, ax, Ty.size, cv, cz, bS, Nat.mul_one, acs, Ty.dflt, zG, reduceCtorEq, E, D, J, Y, U, V, Tryd.el22, Tryd.el25, Tryd.st24, Tryd.td2, Tryd.td22, Tryd.td24, Tryd.td25, Mpr.av, Mly.av, bv, br, List.getD_cons_zero]; (repeat refine And.intro (by first | omega | assumption | exact rfl) ?_); (first | refine Z _ ?_ | refine Or.inl (Z _ ?_)); clear Z K0; simp only [put, app, ae, ai, zE, zS, D])
 refine am ?_
 refine hK8 _ ?_; clear hK8; refine ah [0, 1, 2, 4, 5, 6, 7, 8, 9, 10, 13, 14, 15, 16] ?_; simp only [aa, lkp, zE, reduceCtorEq, E, ad, D]
 refine ag fun K9 hK9 => ?_
 refine fF ?_; simp only [List.cons_append, List.append_assoc, List.nil_append]
 refine fF ?_; simp only [List.cons_append, List.append_assoc, List.nil_append]
 refine ch hP hN Tryd.mixed rfl ?_
 refine af rfl fun K0 Z => ?_
 refine aZ (h := aP kl) rfl rfl (by first | exact rfl | (simp only [ev, aa, lkp, zE, reduceCtorEq, E, ad, D]; exact rfl)) (by simp only [zE, zG, op1, ev, lkp, ak, aj, ax, acs, bp, mv1, mvC, Ty.dflt, reduceCtorEq, E, D, J, Y, U, V, Mpr.av, Mly.av, bv, br, List.getD_cons_zero]) ?_
 refine Z _ ?_; clear Z K0; simp only [put, app, ae, ai, zE, zS, D]
 (refine af rfl fun K0 Z => ?_; simp only [zE, op1, ev, lkp, ak, aj, aI, Nat.mul_one, aB, aG, acs, Ty.dflt, zG, aA, reduceCtorEq, E, D, J, Y, U, V, Tryd.st24, Tryd.td24, Mpr.av, Mly.av, bv, br, List.getD_cons_zero]; (repeat refine And.intro (by first | omega | assumption | exact rfl) ?_); refine Z _ ?_; clear Z K0; simp only [put, app, ae, ai, zE, zS, D])
 refine af rfl fun K0 Z => ?_
 refine aZ (h := aP rG) rfl rfl (by first | exact rfl | (simp only [ev, aa, lkp, zE, reduceCtorEq, E, ad, D]; exact rfl)) (by simp only [zE, zG, op1, ev, lkp, ak, aj, ax, acs, bp, mv1, mvC, Ty.dflt, reduceCtorEq, E, D, J, Y, U, V, Mpr.av, Mly.av, bv, br, List.getD_cons_zero]) ?_
 refine Z _ ?_; clear Z K0; simp only [put, app, ae, ai, zE, zS, D]
 iterate 5 (refine af rfl fun K0 Z => ?_; simp only [zE, op1, ev, lkp, ak, aj, bU, reduceCtorEq, E, D, J, Y, U, V, Tryd.st47, Tryd.st50, Tryd.td1, Tryd.td2, Tryd.td26, Tryd.td3, Tryd.td4, Tryd.td47, Tryd.td50, Mpr.av, Mly.av, bv, br, List.getD_cons_zero]; refine Z _ ?_; clear Z K0; simp only [put, app, ae, ai, zE, zS, D])
 (refine af rfl fun K0 Z => ?_; simp only [zE, op1, ev, lkp, ak, aj, cz, reduceCtorEq, E, D, J, Y, U, V, Tryd.st47, Tryd.td47, Mpr.av, Mly.av, bv, br, List.getD_cons_zero]; refine Or.inr (Or.inl ⟨6, ?_, (.pair (.int .i64) (.pair (.int .i64) (.pair (.list (.list (.int .i64))) (.pair (.list (.list (.int .i64))) .unit)))), (0, (0, ([], ([], ())))), ?_⟩); (exact rfl); (repeat refine And.intro (by first | rfl | decide) ?_); refine Z _ ?_; clear Z K0; simp only [put, app, ae, ai, zE, zS, D])
 (refine af rfl fun K0 Z => ?_; simp only [zE, op1, ev, lkp, ak, aj, cz, reduceCtorEq, E, D, J, Y, U, V, Tryd.st50, Tryd.td50, Mpr.av, Mly.av, bv, br, List.getD_cons_zero]; refine Or.inr (Or.inl ⟨7, ?_, (.pair (.list (.int .i64)) (.pair (.int .i64) (.pair (.int .i64) .unit))), ([], (0, (0, ()))), ?_⟩); (exact rfl); (repeat refine And.intro (by first | rfl | decide) ?_); refine Z _ ?_; clear Z K0; simp only [put, app, ae, ai, zE, zS, D])
 iterate 4 (refine af rfl fun K0 Z => ?_; simp only [zE, op1, ev, lkp, ak, aj, bS, Nat.mul_one, ax, aS, aK, acs, Ty.size, Ty.dflt, zG, reduceCtorEq, E, D, J, Y, U, V, Tryd.st47, Tryd.st50, Tryd.td26, Tryd.td4, Tryd.td47, Tryd.td50, Mpr.av, Mly.av, bv, br, List.getD_cons_zero]; (repeat refine And.intro (by first | omega | assumption | exact rfl) ?_); refine Z _ ?_; clear Z K0; simp only [put, app, ae, ai, zE, zS, D])
 refine am ?_
 refine ⟨by kernel_rfl, ?_⟩
 refine hK9 _ ?_; clear hK9; refine ah [0, 1, 2, 4, 5, 6, 7, 8, 9, 10, 13, 14, 15, 16, 17, 19, 20] ?_; simp only [aa, lkp, zE, reduceCtorEq, E, ad, D]
 refine ag fun K10 hK10 => ?_
 refine ag fun K11 hK11 => ?_
 refine ao hP hN rfl ?_
 iterate 2 (refine af rfl fun K0 Z => ?_; simp only [zE, op1, ev, lkp, ak, aj, aF, aD, aE, aw, aC, aU, reduceCtorEq, E, D, J, Y, U, V, Tryd.td26, Tryd.td4, Mpr.av, Mly.av, bv, br, List.getD_cons_zero]; (repeat refine And.intro (by first | omega | assumption | exact rfl) ?_); refine Z _ ?_; clear Z K0; simp only [put, app, ae, ai, zE, zS, D])
 (refine af rfl fun K0 Z => ?_; simp only [zE, op1, ev, lkp, ak, aj, ev, reduceCtorEq, E, D, J, Y, U, V, Tryd.td4, Mpr.av, Mly.av, bv, br, List.getD_cons_zero]; refine Z _ ?_; clear Z K0; simp only [put, app, ae, ai, zE, zS, D])
 refine' aY (want := false) 2 rfl (m := 74) (by simp only [aa, lkp, zE, reduceCtorEq, E, ad, D]; exact rfl) (by kernel_rfl) rfl rfl rfl rfl rfl (fun hg12 => ?a12) ?b12 ?c12
 case a12 =>
  have hq12 := hg12; (try simp only [zB, reduceCtorEq] at hg12); simp only [List.take_succ_cons, List.take_zero, List.cons_append, List.nil_append]
  (refine ay rfl fun K0 Z => ?_; simp only [zE, op1, ev, lkp, ak, aj, ev, reduceCtorEq, E, D, J, Y, U, V, Tryd.td26, Mpr.av, Mly.av, bv, br, List.getD_cons_zero]; refine Z _ ?_; clear Z K0; simp only [put, app, ae, ai, zE, zS, D])
  (refine ay rfl fun K0 Z => ?_; simp only [zE, op1, ev, lkp, ak, aj, aF, aD, aE, aw, aC, aU, reduceCtorEq, E, D, J, Y, U, V, Tryd.td26, Tryd.td4, Mpr.av, Mly.av, bv, br, List.getD_cons_zero]; (repeat refine And.intro (by first | omega | assumption | exact rfl) ?_); refine Z _ ?_; clear Z K0; simp only [put, app, ae, ai, zE, zS, D])
  (refine af rfl fun K0 Z => ?_; simp only [zE, op1, ev, lkp, ak, aj, bz, reduceCtorEq, E, D, J, Y, U, V, Tryd.td4, Mpr.av, Mly.av, bv, br, List.getD_cons_zero]; refine Z _ ?_; clear Z K0; simp only [put, app, ae, ai, zE, zS, D])
  refine am ?_
  refine ⟨by simp only [aa, lkp, zE, reduceCtorEq, E, ad, D]; exact rfl, rfl, ?_, rfl⟩; (repeat refine aX rfl ?_); exact bE (by exact rfl) hq12
 case b12 => exact bD (by first | rfl | (simp [c0]; done) | decide)
 simp only [bq, bf]
 (refine af rfl fun K0 Z => ?_; simp only [zE, op1, ev, lkp, ak, aj, ev, reduceCtorEq, E, D, J, Y, U, V, Tryd.td4, Mpr.av, Mly.av, bv, br, List.getD_cons_zero]; refine Z _ ?_; clear Z K0; simp only [put, app, ae, ai, zE, zS, D])
 refine' aY (want := false) 2 rfl (m := 78) (by simp only [aa, lkp, zE, reduceCtorEq, E, ad, D]; exact rfl) (by kernel_rfl) rfl rfl rfl rfl rfl (fun hg13 => ?a13) ?b13 ?c13
 case a13 =>
  have hq13 := hg13; (try simp only [zB, reduceCtorEq] at hg13); simp only [List.take_succ_cons, List.take_zero, List.cons_append, List.nil_append]
  (refine ay rfl fun K0 Z => ?_; simp only [zE, op1, ev, lkp, ak, aj, ev, reduceCtorEq, E, D, J, Y, U, V, Tryd.td26, Mpr.av, Mly.av, bv, br, List.getD_cons_zero]; refine Z _ ?_; clear Z K0; simp only [put, app, ae, ai, zE, zS, D])
  (refine ay rfl fun K0 Z => ?_; simp only [zE, op1, ev, lkp, ak, aj, aF, aD, aE, aw, aC, aU, reduceCtorEq, E, D, J, Y, U, V, Tryd.td26, Tryd.td4, Mpr.av, Mly.av, bv, br, List.getD_cons_zero]; (repeat refine And.intro (by first | omega | assumption | exact rfl) ?_); refine Z _ ?_; clear Z K0; simp only [put, app, ae, ai, zE, zS, D])
  (refine af rfl fun K0 Z => ?_; simp only [zE, op1, ev, lkp, ak, aj, bz, reduceCtorEq, E, D, J, Y, U, V, Tryd.td4, Mpr.av, Mly.av, bv, br, List.getD_cons_zero]; refine Z _ ?_; clear Z K0; simp only [put, app, ae, ai, zE, zS, D])
  refine am ?_
  refine ⟨by simp only [aa, lkp, zE, reduceCtorEq, E, ad, D]; exact rfl, rfl, ?_, rfl⟩; (repeat refine aX rfl ?_); exact bE (by exact rfl) hq13
 case b13 => exact bD (by first | rfl | (simp [c0]; done) | decide)
 simp only [bq, bf]
 (refine af rfl fun K0 Z => ?_; simp only [zE, op1, ev, lkp, ak, aj, ev, reduceCtorEq, E, D, J, Y, U, V, Tryd.td4, Mpr.av, Mly.av, bv, br, List.getD_cons_zero]; refine Z _ ?_; clear Z K0; simp only [put, app, ae, ai, zE, zS, D])
 refine' aY (want := false) 2 rfl (m := 82) (by simp only [aa, lkp, zE, reduceCtorEq, E, ad, D]; exact rfl) (by kernel_rfl) rfl rfl rfl rfl rfl (fun hg14 => ?a14) ?b14 ?c14
 case a14 =>
  have hq14 := hg14; (try simp only [zB, reduceCtorEq] at hg14); simp only [List.take_succ_cons, List.take_zero, List.cons_append, List.nil_append]
  (refine ay rfl fun K0 Z => ?_; simp only [zE, op1, ev, lkp, ak, aj, ev, reduceCtorEq, E, D, J, Y, U, V, Tryd.td26, Mpr.av, Mly.av, bv, br, List.getD_cons_zero]; refine Z _ ?_; clear Z K0; simp only [put, app, ae, ai, zE, zS, D])
  (refine ay rfl fun K0 Z => ?_; simp only [zE, op1, ev, lkp, ak, aj, aF, aD, aE, aw, aC, aU, reduceCtorEq, E, D, J, Y, U, V, Tryd.td26, Tryd.td4, Mpr.av, Mly.av, bv, br, List.getD_cons_zero]; (repeat refine And.intro (by first | omega | assumption | exact rfl) ?_); refine Z _ ?_; clear Z K0; simp only [put, app, ae, ai, zE, zS, D])
  (refine af rfl fun K0 Z => ?_; simp only [zE, op1, ev, lkp, ak, aj, bz, reduceCtorEq, E, D, J, Y, U, V, Tryd.td4, Mpr.av, Mly.av, bv, br, List.getD_cons_zero]; refine Z _ ?_; clear Z K0; simp only [put, app, ae, ai, zE, zS, D])
  refine am ?_
  refine ⟨by simp only [aa, lkp, zE, reduceCtorEq, E, ad, D]; exact rfl, rfl, ?_, rfl⟩; (repeat refine aX rfl ?_); exact bE (by exact rfl) hq14
 case b14 => exact bD (by first | rfl | (simp [c0]; done) | decide)
 simp only [bq, bf]
 (refine af rfl fun K0 Z => ?_; simp only [zE, op1, ev, lkp, ak, aj, ev, reduceCtorEq, E, D, J, Y, U, V, Tryd.td4, Mpr.av, Mly.av, bv, br, List.getD_cons_zero]; refine Z _ ?_; clear Z K0; simp only [put, app, ae, ai, zE, zS, D])
 refine' aY (want := false) 2 rfl (m := 86) (by simp only [aa, lkp, zE, reduceCtorEq, E, ad, D]; exact rfl) (by kernel_rfl) rfl rfl rfl rfl rfl (fun hg15 => ?a15) ?b15 ?c15
 case a15 =>
  have hq15 := hg15; (try simp only [zB, reduceCtorEq] at hg15); simp only [List.take_succ_cons, List.take_zero, List.cons_append, List.nil_append]
  (refine ay rfl fun K0 Z => ?_; simp only [zE, op1, ev, lkp, ak, aj, ev, reduceCtorEq, E, D, J, Y, U, V, Tryd.td26, Mpr.av, Mly.av, bv, br, List.getD_cons_zero]; refine Z _ ?_; clear Z K0; simp only [put, app, ae, ai, zE, zS, D])
  (refine ay rfl fun K0 Z => ?_; simp only [zE, op1, ev, lkp, ak, aj, aF, aD, aE, aw, aC, aU, reduceCtorEq, E, D, J, Y, U, V, Tryd.td26, Tryd.td4, Mpr.av, Mly.av, bv, br, List.getD_cons_zero]; (repeat refine And.intro (by first | omega | assumption | exact rfl) ?_); refine Z _ ?_; clear Z K0; simp only [put, app, ae, ai, zE, zS, D])
  (refine af rfl fun K0 Z => ?_; simp only [zE, op1, ev, lkp, ak, aj, bz, reduceCtorEq, E, D, J, Y, U, V, Tryd.td4, Mpr.av, Mly.av, bv, br, List.getD_cons_zero]; refine Z _ ?_; clear Z K0; simp only [put, app, ae, ai, zE, zS, D])
  refine am ?_
  refine ⟨by simp only [aa, lkp, zE, reduceCtorEq, E, ad, D]; exact rfl, rfl, ?_, rfl⟩; (repeat refine aX rfl ?_); exact bE (by exact rfl) hq15
 case b15 => exact bD (by first | rfl | (simp [c0]; done) | decide)
 simp only [bq, bf]
 (refine af rfl fun K0 Z => ?_; simp only [zE, op1, ev, lkp, ak, aj, ev, reduceCtorEq, E, D, J, Y, U, V, Tryd.td4, Mpr.av, Mly.av, bv, br, List.getD_cons_zero]; refine Z _ ?_; clear Z K0; simp only [put, app, ae, ai, zE, zS, D])
 refine' aY (want := false) 2 rfl (m := 90) (by simp only [aa, lkp, zE, reduceCtorEq, E, ad, D]; exact rfl) (by kernel_rfl) rfl rfl rfl rfl rfl (fun hg16 => ?a16) ?b16 ?c16
 case a16 =>
  have hq16 := hg16; (try simp only [zB, reduceCtorEq] at hg16); simp only [List.take_succ_cons, List.take_zero, List.cons_append, List.nil_append]
  (refine ay rfl fun K0 Z => ?_; simp only [zE, op1, ev, lkp, ak, aj, ev, reduceCtorEq, E, D, J, Y, U, V, Tryd.td26, Mpr.av, Mly.av, bv, br, List.getD_cons_zero]; refine Z _ ?_; clear Z K0; simp only [put, app, ae, ai, zE, zS, D])
  (refine ay rfl fun K0 Z => ?_; simp only [zE, op1, ev, lkp, ak, aj, aF, aD, aE, aw, aC, aU, reduceCtorEq, E, D, J, Y, U, V, Tryd.td26, Tryd.td4, Mpr.av, Mly.av, bv, br, List.getD_cons_zero]; (repeat refine And.intro (by first | omega | assumption | exact rfl) ?_); refine Z _ ?_; clear Z K0; simp only [put, app, ae, ai, zE, zS, D])
  (refine af rfl fun K0 Z => ?_; simp only [zE, op1, ev, lkp, ak, aj, bz, reduceCtorEq, E, D, J, Y, U, V, Tryd.td4, Mpr.av, Mly.av, bv, br, List.getD_cons_zero]; refine Z _ ?_; clear Z K0; simp only [put, app, ae, ai, zE, zS, D])
  refine am ?_
  refine ⟨by simp only [aa, lkp, zE, reduceCtorEq, E, ad, D]; exact rfl, rfl, ?_, rfl⟩; (repeat refine aX rfl ?_); exact bE (by exact rfl) hq16
 case b16 => exact bD (by first | rfl | (simp [c0]; done) | decide)
 simp only [bq, bf]
 (refine af rfl fun K0 Z => ?_; simp only [zE, op1, ev, lkp, ak, aj, ev, reduceCtorEq, E, D, J, Y, U, V, Tryd.td4, Mpr.av, Mly.av, bv, br, List.getD_cons_zero]; refine Z _ ?_; clear Z K0; simp only [put, app, ae, ai, zE, zS, D])
 refine' aY (want := false) 2 rfl (m := 94) (by simp only [aa, lkp, zE, reduceCtorEq, E, ad, D]; exact rfl) (by kernel_rfl) rfl rfl rfl rfl rfl (fun hg17 => ?a17) ?b17 ?c17
 case a17 =>
  have hq17 := hg17; (try simp only [zB, reduceCtorEq] at hg17); simp only [List.take_succ_cons, List.take_zero, List.cons_append, List.nil_append]
  (refine ay rfl fun K0 Z => ?_; simp only [zE, op1, ev, lkp, ak, aj, ev, reduceCtorEq, E, D, J, Y, U, V, Tryd.td4, Mpr.av, Mly.av, bv, br, List.getD_cons_zero]; refine Z _ ?_; clear Z K0; simp only [put, app, ae, ai, zE, zS, D])
  (refine ay rfl fun K0 Z => ?_; simp only [zE, op1, ev, lkp, ak, aj, fg, reduceCtorEq, E, D, J, Y, U, V, Tryd.td4, Mpr.av, Mly.av, bv, br, List.getD_cons_zero]; (repeat refine And.intro (by first | omega | assumption | exact rfl) ?_); refine Z _ ?_; clear Z K0; simp only [put, app, ae, ai, zE, zS, D])
  (refine af rfl fun K0 Z => ?_; simp only [zE, op1, ev, lkp, ak, aj, bz, reduceCtorEq, E, D, J, Y, U, V, Tryd.td4, Mpr.av, Mly.av, bv, br, List.getD_cons_zero]; refine Z _ ?_; clear Z K0; simp only [put, app, ae, ai, zE, zS, D])
  refine am ?_
  refine ⟨by simp only [aa, lkp, zE, reduceCtorEq, E, ad, D]; exact rfl, rfl, ?_, rfl⟩; (repeat refine aX rfl ?_); exact bE (by exact rfl) hq17
 case b17 => exact bD (by first | rfl | (simp [c0]; done) | decide)
 simp only [bq, bf]
 (refine af rfl fun K0 Z => ?_; simp only [zE, op1, ev, lkp, ak, aj, ev, reduceCtorEq, E, D, J, Y, U, V, Tryd.td4, Mpr.av, Mly.av, bv, br, List.getD_cons_zero]; refine Z _ ?_; clear Z K0; simp only [put, app, ae, ai, zE, zS, D])
 refine' aY (want := false) 1 rfl (m := 98) (by simp only [aa, lkp, zE, reduceCtorEq, E, ad, D]; exact rfl) (by kernel_rfl) rfl rfl rfl rfl rfl (fun hg18 => ?a18) ?b18 ?c18
 case a18 =>
  have hq18 := hg18; (try simp only [zB, reduceCtorEq] at hg18); simp only [List.take_succ_cons, List.take_zero, List.cons_append, List.nil_append]
  (refine ay rfl fun K0 Z => ?_; simp only [zE, op1, ev, lkp, ak, aj, ev, reduceCtorEq, E, D, J, Y, U, V, Tryd.td4, Mpr.av, Mly.av, bv, br, List.getD_cons_zero]; refine Z _ ?_; clear Z K0; simp only [put, app, ae, ai, zE, zS, D])
  (refine af rfl fun K0 Z => ?_; simp only [zE, op1, ev, lkp, ak, aj, bz, reduceCtorEq, E, D, J, Y, U, V, Tryd.td4, Mpr.av, Mly.av, bv, br, List.getD_cons_zero]; refine Z _ ?_; clear Z K0; simp only [put, app, ae, ai, zE, zS, D])
  refine am ?_
  refine ⟨by simp only [aa, lkp, zE, reduceCtorEq, E, ad, D]; exact rfl, rfl, ?_, rfl⟩; (repeat refine aX rfl ?_); exact bE (by exact rfl) hq18
 case b18 => exact bD (by first | rfl | (simp [c0]; done) | decide)
 simp only [bq, bf]
 (refine af rfl fun K0 Z => ?_; simp only [zE, op1, ev, lkp, ak, aj, ev, reduceCtorEq, E, D, J, Y, U, V, Tryd.td4, Mpr.av, Mly.av, bv, br, List.getD_cons_zero]; refine Z _ ?_; clear Z K0; simp only [put, app, ae, ai, zE, zS, D])
 refine' aY (want := false) 2 rfl (m := 101) (by simp only [aa, lkp, zE, reduceCtorEq, E, ad, D]; exact rfl) (by kernel_rfl) rfl rfl rfl rfl rfl (fun hg19 => ?a19) ?b19 ?c19
 case a19 =>
  have hq19 := hg19; (try simp only [zB, reduceCtorEq] at hg19); simp only [List.take_succ_cons, List.take_zero, List.cons_append, List.nil_append]
  (refine ay rfl fun K0 Z => ?_; simp only [zE, op1, ev, lkp, ak, aj, ev, reduceCtorEq, E, D, J, Y, U, V, Tryd.td4, Mpr.av, Mly.av, bv, br, List.getD_cons_zero]; refine Z _ ?_; clear Z K0; simp only [put, app, ae, ai, zE, zS, D])
  (refine ay rfl fun K0 Z => ?_; simp only [zE, op1, ev, lkp, ak, aj, fg, reduceCtorEq, E, D, J, Y, U, V, Tryd.td4, Mpr.av, Mly.av, bv, br, List.getD_cons_zero]; (repeat refine And.intro (by first | omega | assumption | exact rfl) ?_); refine Z _ ?_; clear Z K0; simp only [put, app, ae, ai, zE, zS, D])
  (refine af rfl fun K0 Z => ?_; simp only [zE, op1, ev, lkp, ak, aj, bz, reduceCtorEq, E, D, J, Y, U, V, Tryd.td4, Mpr.av, Mly.av, bv, br, List.getD_cons_zero]; refine Z _ ?_; clear Z K0; simp only [put, app, ae, ai, zE, zS, D])
  refine am ?_
  refine ⟨by simp only [aa, lkp, zE, reduceCtorEq, E, ad, D]; exact rfl, rfl, ?_, rfl⟩; (repeat refine aX rfl ?_); exact bE (by exact rfl) hq19
 case b19 => exact bD (by first | rfl | (simp [c0]; done) | decide)
 simp only [bq, bf]
 (refine af rfl fun K0 Z => ?_; simp only [zE, op1, ev, lkp, ak, aj, ev, reduceCtorEq, E, D, J, Y, U, V, Tryd.td4, Mpr.av, Mly.av, bv, br, List.getD_cons_zero]; refine Z _ ?_; clear Z K0; simp only [put, app, ae, ai, zE, zS, D])
 refine' aY (want := false) 3 rfl (m := 105) (by simp only [aa, lkp, zE, reduceCtorEq, E, ad, D]; exact rfl) (by kernel_rfl) rfl rfl rfl rfl rfl (fun hg20 => ?a20) ?b20 ?c20
 case a20 =>
  have hq20 := hg20; (try simp only [zB, reduceCtorEq] at hg20); simp only [List.take_succ_cons, List.take_zero, List.cons_append, List.nil_append]
  (refine ay rfl fun K0 Z => ?_; simp only [zE, op1, ev, lkp, ak, aj, az, reduceCtorEq, E, D, J, Y, U, V, Tryd.st24, Tryd.td1, Tryd.td24, Mpr.av, Mly.av, bv, br, List.getD_cons_zero]; (repeat refine And.intro (by first | omega | assumption | exact rfl) ?_); refine Z _ ?_; clear Z K0; simp only [put, app, ae, ai, zE, zS, D])
  (refine ay rfl fun K0 Z => ?_; simp only [zE, op1, ev, lkp, ak, aj, aI, Nat.mul_one, aB, aG, acs, Ty.dflt, zG, aA, reduceCtorEq, E, D, J, Y, U, V, Tryd.td3, Mpr.av, Mly.av, bv, br, List.getD_cons_zero]; (repeat refine And.intro (by first | omega | assumption | exact rfl) ?_); refine Z _ ?_; clear Z K0; simp only [put, app, ae, ai, zE, zS, D])
  (refine ay rfl fun K0 Z => ?_; simp only [zE, op1, ev, lkp, ak, aj, aF, aD, aE, aw, aC, aU, reduceCtorEq, E, D, J, Y, U, V, Tryd.td3, Tryd.td4, Mpr.av, Mly.av, bv, br, List.getD_cons_zero]; (repeat refine And.intro (by first | omega | assumption | exact rfl) ?_); refine Z _ ?_; clear Z K0; simp only [put, app, ae, ai, zE, zS, D])
  (refine af rfl fun K0 Z => ?_; simp only [zE, op1, ev, lkp, ak, aj, bz, reduceCtorEq, E, D, J, Y, U, V, Tryd.td4, Mpr.av, Mly.av, bv, br, List.getD_cons_zero]; refine Z _ ?_; clear Z K0; simp only [put, app, ae, ai, zE, zS, D])
  refine am ?_
  refine ⟨by simp only [aa, lkp, zE, reduceCtorEq, E, ad, D]; exact rfl, rfl, ?_, rfl⟩; (repeat refine aX rfl ?_); exact bE (by exact rfl) hq20
 case b20 => exact bD (by first | rfl | (simp [c0]; done) | decide)
 simp only [bq, bf]
 refine am ?_
 refine hK11 _ ?_; clear hK11; refine ah [0, 1, 2, 4, 5, 6, 7, 8, 9, 10, 13, 14, 15, 16, 17, 19, 20, 109] ?_; simp only [aa, lkp, zE, reduceCtorEq, E, ad, D]
 refine aJ (by simp only [ev, aa, lkp, zE, reduceCtorEq, E, ad, D]; exact rfl) (fun hc21 => ?_) (fun hc21 => ?_)
 ·exfalso; (try simp only [zB, reduceCtorEq] at hc21)
  revert hc21; decide +kernel
 ·(try simp only [zB, reduceCtorEq] at hc21)
  refine aQ ?_
  refine hK10 _ ?_; clear hK10; refine ah [0, 1, 2, 4, 5, 6, 7, 8, 9, 10, 13, 14, 15, 16, 17, 19, 20, 109] ?_; simp only [aa, lkp, zE, reduceCtorEq, E, ad, D]
  refine ag fun K22 hK22 => ?_
  refine ao hP hN rfl ?_
  iterate 2 (refine af rfl fun K0 Z => ?_; simp only [zE, op1, ev, lkp, ak, aj, bb, bn, bZ, rep, aK, aS, ax, Ty.size, reduceCtorEq, E, D, J, Y, U, V, Tryd.el25, Tryd.td25, Tryd.td3, Mpr.av, Mly.av, bv, br, List.getD_cons_zero]; (repeat refine And.intro (by first | omega | assumption | exact rfl) ?_); (first | refine Z _ ?_ | refine Or.inl (Z _ ?_)); clear Z K0; simp only [put, app, ae, ai, zE, zS, D])
  refine af rfl fun K0 Z => ?_
  refine aZ (h := aP (gV (abV (dy [0, 1, 0]) [2, 1, 0]) [0, 1, 0])) rfl rfl (by first | exact rfl | (simp only [ev, aa, lkp, zE, reduceCtorEq, E, ad, D]; exact rfl)) (by simp only [zE, zG, op1, ev, lkp, ak, aj, ax, acs, bp, mv1, mvC, Ty.dflt, reduceCtorEq, E, D, J, Y, U, V, Mpr.av, Mly.av, bv, br, List.getD_cons_zero]) ?_
  refine Z _ ?_; clear Z K0; simp only [put, app, ae, ai, zE, zS, D]
  (refine af rfl fun K0 Z => ?_; simp only [zE, op1, ev, lkp, ak, aj, ev, reduceCtorEq, E, D, J, Y, U, V, Tryd.td4, Mpr.av, Mly.av, bv, br, List.getD_cons_zero]; refine Z _ ?_; clear Z K0; simp only [put, app, ae, ai, zE, zS, D])
  refine' aY (want := true) 3 rfl (m := 113) (by simp only [aa, lkp, zE, reduceCtorEq, E, ad, D]; exact rfl) (by kernel_rfl) rfl rfl rfl rfl rfl (fun hg23 => ?a23) ?b23 ?c23
  case a23 =>
   have hq23 := hg23; (try simp only [zB, reduceCtorEq] at hg23); simp only [List.take_succ_cons, List.take_zero, List.cons_append, List.nil_append]
   (refine ay rfl fun K0 Z => ?_; simp only [zE, op1, ev, lkp, ak, aj, ev, reduceCtorEq, E, D, J, Y, U, V, Tryd.el25, Tryd.td25, Mpr.av, Mly.av, bv, br, List.getD_cons_zero]; refine Z _ ?_; clear Z K0; simp only [put, app, ae, ai, zE, zS, D])
   (refine ay rfl fun K0 Z => ?_; simp only [zE, op1, ev, lkp, ak, aj, bb, bn, bZ, rep, aK, aS, ax, Ty.size, reduceCtorEq, E, D, J, Y, U, V, Tryd.el25, Tryd.td25, Tryd.td3, Mpr.av, Mly.av, bv, br, List.getD_cons_zero]; (repeat refine And.intro (by first | omega | assumption | exact rfl) ?_); (first | refine Z _ ?_ | refine Or.inl (Z _ ?_)); clear Z K0; simp only [put, app, ae, ai, zE, zS, D])
   refine ay rfl fun K0 Z => ?_
   refine aZ (h := aP (gV (pcW (dy [0, 1, 0]) [0, 1, 0]) [0, 1, 0])) rfl rfl (by first | exact rfl | (simp only [ev, aa, lkp, zE, reduceCtorEq, E, ad, D]; exact rfl)) (by simp only [zE, zG, op1, ev, lkp, ak, aj, ax, acs, bp, mv1, mvC, Ty.dflt, reduceCtorEq, E, D, J, Y, U, V, Mpr.av, Mly.av, bv, br, List.getD_cons_zero]) ?_
   refine Z _ ?_; clear Z K0; simp only [put, app, ae, ai, zE, zS, D]
   (refine af rfl fun K0 Z => ?_; simp only [zE, op1, ev, lkp, ak, aj, bz, reduceCtorEq, E, D, J, Y, U, V, Tryd.td4, Mpr.av, Mly.av, bv, br, List.getD_cons_zero]; refine Z _ ?_; clear Z K0; simp only [put, app, ae, ai, zE, zS, D])
   refine am ?_
   refine ⟨by simp only [aa, lkp, zE, reduceCtorEq, E, ad, D]; exact rfl, rfl, ?_, rfl⟩; (repeat refine aX rfl ?_); exact bE (by exact rfl) hq23
  case b23 => exact bD (by first | rfl | (simp [c0]; done) | decide)
  simp only [bq, bf]
  (refine af rfl fun K0 Z => ?_; simp only [zE, op1, ev, lkp, ak, aj, ev, reduceCtorEq, E, D, J, Y, U, V, Tryd.td4, Mpr.av, Mly.av, bv, br, List.getD_cons_zero]; refine Z _ ?_; clear Z K0; simp only [put, app, ae, ai, zE, zS, D])
  refine' aY (want := true) 4 rfl (m := 118) (by simp only [aa, lkp, zE, reduceCtorEq, E, ad, D]; exact rfl) (by kernel_rfl) rfl rfl rfl rfl rfl (fun hg24 => ?a24) ?b24 ?c24
  case a24 =>
   have hq24 := hg24; (try simp only [zB, reduceCtorEq] at hg24); simp only [List.take_succ_cons, List.take_zero, List.cons_append, List.nil_append]
   (refine ay rfl fun K0 Z => ?_; simp only [zE, op1, ev, lkp, ak, aj, aI, Nat.mul_one, aB, aG, acs, Ty.dflt, zG, aA, reduceCtorEq, E, D, J, Y, U, V, Tryd.st50, Tryd.td50, Mpr.av, Mly.av, bv, br, List.getD_cons_zero]; (repeat refine And.intro (by first | omega | assumption | exact rfl) ?_); refine Z _ ?_; clear Z K0; simp only [put, app, ae, ai, zE, zS, D])
   (refine ay rfl fun K0 Z => ?_; simp only [zE, op1, ev, lkp, ak, aj, bb, bn, bZ, rep, aK, aS, ax, Ty.size, reduceCtorEq, E, D, J, Y, U, V, Tryd.el25, Tryd.td1, Tryd.td25, Mpr.av, Mly.av, bv, br, List.getD_cons_zero]; (repeat refine And.intro (by first | omega | assumption | exact rfl) ?_); (first | refine Z _ ?_ | refine Or.inl (Z _ ?_)); clear Z K0; simp only [put, app, ae, ai, zE, zS, D])
   (refine ay rfl fun K0 Z => ?_; simp only [zE, op1, ev, lkp, ak, aj, cv, bn, aS, ax, reduceCtorEq, E, D, J, Y, U, V, Tryd.st50, Tryd.td50, Mpr.av, Mly.av, bv, br, List.getD_cons_zero]; (repeat refine And.intro (by first | omega | assumption | exact rfl) ?_); (first | refine Z _ ?_ | refine Or.inl (Z _ ?_)); clear Z K0; simp only [put, app, ae, ai, zE, zS, D])
   refine ay rfl fun K0 Z => ?_
   refine aZ (h := aP (oh [0] 1 2 [0] 1 2)) rfl rfl (by first | exact rfl | (simp only [ev, aa, lkp, zE, reduceCtorEq, E, ad, D]; exact rfl)) (by simp only [zE, zG, op1, ev, lkp, ak, aj, ax, acs, bp, mv1, mvC, Ty.dflt, reduceCtorEq, E, D, J, Y, U, V, Mpr.av, Mly.av, bv, br, List.getD_cons_zero]) ?_
   refine Z _ ?_; clear Z K0; simp only [put, app, ae, ai, zE, zS, D]
   (refine af rfl fun K0 Z => ?_; simp only [zE, op1, ev, lkp, ak, aj, bz, reduceCtorEq, E, D, J, Y, U, V, Tryd.td4, Mpr.av, Mly.av, bv, br, List.getD_cons_zero]; refine Z _ ?_; clear Z K0; simp only [put, app, ae, ai, zE, zS, D])
   refine am ?_
   refine ⟨by simp only [aa, lkp, zE, reduceCtorEq, E, ad, D]; exact rfl, rfl, ?_, rfl⟩; (repeat refine aX rfl ?_); exact bE (by exact rfl) hq24
  case b24 => exact bD (by first | rfl | (simp [c0]; done) | decide)
  simp only [bq, bf]
  (refine af rfl fun K0 Z => ?_; simp only [zE, op1, ev, lkp, ak, aj, ev, reduceCtorEq, E, D, J, Y, U, V, Tryd.td4, Mpr.av, Mly.av, bv, br, List.getD_cons_zero]; refine Z _ ?_; clear Z K0; simp only [put, app, ae, ai, zE, zS, D])
  refine' aY (want := true) 9 rfl (m := 124) (by simp only [aa, lkp, zE, reduceCtorEq, E, ad, D]; exact rfl) (by kernel_rfl) rfl rfl rfl rfl rfl (fun hg25 => ?a25) ?b25 ?c25
  case a25 =>
   have hq25 := hg25; (try simp only [zB, reduceCtorEq] at hg25); simp only [List.take_succ_cons, List.take_zero, List.cons_append, List.nil_append]
   (refine ay rfl fun K0 Z => ?_; simp only [zE, op1, ev, lkp, ak, aj, aI, Nat.mul_one, aB, aG, acs, Ty.dflt, zG, aA, reduceCtorEq, E, D, J, Y, U, V, Tryd.st47, Tryd.td47, Mpr.av, Mly.av, bv, br, List.getD_cons_zero]; (repeat refine And.intro (by first | omega | assumption | exact rfl) ?_); refine Z _ ?_; clear Z K0; simp only [put, app, ae, ai, zE, zS, D])
   (refine ay rfl fun K0 Z => ?_; simp only [zE, op1, ev, lkp, ak, aj, bb, bn, bZ, rep, aK, aS, ax, Ty.size, reduceCtorEq, E, D, J, Y, U, V, Tryd.el25, Tryd.td2, Tryd.td25, Mpr.av, Mly.av, bv, br, List.getD_cons_zero]; (repeat refine And.intro (by first | omega | assumption | exact rfl) ?_); (first | refine Z _ ?_ | refine Or.inl (Z _ ?_)); clear Z K0; simp only [put, app, ae, ai, zE, zS, D])
   (refine ay rfl fun K0 Z => ?_; simp only [zE, op1, ev, lkp, ak, aj, bb, bn, bZ, rep, aK, aS, ax, Ty.size, reduceCtorEq, E, D, J, Y, U, V, Tryd.el25, Tryd.td2, Tryd.td25, Mpr.av, Mly.av, bv, br, List.getD_cons_zero]; (repeat refine And.intro (by first | omega | assumption | exact rfl) ?_); (first | refine Z _ ?_ | refine Or.inl (Z _ ?_)); clear Z K0; simp only [put, app, ae, ai, zE, zS, D])
   (refine ay rfl fun K0 Z => ?_; simp only [zE, op1, ev, lkp, ak, aj, bb, bn, bZ, rep, aK, aS, ax, Ty.size, reduceCtorEq, E, D, J, Y, U, V, Tryd.el22, Tryd.td2, Tryd.td22, Mpr.av, Mly.av, bv, br, List.getD_cons_zero]; (repeat refine And.intro (by first | omega | assumption | exact rfl) ?_); (first | refine Z _ ?_ | refine Or.inl (Z _ ?_)); clear Z K0; simp only [put, app, ae, ai, zE, zS, D])
   (refine ay rfl fun K0 Z => ?_; simp only [zE, op1, ev, lkp, ak, aj, bb, bn, bZ, rep, aK, aS, ax, Ty.size, reduceCtorEq, E, D, J, Y, U, V, Tryd.el25, Tryd.td2, Tryd.td25, Mpr.av, Mly.av, bv, br, List.getD_cons_zero]; (repeat refine And.intro (by first | omega | assumption | exact rfl) ?_); (first | refine Z _ ?_ | refine Or.inl (Z _ ?_)); clear Z K0; simp only [put, app, ae, ai, zE, zS, D])
   (refine ay rfl fun K0 Z => ?_; simp only [zE, op1, ev, lkp, ak, aj, bb, bn, bZ, rep, aK, aS, ax, Ty.size, reduceCtorEq, E, D, J, Y, U, V, Tryd.el25, Tryd.td2, Tryd.td25, Mpr.av, Mly.av, bv, br, List.getD_cons_zero]; (repeat refine And.intro (by first | omega | assumption | exact rfl) ?_); (first | refine Z _ ?_ | refine Or.inl (Z _ ?_)); clear Z K0; simp only [put, app, ae, ai, zE, zS, D])
   (refine ay rfl fun K0 Z => ?_; simp only [zE, op1, ev, lkp, ak, aj, bb, bn, bZ, rep, aK, aS, ax, Ty.size, reduceCtorEq, E, D, J, Y, U, V, Tryd.el22, Tryd.td2, Tryd.td22, Mpr.av, Mly.av, bv, br, List.getD_cons_zero]; (repeat refine And.intro (by first | omega | assumption | exact rfl) ?_); (first | refine Z _ ?_ | refine Or.inl (Z _ ?_)); clear Z K0; simp only [put, app, ae, ai, zE, zS, D])
   (refine ay rfl fun K0 Z => ?_; simp only [zE, op1, ev, lkp, ak, aj, cv, bn, aS, ax, reduceCtorEq, E, D, J, Y, U, V, Tryd.st47, Tryd.td47, Mpr.av, Mly.av, bv, br, List.getD_cons_zero]; (repeat refine And.intro (by first | omega | assumption | exact rfl) ?_); (first | refine Z _ ?_ | refine Or.inl (Z _ ?_)); clear Z K0; simp only [put, app, ae, ai, zE, zS, D])
   refine ay rfl fun K0 Z => ?_
   refine aZ (h := aP (q9 ⟨2, 0, [[1, 0], [0, 1]], [[2, 1], [3, 2]]⟩ ⟨2, 0, [[1, 0], [0, 1]], [[2, 1], [3, 2]]⟩)) rfl rfl (by first | exact rfl | (simp only [ev, aa, lkp, zE, reduceCtorEq, E, ad, D]; exact rfl)) (by simp only [zE, zG, op1, ev, lkp, ak, aj, ax, acs, bp, mv1, mvC, Ty.dflt, reduceCtorEq, E, D, J, Y, U, V, Mpr.av, Mly.av, bv, br, List.getD_cons_zero]) ?_
   refine Z _ ?_; clear Z K0; simp only [put, app, ae, ai, zE, zS, D]
   (refine af rfl fun K0 Z => ?_; simp only [zE, op1, ev, lkp, ak, aj, bz, reduceCtorEq, E, D, J, Y, U, V, Tryd.td4, Mpr.av, Mly.av, bv, br, List.getD_cons_zero]; refine Z _ ?_; clear Z K0; simp only [put, app, ae, ai, zE, zS, D])
   refine am ?_
   refine ⟨by simp only [aa, lkp, zE, reduceCtorEq, E, ad, D]; exact rfl, rfl, ?_, rfl⟩; (repeat refine aX rfl ?_); exact bE (by exact rfl) hq25
  case b25 => exact bD (by first | rfl | (simp [c0]; done) | decide)
  simp only [bq, bf]
  (refine af rfl fun K0 Z => ?_; simp only [zE, op1, ev, lkp, ak, aj, ev, reduceCtorEq, E, D, J, Y, U, V, Tryd.td4, Mpr.av, Mly.av, bv, br, List.getD_cons_zero]; refine Z _ ?_; clear Z K0; simp only [put, app, ae, ai, zE, zS, D])
  refine am ?_
  refine hK22 _ ?_; clear hK22; refine ah [0, 1, 2, 4, 5, 6, 7, 8, 9, 10, 13, 14, 15, 16, 17, 19, 20, 109] ?_; simp only [aa, lkp, zE, reduceCtorEq, E, ad, D]
  refine aM ?_
  refine ⟨by first | exact .inl rfl | exact .inr rfl, _, rfl, ?_⟩; simp only [fzV, fz1, fzC, List.map_cons, List.map_nil, aa, lkp, zE, reduceCtorEq, E, ad, D, Mpr.av, Mly.av, bv, br, List.getD_cons_zero]
  refine VLE.of_eq ?_
  refine congrArg (fun b => AV.one (AC.bool b)) ?_
  decide +kernel
end Go.Proofs.YtgmgnkmgofkfpaaDoor
namespace Go.AV
open Nat renaming reduceEqDiff → E, reduceAdd → D, reduceLeDiff → J, reduceLT → Y, reduceMul → U, reduceSub → V
open List renaming set_cons_zero → au, set_cons_succ → ar
/-plain-/
/-! The greatest output. -/
/-! The systems. -/
def IP (a b : Mly) (p : PP) : Prop := (0 ≤ p.1 ∧ p.1 < a.nx.length) ∧ 0 ≤ p.2 ∧ p.2 < b.nx.length
def IS (m : Mly) (p : PP) : Prop := (0 ≤ p.1 ∧ p.1 < m.nx.length) ∧ p.2 = 0
theorem IP.st {a b : Mly} (ha : MOK a) (hb : MOK b) : IP a b (a.st, b.st) := ⟨⟨ha.s1, ha.s2⟩, hb.s1, hb.s2⟩
theorem IS.st {m : Mly} (hm : MOK m) : IS m (m.st, 0) := ⟨⟨hm.s1, hm.s2⟩, rfl⟩
/-! What the functions return. -/
/-! Restrict and Map: the trimmed machine. -/
/-! The machine of pairs (s, 0) is the trimmed machine. -/
structure SNG (X : Mly) (F : SYS) : Prop where
  st : ∀ s x : Nat, s < X.nx.length → (x : Int) < X.inp → F ((s : Int), 0) x = ((X.nxt s x, 0), X.out s x)
end Go.AV
namespace Go.AV
open Nat renaming reduceEqDiff → E, reduceAdd → D, reduceLeDiff → J, reduceLT → Y, reduceMul → U, reduceSub → V
open List renaming set_cons_zero → au, set_cons_succ → ar
/-plain-/
abbrev Bs := List UInt8
def okI (c : Int) : Prop := (97 ≤ c ∧ c ≤ 122) ∨ (65 ≤ c ∧ c ≤ 90) ∨ (48 ≤ c ∧ c ≤ 57) ∨ c = 95 ∨ c = 45 ∨ c = 46
instance (c : Int) : Decidable (okI c) := by unfold okI; exact inferInstance
def rP (s : Bs) : Bool := s.all (fun b => decide (okI (b.toNat : Int))) && decide (1 ≤ s.length) && decide (s.length ≤ 32)
/-! Alphabets. -/
structure AOK (xs : List Bs) : Prop where
  n0 : 1 ≤ xs.length
  n1 : xs.length ≤ 64
  nm : ∀ k, k < xs.length → rP (xs.getD k []) = true
  nw : ∀ k, k < xs.length → xs.getD k [] ∉ xs.take k
theorem jq {xs : List Bs} {k : Nat} (h : k < xs.length) : xs.getD k [] ∈ xs := by simp [List.getD, h]
theorem rS {xs : List Bs} {x : Bs} : x ∈ xs ↔ ∃ j, j < xs.length ∧ xs.getD j [] = x := by
  constructor
  · intro h
    obtain ⟨j, hj⟩ := List.getElem?_of_mem h
    exact ⟨j, (List.getElem?_eq_some_iff.1 hj).1, by simp [List.getD, hj]⟩
  · rintro ⟨j, hj, e⟩; rw [← e]; exact jq hj
theorem mX {xs : List Bs} {i k : Nat} (hi : i < k) : (xs.take k).getD i [] = xs.getD i [] := by simp [List.getD, List.getElem?_take, hi]
theorem lz {q : Bs} : ∀ {l : List Bs} {k : Nat}, k < pos l q → l.getD k [] ≠ q
  | [], k, h => by simp [pos] at h
  | y :: l, k, h => by
    simp only [pos] at h
    split at h
    · omega
    · rename_i e
      cases k with
      | zero => simpa [List.getD] using e
      | succ k =>
        have := lz (q := q) (l := l) (k := k) (by omega)
        simpa [List.getD] using this
theorem pJ {l : List Bs} {q : Bs} (h : q ∈ l) : l.getD (pos l q) [] = q := by rw [List.getD, m7 h]; rfl
theorem sf {l : List Bs} {q : Bs} {k : Nat} (hq : ∀ j, j < k → l.getD j [] ≠ q) (hk : k < l.length) (h : l.getD k [] = q) : pos l q = k ∧ q ∈ l := by
  have hm : q ∈ l := by rw [← h]; exact jq hk
  refine ⟨?_, hm⟩
  rcases Nat.lt_trichotomy k (pos l q) with h2 | h2 | h2
  · exact absurd h (lz h2)
  · exact h2.symm
  · exact absurd (pJ hm) (hq _ h2)
theorem AOK.pos {xs : List Bs} (h : AOK xs) {k : Nat} (hk : k < xs.length) : pos xs (xs.getD k []) = k :=
  (sf (fun j hj e => h.nw k hk (by rw [rS]; exact ⟨j, by rw [List.length_take]; omega, by rw [mX hj, e]⟩)) hk rfl).1
/-! Cutting at spaces. -/
/-! .. as a fold. -/
/-! Words and texts. -/
/-! The laws without the reference. -/
/-! Numbered alphabets. -/
end Go.AV
namespace Go.AV
open Nat renaming reduceEqDiff → E, reduceAdd → D, reduceLeDiff → J, reduceLT → Y, reduceMul → U, reduceSub → V
open List renaming set_cons_zero → au, set_cons_succ → ar
/-plain-/
def cmn : List Int → List Int → Nat
  | x :: a, y :: b => if x = y then cmn a b + 1 else 0
  | _, _ => 0
theorem nf : ∀ {k : Nat} {a b : List Int}, (∀ q, q < k → a.getD q 0 = b.getD q 0) → k ≤ a.length → k ≤ b.length → ¬ (k < a.length ∧ k < b.length ∧ a.getD k 0 = b.getD k 0) → cmn a b = k
  | 0, [], _, _, _, _, _ => by simp [cmn]
  | 0, _ :: _, [], _, _, _, _ => by simp [cmn]
  | 0, x :: a, y :: b, _, _, _, h => by
    have : x ≠ y := fun e => h ⟨by simp, by simp, by simpa [List.getD] using e⟩
    simp [cmn, this]
  | k + 1, [], _, _, h, _, _ => by simp at h
  | k + 1, _ :: _, [], _, _, h, _ => by simp at h
  | k + 1, x :: a, y :: b, hq, h1, h2, h => by
    have e : x = y := by simpa [List.getD] using hq 0 (by omega)
    simp only [cmn, if_pos e]
    congr 1
    refine nf (fun q hq2 => ?_) (by simpa using h1) (by simpa using h2) fun h3 => h ⟨by simpa using h3.1, by simpa using h3.2.1, by simpa [List.getD] using h3.2.2⟩
    simpa [List.getD] using hq (q + 1) (by omega)
end Go.AV
namespace Go.AV
open Nat renaming reduceEqDiff → E, reduceAdd → D, reduceLeDiff → J, reduceLT → Y, reduceMul → U, reduceSub → V
open List renaming set_cons_zero → au, set_cons_succ → ar
/-plain-/
def ru (a b : Dfa) : Int := if cQ a = 0 then (if cQ b = 0 then (if a.inp = b.inp then 0 else 15) else cQ b) else cQ a
def iB (a b : List Int) : Int := if cmn a b = a.length ∧ cmn a b = b.length then 0 else if cmn a b = a.length ∨ (cmn a b < b.length ∧ a.getD (cmn a b) 0 < b.getD (cmn a b) 0) then -1 else 1
def jM (a b : List Int) : Int := if a.length < b.length then -1 else if b.length < a.length then 1 else iB a b
theorem nz : ∀ a b : List Int, cmn a b ≤ a.length ∧ cmn a b ≤ b.length
  | [], _ => by simp [cmn]
  | _ :: _, [] => by simp [cmn]
  | x :: a, y :: b => by
    have := nz a b
    simp only [cmn]
    split
    · simp only [List.length_cons]; omega
    · simp
end Go.AV
namespace Go.Proofs.YtgmgnkmgofkfpaaDoor
open Go Go.AV
open Nat renaming reduceEqDiff → E, reduceAdd → D, reduceLeDiff → J, reduceLT → Y, reduceMul → U, reduceSub → V
open List renaming set_cons_zero → au, set_cons_succ → ar
set_option maxRecDepth 100000 in
theorem rK (a b : List Int) : cq Tryd.prog 61 [.one (.list (.int .i64) a), .one (.list (.int .i64) b)] (.one (.int .i64 (cmn a b : Int))) := by
 refine bB Tryd.func61 rfl (by kernel_rfl) (Nat.le_of_ble_eq_true rfl) rfl fun C hP hN hB => ?_
 replace hN : C.N = 30 := hN
 simp only [ad, D]
 refine gv 0 rfl fun hf0 => ?_; simp only [lkp, if_true, if_false, reduceCtorEq, E, eq_self, Nat.one_ne_zero, Nat.zero_ne_one, kw, jS, jA, Fit, and_true, implies_true, true_and] at hf0
 refine ag fun K1 hK1 => ?_
 refine ao hP hN rfl ?_
 (refine af rfl fun K0 Z => ?_; simp only [zE, op1, ev, lkp, ak, aj, ev, reduceCtorEq, E, D, J, Y, U, V, Tryd.td3]; refine Z _ ?_; clear Z K0; simp only [put, app, ae, ai, zE, zS, D])
 refine am ?_
 refine hK1 _ ?_; clear hK1; refine ah [0, 1, 4] ?_; simp only [aa, lkp, zE, reduceCtorEq, E, ad, D]
 refine ag fun K2 hK2 => ?_
 refine ao hP hN rfl ?_
 (refine af rfl fun K0 Z => ?_; simp only [zE, op1, ev, lkp, ak, aj, ev, reduceCtorEq, E, D, J, Y, U, V, Tryd.td3]; refine Z _ ?_; clear Z K0; simp only [put, app, ae, ai, zE, zS, D])
 refine am ?_
 refine hK2 _ ?_; clear hK2; refine ah [0, 1, 4, 5] ?_; simp only [aa, lkp, zE, reduceCtorEq, E, ad, D]
 refine ag fun K3 hK3 => ?_
 refine ba ?_
 refine ca (fun n4 s4 => ∃ (k : Nat), (k ≤ a.length) ∧ (k ≤ b.length) ∧ (∀ q, q < k → a.getD q 0 = b.getD q 0) ∧ n4 = a.length - k ∧ s4 = { env := [(0, .one (.list (.int .i64) a)), (1, .one (.list (.int .i64) b)), (4, .one (.int .i64 0)), (5, .one (.int .i64 (k : Int)))], L := [] }) ?_ ?_
 ·exact ⟨_, _, bg [0, 1, 4, 5], 0, Nat.zero_le _, Nat.zero_le _, fun q hq => by omega, rfl, rfl⟩
 ·rintro n4 s4 ⟨k, hk, hkb, hq, rfl, rfl⟩
  refine ag fun K5 hK5 => ?_
  refine ag fun K6 hK6 => ?_
  refine ch hP hN Tryd.mixed rfl ?_
  iterate 4 (refine af rfl fun K0 Z => ?_; simp only [zE, op1, ev, lkp, ak, aj, aH, bH, bt, bj, bl, bI, Nat.div_one, aL, bm, Ty.size, aK, dite_true, aF, aD, aE, aw, aC, aU, reduceCtorEq, E, D, J, Y, U, V, Tryd.el25, Tryd.td25, Tryd.td3, Tryd.td4]; (repeat refine And.intro (by first | omega | assumption | exact rfl) ?_); (first | refine Z _ ?_ | refine Or.inl (Z _ ?_)); clear Z K0; simp only [put, app, ae, ai, zE, zS, D])
  (refine af rfl fun K0 Z => ?_; simp only [zE, op1, ev, lkp, ak, aj, ev, reduceCtorEq, E, D, J, Y, U, V, Tryd.td4]; refine Z _ ?_; clear Z K0; simp only [put, app, ae, ai, zE, zS, D])
  refine' aY (want := true) 4 rfl (m := 10) (by simp only [aa, lkp, zE, reduceCtorEq, E, ad, D]; exact rfl) (by kernel_rfl) rfl rfl rfl rfl rfl (fun hg7 => ?a7) ?b7 ?c7
  case a7 =>
   have hq7 := hg7; (try simp only [zB, reduceCtorEq] at hg7); simp only [List.take_succ_cons, List.take_zero, List.cons_append, List.nil_append]
   (refine ay rfl fun K0 Z => ?_; simp only [zE, op1, ev, lkp, ak, aj, ev, reduceCtorEq, E, D, J, Y, U, V, Tryd.td3]; refine Z _ ?_; clear Z K0; simp only [put, app, ae, ai, zE, zS, D])
   (refine ay rfl fun K0 Z => ?_; simp only [zE, op1, ev, lkp, ak, aj, ev, reduceCtorEq, E, D, J, Y, U, V, Tryd.el25, Tryd.td25]; refine Z _ ?_; clear Z K0; simp only [put, app, ae, ai, zE, zS, D])
   (refine ay rfl fun K0 Z => ?_; simp only [zE, op1, ev, lkp, ak, aj, aH, bH, bt, bj, bl, bI, Nat.div_one, aL, bm, Ty.size, aK, dite_true, reduceCtorEq, E, D, J, Y, U, V, Tryd.el25, Tryd.td25, Tryd.td3]; (repeat refine And.intro (by first | omega | assumption | exact rfl) ?_); (first | refine Z _ ?_ | refine Or.inl (Z _ ?_)); clear Z K0; simp only [put, app, ae, ai, zE, zS, D])
   (refine ay rfl fun K0 Z => ?_; simp only [zE, op1, ev, lkp, ak, aj, aF, aD, aE, aw, aC, aU, reduceCtorEq, E, D, J, Y, U, V, Tryd.td3, Tryd.td4]; (repeat refine And.intro (by first | omega | assumption | exact rfl) ?_); refine Z _ ?_; clear Z K0; simp only [put, app, ae, ai, zE, zS, D])
   (refine af rfl fun K0 Z => ?_; simp only [zE, op1, ev, lkp, ak, aj, bz, reduceCtorEq, E, D, J, Y, U, V, Tryd.td4]; refine Z _ ?_; clear Z K0; simp only [put, app, ae, ai, zE, zS, D])
   refine am ?_
   refine ⟨by simp only [aa, lkp, zE, reduceCtorEq, E, ad, D]; exact rfl, rfl, ?_, rfl⟩; (repeat refine aX rfl ?_); exact bE (by exact rfl) hq7
  case b7 => exact bD (by first | rfl | (simp [c0]; done) | decide)
  simp only [bq, bf]
  (refine af rfl fun K0 Z => ?_; simp only [zE, op1, ev, lkp, ak, aj, ev, reduceCtorEq, E, D, J, Y, U, V, Tryd.td4]; refine Z _ ?_; clear Z K0; simp only [put, app, ae, ai, zE, zS, D])
  refine' aY (want := true) 9 rfl (m := 16) (by simp only [aa, lkp, zE, reduceCtorEq, E, ad, D]; exact rfl) (by kernel_rfl) rfl rfl rfl rfl rfl (fun hg8 => ?a8) ?b8 ?c8
  case a8 =>
   have hq8 := hg8; (try simp only [zB, reduceCtorEq] at hg8); simp only [List.take_succ_cons, List.take_zero, List.cons_append, List.nil_append]
   (refine ay rfl fun K0 Z => ?_; simp only [zE, op1, ev, lkp, ak, aj, ev, reduceCtorEq, E, D, J, Y, U, V, Tryd.el25, Tryd.td25]; refine Z _ ?_; clear Z K0; simp only [put, app, ae, ai, zE, zS, D])
   (refine ay rfl fun K0 Z => ?_; simp only [zE, op1, ev, lkp, ak, aj, ev, reduceCtorEq, E, D, J, Y, U, V, Tryd.td3]; refine Z _ ?_; clear Z K0; simp only [put, app, ae, ai, zE, zS, D])
   (refine ay rfl fun K0 Z => ?_; simp only [zE, op1, ev, lkp, ak, aj, aW, zG, Ty.dflt, Ty.size, Nat.mul_one, ne_eq, not_false_eq_true, Int.natCast_one, Int.mul_one, reduceCtorEq, E, D, J, Y, U, V, Tryd.el25, Tryd.td25]; (repeat refine And.intro (by first | omega | assumption | exact rfl) ?_); refine Z _ ?_; clear Z K0; simp only [put, app, ae, ai, zE, zS, D])
   (refine ay rfl fun K0 Z => ?_; simp only [zE, op1, ev, lkp, ak, aj, aI, Nat.mul_one, aB, aG, acs, Ty.dflt, zG, aA, reduceCtorEq, E, D, J, Y, U, V, Tryd.td3]; (repeat refine And.intro (by first | omega | assumption | exact rfl) ?_); refine Z _ ?_; clear Z K0; simp only [put, app, ae, ai, zE, zS, D])
   (refine ay rfl fun K0 Z => ?_; simp only [zE, op1, ev, lkp, ak, aj, ev, reduceCtorEq, E, D, J, Y, U, V, Tryd.el25, Tryd.td25]; refine Z _ ?_; clear Z K0; simp only [put, app, ae, ai, zE, zS, D])
   (refine ay rfl fun K0 Z => ?_; simp only [zE, op1, ev, lkp, ak, aj, ev, reduceCtorEq, E, D, J, Y, U, V, Tryd.td3]; refine Z _ ?_; clear Z K0; simp only [put, app, ae, ai, zE, zS, D])
   (refine ay rfl fun K0 Z => ?_; simp only [zE, op1, ev, lkp, ak, aj, aW, zG, Ty.dflt, Ty.size, Nat.mul_one, ne_eq, not_false_eq_true, Int.natCast_one, Int.mul_one, reduceCtorEq, E, D, J, Y, U, V, Tryd.el25, Tryd.td25]; (repeat refine And.intro (by first | omega | assumption | exact rfl) ?_); refine Z _ ?_; clear Z K0; simp only [put, app, ae, ai, zE, zS, D])
   (refine ay rfl fun K0 Z => ?_; simp only [zE, op1, ev, lkp, ak, aj, aI, Nat.mul_one, aB, aG, acs, Ty.dflt, zG, aA, reduceCtorEq, E, D, J, Y, U, V, Tryd.td3]; (repeat refine And.intro (by first | omega | assumption | exact rfl) ?_); refine Z _ ?_; clear Z K0; simp only [put, app, ae, ai, zE, zS, D])
   (refine ay rfl fun K0 Z => ?_; simp only [zE, op1, ev, lkp, ak, aj, aF, aD, aE, aw, aC, aU, reduceCtorEq, E, D, J, Y, U, V, Tryd.td3, Tryd.td4]; (repeat refine And.intro (by first | omega | assumption | exact rfl) ?_); refine Z _ ?_; clear Z K0; simp only [put, app, ae, ai, zE, zS, D])
   (refine af rfl fun K0 Z => ?_; simp only [zE, op1, ev, lkp, ak, aj, bz, reduceCtorEq, E, D, J, Y, U, V, Tryd.td4]; refine Z _ ?_; clear Z K0; simp only [put, app, ae, ai, zE, zS, D])
   refine am ?_
   refine ⟨by simp only [aa, lkp, zE, reduceCtorEq, E, ad, D]; exact rfl, rfl, ?_, rfl⟩; (repeat refine aX rfl ?_); exact bE (by exact rfl) hq8
  case b8 => exact bD (by first | rfl | (simp [c0]; done) | decide)
  simp only [bq, bf]
  refine am ?_
  refine ⟨by kernel_rfl, ?_⟩
  refine hK6 _ ?_; clear hK6; refine ah [0, 1, 4, 5, 26] ?_; simp only [aa, lkp, zE, reduceCtorEq, E, ad, D]
  refine aJ (by simp only [ev, aa, lkp, zE, reduceCtorEq, E, ad, D]; exact rfl) (fun hc9 => ?_) (fun hc9 => ?_)
  ·(try simp only [zB, reduceCtorEq] at hc9)
   have h3 : k < a.length ∧ k < b.length ∧ a.getD k 0 = b.getD k 0 := by have h9 := hc9; omega
   refine aQ ?_
   refine hK5 _ ?_; clear hK5; refine ah [0, 1, 4, 5, 26] ?_; simp only [aa, lkp, zE, reduceCtorEq, E, ad, D]
   refine ba ?_
   refine ao hP hN rfl ?_
   iterate 3 (refine af rfl fun K0 Z => ?_; simp only [zE, op1, ev, lkp, ak, aj, aF, aD, aE, aw, aC, aU, reduceCtorEq, E, D, J, Y, U, V, Tryd.td3]; (repeat refine And.intro (by first | omega | assumption | exact rfl) ?_); refine Z _ ?_; clear Z K0; simp only [put, app, ae, ai, zE, zS, D])
   refine am ?_
   refine ⟨_, _, ?_, bg [0, 1, 4, 5], k + 1, by omega, by omega, fun q hq2 => ?_, rfl, rfl⟩
   · omega
   · by_cases e : q = k
     · rw [e]; exact h3.2.2
     · exact hq q (by omega)
  ·(try simp only [zB, reduceCtorEq] at hc9)
   have hs : ¬ (k < a.length ∧ k < b.length ∧ a.getD k 0 = b.getD k 0) := by have h9 := hc9; omega
   refine c9 ?_
   refine hK3 _ ?_; clear hK3; refine ah [0, 1, 4, 5, 26] ?_; simp only [aa, lkp, zE, reduceCtorEq, E, ad, D]
   refine ag fun K10 hK10 => ?_
   refine ao hP hN rfl ?_
   iterate 2 (refine af rfl fun K0 Z => ?_; simp only [zE, op1, ev, lkp, ak, aj, ev, reduceCtorEq, E, D, J, Y, U, V, Tryd.td3]; refine Z _ ?_; clear Z K0; simp only [put, app, ae, ai, zE, zS, D])
   refine am ?_
   refine hK10 _ ?_; clear hK10; refine ah [0, 1, 4, 5, 26] ?_; simp only [aa, lkp, zE, reduceCtorEq, E, ad, D]
   refine aM ?_
   refine ⟨by first | exact .inl rfl | exact .inr rfl, _, rfl, ?_⟩; simp only [fzV, fz1, fzC, List.map_cons, List.map_nil, aa, lkp, zE, reduceCtorEq, E, ad, D]
   refine VLE.of_eq ?_
   refine congrArg (fun n => AV.one (AC.int IntKind.i64 n)) ?_
   rw [nf hq hk hkb hs]
end Go.Proofs.YtgmgnkmgofkfpaaDoor
namespace Go.Proofs.YtgmgnkmgofkfpaaDoor
open Go Go.AV
open Nat renaming reduceEqDiff → E, reduceAdd → D, reduceLeDiff → J, reduceLT → Y, reduceMul → U, reduceSub → V
open List renaming set_cons_zero → au, set_cons_succ → ar
set_option maxRecDepth 100000 in
theorem rj (a b : List Int) : cq Tryd.prog 48 [.one (.list (.int .i64) a), .one (.list (.int .i64) b)] (.one (.int .i64 (iB a b))) := by
 refine bB Tryd.func48 rfl (by kernel_rfl) (Nat.le_of_ble_eq_true rfl) rfl fun C hP hN hB => ?_
 replace hN : C.N = 40 := hN
 simp only [ad, D]
 have hcl := nz a b
 refine ag fun K1 hK1 => ?_
 refine ao hP hN rfl ?_
 (refine af rfl fun K0 Z => ?_; simp only [zE, op1, ev, lkp, ak, aj, ev, reduceCtorEq, E, D, J, Y, U, V, Tryd.td3]; refine Z _ ?_; clear Z K0; simp only [put, app, ae, ai, zE, zS, D])
 refine am ?_
 refine hK1 _ ?_; clear hK1; refine ah [0, 1, 4] ?_; simp only [aa, lkp, zE, reduceCtorEq, E, ad, D]
 refine ag fun K2 hK2 => ?_
 refine ao hP hN rfl ?_
 iterate 2 (refine af rfl fun K0 Z => ?_; simp only [zE, op1, ev, lkp, ak, aj, ev, reduceCtorEq, E, D, J, Y, U, V, Tryd.el25, Tryd.td25]; refine Z _ ?_; clear Z K0; simp only [put, app, ae, ai, zE, zS, D])
 refine af rfl fun K0 Z => ?_
 refine aZ (h := aP (rK a b)) rfl rfl (by first | exact rfl | (simp only [ev, aa, lkp, zE, reduceCtorEq, E, ad, D]; exact rfl)) (by simp only [zE, zG, op1, ev, lkp, ak, aj, ax, acs, bp, mv1, mvC, Ty.dflt, reduceCtorEq, E, D, J, Y, U, V]) ?_
 refine Z _ ?_; clear Z K0; simp only [put, app, ae, ai, zE, zS, D]
 (refine af rfl fun K0 Z => ?_; simp only [zE, op1, ev, lkp, ak, aj, ev, reduceCtorEq, E, D, J, Y, U, V, Tryd.td3]; refine Z _ ?_; clear Z K0; simp only [put, app, ae, ai, zE, zS, D])
 refine am ?_
 refine hK2 _ ?_; clear hK2; refine ah [0, 1, 4, 5] ?_; simp only [aa, lkp, zE, reduceCtorEq, E, ad, D]
 refine ag fun K3 hK3 => ?_
 refine ba ?_
 refine ag fun K4 hK4 => ?_
 refine ao hP hN rfl ?_
 iterate 4 (refine af rfl fun K0 Z => ?_; simp only [zE, op1, ev, lkp, ak, aj, aH, bH, bt, bj, bl, bI, Nat.div_one, aL, bm, Ty.size, aK, dite_true, aF, aD, aE, aw, aC, aU, reduceCtorEq, E, D, J, Y, U, V, Tryd.el25, Tryd.td25, Tryd.td3, Tryd.td4]; (repeat refine And.intro (by first | omega | assumption | exact rfl) ?_); (first | refine Z _ ?_ | refine Or.inl (Z _ ?_)); clear Z K0; simp only [put, app, ae, ai, zE, zS, D])
 (refine af rfl fun K0 Z => ?_; simp only [zE, op1, ev, lkp, ak, aj, ev, reduceCtorEq, E, D, J, Y, U, V, Tryd.td4]; refine Z _ ?_; clear Z K0; simp only [put, app, ae, ai, zE, zS, D])
 refine' aY (want := true) 4 rfl (m := 14) (by simp only [aa, lkp, zE, reduceCtorEq, E, ad, D]; exact rfl) (by kernel_rfl) rfl rfl rfl rfl rfl (fun hg5 => ?a5) ?b5 ?c5
 case a5 =>
  have hq5 := hg5; (try simp only [zB, reduceCtorEq] at hg5); simp only [List.take_succ_cons, List.take_zero, List.cons_append, List.nil_append]
  (refine ay rfl fun K0 Z => ?_; simp only [zE, op1, ev, lkp, ak, aj, ev, reduceCtorEq, E, D, J, Y, U, V, Tryd.td3]; refine Z _ ?_; clear Z K0; simp only [put, app, ae, ai, zE, zS, D])
  (refine ay rfl fun K0 Z => ?_; simp only [zE, op1, ev, lkp, ak, aj, ev, reduceCtorEq, E, D, J, Y, U, V, Tryd.el25, Tryd.td25]; refine Z _ ?_; clear Z K0; simp only [put, app, ae, ai, zE, zS, D])
  (refine ay rfl fun K0 Z => ?_; simp only [zE, op1, ev, lkp, ak, aj, aH, bH, bt, bj, bl, bI, Nat.div_one, aL, bm, Ty.size, aK, dite_true, reduceCtorEq, E, D, J, Y, U, V, Tryd.el25, Tryd.td25, Tryd.td3]; (repeat refine And.intro (by first | omega | assumption | exact rfl) ?_); (first | refine Z _ ?_ | refine Or.inl (Z _ ?_)); clear Z K0; simp only [put, app, ae, ai, zE, zS, D])
  (refine ay rfl fun K0 Z => ?_; simp only [zE, op1, ev, lkp, ak, aj, aF, aD, aE, aw, aC, aU, reduceCtorEq, E, D, J, Y, U, V, Tryd.td3, Tryd.td4]; (repeat refine And.intro (by first | omega | assumption | exact rfl) ?_); refine Z _ ?_; clear Z K0; simp only [put, app, ae, ai, zE, zS, D])
  (refine af rfl fun K0 Z => ?_; simp only [zE, op1, ev, lkp, ak, aj, bz, reduceCtorEq, E, D, J, Y, U, V, Tryd.td4]; refine Z _ ?_; clear Z K0; simp only [put, app, ae, ai, zE, zS, D])
  refine am ?_
  refine ⟨by simp only [aa, lkp, zE, reduceCtorEq, E, ad, D]; exact rfl, rfl, ?_, rfl⟩; (repeat refine aX rfl ?_); exact bE (by exact rfl) hq5
 case b5 => exact bD (by first | rfl | (simp [c0]; done) | decide)
 simp only [bq, bf]
 (refine af rfl fun K0 Z => ?_; simp only [zE, op1, ev, lkp, ak, aj, ev, reduceCtorEq, E, D, J, Y, U, V, Tryd.td4]; refine Z _ ?_; clear Z K0; simp only [put, app, ae, ai, zE, zS, D])
 refine am ?_
 refine hK4 _ ?_; clear hK4; refine ah [0, 1, 4, 5, 9] ?_; simp only [aa, lkp, zE, reduceCtorEq, E, ad, D]
 refine aJ (by simp only [ev, aa, lkp, zE, reduceCtorEq, E, ad, D]; exact rfl) (fun hc6 => ?_) (fun hc6 => ?_)
 ·(try simp only [zB, reduceCtorEq] at hc6)
  refine ag fun K7 hK7 => ?_
  refine ao hP hN rfl ?_
  (refine af rfl fun K0 Z => ?_; simp only [zE, op1, ev, lkp, ak, aj, ev, reduceCtorEq, E, D, J, Y, U, V, Tryd.td3]; refine Z _ ?_; clear Z K0; simp only [put, app, ae, ai, zE, zS, D])
  refine am ?_
  refine hK7 _ ?_; clear hK7; refine ah [0, 1, 4, 5, 9] ?_; simp only [aa, lkp, zE, reduceCtorEq, E, ad, D]
  refine aM ?_
  refine ⟨by first | exact .inl rfl | exact .inr rfl, _, rfl, ?_⟩; simp only [fzV, fz1, fzC, List.map_cons, List.map_nil, aa, lkp, zE, reduceCtorEq, E, ad, D]
  refine VLE.of_eq ?_
  refine congrArg (fun n => AV.one (AC.int IntKind.i64 n)) ?_
  unfold iB
  symm
  first
  | (rw [if_pos (by omega)]; done)
  | (rw [if_neg (by omega), if_pos (by omega)]; done)
  | (rw [if_neg (by omega), if_neg (by omega)]; done)
 ·(try simp only [zB, reduceCtorEq] at hc6)
  refine ag fun K8 hK8 => ?_
  refine ag fun K9 hK9 => ?_
  refine ao hP hN rfl ?_
  iterate 5 (refine af rfl fun K0 Z => ?_; simp only [zE, op1, ev, lkp, ak, aj, aH, bH, bt, bj, bl, bI, Nat.div_one, aL, bm, Ty.size, aK, dite_true, aF, aD, aE, aw, aC, aU, reduceCtorEq, E, D, J, Y, U, V, Tryd.el25, Tryd.td25, Tryd.td3, Tryd.td4]; (repeat refine And.intro (by first | omega | assumption | exact rfl) ?_); (first | refine Z _ ?_ | refine Or.inl (Z _ ?_)); clear Z K0; simp only [put, app, ae, ai, zE, zS, D])
  refine am ?_
  refine hK9 _ ?_; clear hK9; refine ah [0, 1, 4, 5, 9, 20] ?_; simp only [aa, lkp, zE, reduceCtorEq, E, ad, D]
  refine aJ (by simp only [ev, aa, lkp, zE, reduceCtorEq, E, ad, D]; exact rfl) (fun hc10 => ?_) (fun hc10 => ?_)
  ·(try simp only [zB, reduceCtorEq] at hc10)
   refine aQ ?_
   refine hK8 _ ?_; clear hK8; refine ah [0, 1, 4, 5, 9, 20] ?_; simp only [aa, lkp, zE, reduceCtorEq, E, ad, D]
   refine aJ (by simp only [ev, aa, lkp, zE, reduceCtorEq, E, ad, D]; exact rfl) (fun hc11 => ?_) (fun hc11 => ?_)
   ·(try simp only [zB, reduceCtorEq] at hc11)
    refine ag fun K12 hK12 => ?_
    refine ao hP hN rfl ?_
    (refine af rfl fun K0 Z => ?_; simp only [zE, op1, ev, lkp, ak, aj, ev, reduceCtorEq, E, D, J, Y, U, V, Tryd.td3]; refine Z _ ?_; clear Z K0; simp only [put, app, ae, ai, zE, zS, D])
    refine am ?_
    refine hK12 _ ?_; clear hK12; refine ah [0, 1, 4, 5, 9, 20] ?_; simp only [aa, lkp, zE, reduceCtorEq, E, ad, D]
    refine aM ?_
    refine ⟨by first | exact .inl rfl | exact .inr rfl, _, rfl, ?_⟩; simp only [fzV, fz1, fzC, List.map_cons, List.map_nil, aa, lkp, zE, reduceCtorEq, E, ad, D]
    refine VLE.of_eq ?_
    refine congrArg (fun n => AV.one (AC.int IntKind.i64 n)) ?_
    unfold iB
    symm
    first
    | (rw [if_pos (by omega)]; done)
    | (rw [if_neg (by omega), if_pos (by omega)]; done)
    | (rw [if_neg (by omega), if_neg (by omega)]; done)
   ·(try simp only [zB, reduceCtorEq] at hc11)
    refine aQ ?_
    refine hK3 _ ?_; clear hK3; refine ah [0, 1, 4, 5, 9, 20] ?_; simp only [aa, lkp, zE, reduceCtorEq, E, ad, D]
    refine ag fun K13 hK13 => ?_
    refine ao hP hN rfl ?_
    (refine af rfl fun K0 Z => ?_; simp only [zE, op1, ev, lkp, ak, aj, ev, reduceCtorEq, E, D, J, Y, U, V, Tryd.td3]; refine Z _ ?_; clear Z K0; simp only [put, app, ae, ai, zE, zS, D])
    refine am ?_
    refine hK13 _ ?_; clear hK13; refine ah [0, 1, 4, 5, 9, 20] ?_; simp only [aa, lkp, zE, reduceCtorEq, E, ad, D]
    refine aM ?_
    refine ⟨by first | exact .inl rfl | exact .inr rfl, _, rfl, ?_⟩; simp only [fzV, fz1, fzC, List.map_cons, List.map_nil, aa, lkp, zE, reduceCtorEq, E, ad, D]
    refine VLE.of_eq ?_
    refine congrArg (fun n => AV.one (AC.int IntKind.i64 n)) ?_
    unfold iB
    symm
    first
    | (rw [if_pos (by omega)]; done)
    | (rw [if_neg (by omega), if_pos (by omega)]; done)
    | (rw [if_neg (by omega), if_neg (by omega)]; done)
  ·(try simp only [zB, reduceCtorEq] at hc10)
   refine ch hP hN Tryd.mixed rfl ?_
   iterate 4 (refine af rfl fun K0 Z => ?_; simp only [zE, op1, ev, lkp, ak, aj, aH, bH, bt, bj, bl, bI, Nat.div_one, aL, bm, Ty.size, aK, dite_true, aF, aD, aE, aw, aC, aU, reduceCtorEq, E, D, J, Y, U, V, Tryd.el25, Tryd.td25, Tryd.td3, Tryd.td4]; (repeat refine And.intro (by first | omega | assumption | exact rfl) ?_); (first | refine Z _ ?_ | refine Or.inl (Z _ ?_)); clear Z K0; simp only [put, app, ae, ai, zE, zS, D])
   (refine af rfl fun K0 Z => ?_; simp only [zE, op1, ev, lkp, ak, aj, ev, reduceCtorEq, E, D, J, Y, U, V, Tryd.td4]; refine Z _ ?_; clear Z K0; simp only [put, app, ae, ai, zE, zS, D])
   refine' aY (want := true) 9 rfl (m := 29) (by simp only [aa, lkp, zE, reduceCtorEq, E, ad, D]; exact rfl) (by kernel_rfl) rfl rfl rfl rfl rfl (fun hg14 => ?a14) ?b14 ?c14
   case a14 =>
    have hq14 := hg14; (try simp only [zB, reduceCtorEq] at hg14); simp only [List.take_succ_cons, List.take_zero, List.cons_append, List.nil_append]
    (refine ay rfl fun K0 Z => ?_; simp only [zE, op1, ev, lkp, ak, aj, ev, reduceCtorEq, E, D, J, Y, U, V, Tryd.el25, Tryd.td25]; refine Z _ ?_; clear Z K0; simp only [put, app, ae, ai, zE, zS, D])
    (refine ay rfl fun K0 Z => ?_; simp only [zE, op1, ev, lkp, ak, aj, ev, reduceCtorEq, E, D, J, Y, U, V, Tryd.td3]; refine Z _ ?_; clear Z K0; simp only [put, app, ae, ai, zE, zS, D])
    (refine ay rfl fun K0 Z => ?_; simp only [zE, op1, ev, lkp, ak, aj, aW, zG, Ty.dflt, Ty.size, Nat.mul_one, ne_eq, not_false_eq_true, Int.natCast_one, Int.mul_one, reduceCtorEq, E, D, J, Y, U, V, Tryd.el25, Tryd.td25]; (repeat refine And.intro (by first | omega | assumption | exact rfl) ?_); refine Z _ ?_; clear Z K0; simp only [put, app, ae, ai, zE, zS, D])
    (refine ay rfl fun K0 Z => ?_; simp only [zE, op1, ev, lkp, ak, aj, aI, Nat.mul_one, aB, aG, acs, Ty.dflt, zG, aA, reduceCtorEq, E, D, J, Y, U, V, Tryd.td3]; (repeat refine And.intro (by first | omega | assumption | exact rfl) ?_); refine Z _ ?_; clear Z K0; simp only [put, app, ae, ai, zE, zS, D])
    (refine ay rfl fun K0 Z => ?_; simp only [zE, op1, ev, lkp, ak, aj, ev, reduceCtorEq, E, D, J, Y, U, V, Tryd.el25, Tryd.td25]; refine Z _ ?_; clear Z K0; simp only [put, app, ae, ai, zE, zS, D])
    (refine ay rfl fun K0 Z => ?_; simp only [zE, op1, ev, lkp, ak, aj, ev, reduceCtorEq, E, D, J, Y, U, V, Tryd.td3]; refine Z _ ?_; clear Z K0; simp only [put, app, ae, ai, zE, zS, D])
    (refine ay rfl fun K0 Z => ?_; simp only [zE, op1, ev, lkp, ak, aj, aW, zG, Ty.dflt, Ty.size, Nat.mul_one, ne_eq, not_false_eq_true, Int.natCast_one, Int.mul_one, reduceCtorEq, E, D, J, Y, U, V, Tryd.el25, Tryd.td25]; (repeat refine And.intro (by first | omega | assumption | exact rfl) ?_); refine Z _ ?_; clear Z K0; simp only [put, app, ae, ai, zE, zS, D])
    (refine ay rfl fun K0 Z => ?_; simp only [zE, op1, ev, lkp, ak, aj, aI, Nat.mul_one, aB, aG, acs, Ty.dflt, zG, aA, reduceCtorEq, E, D, J, Y, U, V, Tryd.td3]; (repeat refine And.intro (by first | omega | assumption | exact rfl) ?_); refine Z _ ?_; clear Z K0; simp only [put, app, ae, ai, zE, zS, D])
    (refine ay rfl fun K0 Z => ?_; simp only [zE, op1, ev, lkp, ak, aj, aF, aD, aE, aw, aC, aU, reduceCtorEq, E, D, J, Y, U, V, Tryd.td3, Tryd.td4]; (repeat refine And.intro (by first | omega | assumption | exact rfl) ?_); refine Z _ ?_; clear Z K0; simp only [put, app, ae, ai, zE, zS, D])
    (refine af rfl fun K0 Z => ?_; simp only [zE, op1, ev, lkp, ak, aj, bz, reduceCtorEq, E, D, J, Y, U, V, Tryd.td4]; refine Z _ ?_; clear Z K0; simp only [put, app, ae, ai, zE, zS, D])
    refine am ?_
    refine ⟨by simp only [aa, lkp, zE, reduceCtorEq, E, ad, D]; exact rfl, rfl, ?_, rfl⟩; (repeat refine aX rfl ?_); exact bE (by exact rfl) hq14
   case b14 => exact bD (by first | rfl | (simp [c0]; done) | decide)
   simp only [bq, bf]
   (refine af rfl fun K0 Z => ?_; simp only [zE, op1, ev, lkp, ak, aj, ev, reduceCtorEq, E, D, J, Y, U, V, Tryd.td4]; refine Z _ ?_; clear Z K0; simp only [put, app, ae, ai, zE, zS, D])
   refine am ?_
   refine ⟨by kernel_rfl, ?_⟩
   refine hK8 _ ?_; clear hK8; refine ah [0, 1, 4, 5, 9, 20] ?_; simp only [aa, lkp, zE, reduceCtorEq, E, ad, D]
   refine aJ (by simp only [ev, aa, lkp, zE, reduceCtorEq, E, ad, D]; exact rfl) (fun hc15 => ?_) (fun hc15 => ?_)
   ·(try simp only [zB, reduceCtorEq] at hc15)
    refine ag fun K16 hK16 => ?_
    refine ao hP hN rfl ?_
    (refine af rfl fun K0 Z => ?_; simp only [zE, op1, ev, lkp, ak, aj, ev, reduceCtorEq, E, D, J, Y, U, V, Tryd.td3]; refine Z _ ?_; clear Z K0; simp only [put, app, ae, ai, zE, zS, D])
    refine am ?_
    refine hK16 _ ?_; clear hK16; refine ah [0, 1, 4, 5, 9, 20] ?_; simp only [aa, lkp, zE, reduceCtorEq, E, ad, D]
    refine aM ?_
    refine ⟨by first | exact .inl rfl | exact .inr rfl, _, rfl, ?_⟩; simp only [fzV, fz1, fzC, List.map_cons, List.map_nil, aa, lkp, zE, reduceCtorEq, E, ad, D]
    refine VLE.of_eq ?_
    refine congrArg (fun n => AV.one (AC.int IntKind.i64 n)) ?_
    unfold iB
    symm
    first
    | (rw [if_pos (by omega)]; done)
    | (rw [if_neg (by omega), if_pos (by omega)]; done)
    | (rw [if_neg (by omega), if_neg (by omega)]; done)
   ·(try simp only [zB, reduceCtorEq] at hc15)
    refine aQ ?_
    refine hK3 _ ?_; clear hK3; refine ah [0, 1, 4, 5, 9, 20] ?_; simp only [aa, lkp, zE, reduceCtorEq, E, ad, D]
    refine ag fun K17 hK17 => ?_
    refine ao hP hN rfl ?_
    (refine af rfl fun K0 Z => ?_; simp only [zE, op1, ev, lkp, ak, aj, ev, reduceCtorEq, E, D, J, Y, U, V, Tryd.td3]; refine Z _ ?_; clear Z K0; simp only [put, app, ae, ai, zE, zS, D])
    refine am ?_
    refine hK17 _ ?_; clear hK17; refine ah [0, 1, 4, 5, 9, 20] ?_; simp only [aa, lkp, zE, reduceCtorEq, E, ad, D]
    refine aM ?_
    refine ⟨by first | exact .inl rfl | exact .inr rfl, _, rfl, ?_⟩; simp only [fzV, fz1, fzC, List.map_cons, List.map_nil, aa, lkp, zE, reduceCtorEq, E, ad, D]
    refine VLE.of_eq ?_
    refine congrArg (fun n => AV.one (AC.int IntKind.i64 n)) ?_
    unfold iB
    symm
    first
    | (rw [if_pos (by omega)]; done)
    | (rw [if_neg (by omega), if_pos (by omega)]; done)
    | (rw [if_neg (by omega), if_neg (by omega)]; done)
end Go.Proofs.YtgmgnkmgofkfpaaDoor
namespace Go.Proofs.YtgmgnkmgofkfpaaDoor
open Go Go.AV
open Nat renaming reduceEqDiff → E, reduceAdd → D, reduceLeDiff → J, reduceLT → Y, reduceMul → U, reduceSub → V
open List renaming set_cons_zero → au, set_cons_succ → ar
set_option maxRecDepth 100000 in
theorem re (a b : List Int) : cq Tryd.prog 26 [.one (.list (.int .i64) a), .one (.list (.int .i64) b)] (.one (.int .i64 (jM a b))) := by
 refine bB Tryd.func26 rfl (by kernel_rfl) (Nat.le_of_ble_eq_true rfl) rfl fun C hP hN hB => ?_
 replace hN : C.N = 18 := hN
 simp only [ad, D]
 refine ag fun K1 hK1 => ?_
 refine ao hP hN rfl ?_
 (refine af rfl fun K0 Z => ?_; simp only [zE, op1, ev, lkp, ak, aj, ev, reduceCtorEq, E, D, J, Y, U, V, Tryd.td3]; refine Z _ ?_; clear Z K0; simp only [put, app, ae, ai, zE, zS, D])
 refine am ?_
 refine hK1 _ ?_; clear hK1; refine ah [0, 1, 4] ?_; simp only [aa, lkp, zE, reduceCtorEq, E, ad, D]
 refine ag fun K2 hK2 => ?_
 refine ag fun K3 hK3 => ?_
 refine ao hP hN rfl ?_
 iterate 5 (refine af rfl fun K0 Z => ?_; simp only [zE, op1, ev, lkp, ak, aj, aH, bH, bt, bj, bl, bI, Nat.div_one, aL, bm, Ty.size, aK, dite_true, aF, aD, aE, aw, aC, aU, reduceCtorEq, E, D, J, Y, U, V, Tryd.el25, Tryd.td25, Tryd.td3, Tryd.td4]; (repeat refine And.intro (by first | omega | assumption | exact rfl) ?_); (first | refine Z _ ?_ | refine Or.inl (Z _ ?_)); clear Z K0; simp only [put, app, ae, ai, zE, zS, D])
 refine am ?_
 refine hK3 _ ?_; clear hK3; refine ah [0, 1, 4, 9] ?_; simp only [aa, lkp, zE, reduceCtorEq, E, ad, D]
 refine aJ (by simp only [ev, aa, lkp, zE, reduceCtorEq, E, ad, D]; exact rfl) (fun hc4 => ?_) (fun hc4 => ?_)
 ·(try simp only [zB, reduceCtorEq] at hc4)
  refine ag fun K5 hK5 => ?_
  refine ao hP hN rfl ?_
  (refine af rfl fun K0 Z => ?_; simp only [zE, op1, ev, lkp, ak, aj, ev, reduceCtorEq, E, D, J, Y, U, V, Tryd.td3]; refine Z _ ?_; clear Z K0; simp only [put, app, ae, ai, zE, zS, D])
  refine am ?_
  refine hK5 _ ?_; clear hK5; refine ah [0, 1, 4, 9] ?_; simp only [aa, lkp, zE, reduceCtorEq, E, ad, D]
  refine aM ?_
  refine ⟨by first | exact .inl rfl | exact .inr rfl, _, rfl, ?_⟩; simp only [fzV, fz1, fzC, List.map_cons, List.map_nil, aa, lkp, zE, reduceCtorEq, E, ad, D]
  refine VLE.of_eq ?_
  refine congrArg (fun n => AV.one (AC.int IntKind.i64 n)) ?_
  unfold jM
  symm
  first
  | (rw [if_pos (by omega)]; done)
  | (rw [if_neg (by omega), if_pos (by omega)]; done)
  | (rw [if_neg (by omega), if_neg (by omega)]; done)
 ·(try simp only [zB, reduceCtorEq] at hc4)
  refine aQ ?_
  refine hK2 _ ?_; clear hK2; refine ah [0, 1, 4, 9] ?_; simp only [aa, lkp, zE, reduceCtorEq, E, ad, D]
  refine ag fun K6 hK6 => ?_
  refine ag fun K7 hK7 => ?_
  refine ao hP hN rfl ?_
  iterate 5 (refine af rfl fun K0 Z => ?_; simp only [zE, op1, ev, lkp, ak, aj, aH, bH, bt, bj, bl, bI, Nat.div_one, aL, bm, Ty.size, aK, dite_true, aF, aD, aE, aw, aC, aU, reduceCtorEq, E, D, J, Y, U, V, Tryd.el25, Tryd.td25, Tryd.td3, Tryd.td4]; (repeat refine And.intro (by first | omega | assumption | exact rfl) ?_); (first | refine Z _ ?_ | refine Or.inl (Z _ ?_)); clear Z K0; simp only [put, app, ae, ai, zE, zS, D])
  refine am ?_
  refine hK7 _ ?_; clear hK7; refine ah [0, 1, 4, 9, 14] ?_; simp only [aa, lkp, zE, reduceCtorEq, E, ad, D]
  refine aJ (by simp only [ev, aa, lkp, zE, reduceCtorEq, E, ad, D]; exact rfl) (fun hc8 => ?_) (fun hc8 => ?_)
  ·(try simp only [zB, reduceCtorEq] at hc8)
   refine ag fun K9 hK9 => ?_
   refine ao hP hN rfl ?_
   (refine af rfl fun K0 Z => ?_; simp only [zE, op1, ev, lkp, ak, aj, ev, reduceCtorEq, E, D, J, Y, U, V, Tryd.td3]; refine Z _ ?_; clear Z K0; simp only [put, app, ae, ai, zE, zS, D])
   refine am ?_
   refine hK9 _ ?_; clear hK9; refine ah [0, 1, 4, 9, 14] ?_; simp only [aa, lkp, zE, reduceCtorEq, E, ad, D]
   refine aM ?_
   refine ⟨by first | exact .inl rfl | exact .inr rfl, _, rfl, ?_⟩; simp only [fzV, fz1, fzC, List.map_cons, List.map_nil, aa, lkp, zE, reduceCtorEq, E, ad, D]
   refine VLE.of_eq ?_
   refine congrArg (fun n => AV.one (AC.int IntKind.i64 n)) ?_
   unfold jM
   symm
   first
   | (rw [if_pos (by omega)]; done)
   | (rw [if_neg (by omega), if_pos (by omega)]; done)
   | (rw [if_neg (by omega), if_neg (by omega)]; done)
  ·(try simp only [zB, reduceCtorEq] at hc8)
   refine aQ ?_
   refine hK6 _ ?_; clear hK6; refine ah [0, 1, 4, 9, 14] ?_; simp only [aa, lkp, zE, reduceCtorEq, E, ad, D]
   refine ag fun K10 hK10 => ?_
   refine ao hP hN rfl ?_
   iterate 2 (refine af rfl fun K0 Z => ?_; simp only [zE, op1, ev, lkp, ak, aj, ev, reduceCtorEq, E, D, J, Y, U, V, Tryd.el25, Tryd.td25]; refine Z _ ?_; clear Z K0; simp only [put, app, ae, ai, zE, zS, D])
   refine af rfl fun K0 Z => ?_
   refine aZ (h := aP (rj a b)) rfl rfl (by first | exact rfl | (simp only [ev, aa, lkp, zE, reduceCtorEq, E, ad, D]; exact rfl)) (by simp only [zE, zG, op1, ev, lkp, ak, aj, ax, acs, bp, mv1, mvC, Ty.dflt, reduceCtorEq, E, D, J, Y, U, V]) ?_
   refine Z _ ?_; clear Z K0; simp only [put, app, ae, ai, zE, zS, D]
   (refine af rfl fun K0 Z => ?_; simp only [zE, op1, ev, lkp, ak, aj, ev, reduceCtorEq, E, D, J, Y, U, V, Tryd.td3]; refine Z _ ?_; clear Z K0; simp only [put, app, ae, ai, zE, zS, D])
   refine am ?_
   refine hK10 _ ?_; clear hK10; refine ah [0, 1, 4, 9, 14] ?_; simp only [aa, lkp, zE, reduceCtorEq, E, ad, D]
   refine aM ?_
   refine ⟨by first | exact .inl rfl | exact .inr rfl, _, rfl, ?_⟩; simp only [fzV, fz1, fzC, List.map_cons, List.map_nil, aa, lkp, zE, reduceCtorEq, E, ad, D]
   refine VLE.of_eq ?_
   refine congrArg (fun n => AV.one (AC.int IntKind.i64 n)) ?_
   unfold jM
   symm
   first
   | (rw [if_pos (by omega)]; done)
   | (rw [if_neg (by omega), if_pos (by omega)]; done)
   | (rw [if_neg (by omega), if_neg (by omega)]; done)
end Go.Proofs.YtgmgnkmgofkfpaaDoor
namespace Go.AV
open Nat renaming reduceEqDiff → E, reduceAdd → D, reduceLeDiff → J, reduceLT → Y, reduceMul → U, reduceSub → V
open List renaming set_cons_zero → au, set_cons_succ → ar
/-plain-/
def s7 (d : Dfa) : STP := fun q x => (d.dl q.1 x, 0)
def rY (a b : Dfa) : STP := fun q x => (a.dl q.1 x, b.dl q.2 x)
def rB (d : Dfa) (q : PP) : Bool := d.ac q.1
def sc (a b : Dfa) (q : PP) : Bool := a.ac q.1 != b.ac q.2
end Go.AV
namespace Go.AV
open Nat renaming reduceEqDiff → E, reduceAdd → D, reduceLeDiff → J, reduceLT → Y, reduceMul → U, reduceSub → V
open List renaming set_cons_zero → au, set_cons_succ → ar
/-plain-/
/-! Classes of states of an automaton. -/
def Dfa.sg (d : Dfa) (cl : List Int) (s : Nat) : List Int := cl.getD s 0 :: (d.nx.getD s []).map fun t => cl.getD t.toNat 0
def Dfa.nxL (d : Dfa) (cl : List Int) : List Int := (List.range d.nx.length).map fun s => (pos (pR (d.sg cl) d.nx.length) (d.sg cl s) : Int)
def Dfa.cl (d : Dfa) : Nat → List Int
  | 0 => (List.range d.nx.length).map (rp d)
  | i + 1 => d.nxL (d.cl i)
def Dfa.cn (d : Dfa) : Nat → Nat
  | 0 => 0
  | i + 1 => (pR (d.sg (d.cl i)) d.nx.length).length
/-! How many there are. -/
def eH (n : Int) (w : List Int) : Prop := ∀ x, x ∈ w → 0 ≤ x ∧ x < n
theorem eh {n x : Int} {w : List Int} : eH n (x :: w) ↔ (0 ≤ x ∧ x < n) ∧ eH n w := by unfold eH; simp
theorem oT {n : Int} {w : List Int} (h : ∀ i : Nat, i < w.length → 0 ≤ w.getD i 0 ∧ w.getD i 0 < n) : eH n w := fun x hx => by
  obtain ⟨i, hi, e⟩ := ig.1 hx
  rw [← e]; exact h i hi
theorem p4 {n : Int} {w : List Int} (h : eH n w) : ∀ i : Nat, i < w.length → 0 ≤ w.getD i 0 ∧ w.getD i 0 < n := fun i hi => h _ (ig.2 ⟨i, hi, rfl⟩)
/-- Two states accept the same words. -/
def DEQ (a b : Dfa) (s t : Int) : Prop := ∀ w : List Int, eH a.inp w → a.ac (a.run s w) = b.ac (b.run t w)
theorem DEQ.acc {a b : Dfa} {s t : Int} (h : DEQ a b s t) : a.ac s = b.ac t := h [] (fun x hx => by cases hx)
theorem DEQ.symm {d : Dfa} {s t : Int} (h : DEQ d d s t) : DEQ d d t s := fun w hw => (h w hw).symm
theorem DEQ.trans {d : Dfa} {s t u : Int} (h : DEQ d d s t) (h2 : DEQ d d t u) : DEQ d d s u := fun w hw => (h w hw).trans (h2 w hw)
end Go.AV
namespace Go.AV
open Nat renaming reduceEqDiff → E, reduceAdd → D, reduceLeDiff → J, reduceLT → Y, reduceMul → U, reduceSub → V
open List renaming set_cons_zero → au, set_cons_succ → ar
/-plain-/
def ry (d : Dfa) : List W3 := pG (s7 d) d.inp.toNat (d.nx.length * 1) (d.st, 0)
def rT (a b : Dfa) : List W3 := pG (rY a b) a.inp.toNat (a.nx.length * b.nx.length) (a.st, b.st)
def laW (g : PP → Bool) (L : List W3) : List Int := if dB g L = true then ((dQ g L).getD ((dQ g L).length - 1) w30).2 else []
def nL (d : Dfa) : List Int := if cQ d = 0 then laW (rB d) (ry d) else []
def qd (d : Dfa) : Bool := if cQ d = 0 then dB (rB d) (ry d) else false
def rZ (a b : Dfa) : Bool := if ru a b = 0 then dB (sc a b) (rT a b) else false
end Go.AV
namespace Go.AV
open Nat renaming reduceEqDiff → E, reduceAdd → D, reduceLeDiff → J, reduceLT → Y, reduceMul → U, reduceSub → V
open List renaming set_cons_zero → au, set_cons_succ → ar
/-plain-/
/-! Two searches side by side. -/
structure SIM (A B : STP) (n : Nat) (R : PP → PP → Prop) : Prop where
  st : ∀ p q, R p q → ∀ x, x < n → R (A p x) (B q x)
  bi : ∀ p q p' q', R p q → R p' q' → (p = p' ↔ q = q')
def RL (R : PP → PP → Prop) (l l' : List W3) : Prop := l.length = l'.length ∧ ∀ i, i < l.length → R (l.getD i w30).1 (l'.getD i w30).1 ∧ (l.getD i w30).2 = (l'.getD i w30).2
theorem RL.one {R : PP → PP → Prop} {p q : PP} (h : R p q) : RL R [(p, [])] [(q, [])] := ⟨rfl, fun i hi => by
  have : i = 0 := by simpa using hi
  subst this; exact ⟨h, rfl⟩⟩
end Go.AV
namespace Go.AV
open Nat renaming reduceEqDiff → E, reduceAdd → D, reduceLeDiff → J, reduceLT → Y, reduceMul → U, reduceSub → V
open List renaming set_cons_zero → au, set_cons_succ → ar
/-plain-/
end Go.AV
namespace Go.AV
open Nat renaming reduceEqDiff → E, reduceAdd → D, reduceLeDiff → J, reduceLT → Y, reduceMul → U, reduceSub → V
open List renaming set_cons_zero → au, set_cons_succ → ar
/-plain-/
/-! Words in the order of their lengths and symbols. -/
def SLT (u v : List Int) : Prop := u.length < v.length ∨ (u.length = v.length ∧ ∃ m, m < u.length ∧ (∀ q, q < m → u.getD q 0 = v.getD q 0) ∧ u.getD m 0 < v.getD m 0)
def SLE (u v : List Int) : Prop := u = v ∨ SLT u v
theorem SLT.trans {u v w : List Int} (h : SLT u v) (h2 : SLT v w) : SLT u w := by
  rcases h with h | ⟨h, m, a1, a2, a3⟩
  · rcases h2 with h2 | ⟨h2, _⟩
    · exact .inl (by omega)
    · exact .inl (by omega)
  · rcases h2 with h2 | ⟨h2, k, b1, b2, b3⟩
    · exact .inl (by omega)
    · refine .inr ⟨by omega, ?_⟩
      rcases Nat.lt_trichotomy m k with e | e | e
      · exact ⟨m, a1, fun q hq => (a2 q hq).trans (b2 q (by omega)), by rw [← b2 m e]; exact a3⟩
      · subst e; exact ⟨m, a1, fun q hq => (a2 q hq).trans (b2 q hq), by omega⟩
      · exact ⟨k, by omega, fun q hq => (a2 q (by omega)).trans (b2 q hq), by rw [a2 k e]; exact b3⟩
theorem SLE.trans_lt {u v w : List Int} (h : SLE u v) (h2 : SLT v w) : SLT u w := by
  rcases h with rfl | h
  · exact h2
  · exact h.trans h2
theorem SLE.trans {u v w : List Int} (h : SLE u v) (h2 : SLE v w) : SLE u w := by
  rcases h2 with rfl | h2
  · exact h
  · exact .inr (h.trans_lt h2)
theorem SLT.app {u v : List Int} (h : SLT u v) (a b : Int) : SLT (u ++ [a]) (v ++ [b]) := by
  rcases h with h | ⟨h, m, a1, a2, a3⟩
  · exact .inl (by simp; omega)
  · refine .inr ⟨by simp; omega, m, by simp; omega, fun q hq => ?_, ?_⟩
    · rw [cY (by omega), cY (by omega)]; exact a2 q hq
    · rw [cY a1, cY (by omega)]; exact a3
theorem SLE.app {u v : List Int} (h : SLE u v) (a : Int) : SLE (u ++ [a]) (v ++ [a]) := by
  rcases h with rfl | h
  · exact .inl rfl
  · exact .inr (h.app a a)
theorem SLE.len {u v : List Int} (h : SLE u v) : u.length ≤ v.length := by
  rcases h with rfl | h | ⟨h, _⟩ <;> omega
structure BW (A : STP) (n i : Nat) (l : List W3) : Prop where
  so : ∀ j k, j < k → k < l.length → SLT (l.getD j w30).2 (l.getD k w30).2
  mi : ∀ j, j < i → j < l.length → ∀ x, x < n → ∃ k, k < l.length ∧ (l.getD k w30).1 = A (l.getD j w30).1 x ∧ SLE (l.getD k w30).2 ((l.getD j w30).2 ++ [(x : Int)])
  up : i < l.length → ∀ k, k < l.length → SLT (l.getD k w30).2 ((l.getD i w30).2 ++ [0])
structure BX (A : STP) (n i x : Nat) (l0 l : List W3) : Prop where
  so : ∀ j k, j < k → k < l.length → SLT (l.getD j w30).2 (l.getD k w30).2
  mi : ∀ y, y < x → ∃ k, k < l.length ∧ (l.getD k w30).1 = A (l0.getD i w30).1 y ∧ SLE (l.getD k w30).2 ((l0.getD i w30).2 ++ [(y : Int)])
  up : ∀ k, k < l.length → SLT (l.getD k w30).2 ((l0.getD i w30).2 ++ [(x : Int)])
end Go.AV
