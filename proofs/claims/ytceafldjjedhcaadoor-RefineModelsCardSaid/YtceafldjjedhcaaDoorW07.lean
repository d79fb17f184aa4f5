/- Contracts of functions of this seat, each out of a walk through its code, and plain facts on what they compute. Conditions: those that each theorem names. -/
import Derived.Test.YtceafldjjedhcaaDoorW06
set_option linter.unusedSimpArgs false
set_option linter.unusedVariables false
namespace Go.Proofs.YtceafldjjedhcaaDoor
open Go Go.AV
open Nat renaming reduceEqDiff → J, reduceAdd → E, reduceLeDiff → U, reduceLT → Z, reduceMul → V, reduceSub → Y
open List renaming set_cons_zero → aw, set_cons_succ → au
set_option maxRecDepth 100000 in
set_option maxHeartbeats 1000000 in
theorem w5 (m : Mly) (cl : List Int) : cq Tryd.prog 3 [m.av, .one (.list (.int .i64) cl)] (.one (.bool true)) := by
 refine bt Tryd.func3 rfl (by kernel_rfl) (Nat.le_of_ble_eq_true rfl) rfl fun C hP hN hB => ?_
 replace hN : C.N = 57 := hN
 simp only [ae, E]
 refine ah fun K1 hK1 => ?_
 refine ao hP hN rfl ?_
 iterate 2 (refine ag rfl fun K0 aa => ?_; simp only [zE, op1, ev, lkp, am, ak, dn, ax, reduceCtorEq, J, E, U, Z, V, Y, Tryd.st24, Tryd.td24, Tryd.td4, Mpr.av, Mly.av, Mres.av]; (repeat refine And.intro (by first | omega | assumption | exact rfl) ?_); refine aa _ ?_; clear aa K0; simp only [put, app, af, aj, zE, zS, E, Mres.av])
 refine aq ?_
 refine hK1 _ ?_; clear hK1; refine ai [0, 1, 2, 4] ?_; simp only [ad, lkp, zE, reduceCtorEq, J, ae, E]
 refine ah fun K2 hK2 => ?_
 refine ah fun K3 hK3 => ?_
 refine ao hP hN rfl ?_
 (refine ag rfl fun K0 aa => ?_; simp only [zE, op1, ev, lkp, am, ak, aE, Nat.mul_one, aC, aD, acs, Ty.dflt, zG, az, reduceCtorEq, J, E, U, Z, V, Y, Tryd.st24, Tryd.td24, Mpr.av, Mly.av, Mres.av]; (repeat refine And.intro (by first | omega | assumption | exact rfl) ?_); refine aa _ ?_; clear aa K0; simp only [put, app, af, aj, zE, zS, E, Mres.av])
 refine ag rfl fun K0 aa => ?_
 refine aW (h := aF (vZ m)) rfl rfl (by first | exact rfl | (simp only [ev, ad, lkp, zE, reduceCtorEq, J, ae, E]; exact rfl)) (by simp only [zE, zG, op1, ev, lkp, am, ak, ax, acs, bf, mv1, mvC, Ty.dflt, reduceCtorEq, J, E, U, Z, V, Y, Mpr.av, Mly.av, Mres.av]) ?_
 refine aa _ ?_; clear aa K0; simp only [put, app, af, aj, zE, zS, E, Mres.av]
 (refine ag rfl fun K0 aa => ?_; simp only [zE, op1, ev, lkp, am, ak, fw, reduceCtorEq, J, E, U, Z, V, Y, Tryd.td4, Mpr.av, Mly.av, Mres.av]; (repeat refine And.intro (by first | omega | assumption | exact rfl) ?_); refine aa _ ?_; clear aa K0; simp only [put, app, af, aj, zE, zS, E, Mres.av])
 refine aq ?_
 refine hK3 _ ?_; clear hK3; refine ai [0, 1, 2, 4, 17] ?_; simp only [ad, lkp, zE, reduceCtorEq, J, ae, E]
 refine aL (by simp only [ev, ad, lkp, zE, reduceCtorEq, J, ae, E]; exact rfl) (fun hc4 => ?_) (fun hc4 => ?_)
 ·(try simp only [zB, reduceCtorEq] at hc4)
  refine ah fun K5 hK5 => ?_
  refine ao hP hN rfl ?_
  refine ag rfl fun K0 aa => ?_
  refine aW (h := aF jg) rfl rfl (by first | exact rfl | (simp only [ev, ad, lkp, zE, reduceCtorEq, J, ae, E]; exact rfl)) (by simp only [zE, zG, op1, ev, lkp, am, ak, ax, acs, bf, mv1, mvC, Ty.dflt, reduceCtorEq, J, E, U, Z, V, Y, Mpr.av, Mly.av, Mres.av]) ?_
  refine aa _ ?_; clear aa K0; simp only [put, app, af, aj, zE, zS, E, Mres.av]
  (refine ag rfl fun K0 aa => ?_; simp only [zE, op1, ev, lkp, am, ak, ev, reduceCtorEq, J, E, U, Z, V, Y, Tryd.td4, Mpr.av, Mly.av, Mres.av]; refine aa _ ?_; clear aa K0; simp only [put, app, af, aj, zE, zS, E, Mres.av])
  refine aq ?_
  refine hK5 _ ?_; clear hK5; refine ai [0, 1, 2, 4, 17] ?_; simp only [ad, lkp, zE, reduceCtorEq, J, ae, E]
  refine aU ?_
  refine ⟨by first | exact .inl rfl | exact .inr rfl, _, rfl, ?_⟩; simp only [fzV, fz1, fzC, List.map_cons, List.map_nil, ad, lkp, zE, reduceCtorEq, J, ae, E, Mpr.av, Mly.av, Mres.av]
  refine VLE.of_eq ?_
  first | rfl | (refine congrArg (fun b => AV.one (AC.bool b)) ?_; rw [hz]; cases eg m cl <;> rfl) | (refine congrArg (fun b => AV.one (AC.bool b)) ?_; simp [hz]; done)
 ·(try simp only [zB, reduceCtorEq] at hc4)
  have hsml : m.nx.length ≤ 12 := by have h9 := hc4; omega
  refine aT ?_
  refine hK2 _ ?_; clear hK2; refine ai [0, 1, 2, 4, 17] ?_; simp only [ad, lkp, zE, reduceCtorEq, J, ae, E]
  refine ah fun K6 hK6 => ?_
  refine ao hP hN rfl ?_
  iterate 2 (refine ag rfl fun K0 aa => ?_; simp only [zE, op1, ev, lkp, am, ak, aE, Nat.mul_one, aC, aD, acs, Ty.dflt, zG, az, reduceCtorEq, J, E, U, Z, V, Y, Tryd.el25, Tryd.st24, Tryd.td24, Tryd.td25, Mpr.av, Mly.av, Mres.av]; (repeat refine And.intro (by first | omega | assumption | exact rfl) ?_); refine aa _ ?_; clear aa K0; simp only [put, app, af, aj, zE, zS, E, Mres.av])
  refine ag rfl fun K0 aa => ?_
  refine aW (h := aF (rL m cl)) rfl rfl (by first | exact rfl | (simp only [ev, ad, lkp, zE, reduceCtorEq, J, ae, E]; exact rfl)) (by simp only [zE, zG, op1, ev, lkp, am, ak, ax, acs, bf, mv1, mvC, Ty.dflt, reduceCtorEq, J, E, U, Z, V, Y, Mpr.av, Mly.av, Mres.av]) ?_
  refine aa _ ?_; clear aa K0; simp only [put, app, af, aj, zE, zS, E, Mres.av]
  iterate 9 (refine ag rfl fun K0 aa => ?_; simp only [zE, op1, ev, lkp, am, ak, bS, reduceCtorEq, J, E, U, Z, V, Y, Tryd.el25, Tryd.td1, Tryd.td2, Tryd.td25, Tryd.td28, Tryd.td3, Tryd.td4, Mpr.av, Mly.av, Mres.av]; refine aa _ ?_; clear aa K0; simp only [put, app, af, aj, zE, zS, E, Mres.av])
  refine aq ?_
  refine hK6 _ ?_; clear hK6; refine ai [0, 1, 2, 4, 7, 8, 17] ?_; simp only [ad, lkp, zE, reduceCtorEq, J, ae, E]
  refine ah fun K7 hK7 => ?_
  refine ao hP hN rfl ?_
  (refine ag rfl fun K0 aa => ?_; simp only [zE, op1, ev, lkp, am, ak, ev, reduceCtorEq, J, E, U, Z, V, Y, Tryd.el25, Tryd.td25, Mpr.av, Mly.av, Mres.av]; refine aa _ ?_; clear aa K0; simp only [put, app, af, aj, zE, zS, E, Mres.av])
  refine ag rfl fun K0 aa => ?_
  refine aW (h := aF (wc cl)) rfl rfl (by first | exact rfl | (simp only [ev, ad, lkp, zE, reduceCtorEq, J, ae, E]; exact rfl)) (by simp only [zE, zG, op1, ev, lkp, am, ak, ax, acs, bf, mv1, mvC, Ty.dflt, reduceCtorEq, J, E, U, Z, V, Y, Mpr.av, Mly.av, Mres.av]) ?_
  refine aa _ ?_; clear aa K0; simp only [put, app, af, aj, zE, zS, E, Mres.av]
  iterate 6 (refine ag rfl fun K0 aa => ?_; simp only [zE, op1, ev, lkp, am, ak, bS, cC, bJ, Nat.mul_one, ax, aR, aM, acs, Ty.size, Ty.dflt, zG, reduceCtorEq, J, E, U, Z, V, Y, Tryd.st32, Tryd.td1, Tryd.td28, Tryd.td32, Mpr.av, Mly.av, Mres.av]; (repeat refine And.intro (by first | omega | assumption | exact rfl) ?_); (first | refine aa _ ?_ | refine Or.inl (aa _ ?_)); clear aa K0; simp only [put, app, af, aj, zE, zS, E, Mres.av])
  refine aq ?_
  refine hK7 _ ?_; clear hK7; refine ai [0, 1, 2, 4, 7, 8, 9, 10, 17] ?_; simp only [ad, lkp, zE, reduceCtorEq, J, ae, E]
  refine ah fun K8 hK8 => ?_
  refine ao hP hN rfl ?_
  iterate 2 (refine ag rfl fun K0 aa => ?_; simp only [zE, op1, ev, lkp, am, ak, aE, Nat.mul_one, aC, aD, acs, Ty.dflt, zG, az, reduceCtorEq, J, E, U, Z, V, Y, Tryd.st24, Tryd.st32, Tryd.td24, Tryd.td32, Mpr.av, Mly.av, Mres.av]; (repeat refine And.intro (by first | omega | assumption | exact rfl) ?_); refine aa _ ?_; clear aa K0; simp only [put, app, af, aj, zE, zS, E, Mres.av])
  refine ag rfl fun K0 aa => ?_
  refine aW (h := aF (w4 m (dG cl))) rfl rfl (by first | exact rfl | (simp only [ev, ad, lkp, zE, reduceCtorEq, J, ae, E]; exact rfl)) (by simp only [zE, zG, op1, ev, lkp, am, ak, ax, acs, bf, mv1, mvC, Ty.dflt, reduceCtorEq, J, E, U, Z, V, Y, Mpr.av, Mly.av, Mres.av, Mres.av]) ?_
  refine aa _ ?_; clear aa K0; simp only [put, app, af, aj, zE, zS, E, Mres.av]
  iterate 11 (refine ag rfl fun K0 aa => ?_; simp only [zE, op1, ev, lkp, am, ak, bS, cC, bJ, Nat.mul_one, ax, aR, aM, acs, Ty.size, Ty.dflt, zG, reduceCtorEq, J, E, U, Z, V, Y, Tryd.st24, Tryd.st36, Tryd.td1, Tryd.td2, Tryd.td24, Tryd.td28, Tryd.td3, Tryd.td36, Tryd.td4, Mpr.av, Mly.av, Mres.av]; (repeat refine And.intro (by first | omega | assumption | exact rfl) ?_); (first | refine aa _ ?_ | refine Or.inl (aa _ ?_)); clear aa K0; simp only [put, app, af, aj, zE, zS, E, Mres.av])
  refine aq ?_
  refine hK8 _ ?_; clear hK8; refine ai [0, 1, 2, 4, 7, 8, 9, 10, 13, 14, 17] ?_; simp only [ad, lkp, zE, reduceCtorEq, J, ae, E]
  refine ah fun K9 hK9 => ?_
  refine ah fun K10 hK10 => ?_
  refine ao hP hN rfl ?_
  iterate 2 (refine ag rfl fun K0 aa => ?_; simp only [zE, op1, ev, lkp, am, ak, aJ, aK, aI, ay, aH, aX, reduceCtorEq, J, E, U, Z, V, Y, Tryd.td28, Tryd.td4, Mpr.av, Mly.av, Mres.av]; (repeat refine And.intro (by first | omega | assumption | exact rfl) ?_); refine aa _ ?_; clear aa K0; simp only [put, app, af, aj, zE, zS, E, Mres.av])
  (refine ag rfl fun K0 aa => ?_; simp only [zE, op1, ev, lkp, am, ak, ev, reduceCtorEq, J, E, U, Z, V, Y, Tryd.td4, Mpr.av, Mly.av, Mres.av]; refine aa _ ?_; clear aa K0; simp only [put, app, af, aj, zE, zS, E, Mres.av])
  refine' bn (want := false) 2 rfl (m := 42) (by simp only [ad, lkp, zE, reduceCtorEq, J, ae, E]; exact rfl) (by kernel_rfl) rfl rfl rfl rfl rfl (fun hg11 => ?a11) ?b11 ?c11
  case a11 =>
   have hq11 := hg11; (try simp only [zB, reduceCtorEq] at hg11); simp only [List.take_succ_cons, List.take_zero, List.cons_append, List.nil_append]
   (refine aG rfl fun K0 aa => ?_; simp only [zE, op1, ev, lkp, am, ak, ev, reduceCtorEq, J, E, U, Z, V, Y, Tryd.td28, Mpr.av, Mly.av, Mres.av]; refine aa _ ?_; clear aa K0; simp only [put, app, af, aj, zE, zS, E, Mres.av])
   (refine aG rfl fun K0 aa => ?_; simp only [zE, op1, ev, lkp, am, ak, aJ, aK, aI, ay, aH, aX, reduceCtorEq, J, E, U, Z, V, Y, Tryd.td28, Tryd.td4, Mpr.av, Mly.av, Mres.av]; (repeat refine And.intro (by first | omega | assumption | exact rfl) ?_); refine aa _ ?_; clear aa K0; simp only [put, app, af, aj, zE, zS, E, Mres.av])
   (refine ag rfl fun K0 aa => ?_; simp only [zE, op1, ev, lkp, am, ak, bU, reduceCtorEq, J, E, U, Z, V, Y, Tryd.td4, Mpr.av, Mly.av, Mres.av]; refine aa _ ?_; clear aa K0; simp only [put, app, af, aj, zE, zS, E, Mres.av])
   refine aq ?_
   refine ⟨by simp only [ad, lkp, zE, reduceCtorEq, J, ae, E]; exact rfl, rfl, ?_, rfl⟩; (repeat refine bo rfl ?_); exact bY (by exact rfl) hq11
  case b11 => exact bV (by first | rfl | (simp [cD]; done) | decide)
  simp only [bM, bB]
  (refine ag rfl fun K0 aa => ?_; simp only [zE, op1, ev, lkp, am, ak, ev, reduceCtorEq, J, E, U, Z, V, Y, Tryd.td4, Mpr.av, Mly.av, Mres.av]; refine aa _ ?_; clear aa K0; simp only [put, app, af, aj, zE, zS, E, Mres.av])
  refine' bn (want := false) 2 rfl (m := 46) (by simp only [ad, lkp, zE, reduceCtorEq, J, ae, E]; exact rfl) (by kernel_rfl) rfl rfl rfl rfl rfl (fun hg12 => ?a12) ?b12 ?c12
  case a12 =>
   have hq12 := hg12; (try simp only [zB, reduceCtorEq] at hg12); simp only [List.take_succ_cons, List.take_zero, List.cons_append, List.nil_append]
   (refine aG rfl fun K0 aa => ?_; simp only [zE, op1, ev, lkp, am, ak, ev, reduceCtorEq, J, E, U, Z, V, Y, Tryd.td28, Mpr.av, Mly.av, Mres.av]; refine aa _ ?_; clear aa K0; simp only [put, app, af, aj, zE, zS, E, Mres.av])
   (refine aG rfl fun K0 aa => ?_; simp only [zE, op1, ev, lkp, am, ak, aJ, aK, aI, ay, aH, aX, reduceCtorEq, J, E, U, Z, V, Y, Tryd.td28, Tryd.td4, Mpr.av, Mly.av, Mres.av]; (repeat refine And.intro (by first | omega | assumption | exact rfl) ?_); refine aa _ ?_; clear aa K0; simp only [put, app, af, aj, zE, zS, E, Mres.av])
   (refine ag rfl fun K0 aa => ?_; simp only [zE, op1, ev, lkp, am, ak, bU, reduceCtorEq, J, E, U, Z, V, Y, Tryd.td4, Mpr.av, Mly.av, Mres.av]; refine aa _ ?_; clear aa K0; simp only [put, app, af, aj, zE, zS, E, Mres.av])
   refine aq ?_
   refine ⟨by simp only [ad, lkp, zE, reduceCtorEq, J, ae, E]; exact rfl, rfl, ?_, rfl⟩; (repeat refine bo rfl ?_); exact bY (by exact rfl) hq12
  case b12 => exact bV (by first | rfl | (simp [cD]; done) | decide)
  simp only [bM, bB]
  refine aq ?_
  refine hK10 _ ?_; clear hK10; refine ai [0, 1, 2, 4, 7, 8, 9, 10, 13, 14, 17, 49] ?_; simp only [ad, lkp, zE, reduceCtorEq, J, ae, E]
  refine aL (by simp only [ev, ad, lkp, zE, reduceCtorEq, J, ae, E]; exact rfl) (fun hc13 => ?_) (fun hc13 => ?_)
  ·(try simp only [zB, reduceCtorEq] at hc13)
   refine ah fun K14 hK14 => ?_
   refine ao hP hN rfl ?_
   refine ag rfl fun K0 aa => ?_
   refine aW (h := aF jg) rfl rfl (by first | exact rfl | (simp only [ev, ad, lkp, zE, reduceCtorEq, J, ae, E]; exact rfl)) (by simp only [zE, zG, op1, ev, lkp, am, ak, ax, acs, bf, mv1, mvC, Ty.dflt, reduceCtorEq, J, E, U, Z, V, Y, Mpr.av, Mly.av, Mres.av]) ?_
   refine aa _ ?_; clear aa K0; simp only [put, app, af, aj, zE, zS, E, Mres.av]
   (refine ag rfl fun K0 aa => ?_; simp only [zE, op1, ev, lkp, am, ak, ev, reduceCtorEq, J, E, U, Z, V, Y, Tryd.td4, Mpr.av, Mly.av, Mres.av]; refine aa _ ?_; clear aa K0; simp only [put, app, af, aj, zE, zS, E, Mres.av])
   refine aq ?_
   refine hK14 _ ?_; clear hK14; refine ai [0, 1, 2, 4, 7, 8, 9, 10, 13, 14, 17, 49] ?_; simp only [ad, lkp, zE, reduceCtorEq, J, ae, E]
   refine aU ?_
   refine ⟨by first | exact .inl rfl | exact .inr rfl, _, rfl, ?_⟩; simp only [fzV, fz1, fzC, List.map_cons, List.map_nil, ad, lkp, zE, reduceCtorEq, J, ae, E, Mpr.av, Mly.av, Mres.av]
   refine VLE.of_eq ?_
   first | rfl | (refine congrArg (fun b => AV.one (AC.bool b)) ?_; rw [hz]; cases eg m cl <;> rfl) | (refine congrArg (fun b => AV.one (AC.bool b)) ?_; simp [hz]; done)
  ·(try simp only [zB, reduceCtorEq] at hc13)
   have hok : bE m cl = 0 ∧ df cl = 0 ∧ (mdl m (dG cl)).e = 0 := by have h9 := hc13; omega
   have hz := vO hok.1 hok.2.1 hok.2.2 hsml
   refine aT ?_
   refine hK9 _ ?_; clear hK9; refine ai [0, 1, 2, 4, 7, 8, 9, 10, 13, 14, 17, 49] ?_; simp only [ad, lkp, zE, reduceCtorEq, J, ae, E]
   refine ah fun K15 hK15 => ?_
   refine ao hP hN rfl ?_
   iterate 3 (refine ag rfl fun K0 aa => ?_; simp only [zE, op1, ev, lkp, am, ak, aJ, aK, aI, ay, aH, aX, reduceCtorEq, J, E, U, Z, V, Y, Tryd.td4, Mpr.av, Mly.av, Mres.av]; (repeat refine And.intro (by first | omega | assumption | exact rfl) ?_); refine aa _ ?_; clear aa K0; simp only [put, app, af, aj, zE, zS, E, Mres.av])
   (refine ag rfl fun K0 aa => ?_; simp only [zE, op1, ev, lkp, am, ak, ev, reduceCtorEq, J, E, U, Z, V, Y, Tryd.td4, Mpr.av, Mly.av, Mres.av]; refine aa _ ?_; clear aa K0; simp only [put, app, af, aj, zE, zS, E, Mres.av])
   refine' bn (want := true) 1 rfl (m := 54) (by simp only [ad, lkp, zE, reduceCtorEq, J, ae, E]; exact rfl) (by kernel_rfl) rfl rfl rfl rfl rfl (fun hg16 => ?a16) ?b16 ?c16
   case a16 =>
    have hq16 := hg16; (try simp only [zB, reduceCtorEq] at hg16); simp only [List.take_succ_cons, List.take_zero, List.cons_append, List.nil_append]
    refine aG rfl fun K0 aa => ?_
    refine aW (h := aF jg) rfl rfl (by first | exact rfl | (simp only [ev, ad, lkp, zE, reduceCtorEq, J, ae, E]; exact rfl)) (by simp only [zE, zG, op1, ev, lkp, am, ak, ax, acs, bf, mv1, mvC, Ty.dflt, reduceCtorEq, J, E, U, Z, V, Y, Mpr.av, Mly.av, Mres.av]) ?_
    refine aa _ ?_; clear aa K0; simp only [put, app, af, aj, zE, zS, E, Mres.av]
    (refine ag rfl fun K0 aa => ?_; simp only [zE, op1, ev, lkp, am, ak, bU, reduceCtorEq, J, E, U, Z, V, Y, Tryd.td4, Mpr.av, Mly.av, Mres.av]; refine aa _ ?_; clear aa K0; simp only [put, app, af, aj, zE, zS, E, Mres.av])
    refine aq ?_
    refine ⟨by simp only [ad, lkp, zE, reduceCtorEq, J, ae, E]; exact rfl, rfl, ?_, rfl⟩; (repeat refine bo rfl ?_); exact bY (by exact rfl) hq16
   case b16 => exact bV (by first | rfl | (simp [cD]; done) | decide)
   simp only [bM, bB]
   (refine ag rfl fun K0 aa => ?_; simp only [zE, op1, ev, lkp, am, ak, ev, reduceCtorEq, J, E, U, Z, V, Y, Tryd.td4, Mpr.av, Mly.av, Mres.av]; refine aa _ ?_; clear aa K0; simp only [put, app, af, aj, zE, zS, E, Mres.av])
   refine aq ?_
   refine hK15 _ ?_; clear hK15; refine ai [0, 1, 2, 4, 7, 8, 9, 10, 13, 14, 17, 49] ?_; simp only [ad, lkp, zE, reduceCtorEq, J, ae, E]
   refine aU ?_
   refine ⟨by first | exact .inl rfl | exact .inr rfl, _, rfl, ?_⟩; simp only [fzV, fz1, fzC, List.map_cons, List.map_nil, ad, lkp, zE, reduceCtorEq, J, ae, E, Mpr.av, Mly.av, Mres.av]
   refine VLE.of_eq ?_
   first | rfl | (refine congrArg (fun b => AV.one (AC.bool b)) ?_; rw [hz]; cases eg m cl <;> rfl) | (refine congrArg (fun b => AV.one (AC.bool b)) ?_; simp [hz]; done)
end Go.Proofs.YtceafldjjedhcaaDoor
