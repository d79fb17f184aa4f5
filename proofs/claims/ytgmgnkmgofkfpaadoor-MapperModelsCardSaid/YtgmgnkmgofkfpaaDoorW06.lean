/- Contracts of functions of this seat, each out of a walk through its code, and plain facts on what they compute. Conditions: those that each theorem names. -/
import Derived.Test.YtgmgnkmgofkfpaaDoorW05
set_option linter.unusedSimpArgs false
set_option linter.unusedVariables false
namespace Go.Proofs.YtgmgnkmgofkfpaaDoor
open Go Go.AV
open Nat renaming reduceEqDiff → G, reduceAdd → E, reduceLeDiff → J, reduceLT → V, reduceMul → M, reduceSub → U
open List renaming set_cons_zero → aA, set_cons_succ → az
set_option maxRecDepth 100000 in
theorem pl (m : Mly) : ch Tryd.prog 21 [m.av] (.one (.bool ((decide ((m.nx.length : Int) ≤ 12) && decide ((m.ot.length : Int) ≤ 12)) && decide (m.inp ≤ 4)))) := by
 refine bp Tryd.func21 rfl (by kernel_rfl) (Nat.le_of_ble_eq_true rfl) rfl fun C hP hN hB => ?_
 replace hN : C.N = 18 := hN
 simp only [a8, E]
 refine aa fun K1 hK1 => ?_
 refine aj hP hN rfl ?_
 iterate 2 (refine ad rfl fun K0 Y => ?_; simp only [zE, op1, ev, lkp, ah, ag, cA, au, reduceCtorEq, G, E, J, V, M, U, Tryd.st47, Tryd.td4, Tryd.td47, Mly.av]; (repeat refine And.intro (by first | omega | assumption | exact rfl) ?_); refine Y _ ?_; clear Y K0; simp only [put, app, a9, af, zE, zS, E])
 refine ai ?_
 refine hK1 _ ?_; clear hK1; refine ae [0, 1, 2] ?_; simp only [Z, lkp, zE, reduceCtorEq, G, a8, E]
 refine aa fun K2 hK2 => ?_
 refine aj hP hN rfl ?_
 iterate 4 (refine ad rfl fun K0 Y => ?_; simp only [zE, op1, ev, lkp, ah, ag, am, ay, Nat.mul_one, aw, ax, acs, Ty.dflt, zG, aq, aF, bu, bh, ba, bb, bq, Nat.div_one, aK, bf, Ty.size, aL, dite_true, aC, aD, aE, ao, aB, aR, reduceCtorEq, G, E, J, V, M, U, Tryd.el22, Tryd.st47, Tryd.td2, Tryd.td22, Tryd.td3, Tryd.td4, Tryd.td47, Mly.av]; (repeat refine And.intro (by first | omega | assumption | exact rfl) ?_); (first | refine Y _ ?_ | refine Or.inl (Y _ ?_)); clear Y K0; simp only [put, app, a9, af, zE, zS, E])
 (refine ad rfl fun K0 Y => ?_; simp only [zE, op1, ev, lkp, ah, ag, ev, reduceCtorEq, G, E, J, V, M, U, Tryd.td4, Mly.av]; refine Y _ ?_; clear Y K0; simp only [put, app, a9, af, zE, zS, E])
 refine' aY (want := true) 4 rfl (m := 7) (by simp only [Z, lkp, zE, reduceCtorEq, G, a8, E]; exact rfl) (by kernel_rfl) rfl rfl rfl rfl rfl (fun hg3 => ?a3) ?b3 ?c3
 case a3 =>
  have hq3 := hg3; (try simp only [zB, reduceCtorEq] at hg3); simp only [List.take_succ_cons, List.take_zero, List.cons_append, List.nil_append]
  (refine ar rfl fun K0 Y => ?_; simp only [zE, op1, ev, lkp, ah, ag, am, reduceCtorEq, G, E, J, V, M, U, Tryd.st47, Tryd.td3, Tryd.td47, Mly.av]; (repeat refine And.intro (by first | omega | assumption | exact rfl) ?_); refine Y _ ?_; clear Y K0; simp only [put, app, a9, af, zE, zS, E])
  (refine ar rfl fun K0 Y => ?_; simp only [zE, op1, ev, lkp, ah, ag, ay, Nat.mul_one, aw, ax, acs, Ty.dflt, zG, aq, reduceCtorEq, G, E, J, V, M, U, Tryd.el22, Tryd.td22, Mly.av]; (repeat refine And.intro (by first | omega | assumption | exact rfl) ?_); refine Y _ ?_; clear Y K0; simp only [put, app, a9, af, zE, zS, E])
  (refine ar rfl fun K0 Y => ?_; simp only [zE, op1, ev, lkp, ah, ag, aF, bu, bh, ba, bb, bq, Nat.div_one, aK, bf, Ty.size, aL, dite_true, reduceCtorEq, G, E, J, V, M, U, Tryd.el22, Tryd.td22, Tryd.td3, Mly.av]; (repeat refine And.intro (by first | omega | assumption | exact rfl) ?_); (first | refine Y _ ?_ | refine Or.inl (Y _ ?_)); clear Y K0; simp only [put, app, a9, af, zE, zS, E])
  (refine ar rfl fun K0 Y => ?_; simp only [zE, op1, ev, lkp, ah, ag, aC, aD, aE, ao, aB, aR, reduceCtorEq, G, E, J, V, M, U, Tryd.td3, Tryd.td4, Mly.av]; (repeat refine And.intro (by first | omega | assumption | exact rfl) ?_); refine Y _ ?_; clear Y K0; simp only [put, app, a9, af, zE, zS, E])
  (refine ad rfl fun K0 Y => ?_; simp only [zE, op1, ev, lkp, ah, ag, bt, reduceCtorEq, G, E, J, V, M, U, Tryd.td4, Mly.av]; refine Y _ ?_; clear Y K0; simp only [put, app, a9, af, zE, zS, E])
  refine ai ?_
  refine ⟨by simp only [Z, lkp, zE, reduceCtorEq, G, a8, E]; exact rfl, rfl, ?_, rfl⟩; (repeat refine aZ rfl ?_); exact bz (by exact rfl) hq3
 case b3 => exact bv (by first | rfl | (simp [bV]; done) | decide)
 simp only [bj, bg]
 (refine ad rfl fun K0 Y => ?_; simp only [zE, op1, ev, lkp, ah, ag, ev, reduceCtorEq, G, E, J, V, M, U, Tryd.td4, Mly.av]; refine Y _ ?_; clear Y K0; simp only [put, app, a9, af, zE, zS, E])
 refine' aY (want := true) 3 rfl (m := 13) (by simp only [Z, lkp, zE, reduceCtorEq, G, a8, E]; exact rfl) (by kernel_rfl) rfl rfl rfl rfl rfl (fun hg4 => ?a4) ?b4 ?c4
 case a4 =>
  have hq4 := hg4; (try simp only [zB, reduceCtorEq] at hg4); simp only [List.take_succ_cons, List.take_zero, List.cons_append, List.nil_append]
  (refine ar rfl fun K0 Y => ?_; simp only [zE, op1, ev, lkp, ah, ag, am, reduceCtorEq, G, E, J, V, M, U, Tryd.st47, Tryd.td47, Mly.av]; (repeat refine And.intro (by first | omega | assumption | exact rfl) ?_); refine Y _ ?_; clear Y K0; simp only [put, app, a9, af, zE, zS, E])
  (refine ar rfl fun K0 Y => ?_; simp only [zE, op1, ev, lkp, ah, ag, ay, Nat.mul_one, aw, ax, acs, Ty.dflt, zG, aq, reduceCtorEq, G, E, J, V, M, U, Tryd.td3, Mly.av]; (repeat refine And.intro (by first | omega | assumption | exact rfl) ?_); refine Y _ ?_; clear Y K0; simp only [put, app, a9, af, zE, zS, E])
  (refine ar rfl fun K0 Y => ?_; simp only [zE, op1, ev, lkp, ah, ag, aC, aD, aE, ao, aB, aR, reduceCtorEq, G, E, J, V, M, U, Tryd.td3, Tryd.td4, Mly.av]; (repeat refine And.intro (by first | omega | assumption | exact rfl) ?_); refine Y _ ?_; clear Y K0; simp only [put, app, a9, af, zE, zS, E])
  (refine ad rfl fun K0 Y => ?_; simp only [zE, op1, ev, lkp, ah, ag, bt, reduceCtorEq, G, E, J, V, M, U, Tryd.td4, Mly.av]; refine Y _ ?_; clear Y K0; simp only [put, app, a9, af, zE, zS, E])
  refine ai ?_
  refine ⟨by simp only [Z, lkp, zE, reduceCtorEq, G, a8, E]; exact rfl, rfl, ?_, rfl⟩; (repeat refine aZ rfl ?_); exact bz (by exact rfl) hq4
 case b4 => exact bv (by first | rfl | (simp [bV]; done) | decide)
 simp only [bj, bg]
 (refine ad rfl fun K0 Y => ?_; simp only [zE, op1, ev, lkp, ah, ag, ev, reduceCtorEq, G, E, J, V, M, U, Tryd.td4, Mly.av]; refine Y _ ?_; clear Y K0; simp only [put, app, a9, af, zE, zS, E])
 refine ai ?_
 refine hK2 _ ?_; clear hK2; refine ae [0, 1, 2] ?_; simp only [Z, lkp, zE, reduceCtorEq, G, a8, E]
 refine aP ?_
 refine ⟨by first | exact .inl rfl | exact .inr rfl, _, rfl, ?_⟩; simp only [fzV, fz1, fzC, List.map_cons, List.map_nil, Z, lkp, zE, reduceCtorEq, G, a8, E, Mly.av]
 refine VLE.of_eq ?_
 rfl
end Go.Proofs.YtgmgnkmgofkfpaaDoor
namespace Go.Proofs.YtgmgnkmgofkfpaaDoor
open Go Go.AV
open Nat renaming reduceEqDiff → G, reduceAdd → E, reduceLeDiff → J, reduceLT → V, reduceMul → M, reduceSub → U
open List renaming set_cons_zero → aA, set_cons_succ → az
set_option maxRecDepth 100000 in
theorem rm (m : Mly) (p : Mpr) : ch Tryd.prog 5 [m.av, p.av] (.one (.bool true)) := by
 refine bp Tryd.func5 rfl (by kernel_rfl) (Nat.le_of_ble_eq_true rfl) rfl fun C hP hN hB => ?_
 replace hN : C.N = 59 := hN
 simp only [a8, E]
 refine aa fun K1 hK1 => ?_
 refine aj hP hN rfl ?_
 iterate 3 (refine ad rfl fun K0 Y => ?_; simp only [zE, op1, ev, lkp, ah, ag, cA, au, reduceCtorEq, G, E, J, V, M, U, Tryd.st24, Tryd.st47, Tryd.td24, Tryd.td4, Tryd.td47, Mpr.av, Mly.av, Mres.av]; (repeat refine And.intro (by first | omega | assumption | exact rfl) ?_); refine Y _ ?_; clear Y K0; simp only [put, app, a9, af, zE, zS, E, Mres.av])
 refine ai ?_
 refine hK1 _ ?_; clear hK1; refine ae [0, 1, 2, 3, 4] ?_; simp only [Z, lkp, zE, reduceCtorEq, G, a8, E]
 refine aa fun K2 hK2 => ?_
 refine aa fun K3 hK3 => ?_
 refine aj hP hN rfl ?_
 (refine ad rfl fun K0 Y => ?_; simp only [zE, op1, ev, lkp, ah, ag, ay, Nat.mul_one, aw, ax, acs, Ty.dflt, zG, aq, reduceCtorEq, G, E, J, V, M, U, Tryd.st47, Tryd.td47, Mpr.av, Mly.av, Mres.av]; (repeat refine And.intro (by first | omega | assumption | exact rfl) ?_); refine Y _ ?_; clear Y K0; simp only [put, app, a9, af, zE, zS, E, Mres.av])
 refine ad rfl fun K0 Y => ?_
 refine bc (h := aU (pl m)) rfl rfl (by first | exact rfl | (simp only [ev, Z, lkp, zE, reduceCtorEq, G, a8, E]; exact rfl)) (by simp only [zE, zG, op1, ev, lkp, ah, ag, au, acs, br, mv1, mvC, Ty.dflt, reduceCtorEq, G, E, J, V, M, U, Mpr.av, Mly.av, Mres.av]) ?_
 refine Y _ ?_; clear Y K0; simp only [put, app, a9, af, zE, zS, E, Mres.av]
 (refine ad rfl fun K0 Y => ?_; simp only [zE, op1, ev, lkp, ah, ag, dR, reduceCtorEq, G, E, J, V, M, U, Tryd.td4, Mpr.av, Mly.av, Mres.av]; (repeat refine And.intro (by first | omega | assumption | exact rfl) ?_); refine Y _ ?_; clear Y K0; simp only [put, app, a9, af, zE, zS, E, Mres.av])
 (refine ad rfl fun K0 Y => ?_; simp only [zE, op1, ev, lkp, ah, ag, ev, reduceCtorEq, G, E, J, V, M, U, Tryd.td4, Mpr.av, Mly.av, Mres.av]; refine Y _ ?_; clear Y K0; simp only [put, app, a9, af, zE, zS, E, Mres.av])
 refine' aY (want := false) 3 rfl (m := 16) (by simp only [Z, lkp, zE, reduceCtorEq, G, a8, E]; exact rfl) (by kernel_rfl) rfl rfl rfl rfl rfl (fun hg4 => ?a4) ?b4 ?c4
 case a4 =>
  have hq4 := hg4; (try simp only [zB, reduceCtorEq] at hg4); simp only [List.take_succ_cons, List.take_zero, List.cons_append, List.nil_append]
  (refine ar rfl fun K0 Y => ?_; simp only [zE, op1, ev, lkp, ah, ag, ay, Nat.mul_one, aw, ax, acs, Ty.dflt, zG, aq, reduceCtorEq, G, E, J, V, M, U, Tryd.st24, Tryd.td24, Mpr.av, Mly.av, Mres.av]; (repeat refine And.intro (by first | omega | assumption | exact rfl) ?_); refine Y _ ?_; clear Y K0; simp only [put, app, a9, af, zE, zS, E, Mres.av])
  refine ar rfl fun K0 Y => ?_
  refine bc (h := aU (ny p)) rfl rfl (by first | exact rfl | (simp only [ev, Z, lkp, zE, reduceCtorEq, G, a8, E]; exact rfl)) (by simp only [zE, zG, op1, ev, lkp, ah, ag, au, acs, br, mv1, mvC, Ty.dflt, reduceCtorEq, G, E, J, V, M, U, Mpr.av, Mly.av, Mres.av]) ?_
  refine Y _ ?_; clear Y K0; simp only [put, app, a9, af, zE, zS, E, Mres.av]
  (refine ar rfl fun K0 Y => ?_; simp only [zE, op1, ev, lkp, ah, ag, dR, reduceCtorEq, G, E, J, V, M, U, Tryd.td4, Mpr.av, Mly.av, Mres.av]; (repeat refine And.intro (by first | omega | assumption | exact rfl) ?_); refine Y _ ?_; clear Y K0; simp only [put, app, a9, af, zE, zS, E, Mres.av])
  (refine ad rfl fun K0 Y => ?_; simp only [zE, op1, ev, lkp, ah, ag, bt, reduceCtorEq, G, E, J, V, M, U, Tryd.td4, Mpr.av, Mly.av, Mres.av]; refine Y _ ?_; clear Y K0; simp only [put, app, a9, af, zE, zS, E, Mres.av])
  refine ai ?_
  refine ⟨by simp only [Z, lkp, zE, reduceCtorEq, G, a8, E]; exact rfl, rfl, ?_, rfl⟩; (repeat refine aZ rfl ?_); exact bz (by exact rfl) hq4
 case b4 => exact bv (by first | rfl | (simp [bV]; done) | decide)
 simp only [bj, bg]
 refine ai ?_
 refine hK3 _ ?_; clear hK3; refine ae [0, 1, 2, 3, 4, 20] ?_; simp only [Z, lkp, zE, reduceCtorEq, G, a8, E]
 refine aG (by simp only [ev, Z, lkp, zE, reduceCtorEq, G, a8, E]; exact rfl) (fun hc5 => ?_) (fun hc5 => ?_)
 ·(try simp only [zB, reduceCtorEq] at hc5)
  refine aa fun K6 hK6 => ?_
  refine aj hP hN rfl ?_
  refine ad rfl fun K0 Y => ?_
  refine bc (h := aU jx) rfl rfl (by first | exact rfl | (simp only [ev, Z, lkp, zE, reduceCtorEq, G, a8, E]; exact rfl)) (by simp only [zE, zG, op1, ev, lkp, ah, ag, au, acs, br, mv1, mvC, Ty.dflt, reduceCtorEq, G, E, J, V, M, U, Mpr.av, Mly.av, Mres.av]) ?_
  refine Y _ ?_; clear Y K0; simp only [put, app, a9, af, zE, zS, E, Mres.av]
  (refine ad rfl fun K0 Y => ?_; simp only [zE, op1, ev, lkp, ah, ag, ev, reduceCtorEq, G, E, J, V, M, U, Tryd.td4, Mpr.av, Mly.av, Mres.av]; refine Y _ ?_; clear Y K0; simp only [put, app, a9, af, zE, zS, E, Mres.av])
  refine ai ?_
  refine hK6 _ ?_; clear hK6; refine ae [0, 1, 2, 3, 4, 20] ?_; simp only [Z, lkp, zE, reduceCtorEq, G, a8, E]
  refine aP ?_
  refine ⟨by first | exact .inl rfl | exact .inr rfl, _, rfl, ?_⟩; simp only [fzV, fz1, fzC, List.map_cons, List.map_nil, Z, lkp, zE, reduceCtorEq, G, a8, E, Mpr.av, Mly.av, Mres.av]
  refine VLE.of_eq ?_
  first | rfl | (refine congrArg (fun b => AV.one (AC.bool b)) ?_; simp [eD, dE]; done) | (refine congrArg (fun b => AV.one (AC.bool b)) ?_; simp_all [eD, dE]; done)
 ·(try simp only [zB, reduceCtorEq] at hc5)
  refine aJ ?_
  refine hK2 _ ?_; clear hK2; refine ae [0, 1, 2, 3, 4, 20] ?_; simp only [Z, lkp, zE, reduceCtorEq, G, a8, E]
  refine aa fun K7 hK7 => ?_
  refine aj hP hN rfl ?_
  iterate 2 (refine ad rfl fun K0 Y => ?_; simp only [zE, op1, ev, lkp, ah, ag, ay, Nat.mul_one, aw, ax, acs, Ty.dflt, zG, aq, reduceCtorEq, G, E, J, V, M, U, Tryd.st24, Tryd.st47, Tryd.td24, Tryd.td47, Mpr.av, Mly.av, Mres.av]; (repeat refine And.intro (by first | omega | assumption | exact rfl) ?_); refine Y _ ?_; clear Y K0; simp only [put, app, a9, af, zE, zS, E, Mres.av])
  refine ad rfl fun K0 Y => ?_
  refine bc (h := aU (lx m p)) rfl rfl (by first | exact rfl | (simp only [ev, Z, lkp, zE, reduceCtorEq, G, a8, E]; exact rfl)) (by simp only [zE, zG, op1, ev, lkp, ah, ag, au, acs, br, mv1, mvC, Ty.dflt, reduceCtorEq, G, E, J, V, M, U, Mpr.av, Mly.av, Mres.av, Mres.av]) ?_
  refine Y _ ?_; clear Y K0; simp only [put, app, a9, af, zE, zS, E, Mres.av]
  iterate 11 (refine ad rfl fun K0 Y => ?_; simp only [zE, op1, ev, lkp, ah, ag, bZ, co, bI, Nat.mul_one, au, aQ, aL, acs, Ty.size, Ty.dflt, zG, reduceCtorEq, G, E, J, V, M, U, Tryd.st47, Tryd.st50, Tryd.td1, Tryd.td2, Tryd.td26, Tryd.td3, Tryd.td4, Tryd.td47, Tryd.td50, Mpr.av, Mly.av, Mres.av]; (repeat refine And.intro (by first | omega | assumption | exact rfl) ?_); (first | refine Y _ ?_ | refine Or.inl (Y _ ?_)); clear Y K0; simp only [put, app, a9, af, zE, zS, E, Mres.av])
  refine ai ?_
  refine hK7 _ ?_; clear hK7; refine ae [0, 1, 2, 3, 4, 5, 6, 7, 8, 20] ?_; simp only [Z, lkp, zE, reduceCtorEq, G, a8, E]
  refine aa fun K8 hK8 => ?_
  refine aj hP hN rfl ?_
  iterate 2 (refine ad rfl fun K0 Y => ?_; simp only [zE, op1, ev, lkp, ah, ag, ay, Nat.mul_one, aw, ax, acs, Ty.dflt, zG, aq, reduceCtorEq, G, E, J, V, M, U, Tryd.st24, Tryd.st47, Tryd.td24, Tryd.td47, Mpr.av, Mly.av, Mres.av]; (repeat refine And.intro (by first | omega | assumption | exact rfl) ?_); refine Y _ ?_; clear Y K0; simp only [put, app, a9, af, zE, zS, E, Mres.av])
  refine ad rfl fun K0 Y => ?_
  refine bc (h := aU (qG m p)) rfl rfl (by first | exact rfl | (simp only [ev, Z, lkp, zE, reduceCtorEq, G, a8, E]; exact rfl)) (by simp only [zE, zG, op1, ev, lkp, ah, ag, au, acs, br, mv1, mvC, Ty.dflt, reduceCtorEq, G, E, J, V, M, U, Mpr.av, Mly.av, Mres.av, Mres.av]) ?_
  refine Y _ ?_; clear Y K0; simp only [put, app, a9, af, zE, zS, E, Mres.av]
  iterate 11 (refine ad rfl fun K0 Y => ?_; simp only [zE, op1, ev, lkp, ah, ag, bZ, co, bI, Nat.mul_one, au, aQ, aL, acs, Ty.size, Ty.dflt, zG, reduceCtorEq, G, E, J, V, M, U, Tryd.st47, Tryd.st50, Tryd.td1, Tryd.td2, Tryd.td3, Tryd.td4, Tryd.td47, Tryd.td50, Mpr.av, Mly.av, Mres.av]; (repeat refine And.intro (by first | omega | assumption | exact rfl) ?_); (first | refine Y _ ?_ | refine Or.inl (Y _ ?_)); clear Y K0; simp only [put, app, a9, af, zE, zS, E, Mres.av])
  refine ai ?_
  refine hK8 _ ?_; clear hK8; refine ae [0, 1, 2, 3, 4, 5, 6, 7, 8, 9, 10, 11, 12, 20] ?_; simp only [Z, lkp, zE, reduceCtorEq, G, a8, E]
  refine aa fun K9 hK9 => ?_
  refine aj hP hN rfl ?_
  iterate 2 (refine ad rfl fun K0 Y => ?_; simp only [zE, op1, ev, lkp, ah, ag, ay, Nat.mul_one, aw, ax, acs, Ty.dflt, zG, aq, reduceCtorEq, G, E, J, V, M, U, Tryd.st47, Tryd.td47, Mpr.av, Mly.av, Mres.av]; (repeat refine And.intro (by first | omega | assumption | exact rfl) ?_); refine Y _ ?_; clear Y K0; simp only [put, app, a9, af, zE, zS, E, Mres.av])
  refine ad rfl fun K0 Y => ?_
  refine bc (h := aU (lU (mdl m p).my (mdl m p).my)) rfl rfl (by first | exact rfl | (simp only [ev, Z, lkp, zE, reduceCtorEq, G, a8, E]; exact rfl)) (by simp only [zE, zG, op1, ev, lkp, ah, ag, au, acs, br, mv1, mvC, Ty.dflt, reduceCtorEq, G, E, J, V, M, U, Mpr.av, Mly.av, Mres.av]) ?_
  refine Y _ ?_; clear Y K0; simp only [put, app, a9, af, zE, zS, E, Mres.av]
  (refine ad rfl fun K0 Y => ?_; simp only [zE, op1, ev, lkp, ah, ag, ev, reduceCtorEq, G, E, J, V, M, U, Tryd.td4, Mpr.av, Mly.av, Mres.av]; refine Y _ ?_; clear Y K0; simp only [put, app, a9, af, zE, zS, E, Mres.av])
  refine' aY (want := true) 3 rfl (m := 41) (by simp only [Z, lkp, zE, reduceCtorEq, G, a8, E]; exact rfl) (by kernel_rfl) rfl rfl rfl rfl rfl (fun hg10 => ?a10) ?b10 ?c10
  case a10 =>
   have hq10 := hg10; (try simp only [zB, reduceCtorEq] at hg10); simp only [List.take_succ_cons, List.take_zero, List.cons_append, List.nil_append]
   (refine ar rfl fun K0 Y => ?_; simp only [zE, op1, ev, lkp, ah, ag, ay, Nat.mul_one, aw, ax, acs, Ty.dflt, zG, aq, reduceCtorEq, G, E, J, V, M, U, Tryd.st50, Tryd.td50, Mpr.av, Mly.av, Mres.av]; (repeat refine And.intro (by first | omega | assumption | exact rfl) ?_); refine Y _ ?_; clear Y K0; simp only [put, app, a9, af, zE, zS, E, Mres.av])
   (refine ar rfl fun K0 Y => ?_; simp only [zE, op1, ev, lkp, ah, ag, ay, Nat.mul_one, aw, ax, acs, Ty.dflt, zG, aq, reduceCtorEq, G, E, J, V, M, U, Tryd.st50, Tryd.td50, Mpr.av, Mly.av, Mres.av]; (repeat refine And.intro (by first | omega | assumption | exact rfl) ?_); refine Y _ ?_; clear Y K0; simp only [put, app, a9, af, zE, zS, E, Mres.av])
   refine ar rfl fun K0 Y => ?_
   refine bc (h := aU (kU (mdl m p).w (mdl m p).a (mdl m p).b (mdl m p).w (mdl m p).a (mdl m p).b)) rfl rfl (by first | exact rfl | (simp only [ev, Z, lkp, zE, reduceCtorEq, G, a8, E]; exact rfl)) (by simp only [zE, zG, op1, ev, lkp, ah, ag, au, acs, br, mv1, mvC, Ty.dflt, reduceCtorEq, G, E, J, V, M, U, Mpr.av, Mly.av, Mres.av]) ?_
   refine Y _ ?_; clear Y K0; simp only [put, app, a9, af, zE, zS, E, Mres.av]
   (refine ad rfl fun K0 Y => ?_; simp only [zE, op1, ev, lkp, ah, ag, bt, reduceCtorEq, G, E, J, V, M, U, Tryd.td4, Mpr.av, Mly.av, Mres.av]; refine Y _ ?_; clear Y K0; simp only [put, app, a9, af, zE, zS, E, Mres.av])
   refine ai ?_
   refine ⟨by simp only [Z, lkp, zE, reduceCtorEq, G, a8, E]; exact rfl, rfl, ?_, rfl⟩; (repeat refine aZ rfl ?_); exact bz (by exact rfl) hq10
  case b10 => exact bv (by first | rfl | (simp [bV]; done) | decide)
  simp only [bj, bg]
  (refine ad rfl fun K0 Y => ?_; simp only [zE, op1, ev, lkp, ah, ag, ev, reduceCtorEq, G, E, J, V, M, U, Tryd.td4, Mpr.av, Mly.av, Mres.av]; refine Y _ ?_; clear Y K0; simp only [put, app, a9, af, zE, zS, E, Mres.av])
  refine' aY (want := true) 3 rfl (m := 46) (by simp only [Z, lkp, zE, reduceCtorEq, G, a8, E]; exact rfl) (by kernel_rfl) rfl rfl rfl rfl rfl (fun hg11 => ?a11) ?b11 ?c11
  case a11 =>
   have hq11 := hg11; (try simp only [zB, reduceCtorEq] at hg11); simp only [List.take_succ_cons, List.take_zero, List.cons_append, List.nil_append]
   (refine ar rfl fun K0 Y => ?_; simp only [zE, op1, ev, lkp, ah, ag, ev, reduceCtorEq, G, E, J, V, M, U, Tryd.td4, Mpr.av, Mly.av, Mres.av]; refine Y _ ?_; clear Y K0; simp only [put, app, a9, af, zE, zS, E, Mres.av])
   (refine ar rfl fun K0 Y => ?_; simp only [zE, op1, ev, lkp, ah, ag, ev, reduceCtorEq, G, E, J, V, M, U, Tryd.td4, Mpr.av, Mly.av, Mres.av]; refine Y _ ?_; clear Y K0; simp only [put, app, a9, af, zE, zS, E, Mres.av])
   (refine ar rfl fun K0 Y => ?_; simp only [zE, op1, ev, lkp, ah, ag, aC, aD, aE, ao, aB, aR, reduceCtorEq, G, E, J, V, M, U, Tryd.td4, Mpr.av, Mly.av, Mres.av]; (repeat refine And.intro (by first | omega | assumption | exact rfl) ?_); refine Y _ ?_; clear Y K0; simp only [put, app, a9, af, zE, zS, E, Mres.av])
   (refine ad rfl fun K0 Y => ?_; simp only [zE, op1, ev, lkp, ah, ag, bt, reduceCtorEq, G, E, J, V, M, U, Tryd.td4, Mpr.av, Mly.av, Mres.av]; refine Y _ ?_; clear Y K0; simp only [put, app, a9, af, zE, zS, E, Mres.av])
   refine ai ?_
   refine ⟨by simp only [Z, lkp, zE, reduceCtorEq, G, a8, E]; exact rfl, rfl, ?_, rfl⟩; (repeat refine aZ rfl ?_); exact bz (by exact rfl) hq11
  case b11 => exact bv (by first | rfl | (simp [bV]; done) | decide)
  simp only [bj, bg]
  (refine ad rfl fun K0 Y => ?_; simp only [zE, op1, ev, lkp, ah, ag, ev, reduceCtorEq, G, E, J, V, M, U, Tryd.td4, Mpr.av, Mly.av, Mres.av]; refine Y _ ?_; clear Y K0; simp only [put, app, a9, af, zE, zS, E, Mres.av])
  refine' aY (want := true) 3 rfl (m := 51) (by simp only [Z, lkp, zE, reduceCtorEq, G, a8, E]; exact rfl) (by kernel_rfl) rfl rfl rfl rfl rfl (fun hg12 => ?a12) ?b12 ?c12
  case a12 =>
   have hq12 := hg12; (try simp only [zB, reduceCtorEq] at hg12); simp only [List.take_succ_cons, List.take_zero, List.cons_append, List.nil_append]
   (refine ar rfl fun K0 Y => ?_; simp only [zE, op1, ev, lkp, ah, ag, ev, reduceCtorEq, G, E, J, V, M, U, Tryd.td26, Mpr.av, Mly.av, Mres.av]; refine Y _ ?_; clear Y K0; simp only [put, app, a9, af, zE, zS, E, Mres.av])
   (refine ar rfl fun K0 Y => ?_; simp only [zE, op1, ev, lkp, ah, ag, ev, reduceCtorEq, G, E, J, V, M, U, Tryd.td3, Mpr.av, Mly.av, Mres.av]; refine Y _ ?_; clear Y K0; simp only [put, app, a9, af, zE, zS, E, Mres.av])
   (refine ar rfl fun K0 Y => ?_; simp only [zE, op1, ev, lkp, ah, ag, aC, aD, aE, ao, aB, aR, reduceCtorEq, G, E, J, V, M, U, Tryd.td3, Tryd.td4, Mpr.av, Mly.av, Mres.av]; (repeat refine And.intro (by first | omega | assumption | exact rfl) ?_); refine Y _ ?_; clear Y K0; simp only [put, app, a9, af, zE, zS, E, Mres.av])
   (refine ad rfl fun K0 Y => ?_; simp only [zE, op1, ev, lkp, ah, ag, bt, reduceCtorEq, G, E, J, V, M, U, Tryd.td4, Mpr.av, Mly.av, Mres.av]; refine Y _ ?_; clear Y K0; simp only [put, app, a9, af, zE, zS, E, Mres.av])
   refine ai ?_
   refine ⟨by simp only [Z, lkp, zE, reduceCtorEq, G, a8, E]; exact rfl, rfl, ?_, rfl⟩; (repeat refine aZ rfl ?_); exact bz (by exact rfl) hq12
  case b12 => exact bv (by first | rfl | (simp [bV]; done) | decide)
  simp only [bj, bg]
  (refine ad rfl fun K0 Y => ?_; simp only [zE, op1, ev, lkp, ah, ag, ev, reduceCtorEq, G, E, J, V, M, U, Tryd.td4, Mpr.av, Mly.av, Mres.av]; refine Y _ ?_; clear Y K0; simp only [put, app, a9, af, zE, zS, E, Mres.av])
  refine' aY (want := true) 1 rfl (m := 56) (by simp only [Z, lkp, zE, reduceCtorEq, G, a8, E]; exact rfl) (by kernel_rfl) rfl rfl rfl rfl rfl (fun hg13 => ?a13) ?b13 ?c13
  case a13 =>
   have hq13 := hg13; (try simp only [zB, reduceCtorEq] at hg13); simp only [List.take_succ_cons, List.take_zero, List.cons_append, List.nil_append]
   refine ar rfl fun K0 Y => ?_
   refine bc (h := aU jx) rfl rfl (by first | exact rfl | (simp only [ev, Z, lkp, zE, reduceCtorEq, G, a8, E]; exact rfl)) (by simp only [zE, zG, op1, ev, lkp, ah, ag, au, acs, br, mv1, mvC, Ty.dflt, reduceCtorEq, G, E, J, V, M, U, Mpr.av, Mly.av, Mres.av]) ?_
   refine Y _ ?_; clear Y K0; simp only [put, app, a9, af, zE, zS, E, Mres.av]
   (refine ad rfl fun K0 Y => ?_; simp only [zE, op1, ev, lkp, ah, ag, bt, reduceCtorEq, G, E, J, V, M, U, Tryd.td4, Mpr.av, Mly.av, Mres.av]; refine Y _ ?_; clear Y K0; simp only [put, app, a9, af, zE, zS, E, Mres.av])
   refine ai ?_
   refine ⟨by simp only [Z, lkp, zE, reduceCtorEq, G, a8, E]; exact rfl, rfl, ?_, rfl⟩; (repeat refine aZ rfl ?_); exact bz (by exact rfl) hq13
  case b13 => exact bv (by first | rfl | (simp [bV]; done) | decide)
  simp only [bj, bg]
  (refine ad rfl fun K0 Y => ?_; simp only [zE, op1, ev, lkp, ah, ag, ev, reduceCtorEq, G, E, J, V, M, U, Tryd.td4, Mpr.av, Mly.av, Mres.av]; refine Y _ ?_; clear Y K0; simp only [put, app, a9, af, zE, zS, E, Mres.av])
  refine ai ?_
  refine hK9 _ ?_; clear hK9; refine ae [0, 1, 2, 3, 4, 5, 6, 7, 8, 9, 10, 11, 12, 20] ?_; simp only [Z, lkp, zE, reduceCtorEq, G, a8, E]
  refine aP ?_
  refine ⟨by first | exact .inl rfl | exact .inr rfl, _, rfl, ?_⟩; simp only [fzV, fz1, fzC, List.map_cons, List.map_nil, Z, lkp, zE, reduceCtorEq, G, a8, E, Mpr.av, Mly.av, Mres.av]
  refine VLE.of_eq ?_
  first | rfl | (refine congrArg (fun b => AV.one (AC.bool b)) ?_; simp [eD, dE]; done) | (refine congrArg (fun b => AV.one (AC.bool b)) ?_; simp_all [eD, dE]; done)
end Go.Proofs.YtgmgnkmgofkfpaaDoor
