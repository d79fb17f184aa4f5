/- Contracts of functions of this seat, each out of a walk through its code, and plain facts on what they compute. Conditions: those that each theorem names. -/
import Derived.Test.YtdkgcbhbpdbmnaaW05
set_option linter.unusedSimpArgs false
set_option linter.unusedVariables false
namespace Go.Proofs.Ytdkgcbhbpdbmnaa
open Go Go.AV
open Nat renaming reduceEqDiff → E, reduceAdd → D, reduceLeDiff → J, reduceLT → U, reduceMul → O, reduceSub → S
open List renaming set_cons_zero → aq, set_cons_succ → am
set_option maxRecDepth 100000 in
theorem sf (m : Mly) (s : Nat) (hi : m.inp ≤ 64) (hs : s < m.nx.length) (ho : m.ot.length = m.nx.length) : bJ Try.prog 85 [m.av, .one (.int .i64 (s : Int))] (.one (.int .i64 (fj m s))) := by
 refine aS Try.func85 rfl (by kernel_rfl) (Nat.le_of_ble_eq_true rfl) rfl fun C hP hN hB => ?_
 replace hN : C.N = 77 := hN
 simp only [Z, D]
 refine ab fun K1 hK1 => ?_
 refine ai hP hN rfl ?_
 iterate 2 (refine ad rfl fun K0 V => ?_; simp only [zE, op1, ev, lkp, ah, ag, c0, au, reduceCtorEq, E, D, J, U, O, S, Try.st58, Try.td3, Try.td58, Mly.av]; (repeat refine And.intro (by first | omega | assumption | exact rfl) ?_); refine V _ ?_; clear V K0; simp only [put, app, aa, af, zE, zS, D])
 refine aj ?_
 refine hK1 _ ?_; clear hK1; refine ae [0, 1, 2, 4] ?_; simp only [Y, lkp, zE, reduceCtorEq, E, Z, D]
 refine ab fun K2 hK2 => ?_
 refine ab fun K3 hK3 => ?_
 refine bY hP hN Try.mixed rfl ?_
 iterate 9 (refine ad rfl fun K0 V => ?_; simp only [zE, op1, ev, lkp, ah, ag, aw, az, Nat.mul_one, ax, ay, acs, Ty.dflt, zG, ao, aJ, Ty.size, ne_eq, not_false_eq_true, Int.natCast_one, Int.mul_one, aH, bu, bb, aY, aZ, br, Nat.div_one, aM, b0, aL, dite_true, aE, aC, aD, ar, aB, aN, reduceCtorEq, E, D, J, U, O, S, Try.el22, Try.el26, Try.st58, Try.td2, Try.td22, Try.td26, Try.td3, Try.td4, Try.td58, Mly.av]; (repeat refine And.intro (by first | omega | assumption | exact rfl) ?_); (first | refine V _ ?_ | refine Or.inl (V _ ?_)); clear V K0; simp only [put, app, aa, af, zE, zS, D])
 (refine ad rfl fun K0 V => ?_; simp only [zE, op1, ev, lkp, ah, ag, ev, reduceCtorEq, E, D, J, U, O, S, Try.td4, Mly.av]; refine V _ ?_; clear V K0; simp only [put, app, aa, af, zE, zS, D])
 refine' aU (want := false) 9 rfl (m := 15) (by simp only [Y, lkp, zE, reduceCtorEq, E, Z, D]; exact rfl) (by kernel_rfl) rfl rfl rfl rfl rfl (fun hg4 => ?a4) ?b4 ?c4
 case a4 =>
  have hq4 := hg4; (try simp only [zB, reduceCtorEq] at hg4); simp only [List.take_succ_cons, List.take_zero, List.cons_append, List.nil_append]
  (refine aA rfl fun K0 V => ?_; simp only [zE, op1, ev, lkp, ah, ag, aw, reduceCtorEq, E, D, J, U, O, S, Try.st58, Try.td3, Try.td58, Mly.av]; (repeat refine And.intro (by first | omega | assumption | exact rfl) ?_); refine V _ ?_; clear V K0; simp only [put, app, aa, af, zE, zS, D])
  (refine aA rfl fun K0 V => ?_; simp only [zE, op1, ev, lkp, ah, ag, az, Nat.mul_one, ax, ay, acs, Ty.dflt, zG, ao, reduceCtorEq, E, D, J, U, O, S, Try.el22, Try.td22, Mly.av]; (repeat refine And.intro (by first | omega | assumption | exact rfl) ?_); refine V _ ?_; clear V K0; simp only [put, app, aa, af, zE, zS, D])
  (refine aA rfl fun K0 V => ?_; simp only [zE, op1, ev, lkp, ah, ag, ev, reduceCtorEq, E, D, J, U, O, S, Try.td3, Mly.av]; refine V _ ?_; clear V K0; simp only [put, app, aa, af, zE, zS, D])
  (refine aA rfl fun K0 V => ?_; simp only [zE, op1, ev, lkp, ah, ag, aJ, zG, Ty.dflt, Ty.size, Nat.mul_one, ne_eq, not_false_eq_true, Int.natCast_one, Int.mul_one, reduceCtorEq, E, D, J, U, O, S, Try.el22, Try.td22, Mly.av]; (repeat refine And.intro (by first | omega | assumption | exact rfl) ?_); refine V _ ?_; clear V K0; simp only [put, app, aa, af, zE, zS, D])
  (refine aA rfl fun K0 V => ?_; simp only [zE, op1, ev, lkp, ah, ag, az, Nat.mul_one, ax, ay, acs, Ty.dflt, zG, ao, reduceCtorEq, E, D, J, U, O, S, Try.el26, Try.td26, Mly.av]; (repeat refine And.intro (by first | omega | assumption | exact rfl) ?_); refine V _ ?_; clear V K0; simp only [put, app, aa, af, zE, zS, D])
  (refine aA rfl fun K0 V => ?_; simp only [zE, op1, ev, lkp, ah, ag, aH, bu, bb, aY, aZ, br, Nat.div_one, aM, b0, Ty.size, aL, dite_true, reduceCtorEq, E, D, J, U, O, S, Try.el26, Try.td26, Try.td3, Mly.av]; (repeat refine And.intro (by first | omega | assumption | exact rfl) ?_); (first | refine V _ ?_ | refine Or.inl (V _ ?_)); clear V K0; simp only [put, app, aa, af, zE, zS, D])
  (refine aA rfl fun K0 V => ?_; simp only [zE, op1, ev, lkp, ah, ag, aw, reduceCtorEq, E, D, J, U, O, S, Try.st58, Try.td58, Mly.av]; (repeat refine And.intro (by first | omega | assumption | exact rfl) ?_); refine V _ ?_; clear V K0; simp only [put, app, aa, af, zE, zS, D])
  (refine aA rfl fun K0 V => ?_; simp only [zE, op1, ev, lkp, ah, ag, az, Nat.mul_one, ax, ay, acs, Ty.dflt, zG, ao, reduceCtorEq, E, D, J, U, O, S, Try.td3, Mly.av]; (repeat refine And.intro (by first | omega | assumption | exact rfl) ?_); refine V _ ?_; clear V K0; simp only [put, app, aa, af, zE, zS, D])
  (refine aA rfl fun K0 V => ?_; simp only [zE, op1, ev, lkp, ah, ag, aE, aC, aD, ar, aB, aN, reduceCtorEq, E, D, J, U, O, S, Try.td3, Try.td4, Mly.av]; (repeat refine And.intro (by first | omega | assumption | exact rfl) ?_); refine V _ ?_; clear V K0; simp only [put, app, aa, af, zE, zS, D])
  (refine ad rfl fun K0 V => ?_; simp only [zE, op1, ev, lkp, ah, ag, bm, reduceCtorEq, E, D, J, U, O, S, Try.td4, Mly.av]; refine V _ ?_; clear V K0; simp only [put, app, aa, af, zE, zS, D])
  refine aj ?_
  refine ⟨by simp only [Y, lkp, zE, reduceCtorEq, E, Z, D]; exact rfl, rfl, ?_, rfl⟩; (repeat refine aV rfl ?_); exact bt (by exact rfl) hq4
 case b4 => exact bq (by first | rfl | (simp [bS]; done) | decide)
 simp only [bg, aX]
 refine aj ?_
 refine ⟨by kernel_rfl, ?_⟩
 refine hK3 _ ?_; clear hK3; refine ae [0, 1, 2, 4, 25] ?_; simp only [Y, lkp, zE, reduceCtorEq, E, Z, D]
 refine aF (by simp only [ev, Y, lkp, zE, reduceCtorEq, E, Z, D]; exact rfl) (fun hc5 => ?_) (fun hc5 => ?_)
 ·(try simp only [zB, reduceCtorEq] at hc5)
  refine ab fun K6 hK6 => ?_
  refine ai hP hN rfl ?_
  (refine ad rfl fun K0 V => ?_; simp only [zE, op1, ev, lkp, ah, ag, ev, reduceCtorEq, E, D, J, U, O, S, Try.td3, Mly.av]; refine V _ ?_; clear V K0; simp only [put, app, aa, af, zE, zS, D])
  refine aj ?_
  refine hK6 _ ?_; clear hK6; refine ae [0, 1, 2, 4, 25] ?_; simp only [Y, lkp, zE, reduceCtorEq, E, Z, D]
  refine aI ?_
  refine ⟨by first | exact .inl rfl | exact .inr rfl, _, rfl, ?_⟩; simp only [fzV, fz1, fzC, List.map_cons, List.map_nil, Y, lkp, zE, reduceCtorEq, E, Z, D, Mly.av]
  refine VLE.of_eq ?_
  refine congrArg (fun n => AV.one (AC.int IntKind.i64 n)) ?_
  symm
  first
  | exact cd hc5
  | exact ca hc5.1 hc5.2 (j := j) (by omega) (by unfold bM; omega)
  | exact iv hc5.1 hc5.2 fun a ha => hcells a (by omega)
 ·(try simp only [zB, reduceCtorEq] at hc5)
  refine aK ?_
  refine hK2 _ ?_; clear hK2; refine ae [0, 1, 2, 4, 25] ?_; simp only [Y, lkp, zE, reduceCtorEq, E, Z, D]
  refine ab fun K7 hK7 => ?_
  refine ab fun K8 hK8 => ?_
  refine ai hP hN rfl ?_
  (refine ad rfl fun K0 V => ?_; simp only [zE, op1, ev, lkp, ah, ag, ev, reduceCtorEq, E, D, J, U, O, S, Try.td3, Mly.av]; refine V _ ?_; clear V K0; simp only [put, app, aa, af, zE, zS, D])
  refine aj ?_
  refine hK8 _ ?_; clear hK8; refine ae [0, 1, 2, 4, 5, 25] ?_; simp only [Y, lkp, zE, reduceCtorEq, E, Z, D]
  refine aP ?_
  refine bG (fun n9 s9 => ∃ (j : Nat), (∀ a, a < j → ¬ bM m s a) ∧ (j ≤ m.inp.toNat) ∧ n9 = m.inp.toNat - j ∧ s9 = { env := [(1, .one (.int .i64 (s : Int))), (2, .one (.ptr 0 0 0 0)), (5, .one (.int .i64 (j : Int)))], L := [.vars 58 [.int .i64 m.inp, .int .i64 m.st, .list (.list (.int .i64)) m.nx, .list (.list (.int .i64)) m.ot]] }) ?_ ?_
  ·exact ⟨_, _, aO [1, 2, 5], 0, fun i hi => by omega, Nat.zero_le _, rfl, rfl⟩
  ·rintro n9 s9 ⟨j, hcells, hj, rfl, rfl⟩
   refine ab fun K10 hK10 => ?_
   refine ab fun K11 hK11 => ?_
   refine ai hP hN rfl ?_
   iterate 4 (refine ad rfl fun K0 V => ?_; simp only [zE, op1, ev, lkp, ah, ag, aw, az, Nat.mul_one, ax, ay, acs, Ty.dflt, zG, ao, aE, aC, aD, ar, aB, aN, reduceCtorEq, E, D, J, U, O, S, Try.st58, Try.td3, Try.td4, Try.td58, Mly.av]; (repeat refine And.intro (by first | omega | assumption | exact rfl) ?_); refine V _ ?_; clear V K0; simp only [put, app, aa, af, zE, zS, D])
   refine aj ?_
   refine hK11 _ ?_; clear hK11; refine ae [1, 2, 5, 29] ?_; simp only [Y, lkp, zE, reduceCtorEq, E, Z, D]
   refine aF (by simp only [ev, Y, lkp, zE, reduceCtorEq, E, Z, D]; exact rfl) (fun hc12 => ?_) (fun hc12 => ?_)
   ·(try simp only [zB, reduceCtorEq] at hc12)
    refine aK ?_
    refine hK10 _ ?_; clear hK10; refine ae [1, 2, 5, 29] ?_; simp only [Y, lkp, zE, reduceCtorEq, E, Z, D]
    refine ab fun K13 hK13 => ?_
    refine aP ?_
    refine ab fun K14 hK14 => ?_
    refine bY hP hN Try.mixed rfl ?_
    iterate 9 (refine ad rfl fun K0 V => ?_; simp only [zE, op1, ev, lkp, ah, ag, aw, az, Nat.mul_one, ax, ay, acs, Ty.dflt, zG, ao, aJ, Ty.size, ne_eq, not_false_eq_true, Int.natCast_one, Int.mul_one, aE, aC, aD, ar, aB, aN, reduceCtorEq, E, D, J, U, O, S, Try.el22, Try.el26, Try.st58, Try.td2, Try.td22, Try.td26, Try.td3, Try.td4, Try.td58, Mly.av]; (repeat refine And.intro (by first | omega | assumption | exact rfl) ?_); refine V _ ?_; clear V K0; simp only [put, app, aa, af, zE, zS, D])
    (refine ad rfl fun K0 V => ?_; simp only [zE, op1, ev, lkp, ah, ag, ev, reduceCtorEq, E, D, J, U, O, S, Try.td4, Mly.av]; refine V _ ?_; clear V K0; simp only [put, app, aa, af, zE, zS, D])
    refine' aU (want := false) 12 rfl (m := 41) (by simp only [Y, lkp, zE, reduceCtorEq, E, Z, D]; exact rfl) (by kernel_rfl) rfl rfl rfl rfl rfl (fun hg15 => ?a15) ?b15 ?c15
    case a15 =>
     have hq15 := hg15; (try simp only [zB, reduceCtorEq] at hg15); simp only [List.take_succ_cons, List.take_zero, List.cons_append, List.nil_append]
     (refine aA rfl fun K0 V => ?_; simp only [zE, op1, ev, lkp, ah, ag, aw, reduceCtorEq, E, D, J, U, O, S, Try.st58, Try.td2, Try.td58, Mly.av]; (repeat refine And.intro (by first | omega | assumption | exact rfl) ?_); refine V _ ?_; clear V K0; simp only [put, app, aa, af, zE, zS, D])
     (refine aA rfl fun K0 V => ?_; simp only [zE, op1, ev, lkp, ah, ag, az, Nat.mul_one, ax, ay, acs, Ty.dflt, zG, ao, reduceCtorEq, E, D, J, U, O, S, Try.el22, Try.td22, Mly.av]; (repeat refine And.intro (by first | omega | assumption | exact rfl) ?_); refine V _ ?_; clear V K0; simp only [put, app, aa, af, zE, zS, D])
     (refine aA rfl fun K0 V => ?_; simp only [zE, op1, ev, lkp, ah, ag, ev, reduceCtorEq, E, D, J, U, O, S, Try.td3, Mly.av]; refine V _ ?_; clear V K0; simp only [put, app, aa, af, zE, zS, D])
     (refine aA rfl fun K0 V => ?_; simp only [zE, op1, ev, lkp, ah, ag, aJ, zG, Ty.dflt, Ty.size, Nat.mul_one, ne_eq, not_false_eq_true, Int.natCast_one, Int.mul_one, reduceCtorEq, E, D, J, U, O, S, Try.el22, Try.td22, Mly.av]; (repeat refine And.intro (by first | omega | assumption | exact rfl) ?_); refine V _ ?_; clear V K0; simp only [put, app, aa, af, zE, zS, D])
     (refine aA rfl fun K0 V => ?_; simp only [zE, op1, ev, lkp, ah, ag, az, Nat.mul_one, ax, ay, acs, Ty.dflt, zG, ao, reduceCtorEq, E, D, J, U, O, S, Try.el26, Try.td26, Mly.av]; (repeat refine And.intro (by first | omega | assumption | exact rfl) ?_); refine V _ ?_; clear V K0; simp only [put, app, aa, af, zE, zS, D])
     (refine aA rfl fun K0 V => ?_; simp only [zE, op1, ev, lkp, ah, ag, ev, reduceCtorEq, E, D, J, U, O, S, Try.td3, Mly.av]; refine V _ ?_; clear V K0; simp only [put, app, aa, af, zE, zS, D])
     (refine aA rfl fun K0 V => ?_; simp only [zE, op1, ev, lkp, ah, ag, aJ, zG, Ty.dflt, Ty.size, Nat.mul_one, ne_eq, not_false_eq_true, Int.natCast_one, Int.mul_one, reduceCtorEq, E, D, J, U, O, S, Try.el26, Try.td26, Mly.av]; (repeat refine And.intro (by first | omega | assumption | exact rfl) ?_); refine V _ ?_; clear V K0; simp only [put, app, aa, af, zE, zS, D])
     (refine aA rfl fun K0 V => ?_; simp only [zE, op1, ev, lkp, ah, ag, az, Nat.mul_one, ax, ay, acs, Ty.dflt, zG, ao, reduceCtorEq, E, D, J, U, O, S, Try.td3, Mly.av]; (repeat refine And.intro (by first | omega | assumption | exact rfl) ?_); refine V _ ?_; clear V K0; simp only [put, app, aa, af, zE, zS, D])
     (refine aA rfl fun K0 V => ?_; simp only [zE, op1, ev, lkp, ah, ag, aw, reduceCtorEq, E, D, J, U, O, S, Try.st58, Try.td2, Try.td58, Mly.av]; (repeat refine And.intro (by first | omega | assumption | exact rfl) ?_); refine V _ ?_; clear V K0; simp only [put, app, aa, af, zE, zS, D])
     (refine aA rfl fun K0 V => ?_; simp only [zE, op1, ev, lkp, ah, ag, az, Nat.mul_one, ax, ay, acs, Ty.dflt, zG, ao, reduceCtorEq, E, D, J, U, O, S, Try.el22, Try.td22, Mly.av]; (repeat refine And.intro (by first | omega | assumption | exact rfl) ?_); refine V _ ?_; clear V K0; simp only [put, app, aa, af, zE, zS, D])
     (refine aA rfl fun K0 V => ?_; simp only [zE, op1, ev, lkp, ah, ag, aH, bu, bb, aY, aZ, br, Nat.div_one, aM, b0, Ty.size, aL, dite_true, reduceCtorEq, E, D, J, U, O, S, Try.el22, Try.td22, Try.td3, Mly.av]; (repeat refine And.intro (by first | omega | assumption | exact rfl) ?_); (first | refine V _ ?_ | refine Or.inl (V _ ?_)); clear V K0; simp only [put, app, aa, af, zE, zS, D])
     (refine aA rfl fun K0 V => ?_; simp only [zE, op1, ev, lkp, ah, ag, aE, aC, aD, ar, aB, aN, reduceCtorEq, E, D, J, U, O, S, Try.td3, Try.td4, Mly.av]; (repeat refine And.intro (by first | omega | assumption | exact rfl) ?_); refine V _ ?_; clear V K0; simp only [put, app, aa, af, zE, zS, D])
     (refine ad rfl fun K0 V => ?_; simp only [zE, op1, ev, lkp, ah, ag, bm, reduceCtorEq, E, D, J, U, O, S, Try.td4, Mly.av]; refine V _ ?_; clear V K0; simp only [put, app, aa, af, zE, zS, D])
     refine aj ?_
     refine ⟨by simp only [Y, lkp, zE, reduceCtorEq, E, Z, D]; exact rfl, rfl, ?_, rfl⟩; (repeat refine aV rfl ?_); exact bt (by exact rfl) hq15
    case b15 => exact bq (by first | rfl | (simp [bS]; done) | decide)
    simp only [bg, aX]
    (refine ad rfl fun K0 V => ?_; simp only [zE, op1, ev, lkp, ah, ag, ev, reduceCtorEq, E, D, J, U, O, S, Try.td4, Mly.av]; refine V _ ?_; clear V K0; simp only [put, app, aa, af, zE, zS, D])
    refine' aU (want := false) 9 rfl (m := 55) (by simp only [Y, lkp, zE, reduceCtorEq, E, Z, D]; exact rfl) (by kernel_rfl) rfl rfl rfl rfl rfl (fun hg16 => ?a16) ?b16 ?c16
    case a16 =>
     have hq16 := hg16; (try simp only [zB, reduceCtorEq] at hg16); simp only [List.take_succ_cons, List.take_zero, List.cons_append, List.nil_append]
     (refine aA rfl fun K0 V => ?_; simp only [zE, op1, ev, lkp, ah, ag, aw, reduceCtorEq, E, D, J, U, O, S, Try.st58, Try.td3, Try.td58, Mly.av]; (repeat refine And.intro (by first | omega | assumption | exact rfl) ?_); refine V _ ?_; clear V K0; simp only [put, app, aa, af, zE, zS, D])
     (refine aA rfl fun K0 V => ?_; simp only [zE, op1, ev, lkp, ah, ag, az, Nat.mul_one, ax, ay, acs, Ty.dflt, zG, ao, reduceCtorEq, E, D, J, U, O, S, Try.el22, Try.td22, Mly.av]; (repeat refine And.intro (by first | omega | assumption | exact rfl) ?_); refine V _ ?_; clear V K0; simp only [put, app, aa, af, zE, zS, D])
     (refine aA rfl fun K0 V => ?_; simp only [zE, op1, ev, lkp, ah, ag, ev, reduceCtorEq, E, D, J, U, O, S, Try.td3, Mly.av]; refine V _ ?_; clear V K0; simp only [put, app, aa, af, zE, zS, D])
     (refine aA rfl fun K0 V => ?_; simp only [zE, op1, ev, lkp, ah, ag, aJ, zG, Ty.dflt, Ty.size, Nat.mul_one, ne_eq, not_false_eq_true, Int.natCast_one, Int.mul_one, reduceCtorEq, E, D, J, U, O, S, Try.el22, Try.td22, Mly.av]; (repeat refine And.intro (by first | omega | assumption | exact rfl) ?_); refine V _ ?_; clear V K0; simp only [put, app, aa, af, zE, zS, D])
     (refine aA rfl fun K0 V => ?_; simp only [zE, op1, ev, lkp, ah, ag, az, Nat.mul_one, ax, ay, acs, Ty.dflt, zG, ao, reduceCtorEq, E, D, J, U, O, S, Try.el26, Try.td26, Mly.av]; (repeat refine And.intro (by first | omega | assumption | exact rfl) ?_); refine V _ ?_; clear V K0; simp only [put, app, aa, af, zE, zS, D])
     (refine aA rfl fun K0 V => ?_; simp only [zE, op1, ev, lkp, ah, ag, ev, reduceCtorEq, E, D, J, U, O, S, Try.td3, Mly.av]; refine V _ ?_; clear V K0; simp only [put, app, aa, af, zE, zS, D])
     (refine aA rfl fun K0 V => ?_; simp only [zE, op1, ev, lkp, ah, ag, aJ, zG, Ty.dflt, Ty.size, Nat.mul_one, ne_eq, not_false_eq_true, Int.natCast_one, Int.mul_one, reduceCtorEq, E, D, J, U, O, S, Try.el26, Try.td26, Mly.av]; (repeat refine And.intro (by first | omega | assumption | exact rfl) ?_); refine V _ ?_; clear V K0; simp only [put, app, aa, af, zE, zS, D])
     (refine aA rfl fun K0 V => ?_; simp only [zE, op1, ev, lkp, ah, ag, az, Nat.mul_one, ax, ay, acs, Ty.dflt, zG, ao, reduceCtorEq, E, D, J, U, O, S, Try.td3, Mly.av]; (repeat refine And.intro (by first | omega | assumption | exact rfl) ?_); refine V _ ?_; clear V K0; simp only [put, app, aa, af, zE, zS, D])
     (refine aA rfl fun K0 V => ?_; simp only [zE, op1, ev, lkp, ah, ag, aE, aC, aD, ar, aB, aN, reduceCtorEq, E, D, J, U, O, S, Try.td3, Try.td4, Mly.av]; (repeat refine And.intro (by first | omega | assumption | exact rfl) ?_); refine V _ ?_; clear V K0; simp only [put, app, aa, af, zE, zS, D])
     (refine ad rfl fun K0 V => ?_; simp only [zE, op1, ev, lkp, ah, ag, bm, reduceCtorEq, E, D, J, U, O, S, Try.td4, Mly.av]; refine V _ ?_; clear V K0; simp only [put, app, aa, af, zE, zS, D])
     refine aj ?_
     refine ⟨by simp only [Y, lkp, zE, reduceCtorEq, E, Z, D]; exact rfl, rfl, ?_, rfl⟩; (repeat refine aV rfl ?_); exact bt (by exact rfl) hq16
    case b16 => exact bq (by first | rfl | (simp [bS]; done) | decide)
    simp only [bg, aX]
    (refine ad rfl fun K0 V => ?_; simp only [zE, op1, ev, lkp, ah, ag, ev, reduceCtorEq, E, D, J, U, O, S, Try.td4, Mly.av]; refine V _ ?_; clear V K0; simp only [put, app, aa, af, zE, zS, D])
    refine' aU (want := false) 9 rfl (m := 66) (by simp only [Y, lkp, zE, reduceCtorEq, E, Z, D]; exact rfl) (by kernel_rfl) rfl rfl rfl rfl rfl (fun hg17 => ?a17) ?b17 ?c17
    case a17 =>
     have hq17 := hg17; (try simp only [zB, reduceCtorEq] at hg17); simp only [List.take_succ_cons, List.take_zero, List.cons_append, List.nil_append]
     (refine aA rfl fun K0 V => ?_; simp only [zE, op1, ev, lkp, ah, ag, aw, reduceCtorEq, E, D, J, U, O, S, Try.st58, Try.td3, Try.td58, Mly.av]; (repeat refine And.intro (by first | omega | assumption | exact rfl) ?_); refine V _ ?_; clear V K0; simp only [put, app, aa, af, zE, zS, D])
     (refine aA rfl fun K0 V => ?_; simp only [zE, op1, ev, lkp, ah, ag, az, Nat.mul_one, ax, ay, acs, Ty.dflt, zG, ao, reduceCtorEq, E, D, J, U, O, S, Try.el22, Try.td22, Mly.av]; (repeat refine And.intro (by first | omega | assumption | exact rfl) ?_); refine V _ ?_; clear V K0; simp only [put, app, aa, af, zE, zS, D])
     (refine aA rfl fun K0 V => ?_; simp only [zE, op1, ev, lkp, ah, ag, ev, reduceCtorEq, E, D, J, U, O, S, Try.td3, Mly.av]; refine V _ ?_; clear V K0; simp only [put, app, aa, af, zE, zS, D])
     (refine aA rfl fun K0 V => ?_; simp only [zE, op1, ev, lkp, ah, ag, aJ, zG, Ty.dflt, Ty.size, Nat.mul_one, ne_eq, not_false_eq_true, Int.natCast_one, Int.mul_one, reduceCtorEq, E, D, J, U, O, S, Try.el22, Try.td22, Mly.av]; (repeat refine And.intro (by first | omega | assumption | exact rfl) ?_); refine V _ ?_; clear V K0; simp only [put, app, aa, af, zE, zS, D])
     (refine aA rfl fun K0 V => ?_; simp only [zE, op1, ev, lkp, ah, ag, az, Nat.mul_one, ax, ay, acs, Ty.dflt, zG, ao, reduceCtorEq, E, D, J, U, O, S, Try.el26, Try.td26, Mly.av]; (repeat refine And.intro (by first | omega | assumption | exact rfl) ?_); refine V _ ?_; clear V K0; simp only [put, app, aa, af, zE, zS, D])
     (refine aA rfl fun K0 V => ?_; simp only [zE, op1, ev, lkp, ah, ag, ev, reduceCtorEq, E, D, J, U, O, S, Try.td3, Mly.av]; refine V _ ?_; clear V K0; simp only [put, app, aa, af, zE, zS, D])
     (refine aA rfl fun K0 V => ?_; simp only [zE, op1, ev, lkp, ah, ag, aJ, zG, Ty.dflt, Ty.size, Nat.mul_one, ne_eq, not_false_eq_true, Int.natCast_one, Int.mul_one, reduceCtorEq, E, D, J, U, O, S, Try.el26, Try.td26, Mly.av]; (repeat refine And.intro (by first | omega | assumption | exact rfl) ?_); refine V _ ?_; clear V K0; simp only [put, app, aa, af, zE, zS, D])
     (refine aA rfl fun K0 V => ?_; simp only [zE, op1, ev, lkp, ah, ag, az, Nat.mul_one, ax, ay, acs, Ty.dflt, zG, ao, reduceCtorEq, E, D, J, U, O, S, Try.td3, Mly.av]; (repeat refine And.intro (by first | omega | assumption | exact rfl) ?_); refine V _ ?_; clear V K0; simp only [put, app, aa, af, zE, zS, D])
     (refine aA rfl fun K0 V => ?_; simp only [zE, op1, ev, lkp, ah, ag, aE, aC, aD, ar, aB, aN, reduceCtorEq, E, D, J, U, O, S, Try.td3, Try.td4, Mly.av]; (repeat refine And.intro (by first | omega | assumption | exact rfl) ?_); refine V _ ?_; clear V K0; simp only [put, app, aa, af, zE, zS, D])
     (refine ad rfl fun K0 V => ?_; simp only [zE, op1, ev, lkp, ah, ag, bm, reduceCtorEq, E, D, J, U, O, S, Try.td4, Mly.av]; refine V _ ?_; clear V K0; simp only [put, app, aa, af, zE, zS, D])
     refine aj ?_
     refine ⟨by simp only [Y, lkp, zE, reduceCtorEq, E, Z, D]; exact rfl, rfl, ?_, rfl⟩; (repeat refine aV rfl ?_); exact bt (by exact rfl) hq17
    case b17 => exact bq (by first | rfl | (simp [bS]; done) | decide)
    simp only [bg, aX]
    refine aj ?_
    refine ⟨by kernel_rfl, ?_⟩
    refine hK14 _ ?_; clear hK14; refine ae [1, 2, 5, 29, 76] ?_; simp only [Y, lkp, zE, reduceCtorEq, E, Z, D]
    refine aF (by simp only [ev, Y, lkp, zE, reduceCtorEq, E, Z, D]; exact rfl) (fun hc18 => ?_) (fun hc18 => ?_)
    ·(try simp only [zB, reduceCtorEq] at hc18)
     refine ab fun K19 hK19 => ?_
     refine ai hP hN rfl ?_
     (refine ad rfl fun K0 V => ?_; simp only [zE, op1, ev, lkp, ah, ag, ev, reduceCtorEq, E, D, J, U, O, S, Try.td3, Mly.av]; refine V _ ?_; clear V K0; simp only [put, app, aa, af, zE, zS, D])
     refine aj ?_
     refine hK19 _ ?_; clear hK19; refine ae [1, 2, 4, 5, 29, 76] ?_; simp only [Y, lkp, zE, reduceCtorEq, E, Z, D]
     refine aI ?_
     refine ⟨by first | exact .inl rfl | exact .inr rfl, _, rfl, ?_⟩; simp only [fzV, fz1, fzC, List.map_cons, List.map_nil, Y, lkp, zE, reduceCtorEq, E, Z, D, Mly.av]
     refine VLE.of_eq ?_
     refine congrArg (fun n => AV.one (AC.int IntKind.i64 n)) ?_
     symm
     first
     | exact cd hc5
     | exact ca hc5.1 hc5.2 (j := j) (by omega) (by unfold bM; omega)
     | exact iv hc5.1 hc5.2 fun a ha => hcells a (by omega)
    ·(try simp only [zB, reduceCtorEq] at hc18)
     refine aK ?_
     refine hK13 _ ?_; clear hK13; refine ae [1, 2, 5, 29, 76] ?_; simp only [Y, lkp, zE, reduceCtorEq, E, Z, D]
     refine ai hP hN rfl ?_
     iterate 3 (refine ad rfl fun K0 V => ?_; simp only [zE, op1, ev, lkp, ah, ag, aE, aC, aD, ar, aB, aN, reduceCtorEq, E, D, J, U, O, S, Try.td3, Mly.av]; (repeat refine And.intro (by first | omega | assumption | exact rfl) ?_); refine V _ ?_; clear V K0; simp only [put, app, aa, af, zE, zS, D])
     refine aj ?_
     refine ⟨_, _, ?_, aO [1, 2, 5], j + 1, fun a ha => ?_, ?_, rfl, rfl⟩
     · omega
     · by_cases e : a = j
       · rw [e]; unfold bM; omega
       · exact hcells a (by omega)
     · omega
   ·(try simp only [zB, reduceCtorEq] at hc12)
    refine bD ?_
    refine hK7 _ ?_; clear hK7; refine ae [1, 2, 5, 29] ?_; simp only [Y, lkp, zE, reduceCtorEq, E, Z, D]
    refine ab fun K20 hK20 => ?_
    refine ai hP hN rfl ?_
    (refine ad rfl fun K0 V => ?_; simp only [zE, op1, ev, lkp, ah, ag, ev, reduceCtorEq, E, D, J, U, O, S, Try.td3, Mly.av]; refine V _ ?_; clear V K0; simp only [put, app, aa, af, zE, zS, D])
    refine aj ?_
    refine hK20 _ ?_; clear hK20; refine ae [1, 2, 4, 5, 29] ?_; simp only [Y, lkp, zE, reduceCtorEq, E, Z, D]
    refine aI ?_
    refine ⟨by first | exact .inl rfl | exact .inr rfl, _, rfl, ?_⟩; simp only [fzV, fz1, fzC, List.map_cons, List.map_nil, Y, lkp, zE, reduceCtorEq, E, Z, D, Mly.av]
    refine VLE.of_eq ?_
    refine congrArg (fun n => AV.one (AC.int IntKind.i64 n)) ?_
    symm
    first
    | exact cd hc5
    | exact ca hc5.1 hc5.2 (j := j) (by omega) (by unfold bM; omega)
    | exact iv hc5.1 hc5.2 fun a ha => hcells a (by omega)
end Go.Proofs.Ytdkgcbhbpdbmnaa
namespace Go.Proofs.Ytdkgcbhbpdbmnaa
open Go Go.AV
open Nat renaming reduceEqDiff → E, reduceAdd → D, reduceLeDiff → J, reduceLT → U, reduceMul → O, reduceSub → S
open List renaming set_cons_zero → aq, set_cons_succ → am
set_option maxRecDepth 100000 in
theorem p9 (m : Mly) : bJ Try.prog 73 [m.av] (.one (.int .i64 (bl m))) := by
 refine aS Try.func73 rfl (by kernel_rfl) (Nat.le_of_ble_eq_true rfl) rfl fun C hP hN hB => ?_
 replace hN : C.N = 52 := hN
 simp only [Z, D]
 refine ab fun K1 hK1 => ?_
 refine ai hP hN rfl ?_
 iterate 2 (refine ad rfl fun K0 V => ?_; simp only [zE, op1, ev, lkp, ah, ag, c0, au, reduceCtorEq, E, D, J, U, O, S, Try.st58, Try.td3, Try.td58, Mly.av]; (repeat refine And.intro (by first | omega | assumption | exact rfl) ?_); refine V _ ?_; clear V K0; simp only [put, app, aa, af, zE, zS, D])
 refine aj ?_
 refine hK1 _ ?_; clear hK1; refine ae [0, 1, 2] ?_; simp only [Y, lkp, zE, reduceCtorEq, E, Z, D]
 refine ab fun K2 hK2 => ?_
 refine ab fun K3 hK3 => ?_
 refine ai hP hN rfl ?_
 iterate 3 (refine ad rfl fun K0 V => ?_; simp only [zE, op1, ev, lkp, ah, ag, aw, az, Nat.mul_one, ax, ay, acs, Ty.dflt, zG, ao, aE, aC, aD, ar, aB, aN, reduceCtorEq, E, D, J, U, O, S, Try.st58, Try.td3, Try.td4, Try.td58, Mly.av]; (repeat refine And.intro (by first | omega | assumption | exact rfl) ?_); refine V _ ?_; clear V K0; simp only [put, app, aa, af, zE, zS, D])
 (refine ad rfl fun K0 V => ?_; simp only [zE, op1, ev, lkp, ah, ag, ev, reduceCtorEq, E, D, J, U, O, S, Try.td4, Mly.av]; refine V _ ?_; clear V K0; simp only [put, app, aa, af, zE, zS, D])
 refine' aU (want := false) 3 rfl (m := 8) (by simp only [Y, lkp, zE, reduceCtorEq, E, Z, D]; exact rfl) (by kernel_rfl) rfl rfl rfl rfl rfl (fun hg4 => ?a4) ?b4 ?c4
 case a4 =>
  have hq4 := hg4; (try simp only [zB, reduceCtorEq] at hg4); simp only [List.take_succ_cons, List.take_zero, List.cons_append, List.nil_append]
  (refine aA rfl fun K0 V => ?_; simp only [zE, op1, ev, lkp, ah, ag, aw, reduceCtorEq, E, D, J, U, O, S, Try.st58, Try.td58, Mly.av]; (repeat refine And.intro (by first | omega | assumption | exact rfl) ?_); refine V _ ?_; clear V K0; simp only [put, app, aa, af, zE, zS, D])
  (refine aA rfl fun K0 V => ?_; simp only [zE, op1, ev, lkp, ah, ag, az, Nat.mul_one, ax, ay, acs, Ty.dflt, zG, ao, reduceCtorEq, E, D, J, U, O, S, Try.td3, Mly.av]; (repeat refine And.intro (by first | omega | assumption | exact rfl) ?_); refine V _ ?_; clear V K0; simp only [put, app, aa, af, zE, zS, D])
  (refine aA rfl fun K0 V => ?_; simp only [zE, op1, ev, lkp, ah, ag, aE, aC, aD, ar, aB, aN, reduceCtorEq, E, D, J, U, O, S, Try.td3, Try.td4, Mly.av]; (repeat refine And.intro (by first | omega | assumption | exact rfl) ?_); refine V _ ?_; clear V K0; simp only [put, app, aa, af, zE, zS, D])
  (refine ad rfl fun K0 V => ?_; simp only [zE, op1, ev, lkp, ah, ag, bm, reduceCtorEq, E, D, J, U, O, S, Try.td4, Mly.av]; refine V _ ?_; clear V K0; simp only [put, app, aa, af, zE, zS, D])
  refine aj ?_
  refine ⟨by simp only [Y, lkp, zE, reduceCtorEq, E, Z, D]; exact rfl, rfl, ?_, rfl⟩; (repeat refine aV rfl ?_); exact bt (by exact rfl) hq4
 case b4 => exact bq (by first | rfl | (simp [bS]; done) | decide)
 simp only [bg, aX]
 refine aj ?_
 refine hK3 _ ?_; clear hK3; refine ae [0, 1, 2, 12] ?_; simp only [Y, lkp, zE, reduceCtorEq, E, Z, D]
 refine aF (by simp only [ev, Y, lkp, zE, reduceCtorEq, E, Z, D]; exact rfl) (fun hc5 => ?_) (fun hc5 => ?_)
 ·(try simp only [zB, reduceCtorEq] at hc5)
  refine ab fun K6 hK6 => ?_
  refine ai hP hN rfl ?_
  (refine ad rfl fun K0 V => ?_; simp only [zE, op1, ev, lkp, ah, ag, ev, reduceCtorEq, E, D, J, U, O, S, Try.td3, Mly.av]; refine V _ ?_; clear V K0; simp only [put, app, aa, af, zE, zS, D])
  refine aj ?_
  refine hK6 _ ?_; clear hK6; refine ae [0, 1, 2, 12] ?_; simp only [Y, lkp, zE, reduceCtorEq, E, Z, D]
  refine aI ?_
  refine ⟨by first | exact .inl rfl | exact .inr rfl, _, rfl, ?_⟩; simp only [fzV, fz1, fzC, List.map_cons, List.map_nil, Y, lkp, zE, reduceCtorEq, E, Z, D, Mly.av]
  refine VLE.of_eq ?_
  refine congrArg (fun n => AV.one (AC.int IntKind.i64 n)) ?_
  symm
  unfold bl
  first
  | (rw [if_pos (by omega)]; done)
  | (rw [if_neg (by omega), if_pos (by omega)]; done)
  | (rw [if_neg (by omega), if_neg (by omega), if_pos (by omega)]; done)
  | (rw [if_neg (by omega), if_neg (by omega), if_neg (by omega), if_pos (by omega)]; done)
  | (rw [if_neg (by omega), if_neg (by omega), if_neg (by omega), if_neg (by omega), if_pos (by omega)]; done)
  | (rw [if_neg (by omega), if_neg (by omega), if_neg (by omega), if_neg (by omega), if_neg (by omega)]
     first
     | exact bf hrows (by omega) (by assumption)
     | exact bC fun i hi => hrows i (by omega))
 ·(try simp only [zB, reduceCtorEq] at hc5)
  refine aK ?_
  refine hK2 _ ?_; clear hK2; refine ae [0, 1, 2, 12] ?_; simp only [Y, lkp, zE, reduceCtorEq, E, Z, D]
  refine ab fun K7 hK7 => ?_
  refine ab fun K8 hK8 => ?_
  refine ai hP hN rfl ?_
  iterate 4 (refine ad rfl fun K0 V => ?_; simp only [zE, op1, ev, lkp, ah, ag, aw, az, Nat.mul_one, ax, ay, acs, Ty.dflt, zG, ao, aH, bu, bb, aY, aZ, br, Nat.div_one, aM, b0, Ty.size, aL, dite_true, aE, aC, aD, ar, aB, aN, reduceCtorEq, E, D, J, U, O, S, Try.el22, Try.st58, Try.td2, Try.td22, Try.td3, Try.td4, Try.td58, Mly.av]; (repeat refine And.intro (by first | omega | assumption | exact rfl) ?_); (first | refine V _ ?_ | refine Or.inl (V _ ?_)); clear V K0; simp only [put, app, aa, af, zE, zS, D])
  refine aj ?_
  refine hK8 _ ?_; clear hK8; refine ae [0, 1, 2, 12, 16] ?_; simp only [Y, lkp, zE, reduceCtorEq, E, Z, D]
  refine aF (by simp only [ev, Y, lkp, zE, reduceCtorEq, E, Z, D]; exact rfl) (fun hc9 => ?_) (fun hc9 => ?_)
  ·(try simp only [zB, reduceCtorEq] at hc9)
   refine ab fun K10 hK10 => ?_
   refine ai hP hN rfl ?_
   (refine ad rfl fun K0 V => ?_; simp only [zE, op1, ev, lkp, ah, ag, ev, reduceCtorEq, E, D, J, U, O, S, Try.td3, Mly.av]; refine V _ ?_; clear V K0; simp only [put, app, aa, af, zE, zS, D])
   refine aj ?_
   refine hK10 _ ?_; clear hK10; refine ae [0, 1, 2, 12, 16] ?_; simp only [Y, lkp, zE, reduceCtorEq, E, Z, D]
   refine aI ?_
   refine ⟨by first | exact .inl rfl | exact .inr rfl, _, rfl, ?_⟩; simp only [fzV, fz1, fzC, List.map_cons, List.map_nil, Y, lkp, zE, reduceCtorEq, E, Z, D, Mly.av]
   refine VLE.of_eq ?_
   refine congrArg (fun n => AV.one (AC.int IntKind.i64 n)) ?_
   symm
   unfold bl
   first
   | (rw [if_pos (by omega)]; done)
   | (rw [if_neg (by omega), if_pos (by omega)]; done)
   | (rw [if_neg (by omega), if_neg (by omega), if_pos (by omega)]; done)
   | (rw [if_neg (by omega), if_neg (by omega), if_neg (by omega), if_pos (by omega)]; done)
   | (rw [if_neg (by omega), if_neg (by omega), if_neg (by omega), if_neg (by omega), if_pos (by omega)]; done)
   | (rw [if_neg (by omega), if_neg (by omega), if_neg (by omega), if_neg (by omega), if_neg (by omega)]
      first
      | exact bf hrows (by omega) (by assumption)
      | exact bC fun i hi => hrows i (by omega))
  ·(try simp only [zB, reduceCtorEq] at hc9)
   refine aK ?_
   refine hK7 _ ?_; clear hK7; refine ae [0, 1, 2, 12, 16] ?_; simp only [Y, lkp, zE, reduceCtorEq, E, Z, D]
   refine ab fun K11 hK11 => ?_
   refine ab fun K12 hK12 => ?_
   refine ai hP hN rfl ?_
   iterate 4 (refine ad rfl fun K0 V => ?_; simp only [zE, op1, ev, lkp, ah, ag, aw, az, Nat.mul_one, ax, ay, acs, Ty.dflt, zG, ao, aH, bu, bb, aY, aZ, br, Nat.div_one, aM, b0, Ty.size, aL, dite_true, aE, aC, aD, ar, aB, aN, reduceCtorEq, E, D, J, U, O, S, Try.el22, Try.st58, Try.td2, Try.td22, Try.td3, Try.td4, Try.td58, Mly.av]; (repeat refine And.intro (by first | omega | assumption | exact rfl) ?_); (first | refine V _ ?_ | refine Or.inl (V _ ?_)); clear V K0; simp only [put, app, aa, af, zE, zS, D])
   refine aj ?_
   refine hK12 _ ?_; clear hK12; refine ae [0, 1, 2, 12, 16, 20] ?_; simp only [Y, lkp, zE, reduceCtorEq, E, Z, D]
   refine aF (by simp only [ev, Y, lkp, zE, reduceCtorEq, E, Z, D]; exact rfl) (fun hc13 => ?_) (fun hc13 => ?_)
   ·(try simp only [zB, reduceCtorEq] at hc13)
    refine ab fun K14 hK14 => ?_
    refine ai hP hN rfl ?_
    (refine ad rfl fun K0 V => ?_; simp only [zE, op1, ev, lkp, ah, ag, ev, reduceCtorEq, E, D, J, U, O, S, Try.td3, Mly.av]; refine V _ ?_; clear V K0; simp only [put, app, aa, af, zE, zS, D])
    refine aj ?_
    refine hK14 _ ?_; clear hK14; refine ae [0, 1, 2, 12, 16, 20] ?_; simp only [Y, lkp, zE, reduceCtorEq, E, Z, D]
    refine aI ?_
    refine ⟨by first | exact .inl rfl | exact .inr rfl, _, rfl, ?_⟩; simp only [fzV, fz1, fzC, List.map_cons, List.map_nil, Y, lkp, zE, reduceCtorEq, E, Z, D, Mly.av]
    refine VLE.of_eq ?_
    refine congrArg (fun n => AV.one (AC.int IntKind.i64 n)) ?_
    symm
    unfold bl
    first
    | (rw [if_pos (by omega)]; done)
    | (rw [if_neg (by omega), if_pos (by omega)]; done)
    | (rw [if_neg (by omega), if_neg (by omega), if_pos (by omega)]; done)
    | (rw [if_neg (by omega), if_neg (by omega), if_neg (by omega), if_pos (by omega)]; done)
    | (rw [if_neg (by omega), if_neg (by omega), if_neg (by omega), if_neg (by omega), if_pos (by omega)]; done)
    | (rw [if_neg (by omega), if_neg (by omega), if_neg (by omega), if_neg (by omega), if_neg (by omega)]
       first
       | exact bf hrows (by omega) (by assumption)
       | exact bC fun i hi => hrows i (by omega))
   ·(try simp only [zB, reduceCtorEq] at hc13)
    refine aK ?_
    refine hK11 _ ?_; clear hK11; refine ae [0, 1, 2, 12, 16, 20] ?_; simp only [Y, lkp, zE, reduceCtorEq, E, Z, D]
    refine ab fun K15 hK15 => ?_
    refine ab fun K16 hK16 => ?_
    refine ai hP hN rfl ?_
    iterate 3 (refine ad rfl fun K0 V => ?_; simp only [zE, op1, ev, lkp, ah, ag, aw, az, Nat.mul_one, ax, ay, acs, Ty.dflt, zG, ao, aE, aC, aD, ar, aB, aN, reduceCtorEq, E, D, J, U, O, S, Try.st58, Try.td1, Try.td3, Try.td4, Try.td58, Mly.av]; (repeat refine And.intro (by first | omega | assumption | exact rfl) ?_); refine V _ ?_; clear V K0; simp only [put, app, aa, af, zE, zS, D])
    (refine ad rfl fun K0 V => ?_; simp only [zE, op1, ev, lkp, ah, ag, ev, reduceCtorEq, E, D, J, U, O, S, Try.td4, Mly.av]; refine V _ ?_; clear V K0; simp only [put, app, aa, af, zE, zS, D])
    refine' aU (want := false) 6 rfl (m := 24) (by simp only [Y, lkp, zE, reduceCtorEq, E, Z, D]; exact rfl) (by kernel_rfl) rfl rfl rfl rfl rfl (fun hg17 => ?a17) ?b17 ?c17
    case a17 =>
     have hq17 := hg17; (try simp only [zB, reduceCtorEq] at hg17); simp only [List.take_succ_cons, List.take_zero, List.cons_append, List.nil_append]
     (refine aA rfl fun K0 V => ?_; simp only [zE, op1, ev, lkp, ah, ag, aw, reduceCtorEq, E, D, J, U, O, S, Try.st58, Try.td1, Try.td58, Mly.av]; (repeat refine And.intro (by first | omega | assumption | exact rfl) ?_); refine V _ ?_; clear V K0; simp only [put, app, aa, af, zE, zS, D])
     (refine aA rfl fun K0 V => ?_; simp only [zE, op1, ev, lkp, ah, ag, az, Nat.mul_one, ax, ay, acs, Ty.dflt, zG, ao, reduceCtorEq, E, D, J, U, O, S, Try.td3, Mly.av]; (repeat refine And.intro (by first | omega | assumption | exact rfl) ?_); refine V _ ?_; clear V K0; simp only [put, app, aa, af, zE, zS, D])
     (refine aA rfl fun K0 V => ?_; simp only [zE, op1, ev, lkp, ah, ag, aw, reduceCtorEq, E, D, J, U, O, S, Try.st58, Try.td2, Try.td58, Mly.av]; (repeat refine And.intro (by first | omega | assumption | exact rfl) ?_); refine V _ ?_; clear V K0; simp only [put, app, aa, af, zE, zS, D])
     (refine aA rfl fun K0 V => ?_; simp only [zE, op1, ev, lkp, ah, ag, az, Nat.mul_one, ax, ay, acs, Ty.dflt, zG, ao, reduceCtorEq, E, D, J, U, O, S, Try.el22, Try.td22, Mly.av]; (repeat refine And.intro (by first | omega | assumption | exact rfl) ?_); refine V _ ?_; clear V K0; simp only [put, app, aa, af, zE, zS, D])
     (refine aA rfl fun K0 V => ?_; simp only [zE, op1, ev, lkp, ah, ag, aH, bu, bb, aY, aZ, br, Nat.div_one, aM, b0, Ty.size, aL, dite_true, reduceCtorEq, E, D, J, U, O, S, Try.el22, Try.td22, Try.td3, Mly.av]; (repeat refine And.intro (by first | omega | assumption | exact rfl) ?_); (first | refine V _ ?_ | refine Or.inl (V _ ?_)); clear V K0; simp only [put, app, aa, af, zE, zS, D])
     (refine aA rfl fun K0 V => ?_; simp only [zE, op1, ev, lkp, ah, ag, aE, aC, aD, ar, aB, aN, reduceCtorEq, E, D, J, U, O, S, Try.td3, Try.td4, Mly.av]; (repeat refine And.intro (by first | omega | assumption | exact rfl) ?_); refine V _ ?_; clear V K0; simp only [put, app, aa, af, zE, zS, D])
     (refine ad rfl fun K0 V => ?_; simp only [zE, op1, ev, lkp, ah, ag, bm, reduceCtorEq, E, D, J, U, O, S, Try.td4, Mly.av]; refine V _ ?_; clear V K0; simp only [put, app, aa, af, zE, zS, D])
     refine aj ?_
     refine ⟨by simp only [Y, lkp, zE, reduceCtorEq, E, Z, D]; exact rfl, rfl, ?_, rfl⟩; (repeat refine aV rfl ?_); exact bt (by exact rfl) hq17
    case b17 => exact bq (by first | rfl | (simp [bS]; done) | decide)
    simp only [bg, aX]
    refine aj ?_
    refine hK16 _ ?_; clear hK16; refine ae [0, 1, 2, 12, 16, 20, 31] ?_; simp only [Y, lkp, zE, reduceCtorEq, E, Z, D]
    refine aF (by simp only [ev, Y, lkp, zE, reduceCtorEq, E, Z, D]; exact rfl) (fun hc18 => ?_) (fun hc18 => ?_)
    ·(try simp only [zB, reduceCtorEq] at hc18)
     refine ab fun K19 hK19 => ?_
     refine ai hP hN rfl ?_
     (refine ad rfl fun K0 V => ?_; simp only [zE, op1, ev, lkp, ah, ag, ev, reduceCtorEq, E, D, J, U, O, S, Try.td3, Mly.av]; refine V _ ?_; clear V K0; simp only [put, app, aa, af, zE, zS, D])
     refine aj ?_
     refine hK19 _ ?_; clear hK19; refine ae [0, 1, 2, 12, 16, 20, 31] ?_; simp only [Y, lkp, zE, reduceCtorEq, E, Z, D]
     refine aI ?_
     refine ⟨by first | exact .inl rfl | exact .inr rfl, _, rfl, ?_⟩; simp only [fzV, fz1, fzC, List.map_cons, List.map_nil, Y, lkp, zE, reduceCtorEq, E, Z, D, Mly.av]
     refine VLE.of_eq ?_
     refine congrArg (fun n => AV.one (AC.int IntKind.i64 n)) ?_
     symm
     unfold bl
     first
     | (rw [if_pos (by omega)]; done)
     | (rw [if_neg (by omega), if_pos (by omega)]; done)
     | (rw [if_neg (by omega), if_neg (by omega), if_pos (by omega)]; done)
     | (rw [if_neg (by omega), if_neg (by omega), if_neg (by omega), if_pos (by omega)]; done)
     | (rw [if_neg (by omega), if_neg (by omega), if_neg (by omega), if_neg (by omega), if_pos (by omega)]; done)
     | (rw [if_neg (by omega), if_neg (by omega), if_neg (by omega), if_neg (by omega), if_neg (by omega)]
        first
        | exact bf hrows (by omega) (by assumption)
        | exact bC fun i hi => hrows i (by omega))
    ·(try simp only [zB, reduceCtorEq] at hc18)
     refine aK ?_
     refine hK15 _ ?_; clear hK15; refine ae [0, 1, 2, 12, 16, 20, 31] ?_; simp only [Y, lkp, zE, reduceCtorEq, E, Z, D]
     refine ab fun K20 hK20 => ?_
     refine ab fun K21 hK21 => ?_
     refine ai hP hN rfl ?_
     iterate 7 (refine ad rfl fun K0 V => ?_; simp only [zE, op1, ev, lkp, ah, ag, aw, az, Nat.mul_one, ax, ay, acs, Ty.dflt, zG, ao, aH, bu, bb, aY, aZ, br, Nat.div_one, aM, b0, Ty.size, aL, dite_true, aE, aC, aD, ar, aB, aN, reduceCtorEq, E, D, J, U, O, S, Try.el22, Try.st58, Try.td2, Try.td22, Try.td3, Try.td4, Try.td58, Mly.av]; (repeat refine And.intro (by first | omega | assumption | exact rfl) ?_); (first | refine V _ ?_ | refine Or.inl (V _ ?_)); clear V K0; simp only [put, app, aa, af, zE, zS, D])
     refine aj ?_
     refine hK21 _ ?_; clear hK21; refine ae [0, 1, 2, 12, 16, 20, 31, 38] ?_; simp only [Y, lkp, zE, reduceCtorEq, E, Z, D]
     refine aF (by simp only [ev, Y, lkp, zE, reduceCtorEq, E, Z, D]; exact rfl) (fun hc22 => ?_) (fun hc22 => ?_)
     ·(try simp only [zB, reduceCtorEq] at hc22)
      refine ab fun K23 hK23 => ?_
      refine ai hP hN rfl ?_
      (refine ad rfl fun K0 V => ?_; simp only [zE, op1, ev, lkp, ah, ag, ev, reduceCtorEq, E, D, J, U, O, S, Try.td3, Mly.av]; refine V _ ?_; clear V K0; simp only [put, app, aa, af, zE, zS, D])
      refine aj ?_
      refine hK23 _ ?_; clear hK23; refine ae [0, 1, 2, 12, 16, 20, 31, 38] ?_; simp only [Y, lkp, zE, reduceCtorEq, E, Z, D]
      refine aI ?_
      refine ⟨by first | exact .inl rfl | exact .inr rfl, _, rfl, ?_⟩; simp only [fzV, fz1, fzC, List.map_cons, List.map_nil, Y, lkp, zE, reduceCtorEq, E, Z, D, Mly.av]
      refine VLE.of_eq ?_
      refine congrArg (fun n => AV.one (AC.int IntKind.i64 n)) ?_
      symm
      unfold bl
      first
      | (rw [if_pos (by omega)]; done)
      | (rw [if_neg (by omega), if_pos (by omega)]; done)
      | (rw [if_neg (by omega), if_neg (by omega), if_pos (by omega)]; done)
      | (rw [if_neg (by omega), if_neg (by omega), if_neg (by omega), if_pos (by omega)]; done)
      | (rw [if_neg (by omega), if_neg (by omega), if_neg (by omega), if_neg (by omega), if_pos (by omega)]; done)
      | (rw [if_neg (by omega), if_neg (by omega), if_neg (by omega), if_neg (by omega), if_neg (by omega)]
         first
         | exact bf hrows (by omega) (by assumption)
         | exact bC fun i hi => hrows i (by omega))
     ·(try simp only [zB, reduceCtorEq] at hc22)
      refine aK ?_
      refine hK20 _ ?_; clear hK20; refine ae [0, 1, 2, 12, 16, 20, 31, 38] ?_; simp only [Y, lkp, zE, reduceCtorEq, E, Z, D]
      refine ab fun K24 hK24 => ?_
      refine ab fun K25 hK25 => ?_
      refine ai hP hN rfl ?_
      (refine ad rfl fun K0 V => ?_; simp only [zE, op1, ev, lkp, ah, ag, ev, reduceCtorEq, E, D, J, U, O, S, Try.td3, Mly.av]; refine V _ ?_; clear V K0; simp only [put, app, aa, af, zE, zS, D])
      refine aj ?_
      refine hK25 _ ?_; clear hK25; refine ae [0, 1, 2, 3, 12, 16, 20, 31, 38] ?_; simp only [Y, lkp, zE, reduceCtorEq, E, Z, D]
      refine aP ?_
      refine bG (fun n26 s26 => ∃ (k : Nat), (k ≤ m.nx.length) ∧ (∀ i, i < k → fj m i = 0) ∧ n26 = m.nx.length - k ∧ s26 = { env := [(1, .one (.ptr 0 0 0 0)), (3, .one (.int .i64 (k : Int)))], L := [.vars 58 [.int .i64 m.inp, .int .i64 m.st, .list (.list (.int .i64)) m.nx, .list (.list (.int .i64)) m.ot]] }) ?_ ?_
      ·exact ⟨_, _, aO [1, 3], 0, Nat.zero_le _, fun i hi => by omega, rfl, rfl⟩
      ·rintro n26 s26 ⟨k, hk, hrows, rfl, rfl⟩
       refine ab fun K27 hK27 => ?_
       refine ab fun K28 hK28 => ?_
       refine ai hP hN rfl ?_
       iterate 5 (refine ad rfl fun K0 V => ?_; simp only [zE, op1, ev, lkp, ah, ag, aw, az, Nat.mul_one, ax, ay, acs, Ty.dflt, zG, ao, aH, bu, bb, aY, aZ, br, Nat.div_one, aM, b0, Ty.size, aL, dite_true, aE, aC, aD, ar, aB, aN, reduceCtorEq, E, D, J, U, O, S, Try.el22, Try.st58, Try.td2, Try.td22, Try.td3, Try.td4, Try.td58, Mly.av]; (repeat refine And.intro (by first | omega | assumption | exact rfl) ?_); (first | refine V _ ?_ | refine Or.inl (V _ ?_)); clear V K0; simp only [put, app, aa, af, zE, zS, D])
       refine aj ?_
       refine hK28 _ ?_; clear hK28; refine ae [1, 3, 43] ?_; simp only [Y, lkp, zE, reduceCtorEq, E, Z, D]
       refine aF (by simp only [ev, Y, lkp, zE, reduceCtorEq, E, Z, D]; exact rfl) (fun hc29 => ?_) (fun hc29 => ?_)
       ·(try simp only [zB, reduceCtorEq] at hc29)
        refine aK ?_
        refine hK27 _ ?_; clear hK27; refine ae [1, 3, 43] ?_; simp only [Y, lkp, zE, reduceCtorEq, E, Z, D]
        refine ab fun K30 hK30 => ?_
        refine aP ?_
        refine ab fun K31 hK31 => ?_
        refine ai hP hN rfl ?_
        iterate 2 (refine ad rfl fun K0 V => ?_; simp only [zE, op1, ev, lkp, ah, ag, az, Nat.mul_one, ax, ay, acs, Ty.dflt, zG, ao, reduceCtorEq, E, D, J, U, O, S, Try.st58, Try.td3, Try.td58, Mly.av]; (repeat refine And.intro (by first | omega | assumption | exact rfl) ?_); refine V _ ?_; clear V K0; simp only [put, app, aa, af, zE, zS, D])
        refine ad rfl fun K0 V => ?_
        refine aW (h := aG (sf m k (by omega) (by omega) (by omega))) rfl rfl (by first | exact rfl | (simp only [ev, Y, lkp, zE, reduceCtorEq, E, Z, D]; exact rfl)) (by simp only [zE, zG, op1, ev, lkp, ah, ag, au, acs, ba, mv1, mvC, Ty.dflt, reduceCtorEq, E, D, J, U, O, S, Mly.av]) ?_
        refine V _ ?_; clear V K0; simp only [put, app, aa, af, zE, zS, D]
        (refine ad rfl fun K0 V => ?_; simp only [zE, op1, ev, lkp, ah, ag, ev, reduceCtorEq, E, D, J, U, O, S, Try.td3, Mly.av]; refine V _ ?_; clear V K0; simp only [put, app, aa, af, zE, zS, D])
        refine aj ?_
        refine hK31 _ ?_; clear hK31; refine ae [1, 3, 4, 43] ?_; simp only [Y, lkp, zE, reduceCtorEq, E, Z, D]
        refine ab fun K32 hK32 => ?_
        refine ai hP hN rfl ?_
        iterate 2 (refine ad rfl fun K0 V => ?_; simp only [zE, op1, ev, lkp, ah, ag, aE, aC, aD, ar, aB, aN, reduceCtorEq, E, D, J, U, O, S, Try.td3, Try.td4, Mly.av]; (repeat refine And.intro (by first | omega | assumption | exact rfl) ?_); refine V _ ?_; clear V K0; simp only [put, app, aa, af, zE, zS, D])
        refine aj ?_
        refine hK32 _ ?_; clear hK32; refine ae [1, 3, 4, 43, 50] ?_; simp only [Y, lkp, zE, reduceCtorEq, E, Z, D]
        refine aF (by simp only [ev, Y, lkp, zE, reduceCtorEq, E, Z, D]; exact rfl) (fun hc33 => ?_) (fun hc33 => ?_)
        ·(try simp only [zB, reduceCtorEq] at hc33)
         refine ab fun K34 hK34 => ?_
         refine ai hP hN rfl ?_
         iterate 2 (refine ad rfl fun K0 V => ?_; simp only [zE, op1, ev, lkp, ah, ag, ev, reduceCtorEq, E, D, J, U, O, S, Try.td3, Mly.av]; refine V _ ?_; clear V K0; simp only [put, app, aa, af, zE, zS, D])
         refine aj ?_
         refine hK34 _ ?_; clear hK34; refine ae [1, 2, 3, 4, 43, 50] ?_; simp only [Y, lkp, zE, reduceCtorEq, E, Z, D]
         refine aI ?_
         refine ⟨by first | exact .inl rfl | exact .inr rfl, _, rfl, ?_⟩; simp only [fzV, fz1, fzC, List.map_cons, List.map_nil, Y, lkp, zE, reduceCtorEq, E, Z, D, Mly.av]
         refine VLE.of_eq ?_
         refine congrArg (fun n => AV.one (AC.int IntKind.i64 n)) ?_
         symm
         unfold bl
         first
         | (rw [if_pos (by omega)]; done)
         | (rw [if_neg (by omega), if_pos (by omega)]; done)
         | (rw [if_neg (by omega), if_neg (by omega), if_pos (by omega)]; done)
         | (rw [if_neg (by omega), if_neg (by omega), if_neg (by omega), if_pos (by omega)]; done)
         | (rw [if_neg (by omega), if_neg (by omega), if_neg (by omega), if_neg (by omega), if_pos (by omega)]; done)
         | (rw [if_neg (by omega), if_neg (by omega), if_neg (by omega), if_neg (by omega), if_neg (by omega)]
            first
            | exact bf hrows (by omega) (by assumption)
            | exact bC fun i hi => hrows i (by omega))
        ·(try simp only [zB, reduceCtorEq] at hc33)
         refine aK ?_
         refine hK30 _ ?_; clear hK30; refine ae [1, 3, 4, 43, 50] ?_; simp only [Y, lkp, zE, reduceCtorEq, E, Z, D]
         refine ai hP hN rfl ?_
         iterate 3 (refine ad rfl fun K0 V => ?_; simp only [zE, op1, ev, lkp, ah, ag, aE, aC, aD, ar, aB, aN, reduceCtorEq, E, D, J, U, O, S, Try.td3, Mly.av]; (repeat refine And.intro (by first | omega | assumption | exact rfl) ?_); refine V _ ?_; clear V K0; simp only [put, app, aa, af, zE, zS, D])
         refine aj ?_
         refine ⟨_, _, ?_, aO [1, 3], k + 1, by omega, fun i hi => ?_, rfl, rfl⟩
         · omega
         · by_cases e : i = k
           · rw [e]; first | assumption | omega
           · exact hrows i (by omega)
       ·(try simp only [zB, reduceCtorEq] at hc29)
        refine bD ?_
        refine hK24 _ ?_; clear hK24; refine ae [1, 3, 43] ?_; simp only [Y, lkp, zE, reduceCtorEq, E, Z, D]
        refine ab fun K35 hK35 => ?_
        refine ai hP hN rfl ?_
        (refine ad rfl fun K0 V => ?_; simp only [zE, op1, ev, lkp, ah, ag, ev, reduceCtorEq, E, D, J, U, O, S, Try.td3, Mly.av]; refine V _ ?_; clear V K0; simp only [put, app, aa, af, zE, zS, D])
        refine aj ?_
        refine hK35 _ ?_; clear hK35; refine ae [1, 2, 3, 43] ?_; simp only [Y, lkp, zE, reduceCtorEq, E, Z, D]
        refine aI ?_
        refine ⟨by first | exact .inl rfl | exact .inr rfl, _, rfl, ?_⟩; simp only [fzV, fz1, fzC, List.map_cons, List.map_nil, Y, lkp, zE, reduceCtorEq, E, Z, D, Mly.av]
        refine VLE.of_eq ?_
        refine congrArg (fun n => AV.one (AC.int IntKind.i64 n)) ?_
        symm
        unfold bl
        first
        | (rw [if_pos (by omega)]; done)
        | (rw [if_neg (by omega), if_pos (by omega)]; done)
        | (rw [if_neg (by omega), if_neg (by omega), if_pos (by omega)]; done)
        | (rw [if_neg (by omega), if_neg (by omega), if_neg (by omega), if_pos (by omega)]; done)
        | (rw [if_neg (by omega), if_neg (by omega), if_neg (by omega), if_neg (by omega), if_pos (by omega)]; done)
        | (rw [if_neg (by omega), if_neg (by omega), if_neg (by omega), if_neg (by omega), if_neg (by omega)]
           first
           | exact bf hrows (by omega) (by assumption)
           | exact bC fun i hi => hrows i (by omega))
end Go.Proofs.Ytdkgcbhbpdbmnaa
namespace Go.Proofs.Ytdkgcbhbpdbmnaa
open Go Go.AV
open Nat renaming reduceEqDiff → E, reduceAdd → D, reduceLeDiff → J, reduceLT → U, reduceMul → O, reduceSub → S
open List renaming set_cons_zero → aq, set_cons_succ → am
set_option maxRecDepth 100000 in
theorem qn (m : Mly) (s : Int) (w : List Int) : bJ Try.prog 76 [m.av, .one (.int .i64 s), .one (.list (.int .i64) w)] (.tup [.one (.list (.int .i64) (ci m s w)), .one (.int .i64 (dN m s w)), .one (.int .i64 (cQ m s w))]) := by
 refine aS Try.func76 rfl (by kernel_rfl) (Nat.le_of_ble_eq_true rfl) rfl fun C hP hN hB => ?_
 replace hN : C.N = 43 := hN
 simp only [Z, D]
 refine ab fun K1 hK1 => ?_
 refine ai hP hN rfl ?_
 iterate 4 (refine ad rfl fun K0 V => ?_; simp only [zE, op1, ev, lkp, ah, ag, c0, au, reduceCtorEq, E, D, J, U, O, S, Try.el26, Try.st58, Try.td26, Try.td3, Try.td58, Mly.av]; (repeat refine And.intro (by first | omega | assumption | exact rfl) ?_); refine V _ ?_; clear V K0; simp only [put, app, aa, af, zE, zS, D])
 refine aj ?_
 refine hK1 _ ?_; clear hK1; refine ae [0, 1, 2, 3, 6, 7, 8] ?_; simp only [Y, lkp, zE, reduceCtorEq, E, Z, D]
 refine ab fun K2 hK2 => ?_
 refine ab fun K3 hK3 => ?_
 refine ai hP hN rfl ?_
 (refine ad rfl fun K0 V => ?_; simp only [zE, op1, ev, lkp, ah, ag, az, Nat.mul_one, ax, ay, acs, Ty.dflt, zG, ao, reduceCtorEq, E, D, J, U, O, S, Try.st58, Try.td58, Mly.av]; (repeat refine And.intro (by first | omega | assumption | exact rfl) ?_); refine V _ ?_; clear V K0; simp only [put, app, aa, af, zE, zS, D])
 refine ad rfl fun K0 V => ?_
 refine aW (h := aG (p9 m)) rfl rfl (by first | exact rfl | (simp only [ev, Y, lkp, zE, reduceCtorEq, E, Z, D]; exact rfl)) (by simp only [zE, zG, op1, ev, lkp, ah, ag, au, acs, ba, mv1, mvC, Ty.dflt, reduceCtorEq, E, D, J, U, O, S, Mly.av]) ?_
 refine V _ ?_; clear V K0; simp only [put, app, aa, af, zE, zS, D]
 (refine ad rfl fun K0 V => ?_; simp only [zE, op1, ev, lkp, ah, ag, ev, reduceCtorEq, E, D, J, U, O, S, Try.td3, Mly.av]; refine V _ ?_; clear V K0; simp only [put, app, aa, af, zE, zS, D])
 refine aj ?_
 refine hK3 _ ?_; clear hK3; refine ae [0, 1, 2, 3, 6, 7, 8, 9] ?_; simp only [Y, lkp, zE, reduceCtorEq, E, Z, D]
 refine ab fun K4 hK4 => ?_
 refine ai hP hN rfl ?_
 iterate 2 (refine ad rfl fun K0 V => ?_; simp only [zE, op1, ev, lkp, ah, ag, aE, aC, aD, ar, aB, aN, reduceCtorEq, E, D, J, U, O, S, Try.td3, Try.td4, Mly.av]; (repeat refine And.intro (by first | omega | assumption | exact rfl) ?_); refine V _ ?_; clear V K0; simp only [put, app, aa, af, zE, zS, D])
 refine aj ?_
 refine hK4 _ ?_; clear hK4; refine ae [0, 1, 2, 3, 6, 7, 8, 9, 16] ?_; simp only [Y, lkp, zE, reduceCtorEq, E, Z, D]
 refine aF (by simp only [ev, Y, lkp, zE, reduceCtorEq, E, Z, D]; exact rfl) (fun hc5 => ?_) (fun hc5 => ?_)
 ·(try simp only [zB, reduceCtorEq] at hc5)
  refine ab fun K6 hK6 => ?_
  refine ai hP hN rfl ?_
  iterate 4 (refine ad rfl fun K0 V => ?_; simp only [zE, op1, ev, lkp, ah, ag, ev, reduceCtorEq, E, D, J, U, O, S, Try.el26, Try.td26, Try.td3, Mly.av]; refine V _ ?_; clear V K0; simp only [put, app, aa, af, zE, zS, D])
  refine aj ?_
  refine hK6 _ ?_; clear hK6; refine ae [0, 1, 2, 3, 6, 7, 8, 9, 16] ?_; simp only [Y, lkp, zE, reduceCtorEq, E, Z, D]
  refine aI ?_
  refine ⟨by first | exact .inl rfl | exact .inr rfl, _, rfl, ?_⟩; simp only [fzV, fz1, fzC, List.map_cons, List.map_nil, Y, lkp, zE, reduceCtorEq, E, Z, D, Mly.av]
  first
  | (have hE := iB (s := s) (w := w) ‹¬bl m = 0›
     unfold ci dN; rw [hE, if_neg ‹¬bl m = 0›, if_neg ‹¬bl m = 0›]
     exact bz ⟨aR (aT rfl), aR (.refl _), aR (.refl _), trivial⟩)
  | (have hE := ip (w := w) ‹bl m = 0› (show s < 0 ∨ (m.nx.length : Int) ≤ s by omega)
     unfold ci dN; rw [hE, if_neg (by omega), if_neg (by omega)]
     exact bz ⟨aR (aT rfl), aR (.refl _), aR (.refl _), trivial⟩)
  | (have hE := fZ (w := w) ‹bl m = 0› (show ¬ (s < 0 ∨ (m.nx.length : Int) ≤ s) by omega)
     unfold ci dN; rw [hE]
     first
     | (rw [if_neg ‹¬bH w m.inp = 0›, if_neg ‹¬bH w m.inp = 0›]
        exact bz ⟨aR (aT rfl), aR (.refl _), aR (.refl _), trivial⟩)
     | (rw [‹bH w m.inp = 0›, if_pos rfl, if_pos rfl]
        exact bz ⟨aR (.refl _), aR (.refl _), aR (.refl _), trivial⟩))
 ·(try simp only [zB, reduceCtorEq] at hc5)
  refine aK ?_
  refine hK2 _ ?_; clear hK2; refine ae [0, 1, 2, 3, 6, 7, 8, 9, 16] ?_; simp only [Y, lkp, zE, reduceCtorEq, E, Z, D]
  refine ab fun K7 hK7 => ?_
  refine ab fun K8 hK8 => ?_
  refine ai hP hN rfl ?_
  iterate 2 (refine ad rfl fun K0 V => ?_; simp only [zE, op1, ev, lkp, ah, ag, aE, aC, aD, ar, aB, aN, reduceCtorEq, E, D, J, U, O, S, Try.td3, Try.td4, Mly.av]; (repeat refine And.intro (by first | omega | assumption | exact rfl) ?_); refine V _ ?_; clear V K0; simp only [put, app, aa, af, zE, zS, D])
  (refine ad rfl fun K0 V => ?_; simp only [zE, op1, ev, lkp, ah, ag, ev, reduceCtorEq, E, D, J, U, O, S, Try.td4, Mly.av]; refine V _ ?_; clear V K0; simp only [put, app, aa, af, zE, zS, D])
  refine' aU (want := false) 5 rfl (m := 20) (by simp only [Y, lkp, zE, reduceCtorEq, E, Z, D]; exact rfl) (by kernel_rfl) rfl rfl rfl rfl rfl (fun hg9 => ?a9) ?b9 ?c9
  case a9 =>
   have hq9 := hg9; (try simp only [zB, reduceCtorEq] at hg9); simp only [List.take_succ_cons, List.take_zero, List.cons_append, List.nil_append]
   (refine aA rfl fun K0 V => ?_; simp only [zE, op1, ev, lkp, ah, ag, ev, reduceCtorEq, E, D, J, U, O, S, Try.td3, Mly.av]; refine V _ ?_; clear V K0; simp only [put, app, aa, af, zE, zS, D])
   (refine aA rfl fun K0 V => ?_; simp only [zE, op1, ev, lkp, ah, ag, aw, reduceCtorEq, E, D, J, U, O, S, Try.st58, Try.td2, Try.td58, Mly.av]; (repeat refine And.intro (by first | omega | assumption | exact rfl) ?_); refine V _ ?_; clear V K0; simp only [put, app, aa, af, zE, zS, D])
   (refine aA rfl fun K0 V => ?_; simp only [zE, op1, ev, lkp, ah, ag, az, Nat.mul_one, ax, ay, acs, Ty.dflt, zG, ao, reduceCtorEq, E, D, J, U, O, S, Try.el22, Try.td22, Mly.av]; (repeat refine And.intro (by first | omega | assumption | exact rfl) ?_); refine V _ ?_; clear V K0; simp only [put, app, aa, af, zE, zS, D])
   (refine aA rfl fun K0 V => ?_; simp only [zE, op1, ev, lkp, ah, ag, aH, bu, bb, aY, aZ, br, Nat.div_one, aM, b0, Ty.size, aL, dite_true, reduceCtorEq, E, D, J, U, O, S, Try.el22, Try.td22, Try.td3, Mly.av]; (repeat refine And.intro (by first | omega | assumption | exact rfl) ?_); (first | refine V _ ?_ | refine Or.inl (V _ ?_)); clear V K0; simp only [put, app, aa, af, zE, zS, D])
   (refine aA rfl fun K0 V => ?_; simp only [zE, op1, ev, lkp, ah, ag, aE, aC, aD, ar, aB, aN, reduceCtorEq, E, D, J, U, O, S, Try.td3, Try.td4, Mly.av]; (repeat refine And.intro (by first | omega | assumption | exact rfl) ?_); refine V _ ?_; clear V K0; simp only [put, app, aa, af, zE, zS, D])
   (refine ad rfl fun K0 V => ?_; simp only [zE, op1, ev, lkp, ah, ag, bm, reduceCtorEq, E, D, J, U, O, S, Try.td4, Mly.av]; refine V _ ?_; clear V K0; simp only [put, app, aa, af, zE, zS, D])
   refine aj ?_
   refine ⟨by simp only [Y, lkp, zE, reduceCtorEq, E, Z, D]; exact rfl, rfl, ?_, rfl⟩; (repeat refine aV rfl ?_); exact bt (by exact rfl) hq9
  case b9 => exact bq (by first | rfl | (simp [bS]; done) | decide)
  simp only [bg, aX]
  refine aj ?_
  refine hK8 _ ?_; clear hK8; refine ae [0, 1, 2, 3, 6, 7, 8, 9, 16, 26] ?_; simp only [Y, lkp, zE, reduceCtorEq, E, Z, D]
  refine aF (by simp only [ev, Y, lkp, zE, reduceCtorEq, E, Z, D]; exact rfl) (fun hc10 => ?_) (fun hc10 => ?_)
  ·(try simp only [zB, reduceCtorEq] at hc10)
   refine ab fun K11 hK11 => ?_
   refine ai hP hN rfl ?_
   iterate 3 (refine ad rfl fun K0 V => ?_; simp only [zE, op1, ev, lkp, ah, ag, ev, reduceCtorEq, E, D, J, U, O, S, Try.el26, Try.td26, Try.td3, Mly.av]; refine V _ ?_; clear V K0; simp only [put, app, aa, af, zE, zS, D])
   refine aj ?_
   refine hK11 _ ?_; clear hK11; refine ae [0, 1, 2, 3, 6, 7, 8, 9, 16, 26] ?_; simp only [Y, lkp, zE, reduceCtorEq, E, Z, D]
   refine aI ?_
   refine ⟨by first | exact .inl rfl | exact .inr rfl, _, rfl, ?_⟩; simp only [fzV, fz1, fzC, List.map_cons, List.map_nil, Y, lkp, zE, reduceCtorEq, E, Z, D, Mly.av]
   first
   | (have hE := iB (s := s) (w := w) ‹¬bl m = 0›
      unfold ci dN; rw [hE, if_neg ‹¬bl m = 0›, if_neg ‹¬bl m = 0›]
      exact bz ⟨aR (aT rfl), aR (.refl _), aR (.refl _), trivial⟩)
   | (have hE := ip (w := w) ‹bl m = 0› (show s < 0 ∨ (m.nx.length : Int) ≤ s by omega)
      unfold ci dN; rw [hE, if_neg (by omega), if_neg (by omega)]
      exact bz ⟨aR (aT rfl), aR (.refl _), aR (.refl _), trivial⟩)
   | (have hE := fZ (w := w) ‹bl m = 0› (show ¬ (s < 0 ∨ (m.nx.length : Int) ≤ s) by omega)
      unfold ci dN; rw [hE]
      first
      | (rw [if_neg ‹¬bH w m.inp = 0›, if_neg ‹¬bH w m.inp = 0›]
         exact bz ⟨aR (aT rfl), aR (.refl _), aR (.refl _), trivial⟩)
      | (rw [‹bH w m.inp = 0›, if_pos rfl, if_pos rfl]
         exact bz ⟨aR (.refl _), aR (.refl _), aR (.refl _), trivial⟩))
  ·(try simp only [zB, reduceCtorEq] at hc10)
   refine aK ?_
   refine hK7 _ ?_; clear hK7; refine ae [0, 1, 2, 3, 6, 7, 8, 9, 16, 26] ?_; simp only [Y, lkp, zE, reduceCtorEq, E, Z, D]
   refine ab fun K12 hK12 => ?_
   refine ab fun K13 hK13 => ?_
   refine ai hP hN rfl ?_
   iterate 3 (refine ad rfl fun K0 V => ?_; simp only [zE, op1, ev, lkp, ah, ag, aw, az, Nat.mul_one, ax, ay, acs, Ty.dflt, zG, ao, reduceCtorEq, E, D, J, U, O, S, Try.el26, Try.st58, Try.td26, Try.td3, Try.td58, Mly.av]; (repeat refine And.intro (by first | omega | assumption | exact rfl) ?_); refine V _ ?_; clear V K0; simp only [put, app, aa, af, zE, zS, D])
   refine ad rfl fun K0 V => ?_
   refine aW (h := aG (l6 w m.inp)) rfl rfl (by first | exact rfl | (simp only [ev, Y, lkp, zE, reduceCtorEq, E, Z, D]; exact rfl)) (by simp only [zE, zG, op1, ev, lkp, ah, ag, au, acs, ba, mv1, mvC, Ty.dflt, reduceCtorEq, E, D, J, U, O, S, Mly.av]) ?_
   refine V _ ?_; clear V K0; simp only [put, app, aa, af, zE, zS, D]
   (refine ad rfl fun K0 V => ?_; simp only [zE, op1, ev, lkp, ah, ag, ev, reduceCtorEq, E, D, J, U, O, S, Try.td3, Mly.av]; refine V _ ?_; clear V K0; simp only [put, app, aa, af, zE, zS, D])
   refine aj ?_
   refine hK13 _ ?_; clear hK13; refine ae [0, 1, 2, 3, 6, 7, 8, 9, 10, 16, 26] ?_; simp only [Y, lkp, zE, reduceCtorEq, E, Z, D]
   refine ab fun K14 hK14 => ?_
   refine ai hP hN rfl ?_
   iterate 2 (refine ad rfl fun K0 V => ?_; simp only [zE, op1, ev, lkp, ah, ag, aE, aC, aD, ar, aB, aN, reduceCtorEq, E, D, J, U, O, S, Try.td3, Try.td4, Mly.av]; (repeat refine And.intro (by first | omega | assumption | exact rfl) ?_); refine V _ ?_; clear V K0; simp only [put, app, aa, af, zE, zS, D])
   refine aj ?_
   refine hK14 _ ?_; clear hK14; refine ae [0, 1, 2, 3, 6, 7, 8, 9, 10, 16, 26, 32] ?_; simp only [Y, lkp, zE, reduceCtorEq, E, Z, D]
   refine aF (by simp only [ev, Y, lkp, zE, reduceCtorEq, E, Z, D]; exact rfl) (fun hc15 => ?_) (fun hc15 => ?_)
   ·(try simp only [zB, reduceCtorEq] at hc15)
    refine ab fun K16 hK16 => ?_
    refine ai hP hN rfl ?_
    iterate 4 (refine ad rfl fun K0 V => ?_; simp only [zE, op1, ev, lkp, ah, ag, ev, reduceCtorEq, E, D, J, U, O, S, Try.el26, Try.td26, Try.td3, Mly.av]; refine V _ ?_; clear V K0; simp only [put, app, aa, af, zE, zS, D])
    refine aj ?_
    refine hK16 _ ?_; clear hK16; refine ae [0, 1, 2, 3, 6, 7, 8, 9, 10, 16, 26, 32] ?_; simp only [Y, lkp, zE, reduceCtorEq, E, Z, D]
    refine aI ?_
    refine ⟨by first | exact .inl rfl | exact .inr rfl, _, rfl, ?_⟩; simp only [fzV, fz1, fzC, List.map_cons, List.map_nil, Y, lkp, zE, reduceCtorEq, E, Z, D, Mly.av]
    first
    | (have hE := iB (s := s) (w := w) ‹¬bl m = 0›
       unfold ci dN; rw [hE, if_neg ‹¬bl m = 0›, if_neg ‹¬bl m = 0›]
       exact bz ⟨aR (aT rfl), aR (.refl _), aR (.refl _), trivial⟩)
    | (have hE := ip (w := w) ‹bl m = 0› (show s < 0 ∨ (m.nx.length : Int) ≤ s by omega)
       unfold ci dN; rw [hE, if_neg (by omega), if_neg (by omega)]
       exact bz ⟨aR (aT rfl), aR (.refl _), aR (.refl _), trivial⟩)
    | (have hE := fZ (w := w) ‹bl m = 0› (show ¬ (s < 0 ∨ (m.nx.length : Int) ≤ s) by omega)
       unfold ci dN; rw [hE]
       first
       | (rw [if_neg ‹¬bH w m.inp = 0›, if_neg ‹¬bH w m.inp = 0›]
          exact bz ⟨aR (aT rfl), aR (.refl _), aR (.refl _), trivial⟩)
       | (rw [‹bH w m.inp = 0›, if_pos rfl, if_pos rfl]
          exact bz ⟨aR (.refl _), aR (.refl _), aR (.refl _), trivial⟩))
   ·(try simp only [zB, reduceCtorEq] at hc15)
    refine aK ?_
    refine hK12 _ ?_; clear hK12; refine ae [0, 1, 2, 3, 6, 7, 8, 9, 10, 16, 26, 32] ?_; simp only [Y, lkp, zE, reduceCtorEq, E, Z, D]
    refine ab fun K17 hK17 => ?_
    refine ai hP hN rfl ?_
    iterate 3 (refine ad rfl fun K0 V => ?_; simp only [zE, op1, ev, lkp, ah, ag, az, Nat.mul_one, ax, ay, acs, Ty.dflt, zG, ao, reduceCtorEq, E, D, J, U, O, S, Try.el26, Try.st58, Try.td26, Try.td3, Try.td58, Mly.av]; (repeat refine And.intro (by first | omega | assumption | exact rfl) ?_); refine V _ ?_; clear V K0; simp only [put, app, aa, af, zE, zS, D])
    refine ad rfl fun K0 V => ?_
    refine aW (h := aG (sd m s w ⟨jn (by assumption), by omega, by omega⟩ (jq (by assumption)))) rfl rfl (by first | exact rfl | (simp only [ev, Y, lkp, zE, reduceCtorEq, E, Z, D]; exact rfl)) (by simp only [zE, zG, op1, ev, lkp, ah, ag, au, acs, ba, mv1, mvC, Ty.dflt, reduceCtorEq, E, D, J, U, O, S, Mly.av]) ?_
    refine V _ ?_; clear V K0; simp only [put, app, aa, af, zE, zS, D]
    iterate 5 (refine ad rfl fun K0 V => ?_; simp only [zE, op1, ev, lkp, ah, ag, bI, reduceCtorEq, E, D, J, U, O, S, Try.el26, Try.td1, Try.td26, Try.td3, Mly.av]; refine V _ ?_; clear V K0; simp only [put, app, aa, af, zE, zS, D])
    refine aj ?_
    refine hK17 _ ?_; clear hK17; refine ae [0, 1, 2, 3, 6, 7, 8, 9, 10, 11, 12, 16, 26, 32] ?_; simp only [Y, lkp, zE, reduceCtorEq, E, Z, D]
    refine ab fun K18 hK18 => ?_
    refine ai hP hN rfl ?_
    iterate 5 (refine ad rfl fun K0 V => ?_; simp only [zE, op1, ev, lkp, ah, ag, ev, reduceCtorEq, E, D, J, U, O, S, Try.el26, Try.td26, Try.td3, Mly.av]; refine V _ ?_; clear V K0; simp only [put, app, aa, af, zE, zS, D])
    refine aj ?_
    refine hK18 _ ?_; clear hK18; refine ae [0, 1, 2, 3, 6, 7, 8, 9, 10, 11, 12, 16, 26, 32] ?_; simp only [Y, lkp, zE, reduceCtorEq, E, Z, D]
    refine aI ?_
    refine ⟨by first | exact .inl rfl | exact .inr rfl, _, rfl, ?_⟩; simp only [fzV, fz1, fzC, List.map_cons, List.map_nil, Y, lkp, zE, reduceCtorEq, E, Z, D, Mly.av]
    first
    | (have hE := iB (s := s) (w := w) ‹¬bl m = 0›
       unfold ci dN; rw [hE, if_neg ‹¬bl m = 0›, if_neg ‹¬bl m = 0›]
       exact bz ⟨aR (aT rfl), aR (.refl _), aR (.refl _), trivial⟩)
    | (have hE := ip (w := w) ‹bl m = 0› (show s < 0 ∨ (m.nx.length : Int) ≤ s by omega)
       unfold ci dN; rw [hE, if_neg (by omega), if_neg (by omega)]
       exact bz ⟨aR (aT rfl), aR (.refl _), aR (.refl _), trivial⟩)
    | (have hE := fZ (w := w) ‹bl m = 0› (show ¬ (s < 0 ∨ (m.nx.length : Int) ≤ s) by omega)
       unfold ci dN; rw [hE]
       first
       | (rw [if_neg ‹¬bH w m.inp = 0›, if_neg ‹¬bH w m.inp = 0›]
          exact bz ⟨aR (aT rfl), aR (.refl _), aR (.refl _), trivial⟩)
       | (rw [‹bH w m.inp = 0›, if_pos rfl, if_pos rfl]
          exact bz ⟨aR (.refl _), aR (.refl _), aR (.refl _), trivial⟩))
end Go.Proofs.Ytdkgcbhbpdbmnaa
namespace Go.Proofs.Ytdkgcbhbpdbmnaa
open Go Go.AV
open Nat renaming reduceEqDiff → E, reduceAdd → D, reduceLeDiff → J, reduceLT → U, reduceMul → O, reduceSub → S
open List renaming set_cons_zero → aq, set_cons_succ → am
set_option maxRecDepth 100000 in
theorem sv (m : Mly) (w : List Int) : bJ Try.prog 38 [m.av, .one (.list (.int .i64) w)] (.tup [.one (.list (.int .i64) (ci m m.st w)), .one (.int .i64 (cQ m m.st w))]) := by
 refine aS Try.func38 rfl (by kernel_rfl) (Nat.le_of_ble_eq_true rfl) rfl fun C hP hN hB => ?_
 replace hN : C.N = 20 := hN
 simp only [Z, D]
 refine ab fun K1 hK1 => ?_
 refine ai hP hN rfl ?_
 iterate 3 (refine ad rfl fun K0 V => ?_; simp only [zE, op1, ev, lkp, ah, ag, c0, au, reduceCtorEq, E, D, J, U, O, S, Try.el26, Try.st58, Try.td26, Try.td3, Try.td58, Mly.av]; (repeat refine And.intro (by first | omega | assumption | exact rfl) ?_); refine V _ ?_; clear V K0; simp only [put, app, aa, af, zE, zS, D])
 refine aj ?_
 refine hK1 _ ?_; clear hK1; refine ae [0, 1, 2, 4, 5] ?_; simp only [Y, lkp, zE, reduceCtorEq, E, Z, D]
 refine ab fun K2 hK2 => ?_
 refine ai hP hN rfl ?_
 iterate 4 (refine ad rfl fun K0 V => ?_; simp only [zE, op1, ev, lkp, ah, ag, az, Nat.mul_one, ax, ay, acs, Ty.dflt, zG, ao, aw, reduceCtorEq, E, D, J, U, O, S, Try.el26, Try.st58, Try.td1, Try.td26, Try.td3, Try.td58, Mly.av]; (repeat refine And.intro (by first | omega | assumption | exact rfl) ?_); refine V _ ?_; clear V K0; simp only [put, app, aa, af, zE, zS, D])
 refine ad rfl fun K0 V => ?_
 refine aW (h := aG (qn m m.st w)) rfl rfl (by first | exact rfl | (simp only [ev, Y, lkp, zE, reduceCtorEq, E, Z, D]; exact rfl)) (by simp only [zE, zG, op1, ev, lkp, ah, ag, au, acs, ba, mv1, mvC, Ty.dflt, reduceCtorEq, E, D, J, U, O, S, Mly.av]) ?_
 refine V _ ?_; clear V K0; simp only [put, app, aa, af, zE, zS, D]
 iterate 7 (refine ad rfl fun K0 V => ?_; simp only [zE, op1, ev, lkp, ah, ag, bI, reduceCtorEq, E, D, J, U, O, S, Try.el26, Try.td1, Try.td2, Try.td26, Try.td3, Mly.av]; refine V _ ?_; clear V K0; simp only [put, app, aa, af, zE, zS, D])
 refine aj ?_
 refine hK2 _ ?_; clear hK2; refine ae [0, 1, 2, 4, 5, 6, 8] ?_; simp only [Y, lkp, zE, reduceCtorEq, E, Z, D]
 refine ab fun K3 hK3 => ?_
 refine ai hP hN rfl ?_
 iterate 4 (refine ad rfl fun K0 V => ?_; simp only [zE, op1, ev, lkp, ah, ag, ev, reduceCtorEq, E, D, J, U, O, S, Try.el26, Try.td26, Try.td3, Mly.av]; refine V _ ?_; clear V K0; simp only [put, app, aa, af, zE, zS, D])
 refine aj ?_
 refine hK3 _ ?_; clear hK3; refine ae [0, 1, 2, 4, 5, 6, 8] ?_; simp only [Y, lkp, zE, reduceCtorEq, E, Z, D]
 refine aI ?_
 refine ⟨by first | exact .inl rfl | exact .inr rfl, _, rfl, ?_⟩; simp only [fzV, fz1, fzC, List.map_cons, List.map_nil, Y, lkp, zE, reduceCtorEq, E, Z, D, Mly.av]
 refine VLE.of_eq ?_
 rfl
end Go.Proofs.Ytdkgcbhbpdbmnaa
namespace Go.Proofs.Ytdkgcbhbpdbmnaa
open Go Go.AV
open Nat renaming reduceEqDiff → E, reduceAdd → D, reduceLeDiff → J, reduceLT → U, reduceMul → O, reduceSub → S
open List renaming set_cons_zero → aq, set_cons_succ → am
set_option maxRecDepth 100000 in
set_option maxHeartbeats 3000000 in
theorem sD (d : Dfa) (w : List Int) : bJ Try.prog 9 [d.av, .one (.list (.int .i64) w)] (.one (.bool true)) := by
 refine aS Try.func9 rfl (by kernel_rfl) (Nat.le_of_ble_eq_true rfl) rfl fun C hP hN hB => ?_
 replace hN : C.N = 135 := hN
 simp only [Z, D]
 refine dV 1 rfl fun hf1 => ?_; simp only [lkp, if_true, if_false, reduceCtorEq, E, eq_self, Nat.one_ne_zero, Nat.zero_ne_one, gK, gd, fU, Fit, and_true, implies_true, true_and] at hf1
 refine ab fun K1 hK1 => ?_
 refine ai hP hN rfl ?_
 iterate 2 (refine ad rfl fun K0 V => ?_; simp only [zE, op1, ev, lkp, ah, ag, c0, au, reduceCtorEq, E, D, J, U, O, S, Try.st25, Try.td25, Try.td4, Dfa.av, Mly.av, List.getD_cons_zero]; (repeat refine And.intro (by first | omega | assumption | exact rfl) ?_); refine V _ ?_; clear V K0; simp only [put, app, aa, af, zE, zS, D])
 refine aj ?_
 refine hK1 _ ?_; clear hK1; refine ae [0, 1, 2, 4] ?_; simp only [Y, lkp, zE, reduceCtorEq, E, Z, D]
 refine ab fun K2 hK2 => ?_
 refine ab fun K3 hK3 => ?_
 refine ai hP hN rfl ?_
 (refine ad rfl fun K0 V => ?_; simp only [zE, op1, ev, lkp, ah, ag, az, Nat.mul_one, ax, ay, acs, Ty.dflt, zG, ao, reduceCtorEq, E, D, J, U, O, S, Try.st25, Try.td25, Dfa.av, Mly.av, List.getD_cons_zero]; (repeat refine And.intro (by first | omega | assumption | exact rfl) ?_); refine V _ ?_; clear V K0; simp only [put, app, aa, af, zE, zS, D])
 refine ad rfl fun K0 V => ?_
 refine aW (h := aG (pq d)) rfl rfl (by first | exact rfl | (simp only [ev, Y, lkp, zE, reduceCtorEq, E, Z, D]; exact rfl)) (by simp only [zE, zG, op1, ev, lkp, ah, ag, au, acs, ba, mv1, mvC, Ty.dflt, reduceCtorEq, E, D, J, U, O, S, Dfa.av, Mly.av, List.getD_cons_zero]) ?_
 refine V _ ?_; clear V K0; simp only [put, app, aa, af, zE, zS, D]
 (refine ad rfl fun K0 V => ?_; simp only [zE, op1, ev, lkp, ah, ag, ev, reduceCtorEq, E, D, J, U, O, S, Try.td4, Dfa.av, Mly.av, List.getD_cons_zero]; refine V _ ?_; clear V K0; simp only [put, app, aa, af, zE, zS, D])
 refine' aU (want := false) 3 rfl (m := 19) (by simp only [Y, lkp, zE, reduceCtorEq, E, Z, D]; exact rfl) (by kernel_rfl) rfl rfl rfl rfl rfl (fun hg4 => ?a4) ?b4 ?c4
 case a4 =>
  have hq4 := hg4; (try simp only [zB, reduceCtorEq] at hg4); simp only [List.take_succ_cons, List.take_zero, List.cons_append, List.nil_append]
  (refine aA rfl fun K0 V => ?_; simp only [zE, op1, ev, lkp, ah, ag, ev, reduceCtorEq, E, D, J, U, O, S, Try.el26, Try.td26, Dfa.av, Mly.av, List.getD_cons_zero]; refine V _ ?_; clear V K0; simp only [put, app, aa, af, zE, zS, D])
  (refine aA rfl fun K0 V => ?_; simp only [zE, op1, ev, lkp, ah, ag, aH, bu, bb, aY, aZ, br, Nat.div_one, aM, b0, Ty.size, aL, dite_true, reduceCtorEq, E, D, J, U, O, S, Try.el26, Try.td26, Try.td3, Dfa.av, Mly.av, List.getD_cons_zero]; (repeat refine And.intro (by first | omega | assumption | exact rfl) ?_); (first | refine V _ ?_ | refine Or.inl (V _ ?_)); clear V K0; simp only [put, app, aa, af, zE, zS, D])
  (refine aA rfl fun K0 V => ?_; simp only [zE, op1, ev, lkp, ah, ag, aE, aC, aD, ar, aB, aN, reduceCtorEq, E, D, J, U, O, S, Try.td3, Try.td4, Dfa.av, Mly.av, List.getD_cons_zero]; (repeat refine And.intro (by first | omega | assumption | exact rfl) ?_); refine V _ ?_; clear V K0; simp only [put, app, aa, af, zE, zS, D])
  (refine ad rfl fun K0 V => ?_; simp only [zE, op1, ev, lkp, ah, ag, bm, reduceCtorEq, E, D, J, U, O, S, Try.td4, Dfa.av, Mly.av, List.getD_cons_zero]; refine V _ ?_; clear V K0; simp only [put, app, aa, af, zE, zS, D])
  refine aj ?_
  refine ⟨by simp only [Y, lkp, zE, reduceCtorEq, E, Z, D]; exact rfl, rfl, ?_, rfl⟩; (repeat refine aV rfl ?_); exact bt (by exact rfl) hq4
 case b4 => exact bq (by first | rfl | (simp [bS]; done) | decide)
 simp only [bg, aX]
 (refine ad rfl fun K0 V => ?_; simp only [zE, op1, ev, lkp, ah, ag, ev, reduceCtorEq, E, D, J, U, O, S, Try.td4, Dfa.av, Mly.av, List.getD_cons_zero]; refine V _ ?_; clear V K0; simp only [put, app, aa, af, zE, zS, D])
 refine' aU (want := false) 3 rfl (m := 24) (by simp only [Y, lkp, zE, reduceCtorEq, E, Z, D]; exact rfl) (by kernel_rfl) rfl rfl rfl rfl rfl (fun hg5 => ?a5) ?b5 ?c5
 case a5 =>
  have hq5 := hg5; (try simp only [zB, reduceCtorEq] at hg5); simp only [List.take_succ_cons, List.take_zero, List.cons_append, List.nil_append]
  (refine aA rfl fun K0 V => ?_; simp only [zE, op1, ev, lkp, ah, ag, az, Nat.mul_one, ax, ay, acs, Ty.dflt, zG, ao, reduceCtorEq, E, D, J, U, O, S, Try.st25, Try.td25, Dfa.av, Mly.av, List.getD_cons_zero]; (repeat refine And.intro (by first | omega | assumption | exact rfl) ?_); refine V _ ?_; clear V K0; simp only [put, app, aa, af, zE, zS, D])
  refine aA rfl fun K0 V => ?_
  refine aW (h := aG (dt d)) rfl rfl (by first | exact rfl | (simp only [ev, Y, lkp, zE, reduceCtorEq, E, Z, D]; exact rfl)) (by simp only [zE, zG, op1, ev, lkp, ah, ag, au, acs, ba, mv1, mvC, Ty.dflt, reduceCtorEq, E, D, J, U, O, S, Dfa.av, Mly.av, List.getD_cons_zero]) ?_
  refine V _ ?_; clear V K0; simp only [put, app, aa, af, zE, zS, D]
  (refine aA rfl fun K0 V => ?_; simp only [zE, op1, ev, lkp, ah, ag, aE, aC, aD, ar, aB, aN, reduceCtorEq, E, D, J, U, O, S, Try.td29, Try.td4, Dfa.av, Mly.av, List.getD_cons_zero]; (repeat refine And.intro (by first | omega | assumption | exact rfl) ?_); refine V _ ?_; clear V K0; simp only [put, app, aa, af, zE, zS, D])
  (refine ad rfl fun K0 V => ?_; simp only [zE, op1, ev, lkp, ah, ag, bm, reduceCtorEq, E, D, J, U, O, S, Try.td4, Dfa.av, Mly.av, List.getD_cons_zero]; refine V _ ?_; clear V K0; simp only [put, app, aa, af, zE, zS, D])
  refine aj ?_
  refine ⟨by simp only [Y, lkp, zE, reduceCtorEq, E, Z, D]; exact rfl, rfl, ?_, rfl⟩; (repeat refine aV rfl ?_); exact bt (by exact rfl) hq5
 case b5 => exact bq (by first | rfl | (simp [bS]; done) | decide)
 simp only [bg, aX]
 (refine ad rfl fun K0 V => ?_; simp only [zE, op1, ev, lkp, ah, ag, ev, reduceCtorEq, E, D, J, U, O, S, Try.td4, Dfa.av, Mly.av, List.getD_cons_zero]; refine V _ ?_; clear V K0; simp only [put, app, aa, af, zE, zS, D])
 refine' aU (want := false) 5 rfl (m := 29) (by simp only [Y, lkp, zE, reduceCtorEq, E, Z, D]; exact rfl) (by kernel_rfl) rfl rfl rfl rfl rfl (fun hg6 => ?a6) ?b6 ?c6
 case a6 =>
  have hq6 := hg6; (try simp only [zB, reduceCtorEq] at hg6); simp only [List.take_succ_cons, List.take_zero, List.cons_append, List.nil_append]
  (refine aA rfl fun K0 V => ?_; simp only [zE, op1, ev, lkp, ah, ag, ev, reduceCtorEq, E, D, J, U, O, S, Try.el26, Try.td26, Dfa.av, Mly.av, List.getD_cons_zero]; refine V _ ?_; clear V K0; simp only [put, app, aa, af, zE, zS, D])
  (refine aA rfl fun K0 V => ?_; simp only [zE, op1, ev, lkp, ah, ag, aw, reduceCtorEq, E, D, J, U, O, S, Try.st25, Try.td25, Dfa.av, Mly.av, List.getD_cons_zero]; (repeat refine And.intro (by first | omega | assumption | exact rfl) ?_); refine V _ ?_; clear V K0; simp only [put, app, aa, af, zE, zS, D])
  (refine aA rfl fun K0 V => ?_; simp only [zE, op1, ev, lkp, ah, ag, az, Nat.mul_one, ax, ay, acs, Ty.dflt, zG, ao, reduceCtorEq, E, D, J, U, O, S, Try.td3, Dfa.av, Mly.av, List.getD_cons_zero]; (repeat refine And.intro (by first | omega | assumption | exact rfl) ?_); refine V _ ?_; clear V K0; simp only [put, app, aa, af, zE, zS, D])
  refine aA rfl fun K0 V => ?_
  refine aW (h := aG (l6 w d.inp)) rfl rfl (by first | exact rfl | (simp only [ev, Y, lkp, zE, reduceCtorEq, E, Z, D]; exact rfl)) (by simp only [zE, zG, op1, ev, lkp, ah, ag, au, acs, ba, mv1, mvC, Ty.dflt, reduceCtorEq, E, D, J, U, O, S, Dfa.av, Mly.av, List.getD_cons_zero]) ?_
  refine V _ ?_; clear V K0; simp only [put, app, aa, af, zE, zS, D]
  (refine aA rfl fun K0 V => ?_; simp only [zE, op1, ev, lkp, ah, ag, aE, aC, aD, ar, aB, aN, reduceCtorEq, E, D, J, U, O, S, Try.td3, Try.td4, Dfa.av, Mly.av, List.getD_cons_zero]; (repeat refine And.intro (by first | omega | assumption | exact rfl) ?_); refine V _ ?_; clear V K0; simp only [put, app, aa, af, zE, zS, D])
  (refine ad rfl fun K0 V => ?_; simp only [zE, op1, ev, lkp, ah, ag, bm, reduceCtorEq, E, D, J, U, O, S, Try.td4, Dfa.av, Mly.av, List.getD_cons_zero]; refine V _ ?_; clear V K0; simp only [put, app, aa, af, zE, zS, D])
  refine aj ?_
  refine ⟨by simp only [Y, lkp, zE, reduceCtorEq, E, Z, D]; exact rfl, rfl, ?_, rfl⟩; (repeat refine aV rfl ?_); exact bt (by exact rfl) hq6
 case b6 => exact bq (by first | rfl | (simp [bS]; done) | decide)
 simp only [bg, aX]
 refine aj ?_
 refine hK3 _ ?_; clear hK3; refine ae [0, 1, 2, 4, 35] ?_; simp only [Y, lkp, zE, reduceCtorEq, E, Z, D]
 refine aF (by simp only [ev, Y, lkp, zE, reduceCtorEq, E, Z, D]; exact rfl) (fun hc7 => ?_) (fun hc7 => ?_)
 ·(try simp only [zB, reduceCtorEq] at hc7)
  refine ab fun K8 hK8 => ?_
  refine ai hP hN rfl ?_
  refine ad rfl fun K0 V => ?_
  refine aW (h := aG jZ) rfl rfl (by first | exact rfl | (simp only [ev, Y, lkp, zE, reduceCtorEq, E, Z, D]; exact rfl)) (by simp only [zE, zG, op1, ev, lkp, ah, ag, au, acs, ba, mv1, mvC, Ty.dflt, reduceCtorEq, E, D, J, U, O, S, Dfa.av, Mly.av, List.getD_cons_zero]) ?_
  refine V _ ?_; clear V K0; simp only [put, app, aa, af, zE, zS, D]
  (refine ad rfl fun K0 V => ?_; simp only [zE, op1, ev, lkp, ah, ag, ev, reduceCtorEq, E, D, J, U, O, S, Try.td4, Dfa.av, Mly.av, List.getD_cons_zero]; refine V _ ?_; clear V K0; simp only [put, app, aa, af, zE, zS, D])
  refine aj ?_
  refine hK8 _ ?_; clear hK8; refine ae [0, 1, 2, 4, 35] ?_; simp only [Y, lkp, zE, reduceCtorEq, E, Z, D]
  refine aI ?_
  refine ⟨by first | exact .inl rfl | exact .inr rfl, _, rfl, ?_⟩; simp only [fzV, fz1, fzC, List.map_cons, List.map_nil, Y, lkp, zE, reduceCtorEq, E, Z, D, Dfa.av, Mly.av, List.getD_cons_zero]
  refine VLE.of_eq ?_
  rfl
 ·(try simp only [zB, reduceCtorEq] at hc7)
  have hg : grD d = false := by have h9 := hc7; revert h9; cases grD d <;> simp
  have hv : bo d = 0 := by have h9 := hc7; omega
  have hd := ef hv
  have a1 := hd.i1; have a2 := hd.i2; have a3 := hd.n1; have s1 := hd.s1; have s2 := hd.s2; have a7 := hd.al
  have hn12 := (oZ hg).1
  have hwe : bH w d.inp = 0 := by have h9 := hc7; omega
  have hr0 := (oZ hg).2.2 0 (by omega)
  have hr1 : ((d.nx.getD 0 []).length : Int) = d.inp := hd.rl 0 (by omega)
  have hM := p2 hd (by omega)
  have hT := sn hd (by omega) hn12
  have hte := hM.e; have hfe := hT.fe; have htw := hT.tw; have hnd := hT.nd
  have hol : (toM d).ot.length = d.nx.length := by rw [hM.eq]; exact js d
  have hsI : (toM d).st = d.st := by rw [hM.eq]
  have hiI : (toM d).inp = d.inp := by rw [hM.eq]
  have hFE : cQ (toM d) (toM d).st w = 0 := by rw [mP hM.ok, hiI]; exact hwe
  have hFV : ci (toM d) (toM d).st w = ((toM d).go d.st w).2 := by rw [pP hM.ok (by rw [hiI]; exact hwe), hsI]
  have hFL : (ci (toM d) (toM d).st w).length = w.length := by rw [hFV]; exact ov _ _ _
  refine aK ?_
  refine hK2 _ ?_; clear hK2; refine ae [0, 1, 2, 4, 35] ?_; simp only [Y, lkp, zE, reduceCtorEq, E, Z, D]
  refine ab fun K9 hK9 => ?_
  refine ai hP hN rfl ?_
  (refine ad rfl fun K0 V => ?_; simp only [zE, op1, ev, lkp, ah, ag, az, Nat.mul_one, ax, ay, acs, Ty.dflt, zG, ao, reduceCtorEq, E, D, J, U, O, S, Try.st25, Try.td25, Dfa.av, Mly.av, List.getD_cons_zero]; (repeat refine And.intro (by first | omega | assumption | exact rfl) ?_); refine V _ ?_; clear V K0; simp only [put, app, aa, af, zE, zS, D])
  refine ad rfl fun K0 V => ?_
  refine aW (h := aG (oL d)) rfl rfl (by first | exact rfl | (simp only [ev, Y, lkp, zE, reduceCtorEq, E, Z, D]; exact rfl)) (by simp only [zE, zG, op1, ev, lkp, ah, ag, au, acs, ba, mv1, mvC, Ty.dflt, reduceCtorEq, E, D, J, U, O, S, Dfa.av, Mly.av, List.getD_cons_zero]) ?_
  refine V _ ?_; clear V K0; simp only [put, app, aa, af, zE, zS, D]
  iterate 6 (refine ad rfl fun K0 V => ?_; simp only [zE, op1, ev, lkp, ah, ag, bI, bQ, bj, Nat.mul_one, au, aQ, aL, acs, Ty.size, Ty.dflt, zG, reduceCtorEq, E, D, J, U, O, S, Try.st58, Try.td1, Try.td29, Try.td58, Dfa.av, Mly.av, List.getD_cons_zero]; (repeat refine And.intro (by first | omega | assumption | exact rfl) ?_); (first | refine V _ ?_ | refine Or.inl (V _ ?_)); clear V K0; simp only [put, app, aa, af, zE, zS, D])
  refine aj ?_
  refine hK9 _ ?_; clear hK9; refine ae [0, 1, 2, 4, 5, 6, 35] ?_; simp only [Y, lkp, zE, reduceCtorEq, E, Z, D]
  refine ab fun K10 hK10 => ?_
  refine ab fun K11 hK11 => ?_
  refine ai hP hN rfl ?_
  iterate 2 (refine ad rfl fun K0 V => ?_; simp only [zE, op1, ev, lkp, ah, ag, aE, aC, aD, ar, aB, aN, reduceCtorEq, E, D, J, U, O, S, Try.td29, Try.td4, Dfa.av, Mly.av, List.getD_cons_zero]; (repeat refine And.intro (by first | omega | assumption | exact rfl) ?_); refine V _ ?_; clear V K0; simp only [put, app, aa, af, zE, zS, D])
  (refine ad rfl fun K0 V => ?_; simp only [zE, op1, ev, lkp, ah, ag, ev, reduceCtorEq, E, D, J, U, O, S, Try.td4, Dfa.av, Mly.av, List.getD_cons_zero]; refine V _ ?_; clear V K0; simp only [put, app, aa, af, zE, zS, D])
  refine' aU (want := false) 7 rfl (m := 44) (by simp only [Y, lkp, zE, reduceCtorEq, E, Z, D]; exact rfl) (by kernel_rfl) rfl rfl rfl rfl rfl (fun hg12 => ?a12) ?b12 ?c12
  case a12 =>
   have hq12 := hg12; (try simp only [zB, reduceCtorEq] at hg12); simp only [List.take_succ_cons, List.take_zero, List.cons_append, List.nil_append]
   (refine aA rfl fun K0 V => ?_; simp only [zE, op1, ev, lkp, ah, ag, aw, reduceCtorEq, E, D, J, U, O, S, Try.st58, Try.td3, Try.td58, Dfa.av, Mly.av, List.getD_cons_zero]; (repeat refine And.intro (by first | omega | assumption | exact rfl) ?_); refine V _ ?_; clear V K0; simp only [put, app, aa, af, zE, zS, D])
   (refine aA rfl fun K0 V => ?_; simp only [zE, op1, ev, lkp, ah, ag, az, Nat.mul_one, ax, ay, acs, Ty.dflt, zG, ao, reduceCtorEq, E, D, J, U, O, S, Try.el22, Try.td22, Dfa.av, Mly.av, List.getD_cons_zero]; (repeat refine And.intro (by first | omega | assumption | exact rfl) ?_); refine V _ ?_; clear V K0; simp only [put, app, aa, af, zE, zS, D])
   (refine aA rfl fun K0 V => ?_; simp only [zE, op1, ev, lkp, ah, ag, aH, bu, bb, aY, aZ, br, Nat.div_one, aM, b0, Ty.size, aL, dite_true, reduceCtorEq, E, D, J, U, O, S, Try.el22, Try.td22, Try.td3, Dfa.av, Mly.av, List.getD_cons_zero]; (repeat refine And.intro (by first | omega | assumption | exact rfl) ?_); (first | refine V _ ?_ | refine Or.inl (V _ ?_)); clear V K0; simp only [put, app, aa, af, zE, zS, D])
   (refine aA rfl fun K0 V => ?_; simp only [zE, op1, ev, lkp, ah, ag, aw, reduceCtorEq, E, D, J, U, O, S, Try.st25, Try.td2, Try.td25, Dfa.av, Mly.av, List.getD_cons_zero]; (repeat refine And.intro (by first | omega | assumption | exact rfl) ?_); refine V _ ?_; clear V K0; simp only [put, app, aa, af, zE, zS, D])
   (refine aA rfl fun K0 V => ?_; simp only [zE, op1, ev, lkp, ah, ag, az, Nat.mul_one, ax, ay, acs, Ty.dflt, zG, ao, reduceCtorEq, E, D, J, U, O, S, Try.el22, Try.td22, Dfa.av, Mly.av, List.getD_cons_zero]; (repeat refine And.intro (by first | omega | assumption | exact rfl) ?_); refine V _ ?_; clear V K0; simp only [put, app, aa, af, zE, zS, D])
   (refine aA rfl fun K0 V => ?_; simp only [zE, op1, ev, lkp, ah, ag, aH, bu, bb, aY, aZ, br, Nat.div_one, aM, b0, Ty.size, aL, dite_true, reduceCtorEq, E, D, J, U, O, S, Try.el22, Try.td22, Try.td3, Dfa.av, Mly.av, List.getD_cons_zero]; (repeat refine And.intro (by first | omega | assumption | exact rfl) ?_); (first | refine V _ ?_ | refine Or.inl (V _ ?_)); clear V K0; simp only [put, app, aa, af, zE, zS, D])
   (refine aA rfl fun K0 V => ?_; simp only [zE, op1, ev, lkp, ah, ag, aE, aC, aD, ar, aB, aN, reduceCtorEq, E, D, J, U, O, S, Try.td3, Try.td4, Dfa.av, Mly.av, List.getD_cons_zero]; (repeat refine And.intro (by first | omega | assumption | exact rfl) ?_); refine V _ ?_; clear V K0; simp only [put, app, aa, af, zE, zS, D])
   (refine ad rfl fun K0 V => ?_; simp only [zE, op1, ev, lkp, ah, ag, bm, reduceCtorEq, E, D, J, U, O, S, Try.td4, Dfa.av, Mly.av, List.getD_cons_zero]; refine V _ ?_; clear V K0; simp only [put, app, aa, af, zE, zS, D])
   refine aj ?_
   refine ⟨by simp only [Y, lkp, zE, reduceCtorEq, E, Z, D]; exact rfl, rfl, ?_, rfl⟩; (repeat refine aV rfl ?_); exact bt (by exact rfl) hq12
  case b12 => exact bq (by first | rfl | (simp [bS]; done) | decide)
  simp only [bg, aX]
  (refine ad rfl fun K0 V => ?_; simp only [zE, op1, ev, lkp, ah, ag, ev, reduceCtorEq, E, D, J, U, O, S, Try.td4, Dfa.av, Mly.av, List.getD_cons_zero]; refine V _ ?_; clear V K0; simp only [put, app, aa, af, zE, zS, D])
  refine' aU (want := false) 3 rfl (m := 53) (by simp only [Y, lkp, zE, reduceCtorEq, E, Z, D]; exact rfl) (by kernel_rfl) rfl rfl rfl rfl rfl (fun hg13 => ?a13) ?b13 ?c13
  case a13 =>
   have hq13 := hg13; (try simp only [zB, reduceCtorEq] at hg13); simp only [List.take_succ_cons, List.take_zero, List.cons_append, List.nil_append]
   (refine aA rfl fun K0 V => ?_; simp only [zE, op1, ev, lkp, ah, ag, aw, reduceCtorEq, E, D, J, U, O, S, Try.st25, Try.td1, Try.td25, Dfa.av, Mly.av, List.getD_cons_zero]; (repeat refine And.intro (by first | omega | assumption | exact rfl) ?_); refine V _ ?_; clear V K0; simp only [put, app, aa, af, zE, zS, D])
   (refine aA rfl fun K0 V => ?_; simp only [zE, op1, ev, lkp, ah, ag, az, Nat.mul_one, ax, ay, acs, Ty.dflt, zG, ao, reduceCtorEq, E, D, J, U, O, S, Try.td3, Dfa.av, Mly.av, List.getD_cons_zero]; (repeat refine And.intro (by first | omega | assumption | exact rfl) ?_); refine V _ ?_; clear V K0; simp only [put, app, aa, af, zE, zS, D])
   (refine aA rfl fun K0 V => ?_; simp only [zE, op1, ev, lkp, ah, ag, aE, aC, aD, ar, aB, aN, reduceCtorEq, E, D, J, U, O, S, Try.td3, Try.td4, Dfa.av, Mly.av, List.getD_cons_zero]; (repeat refine And.intro (by first | omega | assumption | exact rfl) ?_); refine V _ ?_; clear V K0; simp only [put, app, aa, af, zE, zS, D])
   (refine ad rfl fun K0 V => ?_; simp only [zE, op1, ev, lkp, ah, ag, bm, reduceCtorEq, E, D, J, U, O, S, Try.td4, Dfa.av, Mly.av, List.getD_cons_zero]; refine V _ ?_; clear V K0; simp only [put, app, aa, af, zE, zS, D])
   refine aj ?_
   refine ⟨by simp only [Y, lkp, zE, reduceCtorEq, E, Z, D]; exact rfl, rfl, ?_, rfl⟩; (repeat refine aV rfl ?_); exact bt (by exact rfl) hq13
  case b13 => exact bq (by first | rfl | (simp [bS]; done) | decide)
  simp only [bg, aX]
  (refine ad rfl fun K0 V => ?_; simp only [zE, op1, ev, lkp, ah, ag, ev, reduceCtorEq, E, D, J, U, O, S, Try.td4, Dfa.av, Mly.av, List.getD_cons_zero]; refine V _ ?_; clear V K0; simp only [put, app, aa, af, zE, zS, D])
  refine' aU (want := false) 6 rfl (m := 58) (by simp only [Y, lkp, zE, reduceCtorEq, E, Z, D]; exact rfl) (by kernel_rfl) rfl rfl rfl rfl rfl (fun hg14 => ?a14) ?b14 ?c14
  case a14 =>
   have hq14 := hg14; (try simp only [zB, reduceCtorEq] at hg14); simp only [List.take_succ_cons, List.take_zero, List.cons_append, List.nil_append]
   (refine aA rfl fun K0 V => ?_; simp only [zE, op1, ev, lkp, ah, ag, aw, reduceCtorEq, E, D, J, U, O, S, Try.st25, Try.td1, Try.td25, Dfa.av, Mly.av, List.getD_cons_zero]; (repeat refine And.intro (by first | omega | assumption | exact rfl) ?_); refine V _ ?_; clear V K0; simp only [put, app, aa, af, zE, zS, D])
   (refine aA rfl fun K0 V => ?_; simp only [zE, op1, ev, lkp, ah, ag, az, Nat.mul_one, ax, ay, acs, Ty.dflt, zG, ao, reduceCtorEq, E, D, J, U, O, S, Try.td3, Dfa.av, Mly.av, List.getD_cons_zero]; (repeat refine And.intro (by first | omega | assumption | exact rfl) ?_); refine V _ ?_; clear V K0; simp only [put, app, aa, af, zE, zS, D])
   (refine aA rfl fun K0 V => ?_; simp only [zE, op1, ev, lkp, ah, ag, aw, reduceCtorEq, E, D, J, U, O, S, Try.st25, Try.td25, Try.td3, Dfa.av, Mly.av, List.getD_cons_zero]; (repeat refine And.intro (by first | omega | assumption | exact rfl) ?_); refine V _ ?_; clear V K0; simp only [put, app, aa, af, zE, zS, D])
   (refine aA rfl fun K0 V => ?_; simp only [zE, op1, ev, lkp, ah, ag, az, Nat.mul_one, ax, ay, acs, Ty.dflt, zG, ao, reduceCtorEq, E, D, J, U, O, S, Try.el23, Try.td23, Dfa.av, Mly.av, List.getD_cons_zero]; (repeat refine And.intro (by first | omega | assumption | exact rfl) ?_); refine V _ ?_; clear V K0; simp only [put, app, aa, af, zE, zS, D])
   (refine aA rfl fun K0 V => ?_; simp only [zE, op1, ev, lkp, ah, ag, aH, bu, bb, aY, aZ, br, Nat.div_one, aM, b0, Ty.size, aL, dite_true, reduceCtorEq, E, D, J, U, O, S, Try.el23, Try.td23, Try.td3, Dfa.av, Mly.av, List.getD_cons_zero]; (repeat refine And.intro (by first | omega | assumption | exact rfl) ?_); (first | refine V _ ?_ | refine Or.inl (V _ ?_)); clear V K0; simp only [put, app, aa, af, zE, zS, D])
   (refine aA rfl fun K0 V => ?_; simp only [zE, op1, ev, lkp, ah, ag, aE, aC, aD, ar, aB, aN, reduceCtorEq, E, D, J, U, O, S, Try.td3, Try.td4, Dfa.av, Mly.av, List.getD_cons_zero]; (repeat refine And.intro (by first | omega | assumption | exact rfl) ?_); refine V _ ?_; clear V K0; simp only [put, app, aa, af, zE, zS, D])
   (refine ad rfl fun K0 V => ?_; simp only [zE, op1, ev, lkp, ah, ag, bm, reduceCtorEq, E, D, J, U, O, S, Try.td4, Dfa.av, Mly.av, List.getD_cons_zero]; refine V _ ?_; clear V K0; simp only [put, app, aa, af, zE, zS, D])
   refine aj ?_
   refine ⟨by simp only [Y, lkp, zE, reduceCtorEq, E, Z, D]; exact rfl, rfl, ?_, rfl⟩; (repeat refine aV rfl ?_); exact bt (by exact rfl) hq14
  case b14 => exact bq (by first | rfl | (simp [bS]; done) | decide)
  simp only [bg, aX]
  refine aj ?_
  refine hK11 _ ?_; clear hK11; refine ae [0, 1, 2, 4, 5, 6, 35, 65] ?_; simp only [Y, lkp, zE, reduceCtorEq, E, Z, D]
  refine aF (by simp only [ev, Y, lkp, zE, reduceCtorEq, E, Z, D]; exact rfl) (fun hc15 => ?_) (fun hc15 => ?_)
  · exfalso; (try simp only [zB, reduceCtorEq] at hc15); all_goals (first | (cases hc15; done) | omega | (simp at hc15; done) | (simp_all; done))
  ·(try simp only [zB, reduceCtorEq] at hc15)
   refine aK ?_
   refine hK10 _ ?_; clear hK10; refine ae [0, 1, 2, 4, 5, 6, 35, 65] ?_; simp only [Y, lkp, zE, reduceCtorEq, E, Z, D]
   refine ab fun K16 hK16 => ?_
   refine pE ?_; simp only [List.cons_append, List.append_assoc, List.nil_append]
   refine bY hP hN Try.mixed rfl ?_
   iterate 7 (refine ad rfl fun K0 V => ?_; simp only [zE, op1, ev, lkp, ah, ag, az, Nat.mul_one, ax, ay, acs, Ty.dflt, zG, ao, aw, aJ, Ty.size, ne_eq, not_false_eq_true, Int.natCast_one, Int.mul_one, reduceCtorEq, E, D, J, U, O, S, Try.el23, Try.st25, Try.st58, Try.td1, Try.td23, Try.td25, Try.td3, Try.td4, Try.td58, Dfa.av, Mly.av, List.getD_cons_zero]; (repeat refine And.intro (by first | omega | assumption | exact rfl) ?_); refine V _ ?_; clear V K0; simp only [put, app, aa, af, zE, zS, D])
   refine ad rfl fun K0 V => ?_
   refine aW (h := aG (mw (toM d) (d.ac d.st))) rfl rfl (by first | exact rfl | (simp only [ev, Y, lkp, zE, reduceCtorEq, E, Z, D]; exact rfl)) (by simp only [zE, zG, op1, ev, lkp, ah, ag, au, acs, ba, mv1, mvC, Ty.dflt, reduceCtorEq, E, D, J, U, O, S, Dfa.av, Mly.av, List.getD_cons_zero, Dfa.ac]) ?_
   refine V _ ?_; clear V K0; simp only [put, app, aa, af, zE, zS, D]
   iterate 3 (refine ad rfl fun K0 V => ?_; simp only [zE, op1, ev, lkp, ah, ag, bI, reduceCtorEq, E, D, J, U, O, S, Try.st25, Try.td1, Try.td25, Try.td29, Dfa.av, Mly.av, List.getD_cons_zero]; refine V _ ?_; clear V K0; simp only [put, app, aa, af, zE, zS, D])
   (refine ad rfl fun K0 V => ?_; simp only [zE, op1, ev, lkp, ah, ag, bQ, reduceCtorEq, E, D, J, U, O, S, Try.st25, Try.td25, Dfa.av, Mly.av, List.getD_cons_zero]; refine Or.inr (Or.inl ⟨2, ?_, (.pair (.int .i64) (.pair (.int .i64) (.pair (.list (.list (.int .i64))) (.pair (.list .bool) .unit)))), (0, (0, ([], ([], ())))), ?_⟩); (exact rfl); (repeat refine And.intro (by first | rfl | decide) ?_); refine V _ ?_; clear V K0; simp only [put, app, aa, af, zE, zS, D])
   iterate 2 (refine ad rfl fun K0 V => ?_; simp only [zE, op1, ev, lkp, ah, ag, bj, Nat.mul_one, au, aQ, aL, acs, Ty.size, Ty.dflt, zG, reduceCtorEq, E, D, J, U, O, S, Try.st25, Try.td25, Try.td29, Dfa.av, Mly.av, List.getD_cons_zero]; (repeat refine And.intro (by first | omega | assumption | exact rfl) ?_); refine V _ ?_; clear V K0; simp only [put, app, aa, af, zE, zS, D])
   refine aj ?_
   refine ⟨by kernel_rfl, ?_⟩
   refine hK16 _ ?_; clear hK16; refine ae [0, 1, 2, 4, 5, 6, 7, 8, 35, 65] ?_; simp only [Y, lkp, zE, reduceCtorEq, E, Z, D]
   refine ab fun K17 hK17 => ?_
   refine ai hP hN rfl ?_
   iterate 2 (refine ad rfl fun K0 V => ?_; simp only [zE, op1, ev, lkp, ah, ag, az, Nat.mul_one, ax, ay, acs, Ty.dflt, zG, ao, reduceCtorEq, E, D, J, U, O, S, Try.st25, Try.td25, Dfa.av, Mly.av, List.getD_cons_zero]; (repeat refine And.intro (by first | omega | assumption | exact rfl) ?_); refine V _ ?_; clear V K0; simp only [put, app, aa, af, zE, zS, D])
   refine ad rfl fun K0 V => ?_
   refine aW (h := aG (jE (fmD (toM d) (d.ac d.st)) d)) rfl rfl (by first | exact rfl | (simp only [ev, Y, lkp, zE, reduceCtorEq, E, Z, D]; exact rfl)) (by simp only [zE, zG, op1, ev, lkp, ah, ag, au, acs, ba, mv1, mvC, Ty.dflt, reduceCtorEq, E, D, J, U, O, S, Dfa.av, Mly.av, List.getD_cons_zero]) ?_
   refine V _ ?_; clear V K0; simp only [put, app, aa, af, zE, zS, D]
   iterate 7 (refine ad rfl fun K0 V => ?_; simp only [zE, op1, ev, lkp, ah, ag, bI, reduceCtorEq, E, D, J, U, O, S, Try.el26, Try.td1, Try.td2, Try.td26, Try.td29, Try.td4, Dfa.av, Mly.av, List.getD_cons_zero]; refine V _ ?_; clear V K0; simp only [put, app, aa, af, zE, zS, D])
   refine aj ?_
   refine hK17 _ ?_; clear hK17; refine ae [0, 1, 2, 4, 5, 6, 7, 8, 10, 11, 35, 65] ?_; simp only [Y, lkp, zE, reduceCtorEq, E, Z, D]
   refine ab fun K18 hK18 => ?_
   refine ab fun K19 hK19 => ?_
   refine ai hP hN rfl ?_
   iterate 2 (refine ad rfl fun K0 V => ?_; simp only [zE, op1, ev, lkp, ah, ag, aE, aC, aD, ar, aB, aN, reduceCtorEq, E, D, J, U, O, S, Try.td29, Try.td4, Dfa.av, Mly.av, List.getD_cons_zero]; (repeat refine And.intro (by first | omega | assumption | exact rfl) ?_); refine V _ ?_; clear V K0; simp only [put, app, aa, af, zE, zS, D])
   (refine ad rfl fun K0 V => ?_; simp only [zE, op1, ev, lkp, ah, ag, ev, reduceCtorEq, E, D, J, U, O, S, Try.td4, Dfa.av, Mly.av, List.getD_cons_zero]; refine V _ ?_; clear V K0; simp only [put, app, aa, af, zE, zS, D])
   refine' aU (want := false) 1 rfl (m := 86) (by simp only [Y, lkp, zE, reduceCtorEq, E, Z, D]; exact rfl) (by kernel_rfl) rfl rfl rfl rfl rfl (fun hg20 => ?a20) ?b20 ?c20
   case a20 =>
    have hq20 := hg20; (try simp only [zB, reduceCtorEq] at hg20); simp only [List.take_succ_cons, List.take_zero, List.cons_append, List.nil_append]
    (refine aA rfl fun K0 V => ?_; simp only [zE, op1, ev, lkp, ah, ag, ev, reduceCtorEq, E, D, J, U, O, S, Try.td4, Dfa.av, Mly.av, List.getD_cons_zero]; refine V _ ?_; clear V K0; simp only [put, app, aa, af, zE, zS, D])
    (refine ad rfl fun K0 V => ?_; simp only [zE, op1, ev, lkp, ah, ag, bm, reduceCtorEq, E, D, J, U, O, S, Try.td4, Dfa.av, Mly.av, List.getD_cons_zero]; refine V _ ?_; clear V K0; simp only [put, app, aa, af, zE, zS, D])
    refine aj ?_
    refine ⟨by simp only [Y, lkp, zE, reduceCtorEq, E, Z, D]; exact rfl, rfl, ?_, rfl⟩; (repeat refine aV rfl ?_); exact bt (by exact rfl) hq20
   case b20 => exact bq (by first | rfl | (simp [bS]; done) | decide)
   simp only [bg, aX]
   (refine ad rfl fun K0 V => ?_; simp only [zE, op1, ev, lkp, ah, ag, ev, reduceCtorEq, E, D, J, U, O, S, Try.td4, Dfa.av, Mly.av, List.getD_cons_zero]; refine V _ ?_; clear V K0; simp only [put, app, aa, af, zE, zS, D])
   refine' aU (want := false) 2 rfl (m := 89) (by simp only [Y, lkp, zE, reduceCtorEq, E, Z, D]; exact rfl) (by kernel_rfl) rfl rfl rfl rfl rfl (fun hg21 => ?a21) ?b21 ?c21
   case a21 =>
    have hq21 := hg21; (try simp only [zB, reduceCtorEq] at hg21); simp only [List.take_succ_cons, List.take_zero, List.cons_append, List.nil_append]
    (refine aA rfl fun K0 V => ?_; simp only [zE, op1, ev, lkp, ah, ag, ev, reduceCtorEq, E, D, J, U, O, S, Try.td29, Dfa.av, Mly.av, List.getD_cons_zero]; refine V _ ?_; clear V K0; simp only [put, app, aa, af, zE, zS, D])
    (refine aA rfl fun K0 V => ?_; simp only [zE, op1, ev, lkp, ah, ag, aE, aC, aD, ar, aB, aN, reduceCtorEq, E, D, J, U, O, S, Try.td29, Try.td4, Dfa.av, Mly.av, List.getD_cons_zero]; (repeat refine And.intro (by first | omega | assumption | exact rfl) ?_); refine V _ ?_; clear V K0; simp only [put, app, aa, af, zE, zS, D])
    (refine ad rfl fun K0 V => ?_; simp only [zE, op1, ev, lkp, ah, ag, bm, reduceCtorEq, E, D, J, U, O, S, Try.td4, Dfa.av, Mly.av, List.getD_cons_zero]; refine V _ ?_; clear V K0; simp only [put, app, aa, af, zE, zS, D])
    refine aj ?_
    refine ⟨by simp only [Y, lkp, zE, reduceCtorEq, E, Z, D]; exact rfl, rfl, ?_, rfl⟩; (repeat refine aV rfl ?_); exact bt (by exact rfl) hq21
   case b21 => exact bq (by first | rfl | (simp [bS]; done) | decide)
   simp only [bg, aX]
   refine aj ?_
   refine hK19 _ ?_; clear hK19; refine ae [0, 1, 2, 4, 5, 6, 7, 8, 10, 11, 35, 65, 92] ?_; simp only [Y, lkp, zE, reduceCtorEq, E, Z, D]
   refine aF (by simp only [ev, Y, lkp, zE, reduceCtorEq, E, Z, D]; exact rfl) (fun hc22 => ?_) (fun hc22 => ?_)
   ·exfalso; (try simp only [zB, reduceCtorEq] at hc22)
    simp [hfe, hnd, htw] at hc22
   ·(try simp only [zB, reduceCtorEq] at hc22)
    refine aK ?_
    refine hK18 _ ?_; clear hK18; refine ae [0, 1, 2, 4, 5, 6, 7, 8, 10, 11, 35, 65, 92] ?_; simp only [Y, lkp, zE, reduceCtorEq, E, Z, D]
    refine ab fun K23 hK23 => ?_
    refine ai hP hN rfl ?_
    iterate 2 (refine ad rfl fun K0 V => ?_; simp only [zE, op1, ev, lkp, ah, ag, az, Nat.mul_one, ax, ay, acs, Ty.dflt, zG, ao, reduceCtorEq, E, D, J, U, O, S, Try.el26, Try.st58, Try.td26, Try.td58, Dfa.av, Mly.av, List.getD_cons_zero]; (repeat refine And.intro (by first | omega | assumption | exact rfl) ?_); refine V _ ?_; clear V K0; simp only [put, app, aa, af, zE, zS, D])
    refine ad rfl fun K0 V => ?_
    refine aW (h := aG (sv (toM d) w)) rfl rfl (by first | exact rfl | (simp only [ev, Y, lkp, zE, reduceCtorEq, E, Z, D]; exact rfl)) (by simp only [zE, zG, op1, ev, lkp, ah, ag, au, acs, ba, mv1, mvC, Ty.dflt, reduceCtorEq, E, D, J, U, O, S, Dfa.av, Mly.av, List.getD_cons_zero]) ?_
    refine V _ ?_; clear V K0; simp only [put, app, aa, af, zE, zS, D]
    iterate 5 (refine ad rfl fun K0 V => ?_; simp only [zE, op1, ev, lkp, ah, ag, bI, reduceCtorEq, E, D, J, U, O, S, Try.el26, Try.td1, Try.td26, Try.td3, Dfa.av, Mly.av, List.getD_cons_zero]; refine V _ ?_; clear V K0; simp only [put, app, aa, af, zE, zS, D])
    refine aj ?_
    refine hK23 _ ?_; clear hK23; refine ae [0, 1, 2, 4, 5, 6, 7, 8, 10, 11, 12, 13, 35, 65, 92] ?_; simp only [Y, lkp, zE, reduceCtorEq, E, Z, D]
    refine ab fun K24 hK24 => ?_
    refine ab fun K25 hK25 => ?_
    refine ai hP hN rfl ?_
    iterate 2 (refine ad rfl fun K0 V => ?_; simp only [zE, op1, ev, lkp, ah, ag, aE, aC, aD, ar, aB, aN, reduceCtorEq, E, D, J, U, O, S, Try.td3, Try.td4, Dfa.av, Mly.av, List.getD_cons_zero]; (repeat refine And.intro (by first | omega | assumption | exact rfl) ?_); refine V _ ?_; clear V K0; simp only [put, app, aa, af, zE, zS, D])
    (refine ad rfl fun K0 V => ?_; simp only [zE, op1, ev, lkp, ah, ag, ev, reduceCtorEq, E, D, J, U, O, S, Try.td4, Dfa.av, Mly.av, List.getD_cons_zero]; refine V _ ?_; clear V K0; simp only [put, app, aa, af, zE, zS, D])
    refine' aU (want := false) 5 rfl (m := 101) (by simp only [Y, lkp, zE, reduceCtorEq, E, Z, D]; exact rfl) (by kernel_rfl) rfl rfl rfl rfl rfl (fun hg26 => ?a26) ?b26 ?c26
    case a26 =>
     have hq26 := hg26; (try simp only [zB, reduceCtorEq] at hg26); simp only [List.take_succ_cons, List.take_zero, List.cons_append, List.nil_append]
     (refine aA rfl fun K0 V => ?_; simp only [zE, op1, ev, lkp, ah, ag, ev, reduceCtorEq, E, D, J, U, O, S, Try.el26, Try.td26, Dfa.av, Mly.av, List.getD_cons_zero]; refine V _ ?_; clear V K0; simp only [put, app, aa, af, zE, zS, D])
     (refine aA rfl fun K0 V => ?_; simp only [zE, op1, ev, lkp, ah, ag, aH, bu, bb, aY, aZ, br, Nat.div_one, aM, b0, Ty.size, aL, dite_true, reduceCtorEq, E, D, J, U, O, S, Try.el26, Try.td26, Try.td3, Dfa.av, Mly.av, List.getD_cons_zero]; (repeat refine And.intro (by first | omega | assumption | exact rfl) ?_); (first | refine V _ ?_ | refine Or.inl (V _ ?_)); clear V K0; simp only [put, app, aa, af, zE, zS, D])
     (refine aA rfl fun K0 V => ?_; simp only [zE, op1, ev, lkp, ah, ag, ev, reduceCtorEq, E, D, J, U, O, S, Try.el26, Try.td26, Dfa.av, Mly.av, List.getD_cons_zero]; refine V _ ?_; clear V K0; simp only [put, app, aa, af, zE, zS, D])
     (refine aA rfl fun K0 V => ?_; simp only [zE, op1, ev, lkp, ah, ag, aH, bu, bb, aY, aZ, br, Nat.div_one, aM, b0, Ty.size, aL, dite_true, reduceCtorEq, E, D, J, U, O, S, Try.el26, Try.td26, Try.td3, Dfa.av, Mly.av, List.getD_cons_zero]; (repeat refine And.intro (by first | omega | assumption | exact rfl) ?_); (first | refine V _ ?_ | refine Or.inl (V _ ?_)); clear V K0; simp only [put, app, aa, af, zE, zS, D])
     (refine aA rfl fun K0 V => ?_; simp only [zE, op1, ev, lkp, ah, ag, aE, aC, aD, ar, aB, aN, reduceCtorEq, E, D, J, U, O, S, Try.td3, Try.td4, Dfa.av, Mly.av, List.getD_cons_zero]; (repeat refine And.intro (by first | omega | assumption | exact rfl) ?_); refine V _ ?_; clear V K0; simp only [put, app, aa, af, zE, zS, D])
     (refine ad rfl fun K0 V => ?_; simp only [zE, op1, ev, lkp, ah, ag, bm, reduceCtorEq, E, D, J, U, O, S, Try.td4, Dfa.av, Mly.av, List.getD_cons_zero]; refine V _ ?_; clear V K0; simp only [put, app, aa, af, zE, zS, D])
     refine aj ?_
     refine ⟨by simp only [Y, lkp, zE, reduceCtorEq, E, Z, D]; exact rfl, rfl, ?_, rfl⟩; (repeat refine aV rfl ?_); exact bt (by exact rfl) hq26
    case b26 => exact bq (by first | rfl | (simp [bS]; done) | decide)
    simp only [bg, aX]
    refine aj ?_
    refine hK25 _ ?_; clear hK25; refine ae [0, 1, 2, 4, 5, 6, 7, 8, 10, 11, 12, 13, 35, 65, 92, 107] ?_; simp only [Y, lkp, zE, reduceCtorEq, E, Z, D]
    refine aF (by simp only [ev, Y, lkp, zE, reduceCtorEq, E, Z, D]; exact rfl) (fun hc27 => ?_) (fun hc27 => ?_)
    ·exfalso; (try simp only [zB, reduceCtorEq] at hc27)
     simp [hFE, hFL] at hc27
    ·(try simp only [zB, reduceCtorEq] at hc27)
     refine aK ?_
     refine hK24 _ ?_; clear hK24; refine ae [0, 1, 2, 4, 5, 6, 7, 8, 10, 11, 12, 13, 35, 65, 92, 107] ?_; simp only [Y, lkp, zE, reduceCtorEq, E, Z, D]
     refine ab fun K28 hK28 => ?_
     refine ab fun K29 hK29 => ?_
     refine ai hP hN rfl ?_
     (refine ad rfl fun K0 V => ?_; simp only [zE, op1, ev, lkp, ah, ag, ev, reduceCtorEq, E, D, J, U, O, S, Try.td3, Dfa.av, Mly.av, List.getD_cons_zero]; refine V _ ?_; clear V K0; simp only [put, app, aa, af, zE, zS, D])
     refine aj ?_
     refine hK29 _ ?_; clear hK29; refine ae [0, 1, 2, 4, 5, 6, 7, 8, 10, 11, 12, 13, 14, 35, 65, 92, 107] ?_; simp only [Y, lkp, zE, reduceCtorEq, E, Z, D]
     refine aP ?_
     refine bG (fun n30 s30 => ∃ (k : Nat), (k ≤ w.length) ∧ n30 = w.length - k ∧ s30 = { env := [(1, .one (.list (.int .i64) w)), (2, .one (.ptr 0 0 0 0)), (4, .one (.bool false)), (12, .one (.list (.int .i64) (ci (toM d) (toM d).st w))), (14, .one (.int .i64 (k : Int)))], L := [.vars 25 [.int .i64 d.inp, .int .i64 d.st, .list (.list (.int .i64)) d.nx, .list .bool d.acc], .vars 58 [.int .i64 (toM d).inp, .int .i64 (toM d).st, .list (.list (.int .i64)) (toM d).nx, .list (.list (.int .i64)) (toM d).ot], .row (.pair (.int .i64) (.pair (.int .i64) (.pair (.list (.list (.int .i64))) (.pair (.list .bool) .unit)))) 25 1 [((fmD (toM d) (d.ac d.st)).inp, ((fmD (toM d) (d.ac d.st)).st, ((fmD (toM d) (d.ac d.st)).nx, ((fmD (toM d) (d.ac d.st)).acc, ()))))]] }) ?_ ?_
     ·exact ⟨_, _, aO [1, 2, 4, 12, 14], 0, Nat.zero_le _, rfl, rfl⟩
     ·rintro n30 s30 ⟨k, hk, rfl, rfl⟩
      refine ab fun K31 hK31 => ?_
      refine ab fun K32 hK32 => ?_
      refine ai hP hN rfl ?_
      iterate 4 (refine ad rfl fun K0 V => ?_; simp only [zE, op1, ev, lkp, ah, ag, aH, bu, bb, aY, aZ, br, Nat.div_one, aM, b0, Ty.size, aL, dite_true, aE, aC, aD, ar, aB, aN, reduceCtorEq, E, D, J, U, O, S, Try.el26, Try.td26, Try.td3, Try.td4, Dfa.av, Mly.av, List.getD_cons_zero]; (repeat refine And.intro (by first | omega | assumption | exact rfl) ?_); (first | refine V _ ?_ | refine Or.inl (V _ ?_)); clear V K0; simp only [put, app, aa, af, zE, zS, D])
      refine aj ?_
      refine hK32 _ ?_; clear hK32; refine ae [1, 2, 4, 12, 14, 111] ?_; simp only [Y, lkp, zE, reduceCtorEq, E, Z, D]
      refine aF (by simp only [ev, Y, lkp, zE, reduceCtorEq, E, Z, D]; exact rfl) (fun hc33 => ?_) (fun hc33 => ?_)
      ·(try simp only [zB, reduceCtorEq] at hc33)
       refine aK ?_
       refine hK31 _ ?_; clear hK31; refine ae [1, 2, 4, 12, 14, 111] ?_; simp only [Y, lkp, zE, reduceCtorEq, E, Z, D]
       refine ab fun K34 hK34 => ?_
       refine aP ?_
       refine ab fun K35 hK35 => ?_
       have hto : ((k : Int) + 1).toNat = k + 1 := by omega
       have hkw : k < w.length := by omega
       have hws := kE hwe
       have hwl : w.length ≤ 1024 := (jq hwe).len
       have hts : d6 d.inp (w.take (k + 1)) := fun x hx => hws x (List.mem_of_mem_take hx)
       have hwt := kD ⟨a1, a2⟩ hts (by rw [List.length_take]; omega)
       obtain ⟨hA1, hA2⟩ := rW hd hwt
       have hB9 : decide ((ci (toM d) (toM d).st w).getD k 0 = 1) = acV d (w.take (k + 1)) := by
         rw [hFV, oI hM hd w d.st ⟨s1, s2⟩ hws k hkw, hA1]
         cases d.ac (d.run d.st (w.take (k + 1))) <;> rfl
       refine bY hP hN Try.mixed rfl ?_
       iterate 5 (refine ad rfl fun K0 V => ?_; simp only [zE, op1, ev, lkp, ah, ag, az, Nat.mul_one, ax, ay, acs, Ty.dflt, zG, ao, aE, aC, aD, ar, aB, aN, fW, bnd, Ty.size, reduceCtorEq, E, D, J, U, O, S, Try.el26, Try.st25, Try.td25, Try.td26, Try.td3, Dfa.av, Mly.av, List.getD_cons_zero]; (repeat refine And.intro (by first | omega | assumption | exact rfl) ?_); (first | refine V _ ?_ | refine Or.inl (V _ ?_)); clear V K0; simp only [put, app, aa, af, zE, zS, D])
       refine ad rfl fun K0 V => ?_
       refine aW (h := aG (j7 d (w.take (k + 1)))) rfl rfl (by first | exact rfl | (simp only [ev, Y, lkp, zE, reduceCtorEq, E, Z, D]; exact rfl)) (by simp only [zE, zG, op1, ev, lkp, ah, ag, au, acs, ba, mv1, mvC, Ty.dflt, reduceCtorEq, E, D, J, U, O, S, Dfa.av, Mly.av, List.getD_cons_zero, hto, List.drop_zero, Int.toNat_zero]) ?_
       refine V _ ?_; clear V K0; simp only [put, app, aa, af, zE, zS, D]
       iterate 5 (refine ad rfl fun K0 V => ?_; simp only [zE, op1, ev, lkp, ah, ag, bI, reduceCtorEq, E, D, J, U, O, S, Try.td1, Try.td29, Try.td4, Dfa.av, Mly.av, List.getD_cons_zero]; refine V _ ?_; clear V K0; simp only [put, app, aa, af, zE, zS, D])
       refine aj ?_
       refine ⟨by kernel_rfl, ?_⟩
       refine hK35 _ ?_; clear hK35; refine ae [1, 2, 4, 12, 14, 15, 16, 111] ?_; simp only [Y, lkp, zE, reduceCtorEq, E, Z, D]
       refine ab fun K36 hK36 => ?_
       refine ai hP hN rfl ?_
       iterate 2 (refine ad rfl fun K0 V => ?_; simp only [zE, op1, ev, lkp, ah, ag, aE, aC, aD, ar, aB, aN, reduceCtorEq, E, D, J, U, O, S, Try.td29, Try.td4, Dfa.av, Mly.av, List.getD_cons_zero]; (repeat refine And.intro (by first | omega | assumption | exact rfl) ?_); refine V _ ?_; clear V K0; simp only [put, app, aa, af, zE, zS, D])
       (refine ad rfl fun K0 V => ?_; simp only [zE, op1, ev, lkp, ah, ag, ev, reduceCtorEq, E, D, J, U, O, S, Try.td4, Dfa.av, Mly.av, List.getD_cons_zero]; refine V _ ?_; clear V K0; simp only [put, app, aa, af, zE, zS, D])
       refine' aU (want := false) 7 rfl (m := 125) (by simp only [Y, lkp, zE, reduceCtorEq, E, Z, D]; exact rfl) (by kernel_rfl) rfl rfl rfl rfl rfl (fun hg37 => ?a37) ?b37 ?c37
       case a37 =>
        have hq37 := hg37; (try simp only [zB, reduceCtorEq] at hg37); simp only [List.take_succ_cons, List.take_zero, List.cons_append, List.nil_append]
        (refine aA rfl fun K0 V => ?_; simp only [zE, op1, ev, lkp, ah, ag, ev, reduceCtorEq, E, D, J, U, O, S, Try.el26, Try.td26, Dfa.av, Mly.av, List.getD_cons_zero]; refine V _ ?_; clear V K0; simp only [put, app, aa, af, zE, zS, D])
        (refine aA rfl fun K0 V => ?_; simp only [zE, op1, ev, lkp, ah, ag, ev, reduceCtorEq, E, D, J, U, O, S, Try.td3, Dfa.av, Mly.av, List.getD_cons_zero]; refine V _ ?_; clear V K0; simp only [put, app, aa, af, zE, zS, D])
        (refine aA rfl fun K0 V => ?_; simp only [zE, op1, ev, lkp, ah, ag, aJ, zG, Ty.dflt, Ty.size, Nat.mul_one, ne_eq, not_false_eq_true, Int.natCast_one, Int.mul_one, reduceCtorEq, E, D, J, U, O, S, Try.el26, Try.td26, Dfa.av, Mly.av, List.getD_cons_zero]; (repeat refine And.intro (by first | omega | assumption | exact rfl) ?_); refine V _ ?_; clear V K0; simp only [put, app, aa, af, zE, zS, D])
        (refine aA rfl fun K0 V => ?_; simp only [zE, op1, ev, lkp, ah, ag, az, Nat.mul_one, ax, ay, acs, Ty.dflt, zG, ao, reduceCtorEq, E, D, J, U, O, S, Try.td3, Dfa.av, Mly.av, List.getD_cons_zero]; (repeat refine And.intro (by first | omega | assumption | exact rfl) ?_); refine V _ ?_; clear V K0; simp only [put, app, aa, af, zE, zS, D])
        (refine aA rfl fun K0 V => ?_; simp only [zE, op1, ev, lkp, ah, ag, aE, aC, aD, ar, aB, aN, reduceCtorEq, E, D, J, U, O, S, Try.td3, Try.td4, Dfa.av, Mly.av, List.getD_cons_zero]; (repeat refine And.intro (by first | omega | assumption | exact rfl) ?_); refine V _ ?_; clear V K0; simp only [put, app, aa, af, zE, zS, D])
        (refine aA rfl fun K0 V => ?_; simp only [zE, op1, ev, lkp, ah, ag, ev, reduceCtorEq, E, D, J, U, O, S, Try.td4, Dfa.av, Mly.av, List.getD_cons_zero]; refine V _ ?_; clear V K0; simp only [put, app, aa, af, zE, zS, D])
        (refine aA rfl fun K0 V => ?_; simp only [zE, op1, ev, lkp, ah, ag, aE, aC, aD, ar, aB, aN, reduceCtorEq, E, D, J, U, O, S, Try.td4, Dfa.av, Mly.av, List.getD_cons_zero]; (repeat refine And.intro (by first | omega | assumption | exact rfl) ?_); refine V _ ?_; clear V K0; simp only [put, app, aa, af, zE, zS, D])
        (refine ad rfl fun K0 V => ?_; simp only [zE, op1, ev, lkp, ah, ag, bm, reduceCtorEq, E, D, J, U, O, S, Try.td4, Dfa.av, Mly.av, List.getD_cons_zero]; refine V _ ?_; clear V K0; simp only [put, app, aa, af, zE, zS, D])
        refine aj ?_
        refine ⟨by simp only [Y, lkp, zE, reduceCtorEq, E, Z, D]; exact rfl, rfl, ?_, rfl⟩; (repeat refine aV rfl ?_); exact bt (by exact rfl) hq37
       case b37 => exact bq (by first | rfl | (simp [bS]; done) | decide)
       simp only [bg, aX]
       refine aj ?_
       refine hK36 _ ?_; clear hK36; refine ae [1, 2, 4, 12, 14, 15, 16, 111, 133] ?_; simp only [Y, lkp, zE, reduceCtorEq, E, Z, D]
       refine aF (by simp only [ev, Y, lkp, zE, reduceCtorEq, E, Z, D]; exact rfl) (fun hc38 => ?_) (fun hc38 => ?_)
       ·exfalso; (try simp only [zB, reduceCtorEq] at hc38)
        rcases hc38 with h9 | h9
        · exact h9 hA2
        · exact h9 hB9
       ·(try simp only [zB, reduceCtorEq] at hc38)
        refine aK ?_
        refine hK34 _ ?_; clear hK34; refine ae [1, 2, 4, 12, 14, 15, 16, 111, 133] ?_; simp only [Y, lkp, zE, reduceCtorEq, E, Z, D]
        refine ai hP hN rfl ?_
        iterate 3 (refine ad rfl fun K0 V => ?_; simp only [zE, op1, ev, lkp, ah, ag, aE, aC, aD, ar, aB, aN, reduceCtorEq, E, D, J, U, O, S, Try.td3, Dfa.av, Mly.av, List.getD_cons_zero]; (repeat refine And.intro (by first | omega | assumption | exact rfl) ?_); refine V _ ?_; clear V K0; simp only [put, app, aa, af, zE, zS, D])
        refine aj ?_
        refine ⟨_, _, ?_, aO [1, 2, 4, 12, 14], k + 1, by omega, rfl, rfl⟩
        omega
      ·(try simp only [zB, reduceCtorEq] at hc33)
       refine bD ?_
       refine hK28 _ ?_; clear hK28; refine ae [1, 2, 4, 12, 14, 111] ?_; simp only [Y, lkp, zE, reduceCtorEq, E, Z, D]
       refine ab fun K39 hK39 => ?_
       refine ai hP hN rfl ?_
       refine ad rfl fun K0 V => ?_
       refine aW (h := aG jZ) rfl rfl (by first | exact rfl | (simp only [ev, Y, lkp, zE, reduceCtorEq, E, Z, D]; exact rfl)) (by simp only [zE, zG, op1, ev, lkp, ah, ag, au, acs, ba, mv1, mvC, Ty.dflt, reduceCtorEq, E, D, J, U, O, S, Dfa.av, Mly.av, List.getD_cons_zero]) ?_
       refine V _ ?_; clear V K0; simp only [put, app, aa, af, zE, zS, D]
       (refine ad rfl fun K0 V => ?_; simp only [zE, op1, ev, lkp, ah, ag, ev, reduceCtorEq, E, D, J, U, O, S, Try.td4, Dfa.av, Mly.av, List.getD_cons_zero]; refine V _ ?_; clear V K0; simp only [put, app, aa, af, zE, zS, D])
       refine aj ?_
       refine hK39 _ ?_; clear hK39; refine ae [1, 2, 4, 12, 14, 111] ?_; simp only [Y, lkp, zE, reduceCtorEq, E, Z, D]
       refine aI ?_
       refine ⟨by first | exact .inl rfl | exact .inr rfl, _, rfl, ?_⟩; simp only [fzV, fz1, fzC, List.map_cons, List.map_nil, Y, lkp, zE, reduceCtorEq, E, Z, D, Dfa.av, Mly.av, List.getD_cons_zero]
       refine VLE.of_eq ?_
       rfl
end Go.Proofs.Ytdkgcbhbpdbmnaa
