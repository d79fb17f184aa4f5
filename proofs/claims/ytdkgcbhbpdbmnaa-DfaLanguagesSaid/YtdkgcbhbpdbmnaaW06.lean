/- Contracts of functions of this seat, each out of a walk through its code, and plain facts on what they compute. Conditions: those that each theorem names. -/
import Derived.Test.YtdkgcbhbpdbmnaaW05
set_option linter.unusedSimpArgs false
set_option linter.unusedVariables false
namespace Go.Proofs.Ytdkgcbhbpdbmnaa
open Go Go.AV
open Nat renaming reduceEqDiff → E, reduceAdd → D, reduceLeDiff → J, reduceLT → U, reduceMul → O, reduceSub → S
open List renaming set_cons_zero → ar, set_cons_succ → ao
set_option maxRecDepth 100000 in
set_option maxHeartbeats 3000000 in
theorem sQ (a b : Dfa) (w : List Int) : bE Try.prog 7 [a.av, b.av, .one (.list (.int .i64) w)] (.one (.bool true)) := by
 refine aV Try.func7 rfl (by kernel_rfl) (Nat.le_of_ble_eq_true rfl) rfl fun C hP hN hB => ?_
 replace hN : C.N = 232 := hN
 simp only [Z, D]
 refine ep 2 rfl fun hf2 => ?_; simp only [lkp, if_true, if_false, reduceCtorEq, E, eq_self, Nat.one_ne_zero, Nat.zero_ne_one, gF, g8, gg, Fit, and_true, implies_true, true_and] at hf2
 refine ad fun K1 hK1 => ?_
 refine ai hP hN rfl ?_
 iterate 3 (refine ab rfl fun K0 V => ?_; simp only [zE, op1, ev, lkp, ah, ag, cd, aq, reduceCtorEq, E, D, J, U, O, S, Try.st25, Try.td25, Try.td4, Dfa.av]; (repeat refine And.intro (by first | omega | assumption | exact rfl) ?_); refine V _ ?_; clear V K0; simp only [put, app, aa, af, zE, zS, D])
 refine aj ?_
 refine hK1 _ ?_; clear hK1; refine ae [0, 1, 2, 3, 4, 6] ?_; simp only [Y, lkp, zE, reduceCtorEq, E, Z, D]
 refine ad fun K2 hK2 => ?_
 refine ad fun K3 hK3 => ?_
 refine ai hP hN rfl ?_
 (refine ab rfl fun K0 V => ?_; simp only [zE, op1, ev, lkp, ah, ag, aA, Nat.mul_one, aw, az, acs, Ty.dflt, zG, au, reduceCtorEq, E, D, J, U, O, S, Try.st25, Try.td25, Dfa.av]; (repeat refine And.intro (by first | omega | assumption | exact rfl) ?_); refine V _ ?_; clear V K0; simp only [put, app, aa, af, zE, zS, D])
 refine ab rfl fun K0 V => ?_
 refine aU (h := aF (kR a)) rfl rfl (by first | exact rfl | (simp only [ev, Y, lkp, zE, reduceCtorEq, E, Z, D]; exact rfl)) (by simp only [zE, zG, op1, ev, lkp, ah, ag, aq, acs, aY, mv1, mvC, Ty.dflt, reduceCtorEq, E, D, J, U, O, S, Dfa.av]) ?_
 refine V _ ?_; clear V K0; simp only [put, app, aa, af, zE, zS, D]
 (refine ab rfl fun K0 V => ?_; simp only [zE, op1, ev, lkp, ah, ag, ev, reduceCtorEq, E, D, J, U, O, S, Try.td4, Dfa.av]; refine V _ ?_; clear V K0; simp only [put, app, aa, af, zE, zS, D])
 refine' aP (want := false) 2 rfl (m := 32) (by simp only [Y, lkp, zE, reduceCtorEq, E, Z, D]; exact rfl) (by kernel_rfl) rfl rfl rfl rfl rfl (fun hg4 => ?a4) ?b4 ?c4
 case a4 =>
  have hq4 := hg4; (try simp only [zB, reduceCtorEq] at hg4); simp only [List.take_succ_cons, List.take_zero, List.cons_append, List.nil_append]
  (refine ax rfl fun K0 V => ?_; simp only [zE, op1, ev, lkp, ah, ag, aA, Nat.mul_one, aw, az, acs, Ty.dflt, zG, au, reduceCtorEq, E, D, J, U, O, S, Try.st25, Try.td25, Dfa.av]; (repeat refine And.intro (by first | omega | assumption | exact rfl) ?_); refine V _ ?_; clear V K0; simp only [put, app, aa, af, zE, zS, D])
  refine ax rfl fun K0 V => ?_
  refine aU (h := aF (kR b)) rfl rfl (by first | exact rfl | (simp only [ev, Y, lkp, zE, reduceCtorEq, E, Z, D]; exact rfl)) (by simp only [zE, zG, op1, ev, lkp, ah, ag, aq, acs, aY, mv1, mvC, Ty.dflt, reduceCtorEq, E, D, J, U, O, S, Dfa.av]) ?_
  refine V _ ?_; clear V K0; simp only [put, app, aa, af, zE, zS, D]
  (refine ab rfl fun K0 V => ?_; simp only [zE, op1, ev, lkp, ah, ag, aZ, reduceCtorEq, E, D, J, U, O, S, Try.td4, Dfa.av]; refine V _ ?_; clear V K0; simp only [put, app, aa, af, zE, zS, D])
  refine aj ?_
  refine ⟨by simp only [Y, lkp, zE, reduceCtorEq, E, Z, D]; exact rfl, rfl, ?_, rfl⟩; (repeat refine aQ rfl ?_); exact bb (by exact rfl) hq4
 case b4 => exact b0 (by first | rfl | (simp [bD]; done) | decide)
 simp only [aW, aT]
 (refine ab rfl fun K0 V => ?_; simp only [zE, op1, ev, lkp, ah, ag, ev, reduceCtorEq, E, D, J, U, O, S, Try.td4, Dfa.av]; refine V _ ?_; clear V K0; simp only [put, app, aa, af, zE, zS, D])
 refine' aP (want := false) 3 rfl (m := 36) (by simp only [Y, lkp, zE, reduceCtorEq, E, Z, D]; exact rfl) (by kernel_rfl) rfl rfl rfl rfl rfl (fun hg5 => ?a5) ?b5 ?c5
 case a5 =>
  have hq5 := hg5; (try simp only [zB, reduceCtorEq] at hg5); simp only [List.take_succ_cons, List.take_zero, List.cons_append, List.nil_append]
  (refine ax rfl fun K0 V => ?_; simp only [zE, op1, ev, lkp, ah, ag, ev, reduceCtorEq, E, D, J, U, O, S, Try.el26, Try.td26, Dfa.av]; refine V _ ?_; clear V K0; simp only [put, app, aa, af, zE, zS, D])
  (refine ax rfl fun K0 V => ?_; simp only [zE, op1, ev, lkp, ah, ag, aI, bu, bh, ba, bc, br, Nat.div_one, aO, be, Ty.size, aL, dite_true, reduceCtorEq, E, D, J, U, O, S, Try.el26, Try.td26, Try.td3, Dfa.av]; (repeat refine And.intro (by first | omega | assumption | exact rfl) ?_); (first | refine V _ ?_ | refine Or.inl (V _ ?_)); clear V K0; simp only [put, app, aa, af, zE, zS, D])
  (refine ax rfl fun K0 V => ?_; simp only [zE, op1, ev, lkp, ah, ag, aB, aC, aD, am, ay, aK, reduceCtorEq, E, D, J, U, O, S, Try.td3, Try.td4, Dfa.av]; (repeat refine And.intro (by first | omega | assumption | exact rfl) ?_); refine V _ ?_; clear V K0; simp only [put, app, aa, af, zE, zS, D])
  (refine ab rfl fun K0 V => ?_; simp only [zE, op1, ev, lkp, ah, ag, aZ, reduceCtorEq, E, D, J, U, O, S, Try.td4, Dfa.av]; refine V _ ?_; clear V K0; simp only [put, app, aa, af, zE, zS, D])
  refine aj ?_
  refine ⟨by simp only [Y, lkp, zE, reduceCtorEq, E, Z, D]; exact rfl, rfl, ?_, rfl⟩; (repeat refine aQ rfl ?_); exact bb (by exact rfl) hq5
 case b5 => exact b0 (by first | rfl | (simp [bD]; done) | decide)
 simp only [aW, aT]
 (refine ab rfl fun K0 V => ?_; simp only [zE, op1, ev, lkp, ah, ag, ev, reduceCtorEq, E, D, J, U, O, S, Try.td4, Dfa.av]; refine V _ ?_; clear V K0; simp only [put, app, aa, af, zE, zS, D])
 refine' aP (want := false) 3 rfl (m := 41) (by simp only [Y, lkp, zE, reduceCtorEq, E, Z, D]; exact rfl) (by kernel_rfl) rfl rfl rfl rfl rfl (fun hg6 => ?a6) ?b6 ?c6
 case a6 =>
  have hq6 := hg6; (try simp only [zB, reduceCtorEq] at hg6); simp only [List.take_succ_cons, List.take_zero, List.cons_append, List.nil_append]
  (refine ax rfl fun K0 V => ?_; simp only [zE, op1, ev, lkp, ah, ag, aA, Nat.mul_one, aw, az, acs, Ty.dflt, zG, au, reduceCtorEq, E, D, J, U, O, S, Try.st25, Try.td25, Dfa.av]; (repeat refine And.intro (by first | omega | assumption | exact rfl) ?_); refine V _ ?_; clear V K0; simp only [put, app, aa, af, zE, zS, D])
  refine ax rfl fun K0 V => ?_
  refine aU (h := aF (dm a)) rfl rfl (by first | exact rfl | (simp only [ev, Y, lkp, zE, reduceCtorEq, E, Z, D]; exact rfl)) (by simp only [zE, zG, op1, ev, lkp, ah, ag, aq, acs, aY, mv1, mvC, Ty.dflt, reduceCtorEq, E, D, J, U, O, S, Dfa.av]) ?_
  refine V _ ?_; clear V K0; simp only [put, app, aa, af, zE, zS, D]
  (refine ax rfl fun K0 V => ?_; simp only [zE, op1, ev, lkp, ah, ag, aB, aC, aD, am, ay, aK, reduceCtorEq, E, D, J, U, O, S, Try.td29, Try.td4, Dfa.av]; (repeat refine And.intro (by first | omega | assumption | exact rfl) ?_); refine V _ ?_; clear V K0; simp only [put, app, aa, af, zE, zS, D])
  (refine ab rfl fun K0 V => ?_; simp only [zE, op1, ev, lkp, ah, ag, aZ, reduceCtorEq, E, D, J, U, O, S, Try.td4, Dfa.av]; refine V _ ?_; clear V K0; simp only [put, app, aa, af, zE, zS, D])
  refine aj ?_
  refine ⟨by simp only [Y, lkp, zE, reduceCtorEq, E, Z, D]; exact rfl, rfl, ?_, rfl⟩; (repeat refine aQ rfl ?_); exact bb (by exact rfl) hq6
 case b6 => exact b0 (by first | rfl | (simp [bD]; done) | decide)
 simp only [aW, aT]
 (refine ab rfl fun K0 V => ?_; simp only [zE, op1, ev, lkp, ah, ag, ev, reduceCtorEq, E, D, J, U, O, S, Try.td4, Dfa.av]; refine V _ ?_; clear V K0; simp only [put, app, aa, af, zE, zS, D])
 refine' aP (want := false) 3 rfl (m := 46) (by simp only [Y, lkp, zE, reduceCtorEq, E, Z, D]; exact rfl) (by kernel_rfl) rfl rfl rfl rfl rfl (fun hg7 => ?a7) ?b7 ?c7
 case a7 =>
  have hq7 := hg7; (try simp only [zB, reduceCtorEq] at hg7); simp only [List.take_succ_cons, List.take_zero, List.cons_append, List.nil_append]
  (refine ax rfl fun K0 V => ?_; simp only [zE, op1, ev, lkp, ah, ag, aA, Nat.mul_one, aw, az, acs, Ty.dflt, zG, au, reduceCtorEq, E, D, J, U, O, S, Try.st25, Try.td25, Dfa.av]; (repeat refine And.intro (by first | omega | assumption | exact rfl) ?_); refine V _ ?_; clear V K0; simp only [put, app, aa, af, zE, zS, D])
  refine ax rfl fun K0 V => ?_
  refine aU (h := aF (dm b)) rfl rfl (by first | exact rfl | (simp only [ev, Y, lkp, zE, reduceCtorEq, E, Z, D]; exact rfl)) (by simp only [zE, zG, op1, ev, lkp, ah, ag, aq, acs, aY, mv1, mvC, Ty.dflt, reduceCtorEq, E, D, J, U, O, S, Dfa.av]) ?_
  refine V _ ?_; clear V K0; simp only [put, app, aa, af, zE, zS, D]
  (refine ax rfl fun K0 V => ?_; simp only [zE, op1, ev, lkp, ah, ag, aB, aC, aD, am, ay, aK, reduceCtorEq, E, D, J, U, O, S, Try.td29, Try.td4, Dfa.av]; (repeat refine And.intro (by first | omega | assumption | exact rfl) ?_); refine V _ ?_; clear V K0; simp only [put, app, aa, af, zE, zS, D])
  (refine ab rfl fun K0 V => ?_; simp only [zE, op1, ev, lkp, ah, ag, aZ, reduceCtorEq, E, D, J, U, O, S, Try.td4, Dfa.av]; refine V _ ?_; clear V K0; simp only [put, app, aa, af, zE, zS, D])
  refine aj ?_
  refine ⟨by simp only [Y, lkp, zE, reduceCtorEq, E, Z, D]; exact rfl, rfl, ?_, rfl⟩; (repeat refine aQ rfl ?_); exact bb (by exact rfl) hq7
 case b7 => exact b0 (by first | rfl | (simp [bD]; done) | decide)
 simp only [aW, aT]
 (refine ab rfl fun K0 V => ?_; simp only [zE, op1, ev, lkp, ah, ag, ev, reduceCtorEq, E, D, J, U, O, S, Try.td4, Dfa.av]; refine V _ ?_; clear V K0; simp only [put, app, aa, af, zE, zS, D])
 refine' aP (want := false) 5 rfl (m := 51) (by simp only [Y, lkp, zE, reduceCtorEq, E, Z, D]; exact rfl) (by kernel_rfl) rfl rfl rfl rfl rfl (fun hg8 => ?a8) ?b8 ?c8
 case a8 =>
  have hq8 := hg8; (try simp only [zB, reduceCtorEq] at hg8); simp only [List.take_succ_cons, List.take_zero, List.cons_append, List.nil_append]
  (refine ax rfl fun K0 V => ?_; simp only [zE, op1, ev, lkp, ah, ag, aE, reduceCtorEq, E, D, J, U, O, S, Try.st25, Try.td25, Dfa.av]; (repeat refine And.intro (by first | omega | assumption | exact rfl) ?_); refine V _ ?_; clear V K0; simp only [put, app, aa, af, zE, zS, D])
  (refine ax rfl fun K0 V => ?_; simp only [zE, op1, ev, lkp, ah, ag, aA, Nat.mul_one, aw, az, acs, Ty.dflt, zG, au, reduceCtorEq, E, D, J, U, O, S, Try.td3, Dfa.av]; (repeat refine And.intro (by first | omega | assumption | exact rfl) ?_); refine V _ ?_; clear V K0; simp only [put, app, aa, af, zE, zS, D])
  (refine ax rfl fun K0 V => ?_; simp only [zE, op1, ev, lkp, ah, ag, aE, reduceCtorEq, E, D, J, U, O, S, Try.st25, Try.td25, Dfa.av]; (repeat refine And.intro (by first | omega | assumption | exact rfl) ?_); refine V _ ?_; clear V K0; simp only [put, app, aa, af, zE, zS, D])
  (refine ax rfl fun K0 V => ?_; simp only [zE, op1, ev, lkp, ah, ag, aA, Nat.mul_one, aw, az, acs, Ty.dflt, zG, au, reduceCtorEq, E, D, J, U, O, S, Try.td3, Dfa.av]; (repeat refine And.intro (by first | omega | assumption | exact rfl) ?_); refine V _ ?_; clear V K0; simp only [put, app, aa, af, zE, zS, D])
  (refine ax rfl fun K0 V => ?_; simp only [zE, op1, ev, lkp, ah, ag, aB, aC, aD, am, ay, aK, reduceCtorEq, E, D, J, U, O, S, Try.td3, Try.td4, Dfa.av]; (repeat refine And.intro (by first | omega | assumption | exact rfl) ?_); refine V _ ?_; clear V K0; simp only [put, app, aa, af, zE, zS, D])
  (refine ab rfl fun K0 V => ?_; simp only [zE, op1, ev, lkp, ah, ag, aZ, reduceCtorEq, E, D, J, U, O, S, Try.td4, Dfa.av]; refine V _ ?_; clear V K0; simp only [put, app, aa, af, zE, zS, D])
  refine aj ?_
  refine ⟨by simp only [Y, lkp, zE, reduceCtorEq, E, Z, D]; exact rfl, rfl, ?_, rfl⟩; (repeat refine aQ rfl ?_); exact bb (by exact rfl) hq8
 case b8 => exact b0 (by first | rfl | (simp [bD]; done) | decide)
 simp only [aW, aT]
 (refine ab rfl fun K0 V => ?_; simp only [zE, op1, ev, lkp, ah, ag, ev, reduceCtorEq, E, D, J, U, O, S, Try.td4, Dfa.av]; refine V _ ?_; clear V K0; simp only [put, app, aa, af, zE, zS, D])
 refine' aP (want := false) 5 rfl (m := 58) (by simp only [Y, lkp, zE, reduceCtorEq, E, Z, D]; exact rfl) (by kernel_rfl) rfl rfl rfl rfl rfl (fun hg9 => ?a9) ?b9 ?c9
 case a9 =>
  have hq9 := hg9; (try simp only [zB, reduceCtorEq] at hg9); simp only [List.take_succ_cons, List.take_zero, List.cons_append, List.nil_append]
  (refine ax rfl fun K0 V => ?_; simp only [zE, op1, ev, lkp, ah, ag, ev, reduceCtorEq, E, D, J, U, O, S, Try.el26, Try.td26, Dfa.av]; refine V _ ?_; clear V K0; simp only [put, app, aa, af, zE, zS, D])
  (refine ax rfl fun K0 V => ?_; simp only [zE, op1, ev, lkp, ah, ag, aE, reduceCtorEq, E, D, J, U, O, S, Try.st25, Try.td25, Dfa.av]; (repeat refine And.intro (by first | omega | assumption | exact rfl) ?_); refine V _ ?_; clear V K0; simp only [put, app, aa, af, zE, zS, D])
  (refine ax rfl fun K0 V => ?_; simp only [zE, op1, ev, lkp, ah, ag, aA, Nat.mul_one, aw, az, acs, Ty.dflt, zG, au, reduceCtorEq, E, D, J, U, O, S, Try.td3, Dfa.av]; (repeat refine And.intro (by first | omega | assumption | exact rfl) ?_); refine V _ ?_; clear V K0; simp only [put, app, aa, af, zE, zS, D])
  refine ax rfl fun K0 V => ?_
  refine aU (h := aF (pE w a.inp)) rfl rfl (by first | exact rfl | (simp only [ev, Y, lkp, zE, reduceCtorEq, E, Z, D]; exact rfl)) (by simp only [zE, zG, op1, ev, lkp, ah, ag, aq, acs, aY, mv1, mvC, Ty.dflt, reduceCtorEq, E, D, J, U, O, S, Dfa.av]) ?_
  refine V _ ?_; clear V K0; simp only [put, app, aa, af, zE, zS, D]
  (refine ax rfl fun K0 V => ?_; simp only [zE, op1, ev, lkp, ah, ag, aB, aC, aD, am, ay, aK, reduceCtorEq, E, D, J, U, O, S, Try.td3, Try.td4, Dfa.av]; (repeat refine And.intro (by first | omega | assumption | exact rfl) ?_); refine V _ ?_; clear V K0; simp only [put, app, aa, af, zE, zS, D])
  (refine ab rfl fun K0 V => ?_; simp only [zE, op1, ev, lkp, ah, ag, aZ, reduceCtorEq, E, D, J, U, O, S, Try.td4, Dfa.av]; refine V _ ?_; clear V K0; simp only [put, app, aa, af, zE, zS, D])
  refine aj ?_
  refine ⟨by simp only [Y, lkp, zE, reduceCtorEq, E, Z, D]; exact rfl, rfl, ?_, rfl⟩; (repeat refine aQ rfl ?_); exact bb (by exact rfl) hq9
 case b9 => exact b0 (by first | rfl | (simp [bD]; done) | decide)
 simp only [aW, aT]
 refine aj ?_
 refine hK3 _ ?_; clear hK3; refine ae [0, 1, 2, 3, 4, 6, 64] ?_; simp only [Y, lkp, zE, reduceCtorEq, E, Z, D]
 refine aG (by simp only [ev, Y, lkp, zE, reduceCtorEq, E, Z, D]; exact rfl) (fun hc10 => ?_) (fun hc10 => ?_)
 ·(try simp only [zB, reduceCtorEq] at hc10)
  refine ad fun K11 hK11 => ?_
  refine ai hP hN rfl ?_
  refine ab rfl fun K0 V => ?_
  refine aU (h := aF jW) rfl rfl (by first | exact rfl | (simp only [ev, Y, lkp, zE, reduceCtorEq, E, Z, D]; exact rfl)) (by simp only [zE, zG, op1, ev, lkp, ah, ag, aq, acs, aY, mv1, mvC, Ty.dflt, reduceCtorEq, E, D, J, U, O, S, Dfa.av]) ?_
  refine V _ ?_; clear V K0; simp only [put, app, aa, af, zE, zS, D]
  (refine ab rfl fun K0 V => ?_; simp only [zE, op1, ev, lkp, ah, ag, ev, reduceCtorEq, E, D, J, U, O, S, Try.td4, Dfa.av]; refine V _ ?_; clear V K0; simp only [put, app, aa, af, zE, zS, D])
  refine aj ?_
  refine hK11 _ ?_; clear hK11; refine ae [0, 1, 2, 3, 4, 6, 64] ?_; simp only [Y, lkp, zE, reduceCtorEq, E, Z, D]
  refine aJ ?_
  refine ⟨by first | exact .inl rfl | exact .inr rfl, _, rfl, ?_⟩; simp only [fzV, fz1, fzC, List.map_cons, List.map_nil, Y, lkp, zE, reduceCtorEq, E, Z, D, Dfa.av]
  refine VLE.of_eq ?_
  first | rfl | (refine congrArg (fun b => AV.one (AC.bool b)) ?_; simp [hm1, hm2, hm3, hds]; done)
 ·(try simp only [zB, reduceCtorEq] at hc10)
  have hga : grD a = false := by have h9 := hc10; revert h9; cases grD a <;> simp
  have hgb : grD b = false := by have h9 := hc10; revert h9; cases grD b <;> simp
  have hva : bm a = 0 := by have h9 := hc10; omega
  have hvb : bm b = 0 := by have h9 := hc10; omega
  have hi : a.inp = b.inp := by have h9 := hc10; omega
  have hwe : bW w a.inp = 0 := by have h9 := hc10; omega
  have ht : cL a b = 0 := by unfold cL; rw [if_pos hva, if_pos hvb, if_pos hi]
  have ha := dK hva
  have hb := dK hvb
  have hna := (p3 hga).1
  have hnb := (p3 hgb).1
  have hmul : a.nx.length * b.nx.length ≤ 144 := Nat.mul_le_mul hna hnb
  have hmI : (a.nx.length : Int) * (b.nx.length : Int) ≤ 144 := by rw [← Int.natCast_mul]; omega
  have hmI0 : 0 ≤ (a.nx.length : Int) * (b.nx.length : Int) := by rw [← Int.natCast_mul]; omega
  refine aH ?_
  refine hK2 _ ?_; clear hK2; refine ae [0, 1, 2, 3, 4, 6, 64] ?_; simp only [Y, lkp, zE, reduceCtorEq, E, Z, D]
  refine ad fun K12 hK12 => ?_
  refine ai hP hN rfl ?_
  iterate 2 (refine ab rfl fun K0 V => ?_; simp only [zE, op1, ev, lkp, ah, ag, aA, Nat.mul_one, aw, az, acs, Ty.dflt, zG, au, reduceCtorEq, E, D, J, U, O, S, Try.el26, Try.st25, Try.td25, Try.td26, Dfa.av]; (repeat refine And.intro (by first | omega | assumption | exact rfl) ?_); refine V _ ?_; clear V K0; simp only [put, app, aa, af, zE, zS, D])
  refine ab rfl fun K0 V => ?_
  refine aU (h := aF (di a w)) rfl rfl (by first | exact rfl | (simp only [ev, Y, lkp, zE, reduceCtorEq, E, Z, D]; exact rfl)) (by simp only [zE, zG, op1, ev, lkp, ah, ag, aq, acs, aY, mv1, mvC, Ty.dflt, reduceCtorEq, E, D, J, U, O, S, Dfa.av]) ?_
  refine V _ ?_; clear V K0; simp only [put, app, aa, af, zE, zS, D]
  iterate 5 (refine ab rfl fun K0 V => ?_; simp only [zE, op1, ev, lkp, ah, ag, bz, reduceCtorEq, E, D, J, U, O, S, Try.td1, Try.td29, Try.td4, Dfa.av]; refine V _ ?_; clear V K0; simp only [put, app, aa, af, zE, zS, D])
  refine aj ?_
  refine hK12 _ ?_; clear hK12; refine ae [0, 1, 2, 3, 4, 6, 7, 64] ?_; simp only [Y, lkp, zE, reduceCtorEq, E, Z, D]
  refine ad fun K13 hK13 => ?_
  refine ai hP hN rfl ?_
  iterate 2 (refine ab rfl fun K0 V => ?_; simp only [zE, op1, ev, lkp, ah, ag, aA, Nat.mul_one, aw, az, acs, Ty.dflt, zG, au, reduceCtorEq, E, D, J, U, O, S, Try.el26, Try.st25, Try.td25, Try.td26, Dfa.av]; (repeat refine And.intro (by first | omega | assumption | exact rfl) ?_); refine V _ ?_; clear V K0; simp only [put, app, aa, af, zE, zS, D])
  refine ab rfl fun K0 V => ?_
  refine aU (h := aF (di b w)) rfl rfl (by first | exact rfl | (simp only [ev, Y, lkp, zE, reduceCtorEq, E, Z, D]; exact rfl)) (by simp only [zE, zG, op1, ev, lkp, ah, ag, aq, acs, aY, mv1, mvC, Ty.dflt, reduceCtorEq, E, D, J, U, O, S, Dfa.av]) ?_
  refine V _ ?_; clear V K0; simp only [put, app, aa, af, zE, zS, D]
  iterate 5 (refine ab rfl fun K0 V => ?_; simp only [zE, op1, ev, lkp, ah, ag, bz, reduceCtorEq, E, D, J, U, O, S, Try.td1, Try.td29, Try.td4, Dfa.av]; refine V _ ?_; clear V K0; simp only [put, app, aa, af, zE, zS, D])
  refine aj ?_
  refine hK13 _ ?_; clear hK13; refine ae [0, 1, 2, 3, 4, 6, 7, 9, 64] ?_; simp only [Y, lkp, zE, reduceCtorEq, E, Z, D]
  refine ad fun K14 hK14 => ?_
  refine ad fun K15 hK15 => ?_
  refine ai hP hN rfl ?_
  (refine ab rfl fun K0 V => ?_; simp only [zE, op1, ev, lkp, ah, ag, ev, reduceCtorEq, E, D, J, U, O, S, Try.td3, Dfa.av]; refine V _ ?_; clear V K0; simp only [put, app, aa, af, zE, zS, D])
  refine aj ?_
  refine hK15 _ ?_; clear hK15; refine ae [0, 1, 2, 3, 4, 6, 7, 9, 11, 64] ?_; simp only [Y, lkp, zE, reduceCtorEq, E, Z, D]
  refine aS ?_
  refine bC (fun n16 s16 => ∃ (k : Nat), (k ≤ 4) ∧ n16 = 4 - k ∧ s16 = { env := [(2, .one (.list (.int .i64) w)), (3, .one (.ptr 0 0 0 0)), (4, .one (.ptr 1 0 0 0)), (6, .one (.bool false)), (7, .one (.bool (acV a w))), (9, .one (.bool (acV b w))), (11, .one (.int .i64 (k : Int)))], L := [.vars 25 [.int .i64 a.inp, .int .i64 a.st, .list (.list (.int .i64)) a.nx, .list .bool a.acc], .vars 25 [.int .i64 b.inp, .int .i64 b.st, .list (.list (.int .i64)) b.nx, .list .bool b.acc]] }) ?_ ?_
  ·exact ⟨_, _, aN [2, 3, 4, 6, 7, 9, 11], 0, Nat.zero_le _, rfl, rfl⟩
  ·rintro n16 s16 ⟨k, hk, rfl, rfl⟩
   refine ad fun K17 hK17 => ?_
   refine ad fun K18 hK18 => ?_
   refine ai hP hN rfl ?_
   iterate 2 (refine ab rfl fun K0 V => ?_; simp only [zE, op1, ev, lkp, ah, ag, aB, aC, aD, am, ay, aK, reduceCtorEq, E, D, J, U, O, S, Try.td3, Try.td4, Dfa.av]; (repeat refine And.intro (by first | omega | assumption | exact rfl) ?_); refine V _ ?_; clear V K0; simp only [put, app, aa, af, zE, zS, D])
   refine aj ?_
   refine hK18 _ ?_; clear hK18; refine ae [2, 3, 4, 6, 7, 9, 11, 79] ?_; simp only [Y, lkp, zE, reduceCtorEq, E, Z, D]
   refine aG (by simp only [ev, Y, lkp, zE, reduceCtorEq, E, Z, D]; exact rfl) (fun hc19 => ?_) (fun hc19 => ?_)
   ·(try simp only [zB, reduceCtorEq] at hc19)
    refine aH ?_
    refine hK17 _ ?_; clear hK17; refine ae [2, 3, 4, 6, 7, 9, 11, 79] ?_; simp only [Y, lkp, zE, reduceCtorEq, E, Z, D]
    refine ad fun K20 hK20 => ?_
    refine aS ?_
    refine ad fun K21 hK21 => ?_
    refine ai hP hN rfl ?_
    iterate 3 (refine ab rfl fun K0 V => ?_; simp only [zE, op1, ev, lkp, ah, ag, aA, Nat.mul_one, aw, az, acs, Ty.dflt, zG, au, reduceCtorEq, E, D, J, U, O, S, Try.st25, Try.td25, Try.td3, Dfa.av]; (repeat refine And.intro (by first | omega | assumption | exact rfl) ?_); refine V _ ?_; clear V K0; simp only [put, app, aa, af, zE, zS, D])
    refine ab rfl fun K0 V => ?_
    refine aU (h := aF (ja (k : Int) a b)) rfl rfl (by first | exact rfl | (simp only [ev, Y, lkp, zE, reduceCtorEq, E, Z, D]; exact rfl)) (by simp only [zE, zG, op1, ev, lkp, ah, ag, aq, acs, aY, mv1, mvC, Ty.dflt, reduceCtorEq, E, D, J, U, O, S, Dfa.av]) ?_
    refine V _ ?_; clear V K0; simp only [put, app, aa, af, zE, zS, D]
    iterate 6 (refine ab rfl fun K0 V => ?_; simp only [zE, op1, ev, lkp, ah, ag, bz, bI, bl, Nat.mul_one, aq, aR, aL, acs, Ty.size, Ty.dflt, zG, reduceCtorEq, E, D, J, U, O, S, Try.st25, Try.td1, Try.td25, Try.td29, Dfa.av]; (repeat refine And.intro (by first | omega | assumption | exact rfl) ?_); (first | refine V _ ?_ | refine Or.inl (V _ ?_)); clear V K0; simp only [put, app, aa, af, zE, zS, D])
    refine aj ?_
    refine hK21 _ ?_; clear hK21; refine ae [2, 3, 4, 6, 7, 9, 11, 12, 13, 79] ?_; simp only [Y, lkp, zE, reduceCtorEq, E, Z, D]
    refine ad fun K22 hK22 => ?_
    refine ad fun K23 hK23 => ?_
    refine ai hP hN rfl ?_
    iterate 2 (refine ab rfl fun K0 V => ?_; simp only [zE, op1, ev, lkp, ah, ag, aB, aC, aD, am, ay, aK, reduceCtorEq, E, D, J, U, O, S, Try.td29, Try.td4, Dfa.av]; (repeat refine And.intro (by first | omega | assumption | exact rfl) ?_); refine V _ ?_; clear V K0; simp only [put, app, aa, af, zE, zS, D])
    refine aj ?_
    refine hK23 _ ?_; clear hK23; refine ae [2, 3, 4, 6, 7, 9, 11, 12, 13, 79, 90] ?_; simp only [Y, lkp, zE, reduceCtorEq, E, Z, D]
    refine aG (by simp only [ev, Y, lkp, zE, reduceCtorEq, E, Z, D]; exact rfl) (fun hc24 => ?_) (fun hc24 => ?_)
    ·(try simp only [zB, reduceCtorEq] at hc24)
     obtain ⟨hl1, hl2⟩ := rj ht (by omega) hc24
     have hl3 : 128 < (a.nx.length : Int) * (b.nx.length : Int) := by rw [← Int.natCast_mul]; omega
     refine ad fun K25 hK25 => ?_
     refine ad fun K26 hK26 => ?_
     refine ai hP hN rfl ?_
     iterate 2 (refine ab rfl fun K0 V => ?_; simp only [zE, op1, ev, lkp, ah, ag, aB, aC, aD, am, ay, aK, reduceCtorEq, E, D, J, U, O, S, Try.td29, Try.td4, Dfa.av]; (repeat refine And.intro (by first | omega | assumption | exact rfl) ?_); refine V _ ?_; clear V K0; simp only [put, app, aa, af, zE, zS, D])
     (refine ab rfl fun K0 V => ?_; simp only [zE, op1, ev, lkp, ah, ag, ev, reduceCtorEq, E, D, J, U, O, S, Try.td4, Dfa.av]; refine V _ ?_; clear V K0; simp only [put, app, aa, af, zE, zS, D])
     refine' aP (want := false) 8 rfl (m := 93) (by simp only [Y, lkp, zE, reduceCtorEq, E, Z, D]; exact rfl) (by kernel_rfl) rfl rfl rfl rfl rfl (fun hg27 => ?a27) ?b27 ?c27
     case a27 =>
      have hq27 := hg27; (try simp only [zB, reduceCtorEq] at hg27); simp only [List.take_succ_cons, List.take_zero, List.cons_append, List.nil_append]
      (refine ax rfl fun K0 V => ?_; simp only [zE, op1, ev, lkp, ah, ag, aE, reduceCtorEq, E, D, J, U, O, S, Try.st25, Try.td2, Try.td25, Dfa.av]; (repeat refine And.intro (by first | omega | assumption | exact rfl) ?_); refine V _ ?_; clear V K0; simp only [put, app, aa, af, zE, zS, D])
      (refine ax rfl fun K0 V => ?_; simp only [zE, op1, ev, lkp, ah, ag, aA, Nat.mul_one, aw, az, acs, Ty.dflt, zG, au, reduceCtorEq, E, D, J, U, O, S, Try.el22, Try.td22, Dfa.av]; (repeat refine And.intro (by first | omega | assumption | exact rfl) ?_); refine V _ ?_; clear V K0; simp only [put, app, aa, af, zE, zS, D])
      (refine ax rfl fun K0 V => ?_; simp only [zE, op1, ev, lkp, ah, ag, aI, bu, bh, ba, bc, br, Nat.div_one, aO, be, Ty.size, aL, dite_true, reduceCtorEq, E, D, J, U, O, S, Try.el22, Try.td22, Try.td3, Dfa.av]; (repeat refine And.intro (by first | omega | assumption | exact rfl) ?_); (first | refine V _ ?_ | refine Or.inl (V _ ?_)); clear V K0; simp only [put, app, aa, af, zE, zS, D])
      (refine ax rfl fun K0 V => ?_; simp only [zE, op1, ev, lkp, ah, ag, aE, reduceCtorEq, E, D, J, U, O, S, Try.st25, Try.td2, Try.td25, Dfa.av]; (repeat refine And.intro (by first | omega | assumption | exact rfl) ?_); refine V _ ?_; clear V K0; simp only [put, app, aa, af, zE, zS, D])
      (refine ax rfl fun K0 V => ?_; simp only [zE, op1, ev, lkp, ah, ag, aA, Nat.mul_one, aw, az, acs, Ty.dflt, zG, au, reduceCtorEq, E, D, J, U, O, S, Try.el22, Try.td22, Dfa.av]; (repeat refine And.intro (by first | omega | assumption | exact rfl) ?_); refine V _ ?_; clear V K0; simp only [put, app, aa, af, zE, zS, D])
      (refine ax rfl fun K0 V => ?_; simp only [zE, op1, ev, lkp, ah, ag, aI, bu, bh, ba, bc, br, Nat.div_one, aO, be, Ty.size, aL, dite_true, reduceCtorEq, E, D, J, U, O, S, Try.el22, Try.td22, Try.td3, Dfa.av]; (repeat refine And.intro (by first | omega | assumption | exact rfl) ?_); (first | refine V _ ?_ | refine Or.inl (V _ ?_)); clear V K0; simp only [put, app, aa, af, zE, zS, D])
      (refine ax rfl fun K0 V => ?_; simp only [zE, op1, ev, lkp, ah, ag, aB, aC, aD, am, ay, aK, reduceCtorEq, E, D, J, U, O, S, Try.td3, Dfa.av]; (repeat refine And.intro (by first | omega | assumption | exact rfl) ?_); refine V _ ?_; clear V K0; simp only [put, app, aa, af, zE, zS, D])
      (refine ax rfl fun K0 V => ?_; simp only [zE, op1, ev, lkp, ah, ag, aB, aC, aD, am, ay, aK, reduceCtorEq, E, D, J, U, O, S, Try.td3, Try.td4, Dfa.av]; (repeat refine And.intro (by first | omega | assumption | exact rfl) ?_); refine V _ ?_; clear V K0; simp only [put, app, aa, af, zE, zS, D])
      (refine ab rfl fun K0 V => ?_; simp only [zE, op1, ev, lkp, ah, ag, aZ, reduceCtorEq, E, D, J, U, O, S, Try.td4, Dfa.av]; refine V _ ?_; clear V K0; simp only [put, app, aa, af, zE, zS, D])
      refine aj ?_
      refine ⟨by simp only [Y, lkp, zE, reduceCtorEq, E, Z, D]; exact rfl, rfl, ?_, rfl⟩; (repeat refine aQ rfl ?_); exact bb (by exact rfl) hq27
     case b27 => exact b0 (by first | rfl | (simp [bD]; done) | decide)
     simp only [aW, aT]
     refine aj ?_
     refine hK26 _ ?_; clear hK26; refine ae [2, 3, 4, 6, 7, 9, 11, 12, 13, 79, 90, 102] ?_; simp only [Y, lkp, zE, reduceCtorEq, E, Z, D]
     refine aG (by simp only [ev, Y, lkp, zE, reduceCtorEq, E, Z, D]; exact rfl) (fun hc28 => ?_) (fun hc28 => ?_)
     · exfalso; (try simp only [zB, reduceCtorEq] at hc28); all_goals (first | (cases hc28; done) | omega | (simp at hc28; done) | (simp_all; done))
     ·(try simp only [zB, reduceCtorEq] at hc28)
      refine aH ?_
      refine hK25 _ ?_; clear hK25; refine ae [2, 3, 4, 6, 7, 9, 11, 12, 13, 79, 90, 102] ?_; simp only [Y, lkp, zE, reduceCtorEq, E, Z, D]
      refine bB ?_
      refine hK20 _ ?_; clear hK20; refine ae [2, 3, 4, 6, 7, 9, 11, 12, 13, 79, 90, 102] ?_; simp only [Y, lkp, zE, reduceCtorEq, E, Z, D]
      first | (refine ae [2, 3, 4, 6, 7, 9, 11] ?_; simp only [Y, lkp, zE, reduceCtorEq, E]; refine cQ (L1 := [_, _]) rfl hB rfl rfl ?_) | skip
      refine ai hP hN rfl ?_
      iterate 3 (refine ab rfl fun K0 V => ?_; simp only [zE, op1, ev, lkp, ah, ag, aB, aC, aD, am, ay, aK, reduceCtorEq, E, D, J, U, O, S, Try.td3, Dfa.av]; (repeat refine And.intro (by first | omega | assumption | exact rfl) ?_); refine V _ ?_; clear V K0; simp only [put, app, aa, af, zE, zS, D])
      refine aj ?_
      refine ⟨_, _, ?_, aN [2, 3, 4, 6, 7, 9, 11], k + 1, by omega, rfl, rfl⟩
      omega
    ·(try simp only [zB, reduceCtorEq] at hc24)
     have hE : dc (k : Int) a b = 0 := by omega
     obtain ⟨hz1, hz2⟩ := pi (w := w) ht (by omega) hE hwe
     refine aH ?_
     refine hK22 _ ?_; clear hK22; refine ae [2, 3, 4, 6, 7, 9, 11, 12, 13, 79, 90] ?_; simp only [Y, lkp, zE, reduceCtorEq, E, Z, D]
     refine ad fun K29 hK29 => ?_
     refine ai hP hN rfl ?_
     iterate 2 (refine ab rfl fun K0 V => ?_; simp only [zE, op1, ev, lkp, ah, ag, aA, Nat.mul_one, aw, az, acs, Ty.dflt, zG, au, reduceCtorEq, E, D, J, U, O, S, Try.el26, Try.st25, Try.td25, Try.td26, Dfa.av]; (repeat refine And.intro (by first | omega | assumption | exact rfl) ?_); refine V _ ?_; clear V K0; simp only [put, app, aa, af, zE, zS, D])
     refine ab rfl fun K0 V => ?_
     refine aU (h := aF (di (cY (k : Int) a b) w)) rfl rfl (by first | exact rfl | (simp only [ev, Y, lkp, zE, reduceCtorEq, E, Z, D]; exact rfl)) (by simp only [zE, zG, op1, ev, lkp, ah, ag, aq, acs, aY, mv1, mvC, Ty.dflt, reduceCtorEq, E, D, J, U, O, S, Dfa.av]) ?_
     refine V _ ?_; clear V K0; simp only [put, app, aa, af, zE, zS, D]
     iterate 5 (refine ab rfl fun K0 V => ?_; simp only [zE, op1, ev, lkp, ah, ag, bz, reduceCtorEq, E, D, J, U, O, S, Try.td1, Try.td29, Try.td4, Dfa.av]; refine V _ ?_; clear V K0; simp only [put, app, aa, af, zE, zS, D])
     refine aj ?_
     refine hK29 _ ?_; clear hK29; refine ae [2, 3, 4, 6, 7, 9, 11, 12, 13, 14, 15, 79, 90] ?_; simp only [Y, lkp, zE, reduceCtorEq, E, Z, D]
     refine ad fun K30 hK30 => ?_
     refine ai hP hN rfl ?_
     iterate 4 (refine ab rfl fun K0 V => ?_; simp only [zE, op1, ev, lkp, ah, ag, aB, aC, aD, am, ay, aK, reduceCtorEq, E, D, J, U, O, S, Try.td4, Dfa.av]; (repeat refine And.intro (by first | omega | assumption | exact rfl) ?_); refine V _ ?_; clear V K0; simp only [put, app, aa, af, zE, zS, D])
     refine aj ?_
     refine hK30 _ ?_; clear hK30; refine ae [2, 3, 4, 6, 7, 9, 11, 12, 13, 14, 15, 16, 79, 90] ?_; simp only [Y, lkp, zE, reduceCtorEq, E, Z, D]
     refine ad fun K31 hK31 => ?_
     refine ad fun K32 hK32 => ?_
     refine ai hP hN rfl ?_
     iterate 2 (refine ab rfl fun K0 V => ?_; simp only [zE, op1, ev, lkp, ah, ag, aB, aC, aD, am, ay, aK, reduceCtorEq, E, D, J, U, O, S, Try.td3, Try.td4, Dfa.av]; (repeat refine And.intro (by first | omega | assumption | exact rfl) ?_); refine V _ ?_; clear V K0; simp only [put, app, aa, af, zE, zS, D])
     refine aj ?_
     refine hK32 _ ?_; clear hK32; refine ae [2, 3, 4, 6, 7, 9, 11, 12, 13, 14, 15, 16, 79, 90, 113] ?_; simp only [Y, lkp, zE, reduceCtorEq, E, Z, D]
     refine aG (by simp only [ev, Y, lkp, zE, reduceCtorEq, E, Z, D]; exact rfl) (fun hc33 => ?_) (fun hc33 => ?_)
     ·(try simp only [zB, reduceCtorEq] at hc33)
      have ho := t4 (x := acV a w) (y := acV b w) hc33
      refine ai hP hN rfl ?_
      (refine ab rfl fun K0 V => ?_; simp only [zE, op1, ev, lkp, ah, ag, ev, reduceCtorEq, E, D, J, U, O, S, Try.td4, Dfa.av]; refine V _ ?_; clear V K0; simp only [put, app, aa, af, zE, zS, D])
      (refine ab rfl fun K0 V => ?_; simp only [zE, op1, ev, lkp, ah, ag, ev, reduceCtorEq, E, D, J, U, O, S, Try.td4, Dfa.av]; refine V _ ?_; clear V K0; simp only [put, app, aa, af, zE, zS, D])
      refine' aP (want := true) 1 rfl (m := 115) (by simp only [Y, lkp, zE, reduceCtorEq, E, Z, D]; exact rfl) (by kernel_rfl) rfl rfl rfl rfl rfl (fun hg34 => ?a34) ?b34 ?c34
      case a34 =>
       have hq34 := hg34; (try simp only [zB, reduceCtorEq] at hg34); simp only [List.take_succ_cons, List.take_zero, List.cons_append, List.nil_append]
       (refine ax rfl fun K0 V => ?_; simp only [zE, op1, ev, lkp, ah, ag, ev, reduceCtorEq, E, D, J, U, O, S, Try.td4, Dfa.av]; refine V _ ?_; clear V K0; simp only [put, app, aa, af, zE, zS, D])
       (refine ab rfl fun K0 V => ?_; simp only [zE, op1, ev, lkp, ah, ag, aZ, reduceCtorEq, E, D, J, U, O, S, Try.td4, Dfa.av]; refine V _ ?_; clear V K0; simp only [put, app, aa, af, zE, zS, D])
       refine aj ?_
       refine ⟨by simp only [Y, lkp, zE, reduceCtorEq, E, Z, D]; exact rfl, rfl, ?_, rfl⟩; (repeat refine aQ rfl ?_); exact bb (by exact rfl) hq34
      case b34 => exact b0 (by first | rfl | (simp [bD]; done) | decide)
      simp only [aW, aT]
      (refine ab rfl fun K0 V => ?_; simp only [zE, op1, ev, lkp, ah, ag, ev, reduceCtorEq, E, D, J, U, O, S, Try.td4, Dfa.av]; refine V _ ?_; clear V K0; simp only [put, app, aa, af, zE, zS, D])
      refine aj ?_
      refine hK31 _ ?_; clear hK31; refine ae [2, 3, 4, 6, 7, 9, 11, 12, 13, 14, 15, 16, 79, 90, 113] ?_; simp only [Y, lkp, zE, reduceCtorEq, E, Z, D]
      refine ad fun K35 hK35 => ?_
      refine ad fun K36 hK36 => ?_
      refine ai hP hN rfl ?_
      iterate 2 (refine ab rfl fun K0 V => ?_; simp only [zE, op1, ev, lkp, ah, ag, aB, aC, aD, am, ay, aK, reduceCtorEq, E, D, J, U, O, S, Try.td3, Try.td4, Dfa.av]; (repeat refine And.intro (by first | omega | assumption | exact rfl) ?_); refine V _ ?_; clear V K0; simp only [put, app, aa, af, zE, zS, D])
      refine aj ?_
      refine hK36 _ ?_; clear hK36; refine ae [2, 3, 4, 6, 7, 9, 11, 12, 13, 14, 15, 16, 79, 90, 113, 119] ?_; simp only [Y, lkp, zE, reduceCtorEq, E, Z, D]
      refine aG (by simp only [ev, Y, lkp, zE, reduceCtorEq, E, Z, D]; exact rfl) (fun hc37 => ?_) (fun hc37 => ?_)
      ·(try simp only [zB, reduceCtorEq] at hc37)
       have ho := qr (x := acV a w) (y := acV b w) hc37
       refine ai hP hN rfl ?_
       (refine ab rfl fun K0 V => ?_; simp only [zE, op1, ev, lkp, ah, ag, ev, reduceCtorEq, E, D, J, U, O, S, Try.td4, Dfa.av]; refine V _ ?_; clear V K0; simp only [put, app, aa, af, zE, zS, D])
       (refine ab rfl fun K0 V => ?_; simp only [zE, op1, ev, lkp, ah, ag, ev, reduceCtorEq, E, D, J, U, O, S, Try.td4, Dfa.av]; refine V _ ?_; clear V K0; simp only [put, app, aa, af, zE, zS, D])
       refine' aP (want := false) 1 rfl (m := 121) (by simp only [Y, lkp, zE, reduceCtorEq, E, Z, D]; exact rfl) (by kernel_rfl) rfl rfl rfl rfl rfl (fun hg38 => ?a38) ?b38 ?c38
       case a38 =>
        have hq38 := hg38; (try simp only [zB, reduceCtorEq] at hg38); simp only [List.take_succ_cons, List.take_zero, List.cons_append, List.nil_append]
        (refine ax rfl fun K0 V => ?_; simp only [zE, op1, ev, lkp, ah, ag, ev, reduceCtorEq, E, D, J, U, O, S, Try.td4, Dfa.av]; refine V _ ?_; clear V K0; simp only [put, app, aa, af, zE, zS, D])
        (refine ab rfl fun K0 V => ?_; simp only [zE, op1, ev, lkp, ah, ag, aZ, reduceCtorEq, E, D, J, U, O, S, Try.td4, Dfa.av]; refine V _ ?_; clear V K0; simp only [put, app, aa, af, zE, zS, D])
        refine aj ?_
        refine ⟨by simp only [Y, lkp, zE, reduceCtorEq, E, Z, D]; exact rfl, rfl, ?_, rfl⟩; (repeat refine aQ rfl ?_); exact bb (by exact rfl) hq38
       case b38 => exact b0 (by first | rfl | (simp [bD]; done) | decide)
       simp only [aW, aT]
       (refine ab rfl fun K0 V => ?_; simp only [zE, op1, ev, lkp, ah, ag, ev, reduceCtorEq, E, D, J, U, O, S, Try.td4, Dfa.av]; refine V _ ?_; clear V K0; simp only [put, app, aa, af, zE, zS, D])
       refine aj ?_
       refine hK35 _ ?_; clear hK35; refine ae [2, 3, 4, 6, 7, 9, 11, 12, 13, 14, 15, 16, 79, 90, 113, 119] ?_; simp only [Y, lkp, zE, reduceCtorEq, E, Z, D]
       refine ad fun K39 hK39 => ?_
       refine ad fun K40 hK40 => ?_
       refine ai hP hN rfl ?_
       iterate 2 (refine ab rfl fun K0 V => ?_; simp only [zE, op1, ev, lkp, ah, ag, aB, aC, aD, am, ay, aK, reduceCtorEq, E, D, J, U, O, S, Try.td3, Try.td4, Dfa.av]; (repeat refine And.intro (by first | omega | assumption | exact rfl) ?_); refine V _ ?_; clear V K0; simp only [put, app, aa, af, zE, zS, D])
       refine aj ?_
       refine hK40 _ ?_; clear hK40; refine ae [2, 3, 4, 6, 7, 9, 11, 12, 13, 14, 15, 16, 79, 90, 113, 119, 125] ?_; simp only [Y, lkp, zE, reduceCtorEq, E, Z, D]
       refine aG (by simp only [ev, Y, lkp, zE, reduceCtorEq, E, Z, D]; exact rfl) (fun hc41 => ?_) (fun hc41 => ?_)
       ·(try simp only [zB, reduceCtorEq] at hc41)
        have ho := m8 (x := acV a w) (y := acV b w) hc41
        refine ai hP hN rfl ?_
        (refine ab rfl fun K0 V => ?_; simp only [zE, op1, ev, lkp, ah, ag, ev, reduceCtorEq, E, D, J, U, O, S, Try.td4, Dfa.av]; refine V _ ?_; clear V K0; simp only [put, app, aa, af, zE, zS, D])
        (refine ab rfl fun K0 V => ?_; simp only [zE, op1, ev, lkp, ah, ag, ev, reduceCtorEq, E, D, J, U, O, S, Try.td4, Dfa.av]; refine V _ ?_; clear V K0; simp only [put, app, aa, af, zE, zS, D])
        refine' aP (want := true) 2 rfl (m := 127) (by simp only [Y, lkp, zE, reduceCtorEq, E, Z, D]; exact rfl) (by kernel_rfl) rfl rfl rfl rfl rfl (fun hg42 => ?a42) ?b42 ?c42
        case a42 =>
         have hq42 := hg42; (try simp only [zB, reduceCtorEq] at hg42); simp only [List.take_succ_cons, List.take_zero, List.cons_append, List.nil_append]
         (refine ax rfl fun K0 V => ?_; simp only [zE, op1, ev, lkp, ah, ag, ev, reduceCtorEq, E, D, J, U, O, S, Try.td4, Dfa.av]; refine V _ ?_; clear V K0; simp only [put, app, aa, af, zE, zS, D])
         (refine ax rfl fun K0 V => ?_; simp only [zE, op1, ev, lkp, ah, ag, ew, reduceCtorEq, E, D, J, U, O, S, Try.td4, Dfa.av]; (repeat refine And.intro (by first | omega | assumption | exact rfl) ?_); refine V _ ?_; clear V K0; simp only [put, app, aa, af, zE, zS, D])
         (refine ab rfl fun K0 V => ?_; simp only [zE, op1, ev, lkp, ah, ag, aZ, reduceCtorEq, E, D, J, U, O, S, Try.td4, Dfa.av]; refine V _ ?_; clear V K0; simp only [put, app, aa, af, zE, zS, D])
         refine aj ?_
         refine ⟨by simp only [Y, lkp, zE, reduceCtorEq, E, Z, D]; exact rfl, rfl, ?_, rfl⟩; (repeat refine aQ rfl ?_); exact bb (by exact rfl) hq42
        case b42 => exact b0 (by first | rfl | (simp [bD]; done) | decide)
        simp only [aW, aT]
        (refine ab rfl fun K0 V => ?_; simp only [zE, op1, ev, lkp, ah, ag, ev, reduceCtorEq, E, D, J, U, O, S, Try.td4, Dfa.av]; refine V _ ?_; clear V K0; simp only [put, app, aa, af, zE, zS, D])
        refine aj ?_
        refine hK39 _ ?_; clear hK39; refine ae [2, 3, 4, 6, 7, 9, 11, 12, 13, 14, 15, 16, 79, 90, 113, 119, 125] ?_; simp only [Y, lkp, zE, reduceCtorEq, E, Z, D]
        refine ad fun K43 hK43 => ?_
        first | rw [hz1, hz2, ho] | skip
        refine ai hP hN rfl ?_
        iterate 3 (refine ab rfl fun K0 V => ?_; simp only [zE, op1, ev, lkp, ah, ag, aB, aC, aD, am, ay, aK, reduceCtorEq, E, D, J, U, O, S, Try.td4, Dfa.av]; (repeat refine And.intro (by first | omega | assumption | exact rfl) ?_); refine V _ ?_; clear V K0; simp only [put, app, aa, af, zE, zS, D])
        (refine ab rfl fun K0 V => ?_; simp only [zE, op1, ev, lkp, ah, ag, ev, reduceCtorEq, E, D, J, U, O, S, Try.td4, Dfa.av]; refine V _ ?_; clear V K0; simp only [put, app, aa, af, zE, zS, D])
        refine' aP (want := false) 2 rfl (m := 134) (by simp only [Y, lkp, zE, reduceCtorEq, E, Z, D]; exact rfl) (by kernel_rfl) rfl rfl rfl rfl rfl (fun hg44 => ?a44) ?b44 ?c44
        case a44 =>
         have hq44 := hg44; (try simp only [zB, reduceCtorEq] at hg44); simp only [List.take_succ_cons, List.take_zero, List.cons_append, List.nil_append]
         (refine ax rfl fun K0 V => ?_; simp only [zE, op1, ev, lkp, ah, ag, ev, reduceCtorEq, E, D, J, U, O, S, Try.td29, Dfa.av]; refine V _ ?_; clear V K0; simp only [put, app, aa, af, zE, zS, D])
         (refine ax rfl fun K0 V => ?_; simp only [zE, op1, ev, lkp, ah, ag, aB, aC, aD, am, ay, aK, reduceCtorEq, E, D, J, U, O, S, Try.td29, Try.td4, Dfa.av]; (repeat refine And.intro (by first | omega | assumption | exact rfl) ?_); refine V _ ?_; clear V K0; simp only [put, app, aa, af, zE, zS, D])
         (refine ab rfl fun K0 V => ?_; simp only [zE, op1, ev, lkp, ah, ag, aZ, reduceCtorEq, E, D, J, U, O, S, Try.td4, Dfa.av]; refine V _ ?_; clear V K0; simp only [put, app, aa, af, zE, zS, D])
         refine aj ?_
         refine ⟨by simp only [Y, lkp, zE, reduceCtorEq, E, Z, D]; exact rfl, rfl, ?_, rfl⟩; (repeat refine aQ rfl ?_); exact bb (by exact rfl) hq44
        case b44 => exact b0 (by first | rfl | (simp [bD]; done) | decide)
        simp only [aW, aT]
        refine aj ?_
        refine hK43 _ ?_; clear hK43; refine ae [2, 3, 4, 6, 7, 9, 11, 12, 13, 14, 15, 16, 79, 90, 113, 119, 125, 137] ?_; simp only [Y, lkp, zE, reduceCtorEq, E, Z, D]
        refine aG (by simp only [ev, Y, lkp, zE, reduceCtorEq, E, Z, D]; exact rfl) (fun hc45 => ?_) (fun hc45 => ?_)
        · exfalso; (try simp only [zB, reduceCtorEq] at hc45); all_goals (first | (cases hc45; done) | omega | (simp at hc45; done) | (simp_all; done))
        ·(try simp only [zB, reduceCtorEq] at hc45)
         refine aH ?_
         refine hK20 _ ?_; clear hK20; refine ae [2, 3, 4, 6, 7, 9, 11, 12, 13, 14, 15, 16, 79, 90, 113, 119, 125, 137] ?_; simp only [Y, lkp, zE, reduceCtorEq, E, Z, D]
         first | (refine ae [2, 3, 4, 6, 7, 9, 11] ?_; simp only [Y, lkp, zE, reduceCtorEq, E]; refine cQ (L1 := [_, _]) rfl hB rfl rfl ?_) | skip
         refine ai hP hN rfl ?_
         iterate 3 (refine ab rfl fun K0 V => ?_; simp only [zE, op1, ev, lkp, ah, ag, aB, aC, aD, am, ay, aK, reduceCtorEq, E, D, J, U, O, S, Try.td3, Dfa.av]; (repeat refine And.intro (by first | omega | assumption | exact rfl) ?_); refine V _ ?_; clear V K0; simp only [put, app, aa, af, zE, zS, D])
         refine aj ?_
         refine ⟨_, _, ?_, aN [2, 3, 4, 6, 7, 9, 11], k + 1, by omega, rfl, rfl⟩
         omega
       ·(try simp only [zB, reduceCtorEq] at hc41)
        first | have ho := lZ (x := acV a w) (y := acV b w) hn0 hn1 hc41 | skip
        refine aH ?_
        refine hK39 _ ?_; clear hK39; refine ae [2, 3, 4, 6, 7, 9, 11, 12, 13, 14, 15, 16, 79, 90, 113, 119, 125] ?_; simp only [Y, lkp, zE, reduceCtorEq, E, Z, D]
        refine ad fun K46 hK46 => ?_
        first | rw [hz1, hz2, ho] | skip
        refine ai hP hN rfl ?_
        iterate 3 (refine ab rfl fun K0 V => ?_; simp only [zE, op1, ev, lkp, ah, ag, aB, aC, aD, am, ay, aK, reduceCtorEq, E, D, J, U, O, S, Try.td4, Dfa.av]; (repeat refine And.intro (by first | omega | assumption | exact rfl) ?_); refine V _ ?_; clear V K0; simp only [put, app, aa, af, zE, zS, D])
        (refine ab rfl fun K0 V => ?_; simp only [zE, op1, ev, lkp, ah, ag, ev, reduceCtorEq, E, D, J, U, O, S, Try.td4, Dfa.av]; refine V _ ?_; clear V K0; simp only [put, app, aa, af, zE, zS, D])
        refine' aP (want := false) 2 rfl (m := 134) (by simp only [Y, lkp, zE, reduceCtorEq, E, Z, D]; exact rfl) (by kernel_rfl) rfl rfl rfl rfl rfl (fun hg47 => ?a47) ?b47 ?c47
        case a47 =>
         have hq47 := hg47; (try simp only [zB, reduceCtorEq] at hg47); simp only [List.take_succ_cons, List.take_zero, List.cons_append, List.nil_append]
         (refine ax rfl fun K0 V => ?_; simp only [zE, op1, ev, lkp, ah, ag, ev, reduceCtorEq, E, D, J, U, O, S, Try.td29, Dfa.av]; refine V _ ?_; clear V K0; simp only [put, app, aa, af, zE, zS, D])
         (refine ax rfl fun K0 V => ?_; simp only [zE, op1, ev, lkp, ah, ag, aB, aC, aD, am, ay, aK, reduceCtorEq, E, D, J, U, O, S, Try.td29, Try.td4, Dfa.av]; (repeat refine And.intro (by first | omega | assumption | exact rfl) ?_); refine V _ ?_; clear V K0; simp only [put, app, aa, af, zE, zS, D])
         (refine ab rfl fun K0 V => ?_; simp only [zE, op1, ev, lkp, ah, ag, aZ, reduceCtorEq, E, D, J, U, O, S, Try.td4, Dfa.av]; refine V _ ?_; clear V K0; simp only [put, app, aa, af, zE, zS, D])
         refine aj ?_
         refine ⟨by simp only [Y, lkp, zE, reduceCtorEq, E, Z, D]; exact rfl, rfl, ?_, rfl⟩; (repeat refine aQ rfl ?_); exact bb (by exact rfl) hq47
        case b47 => exact b0 (by first | rfl | (simp [bD]; done) | decide)
        simp only [aW, aT]
        refine aj ?_
        refine hK46 _ ?_; clear hK46; refine ae [2, 3, 4, 6, 7, 9, 11, 12, 13, 14, 15, 16, 79, 90, 113, 119, 125, 137] ?_; simp only [Y, lkp, zE, reduceCtorEq, E, Z, D]
        refine aG (by simp only [ev, Y, lkp, zE, reduceCtorEq, E, Z, D]; exact rfl) (fun hc48 => ?_) (fun hc48 => ?_)
        · exfalso; (try simp only [zB, reduceCtorEq] at hc48); all_goals (first | (cases hc48; done) | omega | (simp at hc48; done) | (simp_all; done))
        ·(try simp only [zB, reduceCtorEq] at hc48)
         refine aH ?_
         refine hK20 _ ?_; clear hK20; refine ae [2, 3, 4, 6, 7, 9, 11, 12, 13, 14, 15, 16, 79, 90, 113, 119, 125, 137] ?_; simp only [Y, lkp, zE, reduceCtorEq, E, Z, D]
         first | (refine ae [2, 3, 4, 6, 7, 9, 11] ?_; simp only [Y, lkp, zE, reduceCtorEq, E]; refine cQ (L1 := [_, _]) rfl hB rfl rfl ?_) | skip
         refine ai hP hN rfl ?_
         iterate 3 (refine ab rfl fun K0 V => ?_; simp only [zE, op1, ev, lkp, ah, ag, aB, aC, aD, am, ay, aK, reduceCtorEq, E, D, J, U, O, S, Try.td3, Dfa.av]; (repeat refine And.intro (by first | omega | assumption | exact rfl) ?_); refine V _ ?_; clear V K0; simp only [put, app, aa, af, zE, zS, D])
         refine aj ?_
         refine ⟨_, _, ?_, aN [2, 3, 4, 6, 7, 9, 11], k + 1, by omega, rfl, rfl⟩
         omega
      ·(try simp only [zB, reduceCtorEq] at hc37)
       have hn1 : ¬ (k : Int) = 1 := hc37
       refine aH ?_
       refine hK35 _ ?_; clear hK35; refine ae [2, 3, 4, 6, 7, 9, 11, 12, 13, 14, 15, 16, 79, 90, 113, 119] ?_; simp only [Y, lkp, zE, reduceCtorEq, E, Z, D]
       refine ad fun K49 hK49 => ?_
       refine ad fun K50 hK50 => ?_
       refine ai hP hN rfl ?_
       iterate 2 (refine ab rfl fun K0 V => ?_; simp only [zE, op1, ev, lkp, ah, ag, aB, aC, aD, am, ay, aK, reduceCtorEq, E, D, J, U, O, S, Try.td3, Try.td4, Dfa.av]; (repeat refine And.intro (by first | omega | assumption | exact rfl) ?_); refine V _ ?_; clear V K0; simp only [put, app, aa, af, zE, zS, D])
       refine aj ?_
       refine hK50 _ ?_; clear hK50; refine ae [2, 3, 4, 6, 7, 9, 11, 12, 13, 14, 15, 16, 79, 90, 113, 119, 125] ?_; simp only [Y, lkp, zE, reduceCtorEq, E, Z, D]
       refine aG (by simp only [ev, Y, lkp, zE, reduceCtorEq, E, Z, D]; exact rfl) (fun hc51 => ?_) (fun hc51 => ?_)
       ·(try simp only [zB, reduceCtorEq] at hc51)
        have ho := m8 (x := acV a w) (y := acV b w) hc51
        refine ai hP hN rfl ?_
        (refine ab rfl fun K0 V => ?_; simp only [zE, op1, ev, lkp, ah, ag, ev, reduceCtorEq, E, D, J, U, O, S, Try.td4, Dfa.av]; refine V _ ?_; clear V K0; simp only [put, app, aa, af, zE, zS, D])
        (refine ab rfl fun K0 V => ?_; simp only [zE, op1, ev, lkp, ah, ag, ev, reduceCtorEq, E, D, J, U, O, S, Try.td4, Dfa.av]; refine V _ ?_; clear V K0; simp only [put, app, aa, af, zE, zS, D])
        refine' aP (want := true) 2 rfl (m := 127) (by simp only [Y, lkp, zE, reduceCtorEq, E, Z, D]; exact rfl) (by kernel_rfl) rfl rfl rfl rfl rfl (fun hg52 => ?a52) ?b52 ?c52
        case a52 =>
         have hq52 := hg52; (try simp only [zB, reduceCtorEq] at hg52); simp only [List.take_succ_cons, List.take_zero, List.cons_append, List.nil_append]
         (refine ax rfl fun K0 V => ?_; simp only [zE, op1, ev, lkp, ah, ag, ev, reduceCtorEq, E, D, J, U, O, S, Try.td4, Dfa.av]; refine V _ ?_; clear V K0; simp only [put, app, aa, af, zE, zS, D])
         (refine ax rfl fun K0 V => ?_; simp only [zE, op1, ev, lkp, ah, ag, ew, reduceCtorEq, E, D, J, U, O, S, Try.td4, Dfa.av]; (repeat refine And.intro (by first | omega | assumption | exact rfl) ?_); refine V _ ?_; clear V K0; simp only [put, app, aa, af, zE, zS, D])
         (refine ab rfl fun K0 V => ?_; simp only [zE, op1, ev, lkp, ah, ag, aZ, reduceCtorEq, E, D, J, U, O, S, Try.td4, Dfa.av]; refine V _ ?_; clear V K0; simp only [put, app, aa, af, zE, zS, D])
         refine aj ?_
         refine ⟨by simp only [Y, lkp, zE, reduceCtorEq, E, Z, D]; exact rfl, rfl, ?_, rfl⟩; (repeat refine aQ rfl ?_); exact bb (by exact rfl) hq52
        case b52 => exact b0 (by first | rfl | (simp [bD]; done) | decide)
        simp only [aW, aT]
        (refine ab rfl fun K0 V => ?_; simp only [zE, op1, ev, lkp, ah, ag, ev, reduceCtorEq, E, D, J, U, O, S, Try.td4, Dfa.av]; refine V _ ?_; clear V K0; simp only [put, app, aa, af, zE, zS, D])
        refine aj ?_
        refine hK49 _ ?_; clear hK49; refine ae [2, 3, 4, 6, 7, 9, 11, 12, 13, 14, 15, 16, 79, 90, 113, 119, 125] ?_; simp only [Y, lkp, zE, reduceCtorEq, E, Z, D]
        refine ad fun K53 hK53 => ?_
        first | rw [hz1, hz2, ho] | skip
        refine ai hP hN rfl ?_
        iterate 3 (refine ab rfl fun K0 V => ?_; simp only [zE, op1, ev, lkp, ah, ag, aB, aC, aD, am, ay, aK, reduceCtorEq, E, D, J, U, O, S, Try.td4, Dfa.av]; (repeat refine And.intro (by first | omega | assumption | exact rfl) ?_); refine V _ ?_; clear V K0; simp only [put, app, aa, af, zE, zS, D])
        (refine ab rfl fun K0 V => ?_; simp only [zE, op1, ev, lkp, ah, ag, ev, reduceCtorEq, E, D, J, U, O, S, Try.td4, Dfa.av]; refine V _ ?_; clear V K0; simp only [put, app, aa, af, zE, zS, D])
        refine' aP (want := false) 2 rfl (m := 134) (by simp only [Y, lkp, zE, reduceCtorEq, E, Z, D]; exact rfl) (by kernel_rfl) rfl rfl rfl rfl rfl (fun hg54 => ?a54) ?b54 ?c54
        case a54 =>
         have hq54 := hg54; (try simp only [zB, reduceCtorEq] at hg54); simp only [List.take_succ_cons, List.take_zero, List.cons_append, List.nil_append]
         (refine ax rfl fun K0 V => ?_; simp only [zE, op1, ev, lkp, ah, ag, ev, reduceCtorEq, E, D, J, U, O, S, Try.td29, Dfa.av]; refine V _ ?_; clear V K0; simp only [put, app, aa, af, zE, zS, D])
         (refine ax rfl fun K0 V => ?_; simp only [zE, op1, ev, lkp, ah, ag, aB, aC, aD, am, ay, aK, reduceCtorEq, E, D, J, U, O, S, Try.td29, Try.td4, Dfa.av]; (repeat refine And.intro (by first | omega | assumption | exact rfl) ?_); refine V _ ?_; clear V K0; simp only [put, app, aa, af, zE, zS, D])
         (refine ab rfl fun K0 V => ?_; simp only [zE, op1, ev, lkp, ah, ag, aZ, reduceCtorEq, E, D, J, U, O, S, Try.td4, Dfa.av]; refine V _ ?_; clear V K0; simp only [put, app, aa, af, zE, zS, D])
         refine aj ?_
         refine ⟨by simp only [Y, lkp, zE, reduceCtorEq, E, Z, D]; exact rfl, rfl, ?_, rfl⟩; (repeat refine aQ rfl ?_); exact bb (by exact rfl) hq54
        case b54 => exact b0 (by first | rfl | (simp [bD]; done) | decide)
        simp only [aW, aT]
        refine aj ?_
        refine hK53 _ ?_; clear hK53; refine ae [2, 3, 4, 6, 7, 9, 11, 12, 13, 14, 15, 16, 79, 90, 113, 119, 125, 137] ?_; simp only [Y, lkp, zE, reduceCtorEq, E, Z, D]
        refine aG (by simp only [ev, Y, lkp, zE, reduceCtorEq, E, Z, D]; exact rfl) (fun hc55 => ?_) (fun hc55 => ?_)
        · exfalso; (try simp only [zB, reduceCtorEq] at hc55); all_goals (first | (cases hc55; done) | omega | (simp at hc55; done) | (simp_all; done))
        ·(try simp only [zB, reduceCtorEq] at hc55)
         refine aH ?_
         refine hK20 _ ?_; clear hK20; refine ae [2, 3, 4, 6, 7, 9, 11, 12, 13, 14, 15, 16, 79, 90, 113, 119, 125, 137] ?_; simp only [Y, lkp, zE, reduceCtorEq, E, Z, D]
         first | (refine ae [2, 3, 4, 6, 7, 9, 11] ?_; simp only [Y, lkp, zE, reduceCtorEq, E]; refine cQ (L1 := [_, _]) rfl hB rfl rfl ?_) | skip
         refine ai hP hN rfl ?_
         iterate 3 (refine ab rfl fun K0 V => ?_; simp only [zE, op1, ev, lkp, ah, ag, aB, aC, aD, am, ay, aK, reduceCtorEq, E, D, J, U, O, S, Try.td3, Dfa.av]; (repeat refine And.intro (by first | omega | assumption | exact rfl) ?_); refine V _ ?_; clear V K0; simp only [put, app, aa, af, zE, zS, D])
         refine aj ?_
         refine ⟨_, _, ?_, aN [2, 3, 4, 6, 7, 9, 11], k + 1, by omega, rfl, rfl⟩
         omega
       ·(try simp only [zB, reduceCtorEq] at hc51)
        first | have ho := lZ (x := acV a w) (y := acV b w) hn0 hn1 hc51 | skip
        refine aH ?_
        refine hK49 _ ?_; clear hK49; refine ae [2, 3, 4, 6, 7, 9, 11, 12, 13, 14, 15, 16, 79, 90, 113, 119, 125] ?_; simp only [Y, lkp, zE, reduceCtorEq, E, Z, D]
        refine ad fun K56 hK56 => ?_
        first | rw [hz1, hz2, ho] | skip
        refine ai hP hN rfl ?_
        iterate 3 (refine ab rfl fun K0 V => ?_; simp only [zE, op1, ev, lkp, ah, ag, aB, aC, aD, am, ay, aK, reduceCtorEq, E, D, J, U, O, S, Try.td4, Dfa.av]; (repeat refine And.intro (by first | omega | assumption | exact rfl) ?_); refine V _ ?_; clear V K0; simp only [put, app, aa, af, zE, zS, D])
        (refine ab rfl fun K0 V => ?_; simp only [zE, op1, ev, lkp, ah, ag, ev, reduceCtorEq, E, D, J, U, O, S, Try.td4, Dfa.av]; refine V _ ?_; clear V K0; simp only [put, app, aa, af, zE, zS, D])
        refine' aP (want := false) 2 rfl (m := 134) (by simp only [Y, lkp, zE, reduceCtorEq, E, Z, D]; exact rfl) (by kernel_rfl) rfl rfl rfl rfl rfl (fun hg57 => ?a57) ?b57 ?c57
        case a57 =>
         have hq57 := hg57; (try simp only [zB, reduceCtorEq] at hg57); simp only [List.take_succ_cons, List.take_zero, List.cons_append, List.nil_append]
         (refine ax rfl fun K0 V => ?_; simp only [zE, op1, ev, lkp, ah, ag, ev, reduceCtorEq, E, D, J, U, O, S, Try.td29, Dfa.av]; refine V _ ?_; clear V K0; simp only [put, app, aa, af, zE, zS, D])
         (refine ax rfl fun K0 V => ?_; simp only [zE, op1, ev, lkp, ah, ag, aB, aC, aD, am, ay, aK, reduceCtorEq, E, D, J, U, O, S, Try.td29, Try.td4, Dfa.av]; (repeat refine And.intro (by first | omega | assumption | exact rfl) ?_); refine V _ ?_; clear V K0; simp only [put, app, aa, af, zE, zS, D])
         (refine ab rfl fun K0 V => ?_; simp only [zE, op1, ev, lkp, ah, ag, aZ, reduceCtorEq, E, D, J, U, O, S, Try.td4, Dfa.av]; refine V _ ?_; clear V K0; simp only [put, app, aa, af, zE, zS, D])
         refine aj ?_
         refine ⟨by simp only [Y, lkp, zE, reduceCtorEq, E, Z, D]; exact rfl, rfl, ?_, rfl⟩; (repeat refine aQ rfl ?_); exact bb (by exact rfl) hq57
        case b57 => exact b0 (by first | rfl | (simp [bD]; done) | decide)
        simp only [aW, aT]
        refine aj ?_
        refine hK56 _ ?_; clear hK56; refine ae [2, 3, 4, 6, 7, 9, 11, 12, 13, 14, 15, 16, 79, 90, 113, 119, 125, 137] ?_; simp only [Y, lkp, zE, reduceCtorEq, E, Z, D]
        refine aG (by simp only [ev, Y, lkp, zE, reduceCtorEq, E, Z, D]; exact rfl) (fun hc58 => ?_) (fun hc58 => ?_)
        · exfalso; (try simp only [zB, reduceCtorEq] at hc58); all_goals (first | (cases hc58; done) | omega | (simp at hc58; done) | (simp_all; done))
        ·(try simp only [zB, reduceCtorEq] at hc58)
         refine aH ?_
         refine hK20 _ ?_; clear hK20; refine ae [2, 3, 4, 6, 7, 9, 11, 12, 13, 14, 15, 16, 79, 90, 113, 119, 125, 137] ?_; simp only [Y, lkp, zE, reduceCtorEq, E, Z, D]
         first | (refine ae [2, 3, 4, 6, 7, 9, 11] ?_; simp only [Y, lkp, zE, reduceCtorEq, E]; refine cQ (L1 := [_, _]) rfl hB rfl rfl ?_) | skip
         refine ai hP hN rfl ?_
         iterate 3 (refine ab rfl fun K0 V => ?_; simp only [zE, op1, ev, lkp, ah, ag, aB, aC, aD, am, ay, aK, reduceCtorEq, E, D, J, U, O, S, Try.td3, Dfa.av]; (repeat refine And.intro (by first | omega | assumption | exact rfl) ?_); refine V _ ?_; clear V K0; simp only [put, app, aa, af, zE, zS, D])
         refine aj ?_
         refine ⟨_, _, ?_, aN [2, 3, 4, 6, 7, 9, 11], k + 1, by omega, rfl, rfl⟩
         omega
     ·(try simp only [zB, reduceCtorEq] at hc33)
      have hn0 : ¬ (k : Int) = 0 := hc33
      refine aH ?_
      refine hK31 _ ?_; clear hK31; refine ae [2, 3, 4, 6, 7, 9, 11, 12, 13, 14, 15, 16, 79, 90, 113] ?_; simp only [Y, lkp, zE, reduceCtorEq, E, Z, D]
      refine ad fun K59 hK59 => ?_
      refine ad fun K60 hK60 => ?_
      refine ai hP hN rfl ?_
      iterate 2 (refine ab rfl fun K0 V => ?_; simp only [zE, op1, ev, lkp, ah, ag, aB, aC, aD, am, ay, aK, reduceCtorEq, E, D, J, U, O, S, Try.td3, Try.td4, Dfa.av]; (repeat refine And.intro (by first | omega | assumption | exact rfl) ?_); refine V _ ?_; clear V K0; simp only [put, app, aa, af, zE, zS, D])
      refine aj ?_
      refine hK60 _ ?_; clear hK60; refine ae [2, 3, 4, 6, 7, 9, 11, 12, 13, 14, 15, 16, 79, 90, 113, 119] ?_; simp only [Y, lkp, zE, reduceCtorEq, E, Z, D]
      refine aG (by simp only [ev, Y, lkp, zE, reduceCtorEq, E, Z, D]; exact rfl) (fun hc61 => ?_) (fun hc61 => ?_)
      ·(try simp only [zB, reduceCtorEq] at hc61)
       have ho := qr (x := acV a w) (y := acV b w) hc61
       refine ai hP hN rfl ?_
       (refine ab rfl fun K0 V => ?_; simp only [zE, op1, ev, lkp, ah, ag, ev, reduceCtorEq, E, D, J, U, O, S, Try.td4, Dfa.av]; refine V _ ?_; clear V K0; simp only [put, app, aa, af, zE, zS, D])
       (refine ab rfl fun K0 V => ?_; simp only [zE, op1, ev, lkp, ah, ag, ev, reduceCtorEq, E, D, J, U, O, S, Try.td4, Dfa.av]; refine V _ ?_; clear V K0; simp only [put, app, aa, af, zE, zS, D])
       refine' aP (want := false) 1 rfl (m := 121) (by simp only [Y, lkp, zE, reduceCtorEq, E, Z, D]; exact rfl) (by kernel_rfl) rfl rfl rfl rfl rfl (fun hg62 => ?a62) ?b62 ?c62
       case a62 =>
        have hq62 := hg62; (try simp only [zB, reduceCtorEq] at hg62); simp only [List.take_succ_cons, List.take_zero, List.cons_append, List.nil_append]
        (refine ax rfl fun K0 V => ?_; simp only [zE, op1, ev, lkp, ah, ag, ev, reduceCtorEq, E, D, J, U, O, S, Try.td4, Dfa.av]; refine V _ ?_; clear V K0; simp only [put, app, aa, af, zE, zS, D])
        (refine ab rfl fun K0 V => ?_; simp only [zE, op1, ev, lkp, ah, ag, aZ, reduceCtorEq, E, D, J, U, O, S, Try.td4, Dfa.av]; refine V _ ?_; clear V K0; simp only [put, app, aa, af, zE, zS, D])
        refine aj ?_
        refine ⟨by simp only [Y, lkp, zE, reduceCtorEq, E, Z, D]; exact rfl, rfl, ?_, rfl⟩; (repeat refine aQ rfl ?_); exact bb (by exact rfl) hq62
       case b62 => exact b0 (by first | rfl | (simp [bD]; done) | decide)
       simp only [aW, aT]
       (refine ab rfl fun K0 V => ?_; simp only [zE, op1, ev, lkp, ah, ag, ev, reduceCtorEq, E, D, J, U, O, S, Try.td4, Dfa.av]; refine V _ ?_; clear V K0; simp only [put, app, aa, af, zE, zS, D])
       refine aj ?_
       refine hK59 _ ?_; clear hK59; refine ae [2, 3, 4, 6, 7, 9, 11, 12, 13, 14, 15, 16, 79, 90, 113, 119] ?_; simp only [Y, lkp, zE, reduceCtorEq, E, Z, D]
       refine ad fun K63 hK63 => ?_
       refine ad fun K64 hK64 => ?_
       refine ai hP hN rfl ?_
       iterate 2 (refine ab rfl fun K0 V => ?_; simp only [zE, op1, ev, lkp, ah, ag, aB, aC, aD, am, ay, aK, reduceCtorEq, E, D, J, U, O, S, Try.td3, Try.td4, Dfa.av]; (repeat refine And.intro (by first | omega | assumption | exact rfl) ?_); refine V _ ?_; clear V K0; simp only [put, app, aa, af, zE, zS, D])
       refine aj ?_
       refine hK64 _ ?_; clear hK64; refine ae [2, 3, 4, 6, 7, 9, 11, 12, 13, 14, 15, 16, 79, 90, 113, 119, 125] ?_; simp only [Y, lkp, zE, reduceCtorEq, E, Z, D]
       refine aG (by simp only [ev, Y, lkp, zE, reduceCtorEq, E, Z, D]; exact rfl) (fun hc65 => ?_) (fun hc65 => ?_)
       ·(try simp only [zB, reduceCtorEq] at hc65)
        have ho := m8 (x := acV a w) (y := acV b w) hc65
        refine ai hP hN rfl ?_
        (refine ab rfl fun K0 V => ?_; simp only [zE, op1, ev, lkp, ah, ag, ev, reduceCtorEq, E, D, J, U, O, S, Try.td4, Dfa.av]; refine V _ ?_; clear V K0; simp only [put, app, aa, af, zE, zS, D])
        (refine ab rfl fun K0 V => ?_; simp only [zE, op1, ev, lkp, ah, ag, ev, reduceCtorEq, E, D, J, U, O, S, Try.td4, Dfa.av]; refine V _ ?_; clear V K0; simp only [put, app, aa, af, zE, zS, D])
        refine' aP (want := true) 2 rfl (m := 127) (by simp only [Y, lkp, zE, reduceCtorEq, E, Z, D]; exact rfl) (by kernel_rfl) rfl rfl rfl rfl rfl (fun hg66 => ?a66) ?b66 ?c66
        case a66 =>
         have hq66 := hg66; (try simp only [zB, reduceCtorEq] at hg66); simp only [List.take_succ_cons, List.take_zero, List.cons_append, List.nil_append]
         (refine ax rfl fun K0 V => ?_; simp only [zE, op1, ev, lkp, ah, ag, ev, reduceCtorEq, E, D, J, U, O, S, Try.td4, Dfa.av]; refine V _ ?_; clear V K0; simp only [put, app, aa, af, zE, zS, D])
         (refine ax rfl fun K0 V => ?_; simp only [zE, op1, ev, lkp, ah, ag, ew, reduceCtorEq, E, D, J, U, O, S, Try.td4, Dfa.av]; (repeat refine And.intro (by first | omega | assumption | exact rfl) ?_); refine V _ ?_; clear V K0; simp only [put, app, aa, af, zE, zS, D])
         (refine ab rfl fun K0 V => ?_; simp only [zE, op1, ev, lkp, ah, ag, aZ, reduceCtorEq, E, D, J, U, O, S, Try.td4, Dfa.av]; refine V _ ?_; clear V K0; simp only [put, app, aa, af, zE, zS, D])
         refine aj ?_
         refine ⟨by simp only [Y, lkp, zE, reduceCtorEq, E, Z, D]; exact rfl, rfl, ?_, rfl⟩; (repeat refine aQ rfl ?_); exact bb (by exact rfl) hq66
        case b66 => exact b0 (by first | rfl | (simp [bD]; done) | decide)
        simp only [aW, aT]
        (refine ab rfl fun K0 V => ?_; simp only [zE, op1, ev, lkp, ah, ag, ev, reduceCtorEq, E, D, J, U, O, S, Try.td4, Dfa.av]; refine V _ ?_; clear V K0; simp only [put, app, aa, af, zE, zS, D])
        refine aj ?_
        refine hK63 _ ?_; clear hK63; refine ae [2, 3, 4, 6, 7, 9, 11, 12, 13, 14, 15, 16, 79, 90, 113, 119, 125] ?_; simp only [Y, lkp, zE, reduceCtorEq, E, Z, D]
        refine ad fun K67 hK67 => ?_
        first | rw [hz1, hz2, ho] | skip
        refine ai hP hN rfl ?_
        iterate 3 (refine ab rfl fun K0 V => ?_; simp only [zE, op1, ev, lkp, ah, ag, aB, aC, aD, am, ay, aK, reduceCtorEq, E, D, J, U, O, S, Try.td4, Dfa.av]; (repeat refine And.intro (by first | omega | assumption | exact rfl) ?_); refine V _ ?_; clear V K0; simp only [put, app, aa, af, zE, zS, D])
        (refine ab rfl fun K0 V => ?_; simp only [zE, op1, ev, lkp, ah, ag, ev, reduceCtorEq, E, D, J, U, O, S, Try.td4, Dfa.av]; refine V _ ?_; clear V K0; simp only [put, app, aa, af, zE, zS, D])
        refine' aP (want := false) 2 rfl (m := 134) (by simp only [Y, lkp, zE, reduceCtorEq, E, Z, D]; exact rfl) (by kernel_rfl) rfl rfl rfl rfl rfl (fun hg68 => ?a68) ?b68 ?c68
        case a68 =>
         have hq68 := hg68; (try simp only [zB, reduceCtorEq] at hg68); simp only [List.take_succ_cons, List.take_zero, List.cons_append, List.nil_append]
         (refine ax rfl fun K0 V => ?_; simp only [zE, op1, ev, lkp, ah, ag, ev, reduceCtorEq, E, D, J, U, O, S, Try.td29, Dfa.av]; refine V _ ?_; clear V K0; simp only [put, app, aa, af, zE, zS, D])
         (refine ax rfl fun K0 V => ?_; simp only [zE, op1, ev, lkp, ah, ag, aB, aC, aD, am, ay, aK, reduceCtorEq, E, D, J, U, O, S, Try.td29, Try.td4, Dfa.av]; (repeat refine And.intro (by first | omega | assumption | exact rfl) ?_); refine V _ ?_; clear V K0; simp only [put, app, aa, af, zE, zS, D])
         (refine ab rfl fun K0 V => ?_; simp only [zE, op1, ev, lkp, ah, ag, aZ, reduceCtorEq, E, D, J, U, O, S, Try.td4, Dfa.av]; refine V _ ?_; clear V K0; simp only [put, app, aa, af, zE, zS, D])
         refine aj ?_
         refine ⟨by simp only [Y, lkp, zE, reduceCtorEq, E, Z, D]; exact rfl, rfl, ?_, rfl⟩; (repeat refine aQ rfl ?_); exact bb (by exact rfl) hq68
        case b68 => exact b0 (by first | rfl | (simp [bD]; done) | decide)
        simp only [aW, aT]
        refine aj ?_
        refine hK67 _ ?_; clear hK67; refine ae [2, 3, 4, 6, 7, 9, 11, 12, 13, 14, 15, 16, 79, 90, 113, 119, 125, 137] ?_; simp only [Y, lkp, zE, reduceCtorEq, E, Z, D]
        refine aG (by simp only [ev, Y, lkp, zE, reduceCtorEq, E, Z, D]; exact rfl) (fun hc69 => ?_) (fun hc69 => ?_)
        · exfalso; (try simp only [zB, reduceCtorEq] at hc69); all_goals (first | (cases hc69; done) | omega | (simp at hc69; done) | (simp_all; done))
        ·(try simp only [zB, reduceCtorEq] at hc69)
         refine aH ?_
         refine hK20 _ ?_; clear hK20; refine ae [2, 3, 4, 6, 7, 9, 11, 12, 13, 14, 15, 16, 79, 90, 113, 119, 125, 137] ?_; simp only [Y, lkp, zE, reduceCtorEq, E, Z, D]
         first | (refine ae [2, 3, 4, 6, 7, 9, 11] ?_; simp only [Y, lkp, zE, reduceCtorEq, E]; refine cQ (L1 := [_, _]) rfl hB rfl rfl ?_) | skip
         refine ai hP hN rfl ?_
         iterate 3 (refine ab rfl fun K0 V => ?_; simp only [zE, op1, ev, lkp, ah, ag, aB, aC, aD, am, ay, aK, reduceCtorEq, E, D, J, U, O, S, Try.td3, Dfa.av]; (repeat refine And.intro (by first | omega | assumption | exact rfl) ?_); refine V _ ?_; clear V K0; simp only [put, app, aa, af, zE, zS, D])
         refine aj ?_
         refine ⟨_, _, ?_, aN [2, 3, 4, 6, 7, 9, 11], k + 1, by omega, rfl, rfl⟩
         omega
       ·(try simp only [zB, reduceCtorEq] at hc65)
        first | have ho := lZ (x := acV a w) (y := acV b w) hn0 hn1 hc65 | skip
        refine aH ?_
        refine hK63 _ ?_; clear hK63; refine ae [2, 3, 4, 6, 7, 9, 11, 12, 13, 14, 15, 16, 79, 90, 113, 119, 125] ?_; simp only [Y, lkp, zE, reduceCtorEq, E, Z, D]
        refine ad fun K70 hK70 => ?_
        first | rw [hz1, hz2, ho] | skip
        refine ai hP hN rfl ?_
        iterate 3 (refine ab rfl fun K0 V => ?_; simp only [zE, op1, ev, lkp, ah, ag, aB, aC, aD, am, ay, aK, reduceCtorEq, E, D, J, U, O, S, Try.td4, Dfa.av]; (repeat refine And.intro (by first | omega | assumption | exact rfl) ?_); refine V _ ?_; clear V K0; simp only [put, app, aa, af, zE, zS, D])
        (refine ab rfl fun K0 V => ?_; simp only [zE, op1, ev, lkp, ah, ag, ev, reduceCtorEq, E, D, J, U, O, S, Try.td4, Dfa.av]; refine V _ ?_; clear V K0; simp only [put, app, aa, af, zE, zS, D])
        refine' aP (want := false) 2 rfl (m := 134) (by simp only [Y, lkp, zE, reduceCtorEq, E, Z, D]; exact rfl) (by kernel_rfl) rfl rfl rfl rfl rfl (fun hg71 => ?a71) ?b71 ?c71
        case a71 =>
         have hq71 := hg71; (try simp only [zB, reduceCtorEq] at hg71); simp only [List.take_succ_cons, List.take_zero, List.cons_append, List.nil_append]
         (refine ax rfl fun K0 V => ?_; simp only [zE, op1, ev, lkp, ah, ag, ev, reduceCtorEq, E, D, J, U, O, S, Try.td29, Dfa.av]; refine V _ ?_; clear V K0; simp only [put, app, aa, af, zE, zS, D])
         (refine ax rfl fun K0 V => ?_; simp only [zE, op1, ev, lkp, ah, ag, aB, aC, aD, am, ay, aK, reduceCtorEq, E, D, J, U, O, S, Try.td29, Try.td4, Dfa.av]; (repeat refine And.intro (by first | omega | assumption | exact rfl) ?_); refine V _ ?_; clear V K0; simp only [put, app, aa, af, zE, zS, D])
         (refine ab rfl fun K0 V => ?_; simp only [zE, op1, ev, lkp, ah, ag, aZ, reduceCtorEq, E, D, J, U, O, S, Try.td4, Dfa.av]; refine V _ ?_; clear V K0; simp only [put, app, aa, af, zE, zS, D])
         refine aj ?_
         refine ⟨by simp only [Y, lkp, zE, reduceCtorEq, E, Z, D]; exact rfl, rfl, ?_, rfl⟩; (repeat refine aQ rfl ?_); exact bb (by exact rfl) hq71
        case b71 => exact b0 (by first | rfl | (simp [bD]; done) | decide)
        simp only [aW, aT]
        refine aj ?_
        refine hK70 _ ?_; clear hK70; refine ae [2, 3, 4, 6, 7, 9, 11, 12, 13, 14, 15, 16, 79, 90, 113, 119, 125, 137] ?_; simp only [Y, lkp, zE, reduceCtorEq, E, Z, D]
        refine aG (by simp only [ev, Y, lkp, zE, reduceCtorEq, E, Z, D]; exact rfl) (fun hc72 => ?_) (fun hc72 => ?_)
        · exfalso; (try simp only [zB, reduceCtorEq] at hc72); all_goals (first | (cases hc72; done) | omega | (simp at hc72; done) | (simp_all; done))
        ·(try simp only [zB, reduceCtorEq] at hc72)
         refine aH ?_
         refine hK20 _ ?_; clear hK20; refine ae [2, 3, 4, 6, 7, 9, 11, 12, 13, 14, 15, 16, 79, 90, 113, 119, 125, 137] ?_; simp only [Y, lkp, zE, reduceCtorEq, E, Z, D]
         first | (refine ae [2, 3, 4, 6, 7, 9, 11] ?_; simp only [Y, lkp, zE, reduceCtorEq, E]; refine cQ (L1 := [_, _]) rfl hB rfl rfl ?_) | skip
         refine ai hP hN rfl ?_
         iterate 3 (refine ab rfl fun K0 V => ?_; simp only [zE, op1, ev, lkp, ah, ag, aB, aC, aD, am, ay, aK, reduceCtorEq, E, D, J, U, O, S, Try.td3, Dfa.av]; (repeat refine And.intro (by first | omega | assumption | exact rfl) ?_); refine V _ ?_; clear V K0; simp only [put, app, aa, af, zE, zS, D])
         refine aj ?_
         refine ⟨_, _, ?_, aN [2, 3, 4, 6, 7, 9, 11], k + 1, by omega, rfl, rfl⟩
         omega
      ·(try simp only [zB, reduceCtorEq] at hc61)
       have hn1 : ¬ (k : Int) = 1 := hc61
       refine aH ?_
       refine hK59 _ ?_; clear hK59; refine ae [2, 3, 4, 6, 7, 9, 11, 12, 13, 14, 15, 16, 79, 90, 113, 119] ?_; simp only [Y, lkp, zE, reduceCtorEq, E, Z, D]
       refine ad fun K73 hK73 => ?_
       refine ad fun K74 hK74 => ?_
       refine ai hP hN rfl ?_
       iterate 2 (refine ab rfl fun K0 V => ?_; simp only [zE, op1, ev, lkp, ah, ag, aB, aC, aD, am, ay, aK, reduceCtorEq, E, D, J, U, O, S, Try.td3, Try.td4, Dfa.av]; (repeat refine And.intro (by first | omega | assumption | exact rfl) ?_); refine V _ ?_; clear V K0; simp only [put, app, aa, af, zE, zS, D])
       refine aj ?_
       refine hK74 _ ?_; clear hK74; refine ae [2, 3, 4, 6, 7, 9, 11, 12, 13, 14, 15, 16, 79, 90, 113, 119, 125] ?_; simp only [Y, lkp, zE, reduceCtorEq, E, Z, D]
       refine aG (by simp only [ev, Y, lkp, zE, reduceCtorEq, E, Z, D]; exact rfl) (fun hc75 => ?_) (fun hc75 => ?_)
       ·(try simp only [zB, reduceCtorEq] at hc75)
        have ho := m8 (x := acV a w) (y := acV b w) hc75
        refine ai hP hN rfl ?_
        (refine ab rfl fun K0 V => ?_; simp only [zE, op1, ev, lkp, ah, ag, ev, reduceCtorEq, E, D, J, U, O, S, Try.td4, Dfa.av]; refine V _ ?_; clear V K0; simp only [put, app, aa, af, zE, zS, D])
        (refine ab rfl fun K0 V => ?_; simp only [zE, op1, ev, lkp, ah, ag, ev, reduceCtorEq, E, D, J, U, O, S, Try.td4, Dfa.av]; refine V _ ?_; clear V K0; simp only [put, app, aa, af, zE, zS, D])
        refine' aP (want := true) 2 rfl (m := 127) (by simp only [Y, lkp, zE, reduceCtorEq, E, Z, D]; exact rfl) (by kernel_rfl) rfl rfl rfl rfl rfl (fun hg76 => ?a76) ?b76 ?c76
        case a76 =>
         have hq76 := hg76; (try simp only [zB, reduceCtorEq] at hg76); simp only [List.take_succ_cons, List.take_zero, List.cons_append, List.nil_append]
         (refine ax rfl fun K0 V => ?_; simp only [zE, op1, ev, lkp, ah, ag, ev, reduceCtorEq, E, D, J, U, O, S, Try.td4, Dfa.av]; refine V _ ?_; clear V K0; simp only [put, app, aa, af, zE, zS, D])
         (refine ax rfl fun K0 V => ?_; simp only [zE, op1, ev, lkp, ah, ag, ew, reduceCtorEq, E, D, J, U, O, S, Try.td4, Dfa.av]; (repeat refine And.intro (by first | omega | assumption | exact rfl) ?_); refine V _ ?_; clear V K0; simp only [put, app, aa, af, zE, zS, D])
         (refine ab rfl fun K0 V => ?_; simp only [zE, op1, ev, lkp, ah, ag, aZ, reduceCtorEq, E, D, J, U, O, S, Try.td4, Dfa.av]; refine V _ ?_; clear V K0; simp only [put, app, aa, af, zE, zS, D])
         refine aj ?_
         refine ⟨by simp only [Y, lkp, zE, reduceCtorEq, E, Z, D]; exact rfl, rfl, ?_, rfl⟩; (repeat refine aQ rfl ?_); exact bb (by exact rfl) hq76
        case b76 => exact b0 (by first | rfl | (simp [bD]; done) | decide)
        simp only [aW, aT]
        (refine ab rfl fun K0 V => ?_; simp only [zE, op1, ev, lkp, ah, ag, ev, reduceCtorEq, E, D, J, U, O, S, Try.td4, Dfa.av]; refine V _ ?_; clear V K0; simp only [put, app, aa, af, zE, zS, D])
        refine aj ?_
        refine hK73 _ ?_; clear hK73; refine ae [2, 3, 4, 6, 7, 9, 11, 12, 13, 14, 15, 16, 79, 90, 113, 119, 125] ?_; simp only [Y, lkp, zE, reduceCtorEq, E, Z, D]
        refine ad fun K77 hK77 => ?_
        first | rw [hz1, hz2, ho] | skip
        refine ai hP hN rfl ?_
        iterate 3 (refine ab rfl fun K0 V => ?_; simp only [zE, op1, ev, lkp, ah, ag, aB, aC, aD, am, ay, aK, reduceCtorEq, E, D, J, U, O, S, Try.td4, Dfa.av]; (repeat refine And.intro (by first | omega | assumption | exact rfl) ?_); refine V _ ?_; clear V K0; simp only [put, app, aa, af, zE, zS, D])
        (refine ab rfl fun K0 V => ?_; simp only [zE, op1, ev, lkp, ah, ag, ev, reduceCtorEq, E, D, J, U, O, S, Try.td4, Dfa.av]; refine V _ ?_; clear V K0; simp only [put, app, aa, af, zE, zS, D])
        refine' aP (want := false) 2 rfl (m := 134) (by simp only [Y, lkp, zE, reduceCtorEq, E, Z, D]; exact rfl) (by kernel_rfl) rfl rfl rfl rfl rfl (fun hg78 => ?a78) ?b78 ?c78
        case a78 =>
         have hq78 := hg78; (try simp only [zB, reduceCtorEq] at hg78); simp only [List.take_succ_cons, List.take_zero, List.cons_append, List.nil_append]
         (refine ax rfl fun K0 V => ?_; simp only [zE, op1, ev, lkp, ah, ag, ev, reduceCtorEq, E, D, J, U, O, S, Try.td29, Dfa.av]; refine V _ ?_; clear V K0; simp only [put, app, aa, af, zE, zS, D])
         (refine ax rfl fun K0 V => ?_; simp only [zE, op1, ev, lkp, ah, ag, aB, aC, aD, am, ay, aK, reduceCtorEq, E, D, J, U, O, S, Try.td29, Try.td4, Dfa.av]; (repeat refine And.intro (by first | omega | assumption | exact rfl) ?_); refine V _ ?_; clear V K0; simp only [put, app, aa, af, zE, zS, D])
         (refine ab rfl fun K0 V => ?_; simp only [zE, op1, ev, lkp, ah, ag, aZ, reduceCtorEq, E, D, J, U, O, S, Try.td4, Dfa.av]; refine V _ ?_; clear V K0; simp only [put, app, aa, af, zE, zS, D])
         refine aj ?_
         refine ⟨by simp only [Y, lkp, zE, reduceCtorEq, E, Z, D]; exact rfl, rfl, ?_, rfl⟩; (repeat refine aQ rfl ?_); exact bb (by exact rfl) hq78
        case b78 => exact b0 (by first | rfl | (simp [bD]; done) | decide)
        simp only [aW, aT]
        refine aj ?_
        refine hK77 _ ?_; clear hK77; refine ae [2, 3, 4, 6, 7, 9, 11, 12, 13, 14, 15, 16, 79, 90, 113, 119, 125, 137] ?_; simp only [Y, lkp, zE, reduceCtorEq, E, Z, D]
        refine aG (by simp only [ev, Y, lkp, zE, reduceCtorEq, E, Z, D]; exact rfl) (fun hc79 => ?_) (fun hc79 => ?_)
        · exfalso; (try simp only [zB, reduceCtorEq] at hc79); all_goals (first | (cases hc79; done) | omega | (simp at hc79; done) | (simp_all; done))
        ·(try simp only [zB, reduceCtorEq] at hc79)
         refine aH ?_
         refine hK20 _ ?_; clear hK20; refine ae [2, 3, 4, 6, 7, 9, 11, 12, 13, 14, 15, 16, 79, 90, 113, 119, 125, 137] ?_; simp only [Y, lkp, zE, reduceCtorEq, E, Z, D]
         first | (refine ae [2, 3, 4, 6, 7, 9, 11] ?_; simp only [Y, lkp, zE, reduceCtorEq, E]; refine cQ (L1 := [_, _]) rfl hB rfl rfl ?_) | skip
         refine ai hP hN rfl ?_
         iterate 3 (refine ab rfl fun K0 V => ?_; simp only [zE, op1, ev, lkp, ah, ag, aB, aC, aD, am, ay, aK, reduceCtorEq, E, D, J, U, O, S, Try.td3, Dfa.av]; (repeat refine And.intro (by first | omega | assumption | exact rfl) ?_); refine V _ ?_; clear V K0; simp only [put, app, aa, af, zE, zS, D])
         refine aj ?_
         refine ⟨_, _, ?_, aN [2, 3, 4, 6, 7, 9, 11], k + 1, by omega, rfl, rfl⟩
         omega
       ·(try simp only [zB, reduceCtorEq] at hc75)
        first | have ho := lZ (x := acV a w) (y := acV b w) hn0 hn1 hc75 | skip
        refine aH ?_
        refine hK73 _ ?_; clear hK73; refine ae [2, 3, 4, 6, 7, 9, 11, 12, 13, 14, 15, 16, 79, 90, 113, 119, 125] ?_; simp only [Y, lkp, zE, reduceCtorEq, E, Z, D]
        refine ad fun K80 hK80 => ?_
        first | rw [hz1, hz2, ho] | skip
        refine ai hP hN rfl ?_
        iterate 3 (refine ab rfl fun K0 V => ?_; simp only [zE, op1, ev, lkp, ah, ag, aB, aC, aD, am, ay, aK, reduceCtorEq, E, D, J, U, O, S, Try.td4, Dfa.av]; (repeat refine And.intro (by first | omega | assumption | exact rfl) ?_); refine V _ ?_; clear V K0; simp only [put, app, aa, af, zE, zS, D])
        (refine ab rfl fun K0 V => ?_; simp only [zE, op1, ev, lkp, ah, ag, ev, reduceCtorEq, E, D, J, U, O, S, Try.td4, Dfa.av]; refine V _ ?_; clear V K0; simp only [put, app, aa, af, zE, zS, D])
        refine' aP (want := false) 2 rfl (m := 134) (by simp only [Y, lkp, zE, reduceCtorEq, E, Z, D]; exact rfl) (by kernel_rfl) rfl rfl rfl rfl rfl (fun hg81 => ?a81) ?b81 ?c81
        case a81 =>
         have hq81 := hg81; (try simp only [zB, reduceCtorEq] at hg81); simp only [List.take_succ_cons, List.take_zero, List.cons_append, List.nil_append]
         (refine ax rfl fun K0 V => ?_; simp only [zE, op1, ev, lkp, ah, ag, ev, reduceCtorEq, E, D, J, U, O, S, Try.td29, Dfa.av]; refine V _ ?_; clear V K0; simp only [put, app, aa, af, zE, zS, D])
         (refine ax rfl fun K0 V => ?_; simp only [zE, op1, ev, lkp, ah, ag, aB, aC, aD, am, ay, aK, reduceCtorEq, E, D, J, U, O, S, Try.td29, Try.td4, Dfa.av]; (repeat refine And.intro (by first | omega | assumption | exact rfl) ?_); refine V _ ?_; clear V K0; simp only [put, app, aa, af, zE, zS, D])
         (refine ab rfl fun K0 V => ?_; simp only [zE, op1, ev, lkp, ah, ag, aZ, reduceCtorEq, E, D, J, U, O, S, Try.td4, Dfa.av]; refine V _ ?_; clear V K0; simp only [put, app, aa, af, zE, zS, D])
         refine aj ?_
         refine ⟨by simp only [Y, lkp, zE, reduceCtorEq, E, Z, D]; exact rfl, rfl, ?_, rfl⟩; (repeat refine aQ rfl ?_); exact bb (by exact rfl) hq81
        case b81 => exact b0 (by first | rfl | (simp [bD]; done) | decide)
        simp only [aW, aT]
        refine aj ?_
        refine hK80 _ ?_; clear hK80; refine ae [2, 3, 4, 6, 7, 9, 11, 12, 13, 14, 15, 16, 79, 90, 113, 119, 125, 137] ?_; simp only [Y, lkp, zE, reduceCtorEq, E, Z, D]
        refine aG (by simp only [ev, Y, lkp, zE, reduceCtorEq, E, Z, D]; exact rfl) (fun hc82 => ?_) (fun hc82 => ?_)
        · exfalso; (try simp only [zB, reduceCtorEq] at hc82); all_goals (first | (cases hc82; done) | omega | (simp at hc82; done) | (simp_all; done))
        ·(try simp only [zB, reduceCtorEq] at hc82)
         refine aH ?_
         refine hK20 _ ?_; clear hK20; refine ae [2, 3, 4, 6, 7, 9, 11, 12, 13, 14, 15, 16, 79, 90, 113, 119, 125, 137] ?_; simp only [Y, lkp, zE, reduceCtorEq, E, Z, D]
         first | (refine ae [2, 3, 4, 6, 7, 9, 11] ?_; simp only [Y, lkp, zE, reduceCtorEq, E]; refine cQ (L1 := [_, _]) rfl hB rfl rfl ?_) | skip
         refine ai hP hN rfl ?_
         iterate 3 (refine ab rfl fun K0 V => ?_; simp only [zE, op1, ev, lkp, ah, ag, aB, aC, aD, am, ay, aK, reduceCtorEq, E, D, J, U, O, S, Try.td3, Dfa.av]; (repeat refine And.intro (by first | omega | assumption | exact rfl) ?_); refine V _ ?_; clear V K0; simp only [put, app, aa, af, zE, zS, D])
         refine aj ?_
         refine ⟨_, _, ?_, aN [2, 3, 4, 6, 7, 9, 11], k + 1, by omega, rfl, rfl⟩
         omega
   ·(try simp only [zB, reduceCtorEq] at hc19)
    refine bB ?_
    refine hK14 _ ?_; clear hK14; refine ae [2, 3, 4, 6, 7, 9, 11, 79] ?_; simp only [Y, lkp, zE, reduceCtorEq, E, Z, D]
    refine ad fun K83 hK83 => ?_
    refine ai hP hN rfl ?_
    iterate 2 (refine ab rfl fun K0 V => ?_; simp only [zE, op1, ev, lkp, ah, ag, aA, Nat.mul_one, aw, az, acs, Ty.dflt, zG, au, reduceCtorEq, E, D, J, U, O, S, Try.st25, Try.td25, Dfa.av]; (repeat refine And.intro (by first | omega | assumption | exact rfl) ?_); refine V _ ?_; clear V K0; simp only [put, app, aa, af, zE, zS, D])
    refine ab rfl fun K0 V => ?_
    refine aU (h := aF (kC a b)) rfl rfl (by first | exact rfl | (simp only [ev, Y, lkp, zE, reduceCtorEq, E, Z, D]; exact rfl)) (by simp only [zE, zG, op1, ev, lkp, ah, ag, aq, acs, aY, mv1, mvC, Ty.dflt, reduceCtorEq, E, D, J, U, O, S, Dfa.av]) ?_
    refine V _ ?_; clear V K0; simp only [put, app, aa, af, zE, zS, D]
    iterate 7 (refine ab rfl fun K0 V => ?_; simp only [zE, op1, ev, lkp, ah, ag, bz, reduceCtorEq, E, D, J, U, O, S, Try.el26, Try.td1, Try.td2, Try.td26, Try.td29, Try.td4, Dfa.av]; refine V _ ?_; clear V K0; simp only [put, app, aa, af, zE, zS, D])
    refine aj ?_
    refine hK83 _ ?_; clear hK83; refine ae [2, 3, 4, 6, 7, 9, 11, 17, 18, 19, 79] ?_; simp only [Y, lkp, zE, reduceCtorEq, E, Z, D]
    refine ad fun K84 hK84 => ?_
    refine ai hP hN rfl ?_
    iterate 2 (refine ab rfl fun K0 V => ?_; simp only [zE, op1, ev, lkp, ah, ag, aA, Nat.mul_one, aw, az, acs, Ty.dflt, zG, au, reduceCtorEq, E, D, J, U, O, S, Try.el26, Try.st25, Try.td25, Try.td26, Dfa.av]; (repeat refine And.intro (by first | omega | assumption | exact rfl) ?_); refine V _ ?_; clear V K0; simp only [put, app, aa, af, zE, zS, D])
    refine ab rfl fun K0 V => ?_
    refine aU (h := aF (di a (dA a b))) rfl rfl (by first | exact rfl | (simp only [ev, Y, lkp, zE, reduceCtorEq, E, Z, D]; exact rfl)) (by simp only [zE, zG, op1, ev, lkp, ah, ag, aq, acs, aY, mv1, mvC, Ty.dflt, reduceCtorEq, E, D, J, U, O, S, Dfa.av]) ?_
    refine V _ ?_; clear V K0; simp only [put, app, aa, af, zE, zS, D]
    iterate 5 (refine ab rfl fun K0 V => ?_; simp only [zE, op1, ev, lkp, ah, ag, bz, reduceCtorEq, E, D, J, U, O, S, Try.td1, Try.td29, Try.td4, Dfa.av]; refine V _ ?_; clear V K0; simp only [put, app, aa, af, zE, zS, D])
    refine aj ?_
    refine hK84 _ ?_; clear hK84; refine ae [2, 3, 4, 6, 7, 9, 11, 17, 18, 19, 20, 79] ?_; simp only [Y, lkp, zE, reduceCtorEq, E, Z, D]
    refine ad fun K85 hK85 => ?_
    refine ai hP hN rfl ?_
    iterate 2 (refine ab rfl fun K0 V => ?_; simp only [zE, op1, ev, lkp, ah, ag, aA, Nat.mul_one, aw, az, acs, Ty.dflt, zG, au, reduceCtorEq, E, D, J, U, O, S, Try.el26, Try.st25, Try.td25, Try.td26, Dfa.av]; (repeat refine And.intro (by first | omega | assumption | exact rfl) ?_); refine V _ ?_; clear V K0; simp only [put, app, aa, af, zE, zS, D])
    refine ab rfl fun K0 V => ?_
    refine aU (h := aF (di b (dA a b))) rfl rfl (by first | exact rfl | (simp only [ev, Y, lkp, zE, reduceCtorEq, E, Z, D]; exact rfl)) (by simp only [zE, zG, op1, ev, lkp, ah, ag, aq, acs, aY, mv1, mvC, Ty.dflt, reduceCtorEq, E, D, J, U, O, S, Dfa.av]) ?_
    refine V _ ?_; clear V K0; simp only [put, app, aa, af, zE, zS, D]
    iterate 5 (refine ab rfl fun K0 V => ?_; simp only [zE, op1, ev, lkp, ah, ag, bz, reduceCtorEq, E, D, J, U, O, S, Try.td1, Try.td29, Try.td4, Dfa.av]; refine V _ ?_; clear V K0; simp only [put, app, aa, af, zE, zS, D])
    refine aj ?_
    refine hK85 _ ?_; clear hK85; refine ae [2, 3, 4, 6, 7, 9, 11, 17, 18, 19, 20, 22, 79] ?_; simp only [Y, lkp, zE, reduceCtorEq, E, Z, D]
    refine ad fun K86 hK86 => ?_
    refine ai hP hN rfl ?_
    (refine ab rfl fun K0 V => ?_; simp only [zE, op1, ev, lkp, ah, ag, aA, Nat.mul_one, aw, az, acs, Ty.dflt, zG, au, reduceCtorEq, E, D, J, U, O, S, Try.st25, Try.td25, Dfa.av]; (repeat refine And.intro (by first | omega | assumption | exact rfl) ?_); refine V _ ?_; clear V K0; simp only [put, app, aa, af, zE, zS, D])
    refine ab rfl fun K0 V => ?_
    refine aU (h := aF (lS a)) rfl rfl (by first | exact rfl | (simp only [ev, Y, lkp, zE, reduceCtorEq, E, Z, D]; exact rfl)) (by simp only [zE, zG, op1, ev, lkp, ah, ag, aq, acs, aY, mv1, mvC, Ty.dflt, reduceCtorEq, E, D, J, U, O, S, Dfa.av]) ?_
    refine V _ ?_; clear V K0; simp only [put, app, aa, af, zE, zS, D]
    iterate 6 (refine ab rfl fun K0 V => ?_; simp only [zE, op1, ev, lkp, ah, ag, bz, bI, bl, Nat.mul_one, aq, aR, aL, acs, Ty.size, Ty.dflt, zG, reduceCtorEq, E, D, J, U, O, S, Try.st25, Try.td1, Try.td25, Try.td29, Dfa.av]; (repeat refine And.intro (by first | omega | assumption | exact rfl) ?_); (first | refine V _ ?_ | refine Or.inl (V _ ?_)); clear V K0; simp only [put, app, aa, af, zE, zS, D])
    refine aj ?_
    refine hK86 _ ?_; clear hK86; refine ae [2, 3, 4, 6, 7, 9, 11, 17, 18, 19, 20, 22, 24, 25, 79] ?_; simp only [Y, lkp, zE, reduceCtorEq, E, Z, D]
    refine ad fun K87 hK87 => ?_
    refine ai hP hN rfl ?_
    (refine ab rfl fun K0 V => ?_; simp only [zE, op1, ev, lkp, ah, ag, aA, Nat.mul_one, aw, az, acs, Ty.dflt, zG, au, reduceCtorEq, E, D, J, U, O, S, Try.st25, Try.td25, Dfa.av]; (repeat refine And.intro (by first | omega | assumption | exact rfl) ?_); refine V _ ?_; clear V K0; simp only [put, app, aa, af, zE, zS, D])
    refine ab rfl fun K0 V => ?_
    refine aU (h := aF (lS b)) rfl rfl (by first | exact rfl | (simp only [ev, Y, lkp, zE, reduceCtorEq, E, Z, D]; exact rfl)) (by simp only [zE, zG, op1, ev, lkp, ah, ag, aq, acs, aY, mv1, mvC, Ty.dflt, reduceCtorEq, E, D, J, U, O, S, Dfa.av]) ?_
    refine V _ ?_; clear V K0; simp only [put, app, aa, af, zE, zS, D]
    iterate 6 (refine ab rfl fun K0 V => ?_; simp only [zE, op1, ev, lkp, ah, ag, bz, bI, bl, Nat.mul_one, aq, aR, aL, acs, Ty.size, Ty.dflt, zG, reduceCtorEq, E, D, J, U, O, S, Try.st25, Try.td1, Try.td25, Try.td29, Dfa.av]; (repeat refine And.intro (by first | omega | assumption | exact rfl) ?_); (first | refine V _ ?_ | refine Or.inl (V _ ?_)); clear V K0; simp only [put, app, aa, af, zE, zS, D])
    refine aj ?_
    refine hK87 _ ?_; clear hK87; refine ae [2, 3, 4, 6, 7, 9, 11, 17, 18, 19, 20, 22, 24, 25, 26, 27, 79] ?_; simp only [Y, lkp, zE, reduceCtorEq, E, Z, D]
    refine ad fun K88 hK88 => ?_
    refine ad fun K89 hK89 => ?_
    have hpq := sL ht (by omega)
    have hcm := fun e => qK (w := w) ht hwe e
    refine ai hP hN rfl ?_
    iterate 2 (refine ab rfl fun K0 V => ?_; simp only [zE, op1, ev, lkp, ah, ag, aB, aC, aD, am, ay, aK, reduceCtorEq, E, D, J, U, O, S, Try.td29, Try.td4, Dfa.av]; (repeat refine And.intro (by first | omega | assumption | exact rfl) ?_); refine V _ ?_; clear V K0; simp only [put, app, aa, af, zE, zS, D])
    (refine ab rfl fun K0 V => ?_; simp only [zE, op1, ev, lkp, ah, ag, ev, reduceCtorEq, E, D, J, U, O, S, Try.td4, Dfa.av]; refine V _ ?_; clear V K0; simp only [put, app, aa, af, zE, zS, D])
    refine' aP (want := false) 2 rfl (m := 169) (by simp only [Y, lkp, zE, reduceCtorEq, E, Z, D]; exact rfl) (by kernel_rfl) rfl rfl rfl rfl rfl (fun hg90 => ?a90) ?b90 ?c90
    case a90 =>
     have hq90 := hg90; (try simp only [zB, reduceCtorEq] at hg90); simp only [List.take_succ_cons, List.take_zero, List.cons_append, List.nil_append]
     (refine ax rfl fun K0 V => ?_; simp only [zE, op1, ev, lkp, ah, ag, ev, reduceCtorEq, E, D, J, U, O, S, Try.td29, Dfa.av]; refine V _ ?_; clear V K0; simp only [put, app, aa, af, zE, zS, D])
     (refine ax rfl fun K0 V => ?_; simp only [zE, op1, ev, lkp, ah, ag, aB, aC, aD, am, ay, aK, reduceCtorEq, E, D, J, U, O, S, Try.td29, Try.td4, Dfa.av]; (repeat refine And.intro (by first | omega | assumption | exact rfl) ?_); refine V _ ?_; clear V K0; simp only [put, app, aa, af, zE, zS, D])
     (refine ab rfl fun K0 V => ?_; simp only [zE, op1, ev, lkp, ah, ag, aZ, reduceCtorEq, E, D, J, U, O, S, Try.td4, Dfa.av]; refine V _ ?_; clear V K0; simp only [put, app, aa, af, zE, zS, D])
     refine aj ?_
     refine ⟨by simp only [Y, lkp, zE, reduceCtorEq, E, Z, D]; exact rfl, rfl, ?_, rfl⟩; (repeat refine aQ rfl ?_); exact bb (by exact rfl) hq90
    case b90 => exact b0 (by first | rfl | (simp [bD]; done) | decide)
    simp only [aW, aT]
    (refine ab rfl fun K0 V => ?_; simp only [zE, op1, ev, lkp, ah, ag, ev, reduceCtorEq, E, D, J, U, O, S, Try.td4, Dfa.av]; refine V _ ?_; clear V K0; simp only [put, app, aa, af, zE, zS, D])
    refine' aP (want := false) 2 rfl (m := 173) (by simp only [Y, lkp, zE, reduceCtorEq, E, Z, D]; exact rfl) (by kernel_rfl) rfl rfl rfl rfl rfl (fun hg91 => ?a91) ?b91 ?c91
    case a91 =>
     have hq91 := hg91; (try simp only [zB, reduceCtorEq] at hg91); simp only [List.take_succ_cons, List.take_zero, List.cons_append, List.nil_append]
     (refine ax rfl fun K0 V => ?_; simp only [zE, op1, ev, lkp, ah, ag, ev, reduceCtorEq, E, D, J, U, O, S, Try.td29, Dfa.av]; refine V _ ?_; clear V K0; simp only [put, app, aa, af, zE, zS, D])
     (refine ax rfl fun K0 V => ?_; simp only [zE, op1, ev, lkp, ah, ag, aB, aC, aD, am, ay, aK, reduceCtorEq, E, D, J, U, O, S, Try.td29, Try.td4, Dfa.av]; (repeat refine And.intro (by first | omega | assumption | exact rfl) ?_); refine V _ ?_; clear V K0; simp only [put, app, aa, af, zE, zS, D])
     (refine ab rfl fun K0 V => ?_; simp only [zE, op1, ev, lkp, ah, ag, aZ, reduceCtorEq, E, D, J, U, O, S, Try.td4, Dfa.av]; refine V _ ?_; clear V K0; simp only [put, app, aa, af, zE, zS, D])
     refine aj ?_
     refine ⟨by simp only [Y, lkp, zE, reduceCtorEq, E, Z, D]; exact rfl, rfl, ?_, rfl⟩; (repeat refine aQ rfl ?_); exact bb (by exact rfl) hq91
    case b91 => exact b0 (by first | rfl | (simp [bD]; done) | decide)
    simp only [aW, aT]
    (refine ab rfl fun K0 V => ?_; simp only [zE, op1, ev, lkp, ah, ag, ev, reduceCtorEq, E, D, J, U, O, S, Try.td4, Dfa.av]; refine V _ ?_; clear V K0; simp only [put, app, aa, af, zE, zS, D])
    refine' aP (want := false) 5 rfl (m := 177) (by simp only [Y, lkp, zE, reduceCtorEq, E, Z, D]; exact rfl) (by kernel_rfl) rfl rfl rfl rfl rfl (fun hg92 => ?a92) ?b92 ?c92
    case a92 =>
     have hq92 := hg92; (try simp only [zB, reduceCtorEq] at hg92); simp only [List.take_succ_cons, List.take_zero, List.cons_append, List.nil_append]
     (refine ax rfl fun K0 V => ?_; simp only [zE, op1, ev, lkp, ah, ag, ev, reduceCtorEq, E, D, J, U, O, S, Try.td4, Dfa.av]; refine V _ ?_; clear V K0; simp only [put, app, aa, af, zE, zS, D])
     (refine ax rfl fun K0 V => ?_; simp only [zE, op1, ev, lkp, ah, ag, ev, reduceCtorEq, E, D, J, U, O, S, Try.td4, Dfa.av]; refine V _ ?_; clear V K0; simp only [put, app, aa, af, zE, zS, D])
     (refine ax rfl fun K0 V => ?_; simp only [zE, op1, ev, lkp, ah, ag, ev, reduceCtorEq, E, D, J, U, O, S, Try.td4, Dfa.av]; refine V _ ?_; clear V K0; simp only [put, app, aa, af, zE, zS, D])
     (refine ax rfl fun K0 V => ?_; simp only [zE, op1, ev, lkp, ah, ag, aB, aC, aD, am, ay, aK, reduceCtorEq, E, D, J, U, O, S, Try.td4, Dfa.av]; (repeat refine And.intro (by first | omega | assumption | exact rfl) ?_); refine V _ ?_; clear V K0; simp only [put, app, aa, af, zE, zS, D])
     (refine ax rfl fun K0 V => ?_; simp only [zE, op1, ev, lkp, ah, ag, aB, aC, aD, am, ay, aK, reduceCtorEq, E, D, J, U, O, S, Try.td4, Dfa.av]; (repeat refine And.intro (by first | omega | assumption | exact rfl) ?_); refine V _ ?_; clear V K0; simp only [put, app, aa, af, zE, zS, D])
     (refine ab rfl fun K0 V => ?_; simp only [zE, op1, ev, lkp, ah, ag, aZ, reduceCtorEq, E, D, J, U, O, S, Try.td4, Dfa.av]; refine V _ ?_; clear V K0; simp only [put, app, aa, af, zE, zS, D])
     refine aj ?_
     refine ⟨by simp only [Y, lkp, zE, reduceCtorEq, E, Z, D]; exact rfl, rfl, ?_, rfl⟩; (repeat refine aQ rfl ?_); exact bb (by exact rfl) hq92
    case b92 => exact b0 (by first | rfl | (simp [bD]; done) | decide)
    simp only [aW, aT]
    (refine ab rfl fun K0 V => ?_; simp only [zE, op1, ev, lkp, ah, ag, ev, reduceCtorEq, E, D, J, U, O, S, Try.td4, Dfa.av]; refine V _ ?_; clear V K0; simp only [put, app, aa, af, zE, zS, D])
    refine' aP (want := false) 13 rfl (m := 184) (by simp only [Y, lkp, zE, reduceCtorEq, E, Z, D]; exact rfl) (by kernel_rfl) rfl rfl rfl rfl rfl (fun hg93 => ?a93) ?b93 ?c93
    case a93 =>
     have hq93 := hg93; (try simp only [zB, reduceCtorEq] at hg93); simp only [List.take_succ_cons, List.take_zero, List.cons_append, List.nil_append]
     (refine ax rfl fun K0 V => ?_; simp only [zE, op1, ev, lkp, ah, ag, ev, reduceCtorEq, E, D, J, U, O, S, Try.td4, Dfa.av]; refine V _ ?_; clear V K0; simp only [put, app, aa, af, zE, zS, D])
     (refine ax rfl fun K0 V => ?_; simp only [zE, op1, ev, lkp, ah, ag, ev, reduceCtorEq, E, D, J, U, O, S, Try.td4, Dfa.av]; refine V _ ?_; clear V K0; simp only [put, app, aa, af, zE, zS, D])
     (refine ax rfl fun K0 V => ?_; simp only [zE, op1, ev, lkp, ah, ag, aB, aC, aD, am, ay, aK, reduceCtorEq, E, D, J, U, O, S, Try.td4, Dfa.av]; (repeat refine And.intro (by first | omega | assumption | exact rfl) ?_); refine V _ ?_; clear V K0; simp only [put, app, aa, af, zE, zS, D])
     (refine ax rfl fun K0 V => ?_; simp only [zE, op1, ev, lkp, ah, ag, ev, reduceCtorEq, E, D, J, U, O, S, Try.td4, Dfa.av]; refine V _ ?_; clear V K0; simp only [put, app, aa, af, zE, zS, D])
     refine' aP (want := true) 8 rfl (m := 188) (by simp only [Y, lkp, zE, reduceCtorEq, E, Z, D]; exact rfl) (by kernel_rfl) rfl rfl rfl rfl rfl (fun hg94 => ?a94) ?b94 ?c94
     case a94 =>
      have hq94 := hg94; (try simp only [zB, reduceCtorEq] at hg94); simp only [List.take_succ_cons, List.take_zero, List.cons_append, List.nil_append]
      (refine ax rfl fun K0 V => ?_; simp only [zE, op1, ev, lkp, ah, ag, ev, reduceCtorEq, E, D, J, U, O, S, Try.td4, Dfa.av]; refine V _ ?_; clear V K0; simp only [put, app, aa, af, zE, zS, D])
      (refine ax rfl fun K0 V => ?_; simp only [zE, op1, ev, lkp, ah, ag, ew, reduceCtorEq, E, D, J, U, O, S, Try.td4, Dfa.av]; (repeat refine And.intro (by first | omega | assumption | exact rfl) ?_); refine V _ ?_; clear V K0; simp only [put, app, aa, af, zE, zS, D])
      (refine ax rfl fun K0 V => ?_; simp only [zE, op1, ev, lkp, ah, ag, ev, reduceCtorEq, E, D, J, U, O, S, Try.td4, Dfa.av]; refine V _ ?_; clear V K0; simp only [put, app, aa, af, zE, zS, D])
      refine' aP (want := false) 4 rfl (m := 191) (by simp only [Y, lkp, zE, reduceCtorEq, E, Z, D]; exact rfl) (by kernel_rfl) rfl rfl rfl rfl rfl (fun hg95 => ?a95) ?b95 ?c95
      case a95 =>
       have hq95 := hg95; (try simp only [zB, reduceCtorEq] at hg95); simp only [List.take_succ_cons, List.take_zero, List.cons_append, List.nil_append]
       (refine ax rfl fun K0 V => ?_; simp only [zE, op1, ev, lkp, ah, ag, ev, reduceCtorEq, E, D, J, U, O, S, Try.el26, Try.td26, Dfa.av]; refine V _ ?_; clear V K0; simp only [put, app, aa, af, zE, zS, D])
       (refine ax rfl fun K0 V => ?_; simp only [zE, op1, ev, lkp, ah, ag, ev, reduceCtorEq, E, D, J, U, O, S, Try.el26, Try.td26, Dfa.av]; refine V _ ?_; clear V K0; simp only [put, app, aa, af, zE, zS, D])
       refine ax rfl fun K0 V => ?_
       refine aU (h := aF (sM (dA a b) w)) rfl rfl (by first | exact rfl | (simp only [ev, Y, lkp, zE, reduceCtorEq, E, Z, D]; exact rfl)) (by simp only [zE, zG, op1, ev, lkp, ah, ag, aq, acs, aY, mv1, mvC, Ty.dflt, reduceCtorEq, E, D, J, U, O, S, Dfa.av]) ?_
       refine V _ ?_; clear V K0; simp only [put, app, aa, af, zE, zS, D]
       (refine ax rfl fun K0 V => ?_; simp only [zE, op1, ev, lkp, ah, ag, aB, aC, aD, am, ay, aK, reduceCtorEq, E, D, J, U, O, S, Try.td3, Try.td4, Dfa.av]; (repeat refine And.intro (by first | omega | assumption | exact rfl) ?_); refine V _ ?_; clear V K0; simp only [put, app, aa, af, zE, zS, D])
       (refine ax rfl fun K0 V => ?_; simp only [zE, op1, ev, lkp, ah, ag, aZ, reduceCtorEq, E, D, J, U, O, S, Try.td4, Dfa.av]; refine V _ ?_; clear V K0; simp only [put, app, aa, af, zE, zS, D])
       refine aj ?_
       refine ⟨by simp only [Y, lkp, zE, reduceCtorEq, E, Z, D]; exact rfl, rfl, ?_, rfl⟩; (repeat refine aQ rfl ?_); exact bb (by exact rfl) hq95
      case b95 => exact b0 (by first | rfl | (simp [bD]; done) | decide)
      simp only [aW, aT]
      (refine ax rfl fun K0 V => ?_; simp only [zE, op1, ev, lkp, ah, ag, aZ, reduceCtorEq, E, D, J, U, O, S, Try.td4, Dfa.av]; refine V _ ?_; clear V K0; simp only [put, app, aa, af, zE, zS, D])
      refine aj ?_
      refine ⟨by simp only [Y, lkp, zE, reduceCtorEq, E, Z, D]; exact rfl, rfl, ?_, rfl⟩; (repeat refine aQ rfl ?_); exact bb (by exact rfl) hq94
     case b94 => exact b0 (by first | rfl | (simp [bD]; done) | decide)
     simp only [aW, aT]
     (refine ab rfl fun K0 V => ?_; simp only [zE, op1, ev, lkp, ah, ag, aZ, reduceCtorEq, E, D, J, U, O, S, Try.td4, Dfa.av]; refine V _ ?_; clear V K0; simp only [put, app, aa, af, zE, zS, D])
     refine aj ?_
     refine ⟨by simp only [Y, lkp, zE, reduceCtorEq, E, Z, D]; exact rfl, rfl, ?_, rfl⟩; (repeat refine aQ rfl ?_); exact bb (by exact rfl) hq93
    case b93 => exact b0 (by first | rfl | (simp [bD]; done) | decide)
    simp only [aW, aT]
    refine aj ?_
    refine hK89 _ ?_; clear hK89; refine ae [2, 3, 4, 6, 7, 9, 11, 17, 18, 19, 20, 22, 24, 25, 26, 27, 79, 198] ?_; simp only [Y, lkp, zE, reduceCtorEq, E, Z, D]
    refine aG (by simp only [ev, Y, lkp, zE, reduceCtorEq, E, Z, D]; exact rfl) (fun hc96 => ?_) (fun hc96 => ?_)
    ·exfalso; (try simp only [zB, reduceCtorEq] at hc96)
     by_cases e9 : acV a w = acV b w
     · simp [ht, hva, hvb, e9, ← hpq] at hc96
     · obtain ⟨c1, c2⟩ := hcm e9
       rw [c1] at hpq
       simp [ht, hva, hvb, c1, hpq] at hc96
       omega
    ·(try simp only [zB, reduceCtorEq] at hc96)
     refine aH ?_
     refine hK88 _ ?_; clear hK88; refine ae [2, 3, 4, 6, 7, 9, 11, 17, 18, 19, 20, 22, 24, 25, 26, 27, 79, 198] ?_; simp only [Y, lkp, zE, reduceCtorEq, E, Z, D]
     refine ad fun K97 hK97 => ?_
     refine ai hP hN rfl ?_
     iterate 2 (refine ab rfl fun K0 V => ?_; simp only [zE, op1, ev, lkp, ah, ag, aA, Nat.mul_one, aw, az, acs, Ty.dflt, zG, au, reduceCtorEq, E, D, J, U, O, S, Try.el26, Try.st25, Try.td25, Try.td26, Dfa.av]; (repeat refine And.intro (by first | omega | assumption | exact rfl) ?_); refine V _ ?_; clear V K0; simp only [put, app, aa, af, zE, zS, D])
     refine ab rfl fun K0 V => ?_
     refine aU (h := aF (di (cW a) w)) rfl rfl (by first | exact rfl | (simp only [ev, Y, lkp, zE, reduceCtorEq, E, Z, D]; exact rfl)) (by simp only [zE, zG, op1, ev, lkp, ah, ag, aq, acs, aY, mv1, mvC, Ty.dflt, reduceCtorEq, E, D, J, U, O, S, Dfa.av]) ?_
     refine V _ ?_; clear V K0; simp only [put, app, aa, af, zE, zS, D]
     iterate 5 (refine ab rfl fun K0 V => ?_; simp only [zE, op1, ev, lkp, ah, ag, bz, reduceCtorEq, E, D, J, U, O, S, Try.td1, Try.td29, Try.td4, Dfa.av]; refine V _ ?_; clear V K0; simp only [put, app, aa, af, zE, zS, D])
     refine aj ?_
     refine hK97 _ ?_; clear hK97; refine ae [2, 3, 4, 6, 7, 9, 11, 17, 18, 19, 20, 22, 24, 25, 26, 27, 28, 29, 79, 198] ?_; simp only [Y, lkp, zE, reduceCtorEq, E, Z, D]
     refine ad fun K98 hK98 => ?_
     obtain ⟨hm1, hm2, hm3⟩ := qR ha hwe
     have hds := o7 ht
     refine ai hP hN rfl ?_
     iterate 3 (refine ab rfl fun K0 V => ?_; simp only [zE, op1, ev, lkp, ah, ag, aB, aC, aD, am, ay, aK, reduceCtorEq, E, D, J, U, O, S, Try.td4, Dfa.av]; (repeat refine And.intro (by first | omega | assumption | exact rfl) ?_); refine V _ ?_; clear V K0; simp only [put, app, aa, af, zE, zS, D])
     (refine ab rfl fun K0 V => ?_; simp only [zE, op1, ev, lkp, ah, ag, ev, reduceCtorEq, E, D, J, U, O, S, Try.td4, Dfa.av]; refine V _ ?_; clear V K0; simp only [put, app, aa, af, zE, zS, D])
     refine' aP (want := true) 2 rfl (m := 208) (by simp only [Y, lkp, zE, reduceCtorEq, E, Z, D]; exact rfl) (by kernel_rfl) rfl rfl rfl rfl rfl (fun hg99 => ?a99) ?b99 ?c99
     case a99 =>
      have hq99 := hg99; (try simp only [zB, reduceCtorEq] at hg99); simp only [List.take_succ_cons, List.take_zero, List.cons_append, List.nil_append]
      (refine ax rfl fun K0 V => ?_; simp only [zE, op1, ev, lkp, ah, ag, ev, reduceCtorEq, E, D, J, U, O, S, Try.td29, Dfa.av]; refine V _ ?_; clear V K0; simp only [put, app, aa, af, zE, zS, D])
      (refine ax rfl fun K0 V => ?_; simp only [zE, op1, ev, lkp, ah, ag, aB, aC, aD, am, ay, aK, reduceCtorEq, E, D, J, U, O, S, Try.td29, Try.td4, Dfa.av]; (repeat refine And.intro (by first | omega | assumption | exact rfl) ?_); refine V _ ?_; clear V K0; simp only [put, app, aa, af, zE, zS, D])
      (refine ab rfl fun K0 V => ?_; simp only [zE, op1, ev, lkp, ah, ag, aZ, reduceCtorEq, E, D, J, U, O, S, Try.td4, Dfa.av]; refine V _ ?_; clear V K0; simp only [put, app, aa, af, zE, zS, D])
      refine aj ?_
      refine ⟨by simp only [Y, lkp, zE, reduceCtorEq, E, Z, D]; exact rfl, rfl, ?_, rfl⟩; (repeat refine aQ rfl ?_); exact bb (by exact rfl) hq99
     case b99 => exact b0 (by first | rfl | (simp [bD]; done) | decide)
     simp only [aW, aT]
     (refine ab rfl fun K0 V => ?_; simp only [zE, op1, ev, lkp, ah, ag, ev, reduceCtorEq, E, D, J, U, O, S, Try.td4, Dfa.av]; refine V _ ?_; clear V K0; simp only [put, app, aa, af, zE, zS, D])
     refine' aP (want := true) 6 rfl (m := 212) (by simp only [Y, lkp, zE, reduceCtorEq, E, Z, D]; exact rfl) (by kernel_rfl) rfl rfl rfl rfl rfl (fun hg100 => ?a100) ?b100 ?c100
     case a100 =>
      have hq100 := hg100; (try simp only [zB, reduceCtorEq] at hg100); simp only [List.take_succ_cons, List.take_zero, List.cons_append, List.nil_append]
      (refine ax rfl fun K0 V => ?_; simp only [zE, op1, ev, lkp, ah, ag, aA, Nat.mul_one, aw, az, acs, Ty.dflt, zG, au, reduceCtorEq, E, D, J, U, O, S, Try.st25, Try.td25, Dfa.av]; (repeat refine And.intro (by first | omega | assumption | exact rfl) ?_); refine V _ ?_; clear V K0; simp only [put, app, aa, af, zE, zS, D])
      (refine ax rfl fun K0 V => ?_; simp only [zE, op1, ev, lkp, ah, ag, aA, Nat.mul_one, aw, az, acs, Ty.dflt, zG, au, reduceCtorEq, E, D, J, U, O, S, Try.st25, Try.td25, Dfa.av]; (repeat refine And.intro (by first | omega | assumption | exact rfl) ?_); refine V _ ?_; clear V K0; simp only [put, app, aa, af, zE, zS, D])
      refine ax rfl fun K0 V => ?_
      refine aU (h := aF (jZ (cW a) (cW b) (rQ a))) rfl rfl (by first | exact rfl | (simp only [ev, Y, lkp, zE, reduceCtorEq, E, Z, D]; exact rfl)) (by simp only [zE, zG, op1, ev, lkp, ah, ag, aq, acs, aY, mv1, mvC, Ty.dflt, reduceCtorEq, E, D, J, U, O, S, Dfa.av]) ?_
      refine V _ ?_; clear V K0; simp only [put, app, aa, af, zE, zS, D]
      (refine ax rfl fun K0 V => ?_; simp only [zE, op1, ev, lkp, ah, ag, ev, reduceCtorEq, E, D, J, U, O, S, Try.td4, Dfa.av]; refine V _ ?_; clear V K0; simp only [put, app, aa, af, zE, zS, D])
      (refine ax rfl fun K0 V => ?_; simp only [zE, op1, ev, lkp, ah, ag, ew, reduceCtorEq, E, D, J, U, O, S, Try.td4, Dfa.av]; (repeat refine And.intro (by first | omega | assumption | exact rfl) ?_); refine V _ ?_; clear V K0; simp only [put, app, aa, af, zE, zS, D])
      (refine ax rfl fun K0 V => ?_; simp only [zE, op1, ev, lkp, ah, ag, aB, aC, aD, am, ay, aK, reduceCtorEq, E, D, J, U, O, S, Try.td4, Dfa.av]; (repeat refine And.intro (by first | omega | assumption | exact rfl) ?_); refine V _ ?_; clear V K0; simp only [put, app, aa, af, zE, zS, D])
      (refine ab rfl fun K0 V => ?_; simp only [zE, op1, ev, lkp, ah, ag, aZ, reduceCtorEq, E, D, J, U, O, S, Try.td4, Dfa.av]; refine V _ ?_; clear V K0; simp only [put, app, aa, af, zE, zS, D])
      refine aj ?_
      refine ⟨by simp only [Y, lkp, zE, reduceCtorEq, E, Z, D]; exact rfl, rfl, ?_, rfl⟩; (repeat refine aQ rfl ?_); exact bb (by exact rfl) hq100
     case b100 => exact b0 (by first | rfl | (simp [bD]; done) | decide)
     simp only [aW, aT]
     (refine ab rfl fun K0 V => ?_; simp only [zE, op1, ev, lkp, ah, ag, ev, reduceCtorEq, E, D, J, U, O, S, Try.td4, Dfa.av]; refine V _ ?_; clear V K0; simp only [put, app, aa, af, zE, zS, D])
     refine' aP (want := true) 7 rfl (m := 220) (by simp only [Y, lkp, zE, reduceCtorEq, E, Z, D]; exact rfl) (by kernel_rfl) rfl rfl rfl rfl rfl (fun hg101 => ?a101) ?b101 ?c101
     case a101 =>
      have hq101 := hg101; (try simp only [zB, reduceCtorEq] at hg101); simp only [List.take_succ_cons, List.take_zero, List.cons_append, List.nil_append]
      (refine ax rfl fun K0 V => ?_; simp only [zE, op1, ev, lkp, ah, ag, aE, reduceCtorEq, E, D, J, U, O, S, Try.st25, Try.td2, Try.td25, Dfa.av]; (repeat refine And.intro (by first | omega | assumption | exact rfl) ?_); refine V _ ?_; clear V K0; simp only [put, app, aa, af, zE, zS, D])
      (refine ax rfl fun K0 V => ?_; simp only [zE, op1, ev, lkp, ah, ag, aA, Nat.mul_one, aw, az, acs, Ty.dflt, zG, au, reduceCtorEq, E, D, J, U, O, S, Try.el22, Try.td22, Dfa.av]; (repeat refine And.intro (by first | omega | assumption | exact rfl) ?_); refine V _ ?_; clear V K0; simp only [put, app, aa, af, zE, zS, D])
      (refine ax rfl fun K0 V => ?_; simp only [zE, op1, ev, lkp, ah, ag, aI, bu, bh, ba, bc, br, Nat.div_one, aO, be, Ty.size, aL, dite_true, reduceCtorEq, E, D, J, U, O, S, Try.el22, Try.td22, Try.td3, Dfa.av]; (repeat refine And.intro (by first | omega | assumption | exact rfl) ?_); (first | refine V _ ?_ | refine Or.inl (V _ ?_)); clear V K0; simp only [put, app, aa, af, zE, zS, D])
      (refine ax rfl fun K0 V => ?_; simp only [zE, op1, ev, lkp, ah, ag, aE, reduceCtorEq, E, D, J, U, O, S, Try.st25, Try.td2, Try.td25, Dfa.av]; (repeat refine And.intro (by first | omega | assumption | exact rfl) ?_); refine V _ ?_; clear V K0; simp only [put, app, aa, af, zE, zS, D])
      (refine ax rfl fun K0 V => ?_; simp only [zE, op1, ev, lkp, ah, ag, aA, Nat.mul_one, aw, az, acs, Ty.dflt, zG, au, reduceCtorEq, E, D, J, U, O, S, Try.el22, Try.td22, Dfa.av]; (repeat refine And.intro (by first | omega | assumption | exact rfl) ?_); refine V _ ?_; clear V K0; simp only [put, app, aa, af, zE, zS, D])
      (refine ax rfl fun K0 V => ?_; simp only [zE, op1, ev, lkp, ah, ag, aI, bu, bh, ba, bc, br, Nat.div_one, aO, be, Ty.size, aL, dite_true, reduceCtorEq, E, D, J, U, O, S, Try.el22, Try.td22, Try.td3, Dfa.av]; (repeat refine And.intro (by first | omega | assumption | exact rfl) ?_); (first | refine V _ ?_ | refine Or.inl (V _ ?_)); clear V K0; simp only [put, app, aa, af, zE, zS, D])
      (refine ax rfl fun K0 V => ?_; simp only [zE, op1, ev, lkp, ah, ag, aB, aC, aD, am, ay, aK, reduceCtorEq, E, D, J, U, O, S, Try.td3, Try.td4, Dfa.av]; (repeat refine And.intro (by first | omega | assumption | exact rfl) ?_); refine V _ ?_; clear V K0; simp only [put, app, aa, af, zE, zS, D])
      (refine ab rfl fun K0 V => ?_; simp only [zE, op1, ev, lkp, ah, ag, aZ, reduceCtorEq, E, D, J, U, O, S, Try.td4, Dfa.av]; refine V _ ?_; clear V K0; simp only [put, app, aa, af, zE, zS, D])
      refine aj ?_
      refine ⟨by simp only [Y, lkp, zE, reduceCtorEq, E, Z, D]; exact rfl, rfl, ?_, rfl⟩; (repeat refine aQ rfl ?_); exact bb (by exact rfl) hq101
     case b101 => exact b0 (by first | rfl | (simp [bD]; done) | decide)
     simp only [aW, aT]
     (refine ab rfl fun K0 V => ?_; simp only [zE, op1, ev, lkp, ah, ag, ev, reduceCtorEq, E, D, J, U, O, S, Try.td4, Dfa.av]; refine V _ ?_; clear V K0; simp only [put, app, aa, af, zE, zS, D])
     refine' aP (want := true) 1 rfl (m := 229) (by simp only [Y, lkp, zE, reduceCtorEq, E, Z, D]; exact rfl) (by kernel_rfl) rfl rfl rfl rfl rfl (fun hg102 => ?a102) ?b102 ?c102
     case a102 =>
      have hq102 := hg102; (try simp only [zB, reduceCtorEq] at hg102); simp only [List.take_succ_cons, List.take_zero, List.cons_append, List.nil_append]
      refine ax rfl fun K0 V => ?_
      refine aU (h := aF jW) rfl rfl (by first | exact rfl | (simp only [ev, Y, lkp, zE, reduceCtorEq, E, Z, D]; exact rfl)) (by simp only [zE, zG, op1, ev, lkp, ah, ag, aq, acs, aY, mv1, mvC, Ty.dflt, reduceCtorEq, E, D, J, U, O, S, Dfa.av]) ?_
      refine V _ ?_; clear V K0; simp only [put, app, aa, af, zE, zS, D]
      (refine ab rfl fun K0 V => ?_; simp only [zE, op1, ev, lkp, ah, ag, aZ, reduceCtorEq, E, D, J, U, O, S, Try.td4, Dfa.av]; refine V _ ?_; clear V K0; simp only [put, app, aa, af, zE, zS, D])
      refine aj ?_
      refine ⟨by simp only [Y, lkp, zE, reduceCtorEq, E, Z, D]; exact rfl, rfl, ?_, rfl⟩; (repeat refine aQ rfl ?_); exact bb (by exact rfl) hq102
     case b102 => exact b0 (by first | rfl | (simp [bD]; done) | decide)
     simp only [aW, aT]
     (refine ab rfl fun K0 V => ?_; simp only [zE, op1, ev, lkp, ah, ag, ev, reduceCtorEq, E, D, J, U, O, S, Try.td4, Dfa.av]; refine V _ ?_; clear V K0; simp only [put, app, aa, af, zE, zS, D])
     refine aj ?_
     refine hK98 _ ?_; clear hK98; refine ae [2, 3, 4, 6, 7, 9, 11, 17, 18, 19, 20, 22, 24, 25, 26, 27, 28, 29, 79, 198] ?_; simp only [Y, lkp, zE, reduceCtorEq, E, Z, D]
     refine aJ ?_
     refine ⟨by first | exact .inl rfl | exact .inr rfl, _, rfl, ?_⟩; simp only [fzV, fz1, fzC, List.map_cons, List.map_nil, Y, lkp, zE, reduceCtorEq, E, Z, D, Dfa.av]
     refine VLE.of_eq ?_
     first | rfl | (refine congrArg (fun b => AV.one (AC.bool b)) ?_; simp [hm1, hm2, hm3, hds]; done)
end Go.Proofs.Ytdkgcbhbpdbmnaa
