/- Contracts of functions of this seat, each out of a walk through its code, and plain facts on what they compute. Conditions: those that each theorem names. -/
import Derived.Test.YtdkgcbhbpdbmnaaW05
set_option linter.unusedSimpArgs false
set_option linter.unusedVariables false
namespace Go.Proofs.Ytdkgcbhbpdbmnaa
open Go Go.AV
open Nat renaming reduceEqDiff → E, reduceAdd → D, reduceLeDiff → J, reduceLT → S, reduceMul → M, reduceSub → O
open List renaming set_cons_zero → ao, set_cons_succ → am
end Go.Proofs.Ytdkgcbhbpdbmnaa
namespace Go.AV
open Nat renaming reduceEqDiff → E, reduceAdd → D, reduceLeDiff → J, reduceLT → S, reduceMul → M, reduceSub → O
open List renaming set_cons_zero → ao, set_cons_succ → am
/-plain-/
/-! On dmeqTh, dfmTh. -/
theorem iJ (a : Dfa) : fM a a = true := jN.2 rfl
theorem qK (A : STP) (G : PP → Bool) (n : Nat) (L : List W3) : (dBD A G n L).acc.length ≤ 1000 := by
  unfold dBD
  split
  · decide
  · show (L.map fun e => G e.1).length ≤ 1000
    rw [List.length_map]; omega
theorem ph (op : Int) (a b : Dfa) : (ch op a b).acc.length ≤ 1000 := by
  unfold ch
  split
  · decide
  · split
    · exact qK _ _ _ _
    · decide
end Go.AV
namespace Go.Proofs.Ytdkgcbhbpdbmnaa
open Go Go.AV
open Nat renaming reduceEqDiff → E, reduceAdd → D, reduceLeDiff → J, reduceLT → S, reduceMul → M, reduceSub → O
open List renaming set_cons_zero → ao, set_cons_succ → am
set_option maxRecDepth 100000 in
theorem oc (op : Int) (x y : Bool) : bD Try.prog 61 [.one (.int .i64 op), .one (.bool x), .one (.bool y)] (.one (.bool (opB op x y))) := by
 refine aR Try.func61 rfl (by kernel_rfl) (Nat.le_of_ble_eq_true rfl) rfl fun C hP hN hB => ?_
 replace hN : C.N = 30 := hN
 simp only [Y, D]
 refine aa fun K1 hK1 => ?_
 refine ae hP hN rfl ?_
 (refine ab rfl fun K0 V => ?_; simp only [zE, op1, ev, lkp, ah, ag, ev, reduceCtorEq, E, D, J, S, M, O, Try.td4]; refine V _ ?_; clear V K0; simp only [put, app, Z, af, zE, zS, D])
 refine ai ?_
 refine hK1 _ ?_; clear hK1; refine ad [0, 1, 2, 6] ?_; simp only [U, lkp, zE, reduceCtorEq, E, Y, D]
 refine aa fun K2 hK2 => ?_
 refine aa fun K3 hK3 => ?_
 refine ae hP hN rfl ?_
 (refine ab rfl fun K0 V => ?_; simp only [zE, op1, ev, lkp, ah, ag, ev, reduceCtorEq, E, D, J, S, M, O, Try.td3]; refine V _ ?_; clear V K0; simp only [put, app, Z, af, zE, zS, D])
 refine ai ?_
 refine hK3 _ ?_; clear hK3; refine ad [0, 1, 2, 6, 7] ?_; simp only [U, lkp, zE, reduceCtorEq, E, Y, D]
 refine aM ?_
 refine aa fun K4 hK4 => ?_
 refine ae hP hN rfl ?_
 iterate 2 (refine ab rfl fun K0 V => ?_; simp only [zE, op1, ev, lkp, ah, ag, aD, aE, aC, ar, aB, aP, reduceCtorEq, E, D, J, S, M, O, Try.td3, Try.td4]; (repeat refine And.intro (by first | omega | assumption | exact rfl) ?_); refine V _ ?_; clear V K0; simp only [put, app, Z, af, zE, zS, D])
 refine ai ?_
 refine hK4 _ ?_; clear hK4; refine ad [0, 1, 2, 6, 7, 8] ?_; simp only [U, lkp, zE, reduceCtorEq, E, Y, D]
 refine aA (by simp only [ev, U, lkp, zE, reduceCtorEq, E, Y, D]; exact rfl) (fun hc5 => ?_) (fun hc5 => ?_)
 ·(try simp only [zB, reduceCtorEq] at hc5)
  refine aa fun K6 hK6 => ?_
  refine ae hP hN rfl ?_
  (refine ab rfl fun K0 V => ?_; simp only [zE, op1, ev, lkp, ah, ag, ev, reduceCtorEq, E, D, J, S, M, O, Try.td4]; refine V _ ?_; clear V K0; simp only [put, app, Z, af, zE, zS, D])
  (refine ab rfl fun K0 V => ?_; simp only [zE, op1, ev, lkp, ah, ag, ev, reduceCtorEq, E, D, J, S, M, O, Try.td4]; refine V _ ?_; clear V K0; simp only [put, app, Z, af, zE, zS, D])
  refine' aU (want := true) 1 rfl (m := 11) (by simp only [U, lkp, zE, reduceCtorEq, E, Y, D]; exact rfl) (by kernel_rfl) rfl rfl rfl rfl rfl (fun hg7 => ?a7) ?b7 ?c7
  case a7 =>
   have hq7 := hg7; (try simp only [zB, reduceCtorEq] at hg7); simp only [List.take_succ_cons, List.take_zero, List.cons_append, List.nil_append]
   (refine aK rfl fun K0 V => ?_; simp only [zE, op1, ev, lkp, ah, ag, ev, reduceCtorEq, E, D, J, S, M, O, Try.td4]; refine V _ ?_; clear V K0; simp only [put, app, Z, af, zE, zS, D])
   (refine ab rfl fun K0 V => ?_; simp only [zE, op1, ev, lkp, ah, ag, bm, reduceCtorEq, E, D, J, S, M, O, Try.td4]; refine V _ ?_; clear V K0; simp only [put, app, Z, af, zE, zS, D])
   refine ai ?_
   refine ⟨by simp only [U, lkp, zE, reduceCtorEq, E, Y, D]; exact rfl, rfl, ?_, rfl⟩; (repeat refine aV rfl ?_); exact bt (by exact rfl) hq7
  case b7 => exact bq (by first | rfl | (simp [bU]; done) | decide)
  simp only [bk, b0]
  (refine ab rfl fun K0 V => ?_; simp only [zE, op1, ev, lkp, ah, ag, ev, reduceCtorEq, E, D, J, S, M, O, Try.td4]; refine V _ ?_; clear V K0; simp only [put, app, Z, af, zE, zS, D])
  refine ai ?_
  refine hK6 _ ?_; clear hK6; refine ad [0, 1, 2, 6, 7, 8] ?_; simp only [U, lkp, zE, reduceCtorEq, E, Y, D]
  refine aF ?_
  refine ⟨by first | exact .inl rfl | exact .inr rfl, _, rfl, ?_⟩; simp only [fzV, fz1, fzC, List.map_cons, List.map_nil, U, lkp, zE, reduceCtorEq, E, Y, D]
  refine VLE.of_eq ?_
  refine congrArg (fun b => AV.one (AC.bool b)) ?_
  unfold opB
  symm
  first
  | (rw [if_pos (by assumption)]; done)
  | (rw [if_neg (by assumption), if_pos (by assumption)]; done)
  | (rw [if_neg (by assumption), if_neg (by assumption), if_pos (by assumption)]; done)
  | (rw [if_neg (by assumption), if_neg (by assumption), if_neg (by assumption)]; cases x <;> cases y <;> rfl)
 ·(try simp only [zB, reduceCtorEq] at hc5)
  refine aa fun K8 hK8 => ?_
  refine ae hP hN rfl ?_
  iterate 2 (refine ab rfl fun K0 V => ?_; simp only [zE, op1, ev, lkp, ah, ag, aD, aE, aC, ar, aB, aP, reduceCtorEq, E, D, J, S, M, O, Try.td3, Try.td4]; (repeat refine And.intro (by first | omega | assumption | exact rfl) ?_); refine V _ ?_; clear V K0; simp only [put, app, Z, af, zE, zS, D])
  refine ai ?_
  refine hK8 _ ?_; clear hK8; refine ad [0, 1, 2, 6, 7, 8, 14] ?_; simp only [U, lkp, zE, reduceCtorEq, E, Y, D]
  refine aA (by simp only [ev, U, lkp, zE, reduceCtorEq, E, Y, D]; exact rfl) (fun hc9 => ?_) (fun hc9 => ?_)
  ·(try simp only [zB, reduceCtorEq] at hc9)
   refine aa fun K10 hK10 => ?_
   refine ae hP hN rfl ?_
   (refine ab rfl fun K0 V => ?_; simp only [zE, op1, ev, lkp, ah, ag, ev, reduceCtorEq, E, D, J, S, M, O, Try.td4]; refine V _ ?_; clear V K0; simp only [put, app, Z, af, zE, zS, D])
   (refine ab rfl fun K0 V => ?_; simp only [zE, op1, ev, lkp, ah, ag, ev, reduceCtorEq, E, D, J, S, M, O, Try.td4]; refine V _ ?_; clear V K0; simp only [put, app, Z, af, zE, zS, D])
   refine' aU (want := false) 1 rfl (m := 17) (by simp only [U, lkp, zE, reduceCtorEq, E, Y, D]; exact rfl) (by kernel_rfl) rfl rfl rfl rfl rfl (fun hg11 => ?a11) ?b11 ?c11
   case a11 =>
    have hq11 := hg11; (try simp only [zB, reduceCtorEq] at hg11); simp only [List.take_succ_cons, List.take_zero, List.cons_append, List.nil_append]
    (refine aK rfl fun K0 V => ?_; simp only [zE, op1, ev, lkp, ah, ag, ev, reduceCtorEq, E, D, J, S, M, O, Try.td4]; refine V _ ?_; clear V K0; simp only [put, app, Z, af, zE, zS, D])
    (refine ab rfl fun K0 V => ?_; simp only [zE, op1, ev, lkp, ah, ag, bm, reduceCtorEq, E, D, J, S, M, O, Try.td4]; refine V _ ?_; clear V K0; simp only [put, app, Z, af, zE, zS, D])
    refine ai ?_
    refine ⟨by simp only [U, lkp, zE, reduceCtorEq, E, Y, D]; exact rfl, rfl, ?_, rfl⟩; (repeat refine aV rfl ?_); exact bt (by exact rfl) hq11
   case b11 => exact bq (by first | rfl | (simp [bU]; done) | decide)
   simp only [bk, b0]
   (refine ab rfl fun K0 V => ?_; simp only [zE, op1, ev, lkp, ah, ag, ev, reduceCtorEq, E, D, J, S, M, O, Try.td4]; refine V _ ?_; clear V K0; simp only [put, app, Z, af, zE, zS, D])
   refine ai ?_
   refine hK10 _ ?_; clear hK10; refine ad [0, 1, 2, 6, 7, 8, 14] ?_; simp only [U, lkp, zE, reduceCtorEq, E, Y, D]
   refine aF ?_
   refine ⟨by first | exact .inl rfl | exact .inr rfl, _, rfl, ?_⟩; simp only [fzV, fz1, fzC, List.map_cons, List.map_nil, U, lkp, zE, reduceCtorEq, E, Y, D]
   refine VLE.of_eq ?_
   refine congrArg (fun b => AV.one (AC.bool b)) ?_
   unfold opB
   symm
   first
   | (rw [if_pos (by assumption)]; done)
   | (rw [if_neg (by assumption), if_pos (by assumption)]; done)
   | (rw [if_neg (by assumption), if_neg (by assumption), if_pos (by assumption)]; done)
   | (rw [if_neg (by assumption), if_neg (by assumption), if_neg (by assumption)]; cases x <;> cases y <;> rfl)
  ·(try simp only [zB, reduceCtorEq] at hc9)
   refine aa fun K12 hK12 => ?_
   refine ae hP hN rfl ?_
   iterate 2 (refine ab rfl fun K0 V => ?_; simp only [zE, op1, ev, lkp, ah, ag, aD, aE, aC, ar, aB, aP, reduceCtorEq, E, D, J, S, M, O, Try.td3, Try.td4]; (repeat refine And.intro (by first | omega | assumption | exact rfl) ?_); refine V _ ?_; clear V K0; simp only [put, app, Z, af, zE, zS, D])
   refine ai ?_
   refine hK12 _ ?_; clear hK12; refine ad [0, 1, 2, 6, 7, 8, 14, 20] ?_; simp only [U, lkp, zE, reduceCtorEq, E, Y, D]
   refine aA (by simp only [ev, U, lkp, zE, reduceCtorEq, E, Y, D]; exact rfl) (fun hc13 => ?_) (fun hc13 => ?_)
   ·(try simp only [zB, reduceCtorEq] at hc13)
    refine aa fun K14 hK14 => ?_
    refine ae hP hN rfl ?_
    (refine ab rfl fun K0 V => ?_; simp only [zE, op1, ev, lkp, ah, ag, ev, reduceCtorEq, E, D, J, S, M, O, Try.td4]; refine V _ ?_; clear V K0; simp only [put, app, Z, af, zE, zS, D])
    (refine ab rfl fun K0 V => ?_; simp only [zE, op1, ev, lkp, ah, ag, ev, reduceCtorEq, E, D, J, S, M, O, Try.td4]; refine V _ ?_; clear V K0; simp only [put, app, Z, af, zE, zS, D])
    refine' aU (want := true) 2 rfl (m := 23) (by simp only [U, lkp, zE, reduceCtorEq, E, Y, D]; exact rfl) (by kernel_rfl) rfl rfl rfl rfl rfl (fun hg15 => ?a15) ?b15 ?c15
    case a15 =>
     have hq15 := hg15; (try simp only [zB, reduceCtorEq] at hg15); simp only [List.take_succ_cons, List.take_zero, List.cons_append, List.nil_append]
     (refine aK rfl fun K0 V => ?_; simp only [zE, op1, ev, lkp, ah, ag, ev, reduceCtorEq, E, D, J, S, M, O, Try.td4]; refine V _ ?_; clear V K0; simp only [put, app, Z, af, zE, zS, D])
     (refine aK rfl fun K0 V => ?_; simp only [zE, op1, ev, lkp, ah, ag, fH, reduceCtorEq, E, D, J, S, M, O, Try.td4]; (repeat refine And.intro (by first | omega | assumption | exact rfl) ?_); refine V _ ?_; clear V K0; simp only [put, app, Z, af, zE, zS, D])
     (refine ab rfl fun K0 V => ?_; simp only [zE, op1, ev, lkp, ah, ag, bm, reduceCtorEq, E, D, J, S, M, O, Try.td4]; refine V _ ?_; clear V K0; simp only [put, app, Z, af, zE, zS, D])
     refine ai ?_
     refine ⟨by simp only [U, lkp, zE, reduceCtorEq, E, Y, D]; exact rfl, rfl, ?_, rfl⟩; (repeat refine aV rfl ?_); exact bt (by exact rfl) hq15
    case b15 => exact bq (by first | rfl | (simp [bU]; done) | decide)
    simp only [bk, b0]
    (refine ab rfl fun K0 V => ?_; simp only [zE, op1, ev, lkp, ah, ag, ev, reduceCtorEq, E, D, J, S, M, O, Try.td4]; refine V _ ?_; clear V K0; simp only [put, app, Z, af, zE, zS, D])
    refine ai ?_
    refine hK14 _ ?_; clear hK14; refine ad [0, 1, 2, 6, 7, 8, 14, 20] ?_; simp only [U, lkp, zE, reduceCtorEq, E, Y, D]
    refine aF ?_
    refine ⟨by first | exact .inl rfl | exact .inr rfl, _, rfl, ?_⟩; simp only [fzV, fz1, fzC, List.map_cons, List.map_nil, U, lkp, zE, reduceCtorEq, E, Y, D]
    refine VLE.of_eq ?_
    refine congrArg (fun b => AV.one (AC.bool b)) ?_
    unfold opB
    symm
    first
    | (rw [if_pos (by assumption)]; done)
    | (rw [if_neg (by assumption), if_pos (by assumption)]; done)
    | (rw [if_neg (by assumption), if_neg (by assumption), if_pos (by assumption)]; done)
    | (rw [if_neg (by assumption), if_neg (by assumption), if_neg (by assumption)]; cases x <;> cases y <;> rfl)
   ·(try simp only [zB, reduceCtorEq] at hc13)
    refine aI ?_
    refine hK2 _ ?_; clear hK2; refine ad [0, 1, 2, 6, 7, 8, 14, 20] ?_; simp only [U, lkp, zE, reduceCtorEq, E, Y, D]
    refine aa fun K16 hK16 => ?_
    refine ae hP hN rfl ?_
    iterate 4 (refine ab rfl fun K0 V => ?_; simp only [zE, op1, ev, lkp, ah, ag, aD, aE, aC, ar, aB, aP, reduceCtorEq, E, D, J, S, M, O, Try.td4]; (repeat refine And.intro (by first | omega | assumption | exact rfl) ?_); refine V _ ?_; clear V K0; simp only [put, app, Z, af, zE, zS, D])
    refine ai ?_
    refine hK16 _ ?_; clear hK16; refine ad [0, 1, 2, 6, 7, 8, 14, 20] ?_; simp only [U, lkp, zE, reduceCtorEq, E, Y, D]
    refine aF ?_
    refine ⟨by first | exact .inl rfl | exact .inr rfl, _, rfl, ?_⟩; simp only [fzV, fz1, fzC, List.map_cons, List.map_nil, U, lkp, zE, reduceCtorEq, E, Y, D]
    refine VLE.of_eq ?_
    refine congrArg (fun b => AV.one (AC.bool b)) ?_
    unfold opB
    symm
    first
    | (rw [if_pos (by assumption)]; done)
    | (rw [if_neg (by assumption), if_pos (by assumption)]; done)
    | (rw [if_neg (by assumption), if_neg (by assumption), if_pos (by assumption)]; done)
    | (rw [if_neg (by assumption), if_neg (by assumption), if_neg (by assumption)]; cases x <;> cases y <;> rfl)
end Go.Proofs.Ytdkgcbhbpdbmnaa
namespace Go.Proofs.Ytdkgcbhbpdbmnaa
open Go Go.AV
open Nat renaming reduceEqDiff → E, reduceAdd → D, reduceLeDiff → J, reduceLT → S, reduceMul → M, reduceSub → O
open List renaming set_cons_zero → ao, set_cons_succ → am
set_option maxRecDepth 100000 in
theorem j6 (a b : Dfa) : bD Try.prog 59 [a.av, b.av] (.one (.int .i64 (cS a b))) := by
 refine aR Try.func59 rfl (by kernel_rfl) (Nat.le_of_ble_eq_true rfl) rfl fun C hP hN hB => ?_
 replace hN : C.N = 23 := hN
 simp only [Y, D]
 refine aa fun K1 hK1 => ?_
 refine ae hP hN rfl ?_
 iterate 3 (refine ab rfl fun K0 V => ?_; simp only [zE, op1, ev, lkp, ah, ag, bZ, ak, reduceCtorEq, E, D, J, S, M, O, Try.st25, Try.td25, Try.td3, Dfa.av]; (repeat refine And.intro (by first | omega | assumption | exact rfl) ?_); refine V _ ?_; clear V K0; simp only [put, app, Z, af, zE, zS, D])
 refine ai ?_
 refine hK1 _ ?_; clear hK1; refine ad [0, 1, 2, 3, 4] ?_; simp only [U, lkp, zE, reduceCtorEq, E, Y, D]
 refine aa fun K2 hK2 => ?_
 refine aM ?_
 refine aa fun K3 hK3 => ?_
 refine ae hP hN rfl ?_
 (refine ab rfl fun K0 V => ?_; simp only [zE, op1, ev, lkp, ah, ag, ay, Nat.mul_one, au, ax, acs, Ty.dflt, zG, aq, reduceCtorEq, E, D, J, S, M, O, Try.st25, Try.td25, Dfa.av]; (repeat refine And.intro (by first | omega | assumption | exact rfl) ?_); refine V _ ?_; clear V K0; simp only [put, app, Z, af, zE, zS, D])
 refine ab rfl fun K0 V => ?_
 refine aS (h := az (fu a)) rfl rfl (by first | exact rfl | (simp only [ev, U, lkp, zE, reduceCtorEq, E, Y, D]; exact rfl)) (by simp only [zE, zG, op1, ev, lkp, ah, ag, ak, acs, aX, mv1, mvC, Ty.dflt, reduceCtorEq, E, D, J, S, M, O, Dfa.av]) ?_
 refine V _ ?_; clear V K0; simp only [put, app, Z, af, zE, zS, D]
 iterate 2 (refine ab rfl fun K0 V => ?_; simp only [zE, op1, ev, lkp, ah, ag, aD, aE, aC, ar, aB, aP, reduceCtorEq, E, D, J, S, M, O, Try.td3, Try.td4, Dfa.av]; (repeat refine And.intro (by first | omega | assumption | exact rfl) ?_); refine V _ ?_; clear V K0; simp only [put, app, Z, af, zE, zS, D])
 refine ai ?_
 refine hK3 _ ?_; clear hK3; refine ad [0, 1, 2, 3, 4, 5] ?_; simp only [U, lkp, zE, reduceCtorEq, E, Y, D]
 refine aA (by simp only [ev, U, lkp, zE, reduceCtorEq, E, Y, D]; exact rfl) (fun hc4 => ?_) (fun hc4 => ?_)
 ·(try simp only [zB, reduceCtorEq] at hc4)
  refine aa fun K5 hK5 => ?_
  refine ae hP hN rfl ?_
  (refine ab rfl fun K0 V => ?_; simp only [zE, op1, ev, lkp, ah, ag, ay, Nat.mul_one, au, ax, acs, Ty.dflt, zG, aq, reduceCtorEq, E, D, J, S, M, O, Try.st25, Try.td25, Dfa.av]; (repeat refine And.intro (by first | omega | assumption | exact rfl) ?_); refine V _ ?_; clear V K0; simp only [put, app, Z, af, zE, zS, D])
  refine ab rfl fun K0 V => ?_
  refine aS (h := az (fu a)) rfl rfl (by first | exact rfl | (simp only [ev, U, lkp, zE, reduceCtorEq, E, Y, D]; exact rfl)) (by simp only [zE, zG, op1, ev, lkp, ah, ag, ak, acs, aX, mv1, mvC, Ty.dflt, reduceCtorEq, E, D, J, S, M, O, Dfa.av]) ?_
  refine V _ ?_; clear V K0; simp only [put, app, Z, af, zE, zS, D]
  (refine ab rfl fun K0 V => ?_; simp only [zE, op1, ev, lkp, ah, ag, ev, reduceCtorEq, E, D, J, S, M, O, Try.td3, Dfa.av]; refine V _ ?_; clear V K0; simp only [put, app, Z, af, zE, zS, D])
  refine ai ?_
  refine hK5 _ ?_; clear hK5; refine ad [0, 1, 2, 3, 4, 5] ?_; simp only [U, lkp, zE, reduceCtorEq, E, Y, D]
  refine aF ?_
  refine ⟨by first | exact .inl rfl | exact .inr rfl, _, rfl, ?_⟩; simp only [fzV, fz1, fzC, List.map_cons, List.map_nil, U, lkp, zE, reduceCtorEq, E, Y, D, Dfa.av]
  refine VLE.of_eq ?_
  refine congrArg (fun n => AV.one (AC.int IntKind.i64 n)) ?_
  unfold cS
  symm
  first
  | (rw [if_neg (by assumption)]; done)
  | (rw [if_pos (by omega), if_neg (by assumption)]; done)
  | (rw [if_pos (by omega), if_pos (by omega), if_neg (by omega)]; done)
  | (rw [if_pos (by omega), if_pos (by omega), if_pos (by omega)]; done)
 ·(try simp only [zB, reduceCtorEq] at hc4)
  refine aa fun K6 hK6 => ?_
  refine ae hP hN rfl ?_
  (refine ab rfl fun K0 V => ?_; simp only [zE, op1, ev, lkp, ah, ag, ay, Nat.mul_one, au, ax, acs, Ty.dflt, zG, aq, reduceCtorEq, E, D, J, S, M, O, Try.st25, Try.td25, Dfa.av]; (repeat refine And.intro (by first | omega | assumption | exact rfl) ?_); refine V _ ?_; clear V K0; simp only [put, app, Z, af, zE, zS, D])
  refine ab rfl fun K0 V => ?_
  refine aS (h := az (fu b)) rfl rfl (by first | exact rfl | (simp only [ev, U, lkp, zE, reduceCtorEq, E, Y, D]; exact rfl)) (by simp only [zE, zG, op1, ev, lkp, ah, ag, ak, acs, aX, mv1, mvC, Ty.dflt, reduceCtorEq, E, D, J, S, M, O, Dfa.av]) ?_
  refine V _ ?_; clear V K0; simp only [put, app, Z, af, zE, zS, D]
  iterate 2 (refine ab rfl fun K0 V => ?_; simp only [zE, op1, ev, lkp, ah, ag, aD, aE, aC, ar, aB, aP, reduceCtorEq, E, D, J, S, M, O, Try.td3, Try.td4, Dfa.av]; (repeat refine And.intro (by first | omega | assumption | exact rfl) ?_); refine V _ ?_; clear V K0; simp only [put, app, Z, af, zE, zS, D])
  refine ai ?_
  refine hK6 _ ?_; clear hK6; refine ad [0, 1, 2, 3, 4, 5, 11] ?_; simp only [U, lkp, zE, reduceCtorEq, E, Y, D]
  refine aA (by simp only [ev, U, lkp, zE, reduceCtorEq, E, Y, D]; exact rfl) (fun hc7 => ?_) (fun hc7 => ?_)
  ·(try simp only [zB, reduceCtorEq] at hc7)
   refine aa fun K8 hK8 => ?_
   refine ae hP hN rfl ?_
   (refine ab rfl fun K0 V => ?_; simp only [zE, op1, ev, lkp, ah, ag, ay, Nat.mul_one, au, ax, acs, Ty.dflt, zG, aq, reduceCtorEq, E, D, J, S, M, O, Try.st25, Try.td25, Dfa.av]; (repeat refine And.intro (by first | omega | assumption | exact rfl) ?_); refine V _ ?_; clear V K0; simp only [put, app, Z, af, zE, zS, D])
   refine ab rfl fun K0 V => ?_
   refine aS (h := az (fu b)) rfl rfl (by first | exact rfl | (simp only [ev, U, lkp, zE, reduceCtorEq, E, Y, D]; exact rfl)) (by simp only [zE, zG, op1, ev, lkp, ah, ag, ak, acs, aX, mv1, mvC, Ty.dflt, reduceCtorEq, E, D, J, S, M, O, Dfa.av]) ?_
   refine V _ ?_; clear V K0; simp only [put, app, Z, af, zE, zS, D]
   (refine ab rfl fun K0 V => ?_; simp only [zE, op1, ev, lkp, ah, ag, ev, reduceCtorEq, E, D, J, S, M, O, Try.td3, Dfa.av]; refine V _ ?_; clear V K0; simp only [put, app, Z, af, zE, zS, D])
   refine ai ?_
   refine hK8 _ ?_; clear hK8; refine ad [0, 1, 2, 3, 4, 5, 11] ?_; simp only [U, lkp, zE, reduceCtorEq, E, Y, D]
   refine aF ?_
   refine ⟨by first | exact .inl rfl | exact .inr rfl, _, rfl, ?_⟩; simp only [fzV, fz1, fzC, List.map_cons, List.map_nil, U, lkp, zE, reduceCtorEq, E, Y, D, Dfa.av]
   refine VLE.of_eq ?_
   refine congrArg (fun n => AV.one (AC.int IntKind.i64 n)) ?_
   unfold cS
   symm
   first
   | (rw [if_neg (by assumption)]; done)
   | (rw [if_pos (by omega), if_neg (by assumption)]; done)
   | (rw [if_pos (by omega), if_pos (by omega), if_neg (by omega)]; done)
   | (rw [if_pos (by omega), if_pos (by omega), if_pos (by omega)]; done)
  ·(try simp only [zB, reduceCtorEq] at hc7)
   refine aa fun K9 hK9 => ?_
   refine ae hP hN rfl ?_
   iterate 6 (refine ab rfl fun K0 V => ?_; simp only [zE, op1, ev, lkp, ah, ag, aw, ay, Nat.mul_one, au, ax, acs, Ty.dflt, zG, aq, aD, aE, aC, ar, aB, aP, reduceCtorEq, E, D, J, S, M, O, Try.st25, Try.td25, Try.td3, Try.td4, Dfa.av]; (repeat refine And.intro (by first | omega | assumption | exact rfl) ?_); refine V _ ?_; clear V K0; simp only [put, app, Z, af, zE, zS, D])
   refine ai ?_
   refine hK9 _ ?_; clear hK9; refine ad [0, 1, 2, 3, 4, 5, 11, 17] ?_; simp only [U, lkp, zE, reduceCtorEq, E, Y, D]
   refine aA (by simp only [ev, U, lkp, zE, reduceCtorEq, E, Y, D]; exact rfl) (fun hc10 => ?_) (fun hc10 => ?_)
   ·(try simp only [zB, reduceCtorEq] at hc10)
    refine aa fun K11 hK11 => ?_
    refine ae hP hN rfl ?_
    (refine ab rfl fun K0 V => ?_; simp only [zE, op1, ev, lkp, ah, ag, ev, reduceCtorEq, E, D, J, S, M, O, Try.td3, Dfa.av]; refine V _ ?_; clear V K0; simp only [put, app, Z, af, zE, zS, D])
    refine ai ?_
    refine hK11 _ ?_; clear hK11; refine ad [0, 1, 2, 3, 4, 5, 11, 17] ?_; simp only [U, lkp, zE, reduceCtorEq, E, Y, D]
    refine aF ?_
    refine ⟨by first | exact .inl rfl | exact .inr rfl, _, rfl, ?_⟩; simp only [fzV, fz1, fzC, List.map_cons, List.map_nil, U, lkp, zE, reduceCtorEq, E, Y, D, Dfa.av]
    refine VLE.of_eq ?_
    refine congrArg (fun n => AV.one (AC.int IntKind.i64 n)) ?_
    unfold cS
    symm
    first
    | (rw [if_neg (by assumption)]; done)
    | (rw [if_pos (by omega), if_neg (by assumption)]; done)
    | (rw [if_pos (by omega), if_pos (by omega), if_neg (by omega)]; done)
    | (rw [if_pos (by omega), if_pos (by omega), if_pos (by omega)]; done)
   ·(try simp only [zB, reduceCtorEq] at hc10)
    refine aI ?_
    refine hK2 _ ?_; clear hK2; refine ad [0, 1, 2, 3, 4, 5, 11, 17] ?_; simp only [U, lkp, zE, reduceCtorEq, E, Y, D]
    refine aa fun K12 hK12 => ?_
    refine ae hP hN rfl ?_
    (refine ab rfl fun K0 V => ?_; simp only [zE, op1, ev, lkp, ah, ag, ev, reduceCtorEq, E, D, J, S, M, O, Try.td3, Dfa.av]; refine V _ ?_; clear V K0; simp only [put, app, Z, af, zE, zS, D])
    refine ai ?_
    refine hK12 _ ?_; clear hK12; refine ad [0, 1, 2, 3, 4, 5, 11, 17] ?_; simp only [U, lkp, zE, reduceCtorEq, E, Y, D]
    refine aF ?_
    refine ⟨by first | exact .inl rfl | exact .inr rfl, _, rfl, ?_⟩; simp only [fzV, fz1, fzC, List.map_cons, List.map_nil, U, lkp, zE, reduceCtorEq, E, Y, D, Dfa.av]
    refine VLE.of_eq ?_
    refine congrArg (fun n => AV.one (AC.int IntKind.i64 n)) ?_
    unfold cS
    symm
    first
    | (rw [if_neg (by assumption)]; done)
    | (rw [if_pos (by omega), if_neg (by assumption)]; done)
    | (rw [if_pos (by omega), if_pos (by omega), if_neg (by omega)]; done)
    | (rw [if_pos (by omega), if_pos (by omega), if_pos (by omega)]; done)
end Go.Proofs.Ytdkgcbhbpdbmnaa
namespace Go.Proofs.Ytdkgcbhbpdbmnaa
open Go Go.AV
open Nat renaming reduceEqDiff → E, reduceAdd → D, reduceLeDiff → J, reduceLT → S, reduceMul → M, reduceSub → O
open List renaming set_cons_zero → ao, set_cons_succ → am
set_option maxRecDepth 100000 in
theorem kt (l : List PP) (q : PP) (hl : l.length ≤ 100000) : bD Try.prog 60 [.one (.list (.pair (.int .i64) (.pair (.int .i64) .unit)) (List.map dt l)), .agg [.int .i64 q.1, .int .i64 q.2]] (.one (.int .i64 (pos l q : Int))) := by
 refine aR Try.func60 rfl (by kernel_rfl) (Nat.le_of_ble_eq_true rfl) rfl fun C hP hN hB => ?_
 replace hN : C.N = 21 := hN
 simp only [Y, D]
 refine aa fun K1 hK1 => ?_
 refine ae hP hN rfl ?_
 iterate 2 (refine ab rfl fun K0 V => ?_; simp only [zE, op1, ev, lkp, ah, ag, bZ, ak, reduceCtorEq, E, D, J, S, M, O, Try.fl93, Try.st93, Try.td3, Try.td93, List.length_map]; (repeat refine And.intro (by first | omega | assumption | exact rfl) ?_); refine V _ ?_; clear V K0; simp only [put, app, Z, af, zE, zS, D])
 refine ai ?_
 refine hK1 _ ?_; clear hK1; refine ad [0, 1, 3, 4] ?_; simp only [U, lkp, zE, reduceCtorEq, E, Y, D]
 refine aa fun K2 hK2 => ?_
 refine ae hP hN rfl ?_
 (refine ab rfl fun K0 V => ?_; simp only [zE, op1, ev, lkp, ah, ag, ev, reduceCtorEq, E, D, J, S, M, O, Try.td3, List.length_map]; refine V _ ?_; clear V K0; simp only [put, app, Z, af, zE, zS, D])
 refine ai ?_
 refine hK2 _ ?_; clear hK2; refine ad [0, 1, 3, 4, 5] ?_; simp only [U, lkp, zE, reduceCtorEq, E, Y, D]
 refine aa fun K3 hK3 => ?_
 refine aM ?_
 refine bu (fun n4 s4 => ∃ (k : Nat), (k ≤ l.length) ∧ (∀ j, j < k → l.getD j d0 ≠ q) ∧ n4 = l.length + 1 - k ∧ s4 = { env := [(0, .one (.list (.pair (.int .i64) (.pair (.int .i64) .unit)) (List.map dt l))), (3, .one (.ptr 0 0 0 0)), (4, .one (.int .i64 0)), (5, .one (.int .i64 (k : Int)))], L := [.vars 93 [.int .i64 q.1, .int .i64 q.2]] }) ?_ ?_
 ·exact ⟨_, _, aL [0, 3, 4, 5], 0, Nat.zero_le _, fun q hq => by omega, rfl, rfl⟩
 ·rintro n4 s4 ⟨k, hk, hq, rfl, rfl⟩
  refine aa fun K5 hK5 => ?_
  refine aa fun K6 hK6 => ?_
  have hgi : gt (.pair (.int .i64) (.pair (.int .i64) .unit)) (List.map dt l) (k : Int) = ((l.getD k d0).1, ((l.getD k d0).2, ())) := (pX l k).1
  refine c0 hP hN Try.mixed rfl ?_
  iterate 4 (refine ab rfl fun K0 V => ?_; simp only [zE, op1, ev, lkp, ah, ag, aG, br, be, aZ, ba, bn, Nat.div_one, aO, bb, Ty.size, aJ, dite_true, aD, aE, aC, ar, aB, aP, reduceCtorEq, E, D, J, S, M, O, Try.el89, Try.td3, Try.td4, Try.td89, List.length_map, hgi]; (repeat refine And.intro (by first | omega | assumption | exact rfl) ?_); (first | refine V _ ?_ | refine Or.inl (V _ ?_)); clear V K0; simp only [put, app, Z, af, zE, zS, D])
  (refine ab rfl fun K0 V => ?_; simp only [zE, op1, ev, lkp, ah, ag, ev, reduceCtorEq, E, D, J, S, M, O, Try.td4, List.length_map, hgi]; refine V _ ?_; clear V K0; simp only [put, app, Z, af, zE, zS, D])
  refine' aU (want := true) 6 rfl (m := 10) (by simp only [U, lkp, zE, reduceCtorEq, E, Y, D]; exact rfl) (by kernel_rfl) rfl rfl rfl rfl rfl (fun hg7 => ?a7) ?b7 ?c7
  case a7 =>
   have hq7 := hg7; (try simp only [zB, reduceCtorEq] at hg7); simp only [List.take_succ_cons, List.take_zero, List.cons_append, List.nil_append]
   (refine aK rfl fun K0 V => ?_; simp only [zE, op1, ev, lkp, ah, ag, ev, reduceCtorEq, E, D, J, S, M, O, Try.el89, Try.td89, List.length_map, hgi]; refine V _ ?_; clear V K0; simp only [put, app, Z, af, zE, zS, D])
   (refine aK rfl fun K0 V => ?_; simp only [zE, op1, ev, lkp, ah, ag, ev, reduceCtorEq, E, D, J, S, M, O, Try.td3, List.length_map, hgi]; refine V _ ?_; clear V K0; simp only [put, app, Z, af, zE, zS, D])
   (refine aK rfl fun K0 V => ?_; simp only [zE, op1, ev, lkp, ah, ag, aH, zG, Ty.dflt, Ty.size, Nat.mul_one, ne_eq, not_false_eq_true, Int.natCast_one, Int.mul_one, reduceCtorEq, E, D, J, S, M, O, Try.el89, Try.td89, List.length_map, hgi]; (repeat refine And.intro (by first | omega | assumption | exact rfl) ?_); refine V _ ?_; clear V K0; simp only [put, app, Z, af, zE, zS, D])
   (refine aK rfl fun K0 V => ?_; simp only [zE, op1, ev, lkp, ah, ag, ay, Nat.mul_one, au, ax, acs, Ty.dflt, zG, aq, reduceCtorEq, E, D, J, S, M, O, Try.fl93, Try.st93, Try.td93, List.length_map, hgi]; (repeat refine And.intro (by first | omega | assumption | exact rfl) ?_); refine V _ ?_; clear V K0; simp only [put, app, Z, af, zE, zS, D])
   (refine aK rfl fun K0 V => ?_; simp only [zE, op1, ev, lkp, ah, ag, ay, Nat.mul_one, au, ax, acs, Ty.dflt, zG, aq, reduceCtorEq, E, D, J, S, M, O, Try.fl93, Try.st93, Try.td93, List.length_map, hgi]; (repeat refine And.intro (by first | omega | assumption | exact rfl) ?_); refine V _ ?_; clear V K0; simp only [put, app, Z, af, zE, zS, D])
   (refine aK rfl fun K0 V => ?_; simp only [zE, op1, ev, lkp, ah, ag, aD, aE, aC, ar, aB, aP, reduceCtorEq, E, D, J, S, M, O, Try.fl93, Try.st93, Try.td4, Try.td93, List.length_map, hgi]; (repeat refine And.intro (by first | omega | assumption | exact rfl) ?_); refine V _ ?_; clear V K0; simp only [put, app, Z, af, zE, zS, D])
   (refine ab rfl fun K0 V => ?_; simp only [zE, op1, ev, lkp, ah, ag, bm, reduceCtorEq, E, D, J, S, M, O, Try.td4, List.length_map, hgi]; refine V _ ?_; clear V K0; simp only [put, app, Z, af, zE, zS, D])
   refine ai ?_
   refine ⟨by simp only [U, lkp, zE, reduceCtorEq, E, Y, D]; exact rfl, rfl, ?_, rfl⟩; (repeat refine aV rfl ?_); exact bt (by exact rfl) hq7
  case b7 => exact bq (by first | rfl | (simp [bU]; done) | decide)
  simp only [bk, b0]
  refine ai ?_
  refine ⟨by kernel_rfl, ?_⟩
  refine hK6 _ ?_; clear hK6; refine ad [0, 3, 4, 5, 17] ?_; simp only [U, lkp, zE, reduceCtorEq, E, Y, D]
  refine aA (by simp only [ev, U, lkp, zE, reduceCtorEq, E, Y, D]; exact rfl) (fun hc8 => ?_) (fun hc8 => ?_)
  ·(try simp only [zB, reduceCtorEq] at hc8)
   have hne : l.getD k d0 ≠ q := fun e => by
     have e1 := congrArg Prod.fst e; have e2 := congrArg Prod.snd e; have h9 := hc8; rw [e1, e2] at h9; simp at h9; done
   refine aI ?_
   refine hK5 _ ?_; clear hK5; refine ad [0, 3, 4, 5, 17] ?_; simp only [U, lkp, zE, reduceCtorEq, E, Y, D]
   refine aM ?_
   refine ae hP hN rfl ?_
   iterate 3 (refine ab rfl fun K0 V => ?_; simp only [zE, op1, ev, lkp, ah, ag, aD, aE, aC, ar, aB, aP, reduceCtorEq, E, D, J, S, M, O, Try.td3, List.length_map]; (repeat refine And.intro (by first | omega | assumption | exact rfl) ?_); refine V _ ?_; clear V K0; simp only [put, app, Z, af, zE, zS, D])
   refine ai ?_
   refine ⟨_, _, ?_, aL [0, 3, 4, 5], k + 1, by omega, fun j hj => ?_, rfl, rfl⟩
   · omega
   · by_cases e : j = k
     · rw [e]; exact hne
     · exact hq j (by omega)
  ·(try simp only [zB, reduceCtorEq] at hc8)
   obtain ⟨hpk, _, _⟩ := rJ (l := l) (q := q) (k := k) hq (by omega) (fun hkl => Prod.ext (by have h9 := hc8; omega) (by have h9 := hc8; omega))
   refine bp ?_
   refine hK3 _ ?_; clear hK3; refine ad [0, 3, 4, 5, 17] ?_; simp only [U, lkp, zE, reduceCtorEq, E, Y, D]
   refine aa fun K9 hK9 => ?_
   refine ae hP hN rfl ?_
   iterate 2 (refine ab rfl fun K0 V => ?_; simp only [zE, op1, ev, lkp, ah, ag, ev, reduceCtorEq, E, D, J, S, M, O, Try.td3, List.length_map]; refine V _ ?_; clear V K0; simp only [put, app, Z, af, zE, zS, D])
   refine ai ?_
   refine hK9 _ ?_; clear hK9; refine ad [0, 3, 4, 5, 17] ?_; simp only [U, lkp, zE, reduceCtorEq, E, Y, D]
   refine aF ?_
   refine ⟨by first | exact .inl rfl | exact .inr rfl, _, rfl, ?_⟩; simp only [fzV, fz1, fzC, List.map_cons, List.map_nil, U, lkp, zE, reduceCtorEq, E, Y, D, List.length_map]
   refine VLE.of_eq ?_
   refine congrArg (fun n => AV.one (AC.int IntKind.i64 n)) ?_
   rw [← hpk]
end Go.Proofs.Ytdkgcbhbpdbmnaa
namespace Go.Proofs.Ytdkgcbhbpdbmnaa
open Go Go.AV
open Nat renaming reduceEqDiff → E, reduceAdd → D, reduceLeDiff → J, reduceLT → S, reduceMul → M, reduceSub → O
open List renaming set_cons_zero → ao, set_cons_succ → am
set_option maxRecDepth 100000 in
set_option maxHeartbeats 1500000 in
theorem kF (a b : Dfa) (most : Nat) (ha : DOK a) (hb : DOK b) (hi : a.inp = b.inp) : bD Try.prog 49 [a.av, b.av, .one (.int .i64 (most : Int))] (.tup [.one (.list (.pair (.int .i64) (.pair (.int .i64) .unit)) (List.map dt ((et (bS a b) a.inp.toNat most (a.nx.length * b.nx.length + 1) 0 [((a.st, b.st), [])]).map Prod.fst))), .one (.list (.list (.int .i64)) ((et (bS a b) a.inp.toNat most (a.nx.length * b.nx.length + 1) 0 [((a.st, b.st), [])]).map Prod.snd))]) := by
 have a1 := ha.i1; have a2 := ha.i2; have a4 := ha.n2; have b4 := hb.n2; have hm9 := dJ a4 b4
 refine aR Try.func49 rfl (by kernel_rfl) (Nat.le_of_ble_eq_true rfl) rfl fun C hP hN hB => ?_
 replace hN : C.N = 87 := hN
 simp only [Y, D]
 refine aa fun K1 hK1 => ?_
 refine ae hP hN rfl ?_
 iterate 4 (refine ab rfl fun K0 V => ?_; simp only [zE, op1, ev, lkp, ah, ag, bZ, ak, reduceCtorEq, E, D, J, S, M, O, Try.el22, Try.el89, Try.st25, Try.td22, Try.td25, Try.td89, Dfa.av, List.length_map]; (repeat refine And.intro (by first | omega | assumption | exact rfl) ?_); refine V _ ?_; clear V K0; simp only [put, app, Z, af, zE, zS, D])
 refine ai ?_
 refine hK1 _ ?_; clear hK1; refine ad [0, 1, 2, 3, 4, 6, 7] ?_; simp only [U, lkp, zE, reduceCtorEq, E, Y, D]
 refine aa fun K2 hK2 => ?_
 refine ae hP hN rfl ?_
 iterate 5 (refine ab rfl fun K0 V => ?_; simp only [zE, op1, ev, lkp, ah, ag, aw, ay, Nat.mul_one, au, ax, acs, Ty.dflt, zG, aq, bJ, aW, aN, ak, reduceCtorEq, E, D, J, S, M, O, Try.fl93, Try.st25, Try.st93, Try.td1, Try.td25, Try.td3, Try.td93, Dfa.av, List.length_map]; (repeat refine And.intro (by first | omega | assumption | exact rfl) ?_); (first | refine V _ ?_ | refine Or.inl (V _ ?_)); clear V K0; simp only [put, app, Z, af, zE, zS, D])
 (refine ab rfl fun K0 V => ?_; simp only [zE, op1, ev, lkp, ah, ag, aY, aW, bT, rep, aJ, aN, ak, Ty.size, reduceCtorEq, E, D, J, S, M, O, Try.el89, Try.td1, Try.td89, Dfa.av, List.length_map]; (repeat refine And.intro (by first | omega | assumption | exact rfl) ?_); refine Or.inr (Or.inl (V _ ?_)); clear V K0; simp only [put, app, Z, af, zE, zS, D])
 (refine ab rfl fun K0 V => ?_; simp only [zE, op1, ev, lkp, ah, ag, ev, reduceCtorEq, E, D, J, S, M, O, Try.el89, Try.td89, Dfa.av, List.length_map]; refine V _ ?_; clear V K0; simp only [put, app, Z, af, zE, zS, D])
 refine ai ?_
 refine hK2 _ ?_; clear hK2; refine ad [0, 1, 2, 3, 4, 6, 7, 8] ?_; simp only [U, lkp, zE, reduceCtorEq, E, Y, D]
 refine aa fun K3 hK3 => ?_
 refine ae hP hN rfl ?_
 (refine ab rfl fun K0 V => ?_; simp only [zE, op1, ev, lkp, ah, ag, aY, aW, bT, rep, aJ, aN, ak, Ty.size, reduceCtorEq, E, D, J, S, M, O, Try.el22, Try.td1, Try.td22, Dfa.av, List.length_map]; (repeat refine And.intro (by first | omega | assumption | exact rfl) ?_); refine Or.inr (Or.inl (V _ ?_)); clear V K0; simp only [put, app, Z, af, zE, zS, D])
 (refine ab rfl fun K0 V => ?_; simp only [zE, op1, ev, lkp, ah, ag, ev, reduceCtorEq, E, D, J, S, M, O, Try.el22, Try.td22, Dfa.av, List.length_map]; refine V _ ?_; clear V K0; simp only [put, app, Z, af, zE, zS, D])
 refine ai ?_
 refine hK3 _ ?_; clear hK3; refine ad [0, 1, 2, 3, 4, 6, 7, 8, 9] ?_; simp only [U, lkp, zE, reduceCtorEq, E, Y, D]
 refine aa fun K4 hK4 => ?_
 refine aa fun K5 hK5 => ?_
 refine ae hP hN rfl ?_
 (refine ab rfl fun K0 V => ?_; simp only [zE, op1, ev, lkp, ah, ag, ev, reduceCtorEq, E, D, J, S, M, O, Try.td3, Dfa.av, List.length_map]; refine V _ ?_; clear V K0; simp only [put, app, Z, af, zE, zS, D])
 refine ai ?_
 refine hK5 _ ?_; clear hK5; refine ad [0, 1, 2, 3, 4, 6, 7, 8, 9, 10] ?_; simp only [U, lkp, zE, reduceCtorEq, E, Y, D]
 refine aM ?_
 refine bu (fun n6 s6 => ∃ (k : Nat) (l : List W3) (v : Nat), (DW a.nx.length b.nx.length l) ∧ (et (bS a b) a.inp.toNat most (a.nx.length * b.nx.length + 1 - k) k l = (et (bS a b) a.inp.toNat most (a.nx.length * b.nx.length + 1) 0 [((a.st, b.st), [])])) ∧ (k ≤ l.length) ∧ n6 = a.nx.length * b.nx.length + 1 - k ∧ s6 = { env := [(2, .one (.int .i64 (most : Int))), (3, .one (.ptr 0 0 0 0)), (4, .one (.ptr 1 0 0 0)), (6, .one .nils), (7, .one .nils), (8, .one (.row 2 v)), (9, .one (.row 3 v)), (10, .one (.int .i64 (k : Int)))], L := [.vars 25 [.int .i64 a.inp, .int .i64 a.st, .list (.list (.int .i64)) a.nx, .list .bool a.acc], .vars 25 [.int .i64 b.inp, .int .i64 b.st, .list (.list (.int .i64)) b.nx, .list .bool b.acc], .row (.pair (.int .i64) (.pair (.int .i64) .unit)) 93 v (List.map dt (l.map Prod.fst)), .row (.list (.int .i64)) 26 v (l.map Prod.snd)] }) ?_ ?_
 ·exact ⟨_, _, aL [2, 3, 4, 6, 7, 8, 9, 10], 0, [((a.st, b.st), [])], 0, j8 (fh ha hb), rfl, by simp, rfl, rfl⟩
 ·rintro n6 s6 ⟨k, l, v, hdw, hrun, hk, rfl, rfl⟩
  refine aa fun K7 hK7 => ?_
  refine aa fun K8 hK8 => ?_
  refine ae hP hN rfl ?_
  iterate 4 (refine ab rfl fun K0 V => ?_; simp only [zE, op1, ev, lkp, ah, ag, aG, br, be, aZ, ba, bn, Nat.div_one, aO, bb, Ty.size, aJ, dite_true, aD, aE, aC, ar, aB, aP, reduceCtorEq, E, D, J, S, M, O, Try.el89, Try.td3, Try.td4, Try.td89, Dfa.av, List.length_map]; (repeat refine And.intro (by first | omega | assumption | exact rfl) ?_); (first | refine V _ ?_ | refine Or.inl (V _ ?_)); clear V K0; simp only [put, app, Z, af, zE, zS, D])
  (refine ab rfl fun K0 V => ?_; simp only [zE, op1, ev, lkp, ah, ag, ev, reduceCtorEq, E, D, J, S, M, O, Try.td4, Dfa.av, List.length_map]; refine V _ ?_; clear V K0; simp only [put, app, Z, af, zE, zS, D])
  refine' aU (want := true) 4 rfl (m := 24) (by simp only [U, lkp, zE, reduceCtorEq, E, Y, D]; exact rfl) (by kernel_rfl) rfl rfl rfl rfl rfl (fun hg9 => ?a9) ?b9 ?c9
  case a9 =>
   have hq9 := hg9; (try simp only [zB, reduceCtorEq] at hg9); simp only [List.take_succ_cons, List.take_zero, List.cons_append, List.nil_append]
   (refine aK rfl fun K0 V => ?_; simp only [zE, op1, ev, lkp, ah, ag, ev, reduceCtorEq, E, D, J, S, M, O, Try.el89, Try.td89, Dfa.av, List.length_map]; refine V _ ?_; clear V K0; simp only [put, app, Z, af, zE, zS, D])
   (refine aK rfl fun K0 V => ?_; simp only [zE, op1, ev, lkp, ah, ag, aG, br, be, aZ, ba, bn, Nat.div_one, aO, bb, Ty.size, aJ, dite_true, reduceCtorEq, E, D, J, S, M, O, Try.el89, Try.td3, Try.td89, Dfa.av, List.length_map]; (repeat refine And.intro (by first | omega | assumption | exact rfl) ?_); (first | refine V _ ?_ | refine Or.inl (V _ ?_)); clear V K0; simp only [put, app, Z, af, zE, zS, D])
   (refine aK rfl fun K0 V => ?_; simp only [zE, op1, ev, lkp, ah, ag, ev, reduceCtorEq, E, D, J, S, M, O, Try.td3, Dfa.av, List.length_map]; refine V _ ?_; clear V K0; simp only [put, app, Z, af, zE, zS, D])
   (refine aK rfl fun K0 V => ?_; simp only [zE, op1, ev, lkp, ah, ag, aD, aE, aC, ar, aB, aP, reduceCtorEq, E, D, J, S, M, O, Try.td3, Try.td4, Dfa.av, List.length_map]; (repeat refine And.intro (by first | omega | assumption | exact rfl) ?_); refine V _ ?_; clear V K0; simp only [put, app, Z, af, zE, zS, D])
   (refine ab rfl fun K0 V => ?_; simp only [zE, op1, ev, lkp, ah, ag, bm, reduceCtorEq, E, D, J, S, M, O, Try.td4, Dfa.av, List.length_map]; refine V _ ?_; clear V K0; simp only [put, app, Z, af, zE, zS, D])
   refine ai ?_
   refine ⟨by simp only [U, lkp, zE, reduceCtorEq, E, Y, D]; exact rfl, rfl, ?_, rfl⟩; (repeat refine aV rfl ?_); exact bt (by exact rfl) hq9
  case b9 => exact bq (by first | rfl | (simp [bU]; done) | decide)
  simp only [bk, b0]
  refine ai ?_
  refine hK8 _ ?_; clear hK8; refine ad [2, 3, 4, 6, 7, 8, 9, 10, 29] ?_; simp only [U, lkp, zE, reduceCtorEq, E, Y, D]
  refine aA (by simp only [ev, U, lkp, zE, reduceCtorEq, E, Y, D]; exact rfl) (fun hc10 => ?_) (fun hc10 => ?_)
  ·(try simp only [zB, reduceCtorEq] at hc10)
   refine aI ?_
   refine hK7 _ ?_; clear hK7; refine ad [2, 3, 4, 6, 7, 8, 9, 10, 29] ?_; simp only [U, lkp, zE, reduceCtorEq, E, Y, D]
   refine aa fun K11 hK11 => ?_
   refine aM ?_
   refine aa fun K12 hK12 => ?_
   refine ae hP hN rfl ?_
   (refine ab rfl fun K0 V => ?_; simp only [zE, op1, ev, lkp, ah, ag, ev, reduceCtorEq, E, D, J, S, M, O, Try.td3, Dfa.av, List.length_map]; refine V _ ?_; clear V K0; simp only [put, app, Z, af, zE, zS, D])
   refine ai ?_
   refine hK12 _ ?_; clear hK12; refine ad [2, 3, 4, 6, 7, 8, 9, 10, 11, 29] ?_; simp only [U, lkp, zE, reduceCtorEq, E, Y, D]
   refine aM ?_
   refine bu (fun n13 s13 => ∃ (x : Nat) (v2 : Nat), ((x : Int) ≤ a.inp) ∧ (DW a.nx.length b.nx.length (bP (bS a b) (l.getD k w30) l x)) ∧ n13 = a.inp.toNat - x ∧ s13 = { env := [(2, .one (.int .i64 (most : Int))), (3, .one (.ptr 0 0 0 0)), (4, .one (.ptr 1 0 0 0)), (6, .one .nils), (7, .one .nils), (8, .one (.row 2 v2)), (9, .one (.row 3 v2)), (10, .one (.int .i64 (k : Int))), (11, .one (.int .i64 (x : Int)))], L := [.vars 25 [.int .i64 a.inp, .int .i64 a.st, .list (.list (.int .i64)) a.nx, .list .bool a.acc], .vars 25 [.int .i64 b.inp, .int .i64 b.st, .list (.list (.int .i64)) b.nx, .list .bool b.acc], .row (.pair (.int .i64) (.pair (.int .i64) .unit)) 93 v2 (List.map dt ((bP (bS a b) (l.getD k w30) l x).map Prod.fst)), .row (.list (.int .i64)) 26 v2 ((bP (bS a b) (l.getD k w30) l x).map Prod.snd)] }) ?_ ?_
   ·exact ⟨_, _, aL [2, 3, 4, 6, 7, 8, 9, 10, 11], 0, v, by omega, hdw, rfl, rfl⟩
   ·rintro n13 s13 ⟨x, v2, hx, hdc, rfl, rfl⟩
    refine aa fun K14 hK14 => ?_
    refine aa fun K15 hK15 => ?_
    refine ae hP hN rfl ?_
    iterate 4 (refine ab rfl fun K0 V => ?_; simp only [zE, op1, ev, lkp, ah, ag, aw, ay, Nat.mul_one, au, ax, acs, Ty.dflt, zG, aq, aD, aE, aC, ar, aB, aP, reduceCtorEq, E, D, J, S, M, O, Try.st25, Try.td25, Try.td3, Try.td4, Dfa.av, List.length_map]; (repeat refine And.intro (by first | omega | assumption | exact rfl) ?_); refine V _ ?_; clear V K0; simp only [put, app, Z, af, zE, zS, D])
    refine ai ?_
    refine hK15 _ ?_; clear hK15; refine ad [2, 3, 4, 6, 7, 8, 9, 10, 11, 35] ?_; simp only [U, lkp, zE, reduceCtorEq, E, Y, D]
    refine aA (by simp only [ev, U, lkp, zE, reduceCtorEq, E, Y, D]; exact rfl) (fun hc16 => ?_) (fun hc16 => ?_)
    ·(try simp only [zB, reduceCtorEq] at hc16)
     refine aI ?_
     refine hK14 _ ?_; clear hK14; refine ad [2, 3, 4, 6, 7, 8, 9, 10, 11, 35] ?_; simp only [U, lkp, zE, reduceCtorEq, E, Y, D]
     refine aa fun K17 hK17 => ?_
     refine aM ?_
     refine aa fun K18 hK18 => ?_
     refine oB ?_; simp only [List.cons_append, List.append_assoc, List.nil_append]
     have hkl : k < l.length := by omega
     have hge := hS (bS a b) (l.getD k w30) l x
     have hgi : ∀ d, (List.map dt ((bP (bS a b) (l.getD k w30) l x).map Prod.fst)).getD k d = (((l.getD k w30).1.1, ((l.getD k w30).1.2, ()))) := fun d => by rw [fX (by omega), fU _ _ x hkl]
     have hwi : ∀ z, ((bP (bS a b) (l.getD k w30) l x).map Prod.snd).getD k z = (l.getD k w30).2 := fun z => by rw [o6 (by omega), fU _ _ x hkl]
     have hre := hdw.rg _ (cU hkl)
     obtain ⟨hr1, hr2⟩ := id hre
     have hra := ha.rli hr1; have hsa : ((a.nx.getD (l.getD k w30).1.1.toNat []).length : Int) = a.inp := hra; have hrb := hb.rli hr2; have hsb : ((b.nx.getD (l.getD k w30).1.2.toNat []).length : Int) = b.inp := hrb; have hcl := hdc.le; have hwl := hdw.wl _ (cU hkl); have hdl := hdw.le
     refine c0 hP hN Try.mixed rfl ?_
     iterate 25 (refine ab rfl fun K0 V => ?_; simp only [zE, op1, ev, lkp, ah, ag, aw, ay, Nat.mul_one, au, ax, acs, Ty.dflt, zG, aq, aH, Ty.size, ne_eq, not_false_eq_true, Int.natCast_one, Int.mul_one, bJ, aW, aN, ak, reduceCtorEq, E, D, J, S, M, O, Try.el22, Try.el26, Try.el89, Try.fl93, Try.st25, Try.st93, Try.td1, Try.td2, Try.td22, Try.td25, Try.td26, Try.td3, Try.td89, Try.td93, Dfa.av, List.length_map, hgi]; (repeat refine And.intro (by first | omega | assumption | exact rfl) ?_); (first | refine V _ ?_ | refine Or.inl (V _ ?_)); clear V K0; simp only [put, app, Z, af, zE, zS, D])
     (refine ab rfl fun K0 V => ?_; simp only [zE, op1, ev, lkp, ah, ag, bK, reduceCtorEq, E, D, J, S, M, O, Try.fl93, Try.st93, Try.td93, Dfa.av, List.length_map, hgi]; refine Or.inr (Or.inl ⟨4, ?_, (.pair (.int .i64) (.pair (.int .i64) .unit)), (0, (0, ())), ?_⟩); (exact rfl); (repeat refine And.intro (by first | rfl | decide) ?_); refine V _ ?_; clear V K0; simp only [put, app, Z, af, zE, zS, D])
     (refine ab rfl fun K0 V => ?_; simp only [zE, op1, ev, lkp, ah, ag, bc, Nat.mul_one, ak, aN, aJ, acs, Ty.size, Ty.dflt, zG, reduceCtorEq, E, D, J, S, M, O, Try.fl93, Try.st93, Try.td93, Dfa.av, List.length_map, hgi]; (repeat refine And.intro (by first | omega | assumption | exact rfl) ?_); refine V _ ?_; clear V K0; simp only [put, app, Z, af, zE, zS, D])
     refine ai ?_
     refine ⟨by kernel_rfl, ?_⟩
     refine hK18 _ ?_; clear hK18; refine ad [2, 3, 4, 6, 7, 8, 9, 10, 11, 12, 35] ?_; simp only [U, lkp, zE, reduceCtorEq, E, Y, D]
     refine aa fun K19 hK19 => ?_
     refine ae hP hN rfl ?_
     iterate 2 (refine ab rfl fun K0 V => ?_; simp only [zE, op1, ev, lkp, ah, ag, ay, Nat.mul_one, au, ax, acs, Ty.dflt, zG, aq, reduceCtorEq, E, D, J, S, M, O, Try.el89, Try.fl93, Try.st93, Try.td89, Try.td93, Dfa.av, List.length_map]; (repeat refine And.intro (by first | omega | assumption | exact rfl) ?_); refine V _ ?_; clear V K0; simp only [put, app, Z, af, zE, zS, D])
     refine ab rfl fun K0 V => ?_
     refine aS (h := iD (args := [.one (.row 2 v2), .agg [.int .i64 (bS a b (l.getD k w30).1 x).1, .int .i64 (bS a b (l.getD k w30).1 x).2]]) (by simp [fzV, fz1, fzC]) rfl (kt ((bP (bS a b) (l.getD k w30) l x).map Prod.fst) (bS a b (l.getD k w30).1 x) (by rw [List.length_map]; omega)) rfl) rfl rfl (by first | exact rfl | (simp only [ev, U, lkp, zE, reduceCtorEq, E, Y, D]; exact rfl)) (by simp only [zE, zG, op1, ev, lkp, ah, ag, ak, acs, aX, mv1, mvC, Ty.dflt, reduceCtorEq, E, D, J, S, M, O, Dfa.av, List.length_map, List.getD_cons_zero, bS, Dfa.dl, Dfa.row, Int.toNat_natCast]) ?_
     refine V _ ?_; clear V K0; simp only [put, app, Z, af, zE, zS, D]
     iterate 3 (refine ab rfl fun K0 V => ?_; simp only [zE, op1, ev, lkp, ah, ag, aG, br, be, aZ, ba, bn, Nat.div_one, aO, bb, Ty.size, aJ, dite_true, aD, aE, aC, ar, aB, aP, reduceCtorEq, E, D, J, S, M, O, Try.el89, Try.td3, Try.td4, Try.td89, Dfa.av, List.length_map]; (repeat refine And.intro (by first | omega | assumption | exact rfl) ?_); (first | refine V _ ?_ | refine Or.inl (V _ ?_)); clear V K0; simp only [put, app, Z, af, zE, zS, D])
     refine ai ?_
     refine hK19 _ ?_; clear hK19; refine ad [2, 3, 4, 6, 7, 8, 9, 10, 11, 12, 35, 68] ?_; simp only [U, lkp, zE, reduceCtorEq, E, Y, D]
     refine aA (by simp only [ev, U, lkp, zE, reduceCtorEq, E, Y, D]; exact rfl) (fun hc20 => ?_) (fun hc20 => ?_)
     ·(try simp only [zB, reduceCtorEq] at hc20)
      have hnin : (bS a b (l.getD k w30).1 x) ∉ (bP (bS a b) (l.getD k w30) l x).map Prod.fst := fun hin => by have h8 := gg hin; rw [List.length_map] at h8; have h9 := hc20; omega
      refine aa fun K21 hK21 => ?_
      refine ae hP hN rfl ?_
      iterate 5 (refine ab rfl fun K0 V => ?_; simp only [zE, op1, ev, lkp, ah, ag, ay, Nat.mul_one, au, ax, acs, Ty.dflt, zG, aq, aY, aW, bT, rep, aJ, aN, ak, Ty.size, aG, br, be, aZ, ba, bn, Nat.div_one, aO, bb, dite_true, reduceCtorEq, E, D, J, S, M, O, Try.el89, Try.fl93, Try.st93, Try.td1, Try.td89, Try.td93, Dfa.av, List.length_map]; (repeat refine And.intro (by first | omega | assumption | exact rfl) ?_); (first | refine V _ ?_ | refine Or.inl (V _ ?_)); clear V K0; simp only [put, app, Z, af, zE, zS, D])
      refine ai ?_
      refine hK21 _ ?_; clear hK21; refine ad [2, 3, 4, 6, 7, 8, 9, 10, 11, 12, 35, 68] ?_; simp only [U, lkp, zE, reduceCtorEq, E, Y, D]
      refine ae hP hN rfl ?_
      (refine ab rfl fun K0 V => ?_; simp only [zE, op1, ev, lkp, ah, ag, ev, reduceCtorEq, E, D, J, S, M, O, Try.el22, Try.td22, Dfa.av, List.length_map, hwi]; refine V _ ?_; clear V K0; simp only [put, app, Z, af, zE, zS, D])
      (refine ab rfl fun K0 V => ?_; simp only [zE, op1, ev, lkp, ah, ag, aY, aW, bT, rep, aJ, aN, ak, Ty.size, reduceCtorEq, E, D, J, S, M, O, Try.el26, Try.td26, Dfa.av, List.length_map, hwi]; (repeat refine And.intro (by first | omega | assumption | exact rfl) ?_); refine Or.inr (Or.inl (V _ ?_)); clear V K0; simp only [put, app, Z, af, zE, zS, D])
      iterate 7 (refine ab rfl fun K0 V => ?_; simp only [zE, op1, ev, lkp, ah, ag, aH, zG, Ty.dflt, Ty.size, Nat.mul_one, ne_eq, not_false_eq_true, Int.natCast_one, Int.mul_one, ay, au, ax, acs, aq, aG, br, be, aZ, ba, bn, Nat.div_one, aO, bb, aJ, dite_true, aY, aW, bT, rep, aN, ak, reduceCtorEq, E, D, J, S, M, O, Try.el22, Try.el26, Try.td1, Try.td22, Try.td26, Try.td3, Dfa.av, List.length_map, hwi]; (repeat refine And.intro (by first | omega | assumption | exact rfl) ?_); (first | refine V _ ?_ | refine Or.inl (V _ ?_)); clear V K0; simp only [put, app, Z, af, zE, zS, D])
      (refine ab rfl fun K0 V => ?_; simp only [zE, op1, ev, lkp, ah, ag, aG, br, be, aZ, ba, bn, Nat.div_one, aO, bb, Ty.size, aJ, dite_true, reduceCtorEq, E, D, J, S, M, O, Try.el26, Try.td26, Dfa.av, List.length_map, hwi]; (repeat refine And.intro (by first | omega | assumption | exact rfl) ?_); refine Or.inr (V _ ?_); clear V K0; simp only [put, app, Z, af, zE, zS, D])
      iterate 3 (refine ab rfl fun K0 V => ?_; simp only [zE, op1, ev, lkp, ah, ag, aY, aW, bT, rep, aJ, aN, ak, Ty.size, aG, br, be, aZ, ba, bn, Nat.div_one, aO, bb, dite_true, reduceCtorEq, E, D, J, S, M, O, Try.el22, Try.td1, Try.td22, Dfa.av, List.length_map, hwi]; (repeat refine And.intro (by first | omega | assumption | exact rfl) ?_); (first | refine V _ ?_ | refine Or.inl (V _ ?_)); clear V K0; simp only [put, app, Z, af, zE, zS, D])
      refine ai ?_
      refine hK17 _ ?_; clear hK17; refine ad [2, 3, 4, 6, 7, 8, 9, 10, 11, 12, 35, 68] ?_; simp only [U, lkp, zE, reduceCtorEq, E, Y, D]
      refine ad [2, 3, 4, 6, 7, 8, 9, 10, 11] ?_; simp only [U, lkp, zE, reduceCtorEq, E]
      first | (refine d8 (L1 := [_, _, _, _, _]) rfl hB rfl rfl ?_; refine d8 (L1 := [_, _, _, _]) rfl hB rfl rfl ?_) | refine d8 (L1 := [_, _, _, _]) rfl hB rfl rfl ?_
      refine ae hP hN rfl ?_
      iterate 3 (refine ab rfl fun K0 V => ?_; simp only [zE, op1, ev, lkp, ah, ag, aD, aE, aC, ar, aB, aP, reduceCtorEq, E, D, J, S, M, O, Try.td3, Dfa.av, List.length_map]; (repeat refine And.intro (by first | omega | assumption | exact rfl) ?_); refine V _ ?_; clear V K0; simp only [put, app, Z, af, zE, zS, D])
      refine ai ?_
      first
      | (have hs9 : bP (bS a b) (l.getD k w30) l (x + 1) = (bP (bS a b) (l.getD k w30) l x) := by rw [ci, eE hin]
         refine ⟨_, _, ?_, aL [2, 3, 4, 6, 7, 8, 9, 10, 11], x + 1, v2, by omega, by rw [hs9]; exact hdc, rfl, ?_⟩
         · omega
         · rw [hs9]; rfl)
      | (have hs9 : bP (bS a b) (l.getD k w30) l (x + 1) = (bP (bS a b) (l.getD k w30) l x) ++ [((bS a b (l.getD k w30).1 x), (l.getD k w30).2 ++ [(x : Int)])] := by rw [ci, dD hnin]
         have hm8 : (l.getD k w30) ∈ (bP (bS a b) (l.getD k w30) l x) := by obtain ⟨k8, h8⟩ := dc (bS a b) (l.getD k w30) l x; rw [h8]; exact List.mem_append.2 (.inl (cU hkl))
         refine ⟨_, _, ?_, aL [2, 3, 4, 6, 7, 8, 9, 10, 11], x + 1, v2 + 1, by omega, by rw [ci]; exact hdc.step (dM ha hb hi (n := a.inp.toNat) (by omega)) hm8 (by omega), rfl, ?_⟩
         · omega
         · rw [hs9, List.map_append, List.map_append, List.map_append]; rfl)
     ·(try simp only [zB, reduceCtorEq] at hc20)
      have hin : (bS a b (l.getD k w30).1 x) ∈ (bP (bS a b) (l.getD k w30) l x).map Prod.fst := by
        by_cases hin : (bS a b (l.getD k w30).1 x) ∈ (bP (bS a b) (l.getD k w30) l x).map Prod.fst
        · exact hin
        · exfalso; have h8 := hE hin; rw [List.length_map] at h8; have h9 := hc20; omega
      refine aI ?_
      refine hK17 _ ?_; clear hK17; refine ad [2, 3, 4, 6, 7, 8, 9, 10, 11, 12, 35, 68] ?_; simp only [U, lkp, zE, reduceCtorEq, E, Y, D]
      refine ad [2, 3, 4, 6, 7, 8, 9, 10, 11] ?_; simp only [U, lkp, zE, reduceCtorEq, E]
      first | (refine d8 (L1 := [_, _, _, _, _]) rfl hB rfl rfl ?_; refine d8 (L1 := [_, _, _, _]) rfl hB rfl rfl ?_) | refine d8 (L1 := [_, _, _, _]) rfl hB rfl rfl ?_
      refine ae hP hN rfl ?_
      iterate 3 (refine ab rfl fun K0 V => ?_; simp only [zE, op1, ev, lkp, ah, ag, aD, aE, aC, ar, aB, aP, reduceCtorEq, E, D, J, S, M, O, Try.td3, Dfa.av, List.length_map]; (repeat refine And.intro (by first | omega | assumption | exact rfl) ?_); refine V _ ?_; clear V K0; simp only [put, app, Z, af, zE, zS, D])
      refine ai ?_
      first
      | (have hs9 : bP (bS a b) (l.getD k w30) l (x + 1) = (bP (bS a b) (l.getD k w30) l x) := by rw [ci, eE hin]
         refine ⟨_, _, ?_, aL [2, 3, 4, 6, 7, 8, 9, 10, 11], x + 1, v2, by omega, by rw [hs9]; exact hdc, rfl, ?_⟩
         · omega
         · rw [hs9]; rfl)
      | (have hs9 : bP (bS a b) (l.getD k w30) l (x + 1) = (bP (bS a b) (l.getD k w30) l x) ++ [((bS a b (l.getD k w30).1 x), (l.getD k w30).2 ++ [(x : Int)])] := by rw [ci, dD hnin]
         have hm8 : (l.getD k w30) ∈ (bP (bS a b) (l.getD k w30) l x) := by obtain ⟨k8, h8⟩ := dc (bS a b) (l.getD k w30) l x; rw [h8]; exact List.mem_append.2 (.inl (cU hkl))
         refine ⟨_, _, ?_, aL [2, 3, 4, 6, 7, 8, 9, 10, 11], x + 1, v2 + 1, by omega, by rw [ci]; exact hdc.step (dM ha hb hi (n := a.inp.toNat) (by omega)) hm8 (by omega), rfl, ?_⟩
         · omega
         · rw [hs9, List.map_append, List.map_append, List.map_append]; rfl)
    ·(try simp only [zB, reduceCtorEq] at hc16)
     refine bp ?_
     refine hK11 _ ?_; clear hK11; refine ad [2, 3, 4, 6, 7, 8, 9, 10, 11, 35] ?_; simp only [U, lkp, zE, reduceCtorEq, E, Y, D]
     have hdl := hdw.le
     refine ae hP hN rfl ?_
     iterate 3 (refine ab rfl fun K0 V => ?_; simp only [zE, op1, ev, lkp, ah, ag, aD, aE, aC, ar, aB, aP, reduceCtorEq, E, D, J, S, M, O, Try.td3, Dfa.av, List.length_map]; (repeat refine And.intro (by first | omega | assumption | exact rfl) ?_); refine V _ ?_; clear V K0; simp only [put, app, Z, af, zE, zS, D])
     refine ai ?_
     have hxn : x = a.inp.toNat := by omega
     have hkl : k < l.length := by omega
     have hge9 := hS (bS a b) (l.getD k w30) l x
     have hdl := hdw.le
     refine ⟨_, _, ?_, aL [2, 3, 4, 6, 7, 8, 9, 10], k + 1, (bP (bS a b) (l.getD k w30) l x), v2, hdc, ?_, by omega, rfl, rfl⟩
     · omega
     · rw [← hrun, show a.nx.length * b.nx.length + 1 - k = a.nx.length * b.nx.length + 1 - (k + 1) + 1 by omega, fj hkl (by omega), ← hxn]
  ·(try simp only [zB, reduceCtorEq] at hc10)
   refine bp ?_
   refine hK4 _ ?_; clear hK4; refine ad [2, 3, 4, 6, 7, 8, 9, 10, 29] ?_; simp only [U, lkp, zE, reduceCtorEq, E, Y, D]
   refine aa fun K22 hK22 => ?_
   refine ae hP hN rfl ?_
   iterate 4 (refine ab rfl fun K0 V => ?_; simp only [zE, op1, ev, lkp, ah, ag, ev, reduceCtorEq, E, D, J, S, M, O, Try.el22, Try.el89, Try.td22, Try.td89, Dfa.av, List.length_map]; refine V _ ?_; clear V K0; simp only [put, app, Z, af, zE, zS, D])
   refine ai ?_
   refine hK22 _ ?_; clear hK22; refine ad [2, 3, 4, 6, 7, 8, 9, 10, 29] ?_; simp only [U, lkp, zE, reduceCtorEq, E, Y, D]
   refine aF ?_
   refine ⟨by first | exact .inl rfl | exact .inr rfl, _, rfl, ?_⟩; simp only [fzV, fz1, fzC, List.map_cons, List.map_nil, U, lkp, zE, reduceCtorEq, E, Y, D, Dfa.av, List.length_map]
   refine VLE.of_eq ?_
   rw [← hrun, eT (by omega)]
end Go.Proofs.Ytdkgcbhbpdbmnaa
namespace Go.Proofs.Ytdkgcbhbpdbmnaa
open Go Go.AV
open Nat renaming reduceEqDiff → E, reduceAdd → D, reduceLeDiff → J, reduceLT → S, reduceMul → M, reduceSub → O
open List renaming set_cons_zero → ao, set_cons_succ → am
set_option maxRecDepth 100000 in
set_option maxHeartbeats 1500000 in
theorem lE (op : Int) (a b : Dfa) : bD Try.prog 23 [.one (.int .i64 op), a.av, b.av] (.tup [(ch op a b).av, .one (.int .i64 (cr op a b))]) := by
 refine aR Try.func23 rfl (by kernel_rfl) (Nat.le_of_ble_eq_true rfl) rfl fun C hP hN hB => ?_
 replace hN : C.N = 116 := hN
 simp only [Y, D]
 refine aa fun K1 hK1 => ?_
 refine ae hP hN rfl ?_
 iterate 4 (refine ab rfl fun K0 V => ?_; simp only [zE, op1, ev, lkp, ah, ag, bZ, ak, bK, reduceCtorEq, E, D, J, S, M, O, Try.st25, Try.td25, Try.td3, Dfa.av, List.length_map]; (repeat refine And.intro (by first | omega | assumption | exact rfl) ?_); (first | refine V _ ?_ | refine Or.inl (V _ ?_)); clear V K0; simp only [put, app, Z, af, zE, zS, D])
 refine ai ?_
 refine hK1 _ ?_; clear hK1; refine ad [0, 1, 2, 4, 5, 6, 7] ?_; simp only [U, lkp, zE, reduceCtorEq, E, Y, D]
 refine aa fun K2 hK2 => ?_
 refine aa fun K3 hK3 => ?_
 refine ae hP hN rfl ?_
 iterate 2 (refine ab rfl fun K0 V => ?_; simp only [zE, op1, ev, lkp, ah, ag, aD, aE, aC, ar, aB, aP, reduceCtorEq, E, D, J, S, M, O, Try.td3, Try.td4, Dfa.av, List.length_map]; (repeat refine And.intro (by first | omega | assumption | exact rfl) ?_); refine V _ ?_; clear V K0; simp only [put, app, Z, af, zE, zS, D])
 (refine ab rfl fun K0 V => ?_; simp only [zE, op1, ev, lkp, ah, ag, ev, reduceCtorEq, E, D, J, S, M, O, Try.td4, Dfa.av, List.length_map]; refine V _ ?_; clear V K0; simp only [put, app, Z, af, zE, zS, D])
 refine' aU (want := false) 2 rfl (m := 16) (by simp only [U, lkp, zE, reduceCtorEq, E, Y, D]; exact rfl) (by kernel_rfl) rfl rfl rfl rfl rfl (fun hg4 => ?a4) ?b4 ?c4
 case a4 =>
  have hq4 := hg4; (try simp only [zB, reduceCtorEq] at hg4); simp only [List.take_succ_cons, List.take_zero, List.cons_append, List.nil_append]
  (refine aK rfl fun K0 V => ?_; simp only [zE, op1, ev, lkp, ah, ag, ev, reduceCtorEq, E, D, J, S, M, O, Try.td3, Dfa.av, List.length_map]; refine V _ ?_; clear V K0; simp only [put, app, Z, af, zE, zS, D])
  (refine aK rfl fun K0 V => ?_; simp only [zE, op1, ev, lkp, ah, ag, aD, aE, aC, ar, aB, aP, reduceCtorEq, E, D, J, S, M, O, Try.td3, Try.td4, Dfa.av, List.length_map]; (repeat refine And.intro (by first | omega | assumption | exact rfl) ?_); refine V _ ?_; clear V K0; simp only [put, app, Z, af, zE, zS, D])
  (refine ab rfl fun K0 V => ?_; simp only [zE, op1, ev, lkp, ah, ag, bm, reduceCtorEq, E, D, J, S, M, O, Try.td4, Dfa.av, List.length_map]; refine V _ ?_; clear V K0; simp only [put, app, Z, af, zE, zS, D])
  refine ai ?_
  refine ⟨by simp only [U, lkp, zE, reduceCtorEq, E, Y, D]; exact rfl, rfl, ?_, rfl⟩; (repeat refine aV rfl ?_); exact bt (by exact rfl) hq4
 case b4 => exact bq (by first | rfl | (simp [bU]; done) | decide)
 simp only [bk, b0]
 refine ai ?_
 refine hK3 _ ?_; clear hK3; refine ad [0, 1, 2, 4, 5, 6, 7, 19] ?_; simp only [U, lkp, zE, reduceCtorEq, E, Y, D]
 refine aA (by simp only [ev, U, lkp, zE, reduceCtorEq, E, Y, D]; exact rfl) (fun hc5 => ?_) (fun hc5 => ?_)
 ·(try simp only [zB, reduceCtorEq] at hc5)
  have hop : op < 0 ∨ 3 < op := by omega
  refine aa fun K6 hK6 => ?_
  refine ae hP hN rfl ?_
  iterate 3 (refine ab rfl fun K0 V => ?_; simp only [zE, op1, ev, lkp, ah, ag, bJ, aW, aN, ak, bc, Nat.mul_one, aJ, acs, Ty.size, Ty.dflt, zG, reduceCtorEq, E, D, J, S, M, O, Try.st25, Try.td25, Try.td3, Dfa.av, List.length_map]; (repeat refine And.intro (by first | omega | assumption | exact rfl) ?_); (first | refine V _ ?_ | refine Or.inl (V _ ?_)); clear V K0; simp only [put, app, Z, af, zE, zS, D])
  refine ai ?_
  refine hK6 _ ?_; clear hK6; refine ad [0, 1, 2, 4, 5, 6, 7, 19] ?_; simp only [U, lkp, zE, reduceCtorEq, E, Y, D]
  refine aF ?_
  refine ⟨by first | exact .inl rfl | exact .inr rfl, _, rfl, ?_⟩; simp only [fzV, fz1, fzC, List.map_cons, List.map_nil, U, lkp, zE, reduceCtorEq, E, Y, D, Dfa.av, List.length_map]
  first
  | (have e1 : ch op a b = cJ := if_pos hop
     have e2 : cr op a b = 2 := if_pos hop
     rw [e1, e2]; exact bo ⟨bB ⟨.refl _, .refl _, aQ rfl, aQ rfl, trivial⟩, bj (.refl _), trivial⟩)
  | (have e1 : ch op a b = cJ := by unfold ch; rw [if_neg hop, if_neg (by assumption)]
     have e2 : cr op a b = cS a b := by unfold cr; rw [if_neg hop, if_neg (by assumption)]
     rw [e1, e2]; exact bo ⟨bB ⟨.refl _, .refl _, aQ rfl, aQ rfl, trivial⟩, bj (.refl _), trivial⟩)
  | (have e1 : ch op a b = cJ := by unfold ch; rw [if_neg hop, if_pos ht]; exact if_pos hbig
     have e2 : cr op a b = 11 := by unfold cr; rw [if_neg hop, if_pos ht]; exact if_pos hbig
     rw [e1, e2]; exact bo ⟨bB ⟨.refl _, .refl _, aQ rfl, aQ rfl, trivial⟩, bj (.refl _), trivial⟩)
  | (have e1 : ch op a b = dBn (bS a b) (fA op a b) a.inp.toNat (bG a b) := by unfold ch; rw [if_neg hop, if_pos ht]; exact if_neg (by omega)
     have e2 : cr op a b = 0 := by unfold cr; rw [if_neg hop, if_pos ht]; exact if_neg (by omega)
     rw [e1, e2, j3 (by omega)]; exact VLE.of_eq rfl)
 ·(try simp only [zB, reduceCtorEq] at hc5)
  have hop : ¬ (op < 0 ∨ 3 < op) := by omega
  refine aI ?_
  refine hK2 _ ?_; clear hK2; refine ad [0, 1, 2, 4, 5, 6, 7, 19] ?_; simp only [U, lkp, zE, reduceCtorEq, E, Y, D]
  refine aa fun K7 hK7 => ?_
  refine aa fun K8 hK8 => ?_
  refine ae hP hN rfl ?_
  iterate 2 (refine ab rfl fun K0 V => ?_; simp only [zE, op1, ev, lkp, ah, ag, ay, Nat.mul_one, au, ax, acs, Ty.dflt, zG, aq, reduceCtorEq, E, D, J, S, M, O, Try.st25, Try.td25, Dfa.av, List.length_map]; (repeat refine And.intro (by first | omega | assumption | exact rfl) ?_); refine V _ ?_; clear V K0; simp only [put, app, Z, af, zE, zS, D])
  refine ab rfl fun K0 V => ?_
  refine aS (h := az (j6 a b)) rfl rfl (by first | exact rfl | (simp only [ev, U, lkp, zE, reduceCtorEq, E, Y, D]; exact rfl)) (by simp only [zE, zG, op1, ev, lkp, ah, ag, ak, acs, aX, mv1, mvC, Ty.dflt, reduceCtorEq, E, D, J, S, M, O, Dfa.av, List.length_map]) ?_
  refine V _ ?_; clear V K0; simp only [put, app, Z, af, zE, zS, D]
  (refine ab rfl fun K0 V => ?_; simp only [zE, op1, ev, lkp, ah, ag, aD, aE, aC, ar, aB, aP, reduceCtorEq, E, D, J, S, M, O, Try.td3, Try.td4, Dfa.av, List.length_map]; (repeat refine And.intro (by first | omega | assumption | exact rfl) ?_); refine V _ ?_; clear V K0; simp only [put, app, Z, af, zE, zS, D])
  refine ai ?_
  refine hK8 _ ?_; clear hK8; refine ad [0, 1, 2, 4, 5, 6, 7, 19, 24] ?_; simp only [U, lkp, zE, reduceCtorEq, E, Y, D]
  refine aA (by simp only [ev, U, lkp, zE, reduceCtorEq, E, Y, D]; exact rfl) (fun hc9 => ?_) (fun hc9 => ?_)
  ·(try simp only [zB, reduceCtorEq] at hc9)
   refine aa fun K10 hK10 => ?_
   refine ae hP hN rfl ?_
   iterate 3 (refine ab rfl fun K0 V => ?_; simp only [zE, op1, ev, lkp, ah, ag, bJ, aW, aN, ak, ay, Nat.mul_one, au, ax, acs, Ty.dflt, zG, aq, reduceCtorEq, E, D, J, S, M, O, Try.st25, Try.td25, Dfa.av, List.length_map]; (repeat refine And.intro (by first | omega | assumption | exact rfl) ?_); (first | refine V _ ?_ | refine Or.inl (V _ ?_)); clear V K0; simp only [put, app, Z, af, zE, zS, D])
   refine ab rfl fun K0 V => ?_
   refine aS (h := az (j6 a b)) rfl rfl (by first | exact rfl | (simp only [ev, U, lkp, zE, reduceCtorEq, E, Y, D]; exact rfl)) (by simp only [zE, zG, op1, ev, lkp, ah, ag, ak, acs, aX, mv1, mvC, Ty.dflt, reduceCtorEq, E, D, J, S, M, O, Dfa.av, List.length_map]) ?_
   refine V _ ?_; clear V K0; simp only [put, app, Z, af, zE, zS, D]
   iterate 2 (refine ab rfl fun K0 V => ?_; simp only [zE, op1, ev, lkp, ah, ag, bc, Nat.mul_one, ak, aN, aJ, acs, Ty.size, Ty.dflt, zG, reduceCtorEq, E, D, J, S, M, O, Try.st25, Try.td25, Try.td3, Dfa.av, List.length_map]; (repeat refine And.intro (by first | omega | assumption | exact rfl) ?_); refine V _ ?_; clear V K0; simp only [put, app, Z, af, zE, zS, D])
   refine ai ?_
   refine hK10 _ ?_; clear hK10; refine ad [0, 1, 2, 4, 5, 6, 7, 19, 24] ?_; simp only [U, lkp, zE, reduceCtorEq, E, Y, D]
   refine aF ?_
   refine ⟨by first | exact .inl rfl | exact .inr rfl, _, rfl, ?_⟩; simp only [fzV, fz1, fzC, List.map_cons, List.map_nil, U, lkp, zE, reduceCtorEq, E, Y, D, Dfa.av, List.length_map]
   first
   | (have e1 : ch op a b = cJ := if_pos hop
      have e2 : cr op a b = 2 := if_pos hop
      rw [e1, e2]; exact bo ⟨bB ⟨.refl _, .refl _, aQ rfl, aQ rfl, trivial⟩, bj (.refl _), trivial⟩)
   | (have e1 : ch op a b = cJ := by unfold ch; rw [if_neg hop, if_neg (by assumption)]
      have e2 : cr op a b = cS a b := by unfold cr; rw [if_neg hop, if_neg (by assumption)]
      rw [e1, e2]; exact bo ⟨bB ⟨.refl _, .refl _, aQ rfl, aQ rfl, trivial⟩, bj (.refl _), trivial⟩)
   | (have e1 : ch op a b = cJ := by unfold ch; rw [if_neg hop, if_pos ht]; exact if_pos hbig
      have e2 : cr op a b = 11 := by unfold cr; rw [if_neg hop, if_pos ht]; exact if_pos hbig
      rw [e1, e2]; exact bo ⟨bB ⟨.refl _, .refl _, aQ rfl, aQ rfl, trivial⟩, bj (.refl _), trivial⟩)
   | (have e1 : ch op a b = dBn (bS a b) (fA op a b) a.inp.toNat (bG a b) := by unfold ch; rw [if_neg hop, if_pos ht]; exact if_neg (by omega)
      have e2 : cr op a b = 0 := by unfold cr; rw [if_neg hop, if_pos ht]; exact if_neg (by omega)
      rw [e1, e2, j3 (by omega)]; exact VLE.of_eq rfl)
  ·(try simp only [zB, reduceCtorEq] at hc9)
   have ht : cS a b = 0 := by omega
   obtain ⟨ha, hb, hi⟩ := gS ht
   have a1 := ha.i1; have a2 := ha.i2; have a4 := ha.n2; have b4 := hb.n2; have hm9 := dJ a4 b4
   have hdw : DW a.nx.length b.nx.length (bG a b) := (db (dM ha hb hi (n := a.inp.toNat) (by omega)) (fh ha hb)).1
   have hal := jO ha hb hi
   refine aI ?_
   refine hK7 _ ?_; clear hK7; refine ad [0, 1, 2, 4, 5, 6, 7, 19, 24] ?_; simp only [U, lkp, zE, reduceCtorEq, E, Y, D]
   refine aa fun K11 hK11 => ?_
   refine ae hP hN rfl ?_
   iterate 2 (refine ab rfl fun K0 V => ?_; simp only [zE, op1, ev, lkp, ah, ag, ay, Nat.mul_one, au, ax, acs, Ty.dflt, zG, aq, reduceCtorEq, E, D, J, S, M, O, Try.st25, Try.td25, Dfa.av, List.length_map]; (repeat refine And.intro (by first | omega | assumption | exact rfl) ?_); refine V _ ?_; clear V K0; simp only [put, app, Z, af, zE, zS, D])
   refine ab rfl fun K0 V => ?_
   refine aS (h := az (show bD Try.prog 49 [_, _, .one (.int .i64 128)] _ from kF a b 128 ha hb hi)) rfl rfl (by first | exact rfl | (simp only [ev, U, lkp, zE, reduceCtorEq, E, Y, D]; exact rfl)) (by simp only [zE, zG, op1, ev, lkp, ah, ag, ak, acs, aX, mv1, mvC, Ty.dflt, reduceCtorEq, E, D, J, S, M, O, Dfa.av, List.length_map]) ?_
   refine V _ ?_; clear V K0; simp only [put, app, Z, af, zE, zS, D]
   iterate 5 (refine ab rfl fun K0 V => ?_; simp only [zE, op1, ev, lkp, ah, ag, bE, reduceCtorEq, E, D, J, S, M, O, Try.el22, Try.el89, Try.td1, Try.td22, Try.td89, Dfa.av, List.length_map]; refine V _ ?_; clear V K0; simp only [put, app, Z, af, zE, zS, D])
   refine ai ?_
   refine hK11 _ ?_; clear hK11; refine ad [0, 1, 2, 4, 5, 6, 7, 8, 19, 24] ?_; simp only [U, lkp, zE, reduceCtorEq, E, Y, D]
   refine aa fun K12 hK12 => ?_
   refine aa fun K13 hK13 => ?_
   rw [show (et (bS a b) a.inp.toNat 128 (a.nx.length * b.nx.length + 1) 0 [((a.st, b.st), [])]) = (fG a b 128) from rfl]
   refine ae hP hN rfl ?_
   iterate 3 (refine ab rfl fun K0 V => ?_; simp only [zE, op1, ev, lkp, ah, ag, aG, br, be, aZ, ba, bn, Nat.div_one, aO, bb, Ty.size, aJ, dite_true, aD, aE, aC, ar, aB, aP, reduceCtorEq, E, D, J, S, M, O, Try.el89, Try.td3, Try.td4, Try.td89, Dfa.av, List.length_map]; (repeat refine And.intro (by first | omega | assumption | exact rfl) ?_); (first | refine V _ ?_ | refine Or.inl (V _ ?_)); clear V K0; simp only [put, app, Z, af, zE, zS, D])
   refine ai ?_
   refine hK13 _ ?_; clear hK13; refine ad [0, 1, 2, 4, 5, 6, 7, 8, 19, 24, 37] ?_; simp only [U, lkp, zE, reduceCtorEq, E, Y, D]
   refine aA (by simp only [ev, U, lkp, zE, reduceCtorEq, E, Y, D]; exact rfl) (fun hc14 => ?_) (fun hc14 => ?_)
   ·(try simp only [zB, reduceCtorEq] at hc14)
    have hbig : 128 < (bG a b).length := ri (show 128 < (fG a b 128).length by omega)
    refine aa fun K15 hK15 => ?_
    refine ae hP hN rfl ?_
    iterate 3 (refine ab rfl fun K0 V => ?_; simp only [zE, op1, ev, lkp, ah, ag, bJ, aW, aN, ak, bc, Nat.mul_one, aJ, acs, Ty.size, Ty.dflt, zG, reduceCtorEq, E, D, J, S, M, O, Try.st25, Try.td25, Try.td3, Dfa.av, List.length_map]; (repeat refine And.intro (by first | omega | assumption | exact rfl) ?_); (first | refine V _ ?_ | refine Or.inl (V _ ?_)); clear V K0; simp only [put, app, Z, af, zE, zS, D])
    refine ai ?_
    refine hK15 _ ?_; clear hK15; refine ad [0, 1, 2, 4, 5, 6, 7, 8, 19, 24, 37] ?_; simp only [U, lkp, zE, reduceCtorEq, E, Y, D]
    refine aF ?_
    refine ⟨by first | exact .inl rfl | exact .inr rfl, _, rfl, ?_⟩; simp only [fzV, fz1, fzC, List.map_cons, List.map_nil, U, lkp, zE, reduceCtorEq, E, Y, D, Dfa.av, List.length_map]
    first
    | (have e1 : ch op a b = cJ := if_pos hop
       have e2 : cr op a b = 2 := if_pos hop
       rw [e1, e2]; exact bo ⟨bB ⟨.refl _, .refl _, aQ rfl, aQ rfl, trivial⟩, bj (.refl _), trivial⟩)
    | (have e1 : ch op a b = cJ := by unfold ch; rw [if_neg hop, if_neg (by assumption)]
       have e2 : cr op a b = cS a b := by unfold cr; rw [if_neg hop, if_neg (by assumption)]
       rw [e1, e2]; exact bo ⟨bB ⟨.refl _, .refl _, aQ rfl, aQ rfl, trivial⟩, bj (.refl _), trivial⟩)
    | (have e1 : ch op a b = cJ := by unfold ch; rw [if_neg hop, if_pos ht]; exact if_pos hbig
       have e2 : cr op a b = 11 := by unfold cr; rw [if_neg hop, if_pos ht]; exact if_pos hbig
       rw [e1, e2]; exact bo ⟨bB ⟨.refl _, .refl _, aQ rfl, aQ rfl, trivial⟩, bj (.refl _), trivial⟩)
    | (have e1 : ch op a b = dBn (bS a b) (fA op a b) a.inp.toNat (bG a b) := by unfold ch; rw [if_neg hop, if_pos ht]; exact if_neg (by omega)
       have e2 : cr op a b = 0 := by unfold cr; rw [if_neg hop, if_pos ht]; exact if_neg (by omega)
       rw [e1, e2, j3 (by omega)]; exact VLE.of_eq rfl)
   ·(try simp only [zB, reduceCtorEq] at hc14)
    obtain ⟨hpe, hsm⟩ := qN (show (fG a b 128).length ≤ 128 by omega)
    rw [hpe]
    refine aI ?_
    refine hK12 _ ?_; clear hK12; refine ad [0, 1, 2, 4, 5, 6, 7, 8, 19, 24, 37] ?_; simp only [U, lkp, zE, reduceCtorEq, E, Y, D]
    refine aa fun K16 hK16 => ?_
    refine ae hP hN rfl ?_
    iterate 5 (refine ab rfl fun K0 V => ?_; simp only [zE, op1, ev, lkp, ah, ag, aw, ay, Nat.mul_one, au, ax, acs, Ty.dflt, zG, aq, bJ, aW, aN, ak, bK, bc, aJ, Ty.size, reduceCtorEq, E, D, J, S, M, O, Try.st25, Try.td25, Try.td3, Dfa.av, List.length_map]; (repeat refine And.intro (by first | omega | assumption | exact rfl) ?_); (first | refine V _ ?_ | refine Or.inl (V _ ?_)); clear V K0; simp only [put, app, Z, af, zE, zS, D])
    refine ai ?_
    refine hK16 _ ?_; clear hK16; refine ad [0, 1, 2, 4, 5, 6, 7, 8, 10, 19, 24, 37] ?_; simp only [U, lkp, zE, reduceCtorEq, E, Y, D]
    refine aa fun K17 hK17 => ?_
    refine aa fun K18 hK18 => ?_
    refine ae hP hN rfl ?_
    (refine ab rfl fun K0 V => ?_; simp only [zE, op1, ev, lkp, ah, ag, ev, reduceCtorEq, E, D, J, S, M, O, Try.td3, Dfa.av, List.length_map]; refine V _ ?_; clear V K0; simp only [put, app, Z, af, zE, zS, D])
    refine ai ?_
    refine hK18 _ ?_; clear hK18; refine ad [0, 1, 2, 4, 5, 6, 7, 8, 10, 11, 19, 24, 37] ?_; simp only [U, lkp, zE, reduceCtorEq, E, Y, D]
    refine aM ?_
    refine cH 3 2 (.list (.int .i64)) 26 (by decide) rfl rfl ?_; simp only [zS, List.length_cons, List.length_nil, List.cons_append, List.nil_append, Nat.zero_add, D]
    refine cH 3 3 (.bool) 4 (by decide) rfl rfl ?_; simp only [zS, List.length_cons, List.length_nil, List.cons_append, List.nil_append, Nat.zero_add, D]
    refine bu (fun n19 s19 => ∃ (k : Nat) (v : Nat), (k ≤ (bG a b).length) ∧ n19 = (bG a b).length - k ∧ s19 = { env := [(0, .one (.int .i64 op)), (4, .one (.ptr 0 0 0 0)), (5, .one (.ptr 1 0 0 0)), (6, .one (.ptr 2 0 0 0)), (7, .one (.int .i64 0)), (8, .one (.list (.pair (.int .i64) (.pair (.int .i64) .unit)) (List.map dt ((bG a b).map Prod.fst)))), (10, .one (.ptr 3 0 0 0)), (11, .one (.int .i64 (k : Int)))], L := [.vars 25 [.int .i64 a.inp, .int .i64 a.st, .list (.list (.int .i64)) a.nx, .list .bool a.acc], .vars 25 [.int .i64 b.inp, .int .i64 b.st, .list (.list (.int .i64)) b.nx, .list .bool b.acc], .vars 25 [.int .i64 0, .int .i64 0, .nils, .nils], .vars 25 [.int .i64 a.inp, .int .i64 0, .row 4 v, .row 5 v], .row (.list (.int .i64)) 26 v ((List.range k).map fun i => dRw (bS a b) a.inp.toNat (bG a b) i a.inp.toNat), .row .bool 4 v (((bG a b).take k).map fun e => fA op a b e.1)] }) ?_ ?_
    ·exact ⟨_, _, aL [0, 4, 5, 6, 7, 8, 10, 11], 0, 0, Nat.zero_le _, rfl, rfl⟩
    ·rintro n19 s19 ⟨k, v, hk, rfl, rfl⟩
     refine aa fun K20 hK20 => ?_
     refine aa fun K21 hK21 => ?_
     refine ae hP hN rfl ?_
     iterate 4 (refine ab rfl fun K0 V => ?_; simp only [zE, op1, ev, lkp, ah, ag, aG, br, be, aZ, ba, bn, Nat.div_one, aO, bb, Ty.size, aJ, dite_true, aD, aE, aC, ar, aB, aP, reduceCtorEq, E, D, J, S, M, O, Try.el89, Try.td3, Try.td4, Try.td89, Dfa.av, List.length_map]; (repeat refine And.intro (by first | omega | assumption | exact rfl) ?_); (first | refine V _ ?_ | refine Or.inl (V _ ?_)); clear V K0; simp only [put, app, Z, af, zE, zS, D])
     refine ai ?_
     refine hK21 _ ?_; clear hK21; refine ad [0, 4, 5, 6, 7, 8, 10, 11, 45] ?_; simp only [U, lkp, zE, reduceCtorEq, E, Y, D]
     refine aA (by simp only [ev, U, lkp, zE, reduceCtorEq, E, Y, D]; exact rfl) (fun hc22 => ?_) (fun hc22 => ?_)
     ·(try simp only [zB, reduceCtorEq] at hc22)
      refine aI ?_
      refine hK20 _ ?_; clear hK20; refine ad [0, 4, 5, 6, 7, 8, 10, 11, 45] ?_; simp only [U, lkp, zE, reduceCtorEq, E, Y, D]
      refine aa fun K23 hK23 => ?_
      refine aM ?_
      refine aa fun K24 hK24 => ?_
      refine ae hP hN rfl ?_
      (refine ab rfl fun K0 V => ?_; simp only [zE, op1, ev, lkp, ah, ag, ev, reduceCtorEq, E, D, J, S, M, O, Try.el26, Try.td26, Dfa.av, List.length_map]; refine V _ ?_; clear V K0; simp only [put, app, Z, af, zE, zS, D])
      refine ai ?_
      refine hK24 _ ?_; clear hK24; refine ad [0, 4, 5, 6, 7, 8, 10, 11, 12, 45] ?_; simp only [U, lkp, zE, reduceCtorEq, E, Y, D]
      refine aa fun K25 hK25 => ?_
      refine aa fun K26 hK26 => ?_
      refine ae hP hN rfl ?_
      (refine ab rfl fun K0 V => ?_; simp only [zE, op1, ev, lkp, ah, ag, ev, reduceCtorEq, E, D, J, S, M, O, Try.td3, Dfa.av, List.length_map]; refine V _ ?_; clear V K0; simp only [put, app, Z, af, zE, zS, D])
      refine ai ?_
      refine hK26 _ ?_; clear hK26; refine ad [0, 4, 5, 6, 7, 8, 10, 11, 12, 13, 45] ?_; simp only [U, lkp, zE, reduceCtorEq, E, Y, D]
      refine aM ?_
      refine fE 12 (.int .i64) 3 (by decide) rfl ?_; simp only [List.length_cons, List.length_nil, List.cons_append, List.nil_append, Nat.zero_add, D]
      refine bu (fun n27 s27 => ∃ (x : Nat) (w : Nat), ((x : Int) ≤ a.inp) ∧ n27 = a.inp.toNat - x ∧ s27 = { env := [(0, .one (.int .i64 op)), (4, .one (.ptr 0 0 0 0)), (5, .one (.ptr 1 0 0 0)), (6, .one (.ptr 2 0 0 0)), (7, .one (.int .i64 0)), (8, .one (.list (.pair (.int .i64) (.pair (.int .i64) .unit)) (List.map dt ((bG a b).map Prod.fst)))), (10, .one (.ptr 3 0 0 0)), (11, .one (.int .i64 (k : Int))), (12, .one (.row 6 w)), (13, .one (.int .i64 (x : Int)))], L := [.vars 25 [.int .i64 a.inp, .int .i64 a.st, .list (.list (.int .i64)) a.nx, .list .bool a.acc], .vars 25 [.int .i64 b.inp, .int .i64 b.st, .list (.list (.int .i64)) b.nx, .list .bool b.acc], .vars 25 [.int .i64 0, .int .i64 0, .nils, .nils], .vars 25 [.int .i64 a.inp, .int .i64 0, .row 4 v, .row 5 v], .row (.list (.int .i64)) 26 v ((List.range k).map fun i => dRw (bS a b) a.inp.toNat (bG a b) i a.inp.toNat), .row .bool 4 v (((bG a b).take k).map fun e => fA op a b e.1), .row (.int .i64) 3 w (dRw (bS a b) a.inp.toNat (bG a b) k x)] }) ?_ ?_
      ·exact ⟨_, _, aL [0, 4, 5, 6, 7, 8, 10, 11, 12, 13], 0, 0, by omega, rfl, rfl⟩
      ·rintro n27 s27 ⟨x, w, hx, rfl, rfl⟩
       refine aa fun K28 hK28 => ?_
       refine aa fun K29 hK29 => ?_
       refine ae hP hN rfl ?_
       iterate 4 (refine ab rfl fun K0 V => ?_; simp only [zE, op1, ev, lkp, ah, ag, aw, ay, Nat.mul_one, au, ax, acs, Ty.dflt, zG, aq, aD, aE, aC, ar, aB, aP, reduceCtorEq, E, D, J, S, M, O, Try.st25, Try.td25, Try.td3, Try.td4, Dfa.av, List.length_map]; (repeat refine And.intro (by first | omega | assumption | exact rfl) ?_); refine V _ ?_; clear V K0; simp only [put, app, Z, af, zE, zS, D])
       refine ai ?_
       refine hK29 _ ?_; clear hK29; refine ad [0, 4, 5, 6, 7, 8, 10, 11, 12, 13, 51] ?_; simp only [U, lkp, zE, reduceCtorEq, E, Y, D]
       refine aA (by simp only [ev, U, lkp, zE, reduceCtorEq, E, Y, D]; exact rfl) (fun hc30 => ?_) (fun hc30 => ?_)
       ·(try simp only [zB, reduceCtorEq] at hc30)
        refine aI ?_
        refine hK28 _ ?_; clear hK28; refine ad [0, 4, 5, 6, 7, 8, 10, 11, 12, 13, 51] ?_; simp only [U, lkp, zE, reduceCtorEq, E, Y, D]
        refine aa fun K31 hK31 => ?_
        refine aM ?_
        have hkl : k < (bG a b).length := by omega
        have hgi : gt (.pair (.int .i64) (.pair (.int .i64) .unit)) (List.map dt ((bG a b).map Prod.fst)) (k : Int) = (((bG a b).getD k w30).1.1, (((bG a b).getD k w30).1.2, ())) := fX hkl _
        have hre := hdw.rg _ (cU hkl)
        obtain ⟨hr1, hr2⟩ := id hre
        have hra := ha.rli hr1; have hsa : ((a.nx.getD ((bG a b).getD k w30).1.1.toNat []).length : Int) = a.inp := hra; have hrb := hb.rli hr2; have hsb : ((b.nx.getD ((bG a b).getD k w30).1.2.toNat []).length : Int) = b.inp := hrb; have hua := ha.al; have hub := hb.al
        refine c0 hP hN Try.mixed rfl ?_
        iterate 27 (refine ab rfl fun K0 V => ?_; simp only [zE, op1, ev, lkp, ah, ag, aw, ay, Nat.mul_one, au, ax, acs, Ty.dflt, zG, aq, aH, Ty.size, ne_eq, not_false_eq_true, Int.natCast_one, Int.mul_one, bJ, aW, aN, ak, reduceCtorEq, E, D, J, S, M, O, Try.el22, Try.el26, Try.el89, Try.fl93, Try.st25, Try.st93, Try.td1, Try.td2, Try.td22, Try.td25, Try.td26, Try.td3, Try.td89, Try.td93, Dfa.av, List.length_map, hgi, bV]; (repeat refine And.intro (by first | omega | assumption | exact rfl) ?_); (first | refine V _ ?_ | refine Or.inl (V _ ?_)); clear V K0; simp only [put, app, Z, af, zE, zS, D])
        refine ab rfl fun K0 V => ?_
        refine aS (h := az (kt ((bG a b).map Prod.fst) (bS a b ((bG a b).getD k w30).1 x) (by rw [List.length_map]; omega))) rfl rfl (by first | exact rfl | (simp only [ev, U, lkp, zE, reduceCtorEq, E, Y, D]; exact rfl)) (by simp only [zE, zG, op1, ev, lkp, ah, ag, ak, acs, aX, mv1, mvC, Ty.dflt, reduceCtorEq, E, D, J, S, M, O, Dfa.av, List.length_map, hgi, bV, bS, Dfa.dl, Dfa.row, Int.toNat_natCast]) ?_
        refine V _ ?_; clear V K0; simp only [put, app, Z, af, zE, zS, D]
        iterate 3 (refine ab rfl fun K0 V => ?_; simp only [zE, op1, ev, lkp, ah, ag, aY, aW, bT, rep, aJ, aN, ak, Ty.size, aG, br, be, aZ, ba, bn, Nat.div_one, aO, bb, dite_true, reduceCtorEq, E, D, J, S, M, O, Try.el26, Try.td1, Try.td26, Dfa.av, List.length_map, hgi, bV]; (repeat refine And.intro (by first | omega | assumption | exact rfl) ?_); (first | refine V _ ?_ | refine Or.inl (V _ ?_)); clear V K0; simp only [put, app, Z, af, zE, zS, D])
        refine ai ?_
        refine ⟨by kernel_rfl, ?_⟩
        refine hK31 _ ?_; clear hK31; refine ad [0, 4, 5, 6, 7, 8, 10, 11, 12, 13, 51] ?_; simp only [U, lkp, zE, reduceCtorEq, E, Y, D]
        refine ae hP hN rfl ?_
        iterate 3 (refine ab rfl fun K0 V => ?_; simp only [zE, op1, ev, lkp, ah, ag, aD, aE, aC, ar, aB, aP, reduceCtorEq, E, D, J, S, M, O, Try.td3, Dfa.av, List.length_map]; (repeat refine And.intro (by first | omega | assumption | exact rfl) ?_); refine V _ ?_; clear V K0; simp only [put, app, Z, af, zE, zS, D])
        refine ai ?_
        refine ⟨_, _, ?_, aL [0, 4, 5, 6, 7, 8, 10, 11, 12, 13], x + 1, w + 1, by omega, rfl, ?_⟩
        · omega
        · rw [kQ]; rfl
       ·(try simp only [zB, reduceCtorEq] at hc30)
        refine bp ?_
        refine hK25 _ ?_; clear hK25; refine ad [0, 4, 5, 6, 7, 8, 10, 11, 12, 13, 51] ?_; simp only [U, lkp, zE, reduceCtorEq, E, Y, D]
        refine aa fun K32 hK32 => ?_
        refine cX 6 rfl ?_; simp only [List.map_cons, List.map_nil, zS, E, and_self, and_true, true_and, and_false, false_and, if_true, if_false, eq_self, reduceCtorEq, Nat.one_ne_zero, Nat.zero_ne_one]
        have hxn : x = a.inp.toNat := by omega
        subst hxn
        refine ae hP hN rfl ?_
        iterate 7 (refine ab rfl fun K0 V => ?_; simp only [zE, op1, ev, lkp, ah, ag, aw, ay, Nat.mul_one, au, ax, acs, Ty.dflt, zG, aq, aY, aW, bT, rep, aJ, aN, ak, Ty.size, aG, br, be, aZ, ba, bn, Nat.div_one, aO, bb, dite_true, bc, reduceCtorEq, E, D, J, S, M, O, Try.el22, Try.el26, Try.st25, Try.td1, Try.td2, Try.td22, Try.td25, Try.td26, Dfa.av, List.length_map, bV, List.length_range]; (repeat refine And.intro (by first | omega | assumption | exact rfl) ?_); (first | refine V _ ?_ | refine Or.inl (V _ ?_)); clear V K0; simp only [put, app, Z, af, zE, zS, D])
        refine ai ?_
        refine hK32 _ ?_; clear hK32; refine ad [0, 4, 5, 6, 7, 8, 10, 11, 12, 13, 51] ?_; simp only [U, lkp, zE, reduceCtorEq, E, Y, D]
        refine dm (n := 6) (L1 := [_, _, _, _, _, _]) rfl rfl (by rw [hB]; decide) rfl rfl ?_
        have hkl : k < (bG a b).length := by omega
        have hgi : gt (.pair (.int .i64) (.pair (.int .i64) .unit)) (List.map dt ((bG a b).map Prod.fst)) (k : Int) = (((bG a b).getD k w30).1.1, (((bG a b).getD k w30).1.2, ())) := fX hkl _
        have hre := hdw.rg _ (cU hkl)
        obtain ⟨hr1, hr2⟩ := id hre
        have hra := ha.rli hr1; have hsa : ((a.nx.getD ((bG a b).getD k w30).1.1.toNat []).length : Int) = a.inp := hra; have hrb := hb.rli hr2; have hsb : ((b.nx.getD ((bG a b).getD k w30).1.2.toNat []).length : Int) = b.inp := hrb; have hua := ha.al; have hub := hb.al
        refine c0 hP hN Try.mixed rfl ?_
        iterate 21 (refine ab rfl fun K0 V => ?_; simp only [zE, op1, ev, lkp, ah, ag, aw, ay, Nat.mul_one, au, ax, acs, Ty.dflt, zG, aq, aH, Ty.size, ne_eq, not_false_eq_true, Int.natCast_one, Int.mul_one, reduceCtorEq, E, D, J, S, M, O, Try.el23, Try.el89, Try.fl93, Try.st25, Try.st93, Try.td1, Try.td23, Try.td25, Try.td3, Try.td4, Try.td89, Try.td93, Dfa.av, List.length_map, hgi, List.length_take]; (repeat refine And.intro (by first | omega | assumption | exact rfl) ?_); refine V _ ?_; clear V K0; simp only [put, app, Z, af, zE, zS, D])
        refine ab rfl fun K0 V => ?_
        refine aS (h := az (oc op (a.acc.getD ((bG a b).getD k w30).1.1.toNat false) (b.acc.getD ((bG a b).getD k w30).1.2.toNat false))) rfl rfl (by first | exact rfl | (simp only [ev, U, lkp, zE, reduceCtorEq, E, Y, D]; exact rfl)) (by simp only [zE, zG, op1, ev, lkp, ah, ag, ak, acs, aX, mv1, mvC, Ty.dflt, reduceCtorEq, E, D, J, S, M, O, Dfa.av, List.length_map, hgi, List.length_take]) ?_
        refine V _ ?_; clear V K0; simp only [put, app, Z, af, zE, zS, D]
        iterate 4 (refine ab rfl fun K0 V => ?_; simp only [zE, op1, ev, lkp, ah, ag, aY, aW, bT, rep, aJ, aN, ak, Ty.size, aG, br, be, aZ, ba, bn, Nat.div_one, aO, bb, dite_true, aw, bc, Nat.mul_one, acs, Ty.dflt, zG, reduceCtorEq, E, D, J, S, M, O, Try.el23, Try.st25, Try.td1, Try.td23, Try.td25, Try.td3, Dfa.av, List.length_map, hgi, List.length_take]; (repeat refine And.intro (by first | omega | assumption | exact rfl) ?_); (first | refine V _ ?_ | refine Or.inl (V _ ?_)); clear V K0; simp only [put, app, Z, af, zE, zS, D])
        refine ai ?_
        refine ⟨by kernel_rfl, ?_⟩
        refine hK23 _ ?_; clear hK23; refine ad [0, 4, 5, 6, 7, 8, 10, 11, 12, 13, 51] ?_; simp only [U, lkp, zE, reduceCtorEq, E, Y, D]
        refine ae hP hN rfl ?_
        iterate 3 (refine ab rfl fun K0 V => ?_; simp only [zE, op1, ev, lkp, ah, ag, aD, aE, aC, ar, aB, aP, reduceCtorEq, E, D, J, S, M, O, Try.td3, Dfa.av, List.length_map]; (repeat refine And.intro (by first | omega | assumption | exact rfl) ?_); refine V _ ?_; clear V K0; simp only [put, app, Z, af, zE, zS, D])
        refine ai ?_
        refine ⟨_, _, ?_, aL [0, 4, 5, 6, 7, 8, 10, 11], k + 1, v + 1, by omega, rfl, ?_⟩
        · omega
        · rw [iF, dk _ w30 hkl]; rfl
     ·(try simp only [zB, reduceCtorEq] at hc22)
      refine bp ?_
      refine hK17 _ ?_; clear hK17; refine ad [0, 4, 5, 6, 7, 8, 10, 11, 45] ?_; simp only [U, lkp, zE, reduceCtorEq, E, Y, D]
      refine aa fun K33 hK33 => ?_
      refine cv 4 3 rfl rfl ?_; simp only [List.map_cons, List.map_nil, frC, zS, E, and_self, and_true, true_and, and_false, false_and, if_true, if_false, eq_self, reduceCtorEq, Nat.one_ne_zero, Nat.zero_ne_one]
      refine cv 5 3 rfl rfl ?_; simp only [List.map_cons, List.map_nil, frC, zS, E, and_self, and_true, true_and, and_false, false_and, if_true, if_false, eq_self, reduceCtorEq, Nat.one_ne_zero, Nat.zero_ne_one]
      have hke : k = (bG a b).length := by omega
      rw [hke, List.take_length]
      refine ae hP hN rfl ?_
      iterate 3 (refine ab rfl fun K0 V => ?_; simp only [zE, op1, ev, lkp, ah, ag, ay, Nat.mul_one, au, ax, acs, Ty.dflt, zG, aq, bc, ak, aN, aJ, Ty.size, reduceCtorEq, E, D, J, S, M, O, Try.st25, Try.td25, Try.td3, Dfa.av, List.length_map]; (repeat refine And.intro (by first | omega | assumption | exact rfl) ?_); refine V _ ?_; clear V K0; simp only [put, app, Z, af, zE, zS, D])
      refine ai ?_
      refine hK33 _ ?_; clear hK33; refine ad [0, 4, 5, 6, 7, 8, 10, 11, 45] ?_; simp only [U, lkp, zE, reduceCtorEq, E, Y, D]
      refine aF ?_
      refine ⟨by first | exact .inl rfl | exact .inr rfl, _, rfl, ?_⟩; simp only [fzV, fz1, fzC, List.map_cons, List.map_nil, U, lkp, zE, reduceCtorEq, E, Y, D, Dfa.av, List.length_map]
      first
      | (have e1 : ch op a b = cJ := if_pos hop
         have e2 : cr op a b = 2 := if_pos hop
         rw [e1, e2]; exact bo ⟨bB ⟨.refl _, .refl _, aQ rfl, aQ rfl, trivial⟩, bj (.refl _), trivial⟩)
      | (have e1 : ch op a b = cJ := by unfold ch; rw [if_neg hop, if_neg (by assumption)]
         have e2 : cr op a b = cS a b := by unfold cr; rw [if_neg hop, if_neg (by assumption)]
         rw [e1, e2]; exact bo ⟨bB ⟨.refl _, .refl _, aQ rfl, aQ rfl, trivial⟩, bj (.refl _), trivial⟩)
      | (have e1 : ch op a b = cJ := by unfold ch; rw [if_neg hop, if_pos ht]; exact if_pos hbig
         have e2 : cr op a b = 11 := by unfold cr; rw [if_neg hop, if_pos ht]; exact if_pos hbig
         rw [e1, e2]; exact bo ⟨bB ⟨.refl _, .refl _, aQ rfl, aQ rfl, trivial⟩, bj (.refl _), trivial⟩)
      | (have e1 : ch op a b = dBn (bS a b) (fA op a b) a.inp.toNat (bG a b) := by unfold ch; rw [if_neg hop, if_pos ht]; exact if_neg (by omega)
         have e2 : cr op a b = 0 := by unfold cr; rw [if_neg hop, if_pos ht]; exact if_neg (by omega)
         rw [e1, e2, j3 (by omega)]; exact VLE.of_eq rfl)
end Go.Proofs.Ytdkgcbhbpdbmnaa
namespace Go.Proofs.Ytdkgcbhbpdbmnaa
open Go Go.AV
open Nat renaming reduceEqDiff → E, reduceAdd → D, reduceLeDiff → J, reduceLT → S, reduceMul → M, reduceSub → O
open List renaming set_cons_zero → ao, set_cons_succ → am
set_option maxRecDepth 100000 in
theorem mL (a b : Dfa) : bD Try.prog 25 [a.av, b.av] (.tup [.one (.list (.int .i64) (fy a b)), .one (.bool (gn a b)), .one (.int .i64 (cS a b))]) := by
 refine aR Try.func25 rfl (by kernel_rfl) (Nat.le_of_ble_eq_true rfl) rfl fun C hP hN hB => ?_
 replace hN : C.N = 52 := hN
 simp only [Y, D]
 refine aa fun K1 hK1 => ?_
 refine ae hP hN rfl ?_
 iterate 5 (refine ab rfl fun K0 V => ?_; simp only [zE, op1, ev, lkp, ah, ag, bZ, ak, reduceCtorEq, E, D, J, S, M, O, Try.el26, Try.st25, Try.td25, Try.td26, Try.td3, Try.td4, Dfa.av, List.length_map]; (repeat refine And.intro (by first | omega | assumption | exact rfl) ?_); refine V _ ?_; clear V K0; simp only [put, app, Z, af, zE, zS, D])
 refine ai ?_
 refine hK1 _ ?_; clear hK1; refine ad [0, 1, 2, 3, 4, 5, 6] ?_; simp only [U, lkp, zE, reduceCtorEq, E, Y, D]
 refine aa fun K2 hK2 => ?_
 refine aa fun K3 hK3 => ?_
 refine ae hP hN rfl ?_
 iterate 2 (refine ab rfl fun K0 V => ?_; simp only [zE, op1, ev, lkp, ah, ag, ay, Nat.mul_one, au, ax, acs, Ty.dflt, zG, aq, reduceCtorEq, E, D, J, S, M, O, Try.st25, Try.td25, Dfa.av, List.length_map]; (repeat refine And.intro (by first | omega | assumption | exact rfl) ?_); refine V _ ?_; clear V K0; simp only [put, app, Z, af, zE, zS, D])
 refine ab rfl fun K0 V => ?_
 refine aS (h := az (j6 a b)) rfl rfl (by first | exact rfl | (simp only [ev, U, lkp, zE, reduceCtorEq, E, Y, D]; exact rfl)) (by simp only [zE, zG, op1, ev, lkp, ah, ag, ak, acs, aX, mv1, mvC, Ty.dflt, reduceCtorEq, E, D, J, S, M, O, Dfa.av, List.length_map]) ?_
 refine V _ ?_; clear V K0; simp only [put, app, Z, af, zE, zS, D]
 (refine ab rfl fun K0 V => ?_; simp only [zE, op1, ev, lkp, ah, ag, aD, aE, aC, ar, aB, aP, reduceCtorEq, E, D, J, S, M, O, Try.td3, Try.td4, Dfa.av, List.length_map]; (repeat refine And.intro (by first | omega | assumption | exact rfl) ?_); refine V _ ?_; clear V K0; simp only [put, app, Z, af, zE, zS, D])
 refine ai ?_
 refine hK3 _ ?_; clear hK3; refine ad [0, 1, 2, 3, 4, 5, 6, 13] ?_; simp only [U, lkp, zE, reduceCtorEq, E, Y, D]
 refine aA (by simp only [ev, U, lkp, zE, reduceCtorEq, E, Y, D]; exact rfl) (fun hc4 => ?_) (fun hc4 => ?_)
 ·(try simp only [zB, reduceCtorEq] at hc4)
  refine aa fun K5 hK5 => ?_
  refine ae hP hN rfl ?_
  iterate 2 (refine ab rfl fun K0 V => ?_; simp only [zE, op1, ev, lkp, ah, ag, ay, Nat.mul_one, au, ax, acs, Ty.dflt, zG, aq, reduceCtorEq, E, D, J, S, M, O, Try.st25, Try.td25, Dfa.av, List.length_map]; (repeat refine And.intro (by first | omega | assumption | exact rfl) ?_); refine V _ ?_; clear V K0; simp only [put, app, Z, af, zE, zS, D])
  refine ab rfl fun K0 V => ?_
  refine aS (h := az (j6 a b)) rfl rfl (by first | exact rfl | (simp only [ev, U, lkp, zE, reduceCtorEq, E, Y, D]; exact rfl)) (by simp only [zE, zG, op1, ev, lkp, ah, ag, ak, acs, aX, mv1, mvC, Ty.dflt, reduceCtorEq, E, D, J, S, M, O, Dfa.av, List.length_map]) ?_
  refine V _ ?_; clear V K0; simp only [put, app, Z, af, zE, zS, D]
  iterate 3 (refine ab rfl fun K0 V => ?_; simp only [zE, op1, ev, lkp, ah, ag, ev, reduceCtorEq, E, D, J, S, M, O, Try.el26, Try.td26, Try.td3, Try.td4, Dfa.av, List.length_map]; refine V _ ?_; clear V K0; simp only [put, app, Z, af, zE, zS, D])
  refine ai ?_
  refine hK5 _ ?_; clear hK5; refine ad [0, 1, 2, 3, 4, 5, 6, 13] ?_; simp only [U, lkp, zE, reduceCtorEq, E, Y, D]
  refine aF ?_
  refine ⟨by first | exact .inl rfl | exact .inr rfl, _, rfl, ?_⟩; simp only [fzV, fz1, fzC, List.map_cons, List.map_nil, U, lkp, zE, reduceCtorEq, E, Y, D, Dfa.av, List.length_map]
  first
  | (have e1 : fy a b = [] := if_neg (by assumption)
     have e2 : gn a b = false := if_neg (by assumption)
     rw [e1, e2]; exact bo ⟨bj (aQ rfl), fun _ _ _ _ _ h => h, fun _ _ _ _ _ h => h, trivial⟩)
  | (have hh := jg (g := d5 a b) hkl hq hgx
     rw [e1, e2, hh.1, hh.2, ht]; exact VLE.of_eq rfl)
  | (have hh := ir (g := d5 a b) (L := bG a b) fun j hj => hq j (by omega)
     rw [e1, e2, hh.1, hh.2, ht]; exact bo ⟨bj (aQ rfl), fun _ _ _ _ _ h => h, fun _ _ _ _ _ h => h, trivial⟩)
 ·(try simp only [zB, reduceCtorEq] at hc4)
  have ht : cS a b = 0 := by omega
  obtain ⟨ha, hb, hi⟩ := gS ht
  have a1 := ha.i1; have a2 := ha.i2; have a4 := ha.n2; have b4 := hb.n2; have hm9 := dJ a4 b4
  have hdw : DW a.nx.length b.nx.length (bG a b) := (db (dM ha hb hi (n := a.inp.toNat) (by omega)) (fh ha hb)).1
  have hal := jO ha hb hi
  have hm16 : a.nx.length * b.nx.length ≤ 16384 := Nat.mul_le_mul a4 b4
  have e1 : fy a b = laW (d5 a b) (bG a b) := if_pos ht
  have e2 : gn a b = dB (d5 a b) (bG a b) := if_pos ht
  refine aI ?_
  refine hK2 _ ?_; clear hK2; refine ad [0, 1, 2, 3, 4, 5, 6, 13] ?_; simp only [U, lkp, zE, reduceCtorEq, E, Y, D]
  refine aa fun K6 hK6 => ?_
  refine ae hP hN rfl ?_
  iterate 2 (refine ab rfl fun K0 V => ?_; simp only [zE, op1, ev, lkp, ah, ag, ay, Nat.mul_one, au, ax, acs, Ty.dflt, zG, aq, reduceCtorEq, E, D, J, S, M, O, Try.st25, Try.td25, Dfa.av, List.length_map]; (repeat refine And.intro (by first | omega | assumption | exact rfl) ?_); refine V _ ?_; clear V K0; simp only [put, app, Z, af, zE, zS, D])
  refine ab rfl fun K0 V => ?_
  refine aS (h := az (show bD Try.prog 49 [_, _, .one (.int .i64 16384)] _ from kF a b 16384 ha hb hi)) rfl rfl (by first | exact rfl | (simp only [ev, U, lkp, zE, reduceCtorEq, E, Y, D]; exact rfl)) (by simp only [zE, zG, op1, ev, lkp, ah, ag, ak, acs, aX, mv1, mvC, Ty.dflt, reduceCtorEq, E, D, J, S, M, O, Dfa.av, List.length_map]) ?_
  refine V _ ?_; clear V K0; simp only [put, app, Z, af, zE, zS, D]
  iterate 5 (refine ab rfl fun K0 V => ?_; simp only [zE, op1, ev, lkp, ah, ag, bE, reduceCtorEq, E, D, J, S, M, O, Try.el22, Try.el89, Try.td1, Try.td22, Try.td89, Dfa.av, List.length_map]; refine V _ ?_; clear V K0; simp only [put, app, Z, af, zE, zS, D])
  refine ai ?_
  refine hK6 _ ?_; clear hK6; refine ad [0, 1, 2, 3, 4, 5, 6, 7, 8, 13] ?_; simp only [U, lkp, zE, reduceCtorEq, E, Y, D]
  refine aa fun K7 hK7 => ?_
  refine aa fun K8 hK8 => ?_
  rw [ka (dM ha hb hi (n := a.inp.toNat) (by omega)) hm16 _ _ _ (j8 (fh ha hb)), show df (bS a b) a.inp.toNat (a.nx.length * b.nx.length + 1) 0 [((a.st, b.st), [])] = bG a b from rfl]
  refine ae hP hN rfl ?_
  (refine ab rfl fun K0 V => ?_; simp only [zE, op1, ev, lkp, ah, ag, ev, reduceCtorEq, E, D, J, S, M, O, Try.td3, Dfa.av, List.length_map]; refine V _ ?_; clear V K0; simp only [put, app, Z, af, zE, zS, D])
  refine ai ?_
  refine hK8 _ ?_; clear hK8; refine ad [0, 1, 2, 3, 4, 5, 6, 7, 8, 9, 13] ?_; simp only [U, lkp, zE, reduceCtorEq, E, Y, D]
  refine aM ?_
  refine bu (fun n9 s9 => ∃ (k : Nat), (k ≤ (bG a b).length) ∧ (∀ j, j < k → d5 a b ((bG a b).getD j w30).1 = false) ∧ n9 = (bG a b).length - k ∧ s9 = { env := [(2, .one (.ptr 0 0 0 0)), (3, .one (.ptr 1 0 0 0)), (4, .one .nils), (5, .one (.bool false)), (6, .one (.int .i64 0)), (7, .one (.list (.pair (.int .i64) (.pair (.int .i64) .unit)) (List.map dt ((bG a b).map Prod.fst)))), (8, .one (.list (.list (.int .i64)) ((bG a b).map Prod.snd))), (9, .one (.int .i64 (k : Int)))], L := [.vars 25 [.int .i64 a.inp, .int .i64 a.st, .list (.list (.int .i64)) a.nx, .list .bool a.acc], .vars 25 [.int .i64 b.inp, .int .i64 b.st, .list (.list (.int .i64)) b.nx, .list .bool b.acc]] }) ?_ ?_
  ·exact ⟨_, _, aL [2, 3, 4, 5, 6, 7, 8, 9], 0, Nat.zero_le _, fun q hq => by omega, rfl, rfl⟩
  ·rintro n9 s9 ⟨k, hk, hq, rfl, rfl⟩
   refine aa fun K10 hK10 => ?_
   refine aa fun K11 hK11 => ?_
   refine ae hP hN rfl ?_
   iterate 4 (refine ab rfl fun K0 V => ?_; simp only [zE, op1, ev, lkp, ah, ag, aG, br, be, aZ, ba, bn, Nat.div_one, aO, bb, Ty.size, aJ, dite_true, aD, aE, aC, ar, aB, aP, reduceCtorEq, E, D, J, S, M, O, Try.el89, Try.td3, Try.td4, Try.td89, Dfa.av, List.length_map]; (repeat refine And.intro (by first | omega | assumption | exact rfl) ?_); (first | refine V _ ?_ | refine Or.inl (V _ ?_)); clear V K0; simp only [put, app, Z, af, zE, zS, D])
   refine ai ?_
   refine hK11 _ ?_; clear hK11; refine ad [2, 3, 4, 5, 6, 7, 8, 9, 26] ?_; simp only [U, lkp, zE, reduceCtorEq, E, Y, D]
   refine aA (by simp only [ev, U, lkp, zE, reduceCtorEq, E, Y, D]; exact rfl) (fun hc12 => ?_) (fun hc12 => ?_)
   ·(try simp only [zB, reduceCtorEq] at hc12)
    refine aI ?_
    refine hK10 _ ?_; clear hK10; refine ad [2, 3, 4, 5, 6, 7, 8, 9, 26] ?_; simp only [U, lkp, zE, reduceCtorEq, E, Y, D]
    refine aa fun K13 hK13 => ?_
    refine aM ?_
    refine aa fun K14 hK14 => ?_
    have hkl : k < (bG a b).length := by omega
    have hgi : gt (.pair (.int .i64) (.pair (.int .i64) .unit)) (List.map dt ((bG a b).map Prod.fst)) (k : Int) = (((bG a b).getD k w30).1.1, (((bG a b).getD k w30).1.2, ())) := fX hkl _
    have hwi : ∀ z, ((bG a b).map Prod.snd).getD k z = ((bG a b).getD k w30).2 := fun z => o6 hkl z
    have hre := hdw.rg _ (cU hkl)
    obtain ⟨hr1, hr2⟩ := id hre
    have hua := ha.al; have hub := hb.al
    refine c0 hP hN Try.mixed rfl ?_
    iterate 19 (refine ab rfl fun K0 V => ?_; simp only [zE, op1, ev, lkp, ah, ag, aw, ay, Nat.mul_one, au, ax, acs, Ty.dflt, zG, aq, aH, Ty.size, ne_eq, not_false_eq_true, Int.natCast_one, Int.mul_one, aD, aE, aC, ar, aB, aP, reduceCtorEq, E, D, J, S, M, O, Try.el23, Try.el89, Try.fl93, Try.st25, Try.st93, Try.td1, Try.td23, Try.td25, Try.td3, Try.td4, Try.td89, Try.td93, Dfa.av, List.length_map, hgi]; (repeat refine And.intro (by first | omega | assumption | exact rfl) ?_); refine V _ ?_; clear V K0; simp only [put, app, Z, af, zE, zS, D])
    refine ai ?_
    refine ⟨by kernel_rfl, ?_⟩
    refine hK14 _ ?_; clear hK14; refine ad [2, 3, 4, 5, 6, 7, 8, 9, 26, 47] ?_; simp only [U, lkp, zE, reduceCtorEq, E, Y, D]
    refine aA (by simp only [ev, U, lkp, zE, reduceCtorEq, E, Y, D]; exact rfl) (fun hc15 => ?_) (fun hc15 => ?_)
    ·(try simp only [zB, reduceCtorEq] at hc15)
     have hgx : d5 a b ((bG a b).getD k w30).1 = true := by unfold d5 Dfa.ac; simpa using hc15
     refine aa fun K16 hK16 => ?_
     refine ae hP hN rfl ?_
     iterate 7 (refine ab rfl fun K0 V => ?_; simp only [zE, op1, ev, lkp, ah, ag, aH, zG, Ty.dflt, Ty.size, Nat.mul_one, ne_eq, not_false_eq_true, Int.natCast_one, Int.mul_one, ay, au, ax, acs, aq, reduceCtorEq, E, D, J, S, M, O, Try.el22, Try.el26, Try.td22, Try.td26, Try.td3, Try.td4, Dfa.av, List.length_map, hwi]; (repeat refine And.intro (by first | omega | assumption | exact rfl) ?_); refine V _ ?_; clear V K0; simp only [put, app, Z, af, zE, zS, D])
     refine ai ?_
     refine hK16 _ ?_; clear hK16; refine ad [2, 3, 4, 5, 6, 7, 8, 9, 26, 47] ?_; simp only [U, lkp, zE, reduceCtorEq, E, Y, D]
     refine aF ?_
     refine ⟨by first | exact .inl rfl | exact .inr rfl, _, rfl, ?_⟩; simp only [fzV, fz1, fzC, List.map_cons, List.map_nil, U, lkp, zE, reduceCtorEq, E, Y, D, Dfa.av, List.length_map]
     first
     | (have e1 : fy a b = [] := if_neg (by assumption)
        have e2 : gn a b = false := if_neg (by assumption)
        rw [e1, e2]; exact bo ⟨bj (aQ rfl), fun _ _ _ _ _ h => h, fun _ _ _ _ _ h => h, trivial⟩)
     | (have hh := jg (g := d5 a b) hkl hq hgx
        rw [e1, e2, hh.1, hh.2, ht]; exact VLE.of_eq rfl)
     | (have hh := ir (g := d5 a b) (L := bG a b) fun j hj => hq j (by omega)
        rw [e1, e2, hh.1, hh.2, ht]; exact bo ⟨bj (aQ rfl), fun _ _ _ _ _ h => h, fun _ _ _ _ _ h => h, trivial⟩)
    ·(try simp only [zB, reduceCtorEq] at hc15)
     have hgx : d5 a b ((bG a b).getD k w30).1 = false := by unfold d5 Dfa.ac; simpa using hc15
     refine aI ?_
     refine hK13 _ ?_; clear hK13; refine ad [2, 3, 4, 5, 6, 7, 8, 9, 26, 47] ?_; simp only [U, lkp, zE, reduceCtorEq, E, Y, D]
     refine ae hP hN rfl ?_
     iterate 3 (refine ab rfl fun K0 V => ?_; simp only [zE, op1, ev, lkp, ah, ag, aD, aE, aC, ar, aB, aP, reduceCtorEq, E, D, J, S, M, O, Try.td3, Dfa.av, List.length_map]; (repeat refine And.intro (by first | omega | assumption | exact rfl) ?_); refine V _ ?_; clear V K0; simp only [put, app, Z, af, zE, zS, D])
     refine ai ?_
     refine ⟨_, _, ?_, aL [2, 3, 4, 5, 6, 7, 8, 9], k + 1, by omega, fun j hj => ?_, rfl, rfl⟩
     · omega
     · by_cases e : j = k
       · rw [e]; exact hgx
       · exact hq j (by omega)
   ·(try simp only [zB, reduceCtorEq] at hc12)
    refine bp ?_
    refine hK7 _ ?_; clear hK7; refine ad [2, 3, 4, 5, 6, 7, 8, 9, 26] ?_; simp only [U, lkp, zE, reduceCtorEq, E, Y, D]
    refine aa fun K17 hK17 => ?_
    refine ae hP hN rfl ?_
    iterate 3 (refine ab rfl fun K0 V => ?_; simp only [zE, op1, ev, lkp, ah, ag, ev, reduceCtorEq, E, D, J, S, M, O, Try.el26, Try.td26, Try.td3, Try.td4, Dfa.av, List.length_map]; refine V _ ?_; clear V K0; simp only [put, app, Z, af, zE, zS, D])
    refine ai ?_
    refine hK17 _ ?_; clear hK17; refine ad [2, 3, 4, 5, 6, 7, 8, 9, 26] ?_; simp only [U, lkp, zE, reduceCtorEq, E, Y, D]
    refine aF ?_
    refine ⟨by first | exact .inl rfl | exact .inr rfl, _, rfl, ?_⟩; simp only [fzV, fz1, fzC, List.map_cons, List.map_nil, U, lkp, zE, reduceCtorEq, E, Y, D, Dfa.av, List.length_map]
    first
    | (have e1 : fy a b = [] := if_neg (by assumption)
       have e2 : gn a b = false := if_neg (by assumption)
       rw [e1, e2]; exact bo ⟨bj (aQ rfl), fun _ _ _ _ _ h => h, fun _ _ _ _ _ h => h, trivial⟩)
    | (have hh := jg (g := d5 a b) hkl hq hgx
       rw [e1, e2, hh.1, hh.2, ht]; exact VLE.of_eq rfl)
    | (have hh := ir (g := d5 a b) (L := bG a b) fun j hj => hq j (by omega)
       rw [e1, e2, hh.1, hh.2, ht]; exact bo ⟨bj (aQ rfl), fun _ _ _ _ _ h => h, fun _ _ _ _ _ h => h, trivial⟩)
end Go.Proofs.Ytdkgcbhbpdbmnaa
namespace Go.Proofs.Ytdkgcbhbpdbmnaa
open Go Go.AV
open Nat renaming reduceEqDiff → E, reduceAdd → D, reduceLeDiff → J, reduceLT → S, reduceMul → M, reduceSub → O
open List renaming set_cons_zero → ao, set_cons_succ → am
end Go.Proofs.Ytdkgcbhbpdbmnaa
namespace Go.Proofs.Ytdkgcbhbpdbmnaa
open Go Go.AV
open Nat renaming reduceEqDiff → E, reduceAdd → D, reduceLeDiff → J, reduceLT → S, reduceMul → M, reduceSub → O
open List renaming set_cons_zero → ao, set_cons_succ → am
set_option maxRecDepth 100000 in
theorem qT (op : Int) (a b : Dfa) : bD Try.prog 4 [.one (.int .i64 op), a.av, b.av] (.one (.bool true)) := by
 refine aR Try.func4 rfl (by kernel_rfl) (Nat.le_of_ble_eq_true rfl) rfl fun C hP hN hB => ?_
 replace hN : C.N = 78 := hN
 simp only [Y, D]
 refine aa fun K1 hK1 => ?_
 refine ae hP hN rfl ?_
 iterate 3 (refine ab rfl fun K0 V => ?_; simp only [zE, op1, ev, lkp, ah, ag, bZ, ak, reduceCtorEq, E, D, J, S, M, O, Try.st25, Try.td25, Try.td4, Dfa.av]; (repeat refine And.intro (by first | omega | assumption | exact rfl) ?_); refine V _ ?_; clear V K0; simp only [put, app, Z, af, zE, zS, D])
 refine ai ?_
 refine hK1 _ ?_; clear hK1; refine ad [0, 1, 2, 4, 5, 6] ?_; simp only [U, lkp, zE, reduceCtorEq, E, Y, D]
 refine aa fun K2 hK2 => ?_
 refine aa fun K3 hK3 => ?_
 refine ae hP hN rfl ?_
 (refine ab rfl fun K0 V => ?_; simp only [zE, op1, ev, lkp, ah, ag, ay, Nat.mul_one, au, ax, acs, Ty.dflt, zG, aq, reduceCtorEq, E, D, J, S, M, O, Try.st25, Try.td25, Dfa.av]; (repeat refine And.intro (by first | omega | assumption | exact rfl) ?_); refine V _ ?_; clear V K0; simp only [put, app, Z, af, zE, zS, D])
 refine ab rfl fun K0 V => ?_
 refine aS (h := az (ki a)) rfl rfl (by first | exact rfl | (simp only [ev, U, lkp, zE, reduceCtorEq, E, Y, D]; exact rfl)) (by simp only [zE, zG, op1, ev, lkp, ah, ag, ak, acs, aX, mv1, mvC, Ty.dflt, reduceCtorEq, E, D, J, S, M, O, Dfa.av]) ?_
 refine V _ ?_; clear V K0; simp only [put, app, Z, af, zE, zS, D]
 (refine ab rfl fun K0 V => ?_; simp only [zE, op1, ev, lkp, ah, ag, ev, reduceCtorEq, E, D, J, S, M, O, Try.td4, Dfa.av]; refine V _ ?_; clear V K0; simp only [put, app, Z, af, zE, zS, D])
 refine' aU (want := false) 2 rfl (m := 19) (by simp only [U, lkp, zE, reduceCtorEq, E, Y, D]; exact rfl) (by kernel_rfl) rfl rfl rfl rfl rfl (fun hg4 => ?a4) ?b4 ?c4
 case a4 =>
  have hq4 := hg4; (try simp only [zB, reduceCtorEq] at hg4); simp only [List.take_succ_cons, List.take_zero, List.cons_append, List.nil_append]
  (refine aK rfl fun K0 V => ?_; simp only [zE, op1, ev, lkp, ah, ag, ay, Nat.mul_one, au, ax, acs, Ty.dflt, zG, aq, reduceCtorEq, E, D, J, S, M, O, Try.st25, Try.td25, Dfa.av]; (repeat refine And.intro (by first | omega | assumption | exact rfl) ?_); refine V _ ?_; clear V K0; simp only [put, app, Z, af, zE, zS, D])
  refine aK rfl fun K0 V => ?_
  refine aS (h := az (ki b)) rfl rfl (by first | exact rfl | (simp only [ev, U, lkp, zE, reduceCtorEq, E, Y, D]; exact rfl)) (by simp only [zE, zG, op1, ev, lkp, ah, ag, ak, acs, aX, mv1, mvC, Ty.dflt, reduceCtorEq, E, D, J, S, M, O, Dfa.av]) ?_
  refine V _ ?_; clear V K0; simp only [put, app, Z, af, zE, zS, D]
  (refine ab rfl fun K0 V => ?_; simp only [zE, op1, ev, lkp, ah, ag, bm, reduceCtorEq, E, D, J, S, M, O, Try.td4, Dfa.av]; refine V _ ?_; clear V K0; simp only [put, app, Z, af, zE, zS, D])
  refine ai ?_
  refine ⟨by simp only [U, lkp, zE, reduceCtorEq, E, Y, D]; exact rfl, rfl, ?_, rfl⟩; (repeat refine aV rfl ?_); exact bt (by exact rfl) hq4
 case b4 => exact bq (by first | rfl | (simp [bU]; done) | decide)
 simp only [bk, b0]
 refine ai ?_
 refine hK3 _ ?_; clear hK3; refine ad [0, 1, 2, 4, 5, 6, 22] ?_; simp only [U, lkp, zE, reduceCtorEq, E, Y, D]
 refine aA (by simp only [ev, U, lkp, zE, reduceCtorEq, E, Y, D]; exact rfl) (fun hc5 => ?_) (fun hc5 => ?_)
 ·(try simp only [zB, reduceCtorEq] at hc5)
  refine aa fun K6 hK6 => ?_
  refine ae hP hN rfl ?_
  refine ab rfl fun K0 V => ?_
  refine aS (h := az ja) rfl rfl (by first | exact rfl | (simp only [ev, U, lkp, zE, reduceCtorEq, E, Y, D]; exact rfl)) (by simp only [zE, zG, op1, ev, lkp, ah, ag, ak, acs, aX, mv1, mvC, Ty.dflt, reduceCtorEq, E, D, J, S, M, O, Dfa.av]) ?_
  refine V _ ?_; clear V K0; simp only [put, app, Z, af, zE, zS, D]
  (refine ab rfl fun K0 V => ?_; simp only [zE, op1, ev, lkp, ah, ag, ev, reduceCtorEq, E, D, J, S, M, O, Try.td4, Dfa.av]; refine V _ ?_; clear V K0; simp only [put, app, Z, af, zE, zS, D])
  refine ai ?_
  refine hK6 _ ?_; clear hK6; refine ad [0, 1, 2, 4, 5, 6, 22] ?_; simp only [U, lkp, zE, reduceCtorEq, E, Y, D]
  refine aF ?_
  refine ⟨by first | exact .inl rfl | exact .inr rfl, _, rfl, ?_⟩; simp only [fzV, fz1, fzC, List.map_cons, List.map_nil, U, lkp, zE, reduceCtorEq, E, Y, D, Dfa.av]
  refine VLE.of_eq ?_
  first | rfl | (refine congrArg (fun b => AV.one (AC.bool b)) ?_; simp [iJ, ml]; done)
 ·(try simp only [zB, reduceCtorEq] at hc5)
  refine aI ?_
  refine hK2 _ ?_; clear hK2; refine ad [0, 1, 2, 4, 5, 6, 22] ?_; simp only [U, lkp, zE, reduceCtorEq, E, Y, D]
  refine aa fun K7 hK7 => ?_
  refine ae hP hN rfl ?_
  iterate 3 (refine ab rfl fun K0 V => ?_; simp only [zE, op1, ev, lkp, ah, ag, ay, Nat.mul_one, au, ax, acs, Ty.dflt, zG, aq, reduceCtorEq, E, D, J, S, M, O, Try.st25, Try.td25, Try.td3, Dfa.av]; (repeat refine And.intro (by first | omega | assumption | exact rfl) ?_); refine V _ ?_; clear V K0; simp only [put, app, Z, af, zE, zS, D])
  refine ab rfl fun K0 V => ?_
  refine aS (h := az (iH op a b)) rfl rfl (by first | exact rfl | (simp only [ev, U, lkp, zE, reduceCtorEq, E, Y, D]; exact rfl)) (by simp only [zE, zG, op1, ev, lkp, ah, ag, ak, acs, aX, mv1, mvC, Ty.dflt, reduceCtorEq, E, D, J, S, M, O, Dfa.av]) ?_
  refine V _ ?_; clear V K0; simp only [put, app, Z, af, zE, zS, D]
  iterate 6 (refine ab rfl fun K0 V => ?_; simp only [zE, op1, ev, lkp, ah, ag, bE, bK, bc, Nat.mul_one, ak, aN, aJ, acs, Ty.size, Ty.dflt, zG, reduceCtorEq, E, D, J, S, M, O, Try.st25, Try.td1, Try.td25, Try.td29, Dfa.av]; (repeat refine And.intro (by first | omega | assumption | exact rfl) ?_); (first | refine V _ ?_ | refine Or.inl (V _ ?_)); clear V K0; simp only [put, app, Z, af, zE, zS, D])
  refine ai ?_
  refine hK7 _ ?_; clear hK7; refine ad [0, 1, 2, 4, 5, 6, 7, 8, 22] ?_; simp only [U, lkp, zE, reduceCtorEq, E, Y, D]
  refine aa fun K8 hK8 => ?_
  refine ae hP hN rfl ?_
  iterate 3 (refine ab rfl fun K0 V => ?_; simp only [zE, op1, ev, lkp, ah, ag, ay, Nat.mul_one, au, ax, acs, Ty.dflt, zG, aq, reduceCtorEq, E, D, J, S, M, O, Try.st25, Try.td25, Try.td3, Dfa.av]; (repeat refine And.intro (by first | omega | assumption | exact rfl) ?_); refine V _ ?_; clear V K0; simp only [put, app, Z, af, zE, zS, D])
  refine ab rfl fun K0 V => ?_
  refine aS (h := az (lE op a b)) rfl rfl (by first | exact rfl | (simp only [ev, U, lkp, zE, reduceCtorEq, E, Y, D]; exact rfl)) (by simp only [zE, zG, op1, ev, lkp, ah, ag, ak, acs, aX, mv1, mvC, Ty.dflt, reduceCtorEq, E, D, J, S, M, O, Dfa.av]) ?_
  refine V _ ?_; clear V K0; simp only [put, app, Z, af, zE, zS, D]
  iterate 6 (refine ab rfl fun K0 V => ?_; simp only [zE, op1, ev, lkp, ah, ag, bE, bK, bc, Nat.mul_one, ak, aN, aJ, acs, Ty.size, Ty.dflt, zG, reduceCtorEq, E, D, J, S, M, O, Try.st25, Try.td1, Try.td25, Try.td3, Dfa.av]; (repeat refine And.intro (by first | omega | assumption | exact rfl) ?_); (first | refine V _ ?_ | refine Or.inl (V _ ?_)); clear V K0; simp only [put, app, Z, af, zE, zS, D])
  refine ai ?_
  refine hK8 _ ?_; clear hK8; refine ad [0, 1, 2, 4, 5, 6, 7, 8, 9, 10, 22] ?_; simp only [U, lkp, zE, reduceCtorEq, E, Y, D]
  refine aa fun K9 hK9 => ?_
  refine ae hP hN rfl ?_
  iterate 2 (refine ab rfl fun K0 V => ?_; simp only [zE, op1, ev, lkp, ah, ag, ay, Nat.mul_one, au, ax, acs, Ty.dflt, zG, aq, reduceCtorEq, E, D, J, S, M, O, Try.st25, Try.td25, Dfa.av]; (repeat refine And.intro (by first | omega | assumption | exact rfl) ?_); refine V _ ?_; clear V K0; simp only [put, app, Z, af, zE, zS, D])
  refine ab rfl fun K0 V => ?_
  refine aS (h := az (jv a b)) rfl rfl (by first | exact rfl | (simp only [ev, U, lkp, zE, reduceCtorEq, E, Y, D]; exact rfl)) (by simp only [zE, zG, op1, ev, lkp, ah, ag, ak, acs, aX, mv1, mvC, Ty.dflt, reduceCtorEq, E, D, J, S, M, O, Dfa.av]) ?_
  refine V _ ?_; clear V K0; simp only [put, app, Z, af, zE, zS, D]
  iterate 7 (refine ab rfl fun K0 V => ?_; simp only [zE, op1, ev, lkp, ah, ag, bE, reduceCtorEq, E, D, J, S, M, O, Try.el26, Try.td1, Try.td2, Try.td26, Try.td29, Try.td4, Dfa.av]; refine V _ ?_; clear V K0; simp only [put, app, Z, af, zE, zS, D])
  refine ai ?_
  refine hK9 _ ?_; clear hK9; refine ad [0, 1, 2, 4, 5, 6, 7, 8, 9, 10, 11, 12, 13, 22] ?_; simp only [U, lkp, zE, reduceCtorEq, E, Y, D]
  refine aa fun K10 hK10 => ?_
  refine ae hP hN rfl ?_
  iterate 2 (refine ab rfl fun K0 V => ?_; simp only [zE, op1, ev, lkp, ah, ag, ay, Nat.mul_one, au, ax, acs, Ty.dflt, zG, aq, reduceCtorEq, E, D, J, S, M, O, Try.st25, Try.td25, Dfa.av]; (repeat refine And.intro (by first | omega | assumption | exact rfl) ?_); refine V _ ?_; clear V K0; simp only [put, app, Z, af, zE, zS, D])
  refine ab rfl fun K0 V => ?_
  refine aS (h := az (mL a b)) rfl rfl (by first | exact rfl | (simp only [ev, U, lkp, zE, reduceCtorEq, E, Y, D]; exact rfl)) (by simp only [zE, zG, op1, ev, lkp, ah, ag, ak, acs, aX, mv1, mvC, Ty.dflt, reduceCtorEq, E, D, J, S, M, O, Dfa.av]) ?_
  refine V _ ?_; clear V K0; simp only [put, app, Z, af, zE, zS, D]
  iterate 7 (refine ab rfl fun K0 V => ?_; simp only [zE, op1, ev, lkp, ah, ag, bE, reduceCtorEq, E, D, J, S, M, O, Try.el26, Try.td1, Try.td2, Try.td26, Try.td3, Try.td4, Dfa.av]; refine V _ ?_; clear V K0; simp only [put, app, Z, af, zE, zS, D])
  refine ai ?_
  refine hK10 _ ?_; clear hK10; refine ad [0, 1, 2, 4, 5, 6, 7, 8, 9, 10, 11, 12, 13, 14, 15, 16, 22] ?_; simp only [U, lkp, zE, reduceCtorEq, E, Y, D]
  refine aa fun K11 hK11 => ?_
  refine ae hP hN rfl ?_
  iterate 2 (refine ab rfl fun K0 V => ?_; simp only [zE, op1, ev, lkp, ah, ag, ay, Nat.mul_one, au, ax, acs, Ty.dflt, zG, aq, reduceCtorEq, E, D, J, S, M, O, Try.st25, Try.td25, Dfa.av]; (repeat refine And.intro (by first | omega | assumption | exact rfl) ?_); refine V _ ?_; clear V K0; simp only [put, app, Z, af, zE, zS, D])
  refine ab rfl fun K0 V => ?_
  refine aS (h := az (jC (ch op a b) (ch op a b) (ph op a b))) rfl rfl (by first | exact rfl | (simp only [ev, U, lkp, zE, reduceCtorEq, E, Y, D]; exact rfl)) (by simp only [zE, zG, op1, ev, lkp, ah, ag, ak, acs, aX, mv1, mvC, Ty.dflt, reduceCtorEq, E, D, J, S, M, O, Dfa.av]) ?_
  refine V _ ?_; clear V K0; simp only [put, app, Z, af, zE, zS, D]
  (refine ab rfl fun K0 V => ?_; simp only [zE, op1, ev, lkp, ah, ag, ev, reduceCtorEq, E, D, J, S, M, O, Try.td4, Dfa.av]; refine V _ ?_; clear V K0; simp only [put, app, Z, af, zE, zS, D])
  refine' aU (want := true) 3 rfl (m := 55) (by simp only [U, lkp, zE, reduceCtorEq, E, Y, D]; exact rfl) (by kernel_rfl) rfl rfl rfl rfl rfl (fun hg12 => ?a12) ?b12 ?c12
  case a12 =>
   have hq12 := hg12; (try simp only [zB, reduceCtorEq] at hg12); simp only [List.take_succ_cons, List.take_zero, List.cons_append, List.nil_append]
   (refine aK rfl fun K0 V => ?_; simp only [zE, op1, ev, lkp, ah, ag, ev, reduceCtorEq, E, D, J, S, M, O, Try.td29, Dfa.av]; refine V _ ?_; clear V K0; simp only [put, app, Z, af, zE, zS, D])
   (refine aK rfl fun K0 V => ?_; simp only [zE, op1, ev, lkp, ah, ag, ev, reduceCtorEq, E, D, J, S, M, O, Try.td3, Dfa.av]; refine V _ ?_; clear V K0; simp only [put, app, Z, af, zE, zS, D])
   (refine aK rfl fun K0 V => ?_; simp only [zE, op1, ev, lkp, ah, ag, aD, aE, aC, ar, aB, aP, reduceCtorEq, E, D, J, S, M, O, Try.td3, Try.td4, Dfa.av]; (repeat refine And.intro (by first | omega | assumption | exact rfl) ?_); refine V _ ?_; clear V K0; simp only [put, app, Z, af, zE, zS, D])
   (refine ab rfl fun K0 V => ?_; simp only [zE, op1, ev, lkp, ah, ag, bm, reduceCtorEq, E, D, J, S, M, O, Try.td4, Dfa.av]; refine V _ ?_; clear V K0; simp only [put, app, Z, af, zE, zS, D])
   refine ai ?_
   refine ⟨by simp only [U, lkp, zE, reduceCtorEq, E, Y, D]; exact rfl, rfl, ?_, rfl⟩; (repeat refine aV rfl ?_); exact bt (by exact rfl) hq12
  case b12 => exact bq (by first | rfl | (simp [bU]; done) | decide)
  simp only [bk, b0]
  (refine ab rfl fun K0 V => ?_; simp only [zE, op1, ev, lkp, ah, ag, ev, reduceCtorEq, E, D, J, S, M, O, Try.td4, Dfa.av]; refine V _ ?_; clear V K0; simp only [put, app, Z, af, zE, zS, D])
  refine' aU (want := true) 3 rfl (m := 60) (by simp only [U, lkp, zE, reduceCtorEq, E, Y, D]; exact rfl) (by kernel_rfl) rfl rfl rfl rfl rfl (fun hg13 => ?a13) ?b13 ?c13
  case a13 =>
   have hq13 := hg13; (try simp only [zB, reduceCtorEq] at hg13); simp only [List.take_succ_cons, List.take_zero, List.cons_append, List.nil_append]
   (refine aK rfl fun K0 V => ?_; simp only [zE, op1, ev, lkp, ah, ag, ev, reduceCtorEq, E, D, J, S, M, O, Try.el26, Try.td26, Dfa.av]; refine V _ ?_; clear V K0; simp only [put, app, Z, af, zE, zS, D])
   (refine aK rfl fun K0 V => ?_; simp only [zE, op1, ev, lkp, ah, ag, ev, reduceCtorEq, E, D, J, S, M, O, Try.el26, Try.td26, Dfa.av]; refine V _ ?_; clear V K0; simp only [put, app, Z, af, zE, zS, D])
   refine aK rfl fun K0 V => ?_
   refine aS (h := az (lx (fy a b) (fy a b))) rfl rfl (by first | exact rfl | (simp only [ev, U, lkp, zE, reduceCtorEq, E, Y, D]; exact rfl)) (by simp only [zE, zG, op1, ev, lkp, ah, ag, ak, acs, aX, mv1, mvC, Ty.dflt, reduceCtorEq, E, D, J, S, M, O, Dfa.av]) ?_
   refine V _ ?_; clear V K0; simp only [put, app, Z, af, zE, zS, D]
   (refine ab rfl fun K0 V => ?_; simp only [zE, op1, ev, lkp, ah, ag, bm, reduceCtorEq, E, D, J, S, M, O, Try.td4, Dfa.av]; refine V _ ?_; clear V K0; simp only [put, app, Z, af, zE, zS, D])
   refine ai ?_
   refine ⟨by simp only [U, lkp, zE, reduceCtorEq, E, Y, D]; exact rfl, rfl, ?_, rfl⟩; (repeat refine aV rfl ?_); exact bt (by exact rfl) hq13
  case b13 => exact bq (by first | rfl | (simp [bU]; done) | decide)
  simp only [bk, b0]
  (refine ab rfl fun K0 V => ?_; simp only [zE, op1, ev, lkp, ah, ag, ev, reduceCtorEq, E, D, J, S, M, O, Try.td4, Dfa.av]; refine V _ ?_; clear V K0; simp only [put, app, Z, af, zE, zS, D])
  refine' aU (want := true) 3 rfl (m := 65) (by simp only [U, lkp, zE, reduceCtorEq, E, Y, D]; exact rfl) (by kernel_rfl) rfl rfl rfl rfl rfl (fun hg14 => ?a14) ?b14 ?c14
  case a14 =>
   have hq14 := hg14; (try simp only [zB, reduceCtorEq] at hg14); simp only [List.take_succ_cons, List.take_zero, List.cons_append, List.nil_append]
   (refine aK rfl fun K0 V => ?_; simp only [zE, op1, ev, lkp, ah, ag, ev, reduceCtorEq, E, D, J, S, M, O, Try.td4, Dfa.av]; refine V _ ?_; clear V K0; simp only [put, app, Z, af, zE, zS, D])
   (refine aK rfl fun K0 V => ?_; simp only [zE, op1, ev, lkp, ah, ag, ev, reduceCtorEq, E, D, J, S, M, O, Try.td4, Dfa.av]; refine V _ ?_; clear V K0; simp only [put, app, Z, af, zE, zS, D])
   (refine aK rfl fun K0 V => ?_; simp only [zE, op1, ev, lkp, ah, ag, aD, aE, aC, ar, aB, aP, reduceCtorEq, E, D, J, S, M, O, Try.td4, Dfa.av]; (repeat refine And.intro (by first | omega | assumption | exact rfl) ?_); refine V _ ?_; clear V K0; simp only [put, app, Z, af, zE, zS, D])
   (refine ab rfl fun K0 V => ?_; simp only [zE, op1, ev, lkp, ah, ag, bm, reduceCtorEq, E, D, J, S, M, O, Try.td4, Dfa.av]; refine V _ ?_; clear V K0; simp only [put, app, Z, af, zE, zS, D])
   refine ai ?_
   refine ⟨by simp only [U, lkp, zE, reduceCtorEq, E, Y, D]; exact rfl, rfl, ?_, rfl⟩; (repeat refine aV rfl ?_); exact bt (by exact rfl) hq14
  case b14 => exact bq (by first | rfl | (simp [bU]; done) | decide)
  simp only [bk, b0]
  (refine ab rfl fun K0 V => ?_; simp only [zE, op1, ev, lkp, ah, ag, ev, reduceCtorEq, E, D, J, S, M, O, Try.td4, Dfa.av]; refine V _ ?_; clear V K0; simp only [put, app, Z, af, zE, zS, D])
  refine' aU (want := true) 3 rfl (m := 70) (by simp only [U, lkp, zE, reduceCtorEq, E, Y, D]; exact rfl) (by kernel_rfl) rfl rfl rfl rfl rfl (fun hg15 => ?a15) ?b15 ?c15
  case a15 =>
   have hq15 := hg15; (try simp only [zB, reduceCtorEq] at hg15); simp only [List.take_succ_cons, List.take_zero, List.cons_append, List.nil_append]
   (refine aK rfl fun K0 V => ?_; simp only [zE, op1, ev, lkp, ah, ag, ev, reduceCtorEq, E, D, J, S, M, O, Try.td29, Dfa.av]; refine V _ ?_; clear V K0; simp only [put, app, Z, af, zE, zS, D])
   (refine aK rfl fun K0 V => ?_; simp only [zE, op1, ev, lkp, ah, ag, ev, reduceCtorEq, E, D, J, S, M, O, Try.td3, Dfa.av]; refine V _ ?_; clear V K0; simp only [put, app, Z, af, zE, zS, D])
   (refine aK rfl fun K0 V => ?_; simp only [zE, op1, ev, lkp, ah, ag, aD, aE, aC, ar, aB, aP, reduceCtorEq, E, D, J, S, M, O, Try.td3, Try.td4, Dfa.av]; (repeat refine And.intro (by first | omega | assumption | exact rfl) ?_); refine V _ ?_; clear V K0; simp only [put, app, Z, af, zE, zS, D])
   (refine ab rfl fun K0 V => ?_; simp only [zE, op1, ev, lkp, ah, ag, bm, reduceCtorEq, E, D, J, S, M, O, Try.td4, Dfa.av]; refine V _ ?_; clear V K0; simp only [put, app, Z, af, zE, zS, D])
   refine ai ?_
   refine ⟨by simp only [U, lkp, zE, reduceCtorEq, E, Y, D]; exact rfl, rfl, ?_, rfl⟩; (repeat refine aV rfl ?_); exact bt (by exact rfl) hq15
  case b15 => exact bq (by first | rfl | (simp [bU]; done) | decide)
  simp only [bk, b0]
  (refine ab rfl fun K0 V => ?_; simp only [zE, op1, ev, lkp, ah, ag, ev, reduceCtorEq, E, D, J, S, M, O, Try.td4, Dfa.av]; refine V _ ?_; clear V K0; simp only [put, app, Z, af, zE, zS, D])
  refine' aU (want := true) 1 rfl (m := 75) (by simp only [U, lkp, zE, reduceCtorEq, E, Y, D]; exact rfl) (by kernel_rfl) rfl rfl rfl rfl rfl (fun hg16 => ?a16) ?b16 ?c16
  case a16 =>
   have hq16 := hg16; (try simp only [zB, reduceCtorEq] at hg16); simp only [List.take_succ_cons, List.take_zero, List.cons_append, List.nil_append]
   refine aK rfl fun K0 V => ?_
   refine aS (h := az ja) rfl rfl (by first | exact rfl | (simp only [ev, U, lkp, zE, reduceCtorEq, E, Y, D]; exact rfl)) (by simp only [zE, zG, op1, ev, lkp, ah, ag, ak, acs, aX, mv1, mvC, Ty.dflt, reduceCtorEq, E, D, J, S, M, O, Dfa.av]) ?_
   refine V _ ?_; clear V K0; simp only [put, app, Z, af, zE, zS, D]
   (refine ab rfl fun K0 V => ?_; simp only [zE, op1, ev, lkp, ah, ag, bm, reduceCtorEq, E, D, J, S, M, O, Try.td4, Dfa.av]; refine V _ ?_; clear V K0; simp only [put, app, Z, af, zE, zS, D])
   refine ai ?_
   refine ⟨by simp only [U, lkp, zE, reduceCtorEq, E, Y, D]; exact rfl, rfl, ?_, rfl⟩; (repeat refine aV rfl ?_); exact bt (by exact rfl) hq16
  case b16 => exact bq (by first | rfl | (simp [bU]; done) | decide)
  simp only [bk, b0]
  (refine ab rfl fun K0 V => ?_; simp only [zE, op1, ev, lkp, ah, ag, ev, reduceCtorEq, E, D, J, S, M, O, Try.td4, Dfa.av]; refine V _ ?_; clear V K0; simp only [put, app, Z, af, zE, zS, D])
  refine ai ?_
  refine hK11 _ ?_; clear hK11; refine ad [0, 1, 2, 4, 5, 6, 7, 8, 9, 10, 11, 12, 13, 14, 15, 16, 22] ?_; simp only [U, lkp, zE, reduceCtorEq, E, Y, D]
  refine aF ?_
  refine ⟨by first | exact .inl rfl | exact .inr rfl, _, rfl, ?_⟩; simp only [fzV, fz1, fzC, List.map_cons, List.map_nil, U, lkp, zE, reduceCtorEq, E, Y, D, Dfa.av]
  refine VLE.of_eq ?_
  first | rfl | (refine congrArg (fun b => AV.one (AC.bool b)) ?_; simp [iJ, ml]; done)
end Go.Proofs.Ytdkgcbhbpdbmnaa
