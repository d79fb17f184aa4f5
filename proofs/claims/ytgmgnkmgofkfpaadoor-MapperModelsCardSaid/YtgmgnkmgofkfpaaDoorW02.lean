/- Contracts of functions of this seat, each out of a walk through its code, and plain facts on what they compute. Conditions: those that each theorem names. -/
import Derived.Test.YtgmgnkmgofkfpaaDoorW01
set_option linter.unusedSimpArgs false
set_option linter.unusedVariables false
namespace Go.Proofs.YtgmgnkmgofkfpaaDoor
open Go Go.AV
open Nat renaming reduceEqDiff → G, reduceAdd → E, reduceLeDiff → J, reduceLT → V, reduceMul → M, reduceSub → U
open List renaming set_cons_zero → aA, set_cons_succ → az
set_option maxRecDepth 100000 in
theorem ib (p : Mpr) : ch Tryd.prog 11 [p.av] (.one (.int .i64 (bQ p))) := by
 refine bp Tryd.func11 rfl (by kernel_rfl) (Nat.le_of_ble_eq_true rfl) rfl fun C hP hN hB => ?_
 replace hN : C.N = 116 := hN
 simp only [a8, E]
 refine aa fun K1 hK1 => ?_
 refine aj hP hN rfl ?_
 iterate 2 (refine ad rfl fun K0 Y => ?_; simp only [zE, op1, ev, lkp, ah, ag, cA, au, reduceCtorEq, G, E, J, V, M, U, Tryd.st24, Tryd.td24, Tryd.td26, Mpr.av, Int.toNat_natCast]; (repeat refine And.intro (by first | omega | assumption | exact rfl) ?_); refine Y _ ?_; clear Y K0; simp only [put, app, a9, af, zE, zS, E])
 refine ai ?_
 refine hK1 _ ?_; clear hK1; refine ae [0, 1, 2] ?_; simp only [Z, lkp, zE, reduceCtorEq, G, a8, E]
 refine aa fun K2 hK2 => ?_
 refine aj hP hN rfl ?_
 iterate 4 (refine ad rfl fun K0 Y => ?_; simp only [zE, op1, ev, lkp, ah, ag, am, ay, Nat.mul_one, aw, ax, acs, Ty.dflt, zG, aq, aF, bu, bh, ba, bb, bq, Nat.div_one, aK, bf, Ty.size, aL, dite_true, reduceCtorEq, G, E, J, V, M, U, Tryd.el22, Tryd.st24, Tryd.td22, Tryd.td24, Tryd.td3, Mpr.av, Int.toNat_natCast]; (repeat refine And.intro (by first | omega | assumption | exact rfl) ?_); (first | refine Y _ ?_ | refine Or.inl (Y _ ?_)); clear Y K0; simp only [put, app, a9, af, zE, zS, E])
 refine ai ?_
 refine hK2 _ ?_; clear hK2; refine ae [0, 1, 2, 3] ?_; simp only [Z, lkp, zE, reduceCtorEq, G, a8, E]
 refine aa fun K3 hK3 => ?_
 refine aW ?_
 refine aa fun K4 hK4 => ?_
 refine aj hP hN rfl ?_
 iterate 3 (refine ad rfl fun K0 Y => ?_; simp only [zE, op1, ev, lkp, ah, ag, am, ay, Nat.mul_one, aw, ax, acs, Ty.dflt, zG, aq, aC, aD, aE, ao, aB, aR, reduceCtorEq, G, E, J, V, M, U, Tryd.st24, Tryd.td24, Tryd.td3, Tryd.td4, Mpr.av, Int.toNat_natCast]; (repeat refine And.intro (by first | omega | assumption | exact rfl) ?_); refine Y _ ?_; clear Y K0; simp only [put, app, a9, af, zE, zS, E])
 (refine ad rfl fun K0 Y => ?_; simp only [zE, op1, ev, lkp, ah, ag, ev, reduceCtorEq, G, E, J, V, M, U, Tryd.td4, Mpr.av, Int.toNat_natCast]; refine Y _ ?_; clear Y K0; simp only [put, app, a9, af, zE, zS, E])
 refine' aY (want := false) 3 rfl (m := 15) (by simp only [Z, lkp, zE, reduceCtorEq, G, a8, E]; exact rfl) (by kernel_rfl) rfl rfl rfl rfl rfl (fun hg5 => ?a5) ?b5 ?c5
 case a5 =>
  have hq5 := hg5; (try simp only [zB, reduceCtorEq] at hg5); simp only [List.take_succ_cons, List.take_zero, List.cons_append, List.nil_append]
  (refine ar rfl fun K0 Y => ?_; simp only [zE, op1, ev, lkp, ah, ag, am, reduceCtorEq, G, E, J, V, M, U, Tryd.st24, Tryd.td24, Mpr.av, Int.toNat_natCast]; (repeat refine And.intro (by first | omega | assumption | exact rfl) ?_); refine Y _ ?_; clear Y K0; simp only [put, app, a9, af, zE, zS, E])
  (refine ar rfl fun K0 Y => ?_; simp only [zE, op1, ev, lkp, ah, ag, ay, Nat.mul_one, aw, ax, acs, Ty.dflt, zG, aq, reduceCtorEq, G, E, J, V, M, U, Tryd.td3, Mpr.av, Int.toNat_natCast]; (repeat refine And.intro (by first | omega | assumption | exact rfl) ?_); refine Y _ ?_; clear Y K0; simp only [put, app, a9, af, zE, zS, E])
  (refine ar rfl fun K0 Y => ?_; simp only [zE, op1, ev, lkp, ah, ag, aC, aD, aE, ao, aB, aR, reduceCtorEq, G, E, J, V, M, U, Tryd.td3, Tryd.td4, Mpr.av, Int.toNat_natCast]; (repeat refine And.intro (by first | omega | assumption | exact rfl) ?_); refine Y _ ?_; clear Y K0; simp only [put, app, a9, af, zE, zS, E])
  (refine ad rfl fun K0 Y => ?_; simp only [zE, op1, ev, lkp, ah, ag, bt, reduceCtorEq, G, E, J, V, M, U, Tryd.td4, Mpr.av, Int.toNat_natCast]; refine Y _ ?_; clear Y K0; simp only [put, app, a9, af, zE, zS, E])
  refine ai ?_
  refine ⟨by simp only [Z, lkp, zE, reduceCtorEq, G, a8, E]; exact rfl, rfl, ?_, rfl⟩; (repeat refine aZ rfl ?_); exact bz (by exact rfl) hq5
 case b5 => exact bv (by first | rfl | (simp [bV]; done) | decide)
 simp only [bj, bg]
 (refine ad rfl fun K0 Y => ?_; simp only [zE, op1, ev, lkp, ah, ag, ev, reduceCtorEq, G, E, J, V, M, U, Tryd.td4, Mpr.av, Int.toNat_natCast]; refine Y _ ?_; clear Y K0; simp only [put, app, a9, af, zE, zS, E])
 refine' aY (want := false) 3 rfl (m := 20) (by simp only [Z, lkp, zE, reduceCtorEq, G, a8, E]; exact rfl) (by kernel_rfl) rfl rfl rfl rfl rfl (fun hg6 => ?a6) ?b6 ?c6
 case a6 =>
  have hq6 := hg6; (try simp only [zB, reduceCtorEq] at hg6); simp only [List.take_succ_cons, List.take_zero, List.cons_append, List.nil_append]
  (refine ar rfl fun K0 Y => ?_; simp only [zE, op1, ev, lkp, ah, ag, am, reduceCtorEq, G, E, J, V, M, U, Tryd.st24, Tryd.td1, Tryd.td24, Mpr.av, Int.toNat_natCast]; (repeat refine And.intro (by first | omega | assumption | exact rfl) ?_); refine Y _ ?_; clear Y K0; simp only [put, app, a9, af, zE, zS, E])
  (refine ar rfl fun K0 Y => ?_; simp only [zE, op1, ev, lkp, ah, ag, ay, Nat.mul_one, aw, ax, acs, Ty.dflt, zG, aq, reduceCtorEq, G, E, J, V, M, U, Tryd.td3, Mpr.av, Int.toNat_natCast]; (repeat refine And.intro (by first | omega | assumption | exact rfl) ?_); refine Y _ ?_; clear Y K0; simp only [put, app, a9, af, zE, zS, E])
  (refine ar rfl fun K0 Y => ?_; simp only [zE, op1, ev, lkp, ah, ag, aC, aD, aE, ao, aB, aR, reduceCtorEq, G, E, J, V, M, U, Tryd.td3, Tryd.td4, Mpr.av, Int.toNat_natCast]; (repeat refine And.intro (by first | omega | assumption | exact rfl) ?_); refine Y _ ?_; clear Y K0; simp only [put, app, a9, af, zE, zS, E])
  (refine ad rfl fun K0 Y => ?_; simp only [zE, op1, ev, lkp, ah, ag, bt, reduceCtorEq, G, E, J, V, M, U, Tryd.td4, Mpr.av, Int.toNat_natCast]; refine Y _ ?_; clear Y K0; simp only [put, app, a9, af, zE, zS, E])
  refine ai ?_
  refine ⟨by simp only [Z, lkp, zE, reduceCtorEq, G, a8, E]; exact rfl, rfl, ?_, rfl⟩; (repeat refine aZ rfl ?_); exact bz (by exact rfl) hq6
 case b6 => exact bv (by first | rfl | (simp [bV]; done) | decide)
 simp only [bj, bg]
 (refine ad rfl fun K0 Y => ?_; simp only [zE, op1, ev, lkp, ah, ag, ev, reduceCtorEq, G, E, J, V, M, U, Tryd.td4, Mpr.av, Int.toNat_natCast]; refine Y _ ?_; clear Y K0; simp only [put, app, a9, af, zE, zS, E])
 refine' aY (want := false) 3 rfl (m := 25) (by simp only [Z, lkp, zE, reduceCtorEq, G, a8, E]; exact rfl) (by kernel_rfl) rfl rfl rfl rfl rfl (fun hg7 => ?a7) ?b7 ?c7
 case a7 =>
  have hq7 := hg7; (try simp only [zB, reduceCtorEq] at hg7); simp only [List.take_succ_cons, List.take_zero, List.cons_append, List.nil_append]
  (refine ar rfl fun K0 Y => ?_; simp only [zE, op1, ev, lkp, ah, ag, am, reduceCtorEq, G, E, J, V, M, U, Tryd.st24, Tryd.td1, Tryd.td24, Mpr.av, Int.toNat_natCast]; (repeat refine And.intro (by first | omega | assumption | exact rfl) ?_); refine Y _ ?_; clear Y K0; simp only [put, app, a9, af, zE, zS, E])
  (refine ar rfl fun K0 Y => ?_; simp only [zE, op1, ev, lkp, ah, ag, ay, Nat.mul_one, aw, ax, acs, Ty.dflt, zG, aq, reduceCtorEq, G, E, J, V, M, U, Tryd.td3, Mpr.av, Int.toNat_natCast]; (repeat refine And.intro (by first | omega | assumption | exact rfl) ?_); refine Y _ ?_; clear Y K0; simp only [put, app, a9, af, zE, zS, E])
  (refine ar rfl fun K0 Y => ?_; simp only [zE, op1, ev, lkp, ah, ag, aC, aD, aE, ao, aB, aR, reduceCtorEq, G, E, J, V, M, U, Tryd.td3, Tryd.td4, Mpr.av, Int.toNat_natCast]; (repeat refine And.intro (by first | omega | assumption | exact rfl) ?_); refine Y _ ?_; clear Y K0; simp only [put, app, a9, af, zE, zS, E])
  (refine ad rfl fun K0 Y => ?_; simp only [zE, op1, ev, lkp, ah, ag, bt, reduceCtorEq, G, E, J, V, M, U, Tryd.td4, Mpr.av, Int.toNat_natCast]; refine Y _ ?_; clear Y K0; simp only [put, app, a9, af, zE, zS, E])
  refine ai ?_
  refine ⟨by simp only [Z, lkp, zE, reduceCtorEq, G, a8, E]; exact rfl, rfl, ?_, rfl⟩; (repeat refine aZ rfl ?_); exact bz (by exact rfl) hq7
 case b7 => exact bv (by first | rfl | (simp [bV]; done) | decide)
 simp only [bj, bg]
 (refine ad rfl fun K0 Y => ?_; simp only [zE, op1, ev, lkp, ah, ag, ev, reduceCtorEq, G, E, J, V, M, U, Tryd.td4, Mpr.av, Int.toNat_natCast]; refine Y _ ?_; clear Y K0; simp only [put, app, a9, af, zE, zS, E])
 refine ai ?_
 refine hK4 _ ?_; clear hK4; refine ae [0, 1, 2, 3, 11] ?_; simp only [Z, lkp, zE, reduceCtorEq, G, a8, E]
 refine aG (by simp only [ev, Z, lkp, zE, reduceCtorEq, G, a8, E]; exact rfl) (fun hc8 => ?_) (fun hc8 => ?_)
 ·(try simp only [zB, reduceCtorEq] at hc8)
  refine aa fun K9 hK9 => ?_
  refine aj hP hN rfl ?_
  (refine ad rfl fun K0 Y => ?_; simp only [zE, op1, ev, lkp, ah, ag, ev, reduceCtorEq, G, E, J, V, M, U, Tryd.td26, Mpr.av, Int.toNat_natCast]; refine Y _ ?_; clear Y K0; simp only [put, app, a9, af, zE, zS, E])
  refine ai ?_
  refine hK9 _ ?_; clear hK9; refine ae [0, 1, 2, 3, 11] ?_; simp only [Z, lkp, zE, reduceCtorEq, G, a8, E]
  refine aP ?_
  refine ⟨by first | exact .inl rfl | exact .inr rfl, _, rfl, ?_⟩; simp only [fzV, fz1, fzC, List.map_cons, List.map_nil, Z, lkp, zE, reduceCtorEq, G, a8, E, Mpr.av, Int.toNat_natCast]
  refine VLE.of_eq ?_
  refine congrArg (fun n => AV.one (AC.int IntKind.i64 n)) ?_
  unfold bQ
  symm
  first
  | (rw [if_pos (by omega)]; done)
  | (rw [if_neg (by omega), if_pos (by omega)]; done)
  | (rw [if_neg (by omega), if_neg (by omega), if_pos (by omega)]; done)
  | (rw [if_neg (by omega), if_neg (by omega), if_neg (by omega), if_pos (by omega)]; done)
  | (rw [if_neg (by omega), if_neg (by omega), if_neg (by omega), if_neg (by omega), if_pos (by omega)]; done)
  | (rw [if_neg (by omega), if_neg (by omega), if_neg (by omega), if_neg (by omega), if_neg (by omega)]
     first
     | (exact aX hrows (by omega) (by assumption))
     | exact (aX hrows (by omega) (by rw [cb hl9]; decide)).trans (cb hl9)
     | exact (aX hrows (by omega) (by rw [ca hl9 (by omega) hb9]; decide)).trans (ca hl9 (by omega) hb9)
     | exact bD fun i hi => hrows i (by omega))
 ·(try simp only [zB, reduceCtorEq] at hc8)
  refine aa fun K10 hK10 => ?_
  refine aj hP hN rfl ?_
  iterate 3 (refine ad rfl fun K0 Y => ?_; simp only [zE, op1, ev, lkp, ah, ag, aC, aD, aE, ao, aB, aR, reduceCtorEq, G, E, J, V, M, U, Tryd.td3, Tryd.td4, Mpr.av, Int.toNat_natCast]; (repeat refine And.intro (by first | omega | assumption | exact rfl) ?_); refine Y _ ?_; clear Y K0; simp only [put, app, a9, af, zE, zS, E])
  refine ai ?_
  refine hK10 _ ?_; clear hK10; refine ae [0, 1, 2, 3, 11, 30] ?_; simp only [Z, lkp, zE, reduceCtorEq, G, a8, E]
  refine aG (by simp only [ev, Z, lkp, zE, reduceCtorEq, G, a8, E]; exact rfl) (fun hc11 => ?_) (fun hc11 => ?_)
  ·(try simp only [zB, reduceCtorEq] at hc11)
   refine aa fun K12 hK12 => ?_
   refine aj hP hN rfl ?_
   (refine ad rfl fun K0 Y => ?_; simp only [zE, op1, ev, lkp, ah, ag, ev, reduceCtorEq, G, E, J, V, M, U, Tryd.td26, Mpr.av, Int.toNat_natCast]; refine Y _ ?_; clear Y K0; simp only [put, app, a9, af, zE, zS, E])
   refine ai ?_
   refine hK12 _ ?_; clear hK12; refine ae [0, 1, 2, 3, 11, 30] ?_; simp only [Z, lkp, zE, reduceCtorEq, G, a8, E]
   refine aP ?_
   refine ⟨by first | exact .inl rfl | exact .inr rfl, _, rfl, ?_⟩; simp only [fzV, fz1, fzC, List.map_cons, List.map_nil, Z, lkp, zE, reduceCtorEq, G, a8, E, Mpr.av, Int.toNat_natCast]
   refine VLE.of_eq ?_
   refine congrArg (fun n => AV.one (AC.int IntKind.i64 n)) ?_
   unfold bQ
   symm
   first
   | (rw [if_pos (by omega)]; done)
   | (rw [if_neg (by omega), if_pos (by omega)]; done)
   | (rw [if_neg (by omega), if_neg (by omega), if_pos (by omega)]; done)
   | (rw [if_neg (by omega), if_neg (by omega), if_neg (by omega), if_pos (by omega)]; done)
   | (rw [if_neg (by omega), if_neg (by omega), if_neg (by omega), if_neg (by omega), if_pos (by omega)]; done)
   | (rw [if_neg (by omega), if_neg (by omega), if_neg (by omega), if_neg (by omega), if_neg (by omega)]
      first
      | (exact aX hrows (by omega) (by assumption))
      | exact (aX hrows (by omega) (by rw [cb hl9]; decide)).trans (cb hl9)
      | exact (aX hrows (by omega) (by rw [ca hl9 (by omega) hb9]; decide)).trans (ca hl9 (by omega) hb9)
      | exact bD fun i hi => hrows i (by omega))
  ·(try simp only [zB, reduceCtorEq] at hc11)
   refine aa fun K13 hK13 => ?_
   refine aj hP hN rfl ?_
   iterate 3 (refine ad rfl fun K0 Y => ?_; simp only [zE, op1, ev, lkp, ah, ag, aC, aD, aE, ao, aB, aR, reduceCtorEq, G, E, J, V, M, U, Tryd.td3, Tryd.td4, Mpr.av, Int.toNat_natCast]; (repeat refine And.intro (by first | omega | assumption | exact rfl) ?_); refine Y _ ?_; clear Y K0; simp only [put, app, a9, af, zE, zS, E])
   refine ai ?_
   refine hK13 _ ?_; clear hK13; refine ae [0, 1, 2, 3, 11, 30, 33] ?_; simp only [Z, lkp, zE, reduceCtorEq, G, a8, E]
   refine aG (by simp only [ev, Z, lkp, zE, reduceCtorEq, G, a8, E]; exact rfl) (fun hc14 => ?_) (fun hc14 => ?_)
   ·(try simp only [zB, reduceCtorEq] at hc14)
    refine aa fun K15 hK15 => ?_
    refine aj hP hN rfl ?_
    (refine ad rfl fun K0 Y => ?_; simp only [zE, op1, ev, lkp, ah, ag, ev, reduceCtorEq, G, E, J, V, M, U, Tryd.td26, Mpr.av, Int.toNat_natCast]; refine Y _ ?_; clear Y K0; simp only [put, app, a9, af, zE, zS, E])
    refine ai ?_
    refine hK15 _ ?_; clear hK15; refine ae [0, 1, 2, 3, 11, 30, 33] ?_; simp only [Z, lkp, zE, reduceCtorEq, G, a8, E]
    refine aP ?_
    refine ⟨by first | exact .inl rfl | exact .inr rfl, _, rfl, ?_⟩; simp only [fzV, fz1, fzC, List.map_cons, List.map_nil, Z, lkp, zE, reduceCtorEq, G, a8, E, Mpr.av, Int.toNat_natCast]
    refine VLE.of_eq ?_
    refine congrArg (fun n => AV.one (AC.int IntKind.i64 n)) ?_
    unfold bQ
    symm
    first
    | (rw [if_pos (by omega)]; done)
    | (rw [if_neg (by omega), if_pos (by omega)]; done)
    | (rw [if_neg (by omega), if_neg (by omega), if_pos (by omega)]; done)
    | (rw [if_neg (by omega), if_neg (by omega), if_neg (by omega), if_pos (by omega)]; done)
    | (rw [if_neg (by omega), if_neg (by omega), if_neg (by omega), if_neg (by omega), if_pos (by omega)]; done)
    | (rw [if_neg (by omega), if_neg (by omega), if_neg (by omega), if_neg (by omega), if_neg (by omega)]
       first
       | (exact aX hrows (by omega) (by assumption))
       | exact (aX hrows (by omega) (by rw [cb hl9]; decide)).trans (cb hl9)
       | exact (aX hrows (by omega) (by rw [ca hl9 (by omega) hb9]; decide)).trans (ca hl9 (by omega) hb9)
       | exact bD fun i hi => hrows i (by omega))
   ·(try simp only [zB, reduceCtorEq] at hc14)
    refine aa fun K16 hK16 => ?_
    refine aj hP hN rfl ?_
    iterate 3 (refine ad rfl fun K0 Y => ?_; simp only [zE, op1, ev, lkp, ah, ag, am, ay, Nat.mul_one, aw, ax, acs, Ty.dflt, zG, aq, aC, aD, aE, ao, aB, aR, reduceCtorEq, G, E, J, V, M, U, Tryd.st24, Tryd.td2, Tryd.td24, Tryd.td3, Tryd.td4, Mpr.av, Int.toNat_natCast]; (repeat refine And.intro (by first | omega | assumption | exact rfl) ?_); refine Y _ ?_; clear Y K0; simp only [put, app, a9, af, zE, zS, E])
    (refine ad rfl fun K0 Y => ?_; simp only [zE, op1, ev, lkp, ah, ag, ev, reduceCtorEq, G, E, J, V, M, U, Tryd.td4, Mpr.av, Int.toNat_natCast]; refine Y _ ?_; clear Y K0; simp only [put, app, a9, af, zE, zS, E])
    refine' aY (want := false) 4 rfl (m := 40) (by simp only [Z, lkp, zE, reduceCtorEq, G, a8, E]; exact rfl) (by kernel_rfl) rfl rfl rfl rfl rfl (fun hg17 => ?a17) ?b17 ?c17
    case a17 =>
     have hq17 := hg17; (try simp only [zB, reduceCtorEq] at hg17); simp only [List.take_succ_cons, List.take_zero, List.cons_append, List.nil_append]
     (refine ar rfl fun K0 Y => ?_; simp only [zE, op1, ev, lkp, ah, ag, am, reduceCtorEq, G, E, J, V, M, U, Tryd.st24, Tryd.td2, Tryd.td24, Mpr.av, Int.toNat_natCast]; (repeat refine And.intro (by first | omega | assumption | exact rfl) ?_); refine Y _ ?_; clear Y K0; simp only [put, app, a9, af, zE, zS, E])
     (refine ar rfl fun K0 Y => ?_; simp only [zE, op1, ev, lkp, ah, ag, ay, Nat.mul_one, aw, ax, acs, Ty.dflt, zG, aq, reduceCtorEq, G, E, J, V, M, U, Tryd.td3, Mpr.av, Int.toNat_natCast]; (repeat refine And.intro (by first | omega | assumption | exact rfl) ?_); refine Y _ ?_; clear Y K0; simp only [put, app, a9, af, zE, zS, E])
     (refine ar rfl fun K0 Y => ?_; simp only [zE, op1, ev, lkp, ah, ag, ev, reduceCtorEq, G, E, J, V, M, U, Tryd.td3, Mpr.av, Int.toNat_natCast]; refine Y _ ?_; clear Y K0; simp only [put, app, a9, af, zE, zS, E])
     (refine ar rfl fun K0 Y => ?_; simp only [zE, op1, ev, lkp, ah, ag, aC, aD, aE, ao, aB, aR, reduceCtorEq, G, E, J, V, M, U, Tryd.td3, Tryd.td4, Mpr.av, Int.toNat_natCast]; (repeat refine And.intro (by first | omega | assumption | exact rfl) ?_); refine Y _ ?_; clear Y K0; simp only [put, app, a9, af, zE, zS, E])
     (refine ad rfl fun K0 Y => ?_; simp only [zE, op1, ev, lkp, ah, ag, bt, reduceCtorEq, G, E, J, V, M, U, Tryd.td4, Mpr.av, Int.toNat_natCast]; refine Y _ ?_; clear Y K0; simp only [put, app, a9, af, zE, zS, E])
     refine ai ?_
     refine ⟨by simp only [Z, lkp, zE, reduceCtorEq, G, a8, E]; exact rfl, rfl, ?_, rfl⟩; (repeat refine aZ rfl ?_); exact bz (by exact rfl) hq17
    case b17 => exact bv (by first | rfl | (simp [bV]; done) | decide)
    simp only [bj, bg]
    (refine ad rfl fun K0 Y => ?_; simp only [zE, op1, ev, lkp, ah, ag, ev, reduceCtorEq, G, E, J, V, M, U, Tryd.td4, Mpr.av, Int.toNat_natCast]; refine Y _ ?_; clear Y K0; simp only [put, app, a9, af, zE, zS, E])
    refine ai ?_
    refine hK16 _ ?_; clear hK16; refine ae [0, 1, 2, 3, 11, 30, 33, 36] ?_; simp only [Z, lkp, zE, reduceCtorEq, G, a8, E]
    refine aG (by simp only [ev, Z, lkp, zE, reduceCtorEq, G, a8, E]; exact rfl) (fun hc18 => ?_) (fun hc18 => ?_)
    ·(try simp only [zB, reduceCtorEq] at hc18)
     refine aa fun K19 hK19 => ?_
     refine aj hP hN rfl ?_
     (refine ad rfl fun K0 Y => ?_; simp only [zE, op1, ev, lkp, ah, ag, ev, reduceCtorEq, G, E, J, V, M, U, Tryd.td26, Mpr.av, Int.toNat_natCast]; refine Y _ ?_; clear Y K0; simp only [put, app, a9, af, zE, zS, E])
     refine ai ?_
     refine hK19 _ ?_; clear hK19; refine ae [0, 1, 2, 3, 11, 30, 33, 36] ?_; simp only [Z, lkp, zE, reduceCtorEq, G, a8, E]
     refine aP ?_
     refine ⟨by first | exact .inl rfl | exact .inr rfl, _, rfl, ?_⟩; simp only [fzV, fz1, fzC, List.map_cons, List.map_nil, Z, lkp, zE, reduceCtorEq, G, a8, E, Mpr.av, Int.toNat_natCast]
     refine VLE.of_eq ?_
     refine congrArg (fun n => AV.one (AC.int IntKind.i64 n)) ?_
     unfold bQ
     symm
     first
     | (rw [if_pos (by omega)]; done)
     | (rw [if_neg (by omega), if_pos (by omega)]; done)
     | (rw [if_neg (by omega), if_neg (by omega), if_pos (by omega)]; done)
     | (rw [if_neg (by omega), if_neg (by omega), if_neg (by omega), if_pos (by omega)]; done)
     | (rw [if_neg (by omega), if_neg (by omega), if_neg (by omega), if_neg (by omega), if_pos (by omega)]; done)
     | (rw [if_neg (by omega), if_neg (by omega), if_neg (by omega), if_neg (by omega), if_neg (by omega)]
        first
        | (exact aX hrows (by omega) (by assumption))
        | exact (aX hrows (by omega) (by rw [cb hl9]; decide)).trans (cb hl9)
        | exact (aX hrows (by omega) (by rw [ca hl9 (by omega) hb9]; decide)).trans (ca hl9 (by omega) hb9)
        | exact bD fun i hi => hrows i (by omega))
    ·(try simp only [zB, reduceCtorEq] at hc18)
     refine aa fun K20 hK20 => ?_
     refine aj hP hN rfl ?_
     iterate 6 (refine ad rfl fun K0 Y => ?_; simp only [zE, op1, ev, lkp, ah, ag, am, ay, Nat.mul_one, aw, ax, acs, Ty.dflt, zG, aq, aF, bu, bh, ba, bb, bq, Nat.div_one, aK, bf, Ty.size, aL, dite_true, aC, aD, aE, ao, aB, aR, reduceCtorEq, G, E, J, V, M, U, Tryd.el22, Tryd.st24, Tryd.td22, Tryd.td24, Tryd.td3, Tryd.td4, Mpr.av, Int.toNat_natCast]; (repeat refine And.intro (by first | omega | assumption | exact rfl) ?_); (first | refine Y _ ?_ | refine Or.inl (Y _ ?_)); clear Y K0; simp only [put, app, a9, af, zE, zS, E])
     refine ai ?_
     refine hK20 _ ?_; clear hK20; refine ae [0, 1, 2, 3, 11, 30, 33, 36, 46] ?_; simp only [Z, lkp, zE, reduceCtorEq, G, a8, E]
     refine aG (by simp only [ev, Z, lkp, zE, reduceCtorEq, G, a8, E]; exact rfl) (fun hc21 => ?_) (fun hc21 => ?_)
     ·(try simp only [zB, reduceCtorEq] at hc21)
      refine aa fun K22 hK22 => ?_
      refine aj hP hN rfl ?_
      (refine ad rfl fun K0 Y => ?_; simp only [zE, op1, ev, lkp, ah, ag, ev, reduceCtorEq, G, E, J, V, M, U, Tryd.td26, Mpr.av, Int.toNat_natCast]; refine Y _ ?_; clear Y K0; simp only [put, app, a9, af, zE, zS, E])
      refine ai ?_
      refine hK22 _ ?_; clear hK22; refine ae [0, 1, 2, 3, 11, 30, 33, 36, 46] ?_; simp only [Z, lkp, zE, reduceCtorEq, G, a8, E]
      refine aP ?_
      refine ⟨by first | exact .inl rfl | exact .inr rfl, _, rfl, ?_⟩; simp only [fzV, fz1, fzC, List.map_cons, List.map_nil, Z, lkp, zE, reduceCtorEq, G, a8, E, Mpr.av, Int.toNat_natCast]
      refine VLE.of_eq ?_
      refine congrArg (fun n => AV.one (AC.int IntKind.i64 n)) ?_
      unfold bQ
      symm
      first
      | (rw [if_pos (by omega)]; done)
      | (rw [if_neg (by omega), if_pos (by omega)]; done)
      | (rw [if_neg (by omega), if_neg (by omega), if_pos (by omega)]; done)
      | (rw [if_neg (by omega), if_neg (by omega), if_neg (by omega), if_pos (by omega)]; done)
      | (rw [if_neg (by omega), if_neg (by omega), if_neg (by omega), if_neg (by omega), if_pos (by omega)]; done)
      | (rw [if_neg (by omega), if_neg (by omega), if_neg (by omega), if_neg (by omega), if_neg (by omega)]
         first
         | (exact aX hrows (by omega) (by assumption))
         | exact (aX hrows (by omega) (by rw [cb hl9]; decide)).trans (cb hl9)
         | exact (aX hrows (by omega) (by rw [ca hl9 (by omega) hb9]; decide)).trans (ca hl9 (by omega) hb9)
         | exact bD fun i hi => hrows i (by omega))
     ·(try simp only [zB, reduceCtorEq] at hc21)
      refine aJ ?_
      refine hK3 _ ?_; clear hK3; refine ae [0, 1, 2, 3, 11, 30, 33, 36, 46] ?_; simp only [Z, lkp, zE, reduceCtorEq, G, a8, E]
      refine aa fun K23 hK23 => ?_
      refine aa fun K24 hK24 => ?_
      refine aj hP hN rfl ?_
      iterate 2 (refine ad rfl fun K0 Y => ?_; simp only [zE, op1, ev, lkp, ah, ag, ev, reduceCtorEq, G, E, J, V, M, U, Tryd.td3, Mpr.av, Int.toNat_natCast]; refine Y _ ?_; clear Y K0; simp only [put, app, a9, af, zE, zS, E])
      refine ai ?_
      refine hK24 _ ?_; clear hK24; refine ae [0, 1, 2, 3, 11, 30, 33, 36, 46, 52, 53] ?_; simp only [Z, lkp, zE, reduceCtorEq, G, a8, E]
      refine aW ?_
      refine bM (fun n25 s25 => ∃ (k : Nat), (k ≤ p.nx.length) ∧ (∀ i, i < k → fA p i = 0) ∧ n25 = p.nx.length - k ∧ s25 = { env := [(1, .one (.ptr 0 0 0 0)), (2, .one (.int .i64 0)), (3, .one (.int .i64 (p.nx.length : Int))), (52, .one (.int .i64 (p.nx.length : Int))), (53, .one (.int .i64 (k : Int)))], L := [.vars 24 [.int .i64 p.inp, .int .i64 p.ab, .int .i64 p.st, .list (.list (.int .i64)) p.nx, .list (.list (.int .i64)) p.sy]] }) ?_ ?_
      ·exact ⟨_, _, aS [1, 2, 3, 52, 53], 0, Nat.zero_le _, fun i hi => by omega, rfl, rfl⟩
      ·rintro n25 s25 ⟨k, hk, hrows, rfl, rfl⟩
       refine aa fun K26 hK26 => ?_
       refine aj hP hN rfl ?_
       (refine ad rfl fun K0 Y => ?_; simp only [zE, op1, ev, lkp, ah, ag, aC, aD, aE, ao, aB, aR, reduceCtorEq, G, E, J, V, M, U, Tryd.td3, Tryd.td4, Mpr.av, Int.toNat_natCast]; (repeat refine And.intro (by first | omega | assumption | exact rfl) ?_); refine Y _ ?_; clear Y K0; simp only [put, app, a9, af, zE, zS, E])
       refine ai ?_
       refine hK26 _ ?_; clear hK26; refine ae [1, 2, 3, 52, 53, 54] ?_; simp only [Z, lkp, zE, reduceCtorEq, G, a8, E]
       refine aa fun K27 hK27 => ?_
       refine aG (by simp only [ev, Z, lkp, zE, reduceCtorEq, G, a8, E]; exact rfl) (fun hc28 => ?_) (fun hc28 => ?_)
       ·(try simp only [zB, reduceCtorEq] at hc28)
        refine aJ ?_
        refine hK27 _ ?_; clear hK27; refine ae [1, 2, 3, 52, 53, 54] ?_; simp only [Z, lkp, zE, reduceCtorEq, G, a8, E]
        refine aa fun K29 hK29 => ?_
        refine aW ?_
        refine aa fun K30 hK30 => ?_
        refine aj hP hN rfl ?_
        iterate 2 (refine ad rfl fun K0 Y => ?_; simp only [zE, op1, ev, lkp, ah, ag, ev, reduceCtorEq, G, E, J, V, M, U, Tryd.td3, Mpr.av, Int.toNat_natCast]; refine Y _ ?_; clear Y K0; simp only [put, app, a9, af, zE, zS, E])
        refine ai ?_
        refine hK30 _ ?_; clear hK30; refine ae [1, 2, 3, 4, 52, 53, 54] ?_; simp only [Z, lkp, zE, reduceCtorEq, G, a8, E]
        refine aa fun K31 hK31 => ?_
        refine aa fun K32 hK32 => ?_
        refine bW hP hN Tryd.mixed rfl ?_
        iterate 9 (refine ad rfl fun K0 Y => ?_; simp only [zE, op1, ev, lkp, ah, ag, am, ay, Nat.mul_one, aw, ax, acs, Ty.dflt, zG, aq, aI, Ty.size, ne_eq, not_false_eq_true, Int.natCast_one, Int.mul_one, aF, bu, bh, ba, bb, bq, Nat.div_one, aK, bf, aL, dite_true, aC, aD, aE, ao, aB, aR, reduceCtorEq, G, E, J, V, M, U, Tryd.el22, Tryd.el25, Tryd.st24, Tryd.td22, Tryd.td24, Tryd.td25, Tryd.td3, Tryd.td4, Mpr.av, Int.toNat_natCast]; (repeat refine And.intro (by first | omega | assumption | exact rfl) ?_); (first | refine Y _ ?_ | refine Or.inl (Y _ ?_)); clear Y K0; simp only [put, app, a9, af, zE, zS, E])
        (refine ad rfl fun K0 Y => ?_; simp only [zE, op1, ev, lkp, ah, ag, ev, reduceCtorEq, G, E, J, V, M, U, Tryd.td4, Mpr.av, Int.toNat_natCast]; refine Y _ ?_; clear Y K0; simp only [put, app, a9, af, zE, zS, E])
        refine' aY (want := false) 9 rfl (m := 65) (by simp only [Z, lkp, zE, reduceCtorEq, G, a8, E]; exact rfl) (by kernel_rfl) rfl rfl rfl rfl rfl (fun hg33 => ?a33) ?b33 ?c33
        case a33 =>
         have hq33 := hg33; (try simp only [zB, reduceCtorEq] at hg33); simp only [List.take_succ_cons, List.take_zero, List.cons_append, List.nil_append]
         (refine ar rfl fun K0 Y => ?_; simp only [zE, op1, ev, lkp, ah, ag, am, reduceCtorEq, G, E, J, V, M, U, Tryd.st24, Tryd.td24, Tryd.td4, Mpr.av, Int.toNat_natCast]; (repeat refine And.intro (by first | omega | assumption | exact rfl) ?_); refine Y _ ?_; clear Y K0; simp only [put, app, a9, af, zE, zS, E])
         (refine ar rfl fun K0 Y => ?_; simp only [zE, op1, ev, lkp, ah, ag, ay, Nat.mul_one, aw, ax, acs, Ty.dflt, zG, aq, reduceCtorEq, G, E, J, V, M, U, Tryd.el22, Tryd.td22, Mpr.av, Int.toNat_natCast]; (repeat refine And.intro (by first | omega | assumption | exact rfl) ?_); refine Y _ ?_; clear Y K0; simp only [put, app, a9, af, zE, zS, E])
         (refine ar rfl fun K0 Y => ?_; simp only [zE, op1, ev, lkp, ah, ag, ev, reduceCtorEq, G, E, J, V, M, U, Tryd.td3, Mpr.av, Int.toNat_natCast]; refine Y _ ?_; clear Y K0; simp only [put, app, a9, af, zE, zS, E])
         (refine ar rfl fun K0 Y => ?_; simp only [zE, op1, ev, lkp, ah, ag, aI, zG, Ty.dflt, Ty.size, Nat.mul_one, ne_eq, not_false_eq_true, Int.natCast_one, Int.mul_one, reduceCtorEq, G, E, J, V, M, U, Tryd.el22, Tryd.td22, Mpr.av, Int.toNat_natCast]; (repeat refine And.intro (by first | omega | assumption | exact rfl) ?_); refine Y _ ?_; clear Y K0; simp only [put, app, a9, af, zE, zS, E])
         (refine ar rfl fun K0 Y => ?_; simp only [zE, op1, ev, lkp, ah, ag, ay, Nat.mul_one, aw, ax, acs, Ty.dflt, zG, aq, reduceCtorEq, G, E, J, V, M, U, Tryd.el25, Tryd.td25, Mpr.av, Int.toNat_natCast]; (repeat refine And.intro (by first | omega | assumption | exact rfl) ?_); refine Y _ ?_; clear Y K0; simp only [put, app, a9, af, zE, zS, E])
         (refine ar rfl fun K0 Y => ?_; simp only [zE, op1, ev, lkp, ah, ag, aF, bu, bh, ba, bb, bq, Nat.div_one, aK, bf, Ty.size, aL, dite_true, reduceCtorEq, G, E, J, V, M, U, Tryd.el25, Tryd.td25, Tryd.td3, Mpr.av, Int.toNat_natCast]; (repeat refine And.intro (by first | omega | assumption | exact rfl) ?_); (first | refine Y _ ?_ | refine Or.inl (Y _ ?_)); clear Y K0; simp only [put, app, a9, af, zE, zS, E])
         (refine ar rfl fun K0 Y => ?_; simp only [zE, op1, ev, lkp, ah, ag, am, reduceCtorEq, G, E, J, V, M, U, Tryd.st24, Tryd.td24, Mpr.av, Int.toNat_natCast]; (repeat refine And.intro (by first | omega | assumption | exact rfl) ?_); refine Y _ ?_; clear Y K0; simp only [put, app, a9, af, zE, zS, E])
         (refine ar rfl fun K0 Y => ?_; simp only [zE, op1, ev, lkp, ah, ag, ay, Nat.mul_one, aw, ax, acs, Ty.dflt, zG, aq, reduceCtorEq, G, E, J, V, M, U, Tryd.td3, Mpr.av, Int.toNat_natCast]; (repeat refine And.intro (by first | omega | assumption | exact rfl) ?_); refine Y _ ?_; clear Y K0; simp only [put, app, a9, af, zE, zS, E])
         (refine ar rfl fun K0 Y => ?_; simp only [zE, op1, ev, lkp, ah, ag, aC, aD, aE, ao, aB, aR, reduceCtorEq, G, E, J, V, M, U, Tryd.td3, Tryd.td4, Mpr.av, Int.toNat_natCast]; (repeat refine And.intro (by first | omega | assumption | exact rfl) ?_); refine Y _ ?_; clear Y K0; simp only [put, app, a9, af, zE, zS, E])
         (refine ad rfl fun K0 Y => ?_; simp only [zE, op1, ev, lkp, ah, ag, bt, reduceCtorEq, G, E, J, V, M, U, Tryd.td4, Mpr.av, Int.toNat_natCast]; refine Y _ ?_; clear Y K0; simp only [put, app, a9, af, zE, zS, E])
         refine ai ?_
         refine ⟨by simp only [Z, lkp, zE, reduceCtorEq, G, a8, E]; exact rfl, rfl, ?_, rfl⟩; (repeat refine aZ rfl ?_); exact bz (by exact rfl) hq33
        case b33 => exact bv (by first | rfl | (simp [bV]; done) | decide)
        simp only [bj, bg]
        refine ai ?_
        refine ⟨by kernel_rfl, ?_⟩
        refine hK32 _ ?_; clear hK32; refine ae [1, 2, 3, 4, 52, 53, 54, 75] ?_; simp only [Z, lkp, zE, reduceCtorEq, G, a8, E]
        refine aG (by simp only [ev, Z, lkp, zE, reduceCtorEq, G, a8, E]; exact rfl) (fun hc34 => ?_) (fun hc34 => ?_)
        ·(try simp only [zB, reduceCtorEq] at hc34)
         have hl9 : ¬ ((p.nx.getD k []).length : Int) = p.inp ∨ ¬ ((p.sy.getD k []).length : Int) = p.inp := by omega
         refine aa fun K35 hK35 => ?_
         refine aj hP hN rfl ?_
         (refine ad rfl fun K0 Y => ?_; simp only [zE, op1, ev, lkp, ah, ag, ev, reduceCtorEq, G, E, J, V, M, U, Tryd.td26, Mpr.av, Int.toNat_natCast]; refine Y _ ?_; clear Y K0; simp only [put, app, a9, af, zE, zS, E])
         refine ai ?_
         refine hK35 _ ?_; clear hK35; refine ae [1, 2, 3, 4, 52, 53, 54, 75] ?_; simp only [Z, lkp, zE, reduceCtorEq, G, a8, E]
         refine aP ?_
         refine ⟨by first | exact .inl rfl | exact .inr rfl, _, rfl, ?_⟩; simp only [fzV, fz1, fzC, List.map_cons, List.map_nil, Z, lkp, zE, reduceCtorEq, G, a8, E, Mpr.av, Int.toNat_natCast]
         refine VLE.of_eq ?_
         refine congrArg (fun n => AV.one (AC.int IntKind.i64 n)) ?_
         unfold bQ
         symm
         first
         | (rw [if_pos (by omega)]; done)
         | (rw [if_neg (by omega), if_pos (by omega)]; done)
         | (rw [if_neg (by omega), if_neg (by omega), if_pos (by omega)]; done)
         | (rw [if_neg (by omega), if_neg (by omega), if_neg (by omega), if_pos (by omega)]; done)
         | (rw [if_neg (by omega), if_neg (by omega), if_neg (by omega), if_neg (by omega), if_pos (by omega)]; done)
         | (rw [if_neg (by omega), if_neg (by omega), if_neg (by omega), if_neg (by omega), if_neg (by omega)]
            first
            | (exact aX hrows (by omega) (by assumption))
            | exact (aX hrows (by omega) (by rw [cb hl9]; decide)).trans (cb hl9)
            | exact (aX hrows (by omega) (by rw [ca hl9 (by omega) hb9]; decide)).trans (ca hl9 (by omega) hb9)
            | exact bD fun i hi => hrows i (by omega))
        ·(try simp only [zB, reduceCtorEq] at hc34)
         have hl9 : ((p.nx.getD k []).length : Int) = p.inp ∧ ((p.sy.getD k []).length : Int) = p.inp := by omega
         refine aJ ?_
         refine hK31 _ ?_; clear hK31; refine ae [1, 2, 3, 4, 52, 53, 54, 75] ?_; simp only [Z, lkp, zE, reduceCtorEq, G, a8, E]
         refine aa fun K36 hK36 => ?_
         refine aj hP hN rfl ?_
         iterate 3 (refine ad rfl fun K0 Y => ?_; simp only [zE, op1, ev, lkp, ah, ag, am, ay, Nat.mul_one, aw, ax, acs, Ty.dflt, zG, aq, reduceCtorEq, G, E, J, V, M, U, Tryd.st24, Tryd.td24, Tryd.td3, Mpr.av, Int.toNat_natCast]; (repeat refine And.intro (by first | omega | assumption | exact rfl) ?_); refine Y _ ?_; clear Y K0; simp only [put, app, a9, af, zE, zS, E])
         refine ai ?_
         refine hK36 _ ?_; clear hK36; refine ae [1, 2, 3, 4, 52, 53, 54, 75, 77, 78] ?_; simp only [Z, lkp, zE, reduceCtorEq, G, a8, E]
         refine aW ?_
         refine bM (fun n37 s37 => ∃ (c : Nat), ((c : Int) ≤ p.inp) ∧ (∀ q, q < c → ¬ p.bad k q) ∧ n37 = p.inp.toNat - c ∧ s37 = { env := [(1, .one (.ptr 0 0 0 0)), (2, .one (.int .i64 0)), (3, .one (.int .i64 (p.nx.length : Int))), (4, .one (.int .i64 (k : Int))), (52, .one (.int .i64 (p.nx.length : Int))), (53, .one (.int .i64 (k : Int))), (77, .one (.int .i64 p.inp)), (78, .one (.int .i64 (c : Int)))], L := [.vars 24 [.int .i64 p.inp, .int .i64 p.ab, .int .i64 p.st, .list (.list (.int .i64)) p.nx, .list (.list (.int .i64)) p.sy]] }) ?_ ?_
         ·exact ⟨_, _, aS [1, 2, 3, 4, 52, 53, 77, 78], 0, by omega, fun q hq => by omega, rfl, rfl⟩
         ·rintro n37 s37 ⟨c, hc, hq, rfl, rfl⟩
          refine aa fun K38 hK38 => ?_
          refine aj hP hN rfl ?_
          (refine ad rfl fun K0 Y => ?_; simp only [zE, op1, ev, lkp, ah, ag, aC, aD, aE, ao, aB, aR, reduceCtorEq, G, E, J, V, M, U, Tryd.td3, Tryd.td4, Mpr.av, Int.toNat_natCast]; (repeat refine And.intro (by first | omega | assumption | exact rfl) ?_); refine Y _ ?_; clear Y K0; simp only [put, app, a9, af, zE, zS, E])
          refine ai ?_
          refine hK38 _ ?_; clear hK38; refine ae [1, 2, 3, 4, 52, 53, 77, 78, 79] ?_; simp only [Z, lkp, zE, reduceCtorEq, G, a8, E]
          refine aa fun K39 hK39 => ?_
          refine aG (by simp only [ev, Z, lkp, zE, reduceCtorEq, G, a8, E]; exact rfl) (fun hc40 => ?_) (fun hc40 => ?_)
          ·(try simp only [zB, reduceCtorEq] at hc40)
           refine aJ ?_
           refine hK39 _ ?_; clear hK39; refine ae [1, 2, 3, 4, 52, 53, 77, 78, 79] ?_; simp only [Z, lkp, zE, reduceCtorEq, G, a8, E]
           refine aa fun K41 hK41 => ?_
           refine aW ?_
           refine aa fun K42 hK42 => ?_
           refine aj hP hN rfl ?_
           iterate 2 (refine ad rfl fun K0 Y => ?_; simp only [zE, op1, ev, lkp, ah, ag, ev, reduceCtorEq, G, E, J, V, M, U, Tryd.td3, Mpr.av, Int.toNat_natCast]; refine Y _ ?_; clear Y K0; simp only [put, app, a9, af, zE, zS, E])
           refine ai ?_
           refine hK42 _ ?_; clear hK42; refine ae [1, 2, 3, 4, 5, 52, 53, 77, 78, 79] ?_; simp only [Z, lkp, zE, reduceCtorEq, G, a8, E]
           refine aa fun K43 hK43 => ?_
           refine bW hP hN Tryd.mixed rfl ?_
           iterate 18 (refine ad rfl fun K0 Y => ?_; simp only [zE, op1, ev, lkp, ah, ag, am, ay, Nat.mul_one, aw, ax, acs, Ty.dflt, zG, aq, aI, Ty.size, ne_eq, not_false_eq_true, Int.natCast_one, Int.mul_one, reduceCtorEq, G, E, J, V, M, U, Tryd.el22, Tryd.el25, Tryd.st24, Tryd.td22, Tryd.td24, Tryd.td25, Tryd.td3, Tryd.td4, Mpr.av, Int.toNat_natCast]; (repeat refine And.intro (by first | omega | assumption | exact rfl) ?_); refine Y _ ?_; clear Y K0; simp only [put, app, a9, af, zE, zS, E])
           refine ai ?_
           refine ⟨by kernel_rfl, ?_⟩
           refine hK43 _ ?_; clear hK43; refine ae [1, 2, 3, 4, 5, 6, 7, 52, 53, 77, 78, 79] ?_; simp only [Z, lkp, zE, reduceCtorEq, G, a8, E]
           refine aa fun K44 hK44 => ?_
           refine aj hP hN rfl ?_
           iterate 2 (refine ad rfl fun K0 Y => ?_; simp only [zE, op1, ev, lkp, ah, ag, aC, aD, aE, ao, aB, aR, reduceCtorEq, G, E, J, V, M, U, Tryd.td3, Tryd.td4, Mpr.av, Int.toNat_natCast]; (repeat refine And.intro (by first | omega | assumption | exact rfl) ?_); refine Y _ ?_; clear Y K0; simp only [put, app, a9, af, zE, zS, E])
           (refine ad rfl fun K0 Y => ?_; simp only [zE, op1, ev, lkp, ah, ag, ev, reduceCtorEq, G, E, J, V, M, U, Tryd.td4, Mpr.av, Int.toNat_natCast]; refine Y _ ?_; clear Y K0; simp only [put, app, a9, af, zE, zS, E])
           refine' aY (want := false) 3 rfl (m := 99) (by simp only [Z, lkp, zE, reduceCtorEq, G, a8, E]; exact rfl) (by kernel_rfl) rfl rfl rfl rfl rfl (fun hg45 => ?a45) ?b45 ?c45
           case a45 =>
            have hq45 := hg45; (try simp only [zB, reduceCtorEq] at hg45); simp only [List.take_succ_cons, List.take_zero, List.cons_append, List.nil_append]
            (refine ar rfl fun K0 Y => ?_; simp only [zE, op1, ev, lkp, ah, ag, ev, reduceCtorEq, G, E, J, V, M, U, Tryd.td3, Mpr.av, Int.toNat_natCast]; refine Y _ ?_; clear Y K0; simp only [put, app, a9, af, zE, zS, E])
            (refine ar rfl fun K0 Y => ?_; simp only [zE, op1, ev, lkp, ah, ag, ev, reduceCtorEq, G, E, J, V, M, U, Tryd.td3, Mpr.av, Int.toNat_natCast]; refine Y _ ?_; clear Y K0; simp only [put, app, a9, af, zE, zS, E])
            (refine ar rfl fun K0 Y => ?_; simp only [zE, op1, ev, lkp, ah, ag, aC, aD, aE, ao, aB, aR, reduceCtorEq, G, E, J, V, M, U, Tryd.td3, Tryd.td4, Mpr.av, Int.toNat_natCast]; (repeat refine And.intro (by first | omega | assumption | exact rfl) ?_); refine Y _ ?_; clear Y K0; simp only [put, app, a9, af, zE, zS, E])
            (refine ad rfl fun K0 Y => ?_; simp only [zE, op1, ev, lkp, ah, ag, bt, reduceCtorEq, G, E, J, V, M, U, Tryd.td4, Mpr.av, Int.toNat_natCast]; refine Y _ ?_; clear Y K0; simp only [put, app, a9, af, zE, zS, E])
            refine ai ?_
            refine ⟨by simp only [Z, lkp, zE, reduceCtorEq, G, a8, E]; exact rfl, rfl, ?_, rfl⟩; (repeat refine aZ rfl ?_); exact bz (by exact rfl) hq45
           case b45 => exact bv (by first | rfl | (simp [bV]; done) | decide)
           simp only [bj, bg]
           (refine ad rfl fun K0 Y => ?_; simp only [zE, op1, ev, lkp, ah, ag, ev, reduceCtorEq, G, E, J, V, M, U, Tryd.td4, Mpr.av, Int.toNat_natCast]; refine Y _ ?_; clear Y K0; simp only [put, app, a9, af, zE, zS, E])
           refine' aY (want := false) 2 rfl (m := 104) (by simp only [Z, lkp, zE, reduceCtorEq, G, a8, E]; exact rfl) (by kernel_rfl) rfl rfl rfl rfl rfl (fun hg46 => ?a46) ?b46 ?c46
           case a46 =>
            have hq46 := hg46; (try simp only [zB, reduceCtorEq] at hg46); simp only [List.take_succ_cons, List.take_zero, List.cons_append, List.nil_append]
            (refine ar rfl fun K0 Y => ?_; simp only [zE, op1, ev, lkp, ah, ag, ev, reduceCtorEq, G, E, J, V, M, U, Tryd.td3, Mpr.av, Int.toNat_natCast]; refine Y _ ?_; clear Y K0; simp only [put, app, a9, af, zE, zS, E])
            (refine ar rfl fun K0 Y => ?_; simp only [zE, op1, ev, lkp, ah, ag, aC, aD, aE, ao, aB, aR, reduceCtorEq, G, E, J, V, M, U, Tryd.td3, Tryd.td4, Mpr.av, Int.toNat_natCast]; (repeat refine And.intro (by first | omega | assumption | exact rfl) ?_); refine Y _ ?_; clear Y K0; simp only [put, app, a9, af, zE, zS, E])
            (refine ad rfl fun K0 Y => ?_; simp only [zE, op1, ev, lkp, ah, ag, bt, reduceCtorEq, G, E, J, V, M, U, Tryd.td4, Mpr.av, Int.toNat_natCast]; refine Y _ ?_; clear Y K0; simp only [put, app, a9, af, zE, zS, E])
            refine ai ?_
            refine ⟨by simp only [Z, lkp, zE, reduceCtorEq, G, a8, E]; exact rfl, rfl, ?_, rfl⟩; (repeat refine aZ rfl ?_); exact bz (by exact rfl) hq46
           case b46 => exact bv (by first | rfl | (simp [bV]; done) | decide)
           simp only [bj, bg]
           (refine ad rfl fun K0 Y => ?_; simp only [zE, op1, ev, lkp, ah, ag, ev, reduceCtorEq, G, E, J, V, M, U, Tryd.td4, Mpr.av, Int.toNat_natCast]; refine Y _ ?_; clear Y K0; simp only [put, app, a9, af, zE, zS, E])
           refine' aY (want := false) 4 rfl (m := 108) (by simp only [Z, lkp, zE, reduceCtorEq, G, a8, E]; exact rfl) (by kernel_rfl) rfl rfl rfl rfl rfl (fun hg47 => ?a47) ?b47 ?c47
           case a47 =>
            have hq47 := hg47; (try simp only [zB, reduceCtorEq] at hg47); simp only [List.take_succ_cons, List.take_zero, List.cons_append, List.nil_append]
            (refine ar rfl fun K0 Y => ?_; simp only [zE, op1, ev, lkp, ah, ag, ev, reduceCtorEq, G, E, J, V, M, U, Tryd.td3, Mpr.av, Int.toNat_natCast]; refine Y _ ?_; clear Y K0; simp only [put, app, a9, af, zE, zS, E])
            (refine ar rfl fun K0 Y => ?_; simp only [zE, op1, ev, lkp, ah, ag, am, reduceCtorEq, G, E, J, V, M, U, Tryd.st24, Tryd.td1, Tryd.td24, Mpr.av, Int.toNat_natCast]; (repeat refine And.intro (by first | omega | assumption | exact rfl) ?_); refine Y _ ?_; clear Y K0; simp only [put, app, a9, af, zE, zS, E])
            (refine ar rfl fun K0 Y => ?_; simp only [zE, op1, ev, lkp, ah, ag, ay, Nat.mul_one, aw, ax, acs, Ty.dflt, zG, aq, reduceCtorEq, G, E, J, V, M, U, Tryd.td3, Mpr.av, Int.toNat_natCast]; (repeat refine And.intro (by first | omega | assumption | exact rfl) ?_); refine Y _ ?_; clear Y K0; simp only [put, app, a9, af, zE, zS, E])
            (refine ar rfl fun K0 Y => ?_; simp only [zE, op1, ev, lkp, ah, ag, aC, aD, aE, ao, aB, aR, reduceCtorEq, G, E, J, V, M, U, Tryd.td3, Tryd.td4, Mpr.av, Int.toNat_natCast]; (repeat refine And.intro (by first | omega | assumption | exact rfl) ?_); refine Y _ ?_; clear Y K0; simp only [put, app, a9, af, zE, zS, E])
            (refine ad rfl fun K0 Y => ?_; simp only [zE, op1, ev, lkp, ah, ag, bt, reduceCtorEq, G, E, J, V, M, U, Tryd.td4, Mpr.av, Int.toNat_natCast]; refine Y _ ?_; clear Y K0; simp only [put, app, a9, af, zE, zS, E])
            refine ai ?_
            refine ⟨by simp only [Z, lkp, zE, reduceCtorEq, G, a8, E]; exact rfl, rfl, ?_, rfl⟩; (repeat refine aZ rfl ?_); exact bz (by exact rfl) hq47
           case b47 => exact bv (by first | rfl | (simp [bV]; done) | decide)
           simp only [bj, bg]
           refine ai ?_
           refine hK44 _ ?_; clear hK44; refine ae [1, 2, 3, 4, 5, 6, 7, 52, 53, 77, 78, 79, 113] ?_; simp only [Z, lkp, zE, reduceCtorEq, G, a8, E]
           refine aG (by simp only [ev, Z, lkp, zE, reduceCtorEq, G, a8, E]; exact rfl) (fun hc48 => ?_) (fun hc48 => ?_)
           ·(try simp only [zB, reduceCtorEq] at hc48)
            have hb9 : p.bad k c := by unfold Mpr.bad; omega
            refine aa fun K49 hK49 => ?_
            refine aj hP hN rfl ?_
            (refine ad rfl fun K0 Y => ?_; simp only [zE, op1, ev, lkp, ah, ag, ev, reduceCtorEq, G, E, J, V, M, U, Tryd.td26, Mpr.av, Int.toNat_natCast]; refine Y _ ?_; clear Y K0; simp only [put, app, a9, af, zE, zS, E])
            refine ai ?_
            refine hK49 _ ?_; clear hK49; refine ae [1, 2, 3, 4, 5, 6, 7, 52, 53, 77, 78, 79, 113] ?_; simp only [Z, lkp, zE, reduceCtorEq, G, a8, E]
            refine aP ?_
            refine ⟨by first | exact .inl rfl | exact .inr rfl, _, rfl, ?_⟩; simp only [fzV, fz1, fzC, List.map_cons, List.map_nil, Z, lkp, zE, reduceCtorEq, G, a8, E, Mpr.av, Int.toNat_natCast]
            refine VLE.of_eq ?_
            refine congrArg (fun n => AV.one (AC.int IntKind.i64 n)) ?_
            unfold bQ
            symm
            first
            | (rw [if_pos (by omega)]; done)
            | (rw [if_neg (by omega), if_pos (by omega)]; done)
            | (rw [if_neg (by omega), if_neg (by omega), if_pos (by omega)]; done)
            | (rw [if_neg (by omega), if_neg (by omega), if_neg (by omega), if_pos (by omega)]; done)
            | (rw [if_neg (by omega), if_neg (by omega), if_neg (by omega), if_neg (by omega), if_pos (by omega)]; done)
            | (rw [if_neg (by omega), if_neg (by omega), if_neg (by omega), if_neg (by omega), if_neg (by omega)]
               first
               | (exact aX hrows (by omega) (by assumption))
               | exact (aX hrows (by omega) (by rw [cb hl9]; decide)).trans (cb hl9)
               | exact (aX hrows (by omega) (by rw [ca hl9 (by omega) hb9]; decide)).trans (ca hl9 (by omega) hb9)
               | exact bD fun i hi => hrows i (by omega))
           ·(try simp only [zB, reduceCtorEq] at hc48)
            have hb9 : ¬ p.bad k c := by unfold Mpr.bad; omega
            refine aJ ?_
            refine hK41 _ ?_; clear hK41; refine ae [1, 2, 3, 4, 5, 6, 7, 52, 53, 77, 78, 79, 113] ?_; simp only [Z, lkp, zE, reduceCtorEq, G, a8, E]
            refine aj hP hN rfl ?_
            iterate 2 (refine ad rfl fun K0 Y => ?_; simp only [zE, op1, ev, lkp, ah, ag, aC, aD, aE, ao, aB, aR, reduceCtorEq, G, E, J, V, M, U, Tryd.td3, Mpr.av, Int.toNat_natCast]; (repeat refine And.intro (by first | omega | assumption | exact rfl) ?_); refine Y _ ?_; clear Y K0; simp only [put, app, a9, af, zE, zS, E])
            refine ai ?_
            refine ⟨_, _, ?_, aS [1, 2, 3, 4, 52, 53, 77, 78], c + 1, by omega, fun q hq2 => ?_, rfl, rfl⟩
            · omega
            · by_cases e : q = c
              · rw [e]; exact hb9
              · exact hq q (by omega)
          ·(try simp only [zB, reduceCtorEq] at hc40)
           refine bK ?_
           refine hK29 _ ?_; clear hK29; refine ae [1, 2, 3, 4, 52, 53, 77, 78, 79] ?_; simp only [Z, lkp, zE, reduceCtorEq, G, a8, E]
           refine aj hP hN rfl ?_
           iterate 2 (refine ad rfl fun K0 Y => ?_; simp only [zE, op1, ev, lkp, ah, ag, aC, aD, aE, ao, aB, aR, reduceCtorEq, G, E, J, V, M, U, Tryd.td3, Mpr.av, Int.toNat_natCast]; (repeat refine And.intro (by first | omega | assumption | exact rfl) ?_); refine Y _ ?_; clear Y K0; simp only [put, app, a9, af, zE, zS, E])
           refine ai ?_
           refine ⟨_, _, ?_, aS [1, 2, 3, 52, 53], k + 1, by omega, fun i hi => ?_, rfl, rfl⟩
           · omega
           · by_cases e : i = k
             · rw [e]; exact j7 hl9 fun q hq2 => hq q (by omega)
             · exact hrows i (by omega)
       ·(try simp only [zB, reduceCtorEq] at hc28)
        refine bK ?_
        refine hK23 _ ?_; clear hK23; refine ae [1, 2, 3, 52, 53, 54] ?_; simp only [Z, lkp, zE, reduceCtorEq, G, a8, E]
        refine aa fun K50 hK50 => ?_
        refine aj hP hN rfl ?_
        (refine ad rfl fun K0 Y => ?_; simp only [zE, op1, ev, lkp, ah, ag, ev, reduceCtorEq, G, E, J, V, M, U, Tryd.td26, Mpr.av, Int.toNat_natCast]; refine Y _ ?_; clear Y K0; simp only [put, app, a9, af, zE, zS, E])
        refine ai ?_
        refine hK50 _ ?_; clear hK50; refine ae [1, 2, 3, 52, 53, 54] ?_; simp only [Z, lkp, zE, reduceCtorEq, G, a8, E]
        refine aP ?_
        refine ⟨by first | exact .inl rfl | exact .inr rfl, _, rfl, ?_⟩; simp only [fzV, fz1, fzC, List.map_cons, List.map_nil, Z, lkp, zE, reduceCtorEq, G, a8, E, Mpr.av, Int.toNat_natCast]
        refine VLE.of_eq ?_
        refine congrArg (fun n => AV.one (AC.int IntKind.i64 n)) ?_
        unfold bQ
        symm
        first
        | (rw [if_pos (by omega)]; done)
        | (rw [if_neg (by omega), if_pos (by omega)]; done)
        | (rw [if_neg (by omega), if_neg (by omega), if_pos (by omega)]; done)
        | (rw [if_neg (by omega), if_neg (by omega), if_neg (by omega), if_pos (by omega)]; done)
        | (rw [if_neg (by omega), if_neg (by omega), if_neg (by omega), if_neg (by omega), if_pos (by omega)]; done)
        | (rw [if_neg (by omega), if_neg (by omega), if_neg (by omega), if_neg (by omega), if_neg (by omega)]
           first
           | (exact aX hrows (by omega) (by assumption))
           | exact (aX hrows (by omega) (by rw [cb hl9]; decide)).trans (cb hl9)
           | exact (aX hrows (by omega) (by rw [ca hl9 (by omega) hb9]; decide)).trans (ca hl9 (by omega) hb9)
           | exact bD fun i hi => hrows i (by omega))
end Go.Proofs.YtgmgnkmgofkfpaaDoor
namespace Go.Proofs.YtgmgnkmgofkfpaaDoor
open Go Go.AV
open Nat renaming reduceEqDiff → G, reduceAdd → E, reduceLeDiff → J, reduceLT → V, reduceMul → M, reduceSub → U
open List renaming set_cons_zero → aA, set_cons_succ → az
set_option maxRecDepth 100000 in
theorem pv (m : Mly) : ch Tryd.prog 42 [m.av] (.one (.int .i64 (cg m))) := by
 refine bp Tryd.func42 rfl (by kernel_rfl) (Nat.le_of_ble_eq_true rfl) rfl fun C hP hN hB => ?_
 replace hN : C.N = 104 := hN
 simp only [a8, E]
 refine aa fun K1 hK1 => ?_
 refine aj hP hN rfl ?_
 iterate 2 (refine ad rfl fun K0 Y => ?_; simp only [zE, op1, ev, lkp, ah, ag, cA, au, reduceCtorEq, G, E, J, V, M, U, Tryd.st47, Tryd.td26, Tryd.td47, Mly.av]; (repeat refine And.intro (by first | omega | assumption | exact rfl) ?_); refine Y _ ?_; clear Y K0; simp only [put, app, a9, af, zE, zS, E])
 refine ai ?_
 refine hK1 _ ?_; clear hK1; refine ae [0, 1, 2] ?_; simp only [Z, lkp, zE, reduceCtorEq, G, a8, E]
 refine aa fun K2 hK2 => ?_
 refine aj hP hN rfl ?_
 iterate 4 (refine ad rfl fun K0 Y => ?_; simp only [zE, op1, ev, lkp, ah, ag, am, ay, Nat.mul_one, aw, ax, acs, Ty.dflt, zG, aq, aF, bu, bh, ba, bb, bq, Nat.div_one, aK, bf, Ty.size, aL, dite_true, reduceCtorEq, G, E, J, V, M, U, Tryd.el22, Tryd.st47, Tryd.td2, Tryd.td22, Tryd.td3, Tryd.td47, Mly.av]; (repeat refine And.intro (by first | omega | assumption | exact rfl) ?_); (first | refine Y _ ?_ | refine Or.inl (Y _ ?_)); clear Y K0; simp only [put, app, a9, af, zE, zS, E])
 refine ai ?_
 refine hK2 _ ?_; clear hK2; refine ae [0, 1, 2, 3] ?_; simp only [Z, lkp, zE, reduceCtorEq, G, a8, E]
 refine aa fun K3 hK3 => ?_
 refine aW ?_
 refine aa fun K4 hK4 => ?_
 refine aj hP hN rfl ?_
 iterate 3 (refine ad rfl fun K0 Y => ?_; simp only [zE, op1, ev, lkp, ah, ag, am, ay, Nat.mul_one, aw, ax, acs, Ty.dflt, zG, aq, aC, aD, aE, ao, aB, aR, reduceCtorEq, G, E, J, V, M, U, Tryd.st47, Tryd.td3, Tryd.td4, Tryd.td47, Mly.av]; (repeat refine And.intro (by first | omega | assumption | exact rfl) ?_); refine Y _ ?_; clear Y K0; simp only [put, app, a9, af, zE, zS, E])
 (refine ad rfl fun K0 Y => ?_; simp only [zE, op1, ev, lkp, ah, ag, ev, reduceCtorEq, G, E, J, V, M, U, Tryd.td4, Mly.av]; refine Y _ ?_; clear Y K0; simp only [put, app, a9, af, zE, zS, E])
 refine' aY (want := false) 3 rfl (m := 15) (by simp only [Z, lkp, zE, reduceCtorEq, G, a8, E]; exact rfl) (by kernel_rfl) rfl rfl rfl rfl rfl (fun hg5 => ?a5) ?b5 ?c5
 case a5 =>
  have hq5 := hg5; (try simp only [zB, reduceCtorEq] at hg5); simp only [List.take_succ_cons, List.take_zero, List.cons_append, List.nil_append]
  (refine ar rfl fun K0 Y => ?_; simp only [zE, op1, ev, lkp, ah, ag, am, reduceCtorEq, G, E, J, V, M, U, Tryd.st47, Tryd.td47, Mly.av]; (repeat refine And.intro (by first | omega | assumption | exact rfl) ?_); refine Y _ ?_; clear Y K0; simp only [put, app, a9, af, zE, zS, E])
  (refine ar rfl fun K0 Y => ?_; simp only [zE, op1, ev, lkp, ah, ag, ay, Nat.mul_one, aw, ax, acs, Ty.dflt, zG, aq, reduceCtorEq, G, E, J, V, M, U, Tryd.td3, Mly.av]; (repeat refine And.intro (by first | omega | assumption | exact rfl) ?_); refine Y _ ?_; clear Y K0; simp only [put, app, a9, af, zE, zS, E])
  (refine ar rfl fun K0 Y => ?_; simp only [zE, op1, ev, lkp, ah, ag, aC, aD, aE, ao, aB, aR, reduceCtorEq, G, E, J, V, M, U, Tryd.td3, Tryd.td4, Mly.av]; (repeat refine And.intro (by first | omega | assumption | exact rfl) ?_); refine Y _ ?_; clear Y K0; simp only [put, app, a9, af, zE, zS, E])
  (refine ad rfl fun K0 Y => ?_; simp only [zE, op1, ev, lkp, ah, ag, bt, reduceCtorEq, G, E, J, V, M, U, Tryd.td4, Mly.av]; refine Y _ ?_; clear Y K0; simp only [put, app, a9, af, zE, zS, E])
  refine ai ?_
  refine ⟨by simp only [Z, lkp, zE, reduceCtorEq, G, a8, E]; exact rfl, rfl, ?_, rfl⟩; (repeat refine aZ rfl ?_); exact bz (by exact rfl) hq5
 case b5 => exact bv (by first | rfl | (simp [bV]; done) | decide)
 simp only [bj, bg]
 (refine ad rfl fun K0 Y => ?_; simp only [zE, op1, ev, lkp, ah, ag, ev, reduceCtorEq, G, E, J, V, M, U, Tryd.td4, Mly.av]; refine Y _ ?_; clear Y K0; simp only [put, app, a9, af, zE, zS, E])
 refine ai ?_
 refine hK4 _ ?_; clear hK4; refine ae [0, 1, 2, 3, 11] ?_; simp only [Z, lkp, zE, reduceCtorEq, G, a8, E]
 refine aG (by simp only [ev, Z, lkp, zE, reduceCtorEq, G, a8, E]; exact rfl) (fun hc6 => ?_) (fun hc6 => ?_)
 ·(try simp only [zB, reduceCtorEq] at hc6)
  refine aa fun K7 hK7 => ?_
  refine aj hP hN rfl ?_
  (refine ad rfl fun K0 Y => ?_; simp only [zE, op1, ev, lkp, ah, ag, ev, reduceCtorEq, G, E, J, V, M, U, Tryd.td26, Mly.av]; refine Y _ ?_; clear Y K0; simp only [put, app, a9, af, zE, zS, E])
  refine ai ?_
  refine hK7 _ ?_; clear hK7; refine ae [0, 1, 2, 3, 11] ?_; simp only [Z, lkp, zE, reduceCtorEq, G, a8, E]
  refine aP ?_
  refine ⟨by first | exact .inl rfl | exact .inr rfl, _, rfl, ?_⟩; simp only [fzV, fz1, fzC, List.map_cons, List.map_nil, Z, lkp, zE, reduceCtorEq, G, a8, E, Mly.av]
  refine VLE.of_eq ?_
  refine congrArg (fun n => AV.one (AC.int IntKind.i64 n)) ?_
  symm
  unfold cg
  first
  | (rw [if_pos (by omega)]; done)
  | (rw [if_neg (by omega), if_pos (by omega)]; done)
  | (rw [if_neg (by omega), if_neg (by omega), if_pos (by omega)]; done)
  | (rw [if_neg (by omega), if_neg (by omega), if_neg (by omega), if_pos (by omega)]; done)
  | (rw [if_neg (by omega), if_neg (by omega), if_neg (by omega), if_neg (by omega), if_pos (by omega)]; done)
  | (rw [if_neg (by omega), if_neg (by omega), if_neg (by omega), if_neg (by omega), if_neg (by omega)]
     first
     | exact (aX hrows (by omega) (by rw [cf hc32.1 hc32.2 (j := j) (by omega) (by unfold bU; omega)]; decide)).trans (cf hc32.1 hc32.2 (by omega) (by unfold bU; omega))
     | exact (aX hrows (by omega) (by rw [cd hc32]; decide)).trans (cd hc32)
     | exact bD fun i hi => hrows i (by omega))
 ·(try simp only [zB, reduceCtorEq] at hc6)
  refine aa fun K8 hK8 => ?_
  refine aj hP hN rfl ?_
  iterate 3 (refine ad rfl fun K0 Y => ?_; simp only [zE, op1, ev, lkp, ah, ag, aC, aD, aE, ao, aB, aR, reduceCtorEq, G, E, J, V, M, U, Tryd.td3, Tryd.td4, Mly.av]; (repeat refine And.intro (by first | omega | assumption | exact rfl) ?_); refine Y _ ?_; clear Y K0; simp only [put, app, a9, af, zE, zS, E])
  refine ai ?_
  refine hK8 _ ?_; clear hK8; refine ae [0, 1, 2, 3, 11, 20] ?_; simp only [Z, lkp, zE, reduceCtorEq, G, a8, E]
  refine aG (by simp only [ev, Z, lkp, zE, reduceCtorEq, G, a8, E]; exact rfl) (fun hc9 => ?_) (fun hc9 => ?_)
  ·(try simp only [zB, reduceCtorEq] at hc9)
   refine aa fun K10 hK10 => ?_
   refine aj hP hN rfl ?_
   (refine ad rfl fun K0 Y => ?_; simp only [zE, op1, ev, lkp, ah, ag, ev, reduceCtorEq, G, E, J, V, M, U, Tryd.td26, Mly.av]; refine Y _ ?_; clear Y K0; simp only [put, app, a9, af, zE, zS, E])
   refine ai ?_
   refine hK10 _ ?_; clear hK10; refine ae [0, 1, 2, 3, 11, 20] ?_; simp only [Z, lkp, zE, reduceCtorEq, G, a8, E]
   refine aP ?_
   refine ⟨by first | exact .inl rfl | exact .inr rfl, _, rfl, ?_⟩; simp only [fzV, fz1, fzC, List.map_cons, List.map_nil, Z, lkp, zE, reduceCtorEq, G, a8, E, Mly.av]
   refine VLE.of_eq ?_
   refine congrArg (fun n => AV.one (AC.int IntKind.i64 n)) ?_
   symm
   unfold cg
   first
   | (rw [if_pos (by omega)]; done)
   | (rw [if_neg (by omega), if_pos (by omega)]; done)
   | (rw [if_neg (by omega), if_neg (by omega), if_pos (by omega)]; done)
   | (rw [if_neg (by omega), if_neg (by omega), if_neg (by omega), if_pos (by omega)]; done)
   | (rw [if_neg (by omega), if_neg (by omega), if_neg (by omega), if_neg (by omega), if_pos (by omega)]; done)
   | (rw [if_neg (by omega), if_neg (by omega), if_neg (by omega), if_neg (by omega), if_neg (by omega)]
      first
      | exact (aX hrows (by omega) (by rw [cf hc32.1 hc32.2 (j := j) (by omega) (by unfold bU; omega)]; decide)).trans (cf hc32.1 hc32.2 (by omega) (by unfold bU; omega))
      | exact (aX hrows (by omega) (by rw [cd hc32]; decide)).trans (cd hc32)
      | exact bD fun i hi => hrows i (by omega))
  ·(try simp only [zB, reduceCtorEq] at hc9)
   refine aa fun K11 hK11 => ?_
   refine aj hP hN rfl ?_
   iterate 3 (refine ad rfl fun K0 Y => ?_; simp only [zE, op1, ev, lkp, ah, ag, aC, aD, aE, ao, aB, aR, reduceCtorEq, G, E, J, V, M, U, Tryd.td3, Tryd.td4, Mly.av]; (repeat refine And.intro (by first | omega | assumption | exact rfl) ?_); refine Y _ ?_; clear Y K0; simp only [put, app, a9, af, zE, zS, E])
   refine ai ?_
   refine hK11 _ ?_; clear hK11; refine ae [0, 1, 2, 3, 11, 20, 23] ?_; simp only [Z, lkp, zE, reduceCtorEq, G, a8, E]
   refine aG (by simp only [ev, Z, lkp, zE, reduceCtorEq, G, a8, E]; exact rfl) (fun hc12 => ?_) (fun hc12 => ?_)
   ·(try simp only [zB, reduceCtorEq] at hc12)
    refine aa fun K13 hK13 => ?_
    refine aj hP hN rfl ?_
    (refine ad rfl fun K0 Y => ?_; simp only [zE, op1, ev, lkp, ah, ag, ev, reduceCtorEq, G, E, J, V, M, U, Tryd.td26, Mly.av]; refine Y _ ?_; clear Y K0; simp only [put, app, a9, af, zE, zS, E])
    refine ai ?_
    refine hK13 _ ?_; clear hK13; refine ae [0, 1, 2, 3, 11, 20, 23] ?_; simp only [Z, lkp, zE, reduceCtorEq, G, a8, E]
    refine aP ?_
    refine ⟨by first | exact .inl rfl | exact .inr rfl, _, rfl, ?_⟩; simp only [fzV, fz1, fzC, List.map_cons, List.map_nil, Z, lkp, zE, reduceCtorEq, G, a8, E, Mly.av]
    refine VLE.of_eq ?_
    refine congrArg (fun n => AV.one (AC.int IntKind.i64 n)) ?_
    symm
    unfold cg
    first
    | (rw [if_pos (by omega)]; done)
    | (rw [if_neg (by omega), if_pos (by omega)]; done)
    | (rw [if_neg (by omega), if_neg (by omega), if_pos (by omega)]; done)
    | (rw [if_neg (by omega), if_neg (by omega), if_neg (by omega), if_pos (by omega)]; done)
    | (rw [if_neg (by omega), if_neg (by omega), if_neg (by omega), if_neg (by omega), if_pos (by omega)]; done)
    | (rw [if_neg (by omega), if_neg (by omega), if_neg (by omega), if_neg (by omega), if_neg (by omega)]
       first
       | exact (aX hrows (by omega) (by rw [cf hc32.1 hc32.2 (j := j) (by omega) (by unfold bU; omega)]; decide)).trans (cf hc32.1 hc32.2 (by omega) (by unfold bU; omega))
       | exact (aX hrows (by omega) (by rw [cd hc32]; decide)).trans (cd hc32)
       | exact bD fun i hi => hrows i (by omega))
   ·(try simp only [zB, reduceCtorEq] at hc12)
    refine aa fun K14 hK14 => ?_
    refine aj hP hN rfl ?_
    iterate 3 (refine ad rfl fun K0 Y => ?_; simp only [zE, op1, ev, lkp, ah, ag, am, ay, Nat.mul_one, aw, ax, acs, Ty.dflt, zG, aq, aC, aD, aE, ao, aB, aR, reduceCtorEq, G, E, J, V, M, U, Tryd.st47, Tryd.td1, Tryd.td3, Tryd.td4, Tryd.td47, Mly.av]; (repeat refine And.intro (by first | omega | assumption | exact rfl) ?_); refine Y _ ?_; clear Y K0; simp only [put, app, a9, af, zE, zS, E])
    (refine ad rfl fun K0 Y => ?_; simp only [zE, op1, ev, lkp, ah, ag, ev, reduceCtorEq, G, E, J, V, M, U, Tryd.td4, Mly.av]; refine Y _ ?_; clear Y K0; simp only [put, app, a9, af, zE, zS, E])
    refine' aY (want := false) 4 rfl (m := 30) (by simp only [Z, lkp, zE, reduceCtorEq, G, a8, E]; exact rfl) (by kernel_rfl) rfl rfl rfl rfl rfl (fun hg15 => ?a15) ?b15 ?c15
    case a15 =>
     have hq15 := hg15; (try simp only [zB, reduceCtorEq] at hg15); simp only [List.take_succ_cons, List.take_zero, List.cons_append, List.nil_append]
     (refine ar rfl fun K0 Y => ?_; simp only [zE, op1, ev, lkp, ah, ag, am, reduceCtorEq, G, E, J, V, M, U, Tryd.st47, Tryd.td1, Tryd.td47, Mly.av]; (repeat refine And.intro (by first | omega | assumption | exact rfl) ?_); refine Y _ ?_; clear Y K0; simp only [put, app, a9, af, zE, zS, E])
     (refine ar rfl fun K0 Y => ?_; simp only [zE, op1, ev, lkp, ah, ag, ay, Nat.mul_one, aw, ax, acs, Ty.dflt, zG, aq, reduceCtorEq, G, E, J, V, M, U, Tryd.td3, Mly.av]; (repeat refine And.intro (by first | omega | assumption | exact rfl) ?_); refine Y _ ?_; clear Y K0; simp only [put, app, a9, af, zE, zS, E])
     (refine ar rfl fun K0 Y => ?_; simp only [zE, op1, ev, lkp, ah, ag, ev, reduceCtorEq, G, E, J, V, M, U, Tryd.td3, Mly.av]; refine Y _ ?_; clear Y K0; simp only [put, app, a9, af, zE, zS, E])
     (refine ar rfl fun K0 Y => ?_; simp only [zE, op1, ev, lkp, ah, ag, aC, aD, aE, ao, aB, aR, reduceCtorEq, G, E, J, V, M, U, Tryd.td3, Tryd.td4, Mly.av]; (repeat refine And.intro (by first | omega | assumption | exact rfl) ?_); refine Y _ ?_; clear Y K0; simp only [put, app, a9, af, zE, zS, E])
     (refine ad rfl fun K0 Y => ?_; simp only [zE, op1, ev, lkp, ah, ag, bt, reduceCtorEq, G, E, J, V, M, U, Tryd.td4, Mly.av]; refine Y _ ?_; clear Y K0; simp only [put, app, a9, af, zE, zS, E])
     refine ai ?_
     refine ⟨by simp only [Z, lkp, zE, reduceCtorEq, G, a8, E]; exact rfl, rfl, ?_, rfl⟩; (repeat refine aZ rfl ?_); exact bz (by exact rfl) hq15
    case b15 => exact bv (by first | rfl | (simp [bV]; done) | decide)
    simp only [bj, bg]
    (refine ad rfl fun K0 Y => ?_; simp only [zE, op1, ev, lkp, ah, ag, ev, reduceCtorEq, G, E, J, V, M, U, Tryd.td4, Mly.av]; refine Y _ ?_; clear Y K0; simp only [put, app, a9, af, zE, zS, E])
    refine ai ?_
    refine hK14 _ ?_; clear hK14; refine ae [0, 1, 2, 3, 11, 20, 23, 26] ?_; simp only [Z, lkp, zE, reduceCtorEq, G, a8, E]
    refine aG (by simp only [ev, Z, lkp, zE, reduceCtorEq, G, a8, E]; exact rfl) (fun hc16 => ?_) (fun hc16 => ?_)
    ·(try simp only [zB, reduceCtorEq] at hc16)
     refine aa fun K17 hK17 => ?_
     refine aj hP hN rfl ?_
     (refine ad rfl fun K0 Y => ?_; simp only [zE, op1, ev, lkp, ah, ag, ev, reduceCtorEq, G, E, J, V, M, U, Tryd.td26, Mly.av]; refine Y _ ?_; clear Y K0; simp only [put, app, a9, af, zE, zS, E])
     refine ai ?_
     refine hK17 _ ?_; clear hK17; refine ae [0, 1, 2, 3, 11, 20, 23, 26] ?_; simp only [Z, lkp, zE, reduceCtorEq, G, a8, E]
     refine aP ?_
     refine ⟨by first | exact .inl rfl | exact .inr rfl, _, rfl, ?_⟩; simp only [fzV, fz1, fzC, List.map_cons, List.map_nil, Z, lkp, zE, reduceCtorEq, G, a8, E, Mly.av]
     refine VLE.of_eq ?_
     refine congrArg (fun n => AV.one (AC.int IntKind.i64 n)) ?_
     symm
     unfold cg
     first
     | (rw [if_pos (by omega)]; done)
     | (rw [if_neg (by omega), if_pos (by omega)]; done)
     | (rw [if_neg (by omega), if_neg (by omega), if_pos (by omega)]; done)
     | (rw [if_neg (by omega), if_neg (by omega), if_neg (by omega), if_pos (by omega)]; done)
     | (rw [if_neg (by omega), if_neg (by omega), if_neg (by omega), if_neg (by omega), if_pos (by omega)]; done)
     | (rw [if_neg (by omega), if_neg (by omega), if_neg (by omega), if_neg (by omega), if_neg (by omega)]
        first
        | exact (aX hrows (by omega) (by rw [cf hc32.1 hc32.2 (j := j) (by omega) (by unfold bU; omega)]; decide)).trans (cf hc32.1 hc32.2 (by omega) (by unfold bU; omega))
        | exact (aX hrows (by omega) (by rw [cd hc32]; decide)).trans (cd hc32)
        | exact bD fun i hi => hrows i (by omega))
    ·(try simp only [zB, reduceCtorEq] at hc16)
     refine aa fun K18 hK18 => ?_
     refine aj hP hN rfl ?_
     iterate 6 (refine ad rfl fun K0 Y => ?_; simp only [zE, op1, ev, lkp, ah, ag, am, ay, Nat.mul_one, aw, ax, acs, Ty.dflt, zG, aq, aF, bu, bh, ba, bb, bq, Nat.div_one, aK, bf, Ty.size, aL, dite_true, aC, aD, aE, ao, aB, aR, reduceCtorEq, G, E, J, V, M, U, Tryd.el22, Tryd.st47, Tryd.td22, Tryd.td3, Tryd.td4, Tryd.td47, Mly.av]; (repeat refine And.intro (by first | omega | assumption | exact rfl) ?_); (first | refine Y _ ?_ | refine Or.inl (Y _ ?_)); clear Y K0; simp only [put, app, a9, af, zE, zS, E])
     refine ai ?_
     refine hK18 _ ?_; clear hK18; refine ae [0, 1, 2, 3, 11, 20, 23, 26, 36] ?_; simp only [Z, lkp, zE, reduceCtorEq, G, a8, E]
     refine aG (by simp only [ev, Z, lkp, zE, reduceCtorEq, G, a8, E]; exact rfl) (fun hc19 => ?_) (fun hc19 => ?_)
     ·(try simp only [zB, reduceCtorEq] at hc19)
      refine aa fun K20 hK20 => ?_
      refine aj hP hN rfl ?_
      (refine ad rfl fun K0 Y => ?_; simp only [zE, op1, ev, lkp, ah, ag, ev, reduceCtorEq, G, E, J, V, M, U, Tryd.td26, Mly.av]; refine Y _ ?_; clear Y K0; simp only [put, app, a9, af, zE, zS, E])
      refine ai ?_
      refine hK20 _ ?_; clear hK20; refine ae [0, 1, 2, 3, 11, 20, 23, 26, 36] ?_; simp only [Z, lkp, zE, reduceCtorEq, G, a8, E]
      refine aP ?_
      refine ⟨by first | exact .inl rfl | exact .inr rfl, _, rfl, ?_⟩; simp only [fzV, fz1, fzC, List.map_cons, List.map_nil, Z, lkp, zE, reduceCtorEq, G, a8, E, Mly.av]
      refine VLE.of_eq ?_
      refine congrArg (fun n => AV.one (AC.int IntKind.i64 n)) ?_
      symm
      unfold cg
      first
      | (rw [if_pos (by omega)]; done)
      | (rw [if_neg (by omega), if_pos (by omega)]; done)
      | (rw [if_neg (by omega), if_neg (by omega), if_pos (by omega)]; done)
      | (rw [if_neg (by omega), if_neg (by omega), if_neg (by omega), if_pos (by omega)]; done)
      | (rw [if_neg (by omega), if_neg (by omega), if_neg (by omega), if_neg (by omega), if_pos (by omega)]; done)
      | (rw [if_neg (by omega), if_neg (by omega), if_neg (by omega), if_neg (by omega), if_neg (by omega)]
         first
         | exact (aX hrows (by omega) (by rw [cf hc32.1 hc32.2 (j := j) (by omega) (by unfold bU; omega)]; decide)).trans (cf hc32.1 hc32.2 (by omega) (by unfold bU; omega))
         | exact (aX hrows (by omega) (by rw [cd hc32]; decide)).trans (cd hc32)
         | exact bD fun i hi => hrows i (by omega))
     ·(try simp only [zB, reduceCtorEq] at hc19)
      refine aJ ?_
      refine hK3 _ ?_; clear hK3; refine ae [0, 1, 2, 3, 11, 20, 23, 26, 36] ?_; simp only [Z, lkp, zE, reduceCtorEq, G, a8, E]
      refine aa fun K21 hK21 => ?_
      refine aa fun K22 hK22 => ?_
      refine aj hP hN rfl ?_
      iterate 2 (refine ad rfl fun K0 Y => ?_; simp only [zE, op1, ev, lkp, ah, ag, ev, reduceCtorEq, G, E, J, V, M, U, Tryd.td3, Mly.av]; refine Y _ ?_; clear Y K0; simp only [put, app, a9, af, zE, zS, E])
      refine ai ?_
      refine hK22 _ ?_; clear hK22; refine ae [0, 1, 2, 3, 11, 20, 23, 26, 36, 42, 43] ?_; simp only [Z, lkp, zE, reduceCtorEq, G, a8, E]
      refine aW ?_
      refine bM (fun n23 s23 => ∃ (k : Nat), (k ≤ m.nx.length) ∧ (∀ i, i < k → fu m i = 0) ∧ n23 = m.nx.length - k ∧ s23 = { env := [(1, .one (.ptr 0 0 0 0)), (3, .one (.int .i64 (m.nx.length : Int))), (42, .one (.int .i64 (m.nx.length : Int))), (43, .one (.int .i64 (k : Int)))], L := [.vars 47 [.int .i64 m.inp, .int .i64 m.st, .list (.list (.int .i64)) m.nx, .list (.list (.int .i64)) m.ot]] }) ?_ ?_
      ·exact ⟨_, _, aS [1, 3, 42, 43], 0, Nat.zero_le _, fun i hi => by omega, rfl, rfl⟩
      ·rintro n23 s23 ⟨k, hk, hrows, rfl, rfl⟩
       refine aa fun K24 hK24 => ?_
       refine aj hP hN rfl ?_
       (refine ad rfl fun K0 Y => ?_; simp only [zE, op1, ev, lkp, ah, ag, aC, aD, aE, ao, aB, aR, reduceCtorEq, G, E, J, V, M, U, Tryd.td3, Tryd.td4, Mly.av]; (repeat refine And.intro (by first | omega | assumption | exact rfl) ?_); refine Y _ ?_; clear Y K0; simp only [put, app, a9, af, zE, zS, E])
       refine ai ?_
       refine hK24 _ ?_; clear hK24; refine ae [1, 3, 42, 43, 44] ?_; simp only [Z, lkp, zE, reduceCtorEq, G, a8, E]
       refine aa fun K25 hK25 => ?_
       refine aG (by simp only [ev, Z, lkp, zE, reduceCtorEq, G, a8, E]; exact rfl) (fun hc26 => ?_) (fun hc26 => ?_)
       ·(try simp only [zB, reduceCtorEq] at hc26)
        refine aJ ?_
        refine hK25 _ ?_; clear hK25; refine ae [1, 3, 42, 43, 44] ?_; simp only [Z, lkp, zE, reduceCtorEq, G, a8, E]
        refine aa fun K27 hK27 => ?_
        refine aW ?_
        refine aa fun K28 hK28 => ?_
        refine aj hP hN rfl ?_
        iterate 2 (refine ad rfl fun K0 Y => ?_; simp only [zE, op1, ev, lkp, ah, ag, ev, reduceCtorEq, G, E, J, V, M, U, Tryd.td3, Mly.av]; refine Y _ ?_; clear Y K0; simp only [put, app, a9, af, zE, zS, E])
        refine ai ?_
        refine hK28 _ ?_; clear hK28; refine ae [1, 3, 4, 42, 43, 44] ?_; simp only [Z, lkp, zE, reduceCtorEq, G, a8, E]
        refine aa fun K29 hK29 => ?_
        refine aa fun K30 hK30 => ?_
        refine bW hP hN Tryd.mixed rfl ?_
        iterate 9 (refine ad rfl fun K0 Y => ?_; simp only [zE, op1, ev, lkp, ah, ag, am, ay, Nat.mul_one, aw, ax, acs, Ty.dflt, zG, aq, aI, Ty.size, ne_eq, not_false_eq_true, Int.natCast_one, Int.mul_one, aF, bu, bh, ba, bb, bq, Nat.div_one, aK, bf, aL, dite_true, aC, aD, aE, ao, aB, aR, reduceCtorEq, G, E, J, V, M, U, Tryd.el22, Tryd.el25, Tryd.st47, Tryd.td2, Tryd.td22, Tryd.td25, Tryd.td3, Tryd.td4, Tryd.td47, Mly.av]; (repeat refine And.intro (by first | omega | assumption | exact rfl) ?_); (first | refine Y _ ?_ | refine Or.inl (Y _ ?_)); clear Y K0; simp only [put, app, a9, af, zE, zS, E])
        (refine ad rfl fun K0 Y => ?_; simp only [zE, op1, ev, lkp, ah, ag, ev, reduceCtorEq, G, E, J, V, M, U, Tryd.td4, Mly.av]; refine Y _ ?_; clear Y K0; simp only [put, app, a9, af, zE, zS, E])
        refine' aY (want := false) 9 rfl (m := 55) (by simp only [Z, lkp, zE, reduceCtorEq, G, a8, E]; exact rfl) (by kernel_rfl) rfl rfl rfl rfl rfl (fun hg31 => ?a31) ?b31 ?c31
        case a31 =>
         have hq31 := hg31; (try simp only [zB, reduceCtorEq] at hg31); simp only [List.take_succ_cons, List.take_zero, List.cons_append, List.nil_append]
         (refine ar rfl fun K0 Y => ?_; simp only [zE, op1, ev, lkp, ah, ag, am, reduceCtorEq, G, E, J, V, M, U, Tryd.st47, Tryd.td3, Tryd.td47, Mly.av]; (repeat refine And.intro (by first | omega | assumption | exact rfl) ?_); refine Y _ ?_; clear Y K0; simp only [put, app, a9, af, zE, zS, E])
         (refine ar rfl fun K0 Y => ?_; simp only [zE, op1, ev, lkp, ah, ag, ay, Nat.mul_one, aw, ax, acs, Ty.dflt, zG, aq, reduceCtorEq, G, E, J, V, M, U, Tryd.el22, Tryd.td22, Mly.av]; (repeat refine And.intro (by first | omega | assumption | exact rfl) ?_); refine Y _ ?_; clear Y K0; simp only [put, app, a9, af, zE, zS, E])
         (refine ar rfl fun K0 Y => ?_; simp only [zE, op1, ev, lkp, ah, ag, ev, reduceCtorEq, G, E, J, V, M, U, Tryd.td3, Mly.av]; refine Y _ ?_; clear Y K0; simp only [put, app, a9, af, zE, zS, E])
         (refine ar rfl fun K0 Y => ?_; simp only [zE, op1, ev, lkp, ah, ag, aI, zG, Ty.dflt, Ty.size, Nat.mul_one, ne_eq, not_false_eq_true, Int.natCast_one, Int.mul_one, reduceCtorEq, G, E, J, V, M, U, Tryd.el22, Tryd.td22, Mly.av]; (repeat refine And.intro (by first | omega | assumption | exact rfl) ?_); refine Y _ ?_; clear Y K0; simp only [put, app, a9, af, zE, zS, E])
         (refine ar rfl fun K0 Y => ?_; simp only [zE, op1, ev, lkp, ah, ag, ay, Nat.mul_one, aw, ax, acs, Ty.dflt, zG, aq, reduceCtorEq, G, E, J, V, M, U, Tryd.el25, Tryd.td25, Mly.av]; (repeat refine And.intro (by first | omega | assumption | exact rfl) ?_); refine Y _ ?_; clear Y K0; simp only [put, app, a9, af, zE, zS, E])
         (refine ar rfl fun K0 Y => ?_; simp only [zE, op1, ev, lkp, ah, ag, aF, bu, bh, ba, bb, bq, Nat.div_one, aK, bf, Ty.size, aL, dite_true, reduceCtorEq, G, E, J, V, M, U, Tryd.el25, Tryd.td25, Tryd.td3, Mly.av]; (repeat refine And.intro (by first | omega | assumption | exact rfl) ?_); (first | refine Y _ ?_ | refine Or.inl (Y _ ?_)); clear Y K0; simp only [put, app, a9, af, zE, zS, E])
         (refine ar rfl fun K0 Y => ?_; simp only [zE, op1, ev, lkp, ah, ag, am, reduceCtorEq, G, E, J, V, M, U, Tryd.st47, Tryd.td47, Mly.av]; (repeat refine And.intro (by first | omega | assumption | exact rfl) ?_); refine Y _ ?_; clear Y K0; simp only [put, app, a9, af, zE, zS, E])
         (refine ar rfl fun K0 Y => ?_; simp only [zE, op1, ev, lkp, ah, ag, ay, Nat.mul_one, aw, ax, acs, Ty.dflt, zG, aq, reduceCtorEq, G, E, J, V, M, U, Tryd.td3, Mly.av]; (repeat refine And.intro (by first | omega | assumption | exact rfl) ?_); refine Y _ ?_; clear Y K0; simp only [put, app, a9, af, zE, zS, E])
         (refine ar rfl fun K0 Y => ?_; simp only [zE, op1, ev, lkp, ah, ag, aC, aD, aE, ao, aB, aR, reduceCtorEq, G, E, J, V, M, U, Tryd.td3, Tryd.td4, Mly.av]; (repeat refine And.intro (by first | omega | assumption | exact rfl) ?_); refine Y _ ?_; clear Y K0; simp only [put, app, a9, af, zE, zS, E])
         (refine ad rfl fun K0 Y => ?_; simp only [zE, op1, ev, lkp, ah, ag, bt, reduceCtorEq, G, E, J, V, M, U, Tryd.td4, Mly.av]; refine Y _ ?_; clear Y K0; simp only [put, app, a9, af, zE, zS, E])
         refine ai ?_
         refine ⟨by simp only [Z, lkp, zE, reduceCtorEq, G, a8, E]; exact rfl, rfl, ?_, rfl⟩; (repeat refine aZ rfl ?_); exact bz (by exact rfl) hq31
        case b31 => exact bv (by first | rfl | (simp [bV]; done) | decide)
        simp only [bj, bg]
        refine ai ?_
        refine ⟨by kernel_rfl, ?_⟩
        refine hK30 _ ?_; clear hK30; refine ae [1, 3, 4, 42, 43, 44, 65] ?_; simp only [Z, lkp, zE, reduceCtorEq, G, a8, E]
        refine aG (by simp only [ev, Z, lkp, zE, reduceCtorEq, G, a8, E]; exact rfl) (fun hc32 => ?_) (fun hc32 => ?_)
        ·(try simp only [zB, reduceCtorEq] at hc32)
         refine aa fun K33 hK33 => ?_
         refine aj hP hN rfl ?_
         (refine ad rfl fun K0 Y => ?_; simp only [zE, op1, ev, lkp, ah, ag, ev, reduceCtorEq, G, E, J, V, M, U, Tryd.td26, Mly.av]; refine Y _ ?_; clear Y K0; simp only [put, app, a9, af, zE, zS, E])
         refine ai ?_
         refine hK33 _ ?_; clear hK33; refine ae [1, 2, 3, 4, 42, 43, 44, 65] ?_; simp only [Z, lkp, zE, reduceCtorEq, G, a8, E]
         refine aP ?_
         refine ⟨by first | exact .inl rfl | exact .inr rfl, _, rfl, ?_⟩; simp only [fzV, fz1, fzC, List.map_cons, List.map_nil, Z, lkp, zE, reduceCtorEq, G, a8, E, Mly.av]
         refine VLE.of_eq ?_
         refine congrArg (fun n => AV.one (AC.int IntKind.i64 n)) ?_
         symm
         unfold cg
         first
         | (rw [if_pos (by omega)]; done)
         | (rw [if_neg (by omega), if_pos (by omega)]; done)
         | (rw [if_neg (by omega), if_neg (by omega), if_pos (by omega)]; done)
         | (rw [if_neg (by omega), if_neg (by omega), if_neg (by omega), if_pos (by omega)]; done)
         | (rw [if_neg (by omega), if_neg (by omega), if_neg (by omega), if_neg (by omega), if_pos (by omega)]; done)
         | (rw [if_neg (by omega), if_neg (by omega), if_neg (by omega), if_neg (by omega), if_neg (by omega)]
            first
            | exact (aX hrows (by omega) (by rw [cf hc32.1 hc32.2 (j := j) (by omega) (by unfold bU; omega)]; decide)).trans (cf hc32.1 hc32.2 (by omega) (by unfold bU; omega))
            | exact (aX hrows (by omega) (by rw [cd hc32]; decide)).trans (cd hc32)
            | exact bD fun i hi => hrows i (by omega))
        ·(try simp only [zB, reduceCtorEq] at hc32)
         refine aJ ?_
         refine hK29 _ ?_; clear hK29; refine ae [1, 3, 4, 42, 43, 44, 65] ?_; simp only [Z, lkp, zE, reduceCtorEq, G, a8, E]
         refine aa fun K34 hK34 => ?_
         refine aj hP hN rfl ?_
         iterate 3 (refine ad rfl fun K0 Y => ?_; simp only [zE, op1, ev, lkp, ah, ag, am, ay, Nat.mul_one, aw, ax, acs, Ty.dflt, zG, aq, reduceCtorEq, G, E, J, V, M, U, Tryd.st47, Tryd.td3, Tryd.td47, Mly.av]; (repeat refine And.intro (by first | omega | assumption | exact rfl) ?_); refine Y _ ?_; clear Y K0; simp only [put, app, a9, af, zE, zS, E])
         refine ai ?_
         refine hK34 _ ?_; clear hK34; refine ae [1, 3, 4, 42, 43, 44, 65, 67, 68] ?_; simp only [Z, lkp, zE, reduceCtorEq, G, a8, E]
         refine aW ?_
         refine bM (fun n35 s35 => ∃ (j : Nat), ((j : Int) ≤ m.inp) ∧ (∀ a, a < j → ¬ bU m k a) ∧ n35 = m.inp.toNat - j ∧ s35 = { env := [(1, .one (.ptr 0 0 0 0)), (3, .one (.int .i64 (m.nx.length : Int))), (4, .one (.int .i64 (k : Int))), (42, .one (.int .i64 (m.nx.length : Int))), (43, .one (.int .i64 (k : Int))), (67, .one (.int .i64 m.inp)), (68, .one (.int .i64 (j : Int)))], L := [.vars 47 [.int .i64 m.inp, .int .i64 m.st, .list (.list (.int .i64)) m.nx, .list (.list (.int .i64)) m.ot]] }) ?_ ?_
         ·refine ⟨_, _, aS [1, 3, 4, 42, 43, 67, 68], 0, ?_, fun i hi => by omega, rfl, rfl⟩; omega
         ·rintro n35 s35 ⟨j, hj, hcells, rfl, rfl⟩
          refine aa fun K36 hK36 => ?_
          refine aj hP hN rfl ?_
          (refine ad rfl fun K0 Y => ?_; simp only [zE, op1, ev, lkp, ah, ag, aC, aD, aE, ao, aB, aR, reduceCtorEq, G, E, J, V, M, U, Tryd.td3, Tryd.td4, Mly.av]; (repeat refine And.intro (by first | omega | assumption | exact rfl) ?_); refine Y _ ?_; clear Y K0; simp only [put, app, a9, af, zE, zS, E])
          refine ai ?_
          refine hK36 _ ?_; clear hK36; refine ae [1, 3, 4, 42, 43, 67, 68, 69] ?_; simp only [Z, lkp, zE, reduceCtorEq, G, a8, E]
          refine aa fun K37 hK37 => ?_
          refine aG (by simp only [ev, Z, lkp, zE, reduceCtorEq, G, a8, E]; exact rfl) (fun hc38 => ?_) (fun hc38 => ?_)
          ·(try simp only [zB, reduceCtorEq] at hc38)
           refine aJ ?_
           refine hK37 _ ?_; clear hK37; refine ae [1, 3, 4, 42, 43, 67, 68, 69] ?_; simp only [Z, lkp, zE, reduceCtorEq, G, a8, E]
           refine aa fun K39 hK39 => ?_
           refine aW ?_
           refine aa fun K40 hK40 => ?_
           refine aj hP hN rfl ?_
           iterate 2 (refine ad rfl fun K0 Y => ?_; simp only [zE, op1, ev, lkp, ah, ag, ev, reduceCtorEq, G, E, J, V, M, U, Tryd.td3, Mly.av]; refine Y _ ?_; clear Y K0; simp only [put, app, a9, af, zE, zS, E])
           refine ai ?_
           refine hK40 _ ?_; clear hK40; refine ae [1, 3, 4, 5, 42, 43, 67, 68, 69] ?_; simp only [Z, lkp, zE, reduceCtorEq, G, a8, E]
           refine aa fun K41 hK41 => ?_
           refine bW hP hN Tryd.mixed rfl ?_
           iterate 18 (refine ad rfl fun K0 Y => ?_; simp only [zE, op1, ev, lkp, ah, ag, am, ay, Nat.mul_one, aw, ax, acs, Ty.dflt, zG, aq, aI, Ty.size, ne_eq, not_false_eq_true, Int.natCast_one, Int.mul_one, reduceCtorEq, G, E, J, V, M, U, Tryd.el22, Tryd.el25, Tryd.st47, Tryd.td2, Tryd.td22, Tryd.td25, Tryd.td3, Tryd.td47, Mly.av]; (repeat refine And.intro (by first | omega | assumption | exact rfl) ?_); refine Y _ ?_; clear Y K0; simp only [put, app, a9, af, zE, zS, E])
           refine ai ?_
           refine ⟨by kernel_rfl, ?_⟩
           refine hK41 _ ?_; clear hK41; refine ae [1, 3, 4, 5, 6, 7, 42, 43, 67, 68, 69] ?_; simp only [Z, lkp, zE, reduceCtorEq, G, a8, E]
           refine aa fun K42 hK42 => ?_
           refine aj hP hN rfl ?_
           iterate 2 (refine ad rfl fun K0 Y => ?_; simp only [zE, op1, ev, lkp, ah, ag, aC, aD, aE, ao, aB, aR, reduceCtorEq, G, E, J, V, M, U, Tryd.td3, Tryd.td4, Mly.av]; (repeat refine And.intro (by first | omega | assumption | exact rfl) ?_); refine Y _ ?_; clear Y K0; simp only [put, app, a9, af, zE, zS, E])
           (refine ad rfl fun K0 Y => ?_; simp only [zE, op1, ev, lkp, ah, ag, ev, reduceCtorEq, G, E, J, V, M, U, Tryd.td4, Mly.av]; refine Y _ ?_; clear Y K0; simp only [put, app, a9, af, zE, zS, E])
           refine' aY (want := false) 3 rfl (m := 89) (by simp only [Z, lkp, zE, reduceCtorEq, G, a8, E]; exact rfl) (by kernel_rfl) rfl rfl rfl rfl rfl (fun hg43 => ?a43) ?b43 ?c43
           case a43 =>
            have hq43 := hg43; (try simp only [zB, reduceCtorEq] at hg43); simp only [List.take_succ_cons, List.take_zero, List.cons_append, List.nil_append]
            (refine ar rfl fun K0 Y => ?_; simp only [zE, op1, ev, lkp, ah, ag, ev, reduceCtorEq, G, E, J, V, M, U, Tryd.td3, Mly.av]; refine Y _ ?_; clear Y K0; simp only [put, app, a9, af, zE, zS, E])
            (refine ar rfl fun K0 Y => ?_; simp only [zE, op1, ev, lkp, ah, ag, ev, reduceCtorEq, G, E, J, V, M, U, Tryd.td3, Mly.av]; refine Y _ ?_; clear Y K0; simp only [put, app, a9, af, zE, zS, E])
            (refine ar rfl fun K0 Y => ?_; simp only [zE, op1, ev, lkp, ah, ag, aC, aD, aE, ao, aB, aR, reduceCtorEq, G, E, J, V, M, U, Tryd.td3, Tryd.td4, Mly.av]; (repeat refine And.intro (by first | omega | assumption | exact rfl) ?_); refine Y _ ?_; clear Y K0; simp only [put, app, a9, af, zE, zS, E])
            (refine ad rfl fun K0 Y => ?_; simp only [zE, op1, ev, lkp, ah, ag, bt, reduceCtorEq, G, E, J, V, M, U, Tryd.td4, Mly.av]; refine Y _ ?_; clear Y K0; simp only [put, app, a9, af, zE, zS, E])
            refine ai ?_
            refine ⟨by simp only [Z, lkp, zE, reduceCtorEq, G, a8, E]; exact rfl, rfl, ?_, rfl⟩; (repeat refine aZ rfl ?_); exact bz (by exact rfl) hq43
           case b43 => exact bv (by first | rfl | (simp [bV]; done) | decide)
           simp only [bj, bg]
           (refine ad rfl fun K0 Y => ?_; simp only [zE, op1, ev, lkp, ah, ag, ev, reduceCtorEq, G, E, J, V, M, U, Tryd.td4, Mly.av]; refine Y _ ?_; clear Y K0; simp only [put, app, a9, af, zE, zS, E])
           refine' aY (want := false) 2 rfl (m := 94) (by simp only [Z, lkp, zE, reduceCtorEq, G, a8, E]; exact rfl) (by kernel_rfl) rfl rfl rfl rfl rfl (fun hg44 => ?a44) ?b44 ?c44
           case a44 =>
            have hq44 := hg44; (try simp only [zB, reduceCtorEq] at hg44); simp only [List.take_succ_cons, List.take_zero, List.cons_append, List.nil_append]
            (refine ar rfl fun K0 Y => ?_; simp only [zE, op1, ev, lkp, ah, ag, ev, reduceCtorEq, G, E, J, V, M, U, Tryd.td3, Mly.av]; refine Y _ ?_; clear Y K0; simp only [put, app, a9, af, zE, zS, E])
            (refine ar rfl fun K0 Y => ?_; simp only [zE, op1, ev, lkp, ah, ag, aC, aD, aE, ao, aB, aR, reduceCtorEq, G, E, J, V, M, U, Tryd.td3, Tryd.td4, Mly.av]; (repeat refine And.intro (by first | omega | assumption | exact rfl) ?_); refine Y _ ?_; clear Y K0; simp only [put, app, a9, af, zE, zS, E])
            (refine ad rfl fun K0 Y => ?_; simp only [zE, op1, ev, lkp, ah, ag, bt, reduceCtorEq, G, E, J, V, M, U, Tryd.td4, Mly.av]; refine Y _ ?_; clear Y K0; simp only [put, app, a9, af, zE, zS, E])
            refine ai ?_
            refine ⟨by simp only [Z, lkp, zE, reduceCtorEq, G, a8, E]; exact rfl, rfl, ?_, rfl⟩; (repeat refine aZ rfl ?_); exact bz (by exact rfl) hq44
           case b44 => exact bv (by first | rfl | (simp [bV]; done) | decide)
           simp only [bj, bg]
           (refine ad rfl fun K0 Y => ?_; simp only [zE, op1, ev, lkp, ah, ag, ev, reduceCtorEq, G, E, J, V, M, U, Tryd.td4, Mly.av]; refine Y _ ?_; clear Y K0; simp only [put, app, a9, af, zE, zS, E])
           refine' aY (want := false) 2 rfl (m := 98) (by simp only [Z, lkp, zE, reduceCtorEq, G, a8, E]; exact rfl) (by kernel_rfl) rfl rfl rfl rfl rfl (fun hg45 => ?a45) ?b45 ?c45
           case a45 =>
            have hq45 := hg45; (try simp only [zB, reduceCtorEq] at hg45); simp only [List.take_succ_cons, List.take_zero, List.cons_append, List.nil_append]
            (refine ar rfl fun K0 Y => ?_; simp only [zE, op1, ev, lkp, ah, ag, ev, reduceCtorEq, G, E, J, V, M, U, Tryd.td3, Mly.av]; refine Y _ ?_; clear Y K0; simp only [put, app, a9, af, zE, zS, E])
            (refine ar rfl fun K0 Y => ?_; simp only [zE, op1, ev, lkp, ah, ag, aC, aD, aE, ao, aB, aR, reduceCtorEq, G, E, J, V, M, U, Tryd.td3, Tryd.td4, Mly.av]; (repeat refine And.intro (by first | omega | assumption | exact rfl) ?_); refine Y _ ?_; clear Y K0; simp only [put, app, a9, af, zE, zS, E])
            (refine ad rfl fun K0 Y => ?_; simp only [zE, op1, ev, lkp, ah, ag, bt, reduceCtorEq, G, E, J, V, M, U, Tryd.td4, Mly.av]; refine Y _ ?_; clear Y K0; simp only [put, app, a9, af, zE, zS, E])
            refine ai ?_
            refine ⟨by simp only [Z, lkp, zE, reduceCtorEq, G, a8, E]; exact rfl, rfl, ?_, rfl⟩; (repeat refine aZ rfl ?_); exact bz (by exact rfl) hq45
           case b45 => exact bv (by first | rfl | (simp [bV]; done) | decide)
           simp only [bj, bg]
           refine ai ?_
           refine hK42 _ ?_; clear hK42; refine ae [1, 3, 4, 5, 6, 7, 42, 43, 67, 68, 69, 101] ?_; simp only [Z, lkp, zE, reduceCtorEq, G, a8, E]
           refine aG (by simp only [ev, Z, lkp, zE, reduceCtorEq, G, a8, E]; exact rfl) (fun hc46 => ?_) (fun hc46 => ?_)
           ·(try simp only [zB, reduceCtorEq] at hc46)
            refine aa fun K47 hK47 => ?_
            refine aj hP hN rfl ?_
            (refine ad rfl fun K0 Y => ?_; simp only [zE, op1, ev, lkp, ah, ag, ev, reduceCtorEq, G, E, J, V, M, U, Tryd.td26, Mly.av]; refine Y _ ?_; clear Y K0; simp only [put, app, a9, af, zE, zS, E])
            refine ai ?_
            refine hK47 _ ?_; clear hK47; refine ae [1, 2, 3, 4, 5, 6, 7, 42, 43, 67, 68, 69, 101] ?_; simp only [Z, lkp, zE, reduceCtorEq, G, a8, E]
            refine aP ?_
            refine ⟨by first | exact .inl rfl | exact .inr rfl, _, rfl, ?_⟩; simp only [fzV, fz1, fzC, List.map_cons, List.map_nil, Z, lkp, zE, reduceCtorEq, G, a8, E, Mly.av]
            refine VLE.of_eq ?_
            refine congrArg (fun n => AV.one (AC.int IntKind.i64 n)) ?_
            symm
            unfold cg
            first
            | (rw [if_pos (by omega)]; done)
            | (rw [if_neg (by omega), if_pos (by omega)]; done)
            | (rw [if_neg (by omega), if_neg (by omega), if_pos (by omega)]; done)
            | (rw [if_neg (by omega), if_neg (by omega), if_neg (by omega), if_pos (by omega)]; done)
            | (rw [if_neg (by omega), if_neg (by omega), if_neg (by omega), if_neg (by omega), if_pos (by omega)]; done)
            | (rw [if_neg (by omega), if_neg (by omega), if_neg (by omega), if_neg (by omega), if_neg (by omega)]
               first
               | exact (aX hrows (by omega) (by rw [cf hc32.1 hc32.2 (j := j) (by omega) (by unfold bU; omega)]; decide)).trans (cf hc32.1 hc32.2 (by omega) (by unfold bU; omega))
               | exact (aX hrows (by omega) (by rw [cd hc32]; decide)).trans (cd hc32)
               | exact bD fun i hi => hrows i (by omega))
           ·(try simp only [zB, reduceCtorEq] at hc46)
            refine aJ ?_
            refine hK39 _ ?_; clear hK39; refine ae [1, 3, 4, 5, 6, 7, 42, 43, 67, 68, 69, 101] ?_; simp only [Z, lkp, zE, reduceCtorEq, G, a8, E]
            refine aj hP hN rfl ?_
            iterate 2 (refine ad rfl fun K0 Y => ?_; simp only [zE, op1, ev, lkp, ah, ag, aC, aD, aE, ao, aB, aR, reduceCtorEq, G, E, J, V, M, U, Tryd.td3, Mly.av]; (repeat refine And.intro (by first | omega | assumption | exact rfl) ?_); refine Y _ ?_; clear Y K0; simp only [put, app, a9, af, zE, zS, E])
            refine ai ?_
            refine ⟨_, _, ?_, aS [1, 3, 4, 42, 43, 67, 68], j + 1, ?_, fun a ha => ?_, rfl, rfl⟩
            · omega
            · omega
            · by_cases e : a = j
              · rw [e]; unfold bU; omega
              · exact hcells a (by omega)
          ·(try simp only [zB, reduceCtorEq] at hc38)
           refine bK ?_
           refine hK27 _ ?_; clear hK27; refine ae [1, 3, 4, 42, 43, 67, 68, 69] ?_; simp only [Z, lkp, zE, reduceCtorEq, G, a8, E]
           refine aj hP hN rfl ?_
           iterate 2 (refine ad rfl fun K0 Y => ?_; simp only [zE, op1, ev, lkp, ah, ag, aC, aD, aE, ao, aB, aR, reduceCtorEq, G, E, J, V, M, U, Tryd.td3, Mly.av]; (repeat refine And.intro (by first | omega | assumption | exact rfl) ?_); refine Y _ ?_; clear Y K0; simp only [put, app, a9, af, zE, zS, E])
           refine ai ?_
           refine ⟨_, _, ?_, aS [1, 3, 42, 43], k + 1, by omega, fun i hi => ?_, rfl, rfl⟩
           · omega
           · by_cases e : i = k
             · rw [e]; exact gQ hc32.1 hc32.2 fun a ha => hcells a (by omega)
             · exact hrows i (by omega)
       ·(try simp only [zB, reduceCtorEq] at hc26)
        refine bK ?_
        refine hK21 _ ?_; clear hK21; refine ae [1, 3, 42, 43, 44] ?_; simp only [Z, lkp, zE, reduceCtorEq, G, a8, E]
        refine aa fun K48 hK48 => ?_
        refine aj hP hN rfl ?_
        (refine ad rfl fun K0 Y => ?_; simp only [zE, op1, ev, lkp, ah, ag, ev, reduceCtorEq, G, E, J, V, M, U, Tryd.td26, Mly.av]; refine Y _ ?_; clear Y K0; simp only [put, app, a9, af, zE, zS, E])
        refine ai ?_
        refine hK48 _ ?_; clear hK48; refine ae [1, 2, 3, 42, 43, 44] ?_; simp only [Z, lkp, zE, reduceCtorEq, G, a8, E]
        refine aP ?_
        refine ⟨by first | exact .inl rfl | exact .inr rfl, _, rfl, ?_⟩; simp only [fzV, fz1, fzC, List.map_cons, List.map_nil, Z, lkp, zE, reduceCtorEq, G, a8, E, Mly.av]
        refine VLE.of_eq ?_
        refine congrArg (fun n => AV.one (AC.int IntKind.i64 n)) ?_
        symm
        unfold cg
        first
        | (rw [if_pos (by omega)]; done)
        | (rw [if_neg (by omega), if_pos (by omega)]; done)
        | (rw [if_neg (by omega), if_neg (by omega), if_pos (by omega)]; done)
        | (rw [if_neg (by omega), if_neg (by omega), if_neg (by omega), if_pos (by omega)]; done)
        | (rw [if_neg (by omega), if_neg (by omega), if_neg (by omega), if_neg (by omega), if_pos (by omega)]; done)
        | (rw [if_neg (by omega), if_neg (by omega), if_neg (by omega), if_neg (by omega), if_neg (by omega)]
           first
           | exact (aX hrows (by omega) (by rw [cf hc32.1 hc32.2 (j := j) (by omega) (by unfold bU; omega)]; decide)).trans (cf hc32.1 hc32.2 (by omega) (by unfold bU; omega))
           | exact (aX hrows (by omega) (by rw [cd hc32]; decide)).trans (cd hc32)
           | exact bD fun i hi => hrows i (by omega))
end Go.Proofs.YtgmgnkmgofkfpaaDoor
namespace Go.Proofs.YtgmgnkmgofkfpaaDoor
open Go Go.AV
open Nat renaming reduceEqDiff → G, reduceAdd → E, reduceLeDiff → J, reduceLT → V, reduceMul → M, reduceSub → U
open List renaming set_cons_zero → aA, set_cons_succ → az
set_option maxRecDepth 100000 in
theorem qX (n : Int) (h0 : 0 ≤ n) (h1 : n ≤ 1000000) : nQ Tryd.prog 64 [.one .nils, .one (.int .i64 n)] (.int .i64) 3 (([] : List Int)) := by
 refine i4 Tryd.func64 rfl (by kernel_rfl) (Nat.le_of_ble_eq_true rfl) rfl fun C hP hN hB => ?_
 replace hN : C.N = 27 := hN
 simp only [a8, E]
 refine aa fun K1 hK1 => ?_
 refine aj hP hN rfl ?_
 (refine ad rfl fun K0 Y => ?_; simp only [zE, op1, ev, lkp, ah, ag, ev, reduceCtorEq, G, E, J, V, M, U, Tryd.el25, Tryd.td25]; refine Y _ ?_; clear Y K0; simp only [put, app, a9, af, zE, zS, E])
 refine ai ?_
 refine hK1 _ ?_; clear hK1; refine ae [0, 1, 4] ?_; simp only [Z, lkp, zE, reduceCtorEq, G, a8, E]
 refine aa fun K2 hK2 => ?_
 refine aa fun K3 hK3 => ?_
 refine aj hP hN rfl ?_
 iterate 2 (refine ad rfl fun K0 Y => ?_; simp only [zE, op1, ev, lkp, ah, ag, aC, aD, aE, ao, aB, aR, reduceCtorEq, G, E, J, V, M, U, Tryd.td3, Tryd.td4]; (repeat refine And.intro (by first | omega | assumption | exact rfl) ?_); refine Y _ ?_; clear Y K0; simp only [put, app, a9, af, zE, zS, E])
 refine ai ?_
 refine hK3 _ ?_; clear hK3; refine ae [0, 1, 4, 6] ?_; simp only [Z, lkp, zE, reduceCtorEq, G, a8, E]
 refine aG (by simp only [ev, Z, lkp, zE, reduceCtorEq, G, a8, E]; exact rfl) (fun hc4 => ?_) (fun hc4 => ?_)
 · exfalso; (try simp only [zB, reduceCtorEq] at hc4); all_goals (first | (cases hc4; done) | omega | (simp at hc4; done) | (simp_all; done))
 ·(try simp only [zB, reduceCtorEq] at hc4)
  refine aJ ?_
  refine hK2 _ ?_; clear hK2; refine ae [0, 1, 4, 6] ?_; simp only [Z, lkp, zE, reduceCtorEq, G, a8, E]
  refine aa fun K5 hK5 => ?_
  refine aa fun K6 hK6 => ?_
  refine aj hP hN rfl ?_
  iterate 8 (refine ad rfl fun K0 Y => ?_; simp only [zE, op1, ev, lkp, ah, ag, aF, bu, bh, ba, bb, bq, Nat.div_one, aK, bf, Ty.size, aL, dite_true, aC, aD, aE, ao, aB, aR, reduceCtorEq, G, E, J, V, M, U, Tryd.el25, Tryd.td25, Tryd.td3]; (repeat refine And.intro (by first | omega | assumption | exact rfl) ?_); (first | refine Y _ ?_ | refine Or.inl (Y _ ?_)); clear Y K0; simp only [put, app, a9, af, zE, zS, E])
  refine ai ?_
  refine hK6 _ ?_; clear hK6; refine ae [0, 1, 4, 6] ?_; simp only [Z, lkp, zE, reduceCtorEq, G, a8, E]
  refine aa fun K7 hK7 => ?_
  refine aj hP hN rfl ?_
  iterate 2 (refine ad rfl fun K0 Y => ?_; simp only [zE, op1, ev, lkp, ah, ag, aC, aD, aE, ao, aB, aR, reduceCtorEq, G, E, J, V, M, U, Tryd.td3, Tryd.td4]; (repeat refine And.intro (by first | omega | assumption | exact rfl) ?_); refine Y _ ?_; clear Y K0; simp only [put, app, a9, af, zE, zS, E])
  refine ai ?_
  refine hK7 _ ?_; clear hK7; refine ae [0, 1, 4, 6, 16] ?_; simp only [Z, lkp, zE, reduceCtorEq, G, a8, E]
  refine aG (by simp only [ev, Z, lkp, zE, reduceCtorEq, G, a8, E]; exact rfl) (fun hc8 => ?_) (fun hc8 => ?_)
  ·(try simp only [zB, reduceCtorEq] at hc8)
   refine aj hP hN rfl ?_
   iterate 10 (refine ad rfl fun K0 Y => ?_; simp only [zE, op1, ev, lkp, ah, ag, aF, bu, bh, ba, bb, bq, Nat.div_one, aK, bf, Ty.size, aL, dite_true, fL, bnd, reduceCtorEq, G, E, J, V, M, U, Tryd.el25, Tryd.td25, Tryd.td3]; (repeat refine And.intro (by first | omega | assumption | exact rfl) ?_); (first | refine Y _ ?_ | refine Or.inl (Y _ ?_)); clear Y K0; simp only [put, app, a9, af, zE, zS, E])
   refine ai ?_
   refine hK5 _ ?_; clear hK5; refine ae [0, 1, 4, 6, 16] ?_; simp only [Z, lkp, zE, reduceCtorEq, G, a8, E]
   refine aa fun K9 hK9 => ?_
   first | (refine cL 0 (.int .i64) 3 (by decide) rfl ?_; simp only [List.length_cons, List.length_nil, List.cons_append, List.nil_append, Nat.zero_add, E]) | skip
   refine aj hP hN rfl ?_
   iterate 2 (refine ad rfl fun K0 Y => ?_; simp only [zE, op1, ev, lkp, ah, ag, ev, reduceCtorEq, G, E, J, V, M, U, Tryd.el25, Tryd.td25]; refine Y _ ?_; clear Y K0; simp only [put, app, a9, af, zE, zS, E])
   refine ai ?_
   refine hK9 _ ?_; clear hK9; refine ae [0, 1, 4, 6, 16] ?_; simp only [Z, lkp, zE, reduceCtorEq, G, a8, E]
   refine aP ?_
   refine ⟨by first | exact .inl rfl | exact .inr rfl, _, rfl, _, _, rfl, ?_⟩
   first | rfl | simp
  ·(try simp only [zB, reduceCtorEq] at hc8)
   refine aJ ?_
   refine hK5 _ ?_; clear hK5; refine ae [0, 1, 4, 6, 16] ?_; simp only [Z, lkp, zE, reduceCtorEq, G, a8, E]
   refine aa fun K10 hK10 => ?_
   first | (refine cL 0 (.int .i64) 3 (by decide) rfl ?_; simp only [List.length_cons, List.length_nil, List.cons_append, List.nil_append, Nat.zero_add, E]) | skip
   refine aj hP hN rfl ?_
   iterate 2 (refine ad rfl fun K0 Y => ?_; simp only [zE, op1, ev, lkp, ah, ag, ev, reduceCtorEq, G, E, J, V, M, U, Tryd.el25, Tryd.td25]; refine Y _ ?_; clear Y K0; simp only [put, app, a9, af, zE, zS, E])
   refine ai ?_
   refine hK10 _ ?_; clear hK10; refine ae [0, 1, 4, 6, 16] ?_; simp only [Z, lkp, zE, reduceCtorEq, G, a8, E]
   refine aP ?_
   refine ⟨by first | exact .inl rfl | exact .inr rfl, _, rfl, _, _, rfl, ?_⟩
   first | rfl | simp
end Go.Proofs.YtgmgnkmgofkfpaaDoor
namespace Go.Proofs.YtgmgnkmgofkfpaaDoor
open Go Go.AV
open Nat renaming reduceEqDiff → G, reduceAdd → E, reduceLeDiff → J, reduceLT → V, reduceMul → M, reduceSub → U
open List renaming set_cons_zero → aA, set_cons_succ → az
set_option maxRecDepth 100000 in
theorem o8 (ls : List (List Int)) (hb : ls.flatten.length ≤ 1000000) : ch Tryd.prog 55 [.one (.list (.list (.int .i64)) ls)] (.one (.list (.int .i64) ls.flatten)) := by
 refine bp Tryd.func55 rfl (by kernel_rfl) (Nat.le_of_ble_eq_true rfl) rfl fun C hP hN hB => ?_
 replace hN : C.N = 36 := hN
 simp only [a8, E]
 refine gX 0 rfl fun hf0 => ?_; simp only [lkp, if_true, if_false, reduceCtorEq, G, eq_self, Nat.one_ne_zero, Nat.zero_ne_one, kA, jR, jo, Fit, and_true, implies_true, true_and] at hf0
 refine aa fun K1 hK1 => ?_
 refine aj hP hN rfl ?_
 (refine ad rfl fun K0 Y => ?_; simp only [zE, op1, ev, lkp, ah, ag, ev, reduceCtorEq, G, E, J, V, M, U, Tryd.el25, Tryd.td25]; refine Y _ ?_; clear Y K0; simp only [put, app, a9, af, zE, zS, E])
 refine ai ?_
 refine hK1 _ ?_; clear hK1; refine ae [0, 2] ?_; simp only [Z, lkp, zE, reduceCtorEq, G, a8, E]
 refine aa fun K2 hK2 => ?_
 refine aj hP hN rfl ?_
 (refine ad rfl fun K0 Y => ?_; simp only [zE, op1, ev, lkp, ah, ag, ev, reduceCtorEq, G, E, J, V, M, U, Tryd.td3]; refine Y _ ?_; clear Y K0; simp only [put, app, a9, af, zE, zS, E])
 refine ai ?_
 refine hK2 _ ?_; clear hK2; refine ae [0, 2, 3] ?_; simp only [Z, lkp, zE, reduceCtorEq, G, a8, E]
 refine aa fun K3 hK3 => ?_
 refine aa fun K4 hK4 => ?_
 refine aj hP hN rfl ?_
 iterate 3 (refine ad rfl fun K0 Y => ?_; simp only [zE, op1, ev, lkp, ah, ag, aF, bu, bh, ba, bb, bq, Nat.div_one, aK, bf, Ty.size, aL, dite_true, reduceCtorEq, G, E, J, V, M, U, Tryd.el22, Tryd.td22, Tryd.td3]; (repeat refine And.intro (by first | omega | assumption | exact rfl) ?_); (first | refine Y _ ?_ | refine Or.inl (Y _ ?_)); clear Y K0; simp only [put, app, a9, af, zE, zS, E])
 refine ai ?_
 refine hK4 _ ?_; clear hK4; refine ae [0, 2, 3, 9, 10, 11] ?_; simp only [Z, lkp, zE, reduceCtorEq, G, a8, E]
 refine aW ?_
 refine bM (fun n5 s5 => ∃ (k : Nat), (k ≤ ls.length) ∧ n5 = ls.length - k ∧ s5 = { env := [(0, .one (.list (.list (.int .i64)) ls)), (3, .one (.int .i64 (((ls.take k).flatten.length : Nat) : Int))), (9, .one (.list (.list (.int .i64)) ls)), (10, .one (.int .i64 (ls.length : Int))), (11, .one (.int .i64 (k : Int)))], L := [] }) ?_ ?_
 ·exact ⟨_, _, aS [0, 3, 9, 10, 11], 0, Nat.zero_le _, rfl, rfl⟩
 ·rintro n5 s5 ⟨k, hk, rfl, rfl⟩
  refine aa fun K6 hK6 => ?_
  refine aj hP hN rfl ?_
  (refine ad rfl fun K0 Y => ?_; simp only [zE, op1, ev, lkp, ah, ag, aC, aD, aE, ao, aB, aR, reduceCtorEq, G, E, J, V, M, U, Tryd.td3]; (repeat refine And.intro (by first | omega | assumption | exact rfl) ?_); refine Y _ ?_; clear Y K0; simp only [put, app, a9, af, zE, zS, E])
  refine ai ?_
  refine hK6 _ ?_; clear hK6; refine ae [0, 3, 9, 10, 11, 12] ?_; simp only [Z, lkp, zE, reduceCtorEq, G, a8, E]
  refine aa fun K7 hK7 => ?_
  refine aG (by simp only [ev, Z, lkp, zE, reduceCtorEq, G, a8, E]; exact rfl) (fun hc8 => ?_) (fun hc8 => ?_)
  ·(try simp only [zB, reduceCtorEq] at hc8)
   refine aJ ?_
   refine hK7 _ ?_; clear hK7; refine ae [0, 3, 9, 10, 11, 12] ?_; simp only [Z, lkp, zE, reduceCtorEq, G, a8, E]
   refine aa fun K9 hK9 => ?_
   refine aW ?_
   refine aa fun K10 hK10 => ?_
   refine aj hP hN rfl ?_
   iterate 3 (refine ad rfl fun K0 Y => ?_; simp only [zE, op1, ev, lkp, ah, ag, aI, zG, Ty.dflt, Ty.size, Nat.mul_one, ne_eq, not_false_eq_true, Int.natCast_one, Int.mul_one, ay, aw, ax, acs, aq, reduceCtorEq, G, E, J, V, M, U, Tryd.el22, Tryd.el25, Tryd.td22, Tryd.td25]; (repeat refine And.intro (by first | omega | assumption | exact rfl) ?_); refine Y _ ?_; clear Y K0; simp only [put, app, a9, af, zE, zS, E])
   refine ai ?_
   refine hK10 _ ?_; clear hK10; refine ae [0, 3, 5, 9, 10, 11, 12] ?_; simp only [Z, lkp, zE, reduceCtorEq, G, a8, E]
   refine aa fun K11 hK11 => ?_
   have hfl := dH ls (k + 1); have hfe : (ls.take (k + 1)).flatten.length = (ls.take k).flatten.length + (ls.getD k []).length := by rw [cX ls (by omega), List.length_append]
   refine aj hP hN rfl ?_
   iterate 5 (refine ad rfl fun K0 Y => ?_; simp only [zE, op1, ev, lkp, ah, ag, aF, bu, bh, ba, bb, bq, Nat.div_one, aK, bf, Ty.size, aL, dite_true, aC, aD, aE, ao, aB, aR, reduceCtorEq, G, E, J, V, M, U, Tryd.el25, Tryd.td25, Tryd.td3]; (repeat refine And.intro (by first | omega | assumption | exact rfl) ?_); (first | refine Y _ ?_ | refine Or.inl (Y _ ?_)); clear Y K0; simp only [put, app, a9, af, zE, zS, E])
   refine ai ?_
   refine hK11 _ ?_; clear hK11; refine ae [0, 3, 5, 9, 10, 11, 12] ?_; simp only [Z, lkp, zE, reduceCtorEq, G, a8, E]
   refine aa fun K12 hK12 => ?_
   refine aj hP hN rfl ?_
   iterate 2 (refine ad rfl fun K0 Y => ?_; simp only [zE, op1, ev, lkp, ah, ag, aC, aD, aE, ao, aB, aR, reduceCtorEq, G, E, J, V, M, U, Tryd.td3, Tryd.td4]; (repeat refine And.intro (by first | omega | assumption | exact rfl) ?_); refine Y _ ?_; clear Y K0; simp only [put, app, a9, af, zE, zS, E])
   refine ai ?_
   refine hK12 _ ?_; clear hK12; refine ae [0, 3, 5, 9, 10, 11, 12, 20] ?_; simp only [Z, lkp, zE, reduceCtorEq, G, a8, E]
   refine aG (by simp only [ev, Z, lkp, zE, reduceCtorEq, G, a8, E]; exact rfl) (fun hc13 => ?_) (fun hc13 => ?_)
   · exfalso; (try simp only [zB, reduceCtorEq] at hc13); all_goals (first | (cases hc13; done) | omega | (simp at hc13; done) | (simp_all; done))
   ·(try simp only [zB, reduceCtorEq] at hc13)
    refine aJ ?_
    refine hK9 _ ?_; clear hK9; refine ae [0, 3, 5, 9, 10, 11, 12, 20] ?_; simp only [Z, lkp, zE, reduceCtorEq, G, a8, E]
    refine aj hP hN rfl ?_
    iterate 2 (refine ad rfl fun K0 Y => ?_; simp only [zE, op1, ev, lkp, ah, ag, aC, aD, aE, ao, aB, aR, reduceCtorEq, G, E, J, V, M, U, Tryd.td3]; (repeat refine And.intro (by first | omega | assumption | exact rfl) ?_); refine Y _ ?_; clear Y K0; simp only [put, app, a9, af, zE, zS, E])
    refine ai ?_
    refine ⟨_, _, ?_, aS [0, 3, 9, 10, 11], k + 1, by omega, rfl, ?_⟩
    · omega
    · rw [hfe]; simp only [Int.natCast_add]; rfl
  ·(try simp only [zB, reduceCtorEq] at hc8)
   refine bK ?_
   refine hK3 _ ?_; clear hK3; refine ae [0, 3, 9, 10, 11, 12] ?_; simp only [Z, lkp, zE, reduceCtorEq, G, a8, E]
   refine aa fun K14 hK14 => ?_
   have hfl := dH ls k
   refine aj hP hN rfl ?_
   (refine ad rfl fun K0 Y => ?_; simp only [zE, op1, ev, lkp, ah, ag, ev, reduceCtorEq, G, E, J, V, M, U, Tryd.td3]; refine Y _ ?_; clear Y K0; simp only [put, app, a9, af, zE, zS, E])
   refine ad rfl fun K0 Y => ?_
   refine bc (h := jC (qX (((ls.take k).flatten.length : Nat) : Int) (by omega) (by omega))) rfl rfl (by first | exact rfl | (simp only [ev, Z, lkp, zE, reduceCtorEq, G, a8, E]; exact rfl)) (by simp only [zE, zG, op1, ev, lkp, ah, ag, au, acs, br, mv1, mvC, Ty.dflt, reduceCtorEq, G, E, J, V, M, U]) ?_
   refine Y _ ?_; clear Y K0; simp only [put, app, a9, af, zE, zS, E]
   (refine ad rfl fun K0 Y => ?_; simp only [zE, op1, ev, lkp, ah, ag, ev, reduceCtorEq, G, E, J, V, M, U, Tryd.el25, Tryd.td25]; refine Y _ ?_; clear Y K0; simp only [put, app, a9, af, zE, zS, E])
   refine ai ?_
   refine hK14 _ ?_; clear hK14; refine ae [0, 3, 6, 9, 10, 11, 12] ?_; simp only [Z, lkp, zE, reduceCtorEq, G, a8, E]
   refine aa fun K15 hK15 => ?_
   refine aa fun K16 hK16 => ?_
   refine aj hP hN rfl ?_
   iterate 3 (refine ad rfl fun K0 Y => ?_; simp only [zE, op1, ev, lkp, ah, ag, aF, bu, bh, ba, bb, bq, Nat.div_one, aK, bf, Ty.size, aL, dite_true, reduceCtorEq, G, E, J, V, M, U, Tryd.el22, Tryd.td22, Tryd.td3]; (repeat refine And.intro (by first | omega | assumption | exact rfl) ?_); (first | refine Y _ ?_ | refine Or.inl (Y _ ?_)); clear Y K0; simp only [put, app, a9, af, zE, zS, E])
   refine ai ?_
   refine hK16 _ ?_; clear hK16; refine ae [0, 3, 6, 9, 10, 11, 12, 25, 26, 27] ?_; simp only [Z, lkp, zE, reduceCtorEq, G, a8, E]
   refine aW ?_
   refine bM (fun n17 s17 => ∃ (k : Nat) (v : Nat), (k ≤ ls.length) ∧ n17 = ls.length - k ∧ s17 = { env := [(6, .one (.row 0 v)), (25, .one (.list (.list (.int .i64)) ls)), (26, .one (.int .i64 (ls.length : Int))), (27, .one (.int .i64 (k : Int)))], L := [.row (.int .i64) 3 v (ls.take k).flatten] }) ?_ ?_
   ·exact ⟨_, _, aS [6, 25, 26, 27], 0, 0, Nat.zero_le _, rfl, rfl⟩
   ·rintro n17 s17 ⟨k, v, hk, rfl, rfl⟩
    refine aa fun K18 hK18 => ?_
    refine aj hP hN rfl ?_
    (refine ad rfl fun K0 Y => ?_; simp only [zE, op1, ev, lkp, ah, ag, aC, aD, aE, ao, aB, aR, reduceCtorEq, G, E, J, V, M, U, Tryd.td3]; (repeat refine And.intro (by first | omega | assumption | exact rfl) ?_); refine Y _ ?_; clear Y K0; simp only [put, app, a9, af, zE, zS, E])
    refine ai ?_
    refine hK18 _ ?_; clear hK18; refine ae [6, 25, 26, 27, 28] ?_; simp only [Z, lkp, zE, reduceCtorEq, G, a8, E]
    refine aa fun K19 hK19 => ?_
    refine aG (by simp only [ev, Z, lkp, zE, reduceCtorEq, G, a8, E]; exact rfl) (fun hc20 => ?_) (fun hc20 => ?_)
    ·(try simp only [zB, reduceCtorEq] at hc20)
     refine aJ ?_
     refine hK19 _ ?_; clear hK19; refine ae [6, 25, 26, 27, 28] ?_; simp only [Z, lkp, zE, reduceCtorEq, G, a8, E]
     refine aa fun K21 hK21 => ?_
     refine aW ?_
     refine aa fun K22 hK22 => ?_
     refine aj hP hN rfl ?_
     iterate 3 (refine ad rfl fun K0 Y => ?_; simp only [zE, op1, ev, lkp, ah, ag, aI, zG, Ty.dflt, Ty.size, Nat.mul_one, ne_eq, not_false_eq_true, Int.natCast_one, Int.mul_one, ay, aw, ax, acs, aq, reduceCtorEq, G, E, J, V, M, U, Tryd.el22, Tryd.el25, Tryd.td22, Tryd.td25]; (repeat refine And.intro (by first | omega | assumption | exact rfl) ?_); refine Y _ ?_; clear Y K0; simp only [put, app, a9, af, zE, zS, E])
     refine ai ?_
     refine hK22 _ ?_; clear hK22; refine ae [6, 8, 25, 26, 27, 28] ?_; simp only [Z, lkp, zE, reduceCtorEq, G, a8, E]
     have hfl := dH ls (k + 1); have hfe : (ls.take (k + 1)).flatten.length = (ls.take k).flatten.length + (ls.getD k []).length := by rw [cX ls (by omega), List.length_append]
     refine aj hP hN rfl ?_
     iterate 4 (refine ad rfl fun K0 Y => ?_; simp only [zE, op1, ev, lkp, ah, ag, aF, bu, bh, ba, bb, bq, Nat.div_one, aK, bf, Ty.size, aL, dite_true, reduceCtorEq, G, E, J, V, M, U, Tryd.el25, Tryd.td25]; (repeat refine And.intro (by first | omega | assumption | exact rfl) ?_); (first | refine Y _ ?_ | refine Or.inl (Y _ ?_)); clear Y K0; simp only [put, app, a9, af, zE, zS, E])
     refine ai ?_
     refine hK21 _ ?_; clear hK21; refine ae [6, 8, 25, 26, 27, 28] ?_; simp only [Z, lkp, zE, reduceCtorEq, G, a8, E]
     refine aj hP hN rfl ?_
     iterate 2 (refine ad rfl fun K0 Y => ?_; simp only [zE, op1, ev, lkp, ah, ag, aC, aD, aE, ao, aB, aR, reduceCtorEq, G, E, J, V, M, U, Tryd.td3]; (repeat refine And.intro (by first | omega | assumption | exact rfl) ?_); refine Y _ ?_; clear Y K0; simp only [put, app, a9, af, zE, zS, E])
     refine ai ?_
     refine ⟨_, _, ?_, aS [6, 25, 26, 27], k + 1, v + 1, by omega, rfl, ?_⟩
     · omega
     · rw [cX ls (by omega)]; rfl
    ·(try simp only [zB, reduceCtorEq] at hc20)
     refine bK ?_
     refine hK15 _ ?_; clear hK15; refine ae [6, 25, 26, 27, 28] ?_; simp only [Z, lkp, zE, reduceCtorEq, G, a8, E]
     refine aa fun K23 hK23 => ?_
     refine aj hP hN rfl ?_
     iterate 2 (refine ad rfl fun K0 Y => ?_; simp only [zE, op1, ev, lkp, ah, ag, ev, reduceCtorEq, G, E, J, V, M, U, Tryd.el25, Tryd.td25]; refine Y _ ?_; clear Y K0; simp only [put, app, a9, af, zE, zS, E])
     refine ai ?_
     refine hK23 _ ?_; clear hK23; refine ae [2, 6, 25, 26, 27, 28] ?_; simp only [Z, lkp, zE, reduceCtorEq, G, a8, E]
     refine aP ?_
     refine ⟨by first | exact .inl rfl | exact .inr rfl, _, rfl, ?_⟩; simp only [fzV, fz1, fzC, List.map_cons, List.map_nil, Z, lkp, zE, reduceCtorEq, G, a8, E]
     refine VLE.of_eq ?_
     have htk : ls.take k = ls := by rw [show k = ls.length by omega, List.take_length]
     rw [htk]
end Go.Proofs.YtgmgnkmgofkfpaaDoor
namespace Go.Proofs.YtgmgnkmgofkfpaaDoor
open Go Go.AV
open Nat renaming reduceEqDiff → G, reduceAdd → E, reduceLeDiff → J, reduceLT → V, reduceMul → M, reduceSub → U
open List renaming set_cons_zero → aA, set_cons_succ → az
set_option maxRecDepth 100000 in
theorem pI (ls : List (List Int)) (hb : ls.flatten.length ≤ 1000000) : ch Tryd.prog 44 [.one (.list (.list (.int .i64)) ls)] (.one (.list (.int .i64) ls.flatten)) := by
 refine bp Tryd.func44 rfl (by kernel_rfl) (Nat.le_of_ble_eq_true rfl) rfl fun C hP hN hB => ?_
 replace hN : C.N = 5 := hN
 simp only [a8, E]
 refine aa fun K1 hK1 => ?_
 refine aj hP hN rfl ?_
 (refine ad rfl fun K0 Y => ?_; simp only [zE, op1, ev, lkp, ah, ag, ev, reduceCtorEq, G, E, J, V, M, U, Tryd.el25, Tryd.td25]; refine Y _ ?_; clear Y K0; simp only [put, app, a9, af, zE, zS, E])
 refine ai ?_
 refine hK1 _ ?_; clear hK1; refine ae [0, 2] ?_; simp only [Z, lkp, zE, reduceCtorEq, G, a8, E]
 refine aa fun K2 hK2 => ?_
 refine aj hP hN rfl ?_
 (refine ad rfl fun K0 Y => ?_; simp only [zE, op1, ev, lkp, ah, ag, ev, reduceCtorEq, G, E, J, V, M, U, Tryd.el22, Tryd.td22]; refine Y _ ?_; clear Y K0; simp only [put, app, a9, af, zE, zS, E])
 refine ad rfl fun K0 Y => ?_
 refine bc (h := aU (o8 ls hb)) rfl rfl (by first | exact rfl | (simp only [ev, Z, lkp, zE, reduceCtorEq, G, a8, E]; exact rfl)) (by simp only [zE, zG, op1, ev, lkp, ah, ag, au, acs, br, mv1, mvC, Ty.dflt, reduceCtorEq, G, E, J, V, M, U]) ?_
 refine Y _ ?_; clear Y K0; simp only [put, app, a9, af, zE, zS, E]
 (refine ad rfl fun K0 Y => ?_; simp only [zE, op1, ev, lkp, ah, ag, ev, reduceCtorEq, G, E, J, V, M, U, Tryd.el25, Tryd.td25]; refine Y _ ?_; clear Y K0; simp only [put, app, a9, af, zE, zS, E])
 refine ai ?_
 refine hK2 _ ?_; clear hK2; refine ae [0, 2] ?_; simp only [Z, lkp, zE, reduceCtorEq, G, a8, E]
 refine aP ?_
 refine ⟨by first | exact .inl rfl | exact .inr rfl, _, rfl, ?_⟩; simp only [fzV, fz1, fzC, List.map_cons, List.map_nil, Z, lkp, zE, reduceCtorEq, G, a8, E]
 refine VLE.of_eq ?_
 rfl
end Go.Proofs.YtgmgnkmgofkfpaaDoor
namespace Go.Proofs.YtgmgnkmgofkfpaaDoor
open Go Go.AV
open Nat renaming reduceEqDiff → G, reduceAdd → E, reduceLeDiff → J, reduceLT → V, reduceMul → M, reduceSub → U
open List renaming set_cons_zero → aA, set_cons_succ → az
set_option maxRecDepth 100000 in
set_option maxHeartbeats 2000000 in
theorem lx (m : Mly) (p : Mpr) : ch Tryd.prog 22 [m.av, p.av] ((mdl m p).av) := by
 refine bp Tryd.func22 rfl (by kernel_rfl) (Nat.le_of_ble_eq_true rfl) rfl fun C hP hN hB => ?_
 replace hN : C.N = 167 := hN
 simp only [a8, E]
 refine aa fun K1 hK1 => ?_
 refine aj hP hN rfl ?_
 iterate 6 (refine ad rfl fun K0 Y => ?_; simp only [zE, op1, ev, lkp, ah, ag, cA, au, co, reduceCtorEq, G, E, J, V, M, U, Tryd.st24, Tryd.st47, Tryd.st50, Tryd.td24, Tryd.td26, Tryd.td4, Tryd.td47, Tryd.td50, Mly.av, Mpr.av, List.length_map]; (repeat refine And.intro (by first | omega | assumption | exact rfl) ?_); (first | refine Y _ ?_ | refine Or.inl (Y _ ?_)); clear Y K0; simp only [put, app, a9, af, zE, zS, E])
 refine ai ?_
 refine hK1 _ ?_; clear hK1; refine ae [0, 1, 2, 3, 4, 5, 6, 7] ?_; simp only [Z, lkp, zE, reduceCtorEq, G, a8, E]
 refine aa fun K2 hK2 => ?_
 refine aj hP hN rfl ?_
 (refine ad rfl fun K0 Y => ?_; simp only [zE, op1, ev, lkp, ah, ag, ev, reduceCtorEq, G, E, J, V, M, U, Tryd.td80, Mly.av, Mpr.av, List.length_map]; refine Y _ ?_; clear Y K0; simp only [put, app, a9, af, zE, zS, E])
 refine ai ?_
 refine hK2 _ ?_; clear hK2; refine ae [0, 1, 2, 3, 4, 5, 6, 7, 8] ?_; simp only [Z, lkp, zE, reduceCtorEq, G, a8, E]
 refine aa fun K3 hK3 => ?_
 refine aa fun K4 hK4 => ?_
 refine aj hP hN rfl ?_
 (refine ad rfl fun K0 Y => ?_; simp only [zE, op1, ev, lkp, ah, ag, ay, Nat.mul_one, aw, ax, acs, Ty.dflt, zG, aq, reduceCtorEq, G, E, J, V, M, U, Tryd.st47, Tryd.td47, Mly.av, Mpr.av, List.length_map]; (repeat refine And.intro (by first | omega | assumption | exact rfl) ?_); refine Y _ ?_; clear Y K0; simp only [put, app, a9, af, zE, zS, E])
 refine ad rfl fun K0 Y => ?_
 refine bc (h := aU (pv m)) rfl rfl (by first | exact rfl | (simp only [ev, Z, lkp, zE, reduceCtorEq, G, a8, E]; exact rfl)) (by simp only [zE, zG, op1, ev, lkp, ah, ag, au, acs, br, mv1, mvC, Ty.dflt, reduceCtorEq, G, E, J, V, M, U, Mly.av, Mpr.av, List.length_map]) ?_
 refine Y _ ?_; clear Y K0; simp only [put, app, a9, af, zE, zS, E]
 (refine ad rfl fun K0 Y => ?_; simp only [zE, op1, ev, lkp, ah, ag, ev, reduceCtorEq, G, E, J, V, M, U, Tryd.td26, Mly.av, Mpr.av, List.length_map]; refine Y _ ?_; clear Y K0; simp only [put, app, a9, af, zE, zS, E])
 refine ai ?_
 refine hK4 _ ?_; clear hK4; refine ae [0, 1, 2, 3, 4, 5, 6, 7, 8, 9] ?_; simp only [Z, lkp, zE, reduceCtorEq, G, a8, E]
 refine aa fun K5 hK5 => ?_
 refine aj hP hN rfl ?_
 iterate 2 (refine ad rfl fun K0 Y => ?_; simp only [zE, op1, ev, lkp, ah, ag, aC, aD, aE, ao, aB, aR, reduceCtorEq, G, E, J, V, M, U, Tryd.td26, Tryd.td4, Mly.av, Mpr.av, List.length_map]; (repeat refine And.intro (by first | omega | assumption | exact rfl) ?_); refine Y _ ?_; clear Y K0; simp only [put, app, a9, af, zE, zS, E])
 refine ai ?_
 refine hK5 _ ?_; clear hK5; refine ae [0, 1, 2, 3, 4, 5, 6, 7, 8, 9, 25] ?_; simp only [Z, lkp, zE, reduceCtorEq, G, a8, E]
 refine aG (by simp only [ev, Z, lkp, zE, reduceCtorEq, G, a8, E]; exact rfl) (fun hc6 => ?_) (fun hc6 => ?_)
 ·(try simp only [zB, reduceCtorEq] at hc6)
  have e9 := pK (m := m) (p := p) hc6
  refine aa fun K7 hK7 => ?_
  refine aj hP hN rfl ?_
  iterate 2 (refine ad rfl fun K0 Y => ?_; simp only [zE, op1, ev, lkp, ah, ag, ev, reduceCtorEq, G, E, J, V, M, U, Tryd.td26, Tryd.td80, Mly.av, Mpr.av, List.length_map]; refine Y _ ?_; clear Y K0; simp only [put, app, a9, af, zE, zS, E])
  refine ad rfl fun K0 Y => ?_
  refine bc (h := aU (eT (cg m))) rfl rfl (by first | exact rfl | (simp only [ev, Z, lkp, zE, reduceCtorEq, G, a8, E]; exact rfl)) (by simp only [zE, zG, op1, ev, lkp, ah, ag, au, acs, br, mv1, mvC, Ty.dflt, reduceCtorEq, G, E, J, V, M, U, Mly.av, Mpr.av, List.length_map]) ?_
  refine Y _ ?_; clear Y K0; simp only [put, app, a9, af, zE, zS, E]
  iterate 8 (refine ad rfl fun K0 Y => ?_; simp only [zE, op1, ev, lkp, ah, ag, bZ, bI, Nat.mul_one, au, aQ, aL, acs, Ty.size, Ty.dflt, zG, reduceCtorEq, G, E, J, V, M, U, Tryd.st47, Tryd.st50, Tryd.td1, Tryd.td2, Tryd.td26, Tryd.td3, Tryd.td4, Tryd.td47, Tryd.td50, Mly.av, Mpr.av, List.length_map]; (repeat refine And.intro (by first | omega | assumption | exact rfl) ?_); refine Y _ ?_; clear Y K0; simp only [put, app, a9, af, zE, zS, E])
  refine ai ?_
  refine hK7 _ ?_; clear hK7; refine ae [0, 1, 2, 3, 4, 5, 6, 7, 8, 9, 25] ?_; simp only [Z, lkp, zE, reduceCtorEq, G, a8, E]
  refine aP ?_
  refine ⟨by first | exact .inl rfl | exact .inr rfl, _, rfl, ?_⟩; simp only [fzV, fz1, fzC, List.map_cons, List.map_nil, Z, lkp, zE, reduceCtorEq, G, a8, E, Mly.av, Mpr.av, List.length_map]
  rw [e9]
  first
  | exact VLE.of_eq rfl
  | exact bl ⟨aT ⟨.refl _, .refl _, aH rfl, aH rfl, trivial⟩, aT ⟨aH rfl, .refl _, .refl _, trivial⟩, aM (.refl _), aM (.refl _), trivial⟩
  | exact bl ⟨aT ⟨.refl _, .refl _, aH rfl, aH rfl, trivial⟩, aT ⟨.refl _, .refl _, .refl _, trivial⟩, aM (.refl _), aM (.refl _), trivial⟩
  | exact bl ⟨aT ⟨.refl _, .refl _, .refl _, .refl _, trivial⟩, aT ⟨aH rfl, .refl _, .refl _, trivial⟩, aM (.refl _), aM (.refl _), trivial⟩
 ·(try simp only [zB, reduceCtorEq] at hc6)
  have hv1 : cg m = 0 := by omega
  have hm := nM hv1; have hn1 := hm.n1; have hn2 := hm.n2
  refine aJ ?_
  refine hK3 _ ?_; clear hK3; refine ae [0, 1, 2, 3, 4, 5, 6, 7, 8, 9, 25] ?_; simp only [Z, lkp, zE, reduceCtorEq, G, a8, E]
  refine aa fun K8 hK8 => ?_
  refine aa fun K9 hK9 => ?_
  refine aj hP hN rfl ?_
  (refine ad rfl fun K0 Y => ?_; simp only [zE, op1, ev, lkp, ah, ag, ay, Nat.mul_one, aw, ax, acs, Ty.dflt, zG, aq, reduceCtorEq, G, E, J, V, M, U, Tryd.st24, Tryd.td24, Mly.av, Mpr.av, List.length_map]; (repeat refine And.intro (by first | omega | assumption | exact rfl) ?_); refine Y _ ?_; clear Y K0; simp only [put, app, a9, af, zE, zS, E])
  refine ad rfl fun K0 Y => ?_
  refine bc (h := aU (ib p)) rfl rfl (by first | exact rfl | (simp only [ev, Z, lkp, zE, reduceCtorEq, G, a8, E]; exact rfl)) (by simp only [zE, zG, op1, ev, lkp, ah, ag, au, acs, br, mv1, mvC, Ty.dflt, reduceCtorEq, G, E, J, V, M, U, Mly.av, Mpr.av, List.length_map]) ?_
  refine Y _ ?_; clear Y K0; simp only [put, app, a9, af, zE, zS, E]
  (refine ad rfl fun K0 Y => ?_; simp only [zE, op1, ev, lkp, ah, ag, ev, reduceCtorEq, G, E, J, V, M, U, Tryd.td26, Mly.av, Mpr.av, List.length_map]; refine Y _ ?_; clear Y K0; simp only [put, app, a9, af, zE, zS, E])
  refine ai ?_
  refine hK9 _ ?_; clear hK9; refine ae [0, 1, 2, 3, 4, 5, 6, 7, 8, 9, 10, 25] ?_; simp only [Z, lkp, zE, reduceCtorEq, G, a8, E]
  refine aa fun K10 hK10 => ?_
  refine aj hP hN rfl ?_
  iterate 2 (refine ad rfl fun K0 Y => ?_; simp only [zE, op1, ev, lkp, ah, ag, aC, aD, aE, ao, aB, aR, reduceCtorEq, G, E, J, V, M, U, Tryd.td26, Tryd.td4, Mly.av, Mpr.av, List.length_map]; (repeat refine And.intro (by first | omega | assumption | exact rfl) ?_); refine Y _ ?_; clear Y K0; simp only [put, app, a9, af, zE, zS, E])
  refine ai ?_
  refine hK10 _ ?_; clear hK10; refine ae [0, 1, 2, 3, 4, 5, 6, 7, 8, 9, 10, 25, 36] ?_; simp only [Z, lkp, zE, reduceCtorEq, G, a8, E]
  refine aG (by simp only [ev, Z, lkp, zE, reduceCtorEq, G, a8, E]; exact rfl) (fun hc11 => ?_) (fun hc11 => ?_)
  ·(try simp only [zB, reduceCtorEq] at hc11)
   have e9 := p9 (m := m) (p := p) hv1 hc11
   refine aa fun K12 hK12 => ?_
   refine aj hP hN rfl ?_
   iterate 2 (refine ad rfl fun K0 Y => ?_; simp only [zE, op1, ev, lkp, ah, ag, ev, reduceCtorEq, G, E, J, V, M, U, Tryd.td26, Tryd.td80, Mly.av, Mpr.av, List.length_map]; refine Y _ ?_; clear Y K0; simp only [put, app, a9, af, zE, zS, E])
   refine ad rfl fun K0 Y => ?_
   refine bc (h := aU (eT (bQ p))) rfl rfl (by first | exact rfl | (simp only [ev, Z, lkp, zE, reduceCtorEq, G, a8, E]; exact rfl)) (by simp only [zE, zG, op1, ev, lkp, ah, ag, au, acs, br, mv1, mvC, Ty.dflt, reduceCtorEq, G, E, J, V, M, U, Mly.av, Mpr.av, List.length_map]) ?_
   refine Y _ ?_; clear Y K0; simp only [put, app, a9, af, zE, zS, E]
   iterate 8 (refine ad rfl fun K0 Y => ?_; simp only [zE, op1, ev, lkp, ah, ag, bZ, bI, Nat.mul_one, au, aQ, aL, acs, Ty.size, Ty.dflt, zG, reduceCtorEq, G, E, J, V, M, U, Tryd.st47, Tryd.st50, Tryd.td1, Tryd.td2, Tryd.td26, Tryd.td3, Tryd.td4, Tryd.td47, Tryd.td50, Mly.av, Mpr.av, List.length_map]; (repeat refine And.intro (by first | omega | assumption | exact rfl) ?_); refine Y _ ?_; clear Y K0; simp only [put, app, a9, af, zE, zS, E])
   refine ai ?_
   refine hK12 _ ?_; clear hK12; refine ae [0, 1, 2, 3, 4, 5, 6, 7, 8, 9, 10, 25, 36] ?_; simp only [Z, lkp, zE, reduceCtorEq, G, a8, E]
   refine aP ?_
   refine ⟨by first | exact .inl rfl | exact .inr rfl, _, rfl, ?_⟩; simp only [fzV, fz1, fzC, List.map_cons, List.map_nil, Z, lkp, zE, reduceCtorEq, G, a8, E, Mly.av, Mpr.av, List.length_map]
   rw [e9]
   first
   | exact VLE.of_eq rfl
   | exact bl ⟨aT ⟨.refl _, .refl _, aH rfl, aH rfl, trivial⟩, aT ⟨aH rfl, .refl _, .refl _, trivial⟩, aM (.refl _), aM (.refl _), trivial⟩
   | exact bl ⟨aT ⟨.refl _, .refl _, aH rfl, aH rfl, trivial⟩, aT ⟨.refl _, .refl _, .refl _, trivial⟩, aM (.refl _), aM (.refl _), trivial⟩
   | exact bl ⟨aT ⟨.refl _, .refl _, .refl _, .refl _, trivial⟩, aT ⟨aH rfl, .refl _, .refl _, trivial⟩, aM (.refl _), aM (.refl _), trivial⟩
  ·(try simp only [zB, reduceCtorEq] at hc11)
   have hv2 : bQ p = 0 := by omega
   have hp := j8 hv2; have pi1 := hp.i1; have pi2 := hp.i2; have pb1 := hp.b1; have pb2 := hp.b2; have pn1 := hp.n1; have pn2 := hp.n2; have psl := hp.sl
   refine aJ ?_
   refine hK8 _ ?_; clear hK8; refine ae [0, 1, 2, 3, 4, 5, 6, 7, 8, 9, 10, 25, 36] ?_; simp only [Z, lkp, zE, reduceCtorEq, G, a8, E]
   refine aa fun K13 hK13 => ?_
   refine aa fun K14 hK14 => ?_
   refine aj hP hN rfl ?_
   iterate 5 (refine ad rfl fun K0 Y => ?_; simp only [zE, op1, ev, lkp, ah, ag, am, ay, Nat.mul_one, aw, ax, acs, Ty.dflt, zG, aq, aC, aD, aE, ao, aB, aR, reduceCtorEq, G, E, J, V, M, U, Tryd.st24, Tryd.st47, Tryd.td24, Tryd.td3, Tryd.td4, Tryd.td47, Mly.av, Mpr.av, List.length_map]; (repeat refine And.intro (by first | omega | assumption | exact rfl) ?_); refine Y _ ?_; clear Y K0; simp only [put, app, a9, af, zE, zS, E])
   refine ai ?_
   refine hK14 _ ?_; clear hK14; refine ae [0, 1, 2, 3, 4, 5, 6, 7, 8, 9, 10, 25, 36, 48] ?_; simp only [Z, lkp, zE, reduceCtorEq, G, a8, E]
   refine aG (by simp only [ev, Z, lkp, zE, reduceCtorEq, G, a8, E]; exact rfl) (fun hc15 => ?_) (fun hc15 => ?_)
   ·(try simp only [zB, reduceCtorEq] at hc15)
    have e9 := pj hv1 hv2 hc15
    refine aa fun K16 hK16 => ?_
    refine aj hP hN rfl ?_
    (refine ad rfl fun K0 Y => ?_; simp only [zE, op1, ev, lkp, ah, ag, ev, reduceCtorEq, G, E, J, V, M, U, Tryd.td80, Mly.av, Mpr.av, List.length_map]; refine Y _ ?_; clear Y K0; simp only [put, app, a9, af, zE, zS, E])
    refine ad rfl fun K0 Y => ?_
    refine bc (h := aU (eT 15)) rfl rfl (by first | exact rfl | (simp only [ev, Z, lkp, zE, reduceCtorEq, G, a8, E]; exact rfl)) (by simp only [zE, zG, op1, ev, lkp, ah, ag, au, acs, br, mv1, mvC, Ty.dflt, reduceCtorEq, G, E, J, V, M, U, Mly.av, Mpr.av, List.length_map]) ?_
    refine Y _ ?_; clear Y K0; simp only [put, app, a9, af, zE, zS, E]
    iterate 8 (refine ad rfl fun K0 Y => ?_; simp only [zE, op1, ev, lkp, ah, ag, bZ, bI, Nat.mul_one, au, aQ, aL, acs, Ty.size, Ty.dflt, zG, reduceCtorEq, G, E, J, V, M, U, Tryd.st47, Tryd.st50, Tryd.td1, Tryd.td2, Tryd.td26, Tryd.td3, Tryd.td4, Tryd.td47, Tryd.td50, Mly.av, Mpr.av, List.length_map]; (repeat refine And.intro (by first | omega | assumption | exact rfl) ?_); refine Y _ ?_; clear Y K0; simp only [put, app, a9, af, zE, zS, E])
    refine ai ?_
    refine hK16 _ ?_; clear hK16; refine ae [0, 1, 2, 3, 4, 5, 6, 7, 8, 9, 10, 25, 36, 48] ?_; simp only [Z, lkp, zE, reduceCtorEq, G, a8, E]
    refine aP ?_
    refine ⟨by first | exact .inl rfl | exact .inr rfl, _, rfl, ?_⟩; simp only [fzV, fz1, fzC, List.map_cons, List.map_nil, Z, lkp, zE, reduceCtorEq, G, a8, E, Mly.av, Mpr.av, List.length_map]
    rw [e9]
    first
    | exact VLE.of_eq rfl
    | exact bl ⟨aT ⟨.refl _, .refl _, aH rfl, aH rfl, trivial⟩, aT ⟨aH rfl, .refl _, .refl _, trivial⟩, aM (.refl _), aM (.refl _), trivial⟩
    | exact bl ⟨aT ⟨.refl _, .refl _, aH rfl, aH rfl, trivial⟩, aT ⟨.refl _, .refl _, .refl _, trivial⟩, aM (.refl _), aM (.refl _), trivial⟩
    | exact bl ⟨aT ⟨.refl _, .refl _, .refl _, .refl _, trivial⟩, aT ⟨aH rfl, .refl _, .refl _, trivial⟩, aM (.refl _), aM (.refl _), trivial⟩
   ·(try simp only [zB, reduceCtorEq] at hc15)
    have hi : m.inp = p.inp := by omega
    have hst := r7 hm hp; have hs0 := (io hm hp).rng _ (List.mem_singleton.2 rfl); have h88 : (p.nx.length : Int) * m.nx.length ≤ 128 * 128 := Int.mul_le_mul (by omega) (by omega) (by omega) (by omega)
    refine aJ ?_
    refine hK13 _ ?_; clear hK13; refine ae [0, 1, 2, 3, 4, 5, 6, 7, 8, 9, 10, 25, 36, 48] ?_; simp only [Z, lkp, zE, reduceCtorEq, G, a8, E]
    refine aa fun K17 hK17 => ?_
    refine aj hP hN rfl ?_
    iterate 6 (refine ad rfl fun K0 Y => ?_; simp only [zE, op1, ev, lkp, ah, ag, ay, Nat.mul_one, aw, ax, acs, Ty.dflt, zG, aq, gv, c9, b9, aQ, au, co, bI, aL, Ty.size, reduceCtorEq, G, E, J, V, M, U, Tryd.mk82, Tryd.st24, Tryd.st47, Tryd.st85, Tryd.td24, Tryd.td47, Tryd.td85, Mly.av, Mpr.av, List.length_map]; (repeat refine And.intro (by first | omega | assumption | exact rfl) ?_); (first | refine Y _ ?_ | refine Or.inl (Y _ ?_)); clear Y K0; simp only [put, app, a9, af, zE, zS, E])
    refine ai ?_
    refine hK17 _ ?_; clear hK17; refine ae [0, 1, 2, 3, 4, 5, 6, 7, 8, 9, 10, 11, 25, 36, 48] ?_; simp only [Z, lkp, zE, reduceCtorEq, G, a8, E]
    refine aa fun K18 hK18 => ?_
    refine dd 5 9 (.pair (.list (.int .i64)) (.pair (.list (.int .i64)) .unit)) 90 (by decide) rfl rfl ?_; simp only [zS, List.length_cons, List.length_nil, List.cons_append, List.nil_append, Nat.zero_add, E]
    refine aj hP hN rfl ?_
    iterate 10 (refine ad rfl fun K0 Y => ?_; simp only [zE, op1, ev, lkp, ah, ag, am, ay, Nat.mul_one, aw, ax, acs, Ty.dflt, zG, aq, aF, bu, bh, ba, bb, bq, Nat.div_one, aK, bf, Ty.size, aL, dite_true, aC, aD, aE, ao, aB, aR, aV, b9, bJ, rep, aQ, au, reduceCtorEq, G, E, J, V, M, U, Tryd.el22, Tryd.el25, Tryd.st24, Tryd.st47, Tryd.td1, Tryd.td2, Tryd.td22, Tryd.td24, Tryd.td25, Tryd.td3, Tryd.td47, Mly.av, Mpr.av, List.length_map]; (repeat refine And.intro (by first | omega | assumption | exact rfl) ?_); (first | refine Y _ ?_ | refine Or.inl (Y _ ?_)); clear Y K0; simp only [put, app, a9, af, zE, zS, E])
    refine ad rfl fun K0 Y => ?_
    refine bc (h := pz m p [] [p.st * (m.nx.length : Int) + m.st] (fun s hs => by cases hs) ((io hm hp).kb hm hp) (by simp) (by simp) _ _ _ _) rfl rfl (by first | exact rfl | (simp only [ev, Z, lkp, zE, reduceCtorEq, G, a8, E]; exact rfl)) (by simp only [zE, zG, op1, ev, lkp, ah, ag, au, acs, br, mv1, mvC, Ty.dflt, reduceCtorEq, G, E, J, V, M, U, Mly.av, Mpr.av, List.length_map]) ?_
    refine Y _ ?_; clear Y K0; simp only [put, app, a9, af, zE, zS, E]
    refine ai ?_
    refine hK18 _ ?_; clear hK18; refine ae [0, 1, 2, 3, 4, 5, 6, 7, 8, 9, 10, 11, 25, 36, 48] ?_; simp only [Z, lkp, zE, reduceCtorEq, G, a8, E]
    refine aa fun K19 hK19 => ?_
    refine aj hP hN rfl ?_
    iterate 5 (refine ad rfl fun K0 Y => ?_; simp only [zE, op1, ev, lkp, ah, ag, am, ay, Nat.mul_one, aw, ax, acs, Ty.dflt, zG, aq, c9, b9, aQ, au, co, bI, aL, Ty.size, reduceCtorEq, G, E, J, V, M, U, Tryd.st24, Tryd.st47, Tryd.td1, Tryd.td24, Tryd.td3, Tryd.td47, Mly.av, Mpr.av, List.length_map]; (repeat refine And.intro (by first | omega | assumption | exact rfl) ?_); (first | refine Y _ ?_ | refine Or.inl (Y _ ?_)); clear Y K0; simp only [put, app, a9, af, zE, zS, E])
    refine ai ?_
    refine hK19 _ ?_; clear hK19; refine ae [0, 1, 2, 3, 4, 5, 6, 7, 8, 9, 10, 11, 12, 25, 36, 48] ?_; simp only [Z, lkp, zE, reduceCtorEq, G, a8, E]
    refine aa fun K20 hK20 => ?_
    refine aa fun K21 hK21 => ?_
    refine aj hP hN rfl ?_
    (refine ad rfl fun K0 Y => ?_; simp only [zE, op1, ev, lkp, ah, ag, ev, reduceCtorEq, G, E, J, V, M, U, Tryd.td3, Mly.av, Mpr.av, List.length_map]; refine Y _ ?_; clear Y K0; simp only [put, app, a9, af, zE, zS, E])
    refine ai ?_
    refine hK21 _ ?_; clear hK21; refine ae [0, 1, 2, 3, 4, 5, 6, 7, 8, 9, 10, 11, 12, 13, 25, 36, 48] ?_; simp only [Z, lkp, zE, reduceCtorEq, G, a8, E]
    refine aW ?_
    refine dd 7 2 (.list (.int .i64)) 25 (by decide) rfl rfl ?_; simp only [zS, List.length_cons, List.length_nil, List.cons_append, List.nil_append, Nat.zero_add, E]
    refine dd 7 3 (.list (.int .i64)) 25 (by decide) rfl rfl ?_; simp only [zS, List.length_cons, List.length_nil, List.cons_append, List.nil_append, Nat.zero_add, E]
    refine bM (fun n22 s22 => ∃ (k : Nat) (u : Nat), (RIM m p k) ∧ n22 = 129 - k ∧ s22 = { env := [(3, .one (.ptr 1 0 0 0)), (4, .one (.ptr 2 0 0 0)), (5, .one (.ptr 3 0 0 0)), (6, .one (.bool false)), (7, .one (.int .i64 0)), (8, .one (.fn 41 [])), (11, .one (.ptr 5 0 0 0)), (12, .one (.ptr 7 0 0 0)), (13, .one (.int .i64 (k : Int)))], L := [.vars 47 [.int .i64 m.inp, .int .i64 m.st, .list (.list (.int .i64)) m.nx, .list (.list (.int .i64)) m.ot], .vars 24 [.int .i64 p.inp, .int .i64 p.ab, .int .i64 p.st, .list (.list (.int .i64)) p.nx, .list (.list (.int .i64)) p.sy], .vars 47 [.int .i64 0, .int .i64 0, .nils, .nils], .vars 50 [.nils, .int .i64 0, .int .i64 0], .mp 82 .int (esS (cm m p k).S), .vars 85 [.int .i64 m.inp, .int .i64 m.st, .list (.list (.int .i64)) m.nx, .list (.list (.int .i64)) m.ot, .int .i64 p.inp, .int .i64 p.ab, .int .i64 p.st, .list (.list (.int .i64)) p.nx, .list (.list (.int .i64)) p.sy, .row 6 (cm m p k).S.length, .mpv 4], .row (.pair (.list (.int .i64)) (.pair (.list (.int .i64)) .unit)) 90 (cm m p k).S.length (List.map dp (cm m p k).S), .vars 47 [.int .i64 p.ab, .int .i64 0, .row 8 u, .row 9 u], .row (.list (.int .i64)) 25 u (cm m p k).N, .row (.list (.int .i64)) 25 u (cm m p k).O] }) ?_ ?_
    ·exact ⟨_, _, aS [3, 4, 5, 6, 7, 8, 11, 12, 13], 0, 0, fun j hj => by omega, rfl, rfl⟩
    ·rintro n22 s22 ⟨k, u, hR, rfl, rfl⟩
     refine aa fun K23 hK23 => ?_
     refine aa fun K24 hK24 => ?_
     refine aj hP hN rfl ?_
     iterate 5 (refine ad rfl fun K0 Y => ?_; simp only [zE, op1, ev, lkp, ah, ag, am, ay, Nat.mul_one, aw, ax, acs, Ty.dflt, zG, aq, aF, bu, bh, ba, bb, bq, Nat.div_one, aK, bf, Ty.size, aL, dite_true, aC, aD, aE, ao, aB, aR, reduceCtorEq, G, E, J, V, M, U, Tryd.el83, Tryd.st85, Tryd.td2, Tryd.td3, Tryd.td4, Tryd.td83, Tryd.td85, Mly.av, Mpr.av, List.length_map]; (repeat refine And.intro (by first | omega | assumption | exact rfl) ?_); (first | refine Y _ ?_ | refine Or.inl (Y _ ?_)); clear Y K0; simp only [put, app, a9, af, zE, zS, E])
     refine ai ?_
     refine hK24 _ ?_; clear hK24; refine ae [3, 4, 5, 6, 7, 8, 11, 12, 13, 77] ?_; simp only [Z, lkp, zE, reduceCtorEq, G, a8, E]
     refine aG (by simp only [ev, Z, lkp, zE, reduceCtorEq, G, a8, E]; exact rfl) (fun hc25 => ?_) (fun hc25 => ?_)
     ·(try simp only [zB, reduceCtorEq] at hc25)
      refine aJ ?_
      refine hK23 _ ?_; clear hK23; refine ae [3, 4, 5, 6, 7, 8, 11, 12, 13, 77] ?_; simp only [Z, lkp, zE, reduceCtorEq, G, a8, E]
      refine aa fun K26 hK26 => ?_
      refine aW ?_
      refine aa fun K27 hK27 => ?_
      refine aj hP hN rfl ?_
      iterate 2 (refine ad rfl fun K0 Y => ?_; simp only [zE, op1, ev, lkp, ah, ag, ev, reduceCtorEq, G, E, J, V, M, U, Tryd.el25, Tryd.td25, Mly.av, Mpr.av, List.length_map]; refine Y _ ?_; clear Y K0; simp only [put, app, a9, af, zE, zS, E])
      refine ai ?_
      refine hK27 _ ?_; clear hK27; refine ae [3, 4, 5, 6, 7, 8, 11, 12, 13, 14, 15, 77] ?_; simp only [Z, lkp, zE, reduceCtorEq, G, a8, E]
      refine aa fun K28 hK28 => ?_
      refine aa fun K29 hK29 => ?_
      refine aj hP hN rfl ?_
      iterate 3 (refine ad rfl fun K0 Y => ?_; simp only [zE, op1, ev, lkp, ah, ag, am, ay, Nat.mul_one, aw, ax, acs, Ty.dflt, zG, aq, reduceCtorEq, G, E, J, V, M, U, Tryd.st24, Tryd.td1, Tryd.td24, Tryd.td3, Mly.av, Mpr.av, List.length_map]; (repeat refine And.intro (by first | omega | assumption | exact rfl) ?_); refine Y _ ?_; clear Y K0; simp only [put, app, a9, af, zE, zS, E])
      refine ai ?_
      refine hK29 _ ?_; clear hK29; refine ae [3, 4, 5, 6, 7, 8, 11, 12, 13, 14, 15, 77, 81, 82] ?_; simp only [Z, lkp, zE, reduceCtorEq, G, a8, E]
      refine aW ?_
      refine cL 14 (.int .i64) 3 (by decide) rfl ?_; simp only [List.length_cons, List.length_nil, List.cons_append, List.nil_append, Nat.zero_add, E]
      refine cL 15 (.int .i64) 3 (by decide) rfl ?_; simp only [List.length_cons, List.length_nil, List.cons_append, List.nil_append, Nat.zero_add, E]
      have hkl : k < (cm m p k).S.length := by omega
      refine bM (fun n30 s30 => ∃ (a : Nat) (r : Nat), ((a : Int) ≤ p.ab) ∧ (∀ b, b < a → cT m p k (bB m p k b) b = none) ∧ n30 = p.ab.toNat - a ∧ s30 = { env := [(3, .one (.ptr 1 0 0 0)), (4, .one (.ptr 2 0 0 0)), (5, .one (.ptr 3 0 0 0)), (6, .one (.bool false)), (7, .one (.int .i64 0)), (8, .one (.fn 41 [])), (11, .one (.ptr 5 0 0 0)), (12, .one (.ptr 7 0 0 0)), (13, .one (.int .i64 (k : Int))), (14, .one (.row 10 r)), (15, .one (.row 11 r)), (81, .one (.int .i64 p.ab)), (82, .one (.int .i64 (a : Int)))], L := [.vars 47 [.int .i64 m.inp, .int .i64 m.st, .list (.list (.int .i64)) m.nx, .list (.list (.int .i64)) m.ot], .vars 24 [.int .i64 p.inp, .int .i64 p.ab, .int .i64 p.st, .list (.list (.int .i64)) p.nx, .list (.list (.int .i64)) p.sy], .vars 47 [.int .i64 0, .int .i64 0, .nils, .nils], .vars 50 [.nils, .int .i64 0, .int .i64 0], .mp 82 .int (esS (bB m p k a).S), .vars 85 [.int .i64 m.inp, .int .i64 m.st, .list (.list (.int .i64)) m.nx, .list (.list (.int .i64)) m.ot, .int .i64 p.inp, .int .i64 p.ab, .int .i64 p.st, .list (.list (.int .i64)) p.nx, .list (.list (.int .i64)) p.sy, .row 6 (bB m p k a).S.length, .mpv 4], .row (.pair (.list (.int .i64)) (.pair (.list (.int .i64)) .unit)) 90 (bB m p k a).S.length (List.map dp (bB m p k a).S), .vars 47 [.int .i64 p.ab, .int .i64 0, .row 8 u, .row 9 u], .row (.list (.int .i64)) 25 u (cm m p k).N, .row (.list (.int .i64)) 25 u (cm m p k).O, .row (.int .i64) 3 r (bB m p k a).nr, .row (.int .i64) 3 r (bB m p k a).os] }) ?_ ?_
      ·refine ⟨_, _, aS [3, 4, 5, 6, 7, 8, 11, 12, 13, 14, 15, 81, 82], 0, 0, by omega, fun b hb => by omega, rfl, ?_⟩
       rw [ki, (dx m p k).1, (dx m p k).2.1]; rfl
      ·rintro n30 s30 ⟨a, r, ha, hF, rfl, rfl⟩
       refine aa fun K31 hK31 => ?_
       refine aj hP hN rfl ?_
       (refine ad rfl fun K0 Y => ?_; simp only [zE, op1, ev, lkp, ah, ag, aC, aD, aE, ao, aB, aR, reduceCtorEq, G, E, J, V, M, U, Tryd.td3, Tryd.td4, Mly.av, Mpr.av, List.length_map]; (repeat refine And.intro (by first | omega | assumption | exact rfl) ?_); refine Y _ ?_; clear Y K0; simp only [put, app, a9, af, zE, zS, E])
       refine ai ?_
       refine hK31 _ ?_; clear hK31; refine ae [3, 4, 5, 6, 7, 8, 11, 12, 13, 14, 15, 81, 82, 83] ?_; simp only [Z, lkp, zE, reduceCtorEq, G, a8, E]
       refine aa fun K32 hK32 => ?_
       refine aG (by simp only [ev, Z, lkp, zE, reduceCtorEq, G, a8, E]; exact rfl) (fun hc33 => ?_) (fun hc33 => ?_)
       ·(try simp only [zB, reduceCtorEq] at hc33)
        refine aJ ?_
        refine hK32 _ ?_; clear hK32; refine ae [3, 4, 5, 6, 7, 8, 11, 12, 13, 14, 15, 81, 82, 83] ?_; simp only [Z, lkp, zE, reduceCtorEq, G, a8, E]
        refine aa fun K34 hK34 => ?_
        refine aW ?_
        refine aa fun K35 hK35 => ?_
        refine aj hP hN rfl ?_
        iterate 2 (refine ad rfl fun K0 Y => ?_; simp only [zE, op1, ev, lkp, ah, ag, ev, reduceCtorEq, G, E, J, V, M, U, Tryd.td3, Mly.av, Mpr.av, List.length_map]; refine Y _ ?_; clear Y K0; simp only [put, app, a9, af, zE, zS, E])
        refine ai ?_
        refine hK35 _ ?_; clear hK35; refine ae [3, 4, 5, 6, 7, 8, 11, 12, 13, 14, 15, 16, 81, 82, 83] ?_; simp only [Z, lkp, zE, reduceCtorEq, G, a8, E]
        refine aa fun K36 hK36 => ?_
        have hSR := eR hm hp hi hR; obtain ⟨hSI, hgg⟩ := hO hm hp hi hSR hkl a; have hge := gN (m := m) (p := p) (i := k) a; have hsl := hSI.le; obtain ⟨hsb, hwl⟩ := hSI.at_ (i := k) (by omega); have hwk := (hSR.at_ hkl).2; rw [← hgg] at hwk
        have hgi : ∀ d, (List.map dp (bB m p k a).S).getD k d = (((bB m p k a).S.getD k ss0).1, (((bB m p k a).S.getD k ss0).2, ())) := fun d => qF (by omega) d
        have hkL : k < (bB m p k a).S.length := by omega
        refine aj hP hN rfl ?_
        iterate 9 (refine ad rfl fun K0 Y => ?_; simp only [zE, op1, ev, lkp, ah, ag, am, ay, Nat.mul_one, aw, ax, acs, Ty.dflt, zG, aq, aI, Ty.size, ne_eq, not_false_eq_true, Int.natCast_one, Int.mul_one, aV, b9, bJ, rep, aL, aQ, au, reduceCtorEq, G, E, J, V, M, U, Tryd.el22, Tryd.el25, Tryd.el83, Tryd.st85, Tryd.st90, Tryd.td1, Tryd.td2, Tryd.td22, Tryd.td25, Tryd.td3, Tryd.td83, Tryd.td85, Tryd.td90, Mly.av, Mpr.av, List.length_map, hgi, List.flatten_cons, List.flatten_nil, List.append_nil]; (repeat refine And.intro (by first | omega | assumption | exact rfl) ?_); (first | refine Y _ ?_ | refine Or.inl (Y _ ?_)); clear Y K0; simp only [put, app, a9, af, zE, zS, E, hgi, List.flatten_cons, List.flatten_nil, List.append_nil])
        refine ad rfl fun K0 Y => ?_
        refine bc (h := aU (pI [((bB m p k a).S.getD k ss0).2, [(a : Int)]] (by rw [ji]; omega))) rfl rfl (by first | exact rfl | (simp only [ev, Z, lkp, zE, reduceCtorEq, G, a8, E]; exact rfl)) (by simp only [zE, zG, op1, ev, lkp, ah, ag, au, acs, br, mv1, mvC, Ty.dflt, reduceCtorEq, G, E, J, V, M, U, Mly.av, Mpr.av, List.length_map, hgi, List.flatten_cons, List.flatten_nil, List.append_nil]) ?_
        refine Y _ ?_; clear Y K0; simp only [put, app, a9, af, zE, zS, E, hgi, List.flatten_cons, List.flatten_nil, List.append_nil]
        (refine ad rfl fun K0 Y => ?_; simp only [zE, op1, ev, lkp, ah, ag, ev, reduceCtorEq, G, E, J, V, M, U, Tryd.el25, Tryd.td25, Mly.av, Mpr.av, List.length_map, hgi, List.flatten_cons, List.flatten_nil, List.append_nil]; refine Y _ ?_; clear Y K0; simp only [put, app, a9, af, zE, zS, E, hgi, List.flatten_cons, List.flatten_nil, List.append_nil])
        refine ai ?_
        refine hK36 _ ?_; clear hK36; refine ae [3, 4, 5, 6, 7, 8, 11, 12, 13, 14, 15, 16, 17, 81, 82, 83] ?_; simp only [Z, lkp, zE, reduceCtorEq, G, a8, E]
        refine aa fun K37 hK37 => ?_
        refine aj hP hN rfl ?_
        iterate 7 (refine ad rfl fun K0 Y => ?_; simp only [zE, op1, ev, lkp, ah, ag, am, ay, Nat.mul_one, aw, ax, acs, Ty.dflt, zG, aq, aI, Ty.size, ne_eq, not_false_eq_true, Int.natCast_one, Int.mul_one, reduceCtorEq, G, E, J, V, M, U, Tryd.el25, Tryd.el83, Tryd.st85, Tryd.st90, Tryd.td2, Tryd.td25, Tryd.td3, Tryd.td83, Tryd.td85, Tryd.td90, Mly.av, Mpr.av, List.length_map, hgi]; (repeat refine And.intro (by first | omega | assumption | exact rfl) ?_); refine Y _ ?_; clear Y K0; simp only [put, app, a9, af, zE, zS, E])
        refine ad rfl fun K0 Y => ?_
        refine bc (h := pU m p (cxM (bB m p k a) k) (a : Int) hm hp hi hsb (bB m p k a).S u (cm m p k).N (cm m p k).O r (bB m p k a).nr (bB m p k a).os) rfl rfl (by first | exact rfl | (simp only [ev, Z, lkp, zE, reduceCtorEq, G, a8, E]; exact rfl)) (by simp only [zE, zG, op1, ev, lkp, ah, ag, au, acs, br, mv1, mvC, Ty.dflt, reduceCtorEq, G, E, J, V, M, U, Mly.av, Mpr.av, List.length_map, hgi, cxM]) ?_
        refine Y _ ?_; clear Y K0; simp only [put, app, a9, af, zE, zS, E]
        iterate 5 (refine ad rfl fun K0 Y => ?_; simp only [zE, op1, ev, lkp, ah, ag, bZ, reduceCtorEq, G, E, J, V, M, U, Tryd.el25, Tryd.td1, Tryd.td25, Mly.av, Mpr.av, List.length_map, hgi]; refine Y _ ?_; clear Y K0; simp only [put, app, a9, af, zE, zS, E])
        refine ai ?_
        refine hK37 _ ?_; clear hK37; refine ae [3, 4, 5, 6, 7, 8, 11, 12, 13, 14, 15, 16, 17, 18, 19, 81, 82, 83] ?_; simp only [Z, lkp, zE, reduceCtorEq, G, a8, E]
        refine aa fun K38 hK38 => ?_
        refine aa fun K39 hK39 => ?_
        have hap : 0 < (aO m p (cxM (bB m p k a) k) (a : Int)).length := nR hp hsb.pos _; have hsn : SB m p (aN m p (cxM (bB m p k a) k) (a : Int)) := np hsb hm hp hi _; have hsnl := hsn.len hm hp
        refine aj hP hN rfl ?_
        iterate 3 (refine ad rfl fun K0 Y => ?_; simp only [zE, op1, ev, lkp, ah, ag, aF, bu, bh, ba, bb, bq, Nat.div_one, aK, bf, Ty.size, aL, dite_true, aC, aD, aE, ao, aB, aR, reduceCtorEq, G, E, J, V, M, U, Tryd.el25, Tryd.td25, Tryd.td3, Tryd.td4, Mly.av, Mpr.av, List.length_map]; (repeat refine And.intro (by first | omega | assumption | exact rfl) ?_); (first | refine Y _ ?_ | refine Or.inl (Y _ ?_)); clear Y K0; simp only [put, app, a9, af, zE, zS, E])
        refine ai ?_
        refine hK39 _ ?_; clear hK39; refine ae [3, 4, 5, 6, 7, 8, 11, 12, 13, 14, 15, 16, 17, 18, 19, 81, 82, 83, 108] ?_; simp only [Z, lkp, zE, reduceCtorEq, G, a8, E]
        refine aG (by simp only [ev, Z, lkp, zE, reduceCtorEq, G, a8, E]; exact rfl) (fun hc40 => ?_) (fun hc40 => ?_)
        ·(try simp only [zB, reduceCtorEq] at hc40)
         have e9 := (eH hv1 hv2 hi).trans (ee (dI hm hp hi hR) hR hkl (by omega) hF (nP (by omega)))
         refine aa fun K41 hK41 => ?_
         refine bW hP hN Tryd.mixed rfl ?_
         iterate 13 (refine ad rfl fun K0 Y => ?_; simp only [zE, op1, ev, lkp, ah, ag, c9, b9, aQ, au, aI, zG, Ty.dflt, Ty.size, Nat.mul_one, ne_eq, not_false_eq_true, Int.natCast_one, Int.mul_one, ay, aw, ax, acs, aq, bI, aL, reduceCtorEq, G, E, J, V, M, U, Tryd.el25, Tryd.st47, Tryd.st50, Tryd.td25, Tryd.td26, Tryd.td3, Tryd.td4, Tryd.td47, Tryd.td50, Mly.av, Mpr.av, List.length_map]; (repeat refine And.intro (by first | omega | assumption | exact rfl) ?_); (first | refine Y _ ?_ | refine Or.inl (Y _ ?_)); clear Y K0; simp only [put, app, a9, af, zE, zS, E])
         refine ai ?_
         refine ⟨by kernel_rfl, ?_⟩
         refine hK41 _ ?_; clear hK41; refine ae [3, 4, 5, 6, 7, 8, 11, 12, 13, 14, 15, 16, 17, 18, 19, 81, 82, 83, 108] ?_; simp only [Z, lkp, zE, reduceCtorEq, G, a8, E]
         refine aP ?_
         refine ⟨by first | exact .inl rfl | exact .inr rfl, _, rfl, ?_⟩; simp only [fzV, fz1, fzC, List.map_cons, List.map_nil, Z, lkp, zE, reduceCtorEq, G, a8, E, Mly.av, Mpr.av, List.length_map]
         rw [e9]
         first
         | exact VLE.of_eq rfl
         | exact bl ⟨aT ⟨.refl _, .refl _, aH rfl, aH rfl, trivial⟩, aT ⟨aH rfl, .refl _, .refl _, trivial⟩, aM (.refl _), aM (.refl _), trivial⟩
         | exact bl ⟨aT ⟨.refl _, .refl _, aH rfl, aH rfl, trivial⟩, aT ⟨.refl _, .refl _, .refl _, trivial⟩, aM (.refl _), aM (.refl _), trivial⟩
         | exact bl ⟨aT ⟨.refl _, .refl _, .refl _, .refl _, trivial⟩, aT ⟨aH rfl, .refl _, .refl _, trivial⟩, aM (.refl _), aM (.refl _), trivial⟩
        ·(try simp only [zB, reduceCtorEq] at hc40)
         have ho1 : ¬ 1 < (aO m p (cxM (bB m p k a) k) (a : Int)).length := by omega
         refine aJ ?_
         refine hK38 _ ?_; clear hK38; refine ae [3, 4, 5, 6, 7, 8, 11, 12, 13, 14, 15, 16, 17, 18, 19, 81, 82, 83, 108] ?_; simp only [Z, lkp, zE, reduceCtorEq, G, a8, E]
         refine aa fun K42 hK42 => ?_
         refine aa fun K43 hK43 => ?_
         refine aj hP hN rfl ?_
         iterate 4 (refine ad rfl fun K0 Y => ?_; simp only [zE, op1, ev, lkp, ah, ag, aI, zG, Ty.dflt, Ty.size, Nat.mul_one, ne_eq, not_false_eq_true, Int.natCast_one, Int.mul_one, ay, aw, ax, acs, aq, aC, aD, aE, ao, aB, aR, reduceCtorEq, G, E, J, V, M, U, Tryd.el25, Tryd.td25, Tryd.td3, Tryd.td4, Mly.av, Mpr.av, List.length_map]; (repeat refine And.intro (by first | omega | assumption | exact rfl) ?_); refine Y _ ?_; clear Y K0; simp only [put, app, a9, af, zE, zS, E])
         refine ai ?_
         refine hK43 _ ?_; clear hK43; refine ae [3, 4, 5, 6, 7, 8, 11, 12, 13, 14, 15, 16, 17, 18, 19, 81, 82, 83, 108, 121] ?_; simp only [Z, lkp, zE, reduceCtorEq, G, a8, E]
         refine aG (by simp only [ev, Z, lkp, zE, reduceCtorEq, G, a8, E]; exact rfl) (fun hc44 => ?_) (fun hc44 => ?_)
         ·(try simp only [zB, reduceCtorEq] at hc44)
          have e9 := (eH hv1 hv2 hi).trans (ee (dI hm hp hi hR) hR hkl (by omega) hF (nF ho1 hc44))
          refine aa fun K45 hK45 => ?_
          refine aj hP hN rfl ?_
          (refine ad rfl fun K0 Y => ?_; simp only [zE, op1, ev, lkp, ah, ag, ev, reduceCtorEq, G, E, J, V, M, U, Tryd.td80, Mly.av, Mpr.av, List.length_map]; refine Y _ ?_; clear Y K0; simp only [put, app, a9, af, zE, zS, E])
          refine ad rfl fun K0 Y => ?_
          refine bc (h := aU (eT 2)) rfl rfl (by first | exact rfl | (simp only [ev, Z, lkp, zE, reduceCtorEq, G, a8, E]; exact rfl)) (by simp only [zE, zG, op1, ev, lkp, ah, ag, au, acs, br, mv1, mvC, Ty.dflt, reduceCtorEq, G, E, J, V, M, U, Mly.av, Mpr.av, List.length_map]) ?_
          refine Y _ ?_; clear Y K0; simp only [put, app, a9, af, zE, zS, E]
          iterate 8 (refine ad rfl fun K0 Y => ?_; simp only [zE, op1, ev, lkp, ah, ag, bZ, bI, Nat.mul_one, au, aQ, aL, acs, Ty.size, Ty.dflt, zG, reduceCtorEq, G, E, J, V, M, U, Tryd.st47, Tryd.st50, Tryd.td1, Tryd.td2, Tryd.td26, Tryd.td3, Tryd.td4, Tryd.td47, Tryd.td50, Mly.av, Mpr.av, List.length_map]; (repeat refine And.intro (by first | omega | assumption | exact rfl) ?_); refine Y _ ?_; clear Y K0; simp only [put, app, a9, af, zE, zS, E])
          refine ai ?_
          refine hK45 _ ?_; clear hK45; refine ae [3, 4, 5, 6, 7, 8, 11, 12, 13, 14, 15, 16, 17, 18, 19, 81, 82, 83, 108, 121] ?_; simp only [Z, lkp, zE, reduceCtorEq, G, a8, E]
          refine aP ?_
          refine ⟨by first | exact .inl rfl | exact .inr rfl, _, rfl, ?_⟩; simp only [fzV, fz1, fzC, List.map_cons, List.map_nil, Z, lkp, zE, reduceCtorEq, G, a8, E, Mly.av, Mpr.av, List.length_map]
          rw [e9]
          first
          | exact VLE.of_eq rfl
          | exact bl ⟨aT ⟨.refl _, .refl _, aH rfl, aH rfl, trivial⟩, aT ⟨aH rfl, .refl _, .refl _, trivial⟩, aM (.refl _), aM (.refl _), trivial⟩
          | exact bl ⟨aT ⟨.refl _, .refl _, aH rfl, aH rfl, trivial⟩, aT ⟨.refl _, .refl _, .refl _, trivial⟩, aM (.refl _), aM (.refl _), trivial⟩
          | exact bl ⟨aT ⟨.refl _, .refl _, .refl _, .refl _, trivial⟩, aT ⟨aH rfl, .refl _, .refl _, trivial⟩, aM (.refl _), aM (.refl _), trivial⟩
         ·(try simp only [zB, reduceCtorEq] at hc44)
          have ho2 : ¬ 1048576 < (aO m p (cxM (bB m p k a) k) (a : Int)).getD 0 0 := by omega
          refine aJ ?_
          refine hK42 _ ?_; clear hK42; refine ae [3, 4, 5, 6, 7, 8, 11, 12, 13, 14, 15, 16, 17, 18, 19, 81, 82, 83, 108, 121] ?_; simp only [Z, lkp, zE, reduceCtorEq, G, a8, E]
          refine aa fun K46 hK46 => ?_
          refine aj hP hN rfl ?_
          iterate 2 (refine ad rfl fun K0 Y => ?_; simp only [zE, op1, ev, lkp, ah, ag, ev, reduceCtorEq, G, E, J, V, M, U, Tryd.el25, Tryd.td25, Mly.av, Mpr.av, List.length_map]; refine Y _ ?_; clear Y K0; simp only [put, app, a9, af, zE, zS, E])
          refine ad rfl fun K0 Y => ?_
          refine bc (h := pq m p (bB m p k a).S (aN m p (cxM (bB m p k a) k) (a : Int)) (cwM (bB m p k a) k a) (hSI.kb hm hp) (hsn.kb hm hp) (by omega) hSI.le _ _ _ _ _ _ _ _ _) rfl rfl (by first | exact rfl | (simp only [ev, Z, lkp, zE, reduceCtorEq, G, a8, E]; exact rfl)) (by simp only [zE, zG, op1, ev, lkp, ah, ag, au, acs, br, mv1, mvC, Ty.dflt, reduceCtorEq, G, E, J, V, M, U, Mly.av, Mpr.av, List.length_map, cxM, cwM]) ?_
          refine Y _ ?_; clear Y K0; simp only [put, app, a9, af, zE, zS, E]
          iterate 5 (refine ad rfl fun K0 Y => ?_; simp only [zE, op1, ev, lkp, ah, ag, bZ, reduceCtorEq, G, E, J, V, M, U, Tryd.td1, Tryd.td3, Tryd.td4, Mly.av, Mpr.av, List.length_map]; refine Y _ ?_; clear Y K0; simp only [put, app, a9, af, zE, zS, E])
          refine ai ?_
          refine hK46 _ ?_; clear hK46; refine ae [3, 4, 5, 6, 7, 8, 11, 12, 13, 14, 15, 16, 17, 18, 19, 20, 21, 81, 82, 83, 108, 121] ?_; simp only [Z, lkp, zE, reduceCtorEq, G, a8, E]
          refine aa fun K47 hK47 => ?_
          refine aa fun K48 hK48 => ?_
          refine aj hP hN rfl ?_
          iterate 2 (refine ad rfl fun K0 Y => ?_; simp only [zE, op1, ev, lkp, ah, ag, dR, reduceCtorEq, G, E, J, V, M, U, Tryd.td4, Mly.av, Mpr.av, List.length_map]; (repeat refine And.intro (by first | omega | assumption | exact rfl) ?_); refine Y _ ?_; clear Y K0; simp only [put, app, a9, af, zE, zS, E])
          refine ai ?_
          refine hK48 _ ?_; clear hK48; refine ae [3, 4, 5, 6, 7, 8, 11, 12, 13, 14, 15, 16, 17, 18, 19, 20, 21, 81, 82, 83, 108, 121, 135] ?_; simp only [Z, lkp, zE, reduceCtorEq, G, a8, E]
          refine aG (by simp only [ev, Z, lkp, zE, reduceCtorEq, G, a8, E]; exact rfl) (fun hc49 => ?_) (fun hc49 => ?_)
          ·(try simp only [zB, reduceCtorEq] at hc49)
           have hsg : sgB (bB m p k a).S (aN m p (cxM (bB m p k a) k) (a : Int)) = false := by simpa using hc49
           have e9 := (eH hv1 hv2 hi).trans (ee (dI hm hp hi hR) hR hkl (by omega) hF (nB ho1 ho2 hsg))
           refine aa fun K50 hK50 => ?_
           refine aj hP hN rfl ?_
           (refine ad rfl fun K0 Y => ?_; simp only [zE, op1, ev, lkp, ah, ag, ev, reduceCtorEq, G, E, J, V, M, U, Tryd.td80, Mly.av, Mpr.av, List.length_map]; refine Y _ ?_; clear Y K0; simp only [put, app, a9, af, zE, zS, E])
           refine ad rfl fun K0 Y => ?_
           refine bc (h := aU (eT 11)) rfl rfl (by first | exact rfl | (simp only [ev, Z, lkp, zE, reduceCtorEq, G, a8, E]; exact rfl)) (by simp only [zE, zG, op1, ev, lkp, ah, ag, au, acs, br, mv1, mvC, Ty.dflt, reduceCtorEq, G, E, J, V, M, U, Mly.av, Mpr.av, List.length_map]) ?_
           refine Y _ ?_; clear Y K0; simp only [put, app, a9, af, zE, zS, E]
           iterate 8 (refine ad rfl fun K0 Y => ?_; simp only [zE, op1, ev, lkp, ah, ag, bZ, bI, Nat.mul_one, au, aQ, aL, acs, Ty.size, Ty.dflt, zG, reduceCtorEq, G, E, J, V, M, U, Tryd.st47, Tryd.st50, Tryd.td1, Tryd.td2, Tryd.td26, Tryd.td3, Tryd.td4, Tryd.td47, Tryd.td50, Mly.av, Mpr.av, List.length_map]; (repeat refine And.intro (by first | omega | assumption | exact rfl) ?_); refine Y _ ?_; clear Y K0; simp only [put, app, a9, af, zE, zS, E])
           refine ai ?_
           refine hK50 _ ?_; clear hK50; refine ae [3, 4, 5, 6, 7, 8, 11, 12, 13, 14, 15, 16, 17, 18, 19, 20, 21, 81, 82, 83, 108, 121, 135] ?_; simp only [Z, lkp, zE, reduceCtorEq, G, a8, E]
           refine aP ?_
           refine ⟨by first | exact .inl rfl | exact .inr rfl, _, rfl, ?_⟩; simp only [fzV, fz1, fzC, List.map_cons, List.map_nil, Z, lkp, zE, reduceCtorEq, G, a8, E, Mly.av, Mpr.av, List.length_map]
           rw [e9]
           first
           | exact VLE.of_eq rfl
           | exact bl ⟨aT ⟨.refl _, .refl _, aH rfl, aH rfl, trivial⟩, aT ⟨aH rfl, .refl _, .refl _, trivial⟩, aM (.refl _), aM (.refl _), trivial⟩
           | exact bl ⟨aT ⟨.refl _, .refl _, aH rfl, aH rfl, trivial⟩, aT ⟨.refl _, .refl _, .refl _, trivial⟩, aM (.refl _), aM (.refl _), trivial⟩
           | exact bl ⟨aT ⟨.refl _, .refl _, .refl _, .refl _, trivial⟩, aT ⟨aH rfl, .refl _, .refl _, trivial⟩, aM (.refl _), aM (.refl _), trivial⟩
          ·(try simp only [zB, reduceCtorEq] at hc49)
           have hsg : sgB (bB m p k a).S (aN m p (cxM (bB m p k a) k) (a : Int)) = true := by simpa using hc49
           refine aJ ?_
           refine hK47 _ ?_; clear hK47; refine ae [3, 4, 5, 6, 7, 8, 11, 12, 13, 14, 15, 16, 17, 18, 19, 20, 21, 81, 82, 83, 108, 121, 135] ?_; simp only [Z, lkp, zE, reduceCtorEq, G, a8, E]
           have hcl := eU (m := m) (p := p) (i := k) a; have hrn := dx m p k; rw [hrn.1, hrn.2.1] at hcl; have hcl3 := hcl.2.2.1; have hcl4 := hcl.2.2.2; simp only [List.length_nil, Nat.zero_add] at hcl3 hcl4
           refine bW hP hN Tryd.mixed rfl ?_
           iterate 12 (refine ad rfl fun K0 Y => ?_; simp only [zE, op1, ev, lkp, ah, ag, aV, b9, bJ, rep, aL, aQ, au, Ty.size, aF, bu, bh, ba, bb, bq, Nat.div_one, aK, bf, dite_true, aI, zG, Ty.dflt, Nat.mul_one, ne_eq, not_false_eq_true, Int.natCast_one, Int.mul_one, ay, aw, ax, acs, aq, reduceCtorEq, G, E, J, V, M, U, Tryd.el25, Tryd.td1, Tryd.td25, Tryd.td3, Mly.av, Mpr.av, List.length_map]; (repeat refine And.intro (by first | omega | assumption | exact rfl) ?_); (first | refine Y _ ?_ | refine Or.inl (Y _ ?_)); clear Y K0; simp only [put, app, a9, af, zE, zS, E])
           refine ai ?_
           refine ⟨by kernel_rfl, ?_⟩
           refine hK34 _ ?_; clear hK34; refine ae [3, 4, 5, 6, 7, 8, 11, 12, 13, 14, 15, 16, 17, 18, 19, 20, 21, 81, 82, 83, 108, 121, 135] ?_; simp only [Z, lkp, zE, reduceCtorEq, G, a8, E]
           refine aj hP hN rfl ?_
           iterate 2 (refine ad rfl fun K0 Y => ?_; simp only [zE, op1, ev, lkp, ah, ag, aC, aD, aE, ao, aB, aR, reduceCtorEq, G, E, J, V, M, U, Tryd.td3, Mly.av, Mpr.av, List.length_map]; (repeat refine And.intro (by first | omega | assumption | exact rfl) ?_); refine Y _ ?_; clear Y K0; simp only [put, app, a9, af, zE, zS, E])
           refine ai ?_
           refine ⟨_, _, ?_, aS [3, 4, 5, 6, 7, 8, 11, 12, 13, 14, 15, 81, 82], a + 1, r + 1, by omega, er hF (fz ho1 ho2 hsg), rfl, ?_⟩
           · omega
           · rw [cM]; rfl
       ·(try simp only [zB, reduceCtorEq] at hc33)
        refine bK ?_
        refine hK28 _ ?_; clear hK28; refine ae [3, 4, 5, 6, 7, 8, 11, 12, 13, 14, 15, 81, 82, 83] ?_; simp only [Z, lkp, zE, reduceCtorEq, G, a8, E]
        have hab : a = p.ab.toNat := by omega
        have hcl := eU (m := m) (p := p) (i := k) a; have hrn := dx m p k; rw [hrn.1, hrn.2.1] at hcl; have hcl3 := hcl.2.2.1; have hcl4 := hcl.2.2.2; simp only [List.length_nil, Nat.zero_add] at hcl3 hcl4
        have hSI2 := (eR hm hp hi (gb hR hkl (by rw [← hab]; exact hF))).le
        have hcn := hrn.2.2.1; have hco := hrn.2.2.2; have hkk := dI hm hp hi hR
        refine ck 10 rfl ?_; simp only [List.map_cons, List.map_nil, zS, G, and_self, and_true, true_and, and_false, false_and, if_true, if_false, eq_self, reduceCtorEq, Nat.one_ne_zero, Nat.zero_ne_one]
        refine ck 11 rfl ?_; simp only [List.map_cons, List.map_nil, zS, G, and_self, and_true, true_and, and_false, false_and, if_true, if_false, eq_self, reduceCtorEq, Nat.one_ne_zero, Nat.zero_ne_one]
        refine cv (n := 11) (L1 := [_, _, _, _, _, _, _, _, _, _, _]) rfl rfl (by rw [hB]; decide) rfl rfl ?_
        refine cv (n := 10) (L1 := [_, _, _, _, _, _, _, _, _, _]) rfl rfl (by rw [hB]; decide) rfl rfl ?_
        refine bW hP hN Tryd.mixed rfl ?_
        iterate 14 (refine ad rfl fun K0 Y => ?_; simp only [zE, op1, ev, lkp, ah, ag, am, ay, Nat.mul_one, aw, ax, acs, Ty.dflt, zG, aq, aV, b9, bJ, rep, aL, aQ, au, Ty.size, aF, bu, bh, ba, bb, bq, Nat.div_one, aK, bf, dite_true, bI, reduceCtorEq, G, E, J, V, M, U, Tryd.el22, Tryd.el25, Tryd.st47, Tryd.td1, Tryd.td2, Tryd.td22, Tryd.td25, Tryd.td3, Tryd.td47, Mly.av, Mpr.av, List.length_map]; (repeat refine And.intro (by first | omega | assumption | exact rfl) ?_); (first | refine Y _ ?_ | refine Or.inl (Y _ ?_)); clear Y K0; simp only [put, app, a9, af, zE, zS, E])
        refine ai ?_
        refine ⟨by kernel_rfl, ?_⟩
        refine hK26 _ ?_; clear hK26; refine ae [3, 4, 5, 6, 7, 8, 11, 12, 13, 14, 15, 81, 82, 83] ?_; simp only [Z, lkp, zE, reduceCtorEq, G, a8, E]
        refine aj hP hN rfl ?_
        iterate 3 (refine ad rfl fun K0 Y => ?_; simp only [zE, op1, ev, lkp, ah, ag, aC, aD, aE, ao, aB, aR, reduceCtorEq, G, E, J, V, M, U, Tryd.td3, Mly.av, Mpr.av, List.length_map]; (repeat refine And.intro (by first | omega | assumption | exact rfl) ?_); refine Y _ ?_; clear Y K0; simp only [put, app, a9, af, zE, zS, E])
        refine ai ?_
        have hR2 := gb hR hkl (by rw [← hab]; exact hF)
        refine ⟨_, _, ?_, aS [3, 4, 5, 6, 7, 8, 11, 12, 13], k + 1, u + 1, hR2, rfl, ?_⟩
        · omega
        · rw [fk, ← hab, hcl.1, hcl.2.1]; rfl
     ·(try simp only [zB, reduceCtorEq] at hc25)
      refine bK ?_
      refine hK20 _ ?_; clear hK20; refine ae [3, 4, 5, 6, 7, 8, 11, 12, 13, 77] ?_; simp only [Z, lkp, zE, reduceCtorEq, G, a8, E]
      refine aa fun K51 hK51 => ?_
      have e9 := (eH hv1 hv2 hi).trans (mc (dI hm hp hi hR) hR (by omega))
      refine dg 8 7 rfl rfl ?_; simp only [List.map_cons, List.map_nil, frC, zS, G, and_self, and_true, true_and, and_false, false_and, if_true, if_false, eq_self, reduceCtorEq, Nat.one_ne_zero, Nat.zero_ne_one]
      refine dg 9 7 rfl rfl ?_; simp only [List.map_cons, List.map_nil, frC, zS, G, and_self, and_true, true_and, and_false, false_and, if_true, if_false, eq_self, reduceCtorEq, Nat.one_ne_zero, Nat.zero_ne_one]
      refine aj hP hN rfl ?_
      iterate 6 (refine ad rfl fun K0 Y => ?_; simp only [zE, op1, ev, lkp, ah, ag, ay, Nat.mul_one, aw, ax, acs, Ty.dflt, zG, aq, c9, b9, aQ, au, bI, aL, Ty.size, reduceCtorEq, G, E, J, V, M, U, Tryd.st47, Tryd.st50, Tryd.td26, Tryd.td4, Tryd.td47, Tryd.td50, Mly.av, Mpr.av, List.length_map]; (repeat refine And.intro (by first | omega | assumption | exact rfl) ?_); (first | refine Y _ ?_ | refine Or.inl (Y _ ?_)); clear Y K0; simp only [put, app, a9, af, zE, zS, E])
      refine ai ?_
      refine hK51 _ ?_; clear hK51; refine ae [3, 4, 5, 6, 7, 8, 11, 12, 13, 77] ?_; simp only [Z, lkp, zE, reduceCtorEq, G, a8, E]
      refine aP ?_
      refine ⟨by first | exact .inl rfl | exact .inr rfl, _, rfl, ?_⟩; simp only [fzV, fz1, fzC, List.map_cons, List.map_nil, Z, lkp, zE, reduceCtorEq, G, a8, E, Mly.av, Mpr.av, List.length_map]
      rw [e9]
      first
      | exact VLE.of_eq rfl
      | exact bl ⟨aT ⟨.refl _, .refl _, aH rfl, aH rfl, trivial⟩, aT ⟨aH rfl, .refl _, .refl _, trivial⟩, aM (.refl _), aM (.refl _), trivial⟩
      | exact bl ⟨aT ⟨.refl _, .refl _, aH rfl, aH rfl, trivial⟩, aT ⟨.refl _, .refl _, .refl _, trivial⟩, aM (.refl _), aM (.refl _), trivial⟩
      | exact bl ⟨aT ⟨.refl _, .refl _, .refl _, .refl _, trivial⟩, aT ⟨aH rfl, .refl _, .refl _, trivial⟩, aM (.refl _), aM (.refl _), trivial⟩
end Go.Proofs.YtgmgnkmgofkfpaaDoor
namespace Go.Proofs.YtgmgnkmgofkfpaaDoor
open Go Go.AV
open Nat renaming reduceEqDiff → G, reduceAdd → E, reduceLeDiff → J, reduceLT → V, reduceMul → M, reduceSub → U
open List renaming set_cons_zero → aA, set_cons_succ → az
theorem rC : ch Tryd.prog 22 [bC.av, (dy [0, 0]).av] (.tup [.agg [.int .i64 0, .int .i64 0, .list (.list (.int .i64)) [], .list (.list (.int .i64)) []], .agg [.list (.int .i64) [0], .int .i64 1, .int .i64 2], .one (.bool false), .one (.int .i64 0)]) := by
  have h := lx bC (dy [0, 0]); rw [r0] at h; exact h
/- mwkTh -/
end Go.Proofs.YtgmgnkmgofkfpaaDoor
namespace Go.Proofs.YtgmgnkmgofkfpaaDoor
open Go Go.AV
open Nat renaming reduceEqDiff → G, reduceAdd → E, reduceLeDiff → J, reduceLT → V, reduceMul → M, reduceSub → U
open List renaming set_cons_zero → aA, set_cons_succ → az
theorem rA : ch Tryd.prog 22 [bC.av, bG.av] (.tup [.agg [.int .i64 2, .int .i64 0, .list (.list (.int .i64)) [[1, 0], [0, 1]], .list (.list (.int .i64)) [[2, 1], [3, 2]]], .agg [.list (.int .i64) [], .int .i64 0, .int .i64 0], .one (.bool true), .one (.int .i64 0)]) := by
  have h := lx bC bG; rw [ro] at h; exact h
/- mwkTh -/
end Go.Proofs.YtgmgnkmgofkfpaaDoor
namespace Go.Proofs.YtgmgnkmgofkfpaaDoor
open Go Go.AV
open Nat renaming reduceEqDiff → G, reduceAdd → E, reduceLeDiff → J, reduceLT → V, reduceMul → M, reduceSub → U
open List renaming set_cons_zero → aA, set_cons_succ → az
set_option maxRecDepth 100000 in
theorem rx (a n : Int) : ch Tryd.prog 53 [.one (.int .i64 a), .one (.pat (.int .i64) n 0)] (.one (.bool (decide (a < 0) || decide (n ≤ a)))) := by
 refine bp Tryd.func53 rfl (by kernel_rfl) (Nat.le_of_ble_eq_true rfl) rfl fun C hP hN hB => ?_
 replace hN : C.N = 11 := hN
 simp only [a8, E]
 refine aa fun K1 hK1 => ?_
 refine aj hP hN rfl ?_
 (refine ad rfl fun K0 Y => ?_; simp only [zE, op1, ev, lkp, ah, ag, ev, reduceCtorEq, G, E, J, V, M, U, Tryd.td4]; refine Y _ ?_; clear Y K0; simp only [put, app, a9, af, zE, zS, E])
 refine ai ?_
 refine hK1 _ ?_; clear hK1; refine ae [0, 1, 3] ?_; simp only [Z, lkp, zE, reduceCtorEq, G, a8, E]
 refine aa fun K2 hK2 => ?_
 refine aj hP hN rfl ?_
 iterate 2 (refine ad rfl fun K0 Y => ?_; simp only [zE, op1, ev, lkp, ah, ag, aC, aD, aE, ao, aB, aR, reduceCtorEq, G, E, J, V, M, U, Tryd.td3, Tryd.td4]; (repeat refine And.intro (by first | omega | assumption | exact rfl) ?_); refine Y _ ?_; clear Y K0; simp only [put, app, a9, af, zE, zS, E])
 (refine ad rfl fun K0 Y => ?_; simp only [zE, op1, ev, lkp, ah, ag, ev, reduceCtorEq, G, E, J, V, M, U, Tryd.td4]; refine Y _ ?_; clear Y K0; simp only [put, app, a9, af, zE, zS, E])
 refine' aY (want := false) 3 rfl (m := 6) (by simp only [Z, lkp, zE, reduceCtorEq, G, a8, E]; exact rfl) (by kernel_rfl) rfl rfl rfl rfl rfl (fun hg3 => ?a3) ?b3 ?c3
 case a3 =>
  have hq3 := hg3; (try simp only [zB, reduceCtorEq] at hg3); simp only [List.take_succ_cons, List.take_zero, List.cons_append, List.nil_append]
  (refine ar rfl fun K0 Y => ?_; simp only [zE, op1, ev, lkp, ah, ag, ev, reduceCtorEq, G, E, J, V, M, U, Tryd.td3]; refine Y _ ?_; clear Y K0; simp only [put, app, a9, af, zE, zS, E])
  (refine ar rfl fun K0 Y => ?_; simp only [zE, op1, ev, lkp, ah, ag, ay, Nat.mul_one, aw, ax, acs, Ty.dflt, zG, aq, reduceCtorEq, G, E, J, V, M, U, Tryd.td3]; (repeat refine And.intro (by first | omega | assumption | exact rfl) ?_); refine Y _ ?_; clear Y K0; simp only [put, app, a9, af, zE, zS, E])
  (refine ar rfl fun K0 Y => ?_; simp only [zE, op1, ev, lkp, ah, ag, aC, aD, aE, ao, aB, aR, reduceCtorEq, G, E, J, V, M, U, Tryd.td3, Tryd.td4]; (repeat refine And.intro (by first | omega | assumption | exact rfl) ?_); refine Y _ ?_; clear Y K0; simp only [put, app, a9, af, zE, zS, E])
  (refine ad rfl fun K0 Y => ?_; simp only [zE, op1, ev, lkp, ah, ag, bt, reduceCtorEq, G, E, J, V, M, U, Tryd.td4]; refine Y _ ?_; clear Y K0; simp only [put, app, a9, af, zE, zS, E])
  refine ai ?_
  refine ⟨by simp only [Z, lkp, zE, reduceCtorEq, G, a8, E]; exact rfl, rfl, ?_, rfl⟩; (repeat refine aZ rfl ?_); exact bz (by exact rfl) hq3
 case b3 => exact bv (by first | rfl | (simp [bV]; done) | decide)
 simp only [bj, bg]
 (refine ad rfl fun K0 Y => ?_; simp only [zE, op1, ev, lkp, ah, ag, ev, reduceCtorEq, G, E, J, V, M, U, Tryd.td4]; refine Y _ ?_; clear Y K0; simp only [put, app, a9, af, zE, zS, E])
 refine ai ?_
 refine hK2 _ ?_; clear hK2; refine ae [0, 1, 3] ?_; simp only [Z, lkp, zE, reduceCtorEq, G, a8, E]
 refine aP ?_
 refine ⟨by first | exact .inl rfl | exact .inr rfl, _, rfl, ?_⟩; simp only [fzV, fz1, fzC, List.map_cons, List.map_nil, Z, lkp, zE, reduceCtorEq, G, a8, E]
 refine VLE.of_eq ?_
 rfl
end Go.Proofs.YtgmgnkmgofkfpaaDoor
