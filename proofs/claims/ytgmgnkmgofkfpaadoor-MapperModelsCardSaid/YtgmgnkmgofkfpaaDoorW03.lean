/- Contracts of functions of this seat, each out of a walk through its code, and plain facts on what they compute. Conditions: those that each theorem names. -/
import Derived.Test.YtgmgnkmgofkfpaaDoorW02
set_option linter.unusedSimpArgs false
set_option linter.unusedVariables false
namespace Go.Proofs.YtgmgnkmgofkfpaaDoor
open Go Go.AV
open Nat renaming reduceEqDiff → G, reduceAdd → E, reduceLeDiff → J, reduceLT → V, reduceMul → M, reduceSub → U
open List renaming set_cons_zero → aA, set_cons_succ → az
set_option maxRecDepth 100000 in
theorem rt (w : List Int) (n : Int) (hw : w.length ≤ 1024) : ch Tryd.prog 62 [.one (.list (.int .i64) w), .one (.fn 53 [.pat (.int .i64) n])] (.one (.int .i64 (fP w n))) := by
 refine bp Tryd.func62 rfl (by kernel_rfl) (Nat.le_of_ble_eq_true rfl) rfl fun C hP hN hB => ?_
 replace hN : C.N = 19 := hN
 simp only [a8, E]
 refine aa fun K1 hK1 => ?_
 refine aj hP hN rfl ?_
 (refine ad rfl fun K0 Y => ?_; simp only [zE, op1, ev, lkp, ah, ag, ev, reduceCtorEq, G, E, J, V, M, U, Tryd.td3]; refine Y _ ?_; clear Y K0; simp only [put, app, a9, af, zE, zS, E])
 refine ai ?_
 refine hK1 _ ?_; clear hK1; refine ae [0, 1, 4] ?_; simp only [Z, lkp, zE, reduceCtorEq, G, a8, E]
 refine aa fun K2 hK2 => ?_
 refine aa fun K3 hK3 => ?_
 refine aj hP hN rfl ?_
 iterate 3 (refine ad rfl fun K0 Y => ?_; simp only [zE, op1, ev, lkp, ah, ag, aF, bu, bh, ba, bb, bq, Nat.div_one, aK, bf, Ty.size, aL, dite_true, reduceCtorEq, G, E, J, V, M, U, Tryd.el25, Tryd.td25, Tryd.td3]; (repeat refine And.intro (by first | omega | assumption | exact rfl) ?_); (first | refine Y _ ?_ | refine Or.inl (Y _ ?_)); clear Y K0; simp only [put, app, a9, af, zE, zS, E])
 refine ai ?_
 refine hK3 _ ?_; clear hK3; refine ae [0, 1, 4, 7, 8] ?_; simp only [Z, lkp, zE, reduceCtorEq, G, a8, E]
 refine aW ?_
 refine bM (fun n4 s4 => ∃ (k : Nat), (k ≤ w.length) ∧ (∀ i, i < k → ¬ cq n (w.getD i 0)) ∧ n4 = w.length - k ∧ s4 = { env := [(0, .one (.list (.int .i64) w)), (1, .one (.fn 53 [.pat (.int .i64) n])), (7, .one (.int .i64 (w.length : Int))), (8, .one (.int .i64 (k : Int)))], L := [] }) ?_ ?_
 ·exact ⟨_, _, aS [0, 1, 7, 8], 0, Nat.zero_le _, fun i hi => by omega, rfl, rfl⟩
 ·rintro n4 s4 ⟨k, hk, hI, rfl, rfl⟩
  refine aa fun K5 hK5 => ?_
  refine aj hP hN rfl ?_
  (refine ad rfl fun K0 Y => ?_; simp only [zE, op1, ev, lkp, ah, ag, aC, aD, aE, ao, aB, aR, reduceCtorEq, G, E, J, V, M, U, Tryd.td3]; (repeat refine And.intro (by first | omega | assumption | exact rfl) ?_); refine Y _ ?_; clear Y K0; simp only [put, app, a9, af, zE, zS, E])
  refine ai ?_
  refine hK5 _ ?_; clear hK5; refine ae [0, 1, 7, 8, 9] ?_; simp only [Z, lkp, zE, reduceCtorEq, G, a8, E]
  refine aa fun K6 hK6 => ?_
  refine aG (by simp only [ev, Z, lkp, zE, reduceCtorEq, G, a8, E]; exact rfl) (fun hc7 => ?_) (fun hc7 => ?_)
  ·(try simp only [zB, reduceCtorEq] at hc7)
   refine aJ ?_
   refine hK6 _ ?_; clear hK6; refine ae [0, 1, 7, 8, 9] ?_; simp only [Z, lkp, zE, reduceCtorEq, G, a8, E]
   refine aa fun K8 hK8 => ?_
   refine aW ?_
   refine aa fun K9 hK9 => ?_
   refine aj hP hN rfl ?_
   iterate 2 (refine ad rfl fun K0 Y => ?_; simp only [zE, op1, ev, lkp, ah, ag, ev, reduceCtorEq, G, E, J, V, M, U, Tryd.td3]; refine Y _ ?_; clear Y K0; simp only [put, app, a9, af, zE, zS, E])
   refine ai ?_
   refine hK9 _ ?_; clear hK9; refine ae [0, 1, 5, 7, 8, 9] ?_; simp only [Z, lkp, zE, reduceCtorEq, G, a8, E]
   refine aa fun K10 hK10 => ?_
   refine aj hP hN rfl ?_
   iterate 5 (refine ad rfl fun K0 Y => ?_; simp only [zE, op1, ev, lkp, ah, ag, aI, zG, Ty.dflt, Ty.size, Nat.mul_one, ne_eq, not_false_eq_true, Int.natCast_one, Int.mul_one, ay, aw, ax, acs, aq, reduceCtorEq, G, E, J, V, M, U, Tryd.el25, Tryd.td101, Tryd.td25, Tryd.td3]; (repeat refine And.intro (by first | omega | assumption | exact rfl) ?_); refine Y _ ?_; clear Y K0; simp only [put, app, a9, af, zE, zS, E])
   refine ad rfl fun K0 Y => ?_
   refine bc (h := aU (rx (w.getD k 0) n)) rfl rfl (by first | exact rfl | (simp only [ev, Z, lkp, zE, reduceCtorEq, G, a8, E]; exact rfl)) (by simp only [zE, zG, op1, ev, lkp, ah, ag, au, acs, br, mv1, mvC, Ty.dflt, reduceCtorEq, G, E, J, V, M, U]) ?_
   refine Y _ ?_; clear Y K0; simp only [put, app, a9, af, zE, zS, E]
   refine ai ?_
   refine hK10 _ ?_; clear hK10; refine ae [0, 1, 5, 7, 8, 9, 16] ?_; simp only [Z, lkp, zE, reduceCtorEq, G, a8, E]
   refine aG (by simp only [ev, Z, lkp, zE, reduceCtorEq, G, a8, E]; exact rfl) (fun hc11 => ?_) (fun hc11 => ?_)
   ·(try simp only [zB, reduceCtorEq] at hc11)
    refine aa fun K12 hK12 => ?_
    refine aj hP hN rfl ?_
    iterate 2 (refine ad rfl fun K0 Y => ?_; simp only [zE, op1, ev, lkp, ah, ag, ev, reduceCtorEq, G, E, J, V, M, U, Tryd.td3]; refine Y _ ?_; clear Y K0; simp only [put, app, a9, af, zE, zS, E])
    refine ai ?_
    refine hK12 _ ?_; clear hK12; refine ae [0, 1, 4, 5, 7, 8, 9, 16] ?_; simp only [Z, lkp, zE, reduceCtorEq, G, a8, E]
    refine aP ?_
    refine ⟨by first | exact .inl rfl | exact .inr rfl, _, rfl, ?_⟩; simp only [fzV, fz1, fzC, List.map_cons, List.map_nil, Z, lkp, zE, reduceCtorEq, G, a8, E]
    refine VLE.of_eq ?_
    refine congrArg (fun n => AV.one (AC.int IntKind.i64 n)) ?_
    symm
    first
    | exact me (by omega) hI (by unfold cq; omega)
    | exact gr fun i hi => hI i (by omega)
   ·(try simp only [zB, reduceCtorEq] at hc11)
    refine aJ ?_
    refine hK8 _ ?_; clear hK8; refine ae [0, 1, 5, 7, 8, 9, 16] ?_; simp only [Z, lkp, zE, reduceCtorEq, G, a8, E]
    refine aj hP hN rfl ?_
    iterate 2 (refine ad rfl fun K0 Y => ?_; simp only [zE, op1, ev, lkp, ah, ag, aC, aD, aE, ao, aB, aR, reduceCtorEq, G, E, J, V, M, U, Tryd.td3]; (repeat refine And.intro (by first | omega | assumption | exact rfl) ?_); refine Y _ ?_; clear Y K0; simp only [put, app, a9, af, zE, zS, E])
    refine ai ?_
    refine ⟨_, _, ?_, aS [0, 1, 7, 8], k + 1, by omega, fun i hi => ?_, rfl, rfl⟩
    · omega
    · by_cases e : i = k
      · rw [e]; unfold cq; omega
      · exact hI i (by omega)
  ·(try simp only [zB, reduceCtorEq] at hc7)
   refine bK ?_
   refine hK2 _ ?_; clear hK2; refine ae [0, 1, 7, 8, 9] ?_; simp only [Z, lkp, zE, reduceCtorEq, G, a8, E]
   refine aa fun K13 hK13 => ?_
   refine aj hP hN rfl ?_
   (refine ad rfl fun K0 Y => ?_; simp only [zE, op1, ev, lkp, ah, ag, ev, reduceCtorEq, G, E, J, V, M, U, Tryd.td3]; refine Y _ ?_; clear Y K0; simp only [put, app, a9, af, zE, zS, E])
   refine ai ?_
   refine hK13 _ ?_; clear hK13; refine ae [0, 1, 4, 7, 8, 9] ?_; simp only [Z, lkp, zE, reduceCtorEq, G, a8, E]
   refine aP ?_
   refine ⟨by first | exact .inl rfl | exact .inr rfl, _, rfl, ?_⟩; simp only [fzV, fz1, fzC, List.map_cons, List.map_nil, Z, lkp, zE, reduceCtorEq, G, a8, E]
   refine VLE.of_eq ?_
   refine congrArg (fun n => AV.one (AC.int IntKind.i64 n)) ?_
   symm
   first
   | exact me (by omega) hI (by unfold cq; omega)
   | exact gr fun i hi => hI i (by omega)
end Go.Proofs.YtgmgnkmgofkfpaaDoor
namespace Go.Proofs.YtgmgnkmgofkfpaaDoor
open Go Go.AV
open Nat renaming reduceEqDiff → G, reduceAdd → E, reduceLeDiff → J, reduceLT → V, reduceMul → M, reduceSub → U
open List renaming set_cons_zero → aA, set_cons_succ → az
set_option maxRecDepth 100000 in
theorem qJ (w : List Int) (n : Int) (hw : w.length ≤ 1024) : ch Tryd.prog 52 [.one (.list (.int .i64) w), .one (.fn 53 [.pat (.int .i64) n])] (.one (.bool (decide (0 ≤ fP w n)))) := by
 refine bp Tryd.func52 rfl (by kernel_rfl) (Nat.le_of_ble_eq_true rfl) rfl fun C hP hN hB => ?_
 replace hN : C.N = 9 := hN
 simp only [a8, E]
 refine aa fun K1 hK1 => ?_
 refine aj hP hN rfl ?_
 (refine ad rfl fun K0 Y => ?_; simp only [zE, op1, ev, lkp, ah, ag, ev, reduceCtorEq, G, E, J, V, M, U, Tryd.td4]; refine Y _ ?_; clear Y K0; simp only [put, app, a9, af, zE, zS, E])
 refine ai ?_
 refine hK1 _ ?_; clear hK1; refine ae [0, 1, 4] ?_; simp only [Z, lkp, zE, reduceCtorEq, G, a8, E]
 refine aa fun K2 hK2 => ?_
 refine aj hP hN rfl ?_
 iterate 2 (refine ad rfl fun K0 Y => ?_; simp only [zE, op1, ev, lkp, ah, ag, ev, reduceCtorEq, G, E, J, V, M, U, Tryd.el25, Tryd.td101, Tryd.td25]; refine Y _ ?_; clear Y K0; simp only [put, app, a9, af, zE, zS, E])
 refine ad rfl fun K0 Y => ?_
 refine bc (h := aU (rt w n hw)) rfl rfl (by first | exact rfl | (simp only [ev, Z, lkp, zE, reduceCtorEq, G, a8, E]; exact rfl)) (by simp only [zE, zG, op1, ev, lkp, ah, ag, au, acs, br, mv1, mvC, Ty.dflt, reduceCtorEq, G, E, J, V, M, U]) ?_
 refine Y _ ?_; clear Y K0; simp only [put, app, a9, af, zE, zS, E]
 iterate 2 (refine ad rfl fun K0 Y => ?_; simp only [zE, op1, ev, lkp, ah, ag, aC, aD, aE, ao, aB, aR, reduceCtorEq, G, E, J, V, M, U, Tryd.td3, Tryd.td4]; (repeat refine And.intro (by first | omega | assumption | exact rfl) ?_); refine Y _ ?_; clear Y K0; simp only [put, app, a9, af, zE, zS, E])
 refine ai ?_
 refine hK2 _ ?_; clear hK2; refine ae [0, 1, 4] ?_; simp only [Z, lkp, zE, reduceCtorEq, G, a8, E]
 refine aP ?_
 refine ⟨by first | exact .inl rfl | exact .inr rfl, _, rfl, ?_⟩; simp only [fzV, fz1, fzC, List.map_cons, List.map_nil, Z, lkp, zE, reduceCtorEq, G, a8, E]
 refine VLE.of_eq ?_
 rfl
end Go.Proofs.YtgmgnkmgofkfpaaDoor
namespace Go.Proofs.YtgmgnkmgofkfpaaDoor
open Go Go.AV
open Nat renaming reduceEqDiff → G, reduceAdd → E, reduceLeDiff → J, reduceLT → V, reduceMul → M, reduceSub → U
open List renaming set_cons_zero → aA, set_cons_succ → az
set_option maxRecDepth 100000 in
theorem qD (n : Int) : ch Tryd.prog 51 [.one (.int .i64 n)] (.one (.bool (decide (1 ≤ n) && decide (n ≤ 1024)))) := by
 refine bp Tryd.func51 rfl (by kernel_rfl) (Nat.le_of_ble_eq_true rfl) rfl fun C hP hN hB => ?_
 replace hN : C.N = 9 := hN
 simp only [a8, E]
 refine aa fun K1 hK1 => ?_
 refine aj hP hN rfl ?_
 (refine ad rfl fun K0 Y => ?_; simp only [zE, op1, ev, lkp, ah, ag, ev, reduceCtorEq, G, E, J, V, M, U, Tryd.td4]; refine Y _ ?_; clear Y K0; simp only [put, app, a9, af, zE, zS, E])
 refine ai ?_
 refine hK1 _ ?_; clear hK1; refine ae [0, 2] ?_; simp only [Z, lkp, zE, reduceCtorEq, G, a8, E]
 refine aa fun K2 hK2 => ?_
 refine aj hP hN rfl ?_
 iterate 2 (refine ad rfl fun K0 Y => ?_; simp only [zE, op1, ev, lkp, ah, ag, aC, aD, aE, ao, aB, aR, reduceCtorEq, G, E, J, V, M, U, Tryd.td3, Tryd.td4]; (repeat refine And.intro (by first | omega | assumption | exact rfl) ?_); refine Y _ ?_; clear Y K0; simp only [put, app, a9, af, zE, zS, E])
 (refine ad rfl fun K0 Y => ?_; simp only [zE, op1, ev, lkp, ah, ag, ev, reduceCtorEq, G, E, J, V, M, U, Tryd.td4]; refine Y _ ?_; clear Y K0; simp only [put, app, a9, af, zE, zS, E])
 refine' aY (want := true) 2 rfl (m := 5) (by simp only [Z, lkp, zE, reduceCtorEq, G, a8, E]; exact rfl) (by kernel_rfl) rfl rfl rfl rfl rfl (fun hg3 => ?a3) ?b3 ?c3
 case a3 =>
  have hq3 := hg3; (try simp only [zB, reduceCtorEq] at hg3); simp only [List.take_succ_cons, List.take_zero, List.cons_append, List.nil_append]
  (refine ar rfl fun K0 Y => ?_; simp only [zE, op1, ev, lkp, ah, ag, ev, reduceCtorEq, G, E, J, V, M, U, Tryd.td3]; refine Y _ ?_; clear Y K0; simp only [put, app, a9, af, zE, zS, E])
  (refine ar rfl fun K0 Y => ?_; simp only [zE, op1, ev, lkp, ah, ag, aC, aD, aE, ao, aB, aR, reduceCtorEq, G, E, J, V, M, U, Tryd.td3, Tryd.td4]; (repeat refine And.intro (by first | omega | assumption | exact rfl) ?_); refine Y _ ?_; clear Y K0; simp only [put, app, a9, af, zE, zS, E])
  (refine ad rfl fun K0 Y => ?_; simp only [zE, op1, ev, lkp, ah, ag, bt, reduceCtorEq, G, E, J, V, M, U, Tryd.td4]; refine Y _ ?_; clear Y K0; simp only [put, app, a9, af, zE, zS, E])
  refine ai ?_
  refine ⟨by simp only [Z, lkp, zE, reduceCtorEq, G, a8, E]; exact rfl, rfl, ?_, rfl⟩; (repeat refine aZ rfl ?_); exact bz (by exact rfl) hq3
 case b3 => exact bv (by first | rfl | (simp [bV]; done) | decide)
 simp only [bj, bg]
 (refine ad rfl fun K0 Y => ?_; simp only [zE, op1, ev, lkp, ah, ag, ev, reduceCtorEq, G, E, J, V, M, U, Tryd.td4]; refine Y _ ?_; clear Y K0; simp only [put, app, a9, af, zE, zS, E])
 refine ai ?_
 refine hK2 _ ?_; clear hK2; refine ae [0, 2] ?_; simp only [Z, lkp, zE, reduceCtorEq, G, a8, E]
 refine aP ?_
 refine ⟨by first | exact .inl rfl | exact .inr rfl, _, rfl, ?_⟩; simp only [fzV, fz1, fzC, List.map_cons, List.map_nil, Z, lkp, zE, reduceCtorEq, G, a8, E]
 refine VLE.of_eq ?_
 rfl
end Go.Proofs.YtgmgnkmgofkfpaaDoor
namespace Go.Proofs.YtgmgnkmgofkfpaaDoor
open Go Go.AV
open Nat renaming reduceEqDiff → G, reduceAdd → E, reduceLeDiff → J, reduceLT → V, reduceMul → M, reduceSub → U
open List renaming set_cons_zero → aA, set_cons_succ → az
set_option maxRecDepth 100000 in
theorem ma (w : List Int) (n : Int) : ch Tryd.prog 36 [.one (.list (.int .i64) w), .one (.int .i64 n)] (.one (.int .i64 (cw w n))) := by
 refine bp Tryd.func36 rfl (by kernel_rfl) (Nat.le_of_ble_eq_true rfl) rfl fun C hP hN hB => ?_
 replace hN : C.N = 17 := hN
 simp only [a8, E]
 refine aa fun K1 hK1 => ?_
 refine aj hP hN rfl ?_
 iterate 2 (refine ad rfl fun K0 Y => ?_; simp only [zE, op1, ev, lkp, ah, ag, cA, au, reduceCtorEq, G, E, J, V, M, U, Tryd.td26, Tryd.td3]; (repeat refine And.intro (by first | omega | assumption | exact rfl) ?_); refine Y _ ?_; clear Y K0; simp only [put, app, a9, af, zE, zS, E])
 refine ai ?_
 refine hK1 _ ?_; clear hK1; refine ae [0, 1, 3, 4] ?_; simp only [Z, lkp, zE, reduceCtorEq, G, a8, E]
 refine aa fun K2 hK2 => ?_
 refine aW ?_
 refine aa fun K3 hK3 => ?_
 refine aj hP hN rfl ?_
 (refine ad rfl fun K0 Y => ?_; simp only [zE, op1, ev, lkp, ah, ag, ay, Nat.mul_one, aw, ax, acs, Ty.dflt, zG, aq, reduceCtorEq, G, E, J, V, M, U, Tryd.td3]; (repeat refine And.intro (by first | omega | assumption | exact rfl) ?_); refine Y _ ?_; clear Y K0; simp only [put, app, a9, af, zE, zS, E])
 refine ad rfl fun K0 Y => ?_
 refine bc (h := aU (qD n)) rfl rfl (by first | exact rfl | (simp only [ev, Z, lkp, zE, reduceCtorEq, G, a8, E]; exact rfl)) (by simp only [zE, zG, op1, ev, lkp, ah, ag, au, acs, br, mv1, mvC, Ty.dflt, reduceCtorEq, G, E, J, V, M, U]) ?_
 refine Y _ ?_; clear Y K0; simp only [put, app, a9, af, zE, zS, E]
 iterate 2 (refine ad rfl fun K0 Y => ?_; simp only [zE, op1, ev, lkp, ah, ag, dR, reduceCtorEq, G, E, J, V, M, U, Tryd.td4]; (repeat refine And.intro (by first | omega | assumption | exact rfl) ?_); refine Y _ ?_; clear Y K0; simp only [put, app, a9, af, zE, zS, E])
 refine ai ?_
 refine hK3 _ ?_; clear hK3; refine ae [0, 1, 3, 4, 5] ?_; simp only [Z, lkp, zE, reduceCtorEq, G, a8, E]
 refine aG (by simp only [ev, Z, lkp, zE, reduceCtorEq, G, a8, E]; exact rfl) (fun hc4 => ?_) (fun hc4 => ?_)
 ·(try simp only [zB, reduceCtorEq] at hc4)
  refine aa fun K5 hK5 => ?_
  refine aj hP hN rfl ?_
  (refine ad rfl fun K0 Y => ?_; simp only [zE, op1, ev, lkp, ah, ag, ev, reduceCtorEq, G, E, J, V, M, U, Tryd.td26]; refine Y _ ?_; clear Y K0; simp only [put, app, a9, af, zE, zS, E])
  refine ai ?_
  refine hK5 _ ?_; clear hK5; refine ae [0, 1, 3, 4, 5] ?_; simp only [Z, lkp, zE, reduceCtorEq, G, a8, E]
  refine aP ?_
  refine ⟨by first | exact .inl rfl | exact .inr rfl, _, rfl, ?_⟩; simp only [fzV, fz1, fzC, List.map_cons, List.map_nil, Z, lkp, zE, reduceCtorEq, G, a8, E]
  refine VLE.of_eq ?_
  refine congrArg (fun n => AV.one (AC.int IntKind.i64 n)) ?_
  symm
  first
  | (unfold cw; rw [if_pos (by omega)]; done)
  | (unfold cw; rw [if_neg (by omega), if_pos (by omega)]; done)
  | exact eX (by omega) (by omega) (by omega) (by omega)
  | exact dX (by omega) (by omega) (by omega) (by omega)
 ·(try simp only [zB, reduceCtorEq] at hc4)
  refine aa fun K6 hK6 => ?_
  refine aj hP hN rfl ?_
  iterate 4 (refine ad rfl fun K0 Y => ?_; simp only [zE, op1, ev, lkp, ah, ag, aF, bu, bh, ba, bb, bq, Nat.div_one, aK, bf, Ty.size, aL, dite_true, aC, aD, aE, ao, aB, aR, reduceCtorEq, G, E, J, V, M, U, Tryd.el25, Tryd.td25, Tryd.td3, Tryd.td4]; (repeat refine And.intro (by first | omega | assumption | exact rfl) ?_); (first | refine Y _ ?_ | refine Or.inl (Y _ ?_)); clear Y K0; simp only [put, app, a9, af, zE, zS, E])
  refine ai ?_
  refine hK6 _ ?_; clear hK6; refine ae [0, 1, 3, 4, 5, 9] ?_; simp only [Z, lkp, zE, reduceCtorEq, G, a8, E]
  refine aG (by simp only [ev, Z, lkp, zE, reduceCtorEq, G, a8, E]; exact rfl) (fun hc7 => ?_) (fun hc7 => ?_)
  ·(try simp only [zB, reduceCtorEq] at hc7)
   refine aa fun K8 hK8 => ?_
   refine aj hP hN rfl ?_
   (refine ad rfl fun K0 Y => ?_; simp only [zE, op1, ev, lkp, ah, ag, ev, reduceCtorEq, G, E, J, V, M, U, Tryd.td26]; refine Y _ ?_; clear Y K0; simp only [put, app, a9, af, zE, zS, E])
   refine ai ?_
   refine hK8 _ ?_; clear hK8; refine ae [0, 1, 3, 4, 5, 9] ?_; simp only [Z, lkp, zE, reduceCtorEq, G, a8, E]
   refine aP ?_
   refine ⟨by first | exact .inl rfl | exact .inr rfl, _, rfl, ?_⟩; simp only [fzV, fz1, fzC, List.map_cons, List.map_nil, Z, lkp, zE, reduceCtorEq, G, a8, E]
   refine VLE.of_eq ?_
   refine congrArg (fun n => AV.one (AC.int IntKind.i64 n)) ?_
   symm
   first
   | (unfold cw; rw [if_pos (by omega)]; done)
   | (unfold cw; rw [if_neg (by omega), if_pos (by omega)]; done)
   | exact eX (by omega) (by omega) (by omega) (by omega)
   | exact dX (by omega) (by omega) (by omega) (by omega)
  ·(try simp only [zB, reduceCtorEq] at hc7)
   refine aa fun K9 hK9 => ?_
   refine jT 0 (.int .i64) rfl rfl ?_; simp only [List.map_cons, List.map_nil, shV, if_true, aA]
   refine aj hP hN rfl ?_
   iterate 2 (refine ad rfl fun K0 Y => ?_; simp only [zE, op1, ev, lkp, ah, ag, fF, fW, lg, reduceCtorEq, G, E, J, V, M, U, Tryd.el25, Tryd.td101, Tryd.td25]; (repeat refine And.intro (by first | omega | assumption | exact rfl) ?_); (first | refine Y _ ?_ | refine Or.inl (Y _ ?_)); clear Y K0; simp only [put, app, a9, af, zE, zS, E])
   refine ad rfl fun K0 Y => ?_
   refine bc (h := aU (qJ w n (by omega))) rfl rfl (by first | exact rfl | (simp only [ev, Z, lkp, zE, reduceCtorEq, G, a8, E]; exact rfl)) (by simp only [zE, zG, op1, ev, lkp, ah, ag, au, acs, br, mv1, mvC, Ty.dflt, reduceCtorEq, G, E, J, V, M, U]) ?_
   refine Y _ ?_; clear Y K0; simp only [put, app, a9, af, zE, zS, E]
   (refine ad rfl fun K0 Y => ?_; simp only [zE, op1, ev, lkp, ah, ag, ev, reduceCtorEq, G, E, J, V, M, U, Tryd.td4]; refine Y _ ?_; clear Y K0; simp only [put, app, a9, af, zE, zS, E])
   refine ai ?_
   refine hK9 _ ?_; clear hK9; refine ae [0, 1, 3, 4, 5, 9, 13] ?_; simp only [Z, lkp, zE, reduceCtorEq, G, a8, E]
   refine aG (by simp only [ev, Z, lkp, zE, reduceCtorEq, G, a8, E]; exact rfl) (fun hc10 => ?_) (fun hc10 => ?_)
   ·(try simp only [zB, reduceCtorEq] at hc10)
    refine aa fun K11 hK11 => ?_
    refine aj hP hN rfl ?_
    (refine ad rfl fun K0 Y => ?_; simp only [zE, op1, ev, lkp, ah, ag, ev, reduceCtorEq, G, E, J, V, M, U, Tryd.td26]; refine Y _ ?_; clear Y K0; simp only [put, app, a9, af, zE, zS, E])
    refine ai ?_
    refine hK11 _ ?_; clear hK11; refine ae [0, 1, 3, 4, 5, 9, 13] ?_; simp only [Z, lkp, zE, reduceCtorEq, G, a8, E]
    refine aP ?_
    refine ⟨by first | exact .inl rfl | exact .inr rfl, _, rfl, ?_⟩; simp only [fzV, fz1, fzC, List.map_cons, List.map_nil, Z, lkp, zE, reduceCtorEq, G, a8, E]
    refine VLE.of_eq ?_
    refine congrArg (fun n => AV.one (AC.int IntKind.i64 n)) ?_
    symm
    first
    | (unfold cw; rw [if_pos (by omega)]; done)
    | (unfold cw; rw [if_neg (by omega), if_pos (by omega)]; done)
    | exact eX (by omega) (by omega) (by omega) (by omega)
    | exact dX (by omega) (by omega) (by omega) (by omega)
   ·(try simp only [zB, reduceCtorEq] at hc10)
    refine aJ ?_
    refine hK2 _ ?_; clear hK2; refine ae [0, 1, 3, 4, 5, 9, 13] ?_; simp only [Z, lkp, zE, reduceCtorEq, G, a8, E]
    refine aa fun K12 hK12 => ?_
    refine aj hP hN rfl ?_
    (refine ad rfl fun K0 Y => ?_; simp only [zE, op1, ev, lkp, ah, ag, ev, reduceCtorEq, G, E, J, V, M, U, Tryd.td26]; refine Y _ ?_; clear Y K0; simp only [put, app, a9, af, zE, zS, E])
    refine ai ?_
    refine hK12 _ ?_; clear hK12; refine ae [0, 1, 3, 4, 5, 9, 13] ?_; simp only [Z, lkp, zE, reduceCtorEq, G, a8, E]
    refine aP ?_
    refine ⟨by first | exact .inl rfl | exact .inr rfl, _, rfl, ?_⟩; simp only [fzV, fz1, fzC, List.map_cons, List.map_nil, Z, lkp, zE, reduceCtorEq, G, a8, E]
    refine VLE.of_eq ?_
    refine congrArg (fun n => AV.one (AC.int IntKind.i64 n)) ?_
    symm
    first
    | (unfold cw; rw [if_pos (by omega)]; done)
    | (unfold cw; rw [if_neg (by omega), if_pos (by omega)]; done)
    | exact eX (by omega) (by omega) (by omega) (by omega)
    | exact dX (by omega) (by omega) (by omega) (by omega)
end Go.Proofs.YtgmgnkmgofkfpaaDoor
namespace Go.Proofs.YtgmgnkmgofkfpaaDoor
open Go Go.AV
open Nat renaming reduceEqDiff → G, reduceAdd → E, reduceLeDiff → J, reduceLT → V, reduceMul → M, reduceSub → U
open List renaming set_cons_zero → aA, set_cons_succ → az
set_option maxRecDepth 100000 in
theorem ow (p : Mpr) : dc Tryd.prog [.vars 24 [.int .i64 p.inp, .int .i64 p.ab, .int .i64 p.st, .list (.list (.int .i64)) p.nx, .list (.list (.int .i64)) p.sy]] 37 [p.av] { av := .one (.ptr 2 0 0 0), new := [.vars 24 [.int .i64 p.inp, .int .i64 p.ab, .int .i64 p.st, .list (.list (.int .i64)) p.nx, .list (.list (.int .i64)) p.sy], .vars 77 [.int .i64 p.inp, .int .i64 p.ab, .int .i64 p.st, .list (.list (.int .i64)) p.nx, .list (.list (.int .i64)) p.sy, .int .i64 p.st]], fp := [0] } := by
 refine d7 _ _ Tryd.func37 rfl (by kernel_rfl) (Nat.le_of_ble_eq_true rfl) (by intro k hk; simp only [List.length_cons, List.length_nil, Nat.zero_add, E] at hk; simp only [List.mem_cons, List.not_mem_nil, or_false]; omega) (fun C hP hN hB => ?_)
 replace hB : C.bL.length = 1 := by rw [hB]; rfl
 replace hN : C.N = 8 := hN
 simp only [a8, E]
 refine aa fun K1 hK1 => ?_
 refine aj hP hN rfl ?_
 iterate 2 (refine ad rfl fun K0 Y => ?_; simp only [zE, op1, ev, lkp, ah, ag, cA, au, reduceCtorEq, G, E, J, V, M, U, Tryd.st24, Tryd.td24, Tryd.td71, Mpr.av]; (repeat refine And.intro (by first | omega | assumption | exact rfl) ?_); refine Y _ ?_; clear Y K0; simp only [put, app, a9, af, zE, zS, E])
 refine ai ?_
 refine hK1 _ ?_; clear hK1; refine ae [0, 1, 2] ?_; simp only [Z, lkp, zE, reduceCtorEq, G, a8, E]
 refine aa fun K2 hK2 => ?_
 refine aj hP hN rfl ?_
 iterate 6 (refine ad rfl fun K0 Y => ?_; simp only [zE, op1, ev, lkp, ah, ag, ay, Nat.mul_one, aw, ax, acs, Ty.dflt, zG, aq, am, c9, b9, aQ, au, cA, reduceCtorEq, G, E, J, V, M, U, Tryd.st24, Tryd.st77, Tryd.td2, Tryd.td24, Tryd.td3, Tryd.td71, Tryd.td77, Mpr.av]; (repeat refine And.intro (by first | omega | assumption | exact rfl) ?_); (first | refine Y _ ?_ | refine Or.inl (Y _ ?_)); clear Y K0; simp only [put, app, a9, af, zE, zS, E])
 refine ai ?_
 refine hK2 _ ?_; clear hK2; refine ae [0, 1, 2] ?_; simp only [Z, lkp, zE, reduceCtorEq, G, a8, E]
 refine aP ?_
 refine ⟨by first | exact .inl rfl | exact .inr rfl, _, rfl, ?_⟩; simp only [Z, lkp, zE, reduceCtorEq, G, a8, E, Mpr.av]
 first | exact ⟨rfl, rfl⟩ | rfl
end Go.Proofs.YtgmgnkmgofkfpaaDoor
namespace Go.Proofs.YtgmgnkmgofkfpaaDoor
open Go Go.AV
open Nat renaming reduceEqDiff → G, reduceAdd → E, reduceLeDiff → J, reduceLT → V, reduceMul → M, reduceSub → U
open List renaming set_cons_zero → aA, set_cons_succ → az
set_option maxRecDepth 100000 in
theorem mg (p : Mpr) (s c : Int) (hp : POK p) (hs : 0 ≤ s ∧ s < p.nx.length) (hc : 0 ≤ c ∧ c < p.inp) (L0 : List AO) (m0 : Nat) (hm0 : L0[m0]? = some (.vars 77 [.int .i64 p.inp, .int .i64 p.ab, .int .i64 p.st, .list (.list (.int .i64)) p.nx, .list (.list (.int .i64)) p.sy, .int .i64 s])) : dc Tryd.prog L0 38 (List.map (mv1 m0) [.one (.ptr 0 0 0 0), .one (.int .i64 c)]) { av := .one (.int .i64 (p.sx s c)), upd := [(m0, .vars 77 [.int .i64 p.inp, .int .i64 p.ab, .int .i64 p.st, .list (.list (.int .i64)) p.nx, .list (.list (.int .i64)) p.sy, .int .i64 (p.tx s c)])], fp := [m0] } := by
 have a7 := hp.sl; obtain ⟨hrl, hql⟩ := hp.rli hs
 refine mM Tryd.func38 rfl (by kernel_rfl) (Nat.le_of_ble_eq_true rfl) rfl rfl (fun C hP hN hB => ?_) L0 m0 hm0
 replace hN : C.N = 38 := hN
 simp only [a8, E]
 refine aa fun K1 hK1 => ?_
 refine aj hP hN rfl ?_
 (refine ad rfl fun K0 Y => ?_; simp only [zE, op1, ev, lkp, ah, ag, ev, reduceCtorEq, G, E, J, V, M, U, Tryd.td3]; refine Y _ ?_; clear Y K0; simp only [put, app, a9, af, zE, zS, E])
 refine ai ?_
 refine hK1 _ ?_; clear hK1; refine ae [0, 1, 4] ?_; simp only [Z, lkp, zE, reduceCtorEq, G, a8, E]
 refine aa fun K2 hK2 => ?_
 refine bW hP hN Tryd.mixed rfl ?_
 iterate 15 (refine ad rfl fun K0 Y => ?_; simp only [zE, op1, ev, lkp, ah, ag, cO, am, ay, Nat.mul_one, aw, ax, acs, Ty.dflt, zG, aq, aI, Ty.size, ne_eq, not_false_eq_true, Int.natCast_one, Int.mul_one, reduceCtorEq, G, E, J, V, M, U, Tryd.el22, Tryd.el25, Tryd.st24, Tryd.st77, Tryd.td1, Tryd.td22, Tryd.td24, Tryd.td25, Tryd.td3, Tryd.td4, Tryd.td71, Tryd.td77]; (repeat refine And.intro (by first | omega | assumption | exact rfl) ?_); (first | refine Y _ ?_ | refine Or.inl (Y _ ?_)); clear Y K0; simp only [put, app, a9, af, zE, zS, E])
 refine ai ?_
 refine ⟨by kernel_rfl, ?_⟩
 refine hK2 _ ?_; clear hK2; refine ae [0, 1, 4, 5] ?_; simp only [Z, lkp, zE, reduceCtorEq, G, a8, E]
 refine aa fun K3 hK3 => ?_
 refine bW hP hN Tryd.mixed rfl ?_
 iterate 18 (refine ad rfl fun K0 Y => ?_; simp only [zE, op1, ev, lkp, ah, ag, cO, am, ay, Nat.mul_one, aw, ax, acs, Ty.dflt, zG, aq, aI, Ty.size, ne_eq, not_false_eq_true, Int.natCast_one, Int.mul_one, bI, au, aQ, aL, reduceCtorEq, G, E, J, V, M, U, Tryd.el22, Tryd.el25, Tryd.st24, Tryd.st77, Tryd.td1, Tryd.td22, Tryd.td24, Tryd.td25, Tryd.td3, Tryd.td71, Tryd.td77]; (repeat refine And.intro (by first | omega | assumption | exact rfl) ?_); (first | refine Y _ ?_ | refine Or.inl (Y _ ?_)); clear Y K0; simp only [put, app, a9, af, zE, zS, E])
 refine ai ?_
 refine ⟨by kernel_rfl, ?_⟩
 refine hK3 _ ?_; clear hK3; refine ae [0, 1, 4, 5] ?_; simp only [Z, lkp, zE, reduceCtorEq, G, a8, E]
 refine aa fun K4 hK4 => ?_
 refine aj hP hN rfl ?_
 iterate 2 (refine ad rfl fun K0 Y => ?_; simp only [zE, op1, ev, lkp, ah, ag, ev, reduceCtorEq, G, E, J, V, M, U, Tryd.td3]; refine Y _ ?_; clear Y K0; simp only [put, app, a9, af, zE, zS, E])
 refine ai ?_
 refine hK4 _ ?_; clear hK4; refine ae [0, 1, 4, 5] ?_; simp only [Z, lkp, zE, reduceCtorEq, G, a8, E]
 refine aP ?_
 refine ⟨by first | exact .inl rfl | exact .inr rfl, _, rfl, _, _, rfl, ?_, ?_⟩ <;> simp only [fzV, fz1, fzC, List.map_cons, List.map_nil, Z, lkp, zE, reduceCtorEq, G, a8, E]
 rfl
 rfl
end Go.Proofs.YtgmgnkmgofkfpaaDoor
namespace Go.Proofs.YtgmgnkmgofkfpaaDoor
open Go Go.AV
open Nat renaming reduceEqDiff → G, reduceAdd → E, reduceLeDiff → J, reduceLT → V, reduceMul → M, reduceSub → U
open List renaming set_cons_zero → aA, set_cons_succ → az
set_option maxRecDepth 100000 in
theorem qz (p : Mpr) (w : List Int) : ch Tryd.prog 16 [p.av, .one (.list (.int .i64) w)] (.tup [.one (.list (.int .i64) (abV p w)), .one (.int .i64 (abE p w))]) := by
 refine bp Tryd.func16 rfl (by kernel_rfl) (Nat.le_of_ble_eq_true rfl) rfl fun C hP hN hB => ?_
 replace hN : C.N = 40 := hN
 simp only [a8, E]
 refine aa fun K1 hK1 => ?_
 refine aj hP hN rfl ?_
 iterate 3 (refine ad rfl fun K0 Y => ?_; simp only [zE, op1, ev, lkp, ah, ag, cA, au, reduceCtorEq, G, E, J, V, M, U, Tryd.el25, Tryd.st24, Tryd.td24, Tryd.td25, Tryd.td26, Mpr.av]; (repeat refine And.intro (by first | omega | assumption | exact rfl) ?_); refine Y _ ?_; clear Y K0; simp only [put, app, a9, af, zE, zS, E])
 refine ai ?_
 refine hK1 _ ?_; clear hK1; refine ae [0, 1, 2, 4, 5] ?_; simp only [Z, lkp, zE, reduceCtorEq, G, a8, E]
 refine aa fun K2 hK2 => ?_
 refine aa fun K3 hK3 => ?_
 refine aj hP hN rfl ?_
 (refine ad rfl fun K0 Y => ?_; simp only [zE, op1, ev, lkp, ah, ag, ay, Nat.mul_one, aw, ax, acs, Ty.dflt, zG, aq, reduceCtorEq, G, E, J, V, M, U, Tryd.st24, Tryd.td24, Mpr.av]; (repeat refine And.intro (by first | omega | assumption | exact rfl) ?_); refine Y _ ?_; clear Y K0; simp only [put, app, a9, af, zE, zS, E])
 refine ad rfl fun K0 Y => ?_
 refine bc (h := aU (ib p)) rfl rfl (by first | exact rfl | (simp only [ev, Z, lkp, zE, reduceCtorEq, G, a8, E]; exact rfl)) (by simp only [zE, zG, op1, ev, lkp, ah, ag, au, acs, br, mv1, mvC, Ty.dflt, reduceCtorEq, G, E, J, V, M, U, Mpr.av]) ?_
 refine Y _ ?_; clear Y K0; simp only [put, app, a9, af, zE, zS, E]
 (refine ad rfl fun K0 Y => ?_; simp only [zE, op1, ev, lkp, ah, ag, ev, reduceCtorEq, G, E, J, V, M, U, Tryd.td26, Mpr.av]; refine Y _ ?_; clear Y K0; simp only [put, app, a9, af, zE, zS, E])
 refine ai ?_
 refine hK3 _ ?_; clear hK3; refine ae [0, 1, 2, 4, 5, 6] ?_; simp only [Z, lkp, zE, reduceCtorEq, G, a8, E]
 refine aa fun K4 hK4 => ?_
 refine aj hP hN rfl ?_
 iterate 2 (refine ad rfl fun K0 Y => ?_; simp only [zE, op1, ev, lkp, ah, ag, aC, aD, aE, ao, aB, aR, reduceCtorEq, G, E, J, V, M, U, Tryd.td26, Tryd.td4, Mpr.av]; (repeat refine And.intro (by first | omega | assumption | exact rfl) ?_); refine Y _ ?_; clear Y K0; simp only [put, app, a9, af, zE, zS, E])
 refine ai ?_
 refine hK4 _ ?_; clear hK4; refine ae [0, 1, 2, 4, 5, 6, 15] ?_; simp only [Z, lkp, zE, reduceCtorEq, G, a8, E]
 refine aG (by simp only [ev, Z, lkp, zE, reduceCtorEq, G, a8, E]; exact rfl) (fun hc5 => ?_) (fun hc5 => ?_)
 ·(try simp only [zB, reduceCtorEq] at hc5)
  refine aa fun K6 hK6 => ?_
  refine aj hP hN rfl ?_
  iterate 3 (refine ad rfl fun K0 Y => ?_; simp only [zE, op1, ev, lkp, ah, ag, ev, reduceCtorEq, G, E, J, V, M, U, Tryd.el25, Tryd.td25, Tryd.td26, Mpr.av]; refine Y _ ?_; clear Y K0; simp only [put, app, a9, af, zE, zS, E])
  refine ai ?_
  refine hK6 _ ?_; clear hK6; refine ae [0, 1, 2, 4, 5, 6, 15] ?_; simp only [Z, lkp, zE, reduceCtorEq, G, a8, E]
  refine aP ?_
  refine ⟨by first | exact .inl rfl | exact .inr rfl, _, rfl, ?_⟩; simp only [fzV, fz1, fzC, List.map_cons, List.map_nil, Z, lkp, zE, reduceCtorEq, G, a8, E, Mpr.av]
  first
  | (have g9 := qq (w := w) (by assumption); obtain ⟨g1, g2⟩ := g9; rw [g1, g2]; exact bl ⟨aM (aH rfl), fun _ _ _ _ _ h => h, trivial⟩)
  | (have g9 := p5 hv (w := w) (by assumption); obtain ⟨g1, g2⟩ := g9; rw [g1, g2]; exact bl ⟨aM (aH rfl), fun _ _ _ _ _ h => h, trivial⟩)
  | (have g9 := nj hv (w := w) (by omega); obtain ⟨g1, g2⟩ := g9; rw [g1, g2]; exact VLE.of_eq rfl)
 ·(try simp only [zB, reduceCtorEq] at hc5)
  have hv : bQ p = 0 := by omega
  have hp := j8 hv; have a1 := hp.i1; have a2 := hp.i2; have b1 := hp.b1; have b2 := hp.b2; have a3 := hp.n1; have a4 := hp.n2; have a5 := hp.s1; have a6 := hp.s2; have a7 := hp.sl
  refine aJ ?_
  refine hK2 _ ?_; clear hK2; refine ae [0, 1, 2, 4, 5, 6, 15] ?_; simp only [Z, lkp, zE, reduceCtorEq, G, a8, E]
  refine aa fun K7 hK7 => ?_
  refine aa fun K8 hK8 => ?_
  refine aj hP hN rfl ?_
  iterate 3 (refine ad rfl fun K0 Y => ?_; simp only [zE, op1, ev, lkp, ah, ag, am, ay, Nat.mul_one, aw, ax, acs, Ty.dflt, zG, aq, reduceCtorEq, G, E, J, V, M, U, Tryd.el25, Tryd.st24, Tryd.td24, Tryd.td25, Tryd.td3, Mpr.av]; (repeat refine And.intro (by first | omega | assumption | exact rfl) ?_); refine Y _ ?_; clear Y K0; simp only [put, app, a9, af, zE, zS, E])
  refine ad rfl fun K0 Y => ?_
  refine bc (h := aU (ma w p.inp)) rfl rfl (by first | exact rfl | (simp only [ev, Z, lkp, zE, reduceCtorEq, G, a8, E]; exact rfl)) (by simp only [zE, zG, op1, ev, lkp, ah, ag, au, acs, br, mv1, mvC, Ty.dflt, reduceCtorEq, G, E, J, V, M, U, Mpr.av]) ?_
  refine Y _ ?_; clear Y K0; simp only [put, app, a9, af, zE, zS, E]
  (refine ad rfl fun K0 Y => ?_; simp only [zE, op1, ev, lkp, ah, ag, ev, reduceCtorEq, G, E, J, V, M, U, Tryd.td26, Mpr.av]; refine Y _ ?_; clear Y K0; simp only [put, app, a9, af, zE, zS, E])
  refine ai ?_
  refine hK8 _ ?_; clear hK8; refine ae [0, 1, 2, 4, 5, 6, 7, 15] ?_; simp only [Z, lkp, zE, reduceCtorEq, G, a8, E]
  refine aa fun K9 hK9 => ?_
  refine aj hP hN rfl ?_
  iterate 2 (refine ad rfl fun K0 Y => ?_; simp only [zE, op1, ev, lkp, ah, ag, aC, aD, aE, ao, aB, aR, reduceCtorEq, G, E, J, V, M, U, Tryd.td26, Tryd.td4, Mpr.av]; (repeat refine And.intro (by first | omega | assumption | exact rfl) ?_); refine Y _ ?_; clear Y K0; simp only [put, app, a9, af, zE, zS, E])
  refine ai ?_
  refine hK9 _ ?_; clear hK9; refine ae [0, 1, 2, 4, 5, 6, 7, 15, 22] ?_; simp only [Z, lkp, zE, reduceCtorEq, G, a8, E]
  refine aG (by simp only [ev, Z, lkp, zE, reduceCtorEq, G, a8, E]; exact rfl) (fun hc10 => ?_) (fun hc10 => ?_)
  ·(try simp only [zB, reduceCtorEq] at hc10)
   refine aa fun K11 hK11 => ?_
   refine aj hP hN rfl ?_
   iterate 3 (refine ad rfl fun K0 Y => ?_; simp only [zE, op1, ev, lkp, ah, ag, ev, reduceCtorEq, G, E, J, V, M, U, Tryd.el25, Tryd.td25, Tryd.td26, Mpr.av]; refine Y _ ?_; clear Y K0; simp only [put, app, a9, af, zE, zS, E])
   refine ai ?_
   refine hK11 _ ?_; clear hK11; refine ae [0, 1, 2, 4, 5, 6, 7, 15, 22] ?_; simp only [Z, lkp, zE, reduceCtorEq, G, a8, E]
   refine aP ?_
   refine ⟨by first | exact .inl rfl | exact .inr rfl, _, rfl, ?_⟩; simp only [fzV, fz1, fzC, List.map_cons, List.map_nil, Z, lkp, zE, reduceCtorEq, G, a8, E, Mpr.av]
   first
   | (have g9 := qq (w := w) (by assumption); obtain ⟨g1, g2⟩ := g9; rw [g1, g2]; exact bl ⟨aM (aH rfl), fun _ _ _ _ _ h => h, trivial⟩)
   | (have g9 := p5 hv (w := w) (by assumption); obtain ⟨g1, g2⟩ := g9; rw [g1, g2]; exact bl ⟨aM (aH rfl), fun _ _ _ _ _ h => h, trivial⟩)
   | (have g9 := nj hv (w := w) (by omega); obtain ⟨g1, g2⟩ := g9; rw [g1, g2]; exact VLE.of_eq rfl)
  ·(try simp only [zB, reduceCtorEq] at hc10)
   have hw := nz (w := w) (n := p.inp) (by omega); have hwl := hw.len
   refine aJ ?_
   refine hK7 _ ?_; clear hK7; refine ae [0, 1, 2, 4, 5, 6, 7, 15, 22] ?_; simp only [Z, lkp, zE, reduceCtorEq, G, a8, E]
   refine aa fun K12 hK12 => ?_
   refine aj hP hN rfl ?_
   (refine ad rfl fun K0 Y => ?_; simp only [zE, op1, ev, lkp, ah, ag, ay, Nat.mul_one, aw, ax, acs, Ty.dflt, zG, aq, reduceCtorEq, G, E, J, V, M, U, Tryd.st24, Tryd.td24, Mpr.av]; (repeat refine And.intro (by first | omega | assumption | exact rfl) ?_); refine Y _ ?_; clear Y K0; simp only [put, app, a9, af, zE, zS, E])
   refine ad rfl fun K0 Y => ?_
   refine bc (h := ow p) rfl rfl (by first | exact rfl | (simp only [ev, Z, lkp, zE, reduceCtorEq, G, a8, E]; exact rfl)) (by simp only [zE, zG, op1, ev, lkp, ah, ag, au, acs, br, mv1, mvC, Ty.dflt, reduceCtorEq, G, E, J, V, M, U, Mpr.av]) ?_
   refine Y _ ?_; clear Y K0; simp only [put, app, a9, af, zE, zS, E]
   (refine ad rfl fun K0 Y => ?_; simp only [zE, op1, ev, lkp, ah, ag, ev, reduceCtorEq, G, E, J, V, M, U, Tryd.td71, Mpr.av]; refine Y _ ?_; clear Y K0; simp only [put, app, a9, af, zE, zS, E])
   refine ai ?_
   refine hK12 _ ?_; clear hK12; refine ae [0, 1, 2, 4, 5, 6, 7, 8, 15, 22] ?_; simp only [Z, lkp, zE, reduceCtorEq, G, a8, E]
   refine aa fun K13 hK13 => ?_
   refine aj hP hN rfl ?_
   (refine ad rfl fun K0 Y => ?_; simp only [zE, op1, ev, lkp, ah, ag, ev, reduceCtorEq, G, E, J, V, M, U, Tryd.el25, Tryd.td25, Mpr.av]; refine Y _ ?_; clear Y K0; simp only [put, app, a9, af, zE, zS, E])
   refine ai ?_
   refine hK13 _ ?_; clear hK13; refine ae [0, 1, 2, 4, 5, 6, 7, 8, 9, 15, 22] ?_; simp only [Z, lkp, zE, reduceCtorEq, G, a8, E]
   refine aa fun K14 hK14 => ?_
   refine aa fun K15 hK15 => ?_
   refine aj hP hN rfl ?_
   iterate 3 (refine ad rfl fun K0 Y => ?_; simp only [zE, op1, ev, lkp, ah, ag, aF, bu, bh, ba, bb, bq, Nat.div_one, aK, bf, Ty.size, aL, dite_true, reduceCtorEq, G, E, J, V, M, U, Tryd.el25, Tryd.td25, Tryd.td3, Mpr.av]; (repeat refine And.intro (by first | omega | assumption | exact rfl) ?_); (first | refine Y _ ?_ | refine Or.inl (Y _ ?_)); clear Y K0; simp only [put, app, a9, af, zE, zS, E])
   refine ai ?_
   refine hK15 _ ?_; clear hK15; refine ae [0, 1, 2, 4, 5, 6, 7, 8, 9, 15, 22, 26, 27, 28] ?_; simp only [Z, lkp, zE, reduceCtorEq, G, a8, E]
   refine aW ?_
   refine cL 9 (.int .i64) 3 (by decide) rfl ?_; simp only [List.length_cons, List.length_nil, List.cons_append, List.nil_append, Nat.zero_add, E]
   refine bM (fun n16 s16 => ∃ (k : Nat) (v : Nat), (k ≤ w.length) ∧ n16 = w.length - k ∧ s16 = { env := [(4, .one .nils), (5, .one (.int .i64 0)), (8, .one (.ptr 2 0 0 0)), (9, .one (.row 3 v)), (26, .one (.list (.int .i64) w)), (27, .one (.int .i64 (w.length : Int))), (28, .one (.int .i64 (k : Int)))], L := [.vars 24 [.int .i64 p.inp, .int .i64 p.ab, .int .i64 p.st, .list (.list (.int .i64)) p.nx, .list (.list (.int .i64)) p.sy], .vars 24 [.int .i64 p.inp, .int .i64 p.ab, .int .i64 p.st, .list (.list (.int .i64)) p.nx, .list (.list (.int .i64)) p.sy], .vars 77 [.int .i64 p.inp, .int .i64 p.ab, .int .i64 p.st, .list (.list (.int .i64)) p.nx, .list (.list (.int .i64)) p.sy, .int .i64 (p.rn p.st (w.take k))], .row (.int .i64) 3 v (p.im p.st (w.take k))] }) ?_ ?_
   ·exact ⟨_, _, aS [4, 5, 8, 9, 26, 27, 28], 0, 0, Nat.zero_le _, rfl, rfl⟩
   ·rintro n16 s16 ⟨k, v, hk, rfl, rfl⟩
    refine aa fun K17 hK17 => ?_
    refine aj hP hN rfl ?_
    (refine ad rfl fun K0 Y => ?_; simp only [zE, op1, ev, lkp, ah, ag, aC, aD, aE, ao, aB, aR, reduceCtorEq, G, E, J, V, M, U, Tryd.td3, Mpr.av]; (repeat refine And.intro (by first | omega | assumption | exact rfl) ?_); refine Y _ ?_; clear Y K0; simp only [put, app, a9, af, zE, zS, E])
    refine ai ?_
    refine hK17 _ ?_; clear hK17; refine ae [4, 5, 8, 9, 26, 27, 28, 29] ?_; simp only [Z, lkp, zE, reduceCtorEq, G, a8, E]
    refine aa fun K18 hK18 => ?_
    refine aG (by simp only [ev, Z, lkp, zE, reduceCtorEq, G, a8, E]; exact rfl) (fun hc19 => ?_) (fun hc19 => ?_)
    ·(try simp only [zB, reduceCtorEq] at hc19)
     refine aJ ?_
     refine hK18 _ ?_; clear hK18; refine ae [4, 5, 8, 9, 26, 27, 28, 29] ?_; simp only [Z, lkp, zE, reduceCtorEq, G, a8, E]
     refine aa fun K20 hK20 => ?_
     refine aW ?_
     refine aa fun K21 hK21 => ?_
     refine aj hP hN rfl ?_
     iterate 3 (refine ad rfl fun K0 Y => ?_; simp only [zE, op1, ev, lkp, ah, ag, aI, zG, Ty.dflt, Ty.size, Nat.mul_one, ne_eq, not_false_eq_true, Int.natCast_one, Int.mul_one, ay, aw, ax, acs, aq, reduceCtorEq, G, E, J, V, M, U, Tryd.el25, Tryd.td25, Tryd.td3, Mpr.av]; (repeat refine And.intro (by first | omega | assumption | exact rfl) ?_); refine Y _ ?_; clear Y K0; simp only [put, app, a9, af, zE, zS, E])
     refine ai ?_
     refine hK21 _ ?_; clear hK21; refine ae [4, 5, 8, 9, 11, 26, 27, 28, 29] ?_; simp only [Z, lkp, zE, reduceCtorEq, G, a8, E]
     have hwk := hw.sym k (by omega); have hrn := pO hp ⟨hp.s1, hp.s2⟩ (mZ hw.sym k); obtain ⟨hrl, hql⟩ := hp.rli hrn
     have hil := nH p (w.take k) p.st; rw [List.length_take] at hil
     refine aj hP hN rfl ?_
     iterate 3 (refine ad rfl fun K0 Y => ?_; simp only [zE, op1, ev, lkp, ah, ag, ev, reduceCtorEq, G, E, J, V, M, U, Tryd.el25, Tryd.td25, Tryd.td3, Tryd.td71, Mpr.av]; refine Y _ ?_; clear Y K0; simp only [put, app, a9, af, zE, zS, E])
     refine ad rfl fun K0 Y => ?_
     refine bc (h := mg p (p.rn p.st (w.take k)) (w.getD k 0) hp hrn hwk _ 2 rfl) rfl rfl (by first | exact rfl | (simp only [ev, Z, lkp, zE, reduceCtorEq, G, a8, E]; exact rfl)) (by simp only [zE, zG, op1, ev, lkp, ah, ag, au, acs, br, mv1, mvC, Ty.dflt, reduceCtorEq, G, E, J, V, M, U, Mpr.av]) ?_
     refine Y _ ?_; clear Y K0; simp only [put, app, a9, af, zE, zS, E]
     iterate 3 (refine ad rfl fun K0 Y => ?_; simp only [zE, op1, ev, lkp, ah, ag, aV, b9, bJ, rep, aL, aQ, au, Ty.size, aF, bu, bh, ba, bb, bq, Nat.div_one, aK, bf, dite_true, reduceCtorEq, G, E, J, V, M, U, Tryd.el25, Tryd.td1, Tryd.td25, Mpr.av]; (repeat refine And.intro (by first | omega | assumption | exact rfl) ?_); (first | refine Y _ ?_ | refine Or.inl (Y _ ?_)); clear Y K0; simp only [put, app, a9, af, zE, zS, E])
     refine ai ?_
     refine hK20 _ ?_; clear hK20; refine ae [4, 5, 8, 9, 11, 26, 27, 28, 29] ?_; simp only [Z, lkp, zE, reduceCtorEq, G, a8, E]
     refine aj hP hN rfl ?_
     iterate 2 (refine ad rfl fun K0 Y => ?_; simp only [zE, op1, ev, lkp, ah, ag, aC, aD, aE, ao, aB, aR, reduceCtorEq, G, E, J, V, M, U, Tryd.td3, Mpr.av]; (repeat refine And.intro (by first | omega | assumption | exact rfl) ?_); refine Y _ ?_; clear Y K0; simp only [put, app, a9, af, zE, zS, E])
     refine ai ?_
     refine ⟨_, _, ?_, aS [4, 5, 8, 9, 26, 27, 28], k + 1, v + 1, by omega, rfl, ?_⟩
     · omega
     · rw [pH (by omega), jN (by omega)]; rfl
    ·(try simp only [zB, reduceCtorEq] at hc19)
     refine bK ?_
     refine hK14 _ ?_; clear hK14; refine ae [4, 5, 8, 9, 26, 27, 28, 29] ?_; simp only [Z, lkp, zE, reduceCtorEq, G, a8, E]
     refine aa fun K22 hK22 => ?_
     refine ck 3 rfl ?_; simp only [List.map_cons, List.map_nil, zS, G, and_self, and_true, true_and, and_false, false_and, if_true, if_false, eq_self, reduceCtorEq, Nat.one_ne_zero, Nat.zero_ne_one]
     have hkw : k = w.length := by omega
     rw [hkw, List.take_length]
     refine aj hP hN rfl ?_
     iterate 3 (refine ad rfl fun K0 Y => ?_; simp only [zE, op1, ev, lkp, ah, ag, ev, reduceCtorEq, G, E, J, V, M, U, Tryd.el25, Tryd.td25, Tryd.td26, Mpr.av]; refine Y _ ?_; clear Y K0; simp only [put, app, a9, af, zE, zS, E])
     refine ai ?_
     refine hK22 _ ?_; clear hK22; refine ae [4, 5, 8, 9, 26, 27, 28, 29] ?_; simp only [Z, lkp, zE, reduceCtorEq, G, a8, E]
     refine aP ?_
     refine ⟨by first | exact .inl rfl | exact .inr rfl, _, rfl, ?_⟩; simp only [fzV, fz1, fzC, List.map_cons, List.map_nil, Z, lkp, zE, reduceCtorEq, G, a8, E, Mpr.av]
     first
     | (have g9 := qq (w := w) (by assumption); obtain ⟨g1, g2⟩ := g9; rw [g1, g2]; exact bl ⟨aM (aH rfl), fun _ _ _ _ _ h => h, trivial⟩)
     | (have g9 := p5 hv (w := w) (by assumption); obtain ⟨g1, g2⟩ := g9; rw [g1, g2]; exact bl ⟨aM (aH rfl), fun _ _ _ _ _ h => h, trivial⟩)
     | (have g9 := nj hv (w := w) (by omega); obtain ⟨g1, g2⟩ := g9; rw [g1, g2]; exact VLE.of_eq rfl)
end Go.Proofs.YtgmgnkmgofkfpaaDoor
namespace Go.Proofs.YtgmgnkmgofkfpaaDoor
open Go Go.AV
open Nat renaming reduceEqDiff → G, reduceAdd → E, reduceLeDiff → J, reduceLT → V, reduceMul → M, reduceSub → U
open List renaming set_cons_zero → aA, set_cons_succ → az
set_option maxRecDepth 100000 in
theorem nV  : ch Tryd.prog 30 [.one .nils] (.one .nils) := by
 refine bp Tryd.func30 rfl (by kernel_rfl) (Nat.le_of_ble_eq_true rfl) rfl fun C hP hN hB => ?_
 replace hN : C.N = 8 := hN
 simp only [a8, E]
 refine aa fun K1 hK1 => ?_
 refine aj hP hN rfl ?_
 (refine ad rfl fun K0 Y => ?_; simp only [zE, op1, ev, lkp, ah, ag, ev, reduceCtorEq, G, E, J, V, M, U, Tryd.el25, Tryd.td25]; refine Y _ ?_; clear Y K0; simp only [put, app, a9, af, zE, zS, E])
 refine ai ?_
 refine hK1 _ ?_; clear hK1; refine ae [0, 2] ?_; simp only [Z, lkp, zE, reduceCtorEq, G, a8, E]
 refine aa fun K2 hK2 => ?_
 refine aa fun K3 hK3 => ?_
 refine aj hP hN rfl ?_
 iterate 2 (refine ad rfl fun K0 Y => ?_; simp only [zE, op1, ev, lkp, ah, ag, aC, aD, aE, ao, aB, aR, reduceCtorEq, G, E, J, V, M, U, Tryd.el25, Tryd.td25, Tryd.td4]; (repeat refine And.intro (by first | omega | assumption | exact rfl) ?_); refine Y _ ?_; clear Y K0; simp only [put, app, a9, af, zE, zS, E])
 refine ai ?_
 refine hK3 _ ?_; clear hK3; refine ae [0, 2, 4] ?_; simp only [Z, lkp, zE, reduceCtorEq, G, a8, E]
 refine aG (by simp only [ev, Z, lkp, zE, reduceCtorEq, G, a8, E]; exact rfl) (fun hc4 => ?_) (fun hc4 => ?_)
 ·(try simp only [zB, reduceCtorEq] at hc4)
  refine aa fun K5 hK5 => ?_
  refine aj hP hN rfl ?_
  (refine ad rfl fun K0 Y => ?_; simp only [zE, op1, ev, lkp, ah, ag, ev, reduceCtorEq, G, E, J, V, M, U, Tryd.el25, Tryd.td25]; refine Y _ ?_; clear Y K0; simp only [put, app, a9, af, zE, zS, E])
  refine ai ?_
  refine hK5 _ ?_; clear hK5; refine ae [0, 2, 4] ?_; simp only [Z, lkp, zE, reduceCtorEq, G, a8, E]
  refine aP ?_
  refine ⟨by first | exact .inl rfl | exact .inr rfl, _, rfl, ?_⟩; simp only [fzV, fz1, fzC, List.map_cons, List.map_nil, Z, lkp, zE, reduceCtorEq, G, a8, E]
  refine VLE.of_eq ?_
  rfl
 · exfalso; (try simp only [zB, reduceCtorEq] at hc4); all_goals (first | (cases hc4; done) | omega | (simp at hc4; done) | (simp_all; done))
end Go.Proofs.YtgmgnkmgofkfpaaDoor
namespace Go.Proofs.YtgmgnkmgofkfpaaDoor
open Go Go.AV
open Nat renaming reduceEqDiff → G, reduceAdd → E, reduceLeDiff → J, reduceLT → V, reduceMul → M, reduceSub → U
open List renaming set_cons_zero → aA, set_cons_succ → az
set_option maxRecDepth 100000 in
theorem ra  : ch Tryd.prog 30 [.one .emp] (.one (.list (.int .i64) [])) := by
 refine bp Tryd.func30 rfl (by kernel_rfl) (Nat.le_of_ble_eq_true rfl) rfl fun C hP hN hB => ?_
 replace hN : C.N = 8 := hN
 simp only [a8, E]
 refine aa fun K1 hK1 => ?_
 refine aj hP hN rfl ?_
 (refine ad rfl fun K0 Y => ?_; simp only [zE, op1, ev, lkp, ah, ag, ev, reduceCtorEq, G, E, J, V, M, U, Tryd.el25, Tryd.td25]; refine Y _ ?_; clear Y K0; simp only [put, app, a9, af, zE, zS, E])
 refine ai ?_
 refine hK1 _ ?_; clear hK1; refine ae [0, 2] ?_; simp only [Z, lkp, zE, reduceCtorEq, G, a8, E]
 refine aa fun K2 hK2 => ?_
 refine aa fun K3 hK3 => ?_
 refine aj hP hN rfl ?_
 iterate 2 (refine ad rfl fun K0 Y => ?_; simp only [zE, op1, ev, lkp, ah, ag, aC, aD, aE, ao, aB, aR, reduceCtorEq, G, E, J, V, M, U, Tryd.el25, Tryd.td25, Tryd.td4]; (repeat refine And.intro (by first | omega | assumption | exact rfl) ?_); refine Y _ ?_; clear Y K0; simp only [put, app, a9, af, zE, zS, E])
 refine ai ?_
 refine hK3 _ ?_; clear hK3; refine ae [0, 2, 4] ?_; simp only [Z, lkp, zE, reduceCtorEq, G, a8, E]
 refine aG (by simp only [ev, Z, lkp, zE, reduceCtorEq, G, a8, E]; exact rfl) (fun hc4 => ?_) (fun hc4 => ?_)
 · exfalso; (try simp only [zB, reduceCtorEq] at hc4); all_goals (first | (cases hc4; done) | omega | (simp at hc4; done) | (simp_all; done))
 ·(try simp only [zB, reduceCtorEq] at hc4)
  refine aJ ?_
  refine hK2 _ ?_; clear hK2; refine ae [0, 2, 4] ?_; simp only [Z, lkp, zE, reduceCtorEq, G, a8, E]
  refine aa fun K5 hK5 => ?_
  refine aj hP hN rfl ?_
  (refine ad rfl fun K0 Y => ?_; simp only [zE, op1, ev, lkp, ah, ag, aV, b9, bJ, rep, aL, aQ, au, Ty.size, reduceCtorEq, G, E, J, V, M, U, Tryd.el25, Tryd.td25]; (repeat refine And.intro (by first | omega | assumption | exact rfl) ?_); refine Or.inr (Or.inl (Y _ ?_)); clear Y K0; simp only [put, app, a9, af, zE, zS, E])
  iterate 3 (refine ad rfl fun K0 Y => ?_; simp only [zE, op1, ev, lkp, ah, ag, aF, bu, bh, ba, bb, bq, Nat.div_one, aK, bf, Ty.size, aL, dite_true, reduceCtorEq, G, E, J, V, M, U, Tryd.el25, Tryd.td25]; (repeat refine And.intro (by first | omega | assumption | exact rfl) ?_); (first | refine Y _ ?_ | refine Or.inl (Y _ ?_)); clear Y K0; simp only [put, app, a9, af, zE, zS, E])
  refine ai ?_
  refine hK5 _ ?_; clear hK5; refine ae [0, 2, 4] ?_; simp only [Z, lkp, zE, reduceCtorEq, G, a8, E]
  refine aP ?_
  refine ⟨by first | exact .inl rfl | exact .inr rfl, _, rfl, ?_⟩; simp only [fzV, fz1, fzC, List.map_cons, List.map_nil, Z, lkp, zE, reduceCtorEq, G, a8, E]
  refine VLE.of_eq ?_
  rfl
end Go.Proofs.YtgmgnkmgofkfpaaDoor
namespace Go.Proofs.YtgmgnkmgofkfpaaDoor
open Go Go.AV
open Nat renaming reduceEqDiff → G, reduceAdd → E, reduceLeDiff → J, reduceLT → V, reduceMul → M, reduceSub → U
open List renaming set_cons_zero → aA, set_cons_succ → az
set_option maxRecDepth 100000 in
theorem qP (xs : List Int) (h0 : 0 < xs.length) (h1 : xs.length ≤ 10000000000000) : ch Tryd.prog 30 [.one (.list (.int .i64) xs)] (.one (.list (.int .i64) xs)) := by
 refine bp Tryd.func30 rfl (by kernel_rfl) (Nat.le_of_ble_eq_true rfl) rfl fun C hP hN hB => ?_
 replace hN : C.N = 8 := hN
 simp only [a8, E]
 refine aa fun K1 hK1 => ?_
 refine aj hP hN rfl ?_
 (refine ad rfl fun K0 Y => ?_; simp only [zE, op1, ev, lkp, ah, ag, ev, reduceCtorEq, G, E, J, V, M, U, Tryd.el25, Tryd.td25]; refine Y _ ?_; clear Y K0; simp only [put, app, a9, af, zE, zS, E])
 refine ai ?_
 refine hK1 _ ?_; clear hK1; refine ae [0, 2] ?_; simp only [Z, lkp, zE, reduceCtorEq, G, a8, E]
 refine aa fun K2 hK2 => ?_
 refine aa fun K3 hK3 => ?_
 refine aj hP hN rfl ?_
 iterate 2 (refine ad rfl fun K0 Y => ?_; simp only [zE, op1, ev, lkp, ah, ag, aC, aD, aE, ao, aB, aR, reduceCtorEq, G, E, J, V, M, U, Tryd.el25, Tryd.td25, Tryd.td4]; (repeat refine And.intro (by first | omega | assumption | exact rfl) ?_); refine Y _ ?_; clear Y K0; simp only [put, app, a9, af, zE, zS, E])
 refine ai ?_
 refine hK3 _ ?_; clear hK3; refine ae [0, 2, 4] ?_; simp only [Z, lkp, zE, reduceCtorEq, G, a8, E]
 refine aG (by simp only [ev, Z, lkp, zE, reduceCtorEq, G, a8, E]; exact rfl) (fun hc4 => ?_) (fun hc4 => ?_)
 · exfalso; (try simp only [zB, reduceCtorEq] at hc4); all_goals (first | (cases hc4; done) | omega | (simp at hc4; done) | (simp_all; done))
 ·(try simp only [zB, reduceCtorEq] at hc4)
  refine aJ ?_
  refine hK2 _ ?_; clear hK2; refine ae [0, 2, 4] ?_; simp only [Z, lkp, zE, reduceCtorEq, G, a8, E]
  refine aa fun K5 hK5 => ?_
  refine aj hP hN rfl ?_
  (refine ad rfl fun K0 Y => ?_; simp only [zE, op1, ev, lkp, ah, ag, aV, b9, bJ, rep, aL, aQ, au, Ty.size, reduceCtorEq, G, E, J, V, M, U, Tryd.el25, Tryd.td25]; (repeat refine And.intro (by first | omega | assumption | exact rfl) ?_); refine Or.inr (Or.inl (Y _ ?_)); clear Y K0; simp only [put, app, a9, af, zE, zS, E])
  iterate 3 (refine ad rfl fun K0 Y => ?_; simp only [zE, op1, ev, lkp, ah, ag, aF, bu, bh, ba, bb, bq, Nat.div_one, aK, bf, Ty.size, aL, dite_true, reduceCtorEq, G, E, J, V, M, U, Tryd.el25, Tryd.td25]; (repeat refine And.intro (by first | omega | assumption | exact rfl) ?_); (first | refine Y _ ?_ | refine Or.inl (Y _ ?_)); clear Y K0; simp only [put, app, a9, af, zE, zS, E])
  refine ai ?_
  refine hK5 _ ?_; clear hK5; refine ae [0, 2, 4] ?_; simp only [Z, lkp, zE, reduceCtorEq, G, a8, E]
  refine aP ?_
  refine ⟨by first | exact .inl rfl | exact .inr rfl, _, rfl, ?_⟩; simp only [fzV, fz1, fzC, List.map_cons, List.map_nil, Z, lkp, zE, reduceCtorEq, G, a8, E]
  refine VLE.of_eq ?_
  rfl
end Go.Proofs.YtgmgnkmgofkfpaaDoor
namespace Go.Proofs.YtgmgnkmgofkfpaaDoor
open Go Go.AV
open Nat renaming reduceEqDiff → G, reduceAdd → E, reduceLeDiff → J, reduceLT → V, reduceMul → M, reduceSub → U
open List renaming set_cons_zero → aA, set_cons_succ → az
theorem qf (xs : List Int) (h : xs.length ≤ 10000000000000) : ch Tryd.prog 30 [.one (.list (.int .i64) xs)] (.one (.list (.int .i64) xs)) :=
  mv (t := .int .i64) (fun e => ni nV (jB (aH e))) (fun e => by subst e; exact ra) (fun h0 => qP xs h0 h) nV.1

end Go.Proofs.YtgmgnkmgofkfpaaDoor
namespace Go.Proofs.YtgmgnkmgofkfpaaDoor
open Go Go.AV
open Nat renaming reduceEqDiff → G, reduceAdd → E, reduceLeDiff → J, reduceLT → V, reduceMul → M, reduceSub → U
open List renaming set_cons_zero → aA, set_cons_succ → az
set_option maxRecDepth 100000 in
theorem lv (cl : List Int) : ch Tryd.prog 9 [.one (.list (.int .i64) cl)] (.tup [(dy cl).av, .one (.int .i64 (dq cl))]) := by
 refine bp Tryd.func9 rfl (by kernel_rfl) (Nat.le_of_ble_eq_true rfl) rfl fun C hP hN hB => ?_
 replace hN : C.N = 46 := hN
 simp only [a8, E]
 refine aa fun K1 hK1 => ?_
 refine aj hP hN rfl ?_
 iterate 2 (refine ad rfl fun K0 Y => ?_; simp only [zE, op1, ev, lkp, ah, ag, co, reduceCtorEq, G, E, J, V, M, U, Tryd.st24, Tryd.td24, Tryd.td26, Mpr.av]; (repeat refine And.intro (by first | omega | assumption | exact rfl) ?_); (first | refine Y _ ?_ | refine Or.inl (Y _ ?_)); clear Y K0; simp only [put, app, a9, af, zE, zS, E])
 refine ai ?_
 refine hK1 _ ?_; clear hK1; refine ae [0, 2, 3] ?_; simp only [Z, lkp, zE, reduceCtorEq, G, a8, E]
 refine aa fun K2 hK2 => ?_
 refine aa fun K3 hK3 => ?_
 refine aj hP hN rfl ?_
 iterate 3 (refine ad rfl fun K0 Y => ?_; simp only [zE, op1, ev, lkp, ah, ag, aF, bu, bh, ba, bb, bq, Nat.div_one, aK, bf, Ty.size, aL, dite_true, aC, aD, aE, ao, aB, aR, reduceCtorEq, G, E, J, V, M, U, Tryd.el25, Tryd.td25, Tryd.td3, Tryd.td4, Mpr.av]; (repeat refine And.intro (by first | omega | assumption | exact rfl) ?_); (first | refine Y _ ?_ | refine Or.inl (Y _ ?_)); clear Y K0; simp only [put, app, a9, af, zE, zS, E])
 (refine ad rfl fun K0 Y => ?_; simp only [zE, op1, ev, lkp, ah, ag, ev, reduceCtorEq, G, E, J, V, M, U, Tryd.td4, Mpr.av]; refine Y _ ?_; clear Y K0; simp only [put, app, a9, af, zE, zS, E])
 refine' aY (want := false) 3 rfl (m := 10) (by simp only [Z, lkp, zE, reduceCtorEq, G, a8, E]; exact rfl) (by kernel_rfl) rfl rfl rfl rfl rfl (fun hg4 => ?a4) ?b4 ?c4
 case a4 =>
  have hq4 := hg4; (try simp only [zB, reduceCtorEq] at hg4); simp only [List.take_succ_cons, List.take_zero, List.cons_append, List.nil_append]
  (refine ar rfl fun K0 Y => ?_; simp only [zE, op1, ev, lkp, ah, ag, ev, reduceCtorEq, G, E, J, V, M, U, Tryd.el25, Tryd.td25, Mpr.av]; refine Y _ ?_; clear Y K0; simp only [put, app, a9, af, zE, zS, E])
  (refine ar rfl fun K0 Y => ?_; simp only [zE, op1, ev, lkp, ah, ag, aF, bu, bh, ba, bb, bq, Nat.div_one, aK, bf, Ty.size, aL, dite_true, reduceCtorEq, G, E, J, V, M, U, Tryd.el25, Tryd.td25, Tryd.td3, Mpr.av]; (repeat refine And.intro (by first | omega | assumption | exact rfl) ?_); (first | refine Y _ ?_ | refine Or.inl (Y _ ?_)); clear Y K0; simp only [put, app, a9, af, zE, zS, E])
  (refine ar rfl fun K0 Y => ?_; simp only [zE, op1, ev, lkp, ah, ag, aC, aD, aE, ao, aB, aR, reduceCtorEq, G, E, J, V, M, U, Tryd.td3, Tryd.td4, Mpr.av]; (repeat refine And.intro (by first | omega | assumption | exact rfl) ?_); refine Y _ ?_; clear Y K0; simp only [put, app, a9, af, zE, zS, E])
  (refine ad rfl fun K0 Y => ?_; simp only [zE, op1, ev, lkp, ah, ag, bt, reduceCtorEq, G, E, J, V, M, U, Tryd.td4, Mpr.av]; refine Y _ ?_; clear Y K0; simp only [put, app, a9, af, zE, zS, E])
  refine ai ?_
  refine ⟨by simp only [Z, lkp, zE, reduceCtorEq, G, a8, E]; exact rfl, rfl, ?_, rfl⟩; (repeat refine aZ rfl ?_); exact bz (by exact rfl) hq4
 case b4 => exact bv (by first | rfl | (simp [bV]; done) | decide)
 simp only [bj, bg]
 refine ai ?_
 refine hK3 _ ?_; clear hK3; refine ae [0, 2, 3, 14] ?_; simp only [Z, lkp, zE, reduceCtorEq, G, a8, E]
 refine aG (by simp only [ev, Z, lkp, zE, reduceCtorEq, G, a8, E]; exact rfl) (fun hc5 => ?_) (fun hc5 => ?_)
 ·(try simp only [zB, reduceCtorEq] at hc5)
  refine aa fun K6 hK6 => ?_
  refine aj hP hN rfl ?_
  iterate 3 (refine ad rfl fun K0 Y => ?_; simp only [zE, op1, ev, lkp, ah, ag, c9, b9, aQ, au, bI, Nat.mul_one, aL, acs, Ty.size, Ty.dflt, zG, reduceCtorEq, G, E, J, V, M, U, Tryd.st24, Tryd.td24, Tryd.td26, Mpr.av]; (repeat refine And.intro (by first | omega | assumption | exact rfl) ?_); (first | refine Y _ ?_ | refine Or.inl (Y _ ?_)); clear Y K0; simp only [put, app, a9, af, zE, zS, E])
  refine ai ?_
  refine hK6 _ ?_; clear hK6; refine ae [0, 2, 3, 14] ?_; simp only [Z, lkp, zE, reduceCtorEq, G, a8, E]
  refine aP ?_
  refine ⟨by first | exact .inl rfl | exact .inr rfl, _, rfl, ?_⟩; simp only [fzV, fz1, fzC, List.map_cons, List.map_nil, Z, lkp, zE, reduceCtorEq, G, a8, E, Mpr.av]
  first
  | (have e1 : dq cl = 2 := gA (by omega)
     have e2 : dy cl = js := if_neg (by omega)
     rw [e1, e2]; exact bl ⟨aT ⟨.refl _, .refl _, .refl _, aH rfl, aH rfl, trivial⟩, aM (.refl _), trivial⟩)
  | (have e1 : dq cl = 1 := ir (by omega) (k := k) (by omega) hb9
     have e2 : dy cl = js := if_neg (by omega)
     rw [e1, e2]; exact bl ⟨aT ⟨.refl _, .refl _, .refl _, aH rfl, aH rfl, trivial⟩, aM (.refl _), trivial⟩)
  | (have e1 : dq cl = 0 := jj (by omega) fun q hq2 => hq q (by omega)
     have e2 : dy cl = ⟨cl.length, km cl, 0, [List.replicate cl.length 0], [cl]⟩ := if_pos e1
     have e3 : km cl = cN cl cl.length := if_pos e1
     rw [e1, e2, e3, show k = cl.length by omega]; exact VLE.of_eq rfl)
 ·(try simp only [zB, reduceCtorEq] at hc5)
  refine aJ ?_
  refine hK2 _ ?_; clear hK2; refine ae [0, 2, 3, 14] ?_; simp only [Z, lkp, zE, reduceCtorEq, G, a8, E]
  refine aa fun K7 hK7 => ?_
  refine aj hP hN rfl ?_
  (refine ad rfl fun K0 Y => ?_; simp only [zE, op1, ev, lkp, ah, ag, ev, reduceCtorEq, G, E, J, V, M, U, Tryd.td3, Mpr.av]; refine Y _ ?_; clear Y K0; simp only [put, app, a9, af, zE, zS, E])
  refine ai ?_
  refine hK7 _ ?_; clear hK7; refine ae [0, 2, 3, 4, 14] ?_; simp only [Z, lkp, zE, reduceCtorEq, G, a8, E]
  refine aa fun K8 hK8 => ?_
  refine aa fun K9 hK9 => ?_
  refine aj hP hN rfl ?_
  iterate 3 (refine ad rfl fun K0 Y => ?_; simp only [zE, op1, ev, lkp, ah, ag, aF, bu, bh, ba, bb, bq, Nat.div_one, aK, bf, Ty.size, aL, dite_true, reduceCtorEq, G, E, J, V, M, U, Tryd.el25, Tryd.td25, Tryd.td3, Mpr.av]; (repeat refine And.intro (by first | omega | assumption | exact rfl) ?_); (first | refine Y _ ?_ | refine Or.inl (Y _ ?_)); clear Y K0; simp only [put, app, a9, af, zE, zS, E])
  refine ai ?_
  refine hK9 _ ?_; clear hK9; refine ae [0, 2, 3, 4, 14, 16, 17, 18] ?_; simp only [Z, lkp, zE, reduceCtorEq, G, a8, E]
  refine aW ?_
  refine bM (fun n10 s10 => ∃ (k : Nat), (k ≤ cl.length) ∧ (∀ q, q < k → fv cl q = false) ∧ n10 = cl.length - k ∧ s10 = { env := [(0, .one (.list (.int .i64) cl)), (2, .one (.ptr 0 0 0 0)), (3, .one (.int .i64 0)), (4, .one (.int .i64 (cN cl k))), (16, .one (.list (.int .i64) cl)), (17, .one (.int .i64 (cl.length : Int))), (18, .one (.int .i64 (k : Int)))], L := [.vars 24 [.int .i64 0, .int .i64 0, .int .i64 0, .nils, .nils]] }) ?_ ?_
  ·exact ⟨_, _, aS [0, 2, 3, 4, 16, 17, 18], 0, Nat.zero_le _, fun q hq => by omega, rfl, rfl⟩
  ·rintro n10 s10 ⟨k, hk, hq, rfl, rfl⟩
   refine aa fun K11 hK11 => ?_
   refine aj hP hN rfl ?_
   (refine ad rfl fun K0 Y => ?_; simp only [zE, op1, ev, lkp, ah, ag, aC, aD, aE, ao, aB, aR, reduceCtorEq, G, E, J, V, M, U, Tryd.td3, Mpr.av]; (repeat refine And.intro (by first | omega | assumption | exact rfl) ?_); refine Y _ ?_; clear Y K0; simp only [put, app, a9, af, zE, zS, E])
   refine ai ?_
   refine hK11 _ ?_; clear hK11; refine ae [0, 2, 3, 4, 16, 17, 18, 19] ?_; simp only [Z, lkp, zE, reduceCtorEq, G, a8, E]
   refine aa fun K12 hK12 => ?_
   refine aG (by simp only [ev, Z, lkp, zE, reduceCtorEq, G, a8, E]; exact rfl) (fun hc13 => ?_) (fun hc13 => ?_)
   ·(try simp only [zB, reduceCtorEq] at hc13)
    refine aJ ?_
    refine hK12 _ ?_; clear hK12; refine ae [0, 2, 3, 4, 16, 17, 18, 19] ?_; simp only [Z, lkp, zE, reduceCtorEq, G, a8, E]
    refine aa fun K14 hK14 => ?_
    refine aW ?_
    refine aa fun K15 hK15 => ?_
    refine aj hP hN rfl ?_
    iterate 3 (refine ad rfl fun K0 Y => ?_; simp only [zE, op1, ev, lkp, ah, ag, aI, zG, Ty.dflt, Ty.size, Nat.mul_one, ne_eq, not_false_eq_true, Int.natCast_one, Int.mul_one, ay, aw, ax, acs, aq, reduceCtorEq, G, E, J, V, M, U, Tryd.el25, Tryd.td25, Tryd.td3, Mpr.av]; (repeat refine And.intro (by first | omega | assumption | exact rfl) ?_); refine Y _ ?_; clear Y K0; simp only [put, app, a9, af, zE, zS, E])
    refine ai ?_
    refine hK15 _ ?_; clear hK15; refine ae [0, 2, 3, 4, 6, 16, 17, 18, 19] ?_; simp only [Z, lkp, zE, reduceCtorEq, G, a8, E]
    refine aa fun K16 hK16 => ?_
    refine aa fun K17 hK17 => ?_
    refine aj hP hN rfl ?_
    iterate 2 (refine ad rfl fun K0 Y => ?_; simp only [zE, op1, ev, lkp, ah, ag, aC, aD, aE, ao, aB, aR, reduceCtorEq, G, E, J, V, M, U, Tryd.td3, Tryd.td4, Mpr.av]; (repeat refine And.intro (by first | omega | assumption | exact rfl) ?_); refine Y _ ?_; clear Y K0; simp only [put, app, a9, af, zE, zS, E])
    (refine ad rfl fun K0 Y => ?_; simp only [zE, op1, ev, lkp, ah, ag, ev, reduceCtorEq, G, E, J, V, M, U, Tryd.td4, Mpr.av]; refine Y _ ?_; clear Y K0; simp only [put, app, a9, af, zE, zS, E])
    refine' aY (want := false) 3 rfl (m := 24) (by simp only [Z, lkp, zE, reduceCtorEq, G, a8, E]; exact rfl) (by kernel_rfl) rfl rfl rfl rfl rfl (fun hg18 => ?a18) ?b18 ?c18
    case a18 =>
     have hq18 := hg18; (try simp only [zB, reduceCtorEq] at hg18); simp only [List.take_succ_cons, List.take_zero, List.cons_append, List.nil_append]
     (refine ar rfl fun K0 Y => ?_; simp only [zE, op1, ev, lkp, ah, ag, ev, reduceCtorEq, G, E, J, V, M, U, Tryd.td3, Mpr.av]; refine Y _ ?_; clear Y K0; simp only [put, app, a9, af, zE, zS, E])
     (refine ar rfl fun K0 Y => ?_; simp only [zE, op1, ev, lkp, ah, ag, ev, reduceCtorEq, G, E, J, V, M, U, Tryd.td3, Mpr.av]; refine Y _ ?_; clear Y K0; simp only [put, app, a9, af, zE, zS, E])
     (refine ar rfl fun K0 Y => ?_; simp only [zE, op1, ev, lkp, ah, ag, aC, aD, aE, ao, aB, aR, reduceCtorEq, G, E, J, V, M, U, Tryd.td3, Tryd.td4, Mpr.av]; (repeat refine And.intro (by first | omega | assumption | exact rfl) ?_); refine Y _ ?_; clear Y K0; simp only [put, app, a9, af, zE, zS, E])
     (refine ad rfl fun K0 Y => ?_; simp only [zE, op1, ev, lkp, ah, ag, bt, reduceCtorEq, G, E, J, V, M, U, Tryd.td4, Mpr.av]; refine Y _ ?_; clear Y K0; simp only [put, app, a9, af, zE, zS, E])
     refine ai ?_
     refine ⟨by simp only [Z, lkp, zE, reduceCtorEq, G, a8, E]; exact rfl, rfl, ?_, rfl⟩; (repeat refine aZ rfl ?_); exact bz (by exact rfl) hq18
    case b18 => exact bv (by first | rfl | (simp [bV]; done) | decide)
    simp only [bj, bg]
    refine ai ?_
    refine hK17 _ ?_; clear hK17; refine ae [0, 2, 3, 4, 6, 16, 17, 18, 19, 28] ?_; simp only [Z, lkp, zE, reduceCtorEq, G, a8, E]
    refine aG (by simp only [ev, Z, lkp, zE, reduceCtorEq, G, a8, E]; exact rfl) (fun hc19 => ?_) (fun hc19 => ?_)
    ·(try simp only [zB, reduceCtorEq] at hc19)
     have hb9 : fv cl k = true := oO (by omega)
     refine aa fun K20 hK20 => ?_
     refine aj hP hN rfl ?_
     iterate 3 (refine ad rfl fun K0 Y => ?_; simp only [zE, op1, ev, lkp, ah, ag, c9, b9, aQ, au, bI, Nat.mul_one, aL, acs, Ty.size, Ty.dflt, zG, reduceCtorEq, G, E, J, V, M, U, Tryd.st24, Tryd.td24, Tryd.td26, Mpr.av]; (repeat refine And.intro (by first | omega | assumption | exact rfl) ?_); (first | refine Y _ ?_ | refine Or.inl (Y _ ?_)); clear Y K0; simp only [put, app, a9, af, zE, zS, E])
     refine ai ?_
     refine hK20 _ ?_; clear hK20; refine ae [0, 2, 3, 4, 6, 16, 17, 18, 19, 28] ?_; simp only [Z, lkp, zE, reduceCtorEq, G, a8, E]
     refine aP ?_
     refine ⟨by first | exact .inl rfl | exact .inr rfl, _, rfl, ?_⟩; simp only [fzV, fz1, fzC, List.map_cons, List.map_nil, Z, lkp, zE, reduceCtorEq, G, a8, E, Mpr.av]
     first
     | (have e1 : dq cl = 2 := gA (by omega)
        have e2 : dy cl = js := if_neg (by omega)
        rw [e1, e2]; exact bl ⟨aT ⟨.refl _, .refl _, .refl _, aH rfl, aH rfl, trivial⟩, aM (.refl _), trivial⟩)
     | (have e1 : dq cl = 1 := ir (by omega) (k := k) (by omega) hb9
        have e2 : dy cl = js := if_neg (by omega)
        rw [e1, e2]; exact bl ⟨aT ⟨.refl _, .refl _, .refl _, aH rfl, aH rfl, trivial⟩, aM (.refl _), trivial⟩)
     | (have e1 : dq cl = 0 := jj (by omega) fun q hq2 => hq q (by omega)
        have e2 : dy cl = ⟨cl.length, km cl, 0, [List.replicate cl.length 0], [cl]⟩ := if_pos e1
        have e3 : km cl = cN cl cl.length := if_pos e1
        rw [e1, e2, e3, show k = cl.length by omega]; exact VLE.of_eq rfl)
    ·(try simp only [zB, reduceCtorEq] at hc19)
     have hb9 : fv cl k = false := pP (by omega) (by omega)
     refine aJ ?_
     refine hK16 _ ?_; clear hK16; refine ae [0, 2, 3, 4, 6, 16, 17, 18, 19, 28] ?_; simp only [Z, lkp, zE, reduceCtorEq, G, a8, E]
     have hcn := qH hq
     refine aj hP hN rfl ?_
     iterate 5 (refine ad rfl fun K0 Y => ?_; simp only [zE, op1, ev, lkp, ah, ag, aC, aD, aE, ao, aB, aR, aF, bu, bh, ba, bb, bq, Nat.div_one, aK, bf, Ty.size, aL, dite_true, reduceCtorEq, G, E, J, V, M, U, Tryd.td3, Mpr.av]; (repeat refine And.intro (by first | omega | assumption | exact rfl) ?_); (first | refine Y _ ?_ | refine Or.inl (Y _ ?_)); clear Y K0; simp only [put, app, a9, af, zE, zS, E])
     refine ai ?_
     refine hK14 _ ?_; clear hK14; refine ae [0, 2, 3, 4, 6, 16, 17, 18, 19, 28] ?_; simp only [Z, lkp, zE, reduceCtorEq, G, a8, E]
     refine aj hP hN rfl ?_
     iterate 2 (refine ad rfl fun K0 Y => ?_; simp only [zE, op1, ev, lkp, ah, ag, aC, aD, aE, ao, aB, aR, reduceCtorEq, G, E, J, V, M, U, Tryd.td3, Mpr.av]; (repeat refine And.intro (by first | omega | assumption | exact rfl) ?_); refine Y _ ?_; clear Y K0; simp only [put, app, a9, af, zE, zS, E])
     refine ai ?_
     refine ⟨_, _, ?_, aS [0, 2, 3, 4, 16, 17, 18], k + 1, by omega, fun q hq2 => ?_, rfl, rfl⟩
     · omega
     · by_cases e : q = k
       · rw [e]; exact hb9
       · exact hq q (by omega)
   ·(try simp only [zB, reduceCtorEq] at hc13)
    refine bK ?_
    refine hK8 _ ?_; clear hK8; refine ae [0, 2, 3, 4, 16, 17, 18, 19] ?_; simp only [Z, lkp, zE, reduceCtorEq, G, a8, E]
    refine aa fun K21 hK21 => ?_
    refine bW hP hN Tryd.mixed rfl ?_
    iterate 5 (refine ad rfl fun K0 Y => ?_; simp only [zE, op1, ev, lkp, ah, ag, aF, bu, bh, ba, bb, bq, Nat.div_one, aK, bf, Ty.size, aL, dite_true, reduceCtorEq, G, E, J, V, M, U, Tryd.el25, Tryd.td25, Tryd.td3, Mpr.av]; (repeat refine And.intro (by first | omega | assumption | exact rfl) ?_); (first | refine Y _ ?_ | refine Or.inl (Y _ ?_)); clear Y K0; simp only [put, app, a9, af, zE, zS, E])
    (refine ad rfl fun K0 Y => ?_; simp only [zE, op1, ev, lkp, ah, ag, cV, aL, Ty.size, Ty.dflt, reduceCtorEq, G, E, J, V, M, U, Tryd.el25, Tryd.td25, Mpr.av]; (repeat refine And.intro (by first | omega | assumption | exact rfl) ?_); refine Or.inr (Or.inr (Y _ ?_)); clear Y K0; simp only [put, app, a9, af, zE, zS, E])
    iterate 2 (refine ad rfl fun K0 Y => ?_; simp only [zE, op1, ev, lkp, ah, ag, aV, b9, bJ, rep, aL, aQ, au, Ty.size, reduceCtorEq, G, E, J, V, M, U, Tryd.el22, Tryd.el25, Tryd.td1, Tryd.td22, Tryd.td25, Mpr.av]; (repeat refine And.intro (by first | omega | assumption | exact rfl) ?_); (first | refine Y _ ?_ | refine Or.inl (Y _ ?_)); clear Y K0; simp only [put, app, a9, af, zE, zS, E])
    refine ad rfl fun K0 Y => ?_
    refine bc (h := aU (qf cl (by omega))) rfl rfl (by first | exact rfl | (simp only [ev, Z, lkp, zE, reduceCtorEq, G, a8, E]; exact rfl)) (by simp only [zE, zG, op1, ev, lkp, ah, ag, au, acs, br, mv1, mvC, Ty.dflt, reduceCtorEq, G, E, J, V, M, U, Mpr.av]) ?_
    refine Y _ ?_; clear Y K0; simp only [put, app, a9, af, zE, zS, E]
    iterate 4 (refine ad rfl fun K0 Y => ?_; simp only [zE, op1, ev, lkp, ah, ag, aV, b9, bJ, rep, aL, aQ, au, Ty.size, c9, bI, Nat.mul_one, acs, Ty.dflt, zG, reduceCtorEq, G, E, J, V, M, U, Tryd.el22, Tryd.st24, Tryd.td1, Tryd.td22, Tryd.td24, Tryd.td26, Mpr.av]; (repeat refine And.intro (by first | omega | assumption | exact rfl) ?_); (first | refine Y _ ?_ | refine Or.inl (Y _ ?_)); clear Y K0; simp only [put, app, a9, af, zE, zS, E])
    refine ai ?_
    refine ⟨by kernel_rfl, ?_⟩
    refine hK21 _ ?_; clear hK21; refine ae [0, 2, 3, 4, 16, 17, 18, 19] ?_; simp only [Z, lkp, zE, reduceCtorEq, G, a8, E]
    refine aP ?_
    refine ⟨by first | exact .inl rfl | exact .inr rfl, _, rfl, ?_⟩; simp only [fzV, fz1, fzC, List.map_cons, List.map_nil, Z, lkp, zE, reduceCtorEq, G, a8, E, Mpr.av]
    first
    | (have e1 : dq cl = 2 := gA (by omega)
       have e2 : dy cl = js := if_neg (by omega)
       rw [e1, e2]; exact bl ⟨aT ⟨.refl _, .refl _, .refl _, aH rfl, aH rfl, trivial⟩, aM (.refl _), trivial⟩)
    | (have e1 : dq cl = 1 := ir (by omega) (k := k) (by omega) hb9
       have e2 : dy cl = js := if_neg (by omega)
       rw [e1, e2]; exact bl ⟨aT ⟨.refl _, .refl _, .refl _, aH rfl, aH rfl, trivial⟩, aM (.refl _), trivial⟩)
    | (have e1 : dq cl = 0 := jj (by omega) fun q hq2 => hq q (by omega)
       have e2 : dy cl = ⟨cl.length, km cl, 0, [List.replicate cl.length 0], [cl]⟩ := if_pos e1
       have e3 : km cl = cN cl cl.length := if_pos e1
       rw [e1, e2, e3, show k = cl.length by omega]; exact VLE.of_eq rfl)
end Go.Proofs.YtgmgnkmgofkfpaaDoor
namespace Go.AV
open Nat renaming reduceEqDiff → G, reduceAdd → E, reduceLeDiff → J, reduceLT → V, reduceMul → M, reduceSub → U
open List renaming set_cons_zero → aA, set_cons_succ → az
/-plain-/
def prL (f : Nat → Int) (n s : Nat) (x : Int) : List Int := (List.range n).map fun q => if q < s then f q else if q = s then x else 0
theorem pa (f : Nat → Int) (n s : Nat) (x : Int) : (prL f n s x).length = n := by simp [prL]
theorem pr {f : Nat → Int} {n s : Nat} (h : s < n) (x y : Int) : (prL f n s x).set s y = prL f n s y := by
  refine List.ext_getElem (by simp [prL]) fun i h1 h2 => ?_
  simp only [prL, List.getElem_set, List.getElem_map, List.getElem_range]
  by_cases e : s = i
  · subst e; simp
  · rw [if_neg e, if_neg (Ne.symm e), if_neg (Ne.symm e)]
theorem oU (f : Nat → Int) (n s : Nat) : prL f n s (f s) = prL f n (s + 1) 0 := by
  unfold prL
  refine List.map_congr_left fun q _ => ?_
  by_cases e : q = s
  · subst e; simp
  · by_cases e2 : q < s
    · rw [if_pos e2, if_pos (by omega)]
    · rw [if_neg e2, if_neg e, if_neg (by omega)]; split <;> rfl
theorem rE (f : Nat → Int) (n : Nat) : prL f n 0 0 = List.replicate n 0 := by
  refine List.ext_getElem (by simp [prL]) fun i h1 h2 => ?_
  simp [prL]
theorem qk (f : Nat → Int) (n : Nat) (x : Int) : prL f n n x = (List.range n).map f := by
  unfold prL
  refine List.map_congr_left fun q hq => ?_
  rw [if_pos (List.mem_range.1 hq)]
/-! Counting. -/
end Go.AV
namespace Go.AV
open Nat renaming reduceEqDiff → G, reduceAdd → E, reduceLeDiff → J, reduceLT → V, reduceMul → M, reduceSub → U
open List renaming set_cons_zero → aA, set_cons_succ → az
/-plain-/
/-! On mapTh. -/
theorem qR {p : Mpr} (hp : POK p) {s : Int} (hs : 0 ≤ s ∧ s < p.nx.length) {can : List Bool} {x : Int} (h : fcV p can x s.toNat < p.inp.toNat) : p.sx s (fcV p can x s.toNat) = x ∧ can.getD (p.tx s (fcV p can x s.toNat)).toNat false = true := by
  have h1 := (qM h).1
  unfold fcP at h1
  simp only [Bool.and_eq_true, decide_eq_true_eq] at h1
  unfold Mpr.sx Mpr.tx
  rw [Int.toNat_natCast]
  exact h1
theorem eJ (p : Mpr) : ∀ (w : List Int) (s : Int), (coW p s w).length = w.length
  | [], _ => rfl
  | _ :: w, _ => by simp [coW, eJ p w]
theorem kT (p : Mpr) : ∀ (k : Nat) (w : List Int) (s : Int), k ≤ w.length → (coW p s w).drop k = coW p (p.rn s ((coW p s w).take k)) (w.drop k)
  | 0, _, _, _ => rfl
  | k + 1, [], _, h => by simp at h
  | k + 1, x :: w, s, h => by
    show (coW p (p.tx s (fcV p (cnP p w) x s.toNat)) w).drop k = _
    rw [kT p k w _ (by simpa using h)]; rfl
theorem nN {p : Mpr} {w : List Int} {s : Int} {k : Nat} (h : k < w.length) : (coW p s w).getD k 0 = (fcV p (cnP p (w.drop (k + 1))) (w.getD k 0) (p.rn s ((coW p s w).take k)).toNat : Int) := by
  have h1 := kT p k w s (by omega)
  have e : w.drop k = w.getD k 0 :: w.drop (k + 1) := by
    rw [List.drop_eq_getElem_cons h]; simp [List.getD, h]
  rw [e] at h1
  have h2 : (coW p s w).getD k 0 = ((coW p s w).drop k).getD 0 0 := by simp [List.getD]
  rw [h2, h1]; rfl
structure PCK (p : Mpr) (w : List Int) (s : Int) (k : Nat) : Prop where
  rg : 0 ≤ p.rn s ((coW p s w).take k) ∧ p.rn s ((coW p s w).take k) < p.nx.length
  can : (cnP p (w.drop k)).getD (p.rn s ((coW p s w).take k)).toNat false = true
theorem nU {p : Mpr} {w : List Int} {s : Int} {k : Nat} (h : PCK p w s k) (hk : k < w.length) : fcV p (cnP p (w.drop (k + 1))) (w.getD k 0) (p.rn s ((coW p s w).take k)).toNat < p.inp.toNat := by
  have h1 := h.can
  have e : w.drop k = w.getD k 0 :: w.drop (k + 1) := by
    rw [List.drop_eq_getElem_cons hk]; simp [List.getD, hk]
  rw [e] at h1
  have h2 := qK (p := p) (can := cnP p (w.drop (k + 1))) (x := w.getD k 0) (s := (p.rn s ((coW p s w).take k)).toNat) (by have := h.rg; omega)
  have h3 : (stC p (cnP p (w.drop (k + 1))) (w.getD k 0)).getD (p.rn s ((coW p s w).take k)).toNat false = true := h1
  rw [h2] at h3
  simpa using h3
theorem m5 {p : Mpr} (hp : POK p) {w : List Int} {s : Int} (hs : 0 ≤ s ∧ s < p.nx.length) (hc : (cnP p w).getD s.toNat false = true) : ∀ k, k ≤ w.length → PCK p w s k
  | 0, _ => ⟨hs, hc⟩
  | k + 1, hk => by
    have ih := m5 hp hs hc k (by omega)
    have h1 := nU ih (by omega)
    have i1 := hp.i1
    have h2 := qR hp ih.rg h1
    have hw : k < (coW p s w).length := by rw [eJ]; omega
    have e : p.rn s ((coW p s w).take (k + 1)) = p.tx (p.rn s ((coW p s w).take k)) (fcV p (cnP p (w.drop (k + 1))) (w.getD k 0) (p.rn s ((coW p s w).take k)).toNat) := by
      rw [jN hw, nN (by omega)]
    refine ⟨?_, ?_⟩
    · rw [e]; exact hp.tx ih.rg ⟨by omega, by omega⟩
    · rw [e]; exact h2.2
/-! Rows of truth values. -/
def prB (f : Nat → Bool) (n s : Nat) (x : Bool) : List Bool := (List.range n).map fun q => if q < s then f q else if q = s then x else false
theorem lM (f : Nat → Bool) (n s : Nat) (x : Bool) : (prB f n s x).length = n := by simp [prB]
theorem m4 {f : Nat → Bool} {n s : Nat} (x y : Bool) : (prB f n s x).set s y = prB f n s y := by
  refine List.ext_getElem (by simp [prB]) fun i h1 h2 => ?_
  simp only [prB, List.getElem_set, List.getElem_map, List.getElem_range]
  by_cases e : s = i
  · subst e; simp
  · rw [if_neg e, if_neg (Ne.symm e), if_neg (Ne.symm e)]
theorem kC (f : Nat → Bool) (n s : Nat) : prB f n s (f s) = prB f n (s + 1) false := by
  unfold prB
  refine List.map_congr_left fun q _ => ?_
  by_cases e : q = s
  · subst e; simp
  · by_cases e2 : q < s
    · rw [if_pos e2, if_pos (by omega)]
    · rw [if_neg e2, if_neg e, if_neg (by omega)]; split <;> rfl
theorem qd (f : Nat → Bool) (n : Nat) : prB f n 0 false = List.replicate n false := by
  refine List.ext_getElem (by simp [prB]) fun i h1 h2 => ?_
  simp [prB]
theorem lY (f : Nat → Bool) (n : Nat) (x : Bool) : prB f n n x = (List.range n).map f := by
  unfold prB
  refine List.map_congr_left fun q hq => ?_
  rw [if_pos (List.mem_range.1 hq)]
theorem oJ (n : Nat) : (List.range n).map (fun _ => true) = List.replicate n true := by
  refine List.ext_getElem (by simp) fun i h1 h2 => ?_
  simp
/-! The table of first symbols. -/
def frw (p : Mpr) (w : List Int) (j : Nat) : List Int := (List.range p.nx.length).map fun s => (fcV p (cnP p (w.drop (j + 1))) (w.getD j 0) s : Int)
def fcl (p : Mpr) (w : List Int) (k : Nat) : List AC := (List.range w.length).map fun j => if j < k then AC.nils else AC.list (.int .i64) (frw p w j)
theorem fx (p : Mpr) (w : List Int) (k : Nat) : (fcl p w k).length = w.length := by simp [fcl]
theorem pJ (p : Mpr) (w : List Int) : fcl p w w.length = List.replicate w.length AC.nils := by
  refine List.ext_getElem (by simp [fcl]) fun i h1 h2 => ?_
  have : i < w.length := by simpa [fcl] using h1
  simp [fcl, this]
theorem pY {p : Mpr} {w : List Int} {k : Nat} (h : k < w.length) : ((fcl p w (k + 1)).set k (.row 3 0)).getD k .junk = .row 3 0 := by
  have : k < (fcl p w (k + 1)).length := by rw [fx]; exact h
  simp [List.getD, this]
theorem pV {p : Mpr} {w : List Int} {k : Nat} (h : k < w.length) : (fcl p w 0).getD k .junk = .list (.int .i64) (frw p w k) := by
  simp [fcl, List.getD, h]
theorem qr {p : Mpr} {w : List Int} {k : Nat} (h : k < w.length) : ((fcl p w (k + 1)).set k (.row 3 0)).map (frC 3 0 (.int .i64) (frw p w k)) = fcl p w k := by
  refine List.ext_getElem (by simp [fcl]) fun i h1 h2 => ?_
  rw [List.getElem_map, List.getElem_set]
  by_cases e : k = i
  · subst e
    rw [if_pos rfl]
    simp [fcl, frC]
  · rw [if_neg e]
    simp only [fcl, List.getElem_map, List.getElem_range]
    by_cases e2 : i < k
    · rw [if_pos (by omega), if_pos e2]; rfl
    · rw [if_neg (by omega), if_neg e2]; rfl
theorem iB (p : Mpr) (w : List Int) (k N : Nat) : (fcl p w k).all (cH N) = true := by
  rw [List.all_eq_true]
  intro c hc
  simp only [fcl, List.mem_map, List.mem_range] at hc
  obtain ⟨j, hj, rfl⟩ := hc
  split <;> rfl
theorem rk {p : Mpr} {w : List Int} {j : Nat} {s : Nat} (h : s < p.nx.length) : (frw p w j).getD s 0 = (fcV p (cnP p (w.drop (j + 1))) (w.getD j 0) s : Int) := lS _ 0 h
theorem pT (p : Mpr) (w : List Int) (j : Nat) : (frw p w j).length = p.nx.length := by simp [frw]
theorem oZ {p : Mpr} {w : List Int} {k : Nat} (h : k < w.length) : cnP p (w.drop k) = stC p (cnP p (w.drop (k + 1))) (w.getD k 0) := by
  have e : w.drop k = w.getD k 0 :: w.drop (k + 1) := by
    rw [List.drop_eq_getElem_cons h]; simp [List.getD, h]
  rw [e]; rfl
theorem qS (p : Mpr) (w : List Int) : cnP p (w.drop w.length) = List.replicate p.nx.length true := by rw [List.drop_length]; rfl
theorem nL {p : Mpr} {w : List Int} (h : ¬ bQ p = 0) : pcE p w = bQ p ∧ pcB p w = false ∧ pcW p w = [] := by
  have e : pcE p w = bQ p := if_pos h
  have e2 : pcB p w = false := by unfold pcB; rw [e, if_neg h]
  exact ⟨e, e2, by unfold pcW; rw [e2]; rfl⟩
theorem nX {p : Mpr} {w : List Int} (h : bQ p = 0) (h2 : ¬ cw w p.ab = 0) : pcE p w = cw w p.ab ∧ pcB p w = false ∧ pcW p w = [] := by
  have e : pcE p w = cw w p.ab := if_neg (fun k => k h)
  have e2 : pcB p w = false := by unfold pcB; rw [e, if_neg h2]
  exact ⟨e, e2, by unfold pcW; rw [e2]; rfl⟩
theorem fM {p : Mpr} {w : List Int} (h : bQ p = 0) (h2 : cw w p.ab = 0) : pcE p w = 0 ∧ pcB p w = (cnP p w).getD p.st.toNat false ∧ pcW p w = if (cnP p w).getD p.st.toNat false = true then coW p p.st w else [] := by
  have e : pcE p w = 0 := by unfold pcE; rw [if_neg (fun k => k h), h2]
  have e2 : pcB p w = (cnP p w).getD p.st.toNat false := by unfold pcB; rw [if_pos e]
  exact ⟨e, e2, by unfold pcW; rw [e2]⟩
end Go.AV
namespace Go.AV
open Nat renaming reduceEqDiff → G, reduceAdd → E, reduceLeDiff → J, reduceLT → V, reduceMul → M, reduceSub → U
open List renaming set_cons_zero → aA, set_cons_succ → az
/-plain-/
/-! On pcoTh. -/
end Go.AV
namespace Go.AV
open Nat renaming reduceEqDiff → G, reduceAdd → E, reduceLeDiff → J, reduceLT → V, reduceMul → M, reduceSub → U
open List renaming set_cons_zero → aA, set_cons_succ → az
/-plain-/
theorem l8 {cs : List AC} {off : Nat} {c : AC} (h : off < cs.length) : aQ cs off [c] = cs.set off c := by
  unfold aQ
  rw [List.set_eq_take_append_cons_drop, if_pos h]
  simp
end Go.AV
namespace Go.AV
open Nat renaming reduceEqDiff → G, reduceAdd → E, reduceLeDiff → J, reduceLT → V, reduceMul → M, reduceSub → U
open List renaming set_cons_zero → aA, set_cons_succ → az
/-plain-/
/-! On pcxTh, writeTh. -/
theorem pe {p : Mpr} (h : POK p) {s : Nat} (hs : s < p.nx.length) (c : Nat) : 0 ≤ (p.nx.getD s []).getD c 0 ∧ (p.nx.getD s []).getD c 0 < p.nx.length := by
  by_cases e : (c : Int) < p.inp
  · exact h.cl s c hs e
  · have h1 := h.rl s hs
    have h2 := h.n1
    have : (p.nx.getD s []).getD c 0 = 0 := by
      have h3 : (p.nx.getD s []).length ≤ c := by omega
      generalize p.nx.getD s [] = r at *
      simp [List.getD, h3]
    omega
end Go.AV
namespace Go.Proofs.YtgmgnkmgofkfpaaDoor
open Go Go.AV
open Nat renaming reduceEqDiff → G, reduceAdd → E, reduceLeDiff → J, reduceLT → V, reduceMul → M, reduceSub → U
open List renaming set_cons_zero → aA, set_cons_succ → az
set_option maxRecDepth 100000 in
theorem mY (p : Mpr) (X : AO) : dc Tryd.prog [.vars 24 [.int .i64 p.inp, .int .i64 p.ab, .int .i64 p.st, .list (.list (.int .i64)) p.nx, .list (.list (.int .i64)) p.sy], X] 37 [p.av] { av := .one (.ptr 3 0 0 0), new := [.vars 24 [.int .i64 p.inp, .int .i64 p.ab, .int .i64 p.st, .list (.list (.int .i64)) p.nx, .list (.list (.int .i64)) p.sy], .vars 77 [.int .i64 p.inp, .int .i64 p.ab, .int .i64 p.st, .list (.list (.int .i64)) p.nx, .list (.list (.int .i64)) p.sy, .int .i64 p.st]], fp := [0, 1] } := by
 refine d7 _ _ Tryd.func37 rfl (by kernel_rfl) (Nat.le_of_ble_eq_true rfl) (by intro k hk; simp only [List.length_cons, List.length_nil, Nat.zero_add, E] at hk; simp only [List.mem_cons, List.not_mem_nil, or_false]; omega) (fun C hP hN hB => ?_)
 replace hB : C.bL.length = 2 := by rw [hB]; rfl
 replace hN : C.N = 8 := hN
 simp only [a8, E]
 refine aa fun K1 hK1 => ?_
 refine aj hP hN rfl ?_
 iterate 2 (refine ad rfl fun K0 Y => ?_; simp only [zE, op1, ev, lkp, ah, ag, cA, au, reduceCtorEq, G, E, J, V, M, U, Tryd.st24, Tryd.td24, Tryd.td71, Mpr.av]; (repeat refine And.intro (by first | omega | assumption | exact rfl) ?_); refine Y _ ?_; clear Y K0; simp only [put, app, a9, af, zE, zS, E])
 refine ai ?_
 refine hK1 _ ?_; clear hK1; refine ae [0, 1, 2] ?_; simp only [Z, lkp, zE, reduceCtorEq, G, a8, E]
 refine aa fun K2 hK2 => ?_
 refine aj hP hN rfl ?_
 iterate 6 (refine ad rfl fun K0 Y => ?_; simp only [zE, op1, ev, lkp, ah, ag, ay, Nat.mul_one, aw, ax, acs, Ty.dflt, zG, aq, am, c9, b9, aQ, au, cA, reduceCtorEq, G, E, J, V, M, U, Tryd.st24, Tryd.st77, Tryd.td2, Tryd.td24, Tryd.td3, Tryd.td71, Tryd.td77, Mpr.av]; (repeat refine And.intro (by first | omega | assumption | exact rfl) ?_); (first | refine Y _ ?_ | refine Or.inl (Y _ ?_)); clear Y K0; simp only [put, app, a9, af, zE, zS, E])
 refine ai ?_
 refine hK2 _ ?_; clear hK2; refine ae [0, 1, 2] ?_; simp only [Z, lkp, zE, reduceCtorEq, G, a8, E]
 refine aP ?_
 refine ⟨by first | exact .inl rfl | exact .inr rfl, _, rfl, ?_⟩; simp only [Z, lkp, zE, reduceCtorEq, G, a8, E, Mpr.av]
 first | exact ⟨rfl, rfl⟩ | rfl
end Go.Proofs.YtgmgnkmgofkfpaaDoor
namespace Go.Proofs.YtgmgnkmgofkfpaaDoor
open Go Go.AV
open Nat renaming reduceEqDiff → G, reduceAdd → E, reduceLeDiff → J, reduceLT → V, reduceMul → M, reduceSub → U
open List renaming set_cons_zero → aA, set_cons_succ → az
set_option maxRecDepth 100000 in
set_option maxHeartbeats 2000000 in
theorem qZ (p : Mpr) (w : List Int) : ch Tryd.prog 18 [p.av, .one (.list (.int .i64) w)] (.tup [.one (.list (.int .i64) (pcW p w)), .one (.bool (pcB p w)), .one (.int .i64 (pcE p w))]) := by
 refine bp Tryd.func18 rfl (by kernel_rfl) (Nat.le_of_ble_eq_true rfl) rfl fun C hP hN hB => ?_
 replace hN : C.N = 152 := hN
 simp only [a8, E]
 refine aa fun K1 hK1 => ?_
 refine aj hP hN rfl ?_
 iterate 4 (refine ad rfl fun K0 Y => ?_; simp only [zE, op1, ev, lkp, ah, ag, cA, au, reduceCtorEq, G, E, J, V, M, U, Tryd.el25, Tryd.st24, Tryd.td24, Tryd.td25, Tryd.td26, Tryd.td4, Mpr.av, b8, List.length_replicate]; (repeat refine And.intro (by first | omega | assumption | exact rfl) ?_); refine Y _ ?_; clear Y K0; simp only [put, app, a9, af, zE, zS, E])
 refine ai ?_
 refine hK1 _ ?_; clear hK1; refine ae [0, 1, 2, 4, 5, 6] ?_; simp only [Z, lkp, zE, reduceCtorEq, G, a8, E]
 refine aa fun K2 hK2 => ?_
 refine aa fun K3 hK3 => ?_
 refine aj hP hN rfl ?_
 (refine ad rfl fun K0 Y => ?_; simp only [zE, op1, ev, lkp, ah, ag, ay, Nat.mul_one, aw, ax, acs, Ty.dflt, zG, aq, reduceCtorEq, G, E, J, V, M, U, Tryd.st24, Tryd.td24, Mpr.av, b8, List.length_replicate]; (repeat refine And.intro (by first | omega | assumption | exact rfl) ?_); refine Y _ ?_; clear Y K0; simp only [put, app, a9, af, zE, zS, E])
 refine ad rfl fun K0 Y => ?_
 refine bc (h := aU (ib p)) rfl rfl (by first | exact rfl | (simp only [ev, Z, lkp, zE, reduceCtorEq, G, a8, E]; exact rfl)) (by simp only [zE, zG, op1, ev, lkp, ah, ag, au, acs, br, mv1, mvC, Ty.dflt, reduceCtorEq, G, E, J, V, M, U, Mpr.av, b8, List.length_replicate]) ?_
 refine Y _ ?_; clear Y K0; simp only [put, app, a9, af, zE, zS, E]
 (refine ad rfl fun K0 Y => ?_; simp only [zE, op1, ev, lkp, ah, ag, ev, reduceCtorEq, G, E, J, V, M, U, Tryd.td26, Mpr.av, b8, List.length_replicate]; refine Y _ ?_; clear Y K0; simp only [put, app, a9, af, zE, zS, E])
 refine ai ?_
 refine hK3 _ ?_; clear hK3; refine ae [0, 1, 2, 4, 5, 6, 7] ?_; simp only [Z, lkp, zE, reduceCtorEq, G, a8, E]
 refine aa fun K4 hK4 => ?_
 refine aj hP hN rfl ?_
 iterate 2 (refine ad rfl fun K0 Y => ?_; simp only [zE, op1, ev, lkp, ah, ag, aC, aD, aE, ao, aB, aR, reduceCtorEq, G, E, J, V, M, U, Tryd.td26, Tryd.td4, Mpr.av, b8, List.length_replicate]; (repeat refine And.intro (by first | omega | assumption | exact rfl) ?_); refine Y _ ?_; clear Y K0; simp only [put, app, a9, af, zE, zS, E])
 refine ai ?_
 refine hK4 _ ?_; clear hK4; refine ae [0, 1, 2, 4, 5, 6, 7, 23] ?_; simp only [Z, lkp, zE, reduceCtorEq, G, a8, E]
 refine aG (by simp only [ev, Z, lkp, zE, reduceCtorEq, G, a8, E]; exact rfl) (fun hc5 => ?_) (fun hc5 => ?_)
 ·(try simp only [zB, reduceCtorEq] at hc5)
  refine aa fun K6 hK6 => ?_
  refine aj hP hN rfl ?_
  iterate 4 (refine ad rfl fun K0 Y => ?_; simp only [zE, op1, ev, lkp, ah, ag, ev, reduceCtorEq, G, E, J, V, M, U, Tryd.el25, Tryd.td25, Tryd.td26, Tryd.td4, Mpr.av, b8, List.length_replicate]; refine Y _ ?_; clear Y K0; simp only [put, app, a9, af, zE, zS, E])
  refine ai ?_
  refine hK6 _ ?_; clear hK6; refine ae [0, 1, 2, 4, 5, 6, 7, 23] ?_; simp only [Z, lkp, zE, reduceCtorEq, G, a8, E]
  refine aP ?_
  refine ⟨by first | exact .inl rfl | exact .inr rfl, _, rfl, ?_⟩; simp only [fzV, fz1, fzC, List.map_cons, List.map_nil, Z, lkp, zE, reduceCtorEq, G, a8, E, Mpr.av, b8, List.length_replicate]
  first
  | (have g9 := nL (w := w) (by assumption); obtain ⟨g1, g2, g3⟩ := g9; rw [g1, g2, g3]; exact bl ⟨aM (aH rfl), fun _ _ _ _ _ h => h, fun _ _ _ _ _ h => h, trivial⟩)
  | (have g9 := nX hv (w := w) (by assumption); obtain ⟨g1, g2, g3⟩ := g9; rw [g1, g2, g3]; exact bl ⟨aM (aH rfl), fun _ _ _ _ _ h => h, fun _ _ _ _ _ h => h, trivial⟩)
  | (have g9 := fM hv (w := w) (by omega); obtain ⟨g1, g2, g3⟩ := g9; rw [hcn] at g2 g3; rw [g1, g2, g3]; exact bl ⟨aM (aH rfl), fun _ _ _ _ _ h => h, fun _ _ _ _ _ h => h, trivial⟩)
  | (have g9 := fM hv (w := w) (by omega); obtain ⟨g1, g2, g3⟩ := g9; rw [hcn] at g2 g3; rw [g1, g2, g3]; exact VLE.of_eq (by simp))
 ·(try simp only [zB, reduceCtorEq] at hc5)
  have hv : bQ p = 0 := by omega
  have hp := j8 hv; have a1 := hp.i1; have a2 := hp.i2; have b1 := hp.b1; have b2 := hp.b2; have a3 := hp.n1; have a4 := hp.n2; have a5 := hp.s1; have a6 := hp.s2; have a7 := hp.sl
  refine aJ ?_
  refine hK2 _ ?_; clear hK2; refine ae [0, 1, 2, 4, 5, 6, 7, 23] ?_; simp only [Z, lkp, zE, reduceCtorEq, G, a8, E]
  refine aa fun K7 hK7 => ?_
  refine aa fun K8 hK8 => ?_
  refine aj hP hN rfl ?_
  iterate 3 (refine ad rfl fun K0 Y => ?_; simp only [zE, op1, ev, lkp, ah, ag, am, ay, Nat.mul_one, aw, ax, acs, Ty.dflt, zG, aq, reduceCtorEq, G, E, J, V, M, U, Tryd.el25, Tryd.st24, Tryd.td1, Tryd.td24, Tryd.td25, Tryd.td3, Mpr.av, b8, List.length_replicate]; (repeat refine And.intro (by first | omega | assumption | exact rfl) ?_); refine Y _ ?_; clear Y K0; simp only [put, app, a9, af, zE, zS, E])
  refine ad rfl fun K0 Y => ?_
  refine bc (h := aU (ma w p.ab)) rfl rfl (by first | exact rfl | (simp only [ev, Z, lkp, zE, reduceCtorEq, G, a8, E]; exact rfl)) (by simp only [zE, zG, op1, ev, lkp, ah, ag, au, acs, br, mv1, mvC, Ty.dflt, reduceCtorEq, G, E, J, V, M, U, Mpr.av, b8, List.length_replicate]) ?_
  refine Y _ ?_; clear Y K0; simp only [put, app, a9, af, zE, zS, E]
  (refine ad rfl fun K0 Y => ?_; simp only [zE, op1, ev, lkp, ah, ag, ev, reduceCtorEq, G, E, J, V, M, U, Tryd.td26, Mpr.av, b8, List.length_replicate]; refine Y _ ?_; clear Y K0; simp only [put, app, a9, af, zE, zS, E])
  refine ai ?_
  refine hK8 _ ?_; clear hK8; refine ae [0, 1, 2, 4, 5, 6, 7, 8, 23] ?_; simp only [Z, lkp, zE, reduceCtorEq, G, a8, E]
  refine aa fun K9 hK9 => ?_
  refine aj hP hN rfl ?_
  iterate 2 (refine ad rfl fun K0 Y => ?_; simp only [zE, op1, ev, lkp, ah, ag, aC, aD, aE, ao, aB, aR, reduceCtorEq, G, E, J, V, M, U, Tryd.td26, Tryd.td4, Mpr.av, b8, List.length_replicate]; (repeat refine And.intro (by first | omega | assumption | exact rfl) ?_); refine Y _ ?_; clear Y K0; simp only [put, app, a9, af, zE, zS, E])
  refine ai ?_
  refine hK9 _ ?_; clear hK9; refine ae [0, 1, 2, 4, 5, 6, 7, 8, 23, 30] ?_; simp only [Z, lkp, zE, reduceCtorEq, G, a8, E]
  refine aG (by simp only [ev, Z, lkp, zE, reduceCtorEq, G, a8, E]; exact rfl) (fun hc10 => ?_) (fun hc10 => ?_)
  ·(try simp only [zB, reduceCtorEq] at hc10)
   refine aa fun K11 hK11 => ?_
   refine aj hP hN rfl ?_
   iterate 4 (refine ad rfl fun K0 Y => ?_; simp only [zE, op1, ev, lkp, ah, ag, ev, reduceCtorEq, G, E, J, V, M, U, Tryd.el25, Tryd.td25, Tryd.td26, Tryd.td4, Mpr.av, b8, List.length_replicate]; refine Y _ ?_; clear Y K0; simp only [put, app, a9, af, zE, zS, E])
   refine ai ?_
   refine hK11 _ ?_; clear hK11; refine ae [0, 1, 2, 4, 5, 6, 7, 8, 23, 30] ?_; simp only [Z, lkp, zE, reduceCtorEq, G, a8, E]
   refine aP ?_
   refine ⟨by first | exact .inl rfl | exact .inr rfl, _, rfl, ?_⟩; simp only [fzV, fz1, fzC, List.map_cons, List.map_nil, Z, lkp, zE, reduceCtorEq, G, a8, E, Mpr.av, b8, List.length_replicate]
   first
   | (have g9 := nL (w := w) (by assumption); obtain ⟨g1, g2, g3⟩ := g9; rw [g1, g2, g3]; exact bl ⟨aM (aH rfl), fun _ _ _ _ _ h => h, fun _ _ _ _ _ h => h, trivial⟩)
   | (have g9 := nX hv (w := w) (by assumption); obtain ⟨g1, g2, g3⟩ := g9; rw [g1, g2, g3]; exact bl ⟨aM (aH rfl), fun _ _ _ _ _ h => h, fun _ _ _ _ _ h => h, trivial⟩)
   | (have g9 := fM hv (w := w) (by omega); obtain ⟨g1, g2, g3⟩ := g9; rw [hcn] at g2 g3; rw [g1, g2, g3]; exact bl ⟨aM (aH rfl), fun _ _ _ _ _ h => h, fun _ _ _ _ _ h => h, trivial⟩)
   | (have g9 := fM hv (w := w) (by omega); obtain ⟨g1, g2, g3⟩ := g9; rw [hcn] at g2 g3; rw [g1, g2, g3]; exact VLE.of_eq (by simp))
  ·(try simp only [zB, reduceCtorEq] at hc10)
   have hw := nz (w := w) (n := p.ab) (by omega); have hwl := hw.len
   refine aJ ?_
   refine hK7 _ ?_; clear hK7; refine ae [0, 1, 2, 4, 5, 6, 7, 8, 23, 30] ?_; simp only [Z, lkp, zE, reduceCtorEq, G, a8, E]
   refine aa fun K12 hK12 => ?_
   refine aj hP hN rfl ?_
   iterate 2 (refine ad rfl fun K0 Y => ?_; simp only [zE, op1, ev, lkp, ah, ag, aF, bu, bh, ba, bb, bq, Nat.div_one, aK, bf, Ty.size, aL, dite_true, reduceCtorEq, G, E, J, V, M, U, Tryd.el25, Tryd.td25, Tryd.td3, Mpr.av, b8, List.length_replicate]; (repeat refine And.intro (by first | omega | assumption | exact rfl) ?_); (first | refine Y _ ?_ | refine Or.inl (Y _ ?_)); clear Y K0; simp only [put, app, a9, af, zE, zS, E])
   (refine ad rfl fun K0 Y => ?_; simp only [zE, op1, ev, lkp, ah, ag, cV, aL, Ty.size, Ty.dflt, reduceCtorEq, G, E, J, V, M, U, Tryd.el22, Tryd.td22, Mpr.av, b8, List.length_replicate]; (repeat refine And.intro (by first | omega | assumption | exact rfl) ?_); refine Or.inr (Or.inl (Y _ ?_)); clear Y K0; simp only [put, app, a9, af, zE, zS, E])
   (refine ad rfl fun K0 Y => ?_; simp only [zE, op1, ev, lkp, ah, ag, ev, reduceCtorEq, G, E, J, V, M, U, Tryd.el22, Tryd.td22, Mpr.av, b8, List.length_replicate]; refine Y _ ?_; clear Y K0; simp only [put, app, a9, af, zE, zS, E])
   refine ai ?_
   refine hK12 _ ?_; clear hK12; refine ae [0, 1, 2, 4, 5, 6, 7, 8, 9, 23, 30] ?_; simp only [Z, lkp, zE, reduceCtorEq, G, a8, E]
   refine aa fun K13 hK13 => ?_
   refine aj hP hN rfl ?_
   iterate 5 (refine ad rfl fun K0 Y => ?_; simp only [zE, op1, ev, lkp, ah, ag, am, ay, Nat.mul_one, aw, ax, acs, Ty.dflt, zG, aq, aF, bu, bh, ba, bb, bq, Nat.div_one, aK, bf, Ty.size, aL, dite_true, cV, reduceCtorEq, G, E, J, V, M, U, Tryd.el22, Tryd.el75, Tryd.st24, Tryd.td22, Tryd.td24, Tryd.td3, Tryd.td75, Mpr.av, b8, List.length_replicate]; (repeat refine And.intro (by first | omega | assumption | exact rfl) ?_); (first | refine Y _ ?_ | refine Or.inl (Y _ ?_)); clear Y K0; simp only [put, app, a9, af, zE, zS, E])
   refine ai ?_
   refine hK13 _ ?_; clear hK13; refine ae [0, 1, 2, 4, 5, 6, 7, 8, 9, 10, 23, 30] ?_; simp only [Z, lkp, zE, reduceCtorEq, G, a8, E]
   refine aa fun K14 hK14 => ?_
   refine aa fun K15 hK15 => ?_
   refine aj hP hN rfl ?_
   iterate 3 (refine ad rfl fun K0 Y => ?_; simp only [zE, op1, ev, lkp, ah, ag, aF, bu, bh, ba, bb, bq, Nat.div_one, aK, bf, Ty.size, aL, dite_true, reduceCtorEq, G, E, J, V, M, U, Tryd.el75, Tryd.td3, Tryd.td75, Mpr.av, b8, List.length_replicate]; (repeat refine And.intro (by first | omega | assumption | exact rfl) ?_); (first | refine Y _ ?_ | refine Or.inl (Y _ ?_)); clear Y K0; simp only [put, app, a9, af, zE, zS, E])
   refine ai ?_
   refine hK15 _ ?_; clear hK15; refine ae [0, 1, 2, 4, 5, 6, 7, 8, 9, 10, 23, 30, 40, 41] ?_; simp only [Z, lkp, zE, reduceCtorEq, G, a8, E]
   refine aW ?_
   refine bM (fun n16 s16 => ∃ (k : Nat), (k ≤ p.nx.length) ∧ n16 = p.nx.length - k ∧ s16 = { env := [(1, .one (.list (.int .i64) w)), (2, .one (.ptr 0 0 0 0)), (4, .one .nils), (5, .one (.bool false)), (6, .one (.int .i64 0)), (9, .one (.rwc 1 0)), (10, .one (.row 2 0)), (40, .one (.int .i64 (p.nx.length : Int))), (41, .one (.int .i64 (k : Int)))], L := [.vars 24 [.int .i64 p.inp, .int .i64 p.ab, .int .i64 p.st, .list (.list (.int .i64)) p.nx, .list (.list (.int .i64)) p.sy], .rowc 25 1 0 (List.replicate w.length .nils), .row .bool 4 0 (prB (fun _ => true) p.nx.length k false)] }) ?_ ?_
   ·exact ⟨_, _, aS [1, 2, 4, 5, 6, 9, 10, 40, 41], 0, Nat.zero_le _, rfl, by rw [qd]; rfl⟩
   ·rintro n16 s16 ⟨k, hk, rfl, rfl⟩
    refine aa fun K17 hK17 => ?_
    refine aj hP hN rfl ?_
    (refine ad rfl fun K0 Y => ?_; simp only [zE, op1, ev, lkp, ah, ag, aC, aD, aE, ao, aB, aR, reduceCtorEq, G, E, J, V, M, U, Tryd.td3, Mpr.av, b8, List.length_replicate]; (repeat refine And.intro (by first | omega | assumption | exact rfl) ?_); refine Y _ ?_; clear Y K0; simp only [put, app, a9, af, zE, zS, E])
    refine ai ?_
    refine hK17 _ ?_; clear hK17; refine ae [1, 2, 4, 5, 6, 9, 10, 40, 41, 42] ?_; simp only [Z, lkp, zE, reduceCtorEq, G, a8, E]
    refine aa fun K18 hK18 => ?_
    refine aG (by simp only [ev, Z, lkp, zE, reduceCtorEq, G, a8, E]; exact rfl) (fun hc19 => ?_) (fun hc19 => ?_)
    ·(try simp only [zB, reduceCtorEq] at hc19)
     refine aJ ?_
     refine hK18 _ ?_; clear hK18; refine ae [1, 2, 4, 5, 6, 9, 10, 40, 41, 42] ?_; simp only [Z, lkp, zE, reduceCtorEq, G, a8, E]
     refine aa fun K20 hK20 => ?_
     refine aW ?_
     refine aa fun K21 hK21 => ?_
     refine aj hP hN rfl ?_
     iterate 2 (refine ad rfl fun K0 Y => ?_; simp only [zE, op1, ev, lkp, ah, ag, ev, reduceCtorEq, G, E, J, V, M, U, Tryd.td3, Mpr.av, b8, List.length_replicate]; refine Y _ ?_; clear Y K0; simp only [put, app, a9, af, zE, zS, E])
     refine ai ?_
     refine hK21 _ ?_; clear hK21; refine ae [1, 2, 4, 5, 6, 9, 10, 11, 40, 41, 42] ?_; simp only [Z, lkp, zE, reduceCtorEq, G, a8, E]
     refine aj hP hN rfl ?_
     iterate 4 (refine ad rfl fun K0 Y => ?_; simp only [zE, op1, ev, lkp, ah, ag, aI, zG, Ty.dflt, Ty.size, Nat.mul_one, ne_eq, not_false_eq_true, Int.natCast_one, Int.mul_one, bI, au, aQ, aL, acs, reduceCtorEq, G, E, J, V, M, U, Tryd.el75, Tryd.td3, Tryd.td4, Tryd.td75, Mpr.av, b8, List.length_replicate, lM]; (repeat refine And.intro (by first | omega | assumption | exact rfl) ?_); refine Y _ ?_; clear Y K0; simp only [put, app, a9, af, zE, zS, E])
     refine ai ?_
     refine hK20 _ ?_; clear hK20; refine ae [1, 2, 4, 5, 6, 9, 10, 11, 40, 41, 42] ?_; simp only [Z, lkp, zE, reduceCtorEq, G, a8, E]
     refine aj hP hN rfl ?_
     iterate 2 (refine ad rfl fun K0 Y => ?_; simp only [zE, op1, ev, lkp, ah, ag, aC, aD, aE, ao, aB, aR, reduceCtorEq, G, E, J, V, M, U, Tryd.td3, Mpr.av, b8, List.length_replicate]; (repeat refine And.intro (by first | omega | assumption | exact rfl) ?_); refine Y _ ?_; clear Y K0; simp only [put, app, a9, af, zE, zS, E])
     refine ai ?_
     refine ⟨_, _, ?_, aS [1, 2, 4, 5, 6, 9, 10, 40, 41], k + 1, by omega, rfl, ?_⟩
     · omega
     · rw [m4, show (true : Bool) = (fun _ => true) k from rfl, kC]; rfl
    ·(try simp only [zB, reduceCtorEq] at hc19)
     refine bK ?_
     refine hK14 _ ?_; clear hK14; refine ae [1, 2, 4, 5, 6, 9, 10, 40, 41, 42] ?_; simp only [Z, lkp, zE, reduceCtorEq, G, a8, E]
     refine aa fun K22 hK22 => ?_
     refine aa fun K23 hK23 => ?_
     refine aj hP hN rfl ?_
     iterate 4 (refine ad rfl fun K0 Y => ?_; simp only [zE, op1, ev, lkp, ah, ag, aF, bu, bh, ba, bb, bq, Nat.div_one, aK, bf, Ty.size, aL, dite_true, aC, aD, aE, ao, aB, aR, reduceCtorEq, G, E, J, V, M, U, Tryd.el25, Tryd.td25, Tryd.td3, Mpr.av, b8, List.length_replicate]; (repeat refine And.intro (by first | omega | assumption | exact rfl) ?_); (first | refine Y _ ?_ | refine Or.inl (Y _ ?_)); clear Y K0; simp only [put, app, a9, af, zE, zS, E])
     refine ai ?_
     refine hK23 _ ?_; clear hK23; refine ae [1, 2, 4, 5, 6, 9, 10, 12, 40, 41, 42] ?_; simp only [Z, lkp, zE, reduceCtorEq, G, a8, E]
     refine aW ?_
     refine ck 2 rfl ?_; simp only [List.map_cons, List.map_nil, zS, G, and_self, and_true, true_and, and_false, false_and, if_true, if_false, eq_self, reduceCtorEq, Nat.one_ne_zero, Nat.zero_ne_one]
     obtain rfl : k = p.nx.length := by omega
     rw [lY, oJ, ← qS p w, ← pJ p w]
     refine cv (n := 2) (L1 := [_, _]) rfl rfl (by rw [hB]; decide) rfl (by simp only [List.all_cons, List.all_nil, lw, iB, Bool.and_true]; rfl) ?_
     refine bM (fun n24 s24 => ∃ (k : Nat), (k ≤ w.length) ∧ n24 = k + 1 ∧ s24 = { env := [(1, .one (.list (.int .i64) w)), (2, .one (.ptr 0 0 0 0)), (4, .one .nils), (5, .one (.bool false)), (6, .one (.int .i64 0)), (9, .one (.rwc 1 0)), (10, .one (.list .bool (cnP p (w.drop k)))), (12, .one (.int .i64 ((k : Int) - 1)))], L := [.vars 24 [.int .i64 p.inp, .int .i64 p.ab, .int .i64 p.st, .list (.list (.int .i64)) p.nx, .list (.list (.int .i64)) p.sy], .rowc 25 1 0 (fcl p w k)] }) ?_ ?_
     ·exact ⟨_, _, aS [1, 2, 4, 5, 6, 9, 10, 12], w.length, Nat.le_refl _, rfl, rfl⟩
     ·rintro n24 s24 ⟨k, hk, rfl, rfl⟩
      refine aa fun K25 hK25 => ?_
      refine aa fun K26 hK26 => ?_
      refine aj hP hN rfl ?_
      iterate 2 (refine ad rfl fun K0 Y => ?_; simp only [zE, op1, ev, lkp, ah, ag, aC, aD, aE, ao, aB, aR, reduceCtorEq, G, E, J, V, M, U, Tryd.td3, Tryd.td4, Mpr.av, b8, List.length_replicate]; (repeat refine And.intro (by first | omega | assumption | exact rfl) ?_); refine Y _ ?_; clear Y K0; simp only [put, app, a9, af, zE, zS, E])
      refine ai ?_
      refine hK26 _ ?_; clear hK26; refine ae [1, 2, 4, 5, 6, 9, 10, 12, 52] ?_; simp only [Z, lkp, zE, reduceCtorEq, G, a8, E]
      refine aG (by simp only [ev, Z, lkp, zE, reduceCtorEq, G, a8, E]; exact rfl) (fun hc27 => ?_) (fun hc27 => ?_)
      ·(try simp only [zB, reduceCtorEq] at hc27)
       refine aJ ?_
       refine hK25 _ ?_; clear hK25; refine ae [1, 2, 4, 5, 6, 9, 10, 12, 52] ?_; simp only [Z, lkp, zE, reduceCtorEq, G, a8, E]
       refine aa fun K28 hK28 => ?_
       refine aW ?_
       refine aa fun K29 hK29 => ?_
       obtain ⟨j, rfl⟩ : ∃ j, k = j + 1 := ⟨k - 1, by omega⟩
       rw [show (((j + 1 : Nat) : Int) - 1) = (j : Int) by omega]
       have hjl : j < w.length := by omega
       have hcnl := fB p (w.drop (j + 1))
       refine aj hP hN rfl ?_
       iterate 4 (refine ad rfl fun K0 Y => ?_; simp only [zE, op1, ev, lkp, ah, ag, aF, bu, bh, ba, bb, bq, Nat.div_one, aK, bf, Ty.size, aL, dite_true, cV, Ty.dflt, reduceCtorEq, G, E, J, V, M, U, Tryd.el75, Tryd.td3, Tryd.td75, Mpr.av, b8, List.length_replicate, fB]; (repeat refine And.intro (by first | omega | assumption | exact rfl) ?_); (first | refine Y _ ?_ | refine Or.inl (Y _ ?_)); clear Y K0; simp only [put, app, a9, af, zE, zS, E])
       refine ai ?_
       refine hK29 _ ?_; clear hK29; refine ae [1, 2, 4, 5, 6, 9, 10, 12, 13, 52] ?_; simp only [Z, lkp, zE, reduceCtorEq, G, a8, E]
       refine aa fun K30 hK30 => ?_
       have hwA : ∀ c, aQ (fcl p w (j + 1)) j [c] = (fcl p w (j + 1)).set j c := fun c => l8 (by rw [fx]; exact hjl)
       have hfl := fx p w (j + 1)
       refine aj hP hN rfl ?_
       iterate 7 (refine ad rfl fun K0 Y => ?_; simp only [zE, op1, ev, lkp, ah, ag, aF, bu, bh, ba, bb, bq, Nat.div_one, aK, bf, Ty.size, aL, dite_true, cV, Ty.dflt, aI, zG, Nat.mul_one, ne_eq, not_false_eq_true, Int.natCast_one, Int.mul_one, bI, au, acs, reduceCtorEq, G, E, J, V, M, U, Tryd.el22, Tryd.el25, Tryd.el75, Tryd.td22, Tryd.td25, Tryd.td3, Tryd.td75, Mpr.av, b8, List.length_replicate, hwA, fB, Int.toNat_natCast]; (repeat refine And.intro (by first | omega | assumption | exact rfl) ?_); (first | refine Y _ ?_ | refine Or.inl (Y _ ?_)); clear Y K0; simp only [put, app, a9, af, zE, zS, E])
       refine ai ?_
       refine hK30 _ ?_; clear hK30; refine ae [1, 2, 4, 5, 6, 9, 10, 12, 13, 52] ?_; simp only [Z, lkp, zE, reduceCtorEq, G, a8, E]
       refine aa fun K31 hK31 => ?_
       refine aa fun K32 hK32 => ?_
       refine aj hP hN rfl ?_
       iterate 3 (refine ad rfl fun K0 Y => ?_; simp only [zE, op1, ev, lkp, ah, ag, aF, bu, bh, ba, bb, bq, Nat.div_one, aK, bf, Ty.size, aL, dite_true, reduceCtorEq, G, E, J, V, M, U, Tryd.el75, Tryd.td3, Tryd.td75, Mpr.av, b8, List.length_replicate, fB]; (repeat refine And.intro (by first | omega | assumption | exact rfl) ?_); (first | refine Y _ ?_ | refine Or.inl (Y _ ?_)); clear Y K0; simp only [put, app, a9, af, zE, zS, E])
       refine ai ?_
       refine hK32 _ ?_; clear hK32; refine ae [1, 2, 4, 5, 6, 9, 10, 12, 13, 52, 65, 66] ?_; simp only [Z, lkp, zE, reduceCtorEq, G, a8, E]
       refine aW ?_
       refine bM (fun n33 s33 => ∃ (s : Nat), (s ≤ p.nx.length) ∧ n33 = p.nx.length - s ∧ s33 = { env := [(1, .one (.list (.int .i64) w)), (2, .one (.ptr 0 0 0 0)), (4, .one .nils), (5, .one (.bool false)), (6, .one (.int .i64 0)), (9, .one (.rwc 1 0)), (10, .one (.list .bool (cnP p (w.drop (j + 1))))), (12, .one (.int .i64 (j : Int))), (13, .one (.row 2 0)), (65, .one (.int .i64 (p.nx.length : Int))), (66, .one (.int .i64 (s : Int)))], L := [.vars 24 [.int .i64 p.inp, .int .i64 p.ab, .int .i64 p.st, .list (.list (.int .i64)) p.nx, .list (.list (.int .i64)) p.sy], .rowc 25 1 0 ((fcl p w (j + 1)).set j (.row 3 0)), .row .bool 4 0 (prB (fun s => decide (fcV p (cnP p (w.drop (j + 1))) (w.getD j 0) s < p.inp.toNat)) p.nx.length s false), .row (.int .i64) 3 0 (prL (fun s => (fcV p (cnP p (w.drop (j + 1))) (w.getD j 0) s : Int)) p.nx.length s 0)] }) ?_ ?_
       ·exact ⟨_, _, aS [1, 2, 4, 5, 6, 9, 10, 12, 13, 65, 66], 0, Nat.zero_le _, rfl, by rw [qd, rE]; rfl⟩
       ·rintro n33 s33 ⟨s, hs, rfl, rfl⟩
        refine aa fun K34 hK34 => ?_
        refine aj hP hN rfl ?_
        (refine ad rfl fun K0 Y => ?_; simp only [zE, op1, ev, lkp, ah, ag, aC, aD, aE, ao, aB, aR, reduceCtorEq, G, E, J, V, M, U, Tryd.td3, Mpr.av, b8, List.length_replicate]; (repeat refine And.intro (by first | omega | assumption | exact rfl) ?_); refine Y _ ?_; clear Y K0; simp only [put, app, a9, af, zE, zS, E])
        refine ai ?_
        refine hK34 _ ?_; clear hK34; refine ae [1, 2, 4, 5, 6, 9, 10, 12, 13, 65, 66, 67] ?_; simp only [Z, lkp, zE, reduceCtorEq, G, a8, E]
        refine aa fun K35 hK35 => ?_
        refine aG (by simp only [ev, Z, lkp, zE, reduceCtorEq, G, a8, E]; exact rfl) (fun hc36 => ?_) (fun hc36 => ?_)
        ·(try simp only [zB, reduceCtorEq] at hc36)
         refine aJ ?_
         refine hK35 _ ?_; clear hK35; refine ae [1, 2, 4, 5, 6, 9, 10, 12, 13, 65, 66, 67] ?_; simp only [Z, lkp, zE, reduceCtorEq, G, a8, E]
         refine aa fun K37 hK37 => ?_
         refine aW ?_
         refine aa fun K38 hK38 => ?_
         refine aj hP hN rfl ?_
         iterate 2 (refine ad rfl fun K0 Y => ?_; simp only [zE, op1, ev, lkp, ah, ag, ev, reduceCtorEq, G, E, J, V, M, U, Tryd.td3, Mpr.av, b8, List.length_replicate]; refine Y _ ?_; clear Y K0; simp only [put, app, a9, af, zE, zS, E])
         refine ai ?_
         refine hK38 _ ?_; clear hK38; refine ae [1, 2, 4, 5, 6, 9, 10, 12, 13, 14, 65, 66, 67] ?_; simp only [Z, lkp, zE, reduceCtorEq, G, a8, E]
         refine aa fun K39 hK39 => ?_
         refine aj hP hN rfl ?_
         (refine ad rfl fun K0 Y => ?_; simp only [zE, op1, ev, lkp, ah, ag, ev, reduceCtorEq, G, E, J, V, M, U, Tryd.td3, Mpr.av, b8, List.length_replicate]; refine Y _ ?_; clear Y K0; simp only [put, app, a9, af, zE, zS, E])
         refine ai ?_
         refine hK39 _ ?_; clear hK39; refine ae [1, 2, 4, 5, 6, 9, 10, 12, 13, 14, 15, 65, 66, 67] ?_; simp only [Z, lkp, zE, reduceCtorEq, G, a8, E]
         refine aa fun K40 hK40 => ?_
         refine aW ?_
         refine bM (fun n41 s41 => ∃ (c : Nat), (c ≤ p.inp.toNat) ∧ (∀ q, q < c → fcP p (cnP p (w.drop (j + 1))) (w.getD j 0) s q = false) ∧ n41 = p.inp.toNat + 1 - c ∧ s41 = { env := [(1, .one (.list (.int .i64) w)), (2, .one (.ptr 0 0 0 0)), (4, .one .nils), (5, .one (.bool false)), (6, .one (.int .i64 0)), (9, .one (.rwc 1 0)), (10, .one (.list .bool (cnP p (w.drop (j + 1))))), (12, .one (.int .i64 (j : Int))), (13, .one (.row 2 0)), (14, .one (.int .i64 (s : Int))), (15, .one (.int .i64 (c : Int))), (65, .one (.int .i64 (p.nx.length : Int))), (66, .one (.int .i64 (s : Int)))], L := [.vars 24 [.int .i64 p.inp, .int .i64 p.ab, .int .i64 p.st, .list (.list (.int .i64)) p.nx, .list (.list (.int .i64)) p.sy], .rowc 25 1 0 ((fcl p w (j + 1)).set j (.row 3 0)), .row .bool 4 0 (prB (fun s => decide (fcV p (cnP p (w.drop (j + 1))) (w.getD j 0) s < p.inp.toNat)) p.nx.length s false), .row (.int .i64) 3 0 (prL (fun s => (fcV p (cnP p (w.drop (j + 1))) (w.getD j 0) s : Int)) p.nx.length s 0)] }) ?_ ?_
         ·exact ⟨_, _, aS [1, 2, 4, 5, 6, 9, 10, 12, 13, 14, 15, 65, 66], 0, Nat.zero_le _, fun q hq => by omega, rfl, rfl⟩
         ·rintro n41 s41 ⟨c, hc, hq, rfl, rfl⟩
          refine aa fun K42 hK42 => ?_
          refine aa fun K43 hK43 => ?_
          have hsn : s < p.nx.length := by omega
          have hrl := hp.rl s hsn; have hql := hp.ql s hsn; have hct := pe hp hsn c
          refine bW hP hN Tryd.mixed rfl ?_
          iterate 4 (refine ad rfl fun K0 Y => ?_; simp only [zE, op1, ev, lkp, ah, ag, am, ay, Nat.mul_one, aw, ax, acs, Ty.dflt, zG, aq, aC, aD, aE, ao, aB, aR, reduceCtorEq, G, E, J, V, M, U, Tryd.st24, Tryd.td24, Tryd.td3, Tryd.td4, Mpr.av, b8, List.length_replicate]; (repeat refine And.intro (by first | omega | assumption | exact rfl) ?_); refine Y _ ?_; clear Y K0; simp only [put, app, a9, af, zE, zS, E])
          (refine ad rfl fun K0 Y => ?_; simp only [zE, op1, ev, lkp, ah, ag, ev, reduceCtorEq, G, E, J, V, M, U, Tryd.td4, Mpr.av, b8, List.length_replicate]; refine Y _ ?_; clear Y K0; simp only [put, app, a9, af, zE, zS, E])
          refine' aY (want := true) 27 rfl (m := 73) (by simp only [Z, lkp, zE, reduceCtorEq, G, a8, E]; exact rfl) (by kernel_rfl) rfl rfl rfl rfl rfl (fun hg44 => ?a44) ?b44 ?c44
          case a44 =>
           have hq44 := hg44; (try simp only [zB, reduceCtorEq] at hg44); simp only [List.take_succ_cons, List.take_zero, List.cons_append, List.nil_append]
           (refine ar rfl fun K0 Y => ?_; simp only [zE, op1, ev, lkp, ah, ag, am, reduceCtorEq, G, E, J, V, M, U, Tryd.st24, Tryd.td24, Tryd.td4, Mpr.av, b8, List.length_replicate]; (repeat refine And.intro (by first | omega | assumption | exact rfl) ?_); refine Y _ ?_; clear Y K0; simp only [put, app, a9, af, zE, zS, E])
           (refine ar rfl fun K0 Y => ?_; simp only [zE, op1, ev, lkp, ah, ag, ay, Nat.mul_one, aw, ax, acs, Ty.dflt, zG, aq, reduceCtorEq, G, E, J, V, M, U, Tryd.el22, Tryd.td22, Mpr.av, b8, List.length_replicate]; (repeat refine And.intro (by first | omega | assumption | exact rfl) ?_); refine Y _ ?_; clear Y K0; simp only [put, app, a9, af, zE, zS, E])
           (refine ar rfl fun K0 Y => ?_; simp only [zE, op1, ev, lkp, ah, ag, ev, reduceCtorEq, G, E, J, V, M, U, Tryd.td3, Mpr.av, b8, List.length_replicate]; refine Y _ ?_; clear Y K0; simp only [put, app, a9, af, zE, zS, E])
           (refine ar rfl fun K0 Y => ?_; simp only [zE, op1, ev, lkp, ah, ag, aI, zG, Ty.dflt, Ty.size, Nat.mul_one, ne_eq, not_false_eq_true, Int.natCast_one, Int.mul_one, reduceCtorEq, G, E, J, V, M, U, Tryd.el22, Tryd.td22, Mpr.av, b8, List.length_replicate]; (repeat refine And.intro (by first | omega | assumption | exact rfl) ?_); refine Y _ ?_; clear Y K0; simp only [put, app, a9, af, zE, zS, E])
           (refine ar rfl fun K0 Y => ?_; simp only [zE, op1, ev, lkp, ah, ag, ay, Nat.mul_one, aw, ax, acs, Ty.dflt, zG, aq, reduceCtorEq, G, E, J, V, M, U, Tryd.el25, Tryd.td25, Mpr.av, b8, List.length_replicate]; (repeat refine And.intro (by first | omega | assumption | exact rfl) ?_); refine Y _ ?_; clear Y K0; simp only [put, app, a9, af, zE, zS, E])
           (refine ar rfl fun K0 Y => ?_; simp only [zE, op1, ev, lkp, ah, ag, ev, reduceCtorEq, G, E, J, V, M, U, Tryd.td3, Mpr.av, b8, List.length_replicate]; refine Y _ ?_; clear Y K0; simp only [put, app, a9, af, zE, zS, E])
           (refine ar rfl fun K0 Y => ?_; simp only [zE, op1, ev, lkp, ah, ag, aI, zG, Ty.dflt, Ty.size, Nat.mul_one, ne_eq, not_false_eq_true, Int.natCast_one, Int.mul_one, reduceCtorEq, G, E, J, V, M, U, Tryd.el25, Tryd.td25, Mpr.av, b8, List.length_replicate]; (repeat refine And.intro (by first | omega | assumption | exact rfl) ?_); refine Y _ ?_; clear Y K0; simp only [put, app, a9, af, zE, zS, E])
           (refine ar rfl fun K0 Y => ?_; simp only [zE, op1, ev, lkp, ah, ag, ay, Nat.mul_one, aw, ax, acs, Ty.dflt, zG, aq, reduceCtorEq, G, E, J, V, M, U, Tryd.td3, Mpr.av, b8, List.length_replicate]; (repeat refine And.intro (by first | omega | assumption | exact rfl) ?_); refine Y _ ?_; clear Y K0; simp only [put, app, a9, af, zE, zS, E])
           (refine ar rfl fun K0 Y => ?_; simp only [zE, op1, ev, lkp, ah, ag, ev, reduceCtorEq, G, E, J, V, M, U, Tryd.el25, Tryd.td25, Mpr.av, b8, List.length_replicate]; refine Y _ ?_; clear Y K0; simp only [put, app, a9, af, zE, zS, E])
           (refine ar rfl fun K0 Y => ?_; simp only [zE, op1, ev, lkp, ah, ag, ev, reduceCtorEq, G, E, J, V, M, U, Tryd.td3, Mpr.av, b8, List.length_replicate]; refine Y _ ?_; clear Y K0; simp only [put, app, a9, af, zE, zS, E])
           (refine ar rfl fun K0 Y => ?_; simp only [zE, op1, ev, lkp, ah, ag, aI, zG, Ty.dflt, Ty.size, Nat.mul_one, ne_eq, not_false_eq_true, Int.natCast_one, Int.mul_one, reduceCtorEq, G, E, J, V, M, U, Tryd.el25, Tryd.td25, Mpr.av, b8, List.length_replicate]; (repeat refine And.intro (by first | omega | assumption | exact rfl) ?_); refine Y _ ?_; clear Y K0; simp only [put, app, a9, af, zE, zS, E])
           (refine ar rfl fun K0 Y => ?_; simp only [zE, op1, ev, lkp, ah, ag, ay, Nat.mul_one, aw, ax, acs, Ty.dflt, zG, aq, reduceCtorEq, G, E, J, V, M, U, Tryd.td3, Mpr.av, b8, List.length_replicate]; (repeat refine And.intro (by first | omega | assumption | exact rfl) ?_); refine Y _ ?_; clear Y K0; simp only [put, app, a9, af, zE, zS, E])
           (refine ar rfl fun K0 Y => ?_; simp only [zE, op1, ev, lkp, ah, ag, aC, aD, aE, ao, aB, aR, reduceCtorEq, G, E, J, V, M, U, Tryd.td3, Tryd.td4, Mpr.av, b8, List.length_replicate]; (repeat refine And.intro (by first | omega | assumption | exact rfl) ?_); refine Y _ ?_; clear Y K0; simp only [put, app, a9, af, zE, zS, E])
           (refine ar rfl fun K0 Y => ?_; simp only [zE, op1, ev, lkp, ah, ag, ev, reduceCtorEq, G, E, J, V, M, U, Tryd.td4, Mpr.av, b8, List.length_replicate]; refine Y _ ?_; clear Y K0; simp only [put, app, a9, af, zE, zS, E])
           refine' aY (want := false) 12 rfl (m := 87) (by simp only [Z, lkp, zE, reduceCtorEq, G, a8, E]; exact rfl) (by kernel_rfl) rfl rfl rfl rfl rfl (fun hg45 => ?a45) ?b45 ?c45
           case a45 =>
            have hq45 := hg45; (try simp only [zB, reduceCtorEq] at hg45); simp only [List.take_succ_cons, List.take_zero, List.cons_append, List.nil_append]
            (refine ar rfl fun K0 Y => ?_; simp only [zE, op1, ev, lkp, ah, ag, ev, reduceCtorEq, G, E, J, V, M, U, Tryd.el75, Tryd.td75, Mpr.av, b8, List.length_replicate]; refine Y _ ?_; clear Y K0; simp only [put, app, a9, af, zE, zS, E])
            (refine ar rfl fun K0 Y => ?_; simp only [zE, op1, ev, lkp, ah, ag, am, reduceCtorEq, G, E, J, V, M, U, Tryd.st24, Tryd.td24, Tryd.td3, Mpr.av, b8, List.length_replicate]; (repeat refine And.intro (by first | omega | assumption | exact rfl) ?_); refine Y _ ?_; clear Y K0; simp only [put, app, a9, af, zE, zS, E])
            (refine ar rfl fun K0 Y => ?_; simp only [zE, op1, ev, lkp, ah, ag, ay, Nat.mul_one, aw, ax, acs, Ty.dflt, zG, aq, reduceCtorEq, G, E, J, V, M, U, Tryd.el22, Tryd.td22, Mpr.av, b8, List.length_replicate]; (repeat refine And.intro (by first | omega | assumption | exact rfl) ?_); refine Y _ ?_; clear Y K0; simp only [put, app, a9, af, zE, zS, E])
            (refine ar rfl fun K0 Y => ?_; simp only [zE, op1, ev, lkp, ah, ag, ev, reduceCtorEq, G, E, J, V, M, U, Tryd.td3, Mpr.av, b8, List.length_replicate]; refine Y _ ?_; clear Y K0; simp only [put, app, a9, af, zE, zS, E])
            (refine ar rfl fun K0 Y => ?_; simp only [zE, op1, ev, lkp, ah, ag, aI, zG, Ty.dflt, Ty.size, Nat.mul_one, ne_eq, not_false_eq_true, Int.natCast_one, Int.mul_one, reduceCtorEq, G, E, J, V, M, U, Tryd.el22, Tryd.td22, Mpr.av, b8, List.length_replicate]; (repeat refine And.intro (by first | omega | assumption | exact rfl) ?_); refine Y _ ?_; clear Y K0; simp only [put, app, a9, af, zE, zS, E])
            (refine ar rfl fun K0 Y => ?_; simp only [zE, op1, ev, lkp, ah, ag, ay, Nat.mul_one, aw, ax, acs, Ty.dflt, zG, aq, reduceCtorEq, G, E, J, V, M, U, Tryd.el25, Tryd.td25, Mpr.av, b8, List.length_replicate]; (repeat refine And.intro (by first | omega | assumption | exact rfl) ?_); refine Y _ ?_; clear Y K0; simp only [put, app, a9, af, zE, zS, E])
            (refine ar rfl fun K0 Y => ?_; simp only [zE, op1, ev, lkp, ah, ag, ev, reduceCtorEq, G, E, J, V, M, U, Tryd.td3, Mpr.av, b8, List.length_replicate]; refine Y _ ?_; clear Y K0; simp only [put, app, a9, af, zE, zS, E])
            (refine ar rfl fun K0 Y => ?_; simp only [zE, op1, ev, lkp, ah, ag, aI, zG, Ty.dflt, Ty.size, Nat.mul_one, ne_eq, not_false_eq_true, Int.natCast_one, Int.mul_one, reduceCtorEq, G, E, J, V, M, U, Tryd.el25, Tryd.td25, Mpr.av, b8, List.length_replicate]; (repeat refine And.intro (by first | omega | assumption | exact rfl) ?_); refine Y _ ?_; clear Y K0; simp only [put, app, a9, af, zE, zS, E])
            (refine ar rfl fun K0 Y => ?_; simp only [zE, op1, ev, lkp, ah, ag, ay, Nat.mul_one, aw, ax, acs, Ty.dflt, zG, aq, reduceCtorEq, G, E, J, V, M, U, Tryd.td3, Mpr.av, b8, List.length_replicate]; (repeat refine And.intro (by first | omega | assumption | exact rfl) ?_); refine Y _ ?_; clear Y K0; simp only [put, app, a9, af, zE, zS, E])
            (refine ar rfl fun K0 Y => ?_; simp only [zE, op1, ev, lkp, ah, ag, aI, zG, Ty.dflt, Ty.size, Nat.mul_one, ne_eq, not_false_eq_true, Int.natCast_one, Int.mul_one, reduceCtorEq, G, E, J, V, M, U, Tryd.el75, Tryd.td75, Mpr.av, b8, List.length_replicate]; (repeat refine And.intro (by first | omega | assumption | exact rfl) ?_); refine Y _ ?_; clear Y K0; simp only [put, app, a9, af, zE, zS, E])
            (refine ar rfl fun K0 Y => ?_; simp only [zE, op1, ev, lkp, ah, ag, ay, Nat.mul_one, aw, ax, acs, Ty.dflt, zG, aq, reduceCtorEq, G, E, J, V, M, U, Tryd.td4, Mpr.av, b8, List.length_replicate]; (repeat refine And.intro (by first | omega | assumption | exact rfl) ?_); refine Y _ ?_; clear Y K0; simp only [put, app, a9, af, zE, zS, E])
            (refine ar rfl fun K0 Y => ?_; simp only [zE, op1, ev, lkp, ah, ag, dR, reduceCtorEq, G, E, J, V, M, U, Tryd.td4, Mpr.av, b8, List.length_replicate]; (repeat refine And.intro (by first | omega | assumption | exact rfl) ?_); refine Y _ ?_; clear Y K0; simp only [put, app, a9, af, zE, zS, E])
            (refine ar rfl fun K0 Y => ?_; simp only [zE, op1, ev, lkp, ah, ag, bt, reduceCtorEq, G, E, J, V, M, U, Tryd.td4, Mpr.av, b8, List.length_replicate]; refine Y _ ?_; clear Y K0; simp only [put, app, a9, af, zE, zS, E])
            refine ai ?_
            refine ⟨by simp only [Z, lkp, zE, reduceCtorEq, G, a8, E]; exact rfl, rfl, ?_, rfl⟩; (repeat refine aZ rfl ?_); exact bz (by exact rfl) hq45
           case b45 => exact bv (by first | rfl | (simp [bV]; done) | decide)
           simp only [bj, bg]
           (refine ad rfl fun K0 Y => ?_; simp only [zE, op1, ev, lkp, ah, ag, bt, reduceCtorEq, G, E, J, V, M, U, Tryd.td4, Mpr.av, b8, List.length_replicate]; refine Y _ ?_; clear Y K0; simp only [put, app, a9, af, zE, zS, E])
           refine ai ?_
           refine ⟨by simp only [Z, lkp, zE, reduceCtorEq, G, a8, E]; exact rfl, rfl, ?_, rfl⟩; (repeat refine aZ rfl ?_); exact bz (by exact rfl) hq44
          case b44 => exact bv (by first | rfl | (simp [bV]; done) | decide)
          simp only [bj, bg]
          refine ai ?_
          refine ⟨by kernel_rfl, ?_⟩
          refine hK43 _ ?_; clear hK43; refine ae [1, 2, 4, 5, 6, 9, 10, 12, 13, 14, 15, 65, 66, 101] ?_; simp only [Z, lkp, zE, reduceCtorEq, G, a8, E]
          refine aG (by simp only [ev, Z, lkp, zE, reduceCtorEq, G, a8, E]; exact rfl) (fun hc46 => ?_) (fun hc46 => ?_)
          ·(try simp only [zB, reduceCtorEq] at hc46)
           have hy : c < p.inp.toNat ∧ fcP p (cnP p (w.drop (j + 1))) (w.getD j 0) s c = false := by (have h9 := hc46); refine ⟨by omega, ?_⟩; unfold fcP; rw [Bool.and_eq_false_iff, decide_eq_false_iff_not]; simpa using h9.2
           refine aJ ?_
           refine hK42 _ ?_; clear hK42; refine ae [1, 2, 4, 5, 6, 9, 10, 12, 13, 14, 15, 65, 66, 101] ?_; simp only [Z, lkp, zE, reduceCtorEq, G, a8, E]
           refine aW ?_
           refine aj hP hN rfl ?_
           iterate 3 (refine ad rfl fun K0 Y => ?_; simp only [zE, op1, ev, lkp, ah, ag, aC, aD, aE, ao, aB, aR, reduceCtorEq, G, E, J, V, M, U, Tryd.td3, Mpr.av, b8, List.length_replicate]; (repeat refine And.intro (by first | omega | assumption | exact rfl) ?_); refine Y _ ?_; clear Y K0; simp only [put, app, a9, af, zE, zS, E])
           refine ai ?_
           refine ⟨_, _, ?_, aS [1, 2, 4, 5, 6, 9, 10, 12, 13, 14, 15, 65, 66], c + 1, by omega, fun q hq2 => ?_, rfl, rfl⟩
           · omega
           · by_cases e : q = c
             · rw [e]; exact hy.2
             · exact hq q (by omega)
          ·(try simp only [zB, reduceCtorEq] at hc46)
           have hfc : fcV p (cnP p (w.drop (j + 1))) (w.getD j 0) s = c := qT hc hq fun hlt => by (have h9 := hc46); unfold fcP; rw [Bool.and_eq_true, decide_eq_true_eq]; exact h9.elim (fun h8 => by omega) (fun h8 => h8)
           refine bK ?_
           refine hK40 _ ?_; clear hK40; refine ae [1, 2, 4, 5, 6, 9, 10, 12, 13, 14, 15, 65, 66, 101] ?_; simp only [Z, lkp, zE, reduceCtorEq, G, a8, E]
           have hsn : s < p.nx.length := by omega
           have hgp := pY (p := p) hjl
           have hfl := fx p w (j + 1)
           refine bW hP hN Tryd.mixed rfl ?_
           iterate 16 (refine ad rfl fun K0 Y => ?_; simp only [zE, op1, ev, lkp, ah, ag, aI, zG, Ty.dflt, Ty.size, Nat.mul_one, ne_eq, not_false_eq_true, Int.natCast_one, Int.mul_one, ay, aw, ax, acs, aq, am, aC, aD, aE, ao, aB, aR, bI, au, aQ, aL, reduceCtorEq, G, E, J, V, M, U, Tryd.el22, Tryd.el25, Tryd.el75, Tryd.st24, Tryd.td22, Tryd.td24, Tryd.td25, Tryd.td3, Tryd.td4, Tryd.td75, Mpr.av, b8, List.length_replicate, hgp, pa, lM, List.length_set, Int.toNat_natCast]; (repeat refine And.intro (by first | omega | assumption | exact rfl) ?_); refine Y _ ?_; clear Y K0; simp only [put, app, a9, af, zE, zS, E])
           refine ai ?_
           refine ⟨by kernel_rfl, ?_⟩
           refine hK37 _ ?_; clear hK37; refine ae [1, 2, 4, 5, 6, 9, 10, 12, 13, 14, 15, 65, 66, 101] ?_; simp only [Z, lkp, zE, reduceCtorEq, G, a8, E]
           refine aj hP hN rfl ?_
           iterate 2 (refine ad rfl fun K0 Y => ?_; simp only [zE, op1, ev, lkp, ah, ag, aC, aD, aE, ao, aB, aR, reduceCtorEq, G, E, J, V, M, U, Tryd.td3, Mpr.av, b8, List.length_replicate]; (repeat refine And.intro (by first | omega | assumption | exact rfl) ?_); refine Y _ ?_; clear Y K0; simp only [put, app, a9, af, zE, zS, E])
           refine ai ?_
           have hdd : decide ((c : Int) < p.inp) = (fun s => decide (fcV p (cnP p (w.drop (j + 1))) (w.getD j 0) s < p.inp.toNat)) s := by show _ = decide (fcV p (cnP p (w.drop (j + 1))) (w.getD j 0) s < p.inp.toNat); rw [hfc, decide_eq_decide]; omega
           have hdc : (c : Int) = (fun s => (fcV p (cnP p (w.drop (j + 1))) (w.getD j 0) s : Int)) s := by show _ = (fcV p (cnP p (w.drop (j + 1))) (w.getD j 0) s : Int); rw [hfc]
           refine ⟨_, _, ?_, aS [1, 2, 4, 5, 6, 9, 10, 12, 13, 65, 66], s + 1, by omega, rfl, ?_⟩
           · omega
           · rw [pr hsn, m4, hdd, kC, hdc, oU]; rfl
        ·(try simp only [zB, reduceCtorEq] at hc36)
         refine bK ?_
         refine hK31 _ ?_; clear hK31; refine ae [1, 2, 4, 5, 6, 9, 10, 12, 13, 65, 66, 67] ?_; simp only [Z, lkp, zE, reduceCtorEq, G, a8, E]
         have hs8 : s = p.nx.length := by omega
         rw [hs8, qk, lY, show (List.range p.nx.length).map (fun s => (fcV p (cnP p (w.drop (j + 1))) (w.getD j 0) s : Int)) = frw p w j from rfl, show (List.range p.nx.length).map (fun s => decide (fcV p (cnP p (w.drop (j + 1))) (w.getD j 0) s < p.inp.toNat)) = stC p (cnP p (w.drop (j + 1))) (w.getD j 0) from rfl, ← oZ hjl]
         refine iy 3 1 rfl rfl ?_; simp only [List.map_cons, List.map_nil, frC, zS, G, and_self, and_true, true_and, and_false, false_and, if_true, if_false, eq_self, reduceCtorEq, Nat.one_ne_zero, Nat.zero_ne_one]
         rw [qr hjl]
         refine cv (n := 3) (L1 := [_, _, _]) rfl rfl (by rw [hB]; decide) rfl (by simp only [List.all_cons, List.all_nil, lw, iB, Bool.and_true]; rfl) ?_
         refine ck 2 rfl ?_; simp only [List.map_cons, List.map_nil, zS, G, and_self, and_true, true_and, and_false, false_and, if_true, if_false, eq_self, reduceCtorEq, Nat.one_ne_zero, Nat.zero_ne_one]
         refine cv (n := 2) (L1 := [_, _]) rfl rfl (by rw [hB]; decide) rfl (by simp only [List.all_cons, List.all_nil, lw, iB, Bool.and_true]; rfl) ?_
         refine aj hP hN rfl ?_
         iterate 2 (refine ad rfl fun K0 Y => ?_; simp only [zE, op1, ev, lkp, ah, ag, ev, reduceCtorEq, G, E, J, V, M, U, Tryd.el75, Tryd.td75, Mpr.av, b8, List.length_replicate]; refine Y _ ?_; clear Y K0; simp only [put, app, a9, af, zE, zS, E])
         refine ai ?_
         refine hK28 _ ?_; clear hK28; refine ae [1, 2, 4, 5, 6, 9, 10, 12, 13, 65, 66, 67] ?_; simp only [Z, lkp, zE, reduceCtorEq, G, a8, E]
         refine aj hP hN rfl ?_
         iterate 3 (refine ad rfl fun K0 Y => ?_; simp only [zE, op1, ev, lkp, ah, ag, aC, aD, aE, ao, aB, aR, reduceCtorEq, G, E, J, V, M, U, Tryd.td3, Mpr.av, b8, List.length_replicate]; (repeat refine And.intro (by first | omega | assumption | exact rfl) ?_); refine Y _ ?_; clear Y K0; simp only [put, app, a9, af, zE, zS, E])
         refine ai ?_
         refine ⟨_, _, ?_, aS [1, 2, 4, 5, 6, 9, 10, 12], j, by omega, rfl, rfl⟩
         omega
      ·(try simp only [zB, reduceCtorEq] at hc27)
       refine bK ?_
       refine hK22 _ ?_; clear hK22; refine ae [1, 2, 4, 5, 6, 9, 10, 12, 52] ?_; simp only [Z, lkp, zE, reduceCtorEq, G, a8, E]
       refine aa fun K47 hK47 => ?_
       refine aa fun K48 hK48 => ?_
       obtain rfl : k = 0 := by omega
       rw [List.drop_zero]
       have hcnl := fB p w
       refine aj hP hN rfl ?_
       iterate 6 (refine ad rfl fun K0 Y => ?_; simp only [zE, op1, ev, lkp, ah, ag, am, ay, Nat.mul_one, aw, ax, acs, Ty.dflt, zG, aq, aI, Ty.size, ne_eq, not_false_eq_true, Int.natCast_one, Int.mul_one, dR, reduceCtorEq, G, E, J, V, M, U, Tryd.el75, Tryd.st24, Tryd.td2, Tryd.td24, Tryd.td3, Tryd.td4, Tryd.td75, Mpr.av, b8, List.length_replicate]; (repeat refine And.intro (by first | omega | assumption | exact rfl) ?_); refine Y _ ?_; clear Y K0; simp only [put, app, a9, af, zE, zS, E])
       refine ai ?_
       refine hK48 _ ?_; clear hK48; refine ae [1, 2, 4, 5, 6, 9, 10, 12, 52, 125] ?_; simp only [Z, lkp, zE, reduceCtorEq, G, a8, E]
       refine aG (by simp only [ev, Z, lkp, zE, reduceCtorEq, G, a8, E]; exact rfl) (fun hc49 => ?_) (fun hc49 => ?_)
       ·(try simp only [zB, reduceCtorEq] at hc49)
        have hcn : (cnP p w).getD p.st.toNat false = false := by simpa using hc49
        refine aa fun K50 hK50 => ?_
        refine aj hP hN rfl ?_
        iterate 3 (refine ad rfl fun K0 Y => ?_; simp only [zE, op1, ev, lkp, ah, ag, ev, reduceCtorEq, G, E, J, V, M, U, Tryd.el25, Tryd.td25, Tryd.td26, Tryd.td4, Mpr.av, b8, List.length_replicate]; refine Y _ ?_; clear Y K0; simp only [put, app, a9, af, zE, zS, E])
        refine ai ?_
        refine hK50 _ ?_; clear hK50; refine ae [1, 2, 4, 5, 6, 9, 10, 12, 52, 125] ?_; simp only [Z, lkp, zE, reduceCtorEq, G, a8, E]
        refine aP ?_
        refine ⟨by first | exact .inl rfl | exact .inr rfl, _, rfl, ?_⟩; simp only [fzV, fz1, fzC, List.map_cons, List.map_nil, Z, lkp, zE, reduceCtorEq, G, a8, E, Mpr.av, b8, List.length_replicate]
        first
        | (have g9 := nL (w := w) (by assumption); obtain ⟨g1, g2, g3⟩ := g9; rw [g1, g2, g3]; exact bl ⟨aM (aH rfl), fun _ _ _ _ _ h => h, fun _ _ _ _ _ h => h, trivial⟩)
        | (have g9 := nX hv (w := w) (by assumption); obtain ⟨g1, g2, g3⟩ := g9; rw [g1, g2, g3]; exact bl ⟨aM (aH rfl), fun _ _ _ _ _ h => h, fun _ _ _ _ _ h => h, trivial⟩)
        | (have g9 := fM hv (w := w) (by omega); obtain ⟨g1, g2, g3⟩ := g9; rw [hcn] at g2 g3; rw [g1, g2, g3]; exact bl ⟨aM (aH rfl), fun _ _ _ _ _ h => h, fun _ _ _ _ _ h => h, trivial⟩)
        | (have g9 := fM hv (w := w) (by omega); obtain ⟨g1, g2, g3⟩ := g9; rw [hcn] at g2 g3; rw [g1, g2, g3]; exact VLE.of_eq (by simp))
       ·(try simp only [zB, reduceCtorEq] at hc49)
        have hcn : (cnP p w).getD p.st.toNat false = true := by simpa using hc49
        refine aJ ?_
        refine hK47 _ ?_; clear hK47; refine ae [1, 2, 4, 5, 6, 9, 10, 12, 52, 125] ?_; simp only [Z, lkp, zE, reduceCtorEq, G, a8, E]
        refine aa fun K51 hK51 => ?_
        refine aj hP hN rfl ?_
        (refine ad rfl fun K0 Y => ?_; simp only [zE, op1, ev, lkp, ah, ag, ay, Nat.mul_one, aw, ax, acs, Ty.dflt, zG, aq, reduceCtorEq, G, E, J, V, M, U, Tryd.st24, Tryd.td24, Mpr.av, b8, List.length_replicate]; (repeat refine And.intro (by first | omega | assumption | exact rfl) ?_); refine Y _ ?_; clear Y K0; simp only [put, app, a9, af, zE, zS, E])
        refine ad rfl fun K0 Y => ?_
        refine bc (h := mY p _) rfl rfl (by first | exact rfl | (simp only [ev, Z, lkp, zE, reduceCtorEq, G, a8, E]; exact rfl)) (by simp only [zE, zG, op1, ev, lkp, ah, ag, au, acs, br, mv1, mvC, Ty.dflt, reduceCtorEq, G, E, J, V, M, U, Mpr.av, b8, List.length_replicate]) ?_
        refine Y _ ?_; clear Y K0; simp only [put, app, a9, af, zE, zS, E]
        (refine ad rfl fun K0 Y => ?_; simp only [zE, op1, ev, lkp, ah, ag, ev, reduceCtorEq, G, E, J, V, M, U, Tryd.td71, Mpr.av, b8, List.length_replicate]; refine Y _ ?_; clear Y K0; simp only [put, app, a9, af, zE, zS, E])
        refine ai ?_
        refine hK51 _ ?_; clear hK51; refine ae [1, 2, 4, 5, 6, 9, 10, 12, 16, 52, 125] ?_; simp only [Z, lkp, zE, reduceCtorEq, G, a8, E]
        refine aa fun K52 hK52 => ?_
        refine aj hP hN rfl ?_
        (refine ad rfl fun K0 Y => ?_; simp only [zE, op1, ev, lkp, ah, ag, ev, reduceCtorEq, G, E, J, V, M, U, Tryd.el25, Tryd.td25, Mpr.av, b8, List.length_replicate]; refine Y _ ?_; clear Y K0; simp only [put, app, a9, af, zE, zS, E])
        refine ai ?_
        refine hK52 _ ?_; clear hK52; refine ae [1, 2, 4, 5, 6, 9, 10, 12, 16, 17, 52, 125] ?_; simp only [Z, lkp, zE, reduceCtorEq, G, a8, E]
        refine aa fun K53 hK53 => ?_
        refine aa fun K54 hK54 => ?_
        refine aj hP hN rfl ?_
        iterate 3 (refine ad rfl fun K0 Y => ?_; simp only [zE, op1, ev, lkp, ah, ag, aF, bu, bh, ba, bb, bq, Nat.div_one, aK, bf, Ty.size, aL, dite_true, reduceCtorEq, G, E, J, V, M, U, Tryd.el25, Tryd.td25, Tryd.td3, Mpr.av, b8, List.length_replicate]; (repeat refine And.intro (by first | omega | assumption | exact rfl) ?_); (first | refine Y _ ?_ | refine Or.inl (Y _ ?_)); clear Y K0; simp only [put, app, a9, af, zE, zS, E])
        refine ai ?_
        refine hK54 _ ?_; clear hK54; refine ae [1, 2, 4, 5, 6, 9, 10, 12, 16, 17, 52, 125, 129, 130] ?_; simp only [Z, lkp, zE, reduceCtorEq, G, a8, E]
        refine aW ?_
        refine cL 17 (.int .i64) 3 (by decide) rfl ?_; simp only [List.length_cons, List.length_nil, List.cons_append, List.nil_append, Nat.zero_add, E]
        refine bM (fun n55 s55 => ∃ (k : Nat) (v : Nat), (k ≤ w.length) ∧ n55 = w.length - k ∧ s55 = { env := [(4, .one .nils), (5, .one (.bool false)), (6, .one (.int .i64 0)), (9, .one (.rwc 1 0)), (16, .one (.ptr 3 0 0 0)), (17, .one (.row 4 v)), (129, .one (.int .i64 (w.length : Int))), (130, .one (.int .i64 (k : Int)))], L := [.vars 24 [.int .i64 p.inp, .int .i64 p.ab, .int .i64 p.st, .list (.list (.int .i64)) p.nx, .list (.list (.int .i64)) p.sy], .rowc 25 1 0 (fcl p w 0), .vars 24 [.int .i64 p.inp, .int .i64 p.ab, .int .i64 p.st, .list (.list (.int .i64)) p.nx, .list (.list (.int .i64)) p.sy], .vars 77 [.int .i64 p.inp, .int .i64 p.ab, .int .i64 p.st, .list (.list (.int .i64)) p.nx, .list (.list (.int .i64)) p.sy, .int .i64 (p.rn p.st ((coW p p.st w).take k))], .row (.int .i64) 3 v ((coW p p.st w).take k)] }) ?_ ?_
        ·exact ⟨_, _, aS [4, 5, 6, 9, 16, 17, 129, 130], 0, 0, Nat.zero_le _, rfl, rfl⟩
        ·rintro n55 s55 ⟨k, v, hk, rfl, rfl⟩
         refine aa fun K56 hK56 => ?_
         refine aj hP hN rfl ?_
         (refine ad rfl fun K0 Y => ?_; simp only [zE, op1, ev, lkp, ah, ag, aC, aD, aE, ao, aB, aR, reduceCtorEq, G, E, J, V, M, U, Tryd.td3, Mpr.av, b8, List.length_replicate]; (repeat refine And.intro (by first | omega | assumption | exact rfl) ?_); refine Y _ ?_; clear Y K0; simp only [put, app, a9, af, zE, zS, E])
         refine ai ?_
         refine hK56 _ ?_; clear hK56; refine ae [4, 5, 6, 9, 16, 17, 129, 130, 131] ?_; simp only [Z, lkp, zE, reduceCtorEq, G, a8, E]
         refine aa fun K57 hK57 => ?_
         refine aG (by simp only [ev, Z, lkp, zE, reduceCtorEq, G, a8, E]; exact rfl) (fun hc58 => ?_) (fun hc58 => ?_)
         ·(try simp only [zB, reduceCtorEq] at hc58)
          refine aJ ?_
          refine hK57 _ ?_; clear hK57; refine ae [4, 5, 6, 9, 16, 17, 129, 130, 131] ?_; simp only [Z, lkp, zE, reduceCtorEq, G, a8, E]
          refine aa fun K59 hK59 => ?_
          refine aW ?_
          refine aa fun K60 hK60 => ?_
          refine aj hP hN rfl ?_
          iterate 2 (refine ad rfl fun K0 Y => ?_; simp only [zE, op1, ev, lkp, ah, ag, ev, reduceCtorEq, G, E, J, V, M, U, Tryd.td3, Mpr.av, b8, List.length_replicate]; refine Y _ ?_; clear Y K0; simp only [put, app, a9, af, zE, zS, E])
          refine ai ?_
          refine hK60 _ ?_; clear hK60; refine ae [4, 5, 6, 9, 16, 17, 18, 129, 130, 131] ?_; simp only [Z, lkp, zE, reduceCtorEq, G, a8, E]
          refine aa fun K61 hK61 => ?_
          have hkw : k < w.length := by omega
          have hk0 := m5 hp ⟨a5, a6⟩ hcn k (by omega)
          obtain ⟨hs1, hs2⟩ := hk0.rg
          have hfl := nU hk0 hkw
          obtain ⟨hrl, hql⟩ := hp.rli hk0.rg
          have hgc := pV (p := p) hkw
          have hfa : (frw p w k).getD (p.rn p.st ((coW p p.st w).take k)).toNat 0 = ((fcV p (cnP p (w.drop (k + 1))) (w.getD k 0) (p.rn p.st ((coW p p.st w).take k)).toNat) : Int) := rk (by omega)
          have hfl := fx p w 0
          have hfw := pT p w k
          refine bW hP hN Tryd.mixed rfl ?_
          iterate 11 (refine ad rfl fun K0 Y => ?_; simp only [zE, op1, ev, lkp, ah, ag, aI, zG, Ty.dflt, Ty.size, Nat.mul_one, ne_eq, not_false_eq_true, Int.natCast_one, Int.mul_one, ay, aw, ax, acs, aq, cO, am, reduceCtorEq, G, E, J, V, M, U, Tryd.el22, Tryd.el25, Tryd.st77, Tryd.td1, Tryd.td22, Tryd.td25, Tryd.td3, Tryd.td71, Tryd.td77, Mpr.av, b8, List.length_replicate, hgc, hfa]; (repeat refine And.intro (by first | omega | assumption | exact rfl) ?_); (first | refine Y _ ?_ | refine Or.inl (Y _ ?_)); clear Y K0; simp only [put, app, a9, af, zE, zS, E])
          refine ai ?_
          refine ⟨by kernel_rfl, ?_⟩
          refine hK61 _ ?_; clear hK61; refine ae [4, 5, 6, 9, 16, 17, 18, 19, 129, 130, 131] ?_; simp only [Z, lkp, zE, reduceCtorEq, G, a8, E]
          refine aa fun K62 hK62 => ?_
          refine aj hP hN rfl ?_
          iterate 2 (refine ad rfl fun K0 Y => ?_; simp only [zE, op1, ev, lkp, ah, ag, ev, reduceCtorEq, G, E, J, V, M, U, Tryd.td3, Tryd.td71, Mpr.av, b8, List.length_replicate]; refine Y _ ?_; clear Y K0; simp only [put, app, a9, af, zE, zS, E])
          refine ad rfl fun K0 Y => ?_
          refine bc (h := mg p (p.rn p.st ((coW p p.st w).take k)) ((fcV p (cnP p (w.drop (k + 1))) (w.getD k 0) (p.rn p.st ((coW p p.st w).take k)).toNat) : Int) hp hk0.rg ⟨by omega, by omega⟩ _ 3 rfl) rfl rfl (by first | exact rfl | (simp only [ev, Z, lkp, zE, reduceCtorEq, G, a8, E]; exact rfl)) (by simp only [zE, zG, op1, ev, lkp, ah, ag, au, acs, br, mv1, mvC, Ty.dflt, reduceCtorEq, G, E, J, V, M, U, Mpr.av, b8, List.length_replicate]) ?_
          refine Y _ ?_; clear Y K0; simp only [put, app, a9, af, zE, zS, E]
          refine ai ?_
          refine hK62 _ ?_; clear hK62; refine ae [4, 5, 6, 9, 16, 17, 18, 19, 129, 130, 131] ?_; simp only [Z, lkp, zE, reduceCtorEq, G, a8, E]
          have hol : ((coW p p.st w).take k).length = k := by rw [List.length_take, eJ]; omega
          refine aj hP hN rfl ?_
          iterate 5 (refine ad rfl fun K0 Y => ?_; simp only [zE, op1, ev, lkp, ah, ag, aV, b9, bJ, rep, aL, aQ, au, Ty.size, aF, bu, bh, ba, bb, bq, Nat.div_one, aK, bf, dite_true, reduceCtorEq, G, E, J, V, M, U, Tryd.el25, Tryd.td1, Tryd.td25, Tryd.td3, Mpr.av, b8, List.length_replicate, hol]; (repeat refine And.intro (by first | omega | assumption | exact rfl) ?_); (first | refine Y _ ?_ | refine Or.inl (Y _ ?_)); clear Y K0; simp only [put, app, a9, af, zE, zS, E])
          refine ai ?_
          refine hK59 _ ?_; clear hK59; refine ae [4, 5, 6, 9, 16, 17, 18, 19, 129, 130, 131] ?_; simp only [Z, lkp, zE, reduceCtorEq, G, a8, E]
          refine aj hP hN rfl ?_
          iterate 2 (refine ad rfl fun K0 Y => ?_; simp only [zE, op1, ev, lkp, ah, ag, aC, aD, aE, ao, aB, aR, reduceCtorEq, G, E, J, V, M, U, Tryd.td3, Mpr.av, b8, List.length_replicate]; (repeat refine And.intro (by first | omega | assumption | exact rfl) ?_); refine Y _ ?_; clear Y K0; simp only [put, app, a9, af, zE, zS, E])
          refine ai ?_
          refine ⟨_, _, ?_, aS [4, 5, 6, 9, 16, 17, 129, 130], k + 1, v + 1, by omega, rfl, ?_⟩
          · omega
          · rw [jN (by rw [eJ]; omega), dL 0 (by rw [eJ]; omega), nN hkw]; rfl
         ·(try simp only [zB, reduceCtorEq] at hc58)
          refine bK ?_
          refine hK53 _ ?_; clear hK53; refine ae [4, 5, 6, 9, 16, 17, 129, 130, 131] ?_; simp only [Z, lkp, zE, reduceCtorEq, G, a8, E]
          refine aa fun K63 hK63 => ?_
          refine ck 4 rfl ?_; simp only [List.map_cons, List.map_nil, zS, G, and_self, and_true, true_and, and_false, false_and, if_true, if_false, eq_self, reduceCtorEq, Nat.one_ne_zero, Nat.zero_ne_one]
          have hkw : k = w.length := by omega
          rw [hkw, List.take_of_length_le (by rw [eJ]; exact Nat.le_refl _)]
          refine aj hP hN rfl ?_
          iterate 4 (refine ad rfl fun K0 Y => ?_; simp only [zE, op1, ev, lkp, ah, ag, ev, reduceCtorEq, G, E, J, V, M, U, Tryd.el25, Tryd.td25, Tryd.td26, Tryd.td4, Mpr.av, b8, List.length_replicate]; refine Y _ ?_; clear Y K0; simp only [put, app, a9, af, zE, zS, E])
          refine ai ?_
          refine hK63 _ ?_; clear hK63; refine ae [4, 5, 6, 9, 16, 17, 129, 130, 131] ?_; simp only [Z, lkp, zE, reduceCtorEq, G, a8, E]
          refine aP ?_
          refine ⟨by first | exact .inl rfl | exact .inr rfl, _, rfl, ?_⟩; simp only [fzV, fz1, fzC, List.map_cons, List.map_nil, Z, lkp, zE, reduceCtorEq, G, a8, E, Mpr.av, b8, List.length_replicate]
          first
          | (have g9 := nL (w := w) (by assumption); obtain ⟨g1, g2, g3⟩ := g9; rw [g1, g2, g3]; exact bl ⟨aM (aH rfl), fun _ _ _ _ _ h => h, fun _ _ _ _ _ h => h, trivial⟩)
          | (have g9 := nX hv (w := w) (by assumption); obtain ⟨g1, g2, g3⟩ := g9; rw [g1, g2, g3]; exact bl ⟨aM (aH rfl), fun _ _ _ _ _ h => h, fun _ _ _ _ _ h => h, trivial⟩)
          | (have g9 := fM hv (w := w) (by omega); obtain ⟨g1, g2, g3⟩ := g9; rw [hcn] at g2 g3; rw [g1, g2, g3]; exact bl ⟨aM (aH rfl), fun _ _ _ _ _ h => h, fun _ _ _ _ _ h => h, trivial⟩)
          | (have g9 := fM hv (w := w) (by omega); obtain ⟨g1, g2, g3⟩ := g9; rw [hcn] at g2 g3; rw [g1, g2, g3]; exact VLE.of_eq (by simp))
end Go.Proofs.YtgmgnkmgofkfpaaDoor
namespace Go.Proofs.YtgmgnkmgofkfpaaDoor
open Go Go.AV
open Nat renaming reduceEqDiff → G, reduceAdd → E, reduceLeDiff → J, reduceLT → V, reduceMul → M, reduceSub → U
open List renaming set_cons_zero → aA, set_cons_succ → az
set_option maxRecDepth 100000 in
theorem mw (xs ys : List (List Int)) : ch Tryd.prog 34 [.one (.list (.list (.int .i64)) xs), .one (.list (.list (.int .i64)) ys)] (.one (.bool (decide (xs = ys)))) := by
 refine bp Tryd.func34 rfl (by kernel_rfl) (Nat.le_of_ble_eq_true rfl) rfl fun C hP hN hB => ?_
 replace hN : C.N = 27 := hN
 simp only [a8, E]
 refine gX 0 rfl fun hf0 => ?_; simp only [lkp, if_true, if_false, reduceCtorEq, G, eq_self, Nat.one_ne_zero, Nat.zero_ne_one, kA, jR, jo, Fit, and_true, implies_true, true_and] at hf0
 refine aa fun K1 hK1 => ?_
 refine aj hP hN rfl ?_
 (refine ad rfl fun K0 Y => ?_; simp only [zE, op1, ev, lkp, ah, ag, ev, reduceCtorEq, G, E, J, V, M, U, Tryd.td4]; refine Y _ ?_; clear Y K0; simp only [put, app, a9, af, zE, zS, E])
 refine ai ?_
 refine hK1 _ ?_; clear hK1; refine ae [0, 1, 4] ?_; simp only [Z, lkp, zE, reduceCtorEq, G, a8, E]
 refine aa fun K2 hK2 => ?_
 refine aa fun K3 hK3 => ?_
 refine aj hP hN rfl ?_
 iterate 5 (refine ad rfl fun K0 Y => ?_; simp only [zE, op1, ev, lkp, ah, ag, aF, bu, bh, ba, bb, bq, Nat.div_one, aK, bf, Ty.size, aL, dite_true, aC, aD, aE, ao, aB, aR, reduceCtorEq, G, E, J, V, M, U, Tryd.el22, Tryd.td22, Tryd.td3, Tryd.td4]; (repeat refine And.intro (by first | omega | assumption | exact rfl) ?_); (first | refine Y _ ?_ | refine Or.inl (Y _ ?_)); clear Y K0; simp only [put, app, a9, af, zE, zS, E])
 refine ai ?_
 refine hK3 _ ?_; clear hK3; refine ae [0, 1, 4, 10] ?_; simp only [Z, lkp, zE, reduceCtorEq, G, a8, E]
 refine aG (by simp only [ev, Z, lkp, zE, reduceCtorEq, G, a8, E]; exact rfl) (fun hc4 => ?_) (fun hc4 => ?_)
 ·(try simp only [zB, reduceCtorEq] at hc4)
  refine aa fun K5 hK5 => ?_
  refine aj hP hN rfl ?_
  (refine ad rfl fun K0 Y => ?_; simp only [zE, op1, ev, lkp, ah, ag, ev, reduceCtorEq, G, E, J, V, M, U, Tryd.td4]; refine Y _ ?_; clear Y K0; simp only [put, app, a9, af, zE, zS, E])
  refine ai ?_
  refine hK5 _ ?_; clear hK5; refine ae [0, 1, 4, 10] ?_; simp only [Z, lkp, zE, reduceCtorEq, G, a8, E]
  refine aP ?_
  refine ⟨by first | exact .inl rfl | exact .inr rfl, _, rfl, ?_⟩; simp only [fzV, fz1, fzC, List.map_cons, List.map_nil, Z, lkp, zE, reduceCtorEq, G, a8, E]
  refine VLE.of_eq ?_
  first
  | (refine dj ?_; rintro rfl; first | exact absurd rfl ‹¬ _› | omega)
  | (refine dD ?_; have hk1 : k = xs.length := by omega
     have hk2 : k = ys.length := by omega
     rw [hk1, List.take_length, ← hk1, hk2, List.take_length] at hT; exact hT)
 ·(try simp only [zB, reduceCtorEq] at hc4)
  refine aJ ?_
  refine hK2 _ ?_; clear hK2; refine ae [0, 1, 4, 10] ?_; simp only [Z, lkp, zE, reduceCtorEq, G, a8, E]
  refine aa fun K6 hK6 => ?_
  refine aa fun K7 hK7 => ?_
  refine aj hP hN rfl ?_
  (refine ad rfl fun K0 Y => ?_; simp only [zE, op1, ev, lkp, ah, ag, ev, reduceCtorEq, G, E, J, V, M, U, Tryd.td3]; refine Y _ ?_; clear Y K0; simp only [put, app, a9, af, zE, zS, E])
  refine ai ?_
  refine hK7 _ ?_; clear hK7; refine ae [0, 1, 4, 5, 10] ?_; simp only [Z, lkp, zE, reduceCtorEq, G, a8, E]
  refine aW ?_
  refine bM (fun n8 s8 => ∃ (k : Nat), (k ≤ xs.length) ∧ (xs.take k = ys.take k) ∧ n8 = xs.length - k ∧ s8 = { env := [(0, .one (.list (.list (.int .i64)) xs)), (1, .one (.list (.list (.int .i64)) ys)), (5, .one (.int .i64 (k : Int)))], L := [] }) ?_ ?_
  ·exact ⟨_, _, aS [0, 1, 5], 0, Nat.zero_le _, rfl, rfl, rfl⟩
  ·rintro n8 s8 ⟨k, hk, hT, rfl, rfl⟩
   refine aa fun K9 hK9 => ?_
   refine aa fun K10 hK10 => ?_
   refine aj hP hN rfl ?_
   iterate 4 (refine ad rfl fun K0 Y => ?_; simp only [zE, op1, ev, lkp, ah, ag, aF, bu, bh, ba, bb, bq, Nat.div_one, aK, bf, Ty.size, aL, dite_true, aC, aD, aE, ao, aB, aR, reduceCtorEq, G, E, J, V, M, U, Tryd.el22, Tryd.td22, Tryd.td3, Tryd.td4]; (repeat refine And.intro (by first | omega | assumption | exact rfl) ?_); (first | refine Y _ ?_ | refine Or.inl (Y _ ?_)); clear Y K0; simp only [put, app, a9, af, zE, zS, E])
   refine ai ?_
   refine hK10 _ ?_; clear hK10; refine ae [0, 1, 5, 14] ?_; simp only [Z, lkp, zE, reduceCtorEq, G, a8, E]
   refine aG (by simp only [ev, Z, lkp, zE, reduceCtorEq, G, a8, E]; exact rfl) (fun hc11 => ?_) (fun hc11 => ?_)
   ·(try simp only [zB, reduceCtorEq] at hc11)
    refine aJ ?_
    refine hK9 _ ?_; clear hK9; refine ae [0, 1, 5, 14] ?_; simp only [Z, lkp, zE, reduceCtorEq, G, a8, E]
    refine aa fun K12 hK12 => ?_
    refine aW ?_
    refine aa fun K13 hK13 => ?_
    refine bW hP hN Tryd.mixed rfl ?_
    iterate 8 (refine ad rfl fun K0 Y => ?_; simp only [zE, op1, ev, lkp, ah, ag, aI, zG, Ty.dflt, Ty.size, Nat.mul_one, ne_eq, not_false_eq_true, Int.natCast_one, Int.mul_one, ay, aw, ax, acs, aq, reduceCtorEq, G, E, J, V, M, U, Tryd.el22, Tryd.el25, Tryd.td22, Tryd.td25, Tryd.td3]; (repeat refine And.intro (by first | omega | assumption | exact rfl) ?_); refine Y _ ?_; clear Y K0; simp only [put, app, a9, af, zE, zS, E])
    refine ad rfl fun K0 Y => ?_
    refine bc (h := aU (ja (xs.getD k []) (ys.getD k []))) rfl rfl (by first | exact rfl | (simp only [ev, Z, lkp, zE, reduceCtorEq, G, a8, E]; exact rfl)) (by simp only [zE, zG, op1, ev, lkp, ah, ag, au, acs, br, mv1, mvC, Ty.dflt, reduceCtorEq, G, E, J, V, M, U]) ?_
    refine Y _ ?_; clear Y K0; simp only [put, app, a9, af, zE, zS, E]
    (refine ad rfl fun K0 Y => ?_; simp only [zE, op1, ev, lkp, ah, ag, dR, reduceCtorEq, G, E, J, V, M, U, Tryd.td4]; (repeat refine And.intro (by first | omega | assumption | exact rfl) ?_); refine Y _ ?_; clear Y K0; simp only [put, app, a9, af, zE, zS, E])
    refine ai ?_
    refine ⟨by kernel_rfl, ?_⟩
    refine hK13 _ ?_; clear hK13; refine ae [0, 1, 5, 14, 26] ?_; simp only [Z, lkp, zE, reduceCtorEq, G, a8, E]
    refine aG (by simp only [ev, Z, lkp, zE, reduceCtorEq, G, a8, E]; exact rfl) (fun hc14 => ?_) (fun hc14 => ?_)
    ·(try simp only [zB, reduceCtorEq] at hc14)
     refine aa fun K15 hK15 => ?_
     refine aj hP hN rfl ?_
     (refine ad rfl fun K0 Y => ?_; simp only [zE, op1, ev, lkp, ah, ag, ev, reduceCtorEq, G, E, J, V, M, U, Tryd.td4]; refine Y _ ?_; clear Y K0; simp only [put, app, a9, af, zE, zS, E])
     refine ai ?_
     refine hK15 _ ?_; clear hK15; refine ae [0, 1, 4, 5, 14, 26] ?_; simp only [Z, lkp, zE, reduceCtorEq, G, a8, E]
     refine aP ?_
     refine ⟨by first | exact .inl rfl | exact .inr rfl, _, rfl, ?_⟩; simp only [fzV, fz1, fzC, List.map_cons, List.map_nil, Z, lkp, zE, reduceCtorEq, G, a8, E]
     refine VLE.of_eq ?_
     first
     | (refine dj ?_; rintro rfl; first | exact absurd rfl ‹¬ _› | omega)
     | (refine dD ?_; have hk1 : k = xs.length := by omega
        have hk2 : k = ys.length := by omega
        rw [hk1, List.take_length, ← hk1, hk2, List.take_length] at hT; exact hT)
    ·(try simp only [zB, reduceCtorEq] at hc14)
     refine aJ ?_
     refine hK12 _ ?_; clear hK12; refine ae [0, 1, 5, 14, 26] ?_; simp only [Z, lkp, zE, reduceCtorEq, G, a8, E]
     refine aj hP hN rfl ?_
     iterate 3 (refine ad rfl fun K0 Y => ?_; simp only [zE, op1, ev, lkp, ah, ag, aC, aD, aE, ao, aB, aR, reduceCtorEq, G, E, J, V, M, U, Tryd.td3]; (repeat refine And.intro (by first | omega | assumption | exact rfl) ?_); refine Y _ ?_; clear Y K0; simp only [put, app, a9, af, zE, zS, E])
     refine ai ?_
     refine ⟨_, _, ?_, aS [0, 1, 5], k + 1, by omega, gh (d := []) hT (by omega) (by omega) ?_, rfl, rfl⟩
     · omega
     · first | assumption | omega
   ·(try simp only [zB, reduceCtorEq] at hc11)
    refine bK ?_
    refine hK6 _ ?_; clear hK6; refine ae [0, 1, 5, 14] ?_; simp only [Z, lkp, zE, reduceCtorEq, G, a8, E]
    refine aa fun K16 hK16 => ?_
    refine aj hP hN rfl ?_
    (refine ad rfl fun K0 Y => ?_; simp only [zE, op1, ev, lkp, ah, ag, ev, reduceCtorEq, G, E, J, V, M, U, Tryd.td4]; refine Y _ ?_; clear Y K0; simp only [put, app, a9, af, zE, zS, E])
    refine ai ?_
    refine hK16 _ ?_; clear hK16; refine ae [0, 1, 4, 5, 14] ?_; simp only [Z, lkp, zE, reduceCtorEq, G, a8, E]
    refine aP ?_
    refine ⟨by first | exact .inl rfl | exact .inr rfl, _, rfl, ?_⟩; simp only [fzV, fz1, fzC, List.map_cons, List.map_nil, Z, lkp, zE, reduceCtorEq, G, a8, E]
    refine VLE.of_eq ?_
    first
    | (refine dj ?_; rintro rfl; first | exact absurd rfl ‹¬ _› | omega)
    | (refine dD ?_; have hk1 : k = xs.length := by omega
       have hk2 : k = ys.length := by omega
       rw [hk1, List.take_length, ← hk1, hk2, List.take_length] at hT; exact hT)
end Go.Proofs.YtgmgnkmgofkfpaaDoor
namespace Go.Proofs.YtgmgnkmgofkfpaaDoor
open Go Go.AV
open Nat renaming reduceEqDiff → G, reduceAdd → E, reduceLeDiff → J, reduceLT → V, reduceMul → M, reduceSub → U
open List renaming set_cons_zero → aA, set_cons_succ → az
set_option maxRecDepth 100000 in
theorem lU (m n : Mly) : ch Tryd.prog 24 [m.av, n.av] (.one (.bool (jD m n))) := by
 refine bp Tryd.func24 rfl (by kernel_rfl) (Nat.le_of_ble_eq_true rfl) rfl fun C hP hN hB => ?_
 replace hN : C.N = 31 := hN
 simp only [a8, E]
 refine aa fun K1 hK1 => ?_
 refine aj hP hN rfl ?_
 iterate 3 (refine ad rfl fun K0 Y => ?_; simp only [zE, op1, ev, lkp, ah, ag, cA, au, reduceCtorEq, G, E, J, V, M, U, Tryd.st47, Tryd.td4, Tryd.td47, Mly.av]; (repeat refine And.intro (by first | omega | assumption | exact rfl) ?_); refine Y _ ?_; clear Y K0; simp only [put, app, a9, af, zE, zS, E])
 refine ai ?_
 refine hK1 _ ?_; clear hK1; refine ae [0, 1, 2, 3, 4] ?_; simp only [Z, lkp, zE, reduceCtorEq, G, a8, E]
 refine aa fun K2 hK2 => ?_
 refine aj hP hN rfl ?_
 iterate 5 (refine ad rfl fun K0 Y => ?_; simp only [zE, op1, ev, lkp, ah, ag, am, ay, Nat.mul_one, aw, ax, acs, Ty.dflt, zG, aq, aC, aD, aE, ao, aB, aR, reduceCtorEq, G, E, J, V, M, U, Tryd.st47, Tryd.td3, Tryd.td4, Tryd.td47, Mly.av]; (repeat refine And.intro (by first | omega | assumption | exact rfl) ?_); refine Y _ ?_; clear Y K0; simp only [put, app, a9, af, zE, zS, E])
 (refine ad rfl fun K0 Y => ?_; simp only [zE, op1, ev, lkp, ah, ag, ev, reduceCtorEq, G, E, J, V, M, U, Tryd.td4, Mly.av]; refine Y _ ?_; clear Y K0; simp only [put, app, a9, af, zE, zS, E])
 refine' aY (want := true) 5 rfl (m := 10) (by simp only [Z, lkp, zE, reduceCtorEq, G, a8, E]; exact rfl) (by kernel_rfl) rfl rfl rfl rfl rfl (fun hg3 => ?a3) ?b3 ?c3
 case a3 =>
  have hq3 := hg3; (try simp only [zB, reduceCtorEq] at hg3); simp only [List.take_succ_cons, List.take_zero, List.cons_append, List.nil_append]
  (refine ar rfl fun K0 Y => ?_; simp only [zE, op1, ev, lkp, ah, ag, am, reduceCtorEq, G, E, J, V, M, U, Tryd.st47, Tryd.td1, Tryd.td47, Mly.av]; (repeat refine And.intro (by first | omega | assumption | exact rfl) ?_); refine Y _ ?_; clear Y K0; simp only [put, app, a9, af, zE, zS, E])
  (refine ar rfl fun K0 Y => ?_; simp only [zE, op1, ev, lkp, ah, ag, ay, Nat.mul_one, aw, ax, acs, Ty.dflt, zG, aq, reduceCtorEq, G, E, J, V, M, U, Tryd.td3, Mly.av]; (repeat refine And.intro (by first | omega | assumption | exact rfl) ?_); refine Y _ ?_; clear Y K0; simp only [put, app, a9, af, zE, zS, E])
  (refine ar rfl fun K0 Y => ?_; simp only [zE, op1, ev, lkp, ah, ag, am, reduceCtorEq, G, E, J, V, M, U, Tryd.st47, Tryd.td1, Tryd.td47, Mly.av]; (repeat refine And.intro (by first | omega | assumption | exact rfl) ?_); refine Y _ ?_; clear Y K0; simp only [put, app, a9, af, zE, zS, E])
  (refine ar rfl fun K0 Y => ?_; simp only [zE, op1, ev, lkp, ah, ag, ay, Nat.mul_one, aw, ax, acs, Ty.dflt, zG, aq, reduceCtorEq, G, E, J, V, M, U, Tryd.td3, Mly.av]; (repeat refine And.intro (by first | omega | assumption | exact rfl) ?_); refine Y _ ?_; clear Y K0; simp only [put, app, a9, af, zE, zS, E])
  (refine ar rfl fun K0 Y => ?_; simp only [zE, op1, ev, lkp, ah, ag, aC, aD, aE, ao, aB, aR, reduceCtorEq, G, E, J, V, M, U, Tryd.td3, Tryd.td4, Mly.av]; (repeat refine And.intro (by first | omega | assumption | exact rfl) ?_); refine Y _ ?_; clear Y K0; simp only [put, app, a9, af, zE, zS, E])
  (refine ad rfl fun K0 Y => ?_; simp only [zE, op1, ev, lkp, ah, ag, bt, reduceCtorEq, G, E, J, V, M, U, Tryd.td4, Mly.av]; refine Y _ ?_; clear Y K0; simp only [put, app, a9, af, zE, zS, E])
  refine ai ?_
  refine ⟨by simp only [Z, lkp, zE, reduceCtorEq, G, a8, E]; exact rfl, rfl, ?_, rfl⟩; (repeat refine aZ rfl ?_); exact bz (by exact rfl) hq3
 case b3 => exact bv (by first | rfl | (simp [bV]; done) | decide)
 simp only [bj, bg]
 (refine ad rfl fun K0 Y => ?_; simp only [zE, op1, ev, lkp, ah, ag, ev, reduceCtorEq, G, E, J, V, M, U, Tryd.td4, Mly.av]; refine Y _ ?_; clear Y K0; simp only [put, app, a9, af, zE, zS, E])
 refine' aY (want := true) 5 rfl (m := 17) (by simp only [Z, lkp, zE, reduceCtorEq, G, a8, E]; exact rfl) (by kernel_rfl) rfl rfl rfl rfl rfl (fun hg4 => ?a4) ?b4 ?c4
 case a4 =>
  have hq4 := hg4; (try simp only [zB, reduceCtorEq] at hg4); simp only [List.take_succ_cons, List.take_zero, List.cons_append, List.nil_append]
  (refine ar rfl fun K0 Y => ?_; simp only [zE, op1, ev, lkp, ah, ag, am, reduceCtorEq, G, E, J, V, M, U, Tryd.st47, Tryd.td2, Tryd.td47, Mly.av]; (repeat refine And.intro (by first | omega | assumption | exact rfl) ?_); refine Y _ ?_; clear Y K0; simp only [put, app, a9, af, zE, zS, E])
  (refine ar rfl fun K0 Y => ?_; simp only [zE, op1, ev, lkp, ah, ag, ay, Nat.mul_one, aw, ax, acs, Ty.dflt, zG, aq, reduceCtorEq, G, E, J, V, M, U, Tryd.el22, Tryd.td22, Mly.av]; (repeat refine And.intro (by first | omega | assumption | exact rfl) ?_); refine Y _ ?_; clear Y K0; simp only [put, app, a9, af, zE, zS, E])
  (refine ar rfl fun K0 Y => ?_; simp only [zE, op1, ev, lkp, ah, ag, am, reduceCtorEq, G, E, J, V, M, U, Tryd.st47, Tryd.td2, Tryd.td47, Mly.av]; (repeat refine And.intro (by first | omega | assumption | exact rfl) ?_); refine Y _ ?_; clear Y K0; simp only [put, app, a9, af, zE, zS, E])
  (refine ar rfl fun K0 Y => ?_; simp only [zE, op1, ev, lkp, ah, ag, ay, Nat.mul_one, aw, ax, acs, Ty.dflt, zG, aq, reduceCtorEq, G, E, J, V, M, U, Tryd.el22, Tryd.td22, Mly.av]; (repeat refine And.intro (by first | omega | assumption | exact rfl) ?_); refine Y _ ?_; clear Y K0; simp only [put, app, a9, af, zE, zS, E])
  refine ar rfl fun K0 Y => ?_
  refine bc (h := aU (mw m.nx n.nx)) rfl rfl (by first | exact rfl | (simp only [ev, Z, lkp, zE, reduceCtorEq, G, a8, E]; exact rfl)) (by simp only [zE, zG, op1, ev, lkp, ah, ag, au, acs, br, mv1, mvC, Ty.dflt, reduceCtorEq, G, E, J, V, M, U, Mly.av]) ?_
  refine Y _ ?_; clear Y K0; simp only [put, app, a9, af, zE, zS, E]
  (refine ad rfl fun K0 Y => ?_; simp only [zE, op1, ev, lkp, ah, ag, bt, reduceCtorEq, G, E, J, V, M, U, Tryd.td4, Mly.av]; refine Y _ ?_; clear Y K0; simp only [put, app, a9, af, zE, zS, E])
  refine ai ?_
  refine ⟨by simp only [Z, lkp, zE, reduceCtorEq, G, a8, E]; exact rfl, rfl, ?_, rfl⟩; (repeat refine aZ rfl ?_); exact bz (by exact rfl) hq4
 case b4 => exact bv (by first | rfl | (simp [bV]; done) | decide)
 simp only [bj, bg]
 (refine ad rfl fun K0 Y => ?_; simp only [zE, op1, ev, lkp, ah, ag, ev, reduceCtorEq, G, E, J, V, M, U, Tryd.td4, Mly.av]; refine Y _ ?_; clear Y K0; simp only [put, app, a9, af, zE, zS, E])
 refine' aY (want := true) 5 rfl (m := 24) (by simp only [Z, lkp, zE, reduceCtorEq, G, a8, E]; exact rfl) (by kernel_rfl) rfl rfl rfl rfl rfl (fun hg5 => ?a5) ?b5 ?c5
 case a5 =>
  have hq5 := hg5; (try simp only [zB, reduceCtorEq] at hg5); simp only [List.take_succ_cons, List.take_zero, List.cons_append, List.nil_append]
  (refine ar rfl fun K0 Y => ?_; simp only [zE, op1, ev, lkp, ah, ag, am, reduceCtorEq, G, E, J, V, M, U, Tryd.st47, Tryd.td3, Tryd.td47, Mly.av]; (repeat refine And.intro (by first | omega | assumption | exact rfl) ?_); refine Y _ ?_; clear Y K0; simp only [put, app, a9, af, zE, zS, E])
  (refine ar rfl fun K0 Y => ?_; simp only [zE, op1, ev, lkp, ah, ag, ay, Nat.mul_one, aw, ax, acs, Ty.dflt, zG, aq, reduceCtorEq, G, E, J, V, M, U, Tryd.el22, Tryd.td22, Mly.av]; (repeat refine And.intro (by first | omega | assumption | exact rfl) ?_); refine Y _ ?_; clear Y K0; simp only [put, app, a9, af, zE, zS, E])
  (refine ar rfl fun K0 Y => ?_; simp only [zE, op1, ev, lkp, ah, ag, am, reduceCtorEq, G, E, J, V, M, U, Tryd.st47, Tryd.td3, Tryd.td47, Mly.av]; (repeat refine And.intro (by first | omega | assumption | exact rfl) ?_); refine Y _ ?_; clear Y K0; simp only [put, app, a9, af, zE, zS, E])
  (refine ar rfl fun K0 Y => ?_; simp only [zE, op1, ev, lkp, ah, ag, ay, Nat.mul_one, aw, ax, acs, Ty.dflt, zG, aq, reduceCtorEq, G, E, J, V, M, U, Tryd.el22, Tryd.td22, Mly.av]; (repeat refine And.intro (by first | omega | assumption | exact rfl) ?_); refine Y _ ?_; clear Y K0; simp only [put, app, a9, af, zE, zS, E])
  refine ar rfl fun K0 Y => ?_
  refine bc (h := aU (mw m.ot n.ot)) rfl rfl (by first | exact rfl | (simp only [ev, Z, lkp, zE, reduceCtorEq, G, a8, E]; exact rfl)) (by simp only [zE, zG, op1, ev, lkp, ah, ag, au, acs, br, mv1, mvC, Ty.dflt, reduceCtorEq, G, E, J, V, M, U, Mly.av]) ?_
  refine Y _ ?_; clear Y K0; simp only [put, app, a9, af, zE, zS, E]
  (refine ad rfl fun K0 Y => ?_; simp only [zE, op1, ev, lkp, ah, ag, bt, reduceCtorEq, G, E, J, V, M, U, Tryd.td4, Mly.av]; refine Y _ ?_; clear Y K0; simp only [put, app, a9, af, zE, zS, E])
  refine ai ?_
  refine ⟨by simp only [Z, lkp, zE, reduceCtorEq, G, a8, E]; exact rfl, rfl, ?_, rfl⟩; (repeat refine aZ rfl ?_); exact bz (by exact rfl) hq5
 case b5 => exact bv (by first | rfl | (simp [bV]; done) | decide)
 simp only [bj, bg]
 (refine ad rfl fun K0 Y => ?_; simp only [zE, op1, ev, lkp, ah, ag, ev, reduceCtorEq, G, E, J, V, M, U, Tryd.td4, Mly.av]; refine Y _ ?_; clear Y K0; simp only [put, app, a9, af, zE, zS, E])
 refine ai ?_
 refine hK2 _ ?_; clear hK2; refine ae [0, 1, 2, 3, 4] ?_; simp only [Z, lkp, zE, reduceCtorEq, G, a8, E]
 refine aP ?_
 refine ⟨by first | exact .inl rfl | exact .inr rfl, _, rfl, ?_⟩; simp only [fzV, fz1, fzC, List.map_cons, List.map_nil, Z, lkp, zE, reduceCtorEq, G, a8, E, Mly.av]
 refine VLE.of_eq ?_
 rfl
end Go.Proofs.YtgmgnkmgofkfpaaDoor
